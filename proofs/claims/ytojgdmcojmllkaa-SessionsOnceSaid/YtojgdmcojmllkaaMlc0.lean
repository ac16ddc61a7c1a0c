/- What functions' texts ask of their ends, told over values that have names; printed by a program of this work. -/
import Derived.Test.YtojgdmcojmllkaaFw
import Derived.Test.YtojgdmcojmllkaaProg
namespace Go.Proofs.Ytojgdmcojmllkaa.M
open Go.Proofs.Ytojgdmcojmllkaa.F
set_option linter.unusedVariables false
set_option maxRecDepth 100000
/-! ### headgate/headgatelaw28.SessionsOnce -/
def m5_33 (R : VP) (t4 : Value) (w : World) : Prop :=
  R t4 w
def m5_26 (R : VP) (K1 : (Value × Value) → World → Prop) (K2 : (Value × Value) → World → Prop) (K3 : (Value × Value) → World → Prop) (l1 all6 n8 used9 i10 k11 is12 j13 : Value) (w : World) : Prop :=
  valP Try.prog (binS BinOp.add 3 (Operand.tmp 64) (Operand.const (Value.int IntKind.i64 1)) j13 (Value.int IntKind.i64 1)) w fun t65 w =>
  K3 (is12, t65) w
def m5_28 (R : VP) (K1 : (Value × Value) → World → Prop) (K2 : (Value × Value) → World → Prop) (K3 : (Value × Value) → World → Prop) (l1 all6 n8 used9 i10 k11 j13 : Value) (w : World) : Prop :=
  m5_26 R K1 K2 K3 l1 all6 n8 used9 i10 k11 (Value.bool true) j13 w
def m5_27 (R : VP) (K1 : (Value × Value) → World → Prop) (K2 : (Value × Value) → World → Prop) (K3 : (Value × Value) → World → Prop) (l1 all6 n8 used9 i10 k11 is12 j13 t99 : Value) (w : World) : Prop :=
  condP t99
  (valP Try.prog (Instr.indexAt 52 used9 j13) w fun t102 w =>
  unitP Try.prog (Instr.storeAt 4 t102 (Value.bool true)) w fun _ w =>
  m5_28 R K1 K2 K3 l1 all6 n8 used9 i10 k11 j13 w)
  (m5_26 R K1 K2 K3 l1 all6 n8 used9 i10 k11 is12 j13 w)
def m5_25 (R : VP) (K1 : (Value × Value) → World → Prop) (K2 : (Value × Value) → World → Prop) (K3 : (Value × Value) → World → Prop) (l1 all6 n8 used9 i10 k11 is12 j13 : Value) (w : World) : Prop :=
  valQ Try.prog (Instr.indexAt 52 used9 j13) w fun t68 =>
  valQ Try.prog (Instr.loadAt 4 t68) w fun t69 =>
  valQ Try.prog (Op.unary UnOp.not t69) w fun t70 =>
  condP t70
  (valQ Try.prog (Instr.indexAt 44 l1 j13) w fun t74 =>
  valQ Try.prog (Instr.fieldAt 54 t74 0) w fun t75 =>
  valQ Try.prog (Instr.loadAt 3 t75) w fun t76 =>
  valQ Try.prog (Instr.indexAt 24 all6 i10) w fun t79 =>
  valQ Try.prog (Instr.fieldAt 33 t79 0) w fun t80 =>
  valQ Try.prog (Instr.loadAt 3 t80) w fun t81 =>
  valQ Try.prog (binS BinOp.eql 3 (Operand.tmp 76) (Operand.tmp 81) t76 t81) w fun t82 =>
  pickP t70 t82 (Value.bool false) fun t83 =>
  condP t83
  (valQ Try.prog (Instr.indexAt 44 l1 j13) w fun t87 =>
  valQ Try.prog (Instr.fieldAt 54 t87 1) w fun t88 =>
  valQ Try.prog (Instr.loadAt 28 t88) w fun t89 =>
  valQ Try.prog (Instr.indexAt 24 all6 i10) w fun t92 =>
  valQ Try.prog (Instr.fieldAt 33 t92 1) w fun t93 =>
  valQ Try.prog (Instr.loadAt 31 t93) w fun t94 =>
  valQ Try.prog (Instr.indexAt 31 t94 k11) w fun t96 =>
  valQ Try.prog (Instr.loadAt 28 t96) w fun t97 =>
  valQ Try.prog (binS BinOp.eql 28 (Operand.tmp 89) (Operand.tmp 97) t89 t97) w fun t98 =>
  pickP t83 t98 (Value.bool false) fun t99 =>
  anyDraw w fun w =>
  m5_27 R K1 K2 K3 l1 all6 n8 used9 i10 k11 is12 j13 t99 w)
  (pickP t83 undef (Value.bool false) fun t99 =>
  anyDraw w fun w =>
  m5_27 R K1 K2 K3 l1 all6 n8 used9 i10 k11 is12 j13 t99 w))
  (pickP t70 undef (Value.bool false) fun t83 =>
  condP t83
  (valQ Try.prog (Instr.indexAt 44 l1 j13) w fun t87 =>
  valQ Try.prog (Instr.fieldAt 54 t87 1) w fun t88 =>
  valQ Try.prog (Instr.loadAt 28 t88) w fun t89 =>
  valQ Try.prog (Instr.indexAt 24 all6 i10) w fun t92 =>
  valQ Try.prog (Instr.fieldAt 33 t92 1) w fun t93 =>
  valQ Try.prog (Instr.loadAt 31 t93) w fun t94 =>
  valQ Try.prog (Instr.indexAt 31 t94 k11) w fun t96 =>
  valQ Try.prog (Instr.loadAt 28 t96) w fun t97 =>
  valQ Try.prog (binS BinOp.eql 28 (Operand.tmp 89) (Operand.tmp 97) t89 t97) w fun t98 =>
  pickP t83 t98 (Value.bool false) fun t99 =>
  anyDraw w fun w =>
  m5_27 R K1 K2 K3 l1 all6 n8 used9 i10 k11 is12 j13 t99 w)
  (pickP t83 undef (Value.bool false) fun t99 =>
  anyDraw w fun w =>
  m5_27 R K1 K2 K3 l1 all6 n8 used9 i10 k11 is12 j13 t99 w))
def m5_22 (R : VP) (K1 : (Value × Value) → World → Prop) (K2 : (Value × Value) → World → Prop) (t4 : Value) (w : World) : Prop :=
  R t4 w
def m5_17 (R : VP) (K1 : (Value × Value) → World → Prop) (K2 : (Value × Value) → World → Prop) (l1 all6 n8 used9 i10 k11 : Value) (w : World) : Prop :=
  valP Try.prog (binS BinOp.add 3 (Operand.tmp 54) (Operand.const (Value.int IntKind.i64 1)) k11 (Value.int IntKind.i64 1)) w fun t55 w =>
  K2 (n8, t55) w
def m5_20 (R : VP) (K1 : (Value × Value) → World → Prop) (K2 : (Value × Value) → World → Prop) (l1 all6 n8 used9 i10 k11 : Value) (w : World) : Prop :=
  valP Try.prog (binS BinOp.add 3 (Operand.tmp 105) (Operand.const (Value.int IntKind.i64 1)) n8 (Value.int IntKind.i64 1)) w fun t106 w =>
  m5_17 R K1 K2 l1 all6 t106 used9 i10 k11 w
def m5_21 (R : VP) (K1 : (Value × Value) → World → Prop) (K2 : (Value × Value) → World → Prop) (l1 all6 n8 used9 i10 k11 t104 : Value) (w : World) : Prop :=
  condP t104
  (m5_22 R K1 K2 (Value.bool false) w)
  (m5_20 R K1 K2 l1 all6 n8 used9 i10 k11 w)
def m5_19 (R : VP) (K1 : (Value × Value) → World → Prop) (K2 : (Value × Value) → World → Prop) (l1 all6 n8 used9 i10 k11 is12 : Value) (w : World) : Prop :=
  valP Try.prog (Op.unary UnOp.not is12) w fun t104 w =>
  m5_21 R K1 K2 l1 all6 n8 used9 i10 k11 t104 w
def m5_29 (R : VP) (K1 : (Value × Value) → World → Prop) (K2 : (Value × Value) → World → Prop) (K3 : (Value × Value) → World → Prop) (l1 all6 n8 used9 i10 k11 is12 j13 t63 : Value) (w : World) : Prop :=
  condP t63
  (m5_25 R K1 K2 K3 l1 all6 n8 used9 i10 k11 is12 j13 w)
  (m5_19 R K1 K2 l1 all6 n8 used9 i10 k11 is12 w)
def m5_24 (R : VP) (K1 : (Value × Value) → World → Prop) (K2 : (Value × Value) → World → Prop) (K3 : (Value × Value) → World → Prop) (l1 all6 n8 used9 i10 k11 is12 j13 : Value) (w : World) : Prop :=
  builtinP Try.prog Builtin.len #[44] 3 #[false] #[l1] w fun t58 w =>
  valP Try.prog (binS BinOp.lss 3 (Operand.tmp 56) (Operand.tmp 58) j13 t58) w fun t59 w =>
  condP t59
  (valP Try.prog (Op.unary UnOp.not is12) w fun t62 w =>
  pickP t59 t62 (Value.bool false) fun t63 =>
  m5_29 R K1 K2 K3 l1 all6 n8 used9 i10 k11 is12 j13 t63 w)
  (pickP t59 undef (Value.bool false) fun t63 =>
  m5_29 R K1 K2 K3 l1 all6 n8 used9 i10 k11 is12 j13 t63 w)
def m5_23 (R : VP) (K1 : (Value × Value) → World → Prop) (K2 : (Value × Value) → World → Prop) (l1 all6 n8 used9 i10 k11 is12 j13 : Value) (w : World) : Prop :=
  loopP (fun (K3 : (Value × Value) → World → Prop) (s : Value × Value) w => m5_24 R K1 K2 K3 l1 all6 n8 used9 i10 k11 s.1 s.2 w) (is12, j13) w
def m5_18 (R : VP) (K1 : (Value × Value) → World → Prop) (K2 : (Value × Value) → World → Prop) (l1 all6 n8 used9 i10 k11 is12 : Value) (w : World) : Prop :=
  m5_23 R K1 K2 l1 all6 n8 used9 i10 k11 is12 (Value.int IntKind.i64 0) w
def m5_16 (R : VP) (K1 : (Value × Value) → World → Prop) (K2 : (Value × Value) → World → Prop) (l1 all6 n8 used9 i10 k11 : Value) (w : World) : Prop :=
  m5_18 R K1 K2 l1 all6 n8 used9 i10 k11 (Value.bool false) w
def m5_13 (R : VP) (K1 : (Value × Value) → World → Prop) (l1 all6 n8 used9 i10 : Value) (w : World) : Prop :=
  valP Try.prog (binS BinOp.add 3 (Operand.tmp 44) (Operand.const (Value.int IntKind.i64 1)) i10 (Value.int IntKind.i64 1)) w fun t45 w =>
  K1 (n8, t45) w
def m5_30 (R : VP) (K1 : (Value × Value) → World → Prop) (K2 : (Value × Value) → World → Prop) (l1 all6 n8 used9 i10 k11 t53 : Value) (w : World) : Prop :=
  condP t53
  (m5_16 R K1 K2 l1 all6 n8 used9 i10 k11 w)
  (m5_13 R K1 l1 all6 n8 used9 i10 w)
def m5_15 (R : VP) (K1 : (Value × Value) → World → Prop) (K2 : (Value × Value) → World → Prop) (l1 all6 n8 used9 i10 k11 : Value) (w : World) : Prop :=
  valP Try.prog (Instr.indexAt 24 all6 i10) w fun t49 w =>
  valP Try.prog (Instr.fieldAt 33 t49 1) w fun t50 w =>
  valP Try.prog (Instr.loadAt 31 t50) w fun t51 w =>
  builtinP Try.prog Builtin.len #[31] 3 #[false] #[t51] w fun t52 w =>
  valP Try.prog (binS BinOp.lss 3 (Operand.tmp 46) (Operand.tmp 52) k11 t52) w fun t53 w =>
  m5_30 R K1 K2 l1 all6 n8 used9 i10 k11 t53 w
def m5_14 (R : VP) (K1 : (Value × Value) → World → Prop) (l1 all6 n8 used9 i10 k11 : Value) (w : World) : Prop :=
  loopP (fun (K2 : (Value × Value) → World → Prop) (s : Value × Value) w => m5_15 R K1 K2 l1 all6 s.1 used9 i10 s.2 w) (n8, k11) w
def m5_12 (R : VP) (K1 : (Value × Value) → World → Prop) (l1 all6 n8 used9 i10 : Value) (w : World) : Prop :=
  m5_14 R K1 l1 all6 n8 used9 i10 (Value.int IntKind.i64 0) w
def m5_9 (R : VP) (t4 : Value) (w : World) : Prop :=
  R t4 w
def m5_8 (R : VP) (l1 n8 : Value) (w : World) : Prop :=
  builtinP Try.prog Builtin.len #[44] 3 #[false] #[l1] w fun t109 w =>
  valP Try.prog (binS BinOp.eql 3 (Operand.tmp 107) (Operand.tmp 109) n8 t109) w fun t110 w =>
  condP t110
  (callP Try.prog (fnV 10) #[] w fun t112 w =>
  pickP t110 t112 (Value.bool false) fun t113 =>
  m5_9 R t113 w)
  (pickP t110 undef (Value.bool false) fun t113 =>
  m5_9 R t113 w)
def m5_31 (R : VP) (K1 : (Value × Value) → World → Prop) (l1 all6 n8 used9 i10 t43 : Value) (w : World) : Prop :=
  condP t43
  (m5_12 R K1 l1 all6 n8 used9 i10 w)
  (m5_8 R l1 n8 w)
def m5_11 (R : VP) (K1 : (Value × Value) → World → Prop) (l1 all6 n8 used9 i10 : Value) (w : World) : Prop :=
  builtinP Try.prog Builtin.len #[24] 3 #[false] #[all6] w fun t42 w =>
  valP Try.prog (binS BinOp.lss 3 (Operand.tmp 40) (Operand.tmp 42) i10 t42) w fun t43 w =>
  m5_31 R K1 l1 all6 n8 used9 i10 t43 w
def m5_10 (R : VP) (l1 all6 n8 used9 i10 : Value) (w : World) : Prop :=
  loopP (fun (K1 : (Value × Value) → World → Prop) (s : Value × Value) w => m5_11 R K1 l1 all6 s.1 used9 s.2 w) (n8, i10) w
def m5_7 (R : VP) (l1 all6 n8 used9 : Value) (w : World) : Prop :=
  m5_10 R l1 all6 n8 used9 (Value.int IntKind.i64 0) w
def m5_6 (R : VP) (l1 all6 n8 : Value) (w : World) : Prop :=
  builtinP Try.prog Builtin.len #[44] 3 #[false] #[l1] w fun t38 w =>
  valP Try.prog (Instr.makeSlice 52 t38 t38) w fun t39 w =>
  m5_7 R l1 all6 n8 t39 w
def m5_5 (R : VP) (l1 f5 all6 : Value) (w : World) : Prop :=
  valP Try.prog (Instr.fieldAt 26 f5 1) w fun t35 w =>
  valP Try.prog (Instr.loadAt 3 t35) w fun t36 w =>
  m5_6 R l1 all6 t36 w
def m5_4 (R : VP) (l1 f5 all6 : Value) (w : World) : Prop :=
  valP Try.prog (Instr.fieldAt 26 f5 2) w fun t32 w =>
  valP Try.prog (Instr.loadAt 24 t32) w fun t33 w =>
  builtinP Try.prog Builtin.append #[24, 24] 24 #[false, false] #[all6, t33] w fun t34 w =>
  m5_5 R l1 f5 t34 w
def m5_32 (R : VP) (l1 f5 all6 t24 : Value) (w : World) : Prop :=
  condP t24
  (builtinP Try.prog Builtin.len #[24] 3 #[false] #[all6] w fun t26 w =>
  valP Try.prog (binS BinOp.eql 3 (Operand.tmp 26) (Operand.const (Value.int IntKind.i64 0)) t26 (Value.int IntKind.i64 0)) w fun t27 w =>
  condP t27
  (callP Try.prog (fnV 10) #[] w fun t29 w =>
  pickP t27 t29 (Value.bool false) fun t30 =>
  m5_33 R t30 w)
  (pickP t27 undef (Value.bool false) fun t30 =>
  m5_33 R t30 w))
  (m5_4 R l1 f5 all6 w)
def m5_3 (R : VP) (l1 f5 all6 e7 : Value) (w : World) : Prop :=
  valP Try.prog (binS BinOp.neq 34 (Operand.tmp 23) (Operand.const (Value.int IntKind.i64 0)) e7 (Value.int IntKind.i64 0)) w fun t24 w =>
  m5_32 R l1 f5 all6 t24 w
def m5_2 (R : VP) (l1 g2 : Value) (w : World) : Prop :=
  valP Try.prog (Instr.loadAt 23 g2) w fun t17 w =>
  callP Try.prog (fnV 18) #[t17, l1] w fun t19 w =>
  valP Try.prog (Instr.extract t19 0) w fun t20 w =>
  valP Try.prog (Instr.extract t19 1) w fun t21 w =>
  valP Try.prog (Instr.extract t19 2) w fun t22 w =>
  valP Try.prog (Instr.alloc 26 true (.tuple #[])) w fun f5 w =>
  unitP Try.prog (Instr.storeAt 26 f5 t20) w fun _ w =>
  m5_3 R l1 f5 t21 t22 w
def m5_1 (R : VP) (l1 g2 : Value) (w : World) : Prop :=
  callP Try.prog (fnV 17) #[l1] w fun t15 w =>
  m5_2 R t15 g2 w
def m5_0 (R : VP) (g0 l1 : Value) (w : World) : Prop :=
  valP Try.prog (Instr.box 23 g0) w fun g2 w =>
  m5_1 R l1 g2 w
abbrev W5 := cwp Try.prog (fun i => cond (Nat.beq i 18) 1 (0))
noncomputable def k5_0 : Code := (bodyOf Try.f5)
noncomputable def k5_1 : Code := (c2 k5_0)
noncomputable def k5_2 : Code := (c2 k5_1)
noncomputable def k5_3 : Code := (c2 k5_2)
noncomputable def k5_4 : Code := (c2 k5_3)
noncomputable def k5_5 : Code := (c2 k5_4)
noncomputable def k5_6 : Code := (c2 k5_5)
noncomputable def k5_7 : Code := (c2 k5_6)
noncomputable def k5_8 : Code := (c2 k5_7)
noncomputable def k5_9 : Code := (c2 k5_8)
noncomputable def k5_10 : Code := (c2 (c1 k5_7))
noncomputable def k5_11 : Code := (c1 (c1 k5_10))
noncomputable def k5_12 : Code := (c2 k5_11)
noncomputable def k5_13 : Code := (c2 k5_12)
noncomputable def k5_14 : Code := (c2 (c1 (c1 k5_12)))
noncomputable def k5_15 : Code := (c1 (c1 k5_14))
noncomputable def k5_16 : Code := (c2 k5_15)
noncomputable def k5_17 : Code := (c2 k5_16)
noncomputable def k5_18 : Code := (c2 (c1 (c1 k5_16)))
noncomputable def k5_19 : Code := (c2 k5_18)
noncomputable def k5_20 : Code := (c2 k5_19)
noncomputable def k5_21 : Code := (c2 (c1 k5_19))
noncomputable def k5_22 : Code := (c2 (c1 k5_21))
noncomputable def k5_23 : Code := (c2 (c1 k5_18))
noncomputable def k5_24 : Code := (c1 (c1 k5_23))
noncomputable def k5_25 : Code := (c2 k5_24)
noncomputable def k5_26 : Code := (c2 k5_25)
noncomputable def k5_27 : Code := (c2 (c1 (c1 k5_25)))
noncomputable def k5_28 : Code := (c2 (c1 k5_27))
noncomputable def k5_29 : Code := (c2 (c1 k5_24))
noncomputable def k5_30 : Code := (c2 (c1 k5_15))
noncomputable def k5_31 : Code := (c2 (c1 k5_11))
noncomputable def k5_32 : Code := (c2 (c1 k5_3))
noncomputable def k5_33 : Code := (c2 (c1 k5_32))
theorem s5_33 {R : VP} {Q : EQ} (hR : ∀ e w, (R (e 4) w) → Q .ret e w) (e : Env) (w : World) (h : m5_33 R (e 4) w) : W5 k5_33 Q e w := by
  unfold m5_33 at h
  exact reA (hR _ _ h)
theorem s5_26 {R : VP} {K1 : (Value × Value) → World → Prop} {K2 : (Value × Value) → World → Prop} {K3 : (Value × Value) → World → Prop} {Q : EQ} (hN : ∀ e w, (K3 ((e 12), (e 13)) w) → Q .normal e w) (e : Env) (w : World) (h : m5_26 R K1 K2 K3 (e 1) (e 6) (e 8) (e 9) (e 10) (e 11) (e 12) (e 13) w) : W5 k5_26 Q e w := by
  unfold m5_26 at h
  exact rgA 17 (fun e w => K3 ((e 12), (e 13)) w) h hN
theorem s5_28 {R : VP} {K1 : (Value × Value) → World → Prop} {K2 : (Value × Value) → World → Prop} {K3 : (Value × Value) → World → Prop} {Q : EQ} (hN : ∀ e w, (m5_26 R K1 K2 K3 (e 1) (e 6) (e 8) (e 9) (e 10) (e 11) (e 12) (e 13) w) → Q .normal e w) (e : Env) (w : World) (h : m5_28 R K1 K2 K3 (e 1) (e 6) (e 8) (e 9) (e 10) (e 11) (e 13) w) : W5 k5_28 Q e w := by
  unfold m5_28 at h
  exact rgA 20 (fun e w => m5_26 R K1 K2 K3 (e 1) (e 6) (e 8) (e 9) (e 10) (e 11) (e 12) (e 13) w) h hN
theorem s5_27 {R : VP} {K1 : (Value × Value) → World → Prop} {K2 : (Value × Value) → World → Prop} {K3 : (Value × Value) → World → Prop} {Q : EQ} (hN : ∀ e w, (m5_26 R K1 K2 K3 (e 1) (e 6) (e 8) (e 9) (e 10) (e 11) (e 12) (e 13) w) → Q .normal e w) (e : Env) (w : World) (h : m5_27 R K1 K2 K3 (e 1) (e 6) (e 8) (e 9) (e 10) (e 11) (e 12) (e 13) (e 99) w) : W5 k5_27 Q e w := by
  unfold m5_27 at h
  refine coA (Operand.tmp 99) h (fun h1 => ?_) (fun h1 => ?_)
  · refine seA ?_
    have hN : ∀ e w, (m5_28 R K1 K2 K3 (e 1) (e 6) (e 8) (e 9) (e 10) (e 11) (e 13) w) → (thenE (W5 k5_28 Q) Q) .normal e w := fun e w h => then_N (s5_28 (R := R) (Q := Q) (K1 := K1) (K2 := K2) (K3 := K3) hN e w h)
    exact rgA 19 (fun e w => m5_28 R K1 K2 K3 (e 1) (e 6) (e 8) (e 9) (e 10) (e 11) (e 13) w) h1 hN
  · exact skA (hN _ _ h1)
theorem s5_25 {R : VP} {K1 : (Value × Value) → World → Prop} {K2 : (Value × Value) → World → Prop} {K3 : (Value × Value) → World → Prop} {Q : EQ} (hN : ∀ e w, (K3 ((e 12), (e 13)) w) → Q .normal e w) (e : Env) (w : World) (h : m5_25 R K1 K2 K3 (e 1) (e 6) (e 8) (e 9) (e 10) (e 11) (e 12) (e 13) w) : W5 k5_25 Q e w := by
  unfold m5_25 at h
  refine seA ?_
  have hN : ∀ e w, (m5_26 R K1 K2 K3 (e 1) (e 6) (e 8) (e 9) (e 10) (e 11) (e 12) (e 13) w) → (thenE (W5 k5_26 Q) Q) .normal e w := fun e w h => then_N (s5_26 (R := R) (Q := Q) (K1 := K1) (K2 := K2) (K3 := K3) hN e w h)
  refine block_ok 5 (by kernel_rfl) ?_
  have hN : ∀ e w, (m5_26 R K1 K2 K3 (e 1) (e 6) (e 8) (e 9) (e 10) (e 11) (e 12) (e 13) w) → (inBlockE 5 (thenE (W5 k5_26 Q) Q)) .normal e w := fun e w h => block_N (hN e w h)
  refine seA ?_
  have hN : ∀ e w, (m5_27 R K1 K2 K3 (e 1) (e 6) (e 8) (e 9) (e 10) (e 11) (e 12) (e 13) (e 99) w) → (thenE (W5 k5_27 (inBlockE 5 (thenE (W5 k5_26 Q) Q))) (inBlockE 5 (thenE (W5 k5_26 Q) Q))) .normal e w := fun e w h => then_N (s5_27 (R := R) (Q := (inBlockE 5 (thenE (W5 k5_26 Q) Q))) (K1 := K1) (K2 := K2) (K3 := K3) hN e w h)
  exact quA 18 (fun e w => m5_27 R K1 K2 K3 (e 1) (e 6) (e 8) (e 9) (e 10) (e 11) (e 12) (e 13) (e 99) w) h hN
theorem s5_22 {R : VP} {K1 : (Value × Value) → World → Prop} {K2 : (Value × Value) → World → Prop} {Q : EQ} (hR : ∀ e w, (R (e 4) w) → Q .ret e w) (e : Env) (w : World) (h : m5_22 R K1 K2 (e 4) w) : W5 k5_22 Q e w := by
  unfold m5_22 at h
  exact reA (hR _ _ h)
theorem s5_17 {R : VP} {K1 : (Value × Value) → World → Prop} {K2 : (Value × Value) → World → Prop} {Q : EQ} (hN : ∀ e w, (K2 ((e 8), (e 11)) w) → Q .normal e w) (e : Env) (w : World) (h : m5_17 R K1 K2 (e 1) (e 6) (e 8) (e 9) (e 10) (e 11) w) : W5 k5_17 Q e w := by
  unfold m5_17 at h
  exact rgA 13 (fun e w => K2 ((e 8), (e 11)) w) h hN
theorem s5_20 {R : VP} {K1 : (Value × Value) → World → Prop} {K2 : (Value × Value) → World → Prop} {Q : EQ} (hN : ∀ e w, (m5_17 R K1 K2 (e 1) (e 6) (e 8) (e 9) (e 10) (e 11) w) → Q .normal e w) (e : Env) (w : World) (h : m5_20 R K1 K2 (e 1) (e 6) (e 8) (e 9) (e 10) (e 11) w) : W5 k5_20 Q e w := by
  unfold m5_20 at h
  exact rgA 23 (fun e w => m5_17 R K1 K2 (e 1) (e 6) (e 8) (e 9) (e 10) (e 11) w) h hN
theorem s5_21 {R : VP} {K1 : (Value × Value) → World → Prop} {K2 : (Value × Value) → World → Prop} {Q : EQ} (hN : ∀ e w, (m5_20 R K1 K2 (e 1) (e 6) (e 8) (e 9) (e 10) (e 11) w) → Q .normal e w) (hR : ∀ e w, (R (e 4) w) → Q .ret e w) (e : Env) (w : World) (h : m5_21 R K1 K2 (e 1) (e 6) (e 8) (e 9) (e 10) (e 11) (e 104) w) : W5 k5_21 Q e w := by
  unfold m5_21 at h
  refine coA (Operand.tmp 104) h (fun h1 => ?_) (fun h1 => ?_)
  · refine seA ?_
    have hN : ∀ e w, (m5_22 R K1 K2 (e 4) w) → (thenE (W5 k5_22 Q) Q) .normal e w := fun e w h => then_N (s5_22 (R := R) (Q := Q) (K1 := K1) (K2 := K2) hR e w h)
    exact rgA 22 (fun e w => m5_22 R K1 K2 (e 4) w) h1 hN
  · exact skA (hN _ _ h1)
theorem s5_19 {R : VP} {K1 : (Value × Value) → World → Prop} {K2 : (Value × Value) → World → Prop} {Q : EQ} (hN : ∀ e w, (m5_17 R K1 K2 (e 1) (e 6) (e 8) (e 9) (e 10) (e 11) w) → Q .normal e w) (hR : ∀ e w, (R (e 4) w) → Q .ret e w) (e : Env) (w : World) (h : m5_19 R K1 K2 (e 1) (e 6) (e 8) (e 9) (e 10) (e 11) (e 12) w) : W5 k5_19 Q e w := by
  unfold m5_19 at h
  refine seA ?_
  have hN : ∀ e w, (m5_20 R K1 K2 (e 1) (e 6) (e 8) (e 9) (e 10) (e 11) w) → (thenE (W5 k5_20 Q) Q) .normal e w := fun e w h => then_N (s5_20 (R := R) (Q := Q) (K1 := K1) (K2 := K2) hN e w h)
  have hR : ∀ e w, (R (e 4) w) → (thenE (W5 k5_20 Q) Q) .ret e w := fun e w h => then_R (hR e w h)
  refine seA ?_
  have hN : ∀ e w, (m5_21 R K1 K2 (e 1) (e 6) (e 8) (e 9) (e 10) (e 11) (e 104) w) → (thenE (W5 k5_21 (thenE (W5 k5_20 Q) Q)) (thenE (W5 k5_20 Q) Q)) .normal e w := fun e w h => then_N (s5_21 (R := R) (Q := (thenE (W5 k5_20 Q) Q)) (K1 := K1) (K2 := K2) hN hR e w h)
  exact rgA 21 (fun e w => m5_21 R K1 K2 (e 1) (e 6) (e 8) (e 9) (e 10) (e 11) (e 104) w) h hN
theorem s5_29 {R : VP} {K1 : (Value × Value) → World → Prop} {K2 : (Value × Value) → World → Prop} {K3 : (Value × Value) → World → Prop} {Q : EQ} (hN : ∀ e w, (m5_25 R K1 K2 K3 (e 1) (e 6) (e 8) (e 9) (e 10) (e 11) (e 12) (e 13) w) → Q .normal e w) (hX4 : ∀ e w, (m5_19 R K1 K2 (e 1) (e 6) (e 8) (e 9) (e 10) (e 11) (e 12) w) → Q (.exit 4) e w) (e : Env) (w : World) (h : m5_29 R K1 K2 K3 (e 1) (e 6) (e 8) (e 9) (e 10) (e 11) (e 12) (e 13) (e 63) w) : W5 k5_29 Q e w := by
  unfold m5_29 at h
  refine coA (Operand.tmp 63) h (fun h1 => ?_) (fun h1 => ?_)
  · exact skA (hN _ _ h1)
  · exact exA 4 (hX4 _ _ h1)
theorem s5_24 {R : VP} {K1 : (Value × Value) → World → Prop} {K2 : (Value × Value) → World → Prop} {K3 : (Value × Value) → World → Prop} {Q : EQ} (hN : ∀ e w, (K3 ((e 12), (e 13)) w) → Q .normal e w) (hX4 : ∀ e w, (m5_19 R K1 K2 (e 1) (e 6) (e 8) (e 9) (e 10) (e 11) (e 12) w) → Q (.exit 4) e w) (e : Env) (w : World) (h : m5_24 R K1 K2 K3 (e 1) (e 6) (e 8) (e 9) (e 10) (e 11) (e 12) (e 13) w) : W5 k5_24 Q e w := by
  unfold m5_24 at h
  refine seA ?_
  have hN : ∀ e w, (m5_25 R K1 K2 K3 (e 1) (e 6) (e 8) (e 9) (e 10) (e 11) (e 12) (e 13) w) → (thenE (W5 k5_25 Q) Q) .normal e w := fun e w h => then_N (s5_25 (R := R) (Q := Q) (K1 := K1) (K2 := K2) (K3 := K3) hN e w h)
  have hX4 : ∀ e w, (m5_19 R K1 K2 (e 1) (e 6) (e 8) (e 9) (e 10) (e 11) (e 12) w) → (thenE (W5 k5_25 Q) Q) (.exit 4) e w := fun e w h => then_X (hX4 e w h)
  refine seA ?_
  have hN : ∀ e w, (m5_29 R K1 K2 K3 (e 1) (e 6) (e 8) (e 9) (e 10) (e 11) (e 12) (e 13) (e 63) w) → (thenE (W5 k5_29 (thenE (W5 k5_25 Q) Q)) (thenE (W5 k5_25 Q) Q)) .normal e w := fun e w h => then_N (s5_29 (R := R) (Q := (thenE (W5 k5_25 Q) Q)) (K1 := K1) (K2 := K2) (K3 := K3) hN hX4 e w h)
  exact rgA 16 (fun e w => m5_29 R K1 K2 K3 (e 1) (e 6) (e 8) (e 9) (e 10) (e 11) (e 12) (e 13) (e 63) w) h hN
theorem s5_23 {R : VP} {K1 : (Value × Value) → World → Prop} {K2 : (Value × Value) → World → Prop} {Q : EQ} (hN : ∀ e w, (m5_19 R K1 K2 (e 1) (e 6) (e 8) (e 9) (e 10) (e 11) (e 12) w) → Q .normal e w) (e : Env) (w : World) (h : m5_23 R K1 K2 (e 1) (e 6) (e 8) (e 9) (e 10) (e 11) (e 12) (e 13) w) : W5 k5_23 Q e w := by
  unfold m5_23 at h
  refine block_ok 4 (by kernel_rfl) ?_
  have hX4 : ∀ e w, (m5_19 R K1 K2 (e 1) (e 6) (e 8) (e 9) (e 10) (e 11) (e 12) w) → (inBlockE 4 Q) (.exit 4) e w := fun e w h => inBlock_same (Q := Q) 4 (hN e w h)
  refine loop_ok' (fun (e : Env) => (e 12, e 13)) [1, 6, 8, 9, 10, 11] (by kernel_rfl) (by kernel_rfl) h (fun K e' w' hk h' => ?_)
  have r1 : e' 1 = e 1 := hk 1 (by decide)
  have r6 : e' 6 = e 6 := hk 6 (by decide)
  have r8 : e' 8 = e 8 := hk 8 (by decide)
  have r9 : e' 9 = e 9 := hk 9 (by decide)
  have r10 : e' 10 = e 10 := hk 10 (by decide)
  have r11 : e' 11 = e 11 := hk 11 (by decide)
  have hX4 : ∀ e w, (m5_19 R K1 K2 (e 1) (e 6) (e 8) (e 9) (e 10) (e 11) (e 12) w) → (thenE (fun (e : Env) w => K ((e 12), (e 13)) w) (inBlockE 4 Q)) (.exit 4) e w := fun e w h => then_X (hX4 e w h)
  exact s5_24 (R := R) (Q := (thenE (fun (e : Env) w => K ((e 12), (e 13)) w) (inBlockE 4 Q))) (K1 := K1) (K2 := K2) (K3 := K) (fun _ _ h => then_N h) hX4 e' w' (by rw [r1, r6, r8, r9, r10, r11]; exact h')
theorem s5_18 {R : VP} {K1 : (Value × Value) → World → Prop} {K2 : (Value × Value) → World → Prop} {Q : EQ} (hN : ∀ e w, (m5_17 R K1 K2 (e 1) (e 6) (e 8) (e 9) (e 10) (e 11) w) → Q .normal e w) (hR : ∀ e w, (R (e 4) w) → Q .ret e w) (e : Env) (w : World) (h : m5_18 R K1 K2 (e 1) (e 6) (e 8) (e 9) (e 10) (e 11) (e 12) w) : W5 k5_18 Q e w := by
  unfold m5_18 at h
  refine seA ?_
  have hN : ∀ e w, (m5_19 R K1 K2 (e 1) (e 6) (e 8) (e 9) (e 10) (e 11) (e 12) w) → (thenE (W5 k5_19 Q) Q) .normal e w := fun e w h => then_N (s5_19 (R := R) (Q := Q) (K1 := K1) (K2 := K2) hN hR e w h)
  refine seA ?_
  have hN : ∀ e w, (m5_23 R K1 K2 (e 1) (e 6) (e 8) (e 9) (e 10) (e 11) (e 12) (e 13) w) → (thenE (W5 k5_23 (thenE (W5 k5_19 Q) Q)) (thenE (W5 k5_19 Q) Q)) .normal e w := fun e w h => then_N (s5_23 (R := R) (Q := (thenE (W5 k5_19 Q) Q)) (K1 := K1) (K2 := K2) hN e w h)
  exact rgA 15 (fun e w => m5_23 R K1 K2 (e 1) (e 6) (e 8) (e 9) (e 10) (e 11) (e 12) (e 13) w) h hN
theorem s5_16 {R : VP} {K1 : (Value × Value) → World → Prop} {K2 : (Value × Value) → World → Prop} {Q : EQ} (hN : ∀ e w, (K2 ((e 8), (e 11)) w) → Q .normal e w) (hR : ∀ e w, (R (e 4) w) → Q .ret e w) (e : Env) (w : World) (h : m5_16 R K1 K2 (e 1) (e 6) (e 8) (e 9) (e 10) (e 11) w) : W5 k5_16 Q e w := by
  unfold m5_16 at h
  refine seA ?_
  have hN : ∀ e w, (m5_17 R K1 K2 (e 1) (e 6) (e 8) (e 9) (e 10) (e 11) w) → (thenE (W5 k5_17 Q) Q) .normal e w := fun e w h => then_N (s5_17 (R := R) (Q := Q) (K1 := K1) (K2 := K2) hN e w h)
  have hR : ∀ e w, (R (e 4) w) → (thenE (W5 k5_17 Q) Q) .ret e w := fun e w h => then_R (hR e w h)
  refine block_ok 3 (by kernel_rfl) ?_
  have hN : ∀ e w, (m5_17 R K1 K2 (e 1) (e 6) (e 8) (e 9) (e 10) (e 11) w) → (inBlockE 3 (thenE (W5 k5_17 Q) Q)) .normal e w := fun e w h => block_N (hN e w h)
  have hR : ∀ e w, (R (e 4) w) → (inBlockE 3 (thenE (W5 k5_17 Q) Q)) .ret e w := fun e w h => block_R (hR e w h)
  refine seA ?_
  have hN : ∀ e w, (m5_18 R K1 K2 (e 1) (e 6) (e 8) (e 9) (e 10) (e 11) (e 12) w) → (thenE (W5 k5_18 (inBlockE 3 (thenE (W5 k5_17 Q) Q))) (inBlockE 3 (thenE (W5 k5_17 Q) Q))) .normal e w := fun e w h => then_N (s5_18 (R := R) (Q := (inBlockE 3 (thenE (W5 k5_17 Q) Q))) (K1 := K1) (K2 := K2) hN hR e w h)
  exact rgA 14 (fun e w => m5_18 R K1 K2 (e 1) (e 6) (e 8) (e 9) (e 10) (e 11) (e 12) w) h hN
theorem s5_13 {R : VP} {K1 : (Value × Value) → World → Prop} {Q : EQ} (hN : ∀ e w, (K1 ((e 8), (e 10)) w) → Q .normal e w) (e : Env) (w : World) (h : m5_13 R K1 (e 1) (e 6) (e 8) (e 9) (e 10) w) : W5 k5_13 Q e w := by
  unfold m5_13 at h
  exact rgA 10 (fun e w => K1 ((e 8), (e 10)) w) h hN
theorem s5_30 {R : VP} {K1 : (Value × Value) → World → Prop} {K2 : (Value × Value) → World → Prop} {Q : EQ} (hN : ∀ e w, (m5_16 R K1 K2 (e 1) (e 6) (e 8) (e 9) (e 10) (e 11) w) → Q .normal e w) (hX2 : ∀ e w, (m5_13 R K1 (e 1) (e 6) (e 8) (e 9) (e 10) w) → Q (.exit 2) e w) (e : Env) (w : World) (h : m5_30 R K1 K2 (e 1) (e 6) (e 8) (e 9) (e 10) (e 11) (e 53) w) : W5 k5_30 Q e w := by
  unfold m5_30 at h
  refine coA (Operand.tmp 53) h (fun h1 => ?_) (fun h1 => ?_)
  · exact skA (hN _ _ h1)
  · exact exA 2 (hX2 _ _ h1)
theorem s5_15 {R : VP} {K1 : (Value × Value) → World → Prop} {K2 : (Value × Value) → World → Prop} {Q : EQ} (hN : ∀ e w, (K2 ((e 8), (e 11)) w) → Q .normal e w) (hR : ∀ e w, (R (e 4) w) → Q .ret e w) (hX2 : ∀ e w, (m5_13 R K1 (e 1) (e 6) (e 8) (e 9) (e 10) w) → Q (.exit 2) e w) (e : Env) (w : World) (h : m5_15 R K1 K2 (e 1) (e 6) (e 8) (e 9) (e 10) (e 11) w) : W5 k5_15 Q e w := by
  unfold m5_15 at h
  refine seA ?_
  have hN : ∀ e w, (m5_16 R K1 K2 (e 1) (e 6) (e 8) (e 9) (e 10) (e 11) w) → (thenE (W5 k5_16 Q) Q) .normal e w := fun e w h => then_N (s5_16 (R := R) (Q := Q) (K1 := K1) (K2 := K2) hN hR e w h)
  have hX2 : ∀ e w, (m5_13 R K1 (e 1) (e 6) (e 8) (e 9) (e 10) w) → (thenE (W5 k5_16 Q) Q) (.exit 2) e w := fun e w h => then_X (hX2 e w h)
  refine seA ?_
  have hN : ∀ e w, (m5_30 R K1 K2 (e 1) (e 6) (e 8) (e 9) (e 10) (e 11) (e 53) w) → (thenE (W5 k5_30 (thenE (W5 k5_16 Q) Q)) (thenE (W5 k5_16 Q) Q)) .normal e w := fun e w h => then_N (s5_30 (R := R) (Q := (thenE (W5 k5_16 Q) Q)) (K1 := K1) (K2 := K2) hN hX2 e w h)
  exact rgA 12 (fun e w => m5_30 R K1 K2 (e 1) (e 6) (e 8) (e 9) (e 10) (e 11) (e 53) w) h hN
theorem s5_14 {R : VP} {K1 : (Value × Value) → World → Prop} {Q : EQ} (hN : ∀ e w, (m5_13 R K1 (e 1) (e 6) (e 8) (e 9) (e 10) w) → Q .normal e w) (hR : ∀ e w, (R (e 4) w) → Q .ret e w) (e : Env) (w : World) (h : m5_14 R K1 (e 1) (e 6) (e 8) (e 9) (e 10) (e 11) w) : W5 k5_14 Q e w := by
  unfold m5_14 at h
  refine block_ok 2 (by kernel_rfl) ?_
  have hX2 : ∀ e w, (m5_13 R K1 (e 1) (e 6) (e 8) (e 9) (e 10) w) → (inBlockE 2 Q) (.exit 2) e w := fun e w h => inBlock_same (Q := Q) 2 (hN e w h)
  have hR : ∀ e w, (R (e 4) w) → (inBlockE 2 Q) .ret e w := fun e w h => block_R (hR e w h)
  refine loop_ok' (fun (e : Env) => (e 8, e 11)) [1, 6, 9, 10] (by kernel_rfl) (by kernel_rfl) h (fun K e' w' hk h' => ?_)
  have r1 : e' 1 = e 1 := hk 1 (by decide)
  have r6 : e' 6 = e 6 := hk 6 (by decide)
  have r9 : e' 9 = e 9 := hk 9 (by decide)
  have r10 : e' 10 = e 10 := hk 10 (by decide)
  have hR : ∀ e w, (R (e 4) w) → (thenE (fun (e : Env) w => K ((e 8), (e 11)) w) (inBlockE 2 Q)) .ret e w := fun e w h => then_R (hR e w h)
  have hX2 : ∀ e w, (m5_13 R K1 (e 1) (e 6) (e 8) (e 9) (e 10) w) → (thenE (fun (e : Env) w => K ((e 8), (e 11)) w) (inBlockE 2 Q)) (.exit 2) e w := fun e w h => then_X (hX2 e w h)
  exact s5_15 (R := R) (Q := (thenE (fun (e : Env) w => K ((e 8), (e 11)) w) (inBlockE 2 Q))) (K1 := K1) (K2 := K) (fun _ _ h => then_N h) hR hX2 e' w' (by rw [r1, r6, r9, r10]; exact h')
theorem s5_12 {R : VP} {K1 : (Value × Value) → World → Prop} {Q : EQ} (hN : ∀ e w, (K1 ((e 8), (e 10)) w) → Q .normal e w) (hR : ∀ e w, (R (e 4) w) → Q .ret e w) (e : Env) (w : World) (h : m5_12 R K1 (e 1) (e 6) (e 8) (e 9) (e 10) w) : W5 k5_12 Q e w := by
  unfold m5_12 at h
  refine seA ?_
  have hN : ∀ e w, (m5_13 R K1 (e 1) (e 6) (e 8) (e 9) (e 10) w) → (thenE (W5 k5_13 Q) Q) .normal e w := fun e w h => then_N (s5_13 (R := R) (Q := Q) (K1 := K1) hN e w h)
  have hR : ∀ e w, (R (e 4) w) → (thenE (W5 k5_13 Q) Q) .ret e w := fun e w h => then_R (hR e w h)
  refine block_ok 1 (by kernel_rfl) ?_
  have hN : ∀ e w, (m5_13 R K1 (e 1) (e 6) (e 8) (e 9) (e 10) w) → (inBlockE 1 (thenE (W5 k5_13 Q) Q)) .normal e w := fun e w h => block_N (hN e w h)
  have hR : ∀ e w, (R (e 4) w) → (inBlockE 1 (thenE (W5 k5_13 Q) Q)) .ret e w := fun e w h => block_R (hR e w h)
  refine seA ?_
  have hN : ∀ e w, (m5_14 R K1 (e 1) (e 6) (e 8) (e 9) (e 10) (e 11) w) → (thenE (W5 k5_14 (inBlockE 1 (thenE (W5 k5_13 Q) Q))) (inBlockE 1 (thenE (W5 k5_13 Q) Q))) .normal e w := fun e w h => then_N (s5_14 (R := R) (Q := (inBlockE 1 (thenE (W5 k5_13 Q) Q))) (K1 := K1) hN hR e w h)
  exact rgA 11 (fun e w => m5_14 R K1 (e 1) (e 6) (e 8) (e 9) (e 10) (e 11) w) h hN
theorem s5_9 {R : VP} {Q : EQ} (hR : ∀ e w, (R (e 4) w) → Q .ret e w) (e : Env) (w : World) (h : m5_9 R (e 4) w) : W5 k5_9 Q e w := by
  unfold m5_9 at h
  exact reA (hR _ _ h)
theorem s5_8 {R : VP} {Q : EQ} (hR : ∀ e w, (R (e 4) w) → Q .ret e w) (e : Env) (w : World) (h : m5_8 R (e 1) (e 8) w) : W5 k5_8 Q e w := by
  unfold m5_8 at h
  refine seA ?_
  have hN : ∀ e w, (m5_9 R (e 4) w) → (thenE (W5 k5_9 Q) Q) .normal e w := fun e w h => then_N (s5_9 (R := R) (Q := Q) hR e w h)
  exact rgA 24 (fun e w => m5_9 R (e 4) w) h hN
theorem s5_31 {R : VP} {K1 : (Value × Value) → World → Prop} {Q : EQ} (hN : ∀ e w, (m5_12 R K1 (e 1) (e 6) (e 8) (e 9) (e 10) w) → Q .normal e w) (hX0 : ∀ e w, (m5_8 R (e 1) (e 8) w) → Q (.exit 0) e w) (e : Env) (w : World) (h : m5_31 R K1 (e 1) (e 6) (e 8) (e 9) (e 10) (e 43) w) : W5 k5_31 Q e w := by
  unfold m5_31 at h
  refine coA (Operand.tmp 43) h (fun h1 => ?_) (fun h1 => ?_)
  · exact skA (hN _ _ h1)
  · exact exA 0 (hX0 _ _ h1)
theorem s5_11 {R : VP} {K1 : (Value × Value) → World → Prop} {Q : EQ} (hN : ∀ e w, (K1 ((e 8), (e 10)) w) → Q .normal e w) (hR : ∀ e w, (R (e 4) w) → Q .ret e w) (hX0 : ∀ e w, (m5_8 R (e 1) (e 8) w) → Q (.exit 0) e w) (e : Env) (w : World) (h : m5_11 R K1 (e 1) (e 6) (e 8) (e 9) (e 10) w) : W5 k5_11 Q e w := by
  unfold m5_11 at h
  refine seA ?_
  have hN : ∀ e w, (m5_12 R K1 (e 1) (e 6) (e 8) (e 9) (e 10) w) → (thenE (W5 k5_12 Q) Q) .normal e w := fun e w h => then_N (s5_12 (R := R) (Q := Q) (K1 := K1) hN hR e w h)
  have hX0 : ∀ e w, (m5_8 R (e 1) (e 8) w) → (thenE (W5 k5_12 Q) Q) (.exit 0) e w := fun e w h => then_X (hX0 e w h)
  refine seA ?_
  have hN : ∀ e w, (m5_31 R K1 (e 1) (e 6) (e 8) (e 9) (e 10) (e 43) w) → (thenE (W5 k5_31 (thenE (W5 k5_12 Q) Q)) (thenE (W5 k5_12 Q) Q)) .normal e w := fun e w h => then_N (s5_31 (R := R) (Q := (thenE (W5 k5_12 Q) Q)) (K1 := K1) hN hX0 e w h)
  exact rgA 9 (fun e w => m5_31 R K1 (e 1) (e 6) (e 8) (e 9) (e 10) (e 43) w) h hN
theorem s5_10 {R : VP} {Q : EQ} (hN : ∀ e w, (m5_8 R (e 1) (e 8) w) → Q .normal e w) (hR : ∀ e w, (R (e 4) w) → Q .ret e w) (e : Env) (w : World) (h : m5_10 R (e 1) (e 6) (e 8) (e 9) (e 10) w) : W5 k5_10 Q e w := by
  unfold m5_10 at h
  refine block_ok 0 (by kernel_rfl) ?_
  have hX0 : ∀ e w, (m5_8 R (e 1) (e 8) w) → (inBlockE 0 Q) (.exit 0) e w := fun e w h => inBlock_same (Q := Q) 0 (hN e w h)
  have hR : ∀ e w, (R (e 4) w) → (inBlockE 0 Q) .ret e w := fun e w h => block_R (hR e w h)
  refine loop_ok' (fun (e : Env) => (e 8, e 10)) [1, 6, 9] (by kernel_rfl) (by kernel_rfl) h (fun K e' w' hk h' => ?_)
  have r1 : e' 1 = e 1 := hk 1 (by decide)
  have r6 : e' 6 = e 6 := hk 6 (by decide)
  have r9 : e' 9 = e 9 := hk 9 (by decide)
  have hR : ∀ e w, (R (e 4) w) → (thenE (fun (e : Env) w => K ((e 8), (e 10)) w) (inBlockE 0 Q)) .ret e w := fun e w h => then_R (hR e w h)
  have hX0 : ∀ e w, (m5_8 R (e 1) (e 8) w) → (thenE (fun (e : Env) w => K ((e 8), (e 10)) w) (inBlockE 0 Q)) (.exit 0) e w := fun e w h => then_X (hX0 e w h)
  exact s5_11 (R := R) (Q := (thenE (fun (e : Env) w => K ((e 8), (e 10)) w) (inBlockE 0 Q))) (K1 := K) (fun _ _ h => then_N h) hR hX0 e' w' (by rw [r1, r6, r9]; exact h')
theorem s5_7 {R : VP} {Q : EQ} (hR : ∀ e w, (R (e 4) w) → Q .ret e w) (e : Env) (w : World) (h : m5_7 R (e 1) (e 6) (e 8) (e 9) w) : W5 k5_7 Q e w := by
  unfold m5_7 at h
  refine seA ?_
  have hN : ∀ e w, (m5_8 R (e 1) (e 8) w) → (thenE (W5 k5_8 Q) Q) .normal e w := fun e w h => then_N (s5_8 (R := R) (Q := Q) hR e w h)
  have hR : ∀ e w, (R (e 4) w) → (thenE (W5 k5_8 Q) Q) .ret e w := fun e w h => then_R (hR e w h)
  refine seA ?_
  have hN : ∀ e w, (m5_10 R (e 1) (e 6) (e 8) (e 9) (e 10) w) → (thenE (W5 k5_10 (thenE (W5 k5_8 Q) Q)) (thenE (W5 k5_8 Q) Q)) .normal e w := fun e w h => then_N (s5_10 (R := R) (Q := (thenE (W5 k5_8 Q) Q)) hN hR e w h)
  exact rgA 8 (fun e w => m5_10 R (e 1) (e 6) (e 8) (e 9) (e 10) w) h hN
theorem s5_6 {R : VP} {Q : EQ} (hR : ∀ e w, (R (e 4) w) → Q .ret e w) (e : Env) (w : World) (h : m5_6 R (e 1) (e 6) (e 8) w) : W5 k5_6 Q e w := by
  unfold m5_6 at h
  refine seA ?_
  have hN : ∀ e w, (m5_7 R (e 1) (e 6) (e 8) (e 9) w) → (thenE (W5 k5_7 Q) Q) .normal e w := fun e w h => then_N (s5_7 (R := R) (Q := Q) hR e w h)
  exact rgA 7 (fun e w => m5_7 R (e 1) (e 6) (e 8) (e 9) w) h hN
theorem s5_5 {R : VP} {Q : EQ} (hR : ∀ e w, (R (e 4) w) → Q .ret e w) (e : Env) (w : World) (h : m5_5 R (e 1) (e 5) (e 6) w) : W5 k5_5 Q e w := by
  unfold m5_5 at h
  refine seA ?_
  have hN : ∀ e w, (m5_6 R (e 1) (e 6) (e 8) w) → (thenE (W5 k5_6 Q) Q) .normal e w := fun e w h => then_N (s5_6 (R := R) (Q := Q) hR e w h)
  exact rgA 6 (fun e w => m5_6 R (e 1) (e 6) (e 8) w) h hN
theorem s5_4 {R : VP} {Q : EQ} (hR : ∀ e w, (R (e 4) w) → Q .ret e w) (e : Env) (w : World) (h : m5_4 R (e 1) (e 5) (e 6) w) : W5 k5_4 Q e w := by
  unfold m5_4 at h
  refine seA ?_
  have hN : ∀ e w, (m5_5 R (e 1) (e 5) (e 6) w) → (thenE (W5 k5_5 Q) Q) .normal e w := fun e w h => then_N (s5_5 (R := R) (Q := Q) hR e w h)
  exact rgA 5 (fun e w => m5_5 R (e 1) (e 5) (e 6) w) h hN
theorem s5_32 {R : VP} {Q : EQ} (hN : ∀ e w, (m5_4 R (e 1) (e 5) (e 6) w) → Q .normal e w) (hR : ∀ e w, (R (e 4) w) → Q .ret e w) (e : Env) (w : World) (h : m5_32 R (e 1) (e 5) (e 6) (e 24) w) : W5 k5_32 Q e w := by
  unfold m5_32 at h
  refine coA (Operand.tmp 24) h (fun h1 => ?_) (fun h1 => ?_)
  · refine seA ?_
    have hN : ∀ e w, (m5_33 R (e 4) w) → (thenE (W5 k5_33 Q) Q) .normal e w := fun e w h => then_N (s5_33 (R := R) (Q := Q) hR e w h)
    exact rgA 4 (fun e w => m5_33 R (e 4) w) h1 hN
  · exact skA (hN _ _ h1)
theorem s5_3 {R : VP} {Q : EQ} (hR : ∀ e w, (R (e 4) w) → Q .ret e w) (e : Env) (w : World) (h : m5_3 R (e 1) (e 5) (e 6) (e 7) w) : W5 k5_3 Q e w := by
  unfold m5_3 at h
  refine seA ?_
  have hN : ∀ e w, (m5_4 R (e 1) (e 5) (e 6) w) → (thenE (W5 k5_4 Q) Q) .normal e w := fun e w h => then_N (s5_4 (R := R) (Q := Q) hR e w h)
  have hR : ∀ e w, (R (e 4) w) → (thenE (W5 k5_4 Q) Q) .ret e w := fun e w h => then_R (hR e w h)
  refine seA ?_
  have hN : ∀ e w, (m5_32 R (e 1) (e 5) (e 6) (e 24) w) → (thenE (W5 k5_32 (thenE (W5 k5_4 Q) Q)) (thenE (W5 k5_4 Q) Q)) .normal e w := fun e w h => then_N (s5_32 (R := R) (Q := (thenE (W5 k5_4 Q) Q)) hN hR e w h)
  exact rgA 3 (fun e w => m5_32 R (e 1) (e 5) (e 6) (e 24) w) h hN
theorem s5_2 {R : VP} {Q : EQ} (hR : ∀ e w, (R (e 4) w) → Q .ret e w) (e : Env) (w : World) (h : m5_2 R (e 1) (e 2) w) : W5 k5_2 Q e w := by
  unfold m5_2 at h
  refine seA ?_
  have hN : ∀ e w, (m5_3 R (e 1) (e 5) (e 6) (e 7) w) → (thenE (W5 k5_3 Q) Q) .normal e w := fun e w h => then_N (s5_3 (R := R) (Q := Q) hR e w h)
  exact rgA 2 (fun e w => m5_3 R (e 1) (e 5) (e 6) (e 7) w) h hN
theorem s5_1 {R : VP} {Q : EQ} (hR : ∀ e w, (R (e 4) w) → Q .ret e w) (e : Env) (w : World) (h : m5_1 R (e 1) (e 2) w) : W5 k5_1 Q e w := by
  unfold m5_1 at h
  refine seA ?_
  have hN : ∀ e w, (m5_2 R (e 1) (e 2) w) → (thenE (W5 k5_2 Q) Q) .normal e w := fun e w h => then_N (s5_2 (R := R) (Q := Q) hR e w h)
  exact rgA 1 (fun e w => m5_2 R (e 1) (e 2) w) h hN
theorem s5_0 {R : VP} {Q : EQ} (hR : ∀ e w, (R (e 4) w) → Q .ret e w) (e : Env) (w : World) (h : m5_0 R (e 0) (e 1) w) : W5 k5_0 Q e w := by
  unfold m5_0 at h
  refine seA ?_
  have hN : ∀ e w, (m5_1 R (e 1) (e 2) w) → (thenE (W5 k5_1 Q) Q) .normal e w := fun e w h => then_N (s5_1 (R := R) (Q := Q) hR e w h)
  exact rgA 0 (fun e w => m5_1 R (e 1) (e 2) w) h hN
abbrev m5 (R : VP) (g0 l1 : Value) (w : World) : Prop := m5_0 R g0 l1 w
theorem s5 (g0 l1 : Value) {R : VP} {w : World} (h : m5 R g0 l1 w) :
    Calls Try.prog 5 #[g0, l1] w fun e w' => ∃ v, e = .returned v ∧ R v w' :=
  calls_of_cwp (st := (fun i => cond (Nat.beq i 18) 1 (0))) (c := k5_0) (by kernel_rfl) Try.func5 (by kernel_rfl) (Nat.le_of_ble_eq_true (by kernel_rfl)) (by kernel_rfl)
    (s5_0 (R := R) (Q := endE Try.prog Try.f5 R) (fun e w h => kcast (by kernel_rfl) h) (argsE #[g0, l1]) w (kcast (by kernel_rfl) h))
end Go.Proofs.Ytojgdmcojmllkaa.M
