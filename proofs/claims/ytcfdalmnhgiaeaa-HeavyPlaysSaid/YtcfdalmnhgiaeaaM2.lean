/- What functions' texts ask of their ends, told over values that have names; printed by a program of this work. -/
import Derived.Test.YtcfdalmnhgiaeaaFw
import Derived.Test.YtcfdalmnhgiaeaaProg
namespace Go.Proofs.Ytcfdalmnhgiaeaa.M
open Go.Proofs.Ytcfdalmnhgiaeaa.F
set_option linter.unusedVariables false
set_option maxRecDepth 100000
/-! ### headgate/headgatelaw30.HeavyPlays -/
def m3_17 (R : Value → World → Prop) (t8 : Value) (w : World) : Prop :=
  R t8 w
def m3_15 (R : Value → World → Prop) (t8 : Value) (w : World) : Prop :=
  R t8 w
def m3_13 (R : Value → World → Prop) (t8 : Value) (w : World) : Prop :=
  R t8 w
def m3_11 (R : Value → World → Prop) (t8 : Value) (w : World) : Prop :=
  R t8 w
def m3_10 (R : Value → World → Prop) (n3 : Value) (h9 : Value) (r11 : Value) (a14 : Value) (b15 : Value) (c16 : Value) (d17 : Value) (w : World) : Prop :=
  anyDraw w fun w =>
  pureP Try.prog (binS BinOp.eql 3 (Operand.tmp 79) (Operand.tmp 80) a14 c16) fun t81 =>
  condP t81
  (pureP Try.prog (binS BinOp.eql 3 (Operand.tmp 83) (Operand.tmp 84) b15 d17) fun t85 =>
  pickP t81 t85 (Value.bool false) fun t86 =>
  condP t86
  (pureP Try.prog (Instr.fieldAt 30 r11 1) fun t90 =>
  (callP Try.prog (fnV 17) #[h9] w fun t89 w =>
  valP Try.prog (Instr.loadAt 3 t90) w fun t91 w =>
  pureP Try.prog (binS BinOp.eql 3 (Operand.tmp 89) (Operand.tmp 91) t89 t91) fun t92 =>
  pickP t86 t92 (Value.bool false) fun t93 =>
  condP t93
  (callP Try.prog (fnV 19) #[h9, n3] w fun t97 w =>
  callP Try.prog (fnV 20) #[r11, n3] w fun t99 w =>
  callP Try.prog (fnV 18) #[t97, t99] w fun t100 w =>
  pickP t93 t100 (Value.bool false) fun t101 =>
  condP t101
  (callP Try.prog (fnV 19) #[h9, (Value.int IntKind.i64 64)] w fun t104 w =>
  callP Try.prog (fnV 20) #[r11, (Value.int IntKind.i64 64)] w fun t105 w =>
  callP Try.prog (fnV 18) #[t104, t105] w fun t106 w =>
  pickP t101 t106 (Value.bool false) fun t107 =>
  condP t107
  (callP Try.prog (fnV 12) #[] w fun t109 w =>
  pickP t107 t109 (Value.bool false) fun t110 =>
  m3_11 R t110 w)
  (pickP t107 undef (Value.bool false) fun t110 =>
  m3_11 R t110 w))
  (pickP t101 undef (Value.bool false) fun t107 =>
  condP t107
  (callP Try.prog (fnV 12) #[] w fun t109 w =>
  pickP t107 t109 (Value.bool false) fun t110 =>
  m3_11 R t110 w)
  (pickP t107 undef (Value.bool false) fun t110 =>
  m3_11 R t110 w)))
  (pickP t93 undef (Value.bool false) fun t101 =>
  condP t101
  (callP Try.prog (fnV 19) #[h9, (Value.int IntKind.i64 64)] w fun t104 w =>
  callP Try.prog (fnV 20) #[r11, (Value.int IntKind.i64 64)] w fun t105 w =>
  callP Try.prog (fnV 18) #[t104, t105] w fun t106 w =>
  pickP t101 t106 (Value.bool false) fun t107 =>
  condP t107
  (callP Try.prog (fnV 12) #[] w fun t109 w =>
  pickP t107 t109 (Value.bool false) fun t110 =>
  m3_11 R t110 w)
  (pickP t107 undef (Value.bool false) fun t110 =>
  m3_11 R t110 w))
  (pickP t101 undef (Value.bool false) fun t107 =>
  condP t107
  (callP Try.prog (fnV 12) #[] w fun t109 w =>
  pickP t107 t109 (Value.bool false) fun t110 =>
  m3_11 R t110 w)
  (pickP t107 undef (Value.bool false) fun t110 =>
  m3_11 R t110 w)))) ∧ (valP Try.prog (Instr.loadAt 3 t90) w fun t91 w =>
  callP Try.prog (fnV 17) #[h9] w fun t89 w =>
  pureP Try.prog (binS BinOp.eql 3 (Operand.tmp 89) (Operand.tmp 91) t89 t91) fun t92 =>
  pickP t86 t92 (Value.bool false) fun t93 =>
  condP t93
  (callP Try.prog (fnV 19) #[h9, n3] w fun t97 w =>
  callP Try.prog (fnV 20) #[r11, n3] w fun t99 w =>
  callP Try.prog (fnV 18) #[t97, t99] w fun t100 w =>
  pickP t93 t100 (Value.bool false) fun t101 =>
  condP t101
  (callP Try.prog (fnV 19) #[h9, (Value.int IntKind.i64 64)] w fun t104 w =>
  callP Try.prog (fnV 20) #[r11, (Value.int IntKind.i64 64)] w fun t105 w =>
  callP Try.prog (fnV 18) #[t104, t105] w fun t106 w =>
  pickP t101 t106 (Value.bool false) fun t107 =>
  condP t107
  (callP Try.prog (fnV 12) #[] w fun t109 w =>
  pickP t107 t109 (Value.bool false) fun t110 =>
  m3_11 R t110 w)
  (pickP t107 undef (Value.bool false) fun t110 =>
  m3_11 R t110 w))
  (pickP t101 undef (Value.bool false) fun t107 =>
  condP t107
  (callP Try.prog (fnV 12) #[] w fun t109 w =>
  pickP t107 t109 (Value.bool false) fun t110 =>
  m3_11 R t110 w)
  (pickP t107 undef (Value.bool false) fun t110 =>
  m3_11 R t110 w)))
  (pickP t93 undef (Value.bool false) fun t101 =>
  condP t101
  (callP Try.prog (fnV 19) #[h9, (Value.int IntKind.i64 64)] w fun t104 w =>
  callP Try.prog (fnV 20) #[r11, (Value.int IntKind.i64 64)] w fun t105 w =>
  callP Try.prog (fnV 18) #[t104, t105] w fun t106 w =>
  pickP t101 t106 (Value.bool false) fun t107 =>
  condP t107
  (callP Try.prog (fnV 12) #[] w fun t109 w =>
  pickP t107 t109 (Value.bool false) fun t110 =>
  m3_11 R t110 w)
  (pickP t107 undef (Value.bool false) fun t110 =>
  m3_11 R t110 w))
  (pickP t101 undef (Value.bool false) fun t107 =>
  condP t107
  (callP Try.prog (fnV 12) #[] w fun t109 w =>
  pickP t107 t109 (Value.bool false) fun t110 =>
  m3_11 R t110 w)
  (pickP t107 undef (Value.bool false) fun t110 =>
  m3_11 R t110 w)))))
  ((pickP t86 undef (Value.bool false) fun t93 =>
  condP t93
  (callP Try.prog (fnV 19) #[h9, n3] w fun t97 w =>
  callP Try.prog (fnV 20) #[r11, n3] w fun t99 w =>
  callP Try.prog (fnV 18) #[t97, t99] w fun t100 w =>
  pickP t93 t100 (Value.bool false) fun t101 =>
  condP t101
  (callP Try.prog (fnV 19) #[h9, (Value.int IntKind.i64 64)] w fun t104 w =>
  callP Try.prog (fnV 20) #[r11, (Value.int IntKind.i64 64)] w fun t105 w =>
  callP Try.prog (fnV 18) #[t104, t105] w fun t106 w =>
  pickP t101 t106 (Value.bool false) fun t107 =>
  condP t107
  (callP Try.prog (fnV 12) #[] w fun t109 w =>
  pickP t107 t109 (Value.bool false) fun t110 =>
  m3_11 R t110 w)
  (pickP t107 undef (Value.bool false) fun t110 =>
  m3_11 R t110 w))
  (pickP t101 undef (Value.bool false) fun t107 =>
  condP t107
  (callP Try.prog (fnV 12) #[] w fun t109 w =>
  pickP t107 t109 (Value.bool false) fun t110 =>
  m3_11 R t110 w)
  (pickP t107 undef (Value.bool false) fun t110 =>
  m3_11 R t110 w)))
  (pickP t93 undef (Value.bool false) fun t101 =>
  condP t101
  (callP Try.prog (fnV 19) #[h9, (Value.int IntKind.i64 64)] w fun t104 w =>
  callP Try.prog (fnV 20) #[r11, (Value.int IntKind.i64 64)] w fun t105 w =>
  callP Try.prog (fnV 18) #[t104, t105] w fun t106 w =>
  pickP t101 t106 (Value.bool false) fun t107 =>
  condP t107
  (callP Try.prog (fnV 12) #[] w fun t109 w =>
  pickP t107 t109 (Value.bool false) fun t110 =>
  m3_11 R t110 w)
  (pickP t107 undef (Value.bool false) fun t110 =>
  m3_11 R t110 w))
  (pickP t101 undef (Value.bool false) fun t107 =>
  condP t107
  (callP Try.prog (fnV 12) #[] w fun t109 w =>
  pickP t107 t109 (Value.bool false) fun t110 =>
  m3_11 R t110 w)
  (pickP t107 undef (Value.bool false) fun t110 =>
  m3_11 R t110 w)))) ∧ (pickP t86 undef (Value.bool false) fun t93 =>
  condP t93
  (callP Try.prog (fnV 19) #[h9, n3] w fun t97 w =>
  callP Try.prog (fnV 20) #[r11, n3] w fun t99 w =>
  callP Try.prog (fnV 18) #[t97, t99] w fun t100 w =>
  pickP t93 t100 (Value.bool false) fun t101 =>
  condP t101
  (callP Try.prog (fnV 19) #[h9, (Value.int IntKind.i64 64)] w fun t104 w =>
  callP Try.prog (fnV 20) #[r11, (Value.int IntKind.i64 64)] w fun t105 w =>
  callP Try.prog (fnV 18) #[t104, t105] w fun t106 w =>
  pickP t101 t106 (Value.bool false) fun t107 =>
  condP t107
  (callP Try.prog (fnV 12) #[] w fun t109 w =>
  pickP t107 t109 (Value.bool false) fun t110 =>
  m3_11 R t110 w)
  (pickP t107 undef (Value.bool false) fun t110 =>
  m3_11 R t110 w))
  (pickP t101 undef (Value.bool false) fun t107 =>
  condP t107
  (callP Try.prog (fnV 12) #[] w fun t109 w =>
  pickP t107 t109 (Value.bool false) fun t110 =>
  m3_11 R t110 w)
  (pickP t107 undef (Value.bool false) fun t110 =>
  m3_11 R t110 w)))
  (pickP t93 undef (Value.bool false) fun t101 =>
  condP t101
  (callP Try.prog (fnV 19) #[h9, (Value.int IntKind.i64 64)] w fun t104 w =>
  callP Try.prog (fnV 20) #[r11, (Value.int IntKind.i64 64)] w fun t105 w =>
  callP Try.prog (fnV 18) #[t104, t105] w fun t106 w =>
  pickP t101 t106 (Value.bool false) fun t107 =>
  condP t107
  (callP Try.prog (fnV 12) #[] w fun t109 w =>
  pickP t107 t109 (Value.bool false) fun t110 =>
  m3_11 R t110 w)
  (pickP t107 undef (Value.bool false) fun t110 =>
  m3_11 R t110 w))
  (pickP t101 undef (Value.bool false) fun t107 =>
  condP t107
  (callP Try.prog (fnV 12) #[] w fun t109 w =>
  pickP t107 t109 (Value.bool false) fun t110 =>
  m3_11 R t110 w)
  (pickP t107 undef (Value.bool false) fun t110 =>
  m3_11 R t110 w))))))
  (pickP t81 undef (Value.bool false) fun t86 =>
  condP t86
  (pureP Try.prog (Instr.fieldAt 30 r11 1) fun t90 =>
  (callP Try.prog (fnV 17) #[h9] w fun t89 w =>
  valP Try.prog (Instr.loadAt 3 t90) w fun t91 w =>
  pureP Try.prog (binS BinOp.eql 3 (Operand.tmp 89) (Operand.tmp 91) t89 t91) fun t92 =>
  pickP t86 t92 (Value.bool false) fun t93 =>
  condP t93
  (callP Try.prog (fnV 19) #[h9, n3] w fun t97 w =>
  callP Try.prog (fnV 20) #[r11, n3] w fun t99 w =>
  callP Try.prog (fnV 18) #[t97, t99] w fun t100 w =>
  pickP t93 t100 (Value.bool false) fun t101 =>
  condP t101
  (callP Try.prog (fnV 19) #[h9, (Value.int IntKind.i64 64)] w fun t104 w =>
  callP Try.prog (fnV 20) #[r11, (Value.int IntKind.i64 64)] w fun t105 w =>
  callP Try.prog (fnV 18) #[t104, t105] w fun t106 w =>
  pickP t101 t106 (Value.bool false) fun t107 =>
  condP t107
  (callP Try.prog (fnV 12) #[] w fun t109 w =>
  pickP t107 t109 (Value.bool false) fun t110 =>
  m3_11 R t110 w)
  (pickP t107 undef (Value.bool false) fun t110 =>
  m3_11 R t110 w))
  (pickP t101 undef (Value.bool false) fun t107 =>
  condP t107
  (callP Try.prog (fnV 12) #[] w fun t109 w =>
  pickP t107 t109 (Value.bool false) fun t110 =>
  m3_11 R t110 w)
  (pickP t107 undef (Value.bool false) fun t110 =>
  m3_11 R t110 w)))
  (pickP t93 undef (Value.bool false) fun t101 =>
  condP t101
  (callP Try.prog (fnV 19) #[h9, (Value.int IntKind.i64 64)] w fun t104 w =>
  callP Try.prog (fnV 20) #[r11, (Value.int IntKind.i64 64)] w fun t105 w =>
  callP Try.prog (fnV 18) #[t104, t105] w fun t106 w =>
  pickP t101 t106 (Value.bool false) fun t107 =>
  condP t107
  (callP Try.prog (fnV 12) #[] w fun t109 w =>
  pickP t107 t109 (Value.bool false) fun t110 =>
  m3_11 R t110 w)
  (pickP t107 undef (Value.bool false) fun t110 =>
  m3_11 R t110 w))
  (pickP t101 undef (Value.bool false) fun t107 =>
  condP t107
  (callP Try.prog (fnV 12) #[] w fun t109 w =>
  pickP t107 t109 (Value.bool false) fun t110 =>
  m3_11 R t110 w)
  (pickP t107 undef (Value.bool false) fun t110 =>
  m3_11 R t110 w)))) ∧ (valP Try.prog (Instr.loadAt 3 t90) w fun t91 w =>
  callP Try.prog (fnV 17) #[h9] w fun t89 w =>
  pureP Try.prog (binS BinOp.eql 3 (Operand.tmp 89) (Operand.tmp 91) t89 t91) fun t92 =>
  pickP t86 t92 (Value.bool false) fun t93 =>
  condP t93
  (callP Try.prog (fnV 19) #[h9, n3] w fun t97 w =>
  callP Try.prog (fnV 20) #[r11, n3] w fun t99 w =>
  callP Try.prog (fnV 18) #[t97, t99] w fun t100 w =>
  pickP t93 t100 (Value.bool false) fun t101 =>
  condP t101
  (callP Try.prog (fnV 19) #[h9, (Value.int IntKind.i64 64)] w fun t104 w =>
  callP Try.prog (fnV 20) #[r11, (Value.int IntKind.i64 64)] w fun t105 w =>
  callP Try.prog (fnV 18) #[t104, t105] w fun t106 w =>
  pickP t101 t106 (Value.bool false) fun t107 =>
  condP t107
  (callP Try.prog (fnV 12) #[] w fun t109 w =>
  pickP t107 t109 (Value.bool false) fun t110 =>
  m3_11 R t110 w)
  (pickP t107 undef (Value.bool false) fun t110 =>
  m3_11 R t110 w))
  (pickP t101 undef (Value.bool false) fun t107 =>
  condP t107
  (callP Try.prog (fnV 12) #[] w fun t109 w =>
  pickP t107 t109 (Value.bool false) fun t110 =>
  m3_11 R t110 w)
  (pickP t107 undef (Value.bool false) fun t110 =>
  m3_11 R t110 w)))
  (pickP t93 undef (Value.bool false) fun t101 =>
  condP t101
  (callP Try.prog (fnV 19) #[h9, (Value.int IntKind.i64 64)] w fun t104 w =>
  callP Try.prog (fnV 20) #[r11, (Value.int IntKind.i64 64)] w fun t105 w =>
  callP Try.prog (fnV 18) #[t104, t105] w fun t106 w =>
  pickP t101 t106 (Value.bool false) fun t107 =>
  condP t107
  (callP Try.prog (fnV 12) #[] w fun t109 w =>
  pickP t107 t109 (Value.bool false) fun t110 =>
  m3_11 R t110 w)
  (pickP t107 undef (Value.bool false) fun t110 =>
  m3_11 R t110 w))
  (pickP t101 undef (Value.bool false) fun t107 =>
  condP t107
  (callP Try.prog (fnV 12) #[] w fun t109 w =>
  pickP t107 t109 (Value.bool false) fun t110 =>
  m3_11 R t110 w)
  (pickP t107 undef (Value.bool false) fun t110 =>
  m3_11 R t110 w)))))
  ((pickP t86 undef (Value.bool false) fun t93 =>
  condP t93
  (callP Try.prog (fnV 19) #[h9, n3] w fun t97 w =>
  callP Try.prog (fnV 20) #[r11, n3] w fun t99 w =>
  callP Try.prog (fnV 18) #[t97, t99] w fun t100 w =>
  pickP t93 t100 (Value.bool false) fun t101 =>
  condP t101
  (callP Try.prog (fnV 19) #[h9, (Value.int IntKind.i64 64)] w fun t104 w =>
  callP Try.prog (fnV 20) #[r11, (Value.int IntKind.i64 64)] w fun t105 w =>
  callP Try.prog (fnV 18) #[t104, t105] w fun t106 w =>
  pickP t101 t106 (Value.bool false) fun t107 =>
  condP t107
  (callP Try.prog (fnV 12) #[] w fun t109 w =>
  pickP t107 t109 (Value.bool false) fun t110 =>
  m3_11 R t110 w)
  (pickP t107 undef (Value.bool false) fun t110 =>
  m3_11 R t110 w))
  (pickP t101 undef (Value.bool false) fun t107 =>
  condP t107
  (callP Try.prog (fnV 12) #[] w fun t109 w =>
  pickP t107 t109 (Value.bool false) fun t110 =>
  m3_11 R t110 w)
  (pickP t107 undef (Value.bool false) fun t110 =>
  m3_11 R t110 w)))
  (pickP t93 undef (Value.bool false) fun t101 =>
  condP t101
  (callP Try.prog (fnV 19) #[h9, (Value.int IntKind.i64 64)] w fun t104 w =>
  callP Try.prog (fnV 20) #[r11, (Value.int IntKind.i64 64)] w fun t105 w =>
  callP Try.prog (fnV 18) #[t104, t105] w fun t106 w =>
  pickP t101 t106 (Value.bool false) fun t107 =>
  condP t107
  (callP Try.prog (fnV 12) #[] w fun t109 w =>
  pickP t107 t109 (Value.bool false) fun t110 =>
  m3_11 R t110 w)
  (pickP t107 undef (Value.bool false) fun t110 =>
  m3_11 R t110 w))
  (pickP t101 undef (Value.bool false) fun t107 =>
  condP t107
  (callP Try.prog (fnV 12) #[] w fun t109 w =>
  pickP t107 t109 (Value.bool false) fun t110 =>
  m3_11 R t110 w)
  (pickP t107 undef (Value.bool false) fun t110 =>
  m3_11 R t110 w)))) ∧ (pickP t86 undef (Value.bool false) fun t93 =>
  condP t93
  (callP Try.prog (fnV 19) #[h9, n3] w fun t97 w =>
  callP Try.prog (fnV 20) #[r11, n3] w fun t99 w =>
  callP Try.prog (fnV 18) #[t97, t99] w fun t100 w =>
  pickP t93 t100 (Value.bool false) fun t101 =>
  condP t101
  (callP Try.prog (fnV 19) #[h9, (Value.int IntKind.i64 64)] w fun t104 w =>
  callP Try.prog (fnV 20) #[r11, (Value.int IntKind.i64 64)] w fun t105 w =>
  callP Try.prog (fnV 18) #[t104, t105] w fun t106 w =>
  pickP t101 t106 (Value.bool false) fun t107 =>
  condP t107
  (callP Try.prog (fnV 12) #[] w fun t109 w =>
  pickP t107 t109 (Value.bool false) fun t110 =>
  m3_11 R t110 w)
  (pickP t107 undef (Value.bool false) fun t110 =>
  m3_11 R t110 w))
  (pickP t101 undef (Value.bool false) fun t107 =>
  condP t107
  (callP Try.prog (fnV 12) #[] w fun t109 w =>
  pickP t107 t109 (Value.bool false) fun t110 =>
  m3_11 R t110 w)
  (pickP t107 undef (Value.bool false) fun t110 =>
  m3_11 R t110 w)))
  (pickP t93 undef (Value.bool false) fun t101 =>
  condP t101
  (callP Try.prog (fnV 19) #[h9, (Value.int IntKind.i64 64)] w fun t104 w =>
  callP Try.prog (fnV 20) #[r11, (Value.int IntKind.i64 64)] w fun t105 w =>
  callP Try.prog (fnV 18) #[t104, t105] w fun t106 w =>
  pickP t101 t106 (Value.bool false) fun t107 =>
  condP t107
  (callP Try.prog (fnV 12) #[] w fun t109 w =>
  pickP t107 t109 (Value.bool false) fun t110 =>
  m3_11 R t110 w)
  (pickP t107 undef (Value.bool false) fun t110 =>
  m3_11 R t110 w))
  (pickP t101 undef (Value.bool false) fun t107 =>
  condP t107
  (callP Try.prog (fnV 12) #[] w fun t109 w =>
  pickP t107 t109 (Value.bool false) fun t110 =>
  m3_11 R t110 w)
  (pickP t107 undef (Value.bool false) fun t110 =>
  m3_11 R t110 w))))))
def m3_9 (R : Value → World → Prop) (key2 : Value) (n3 : Value) (h9 : Value) (r11 : Value) (a14 : Value) (b15 : Value) (w : World) : Prop :=
  callP Try.prog (fnV 16) #[r11, key2] w fun t76 w =>
  valP Try.prog (Instr.extract t76 0) w fun t77 w =>
  valP Try.prog (Instr.extract t76 1) w fun t78 w =>
  m3_10 R n3 h9 r11 a14 b15 t77 t78 w
def m3_8 (R : Value → World → Prop) (key2 : Value) (n3 : Value) (h9 : Value) (r11 : Value) (w : World) : Prop :=
  callP Try.prog (fnV 15) #[h9, key2] w fun t71 w =>
  valP Try.prog (Instr.extract t71 0) w fun t72 w =>
  valP Try.prog (Instr.extract t71 1) w fun t73 w =>
  m3_9 R key2 n3 h9 r11 t72 t73 w
def m3_12 (R : Value → World → Prop) (key2 : Value) (n3 : Value) (h9 : Value) (r11 : Value) (t67 : Value) (w : World) : Prop :=
  condP t67
  (m3_13 R (Value.bool false) w)
  (m3_8 R key2 n3 h9 r11 w)
def m3_7 (R : Value → World → Prop) (l1 : Value) (key2 : Value) (n3 : Value) (h9 : Value) (r11 : Value) (half13 : Value) (w : World) : Prop :=
  anyDraw w fun w =>
  pureP Try.prog (Instr.sliceAt 22 l1 none (some half13) none) fun t49 =>
  pureP Try.prog (Instr.sliceAt 22 l1 none (some half13) none) fun t53 =>
  callP Try.prog (fnV 13) #[h9, t49] w fun t50 w =>
  callP Try.prog (fnV 14) #[r11, t53] w fun t54 w =>
  pureP Try.prog (binS BinOp.neq 3 (Operand.tmp 50) (Operand.tmp 54) t50 t54) fun t55 =>
  condP t55
  (pickP t55 (Value.bool true) undef fun t67 =>
  m3_12 R key2 n3 h9 r11 t67 w)
  (pureP Try.prog (Instr.sliceAt 22 l1 (some half13) none none) fun t60 =>
  pureP Try.prog (Instr.sliceAt 22 l1 (some half13) none none) fun t64 =>
  callP Try.prog (fnV 13) #[h9, t60] w fun t61 w =>
  callP Try.prog (fnV 14) #[r11, t64] w fun t65 w =>
  pureP Try.prog (binS BinOp.neq 3 (Operand.tmp 61) (Operand.tmp 65) t61 t65) fun t66 =>
  pickP t55 (Value.bool true) t66 fun t67 =>
  m3_12 R key2 n3 h9 r11 t67 w)
def m3_6 (R : Value → World → Prop) (l1 : Value) (key2 : Value) (n3 : Value) (h9 : Value) (r11 : Value) (w : World) : Prop :=
  builtinP Try.prog Builtin.len #[22] 3 #[false] #[l1] w fun t44 w =>
  valP Try.prog (binS BinOp.quo 3 (Operand.tmp 44) (Operand.const (Value.int IntKind.i64 2)) t44 (Value.int IntKind.i64 2)) w fun t45 w =>
  m3_7 R l1 key2 n3 h9 r11 t45 w
def m3_14 (R : Value → World → Prop) (l1 : Value) (key2 : Value) (n3 : Value) (h9 : Value) (r11 : Value) (t41 : Value) (w : World) : Prop :=
  condP t41
  (callP Try.prog (fnV 12) #[] w fun t42 w =>
  m3_15 R t42 w)
  (m3_6 R l1 key2 n3 h9 r11 w)
def m3_5 (R : Value → World → Prop) (l1 : Value) (key2 : Value) (n3 : Value) (h9 : Value) (r11 : Value) (w : World) : Prop :=
  valP Try.prog (binS BinOp.eql 24 (Operand.tmp 40) (Operand.const (Value.pointer none)) h9 (Value.pointer none)) w fun t41 w =>
  m3_14 R l1 key2 n3 h9 r11 t41 w
def m3_16 (R : Value → World → Prop) (l1 : Value) (key2 : Value) (n3 : Value) (h9 : Value) (r11 : Value) (t39 : Value) (w : World) : Prop :=
  condP t39
  (m3_17 R (Value.bool false) w)
  (m3_5 R l1 key2 n3 h9 r11 w)
def m3_4 (R : Value → World → Prop) (l1 : Value) (key2 : Value) (n3 : Value) (h9 : Value) (e10 : Value) (r11 : Value) (f12 : Value) (w : World) : Prop :=
  valP Try.prog (binS BinOp.neq 3 (Operand.tmp 30) (Operand.tmp 31) e10 f12) w fun t32 w =>
  condP t32
  (pickP t32 (Value.bool true) undef fun t39 =>
  m3_16 R l1 key2 n3 h9 r11 t39 w)
  (valP Try.prog (binS BinOp.eql 24 (Operand.tmp 34) (Operand.const (Value.pointer none)) h9 (Value.pointer none)) w fun t35 w =>
  valP Try.prog (binS BinOp.neq 3 (Operand.tmp 36) (Operand.const (Value.int IntKind.i64 0)) f12 (Value.int IntKind.i64 0)) w fun t37 w =>
  valP Try.prog (binS BinOp.neq 4 (Operand.tmp 35) (Operand.tmp 37) t35 t37) w fun t38 w =>
  pickP t32 (Value.bool true) t38 fun t39 =>
  m3_16 R l1 key2 n3 h9 r11 t39 w)
def m3_3 (R : Value → World → Prop) (most0 : Value) (l1 : Value) (key2 : Value) (n3 : Value) (h9 : Value) (e10 : Value) (w : World) : Prop :=
  callP Try.prog (fnV 11) #[most0] w fun t27 w =>
  valP Try.prog (Instr.extract t27 0) w fun t28 w =>
  valP Try.prog (Instr.extract t27 1) w fun t29 w =>
  valP Try.prog (Instr.alloc 30 true (.tuple #[])) w fun r11 w =>
  unitP Try.prog (Instr.storeAt 30 r11 t28) w fun _ w =>
  m3_4 R l1 key2 n3 h9 e10 r11 t29 w
def m3_2 (R : Value → World → Prop) (most0 : Value) (l1 : Value) (key2 : Value) (n3 : Value) (w : World) : Prop :=
  callP Try.prog (fnV 10) #[most0] w fun t22 w =>
  valP Try.prog (Instr.extract t22 0) w fun t23 w =>
  valP Try.prog (Instr.extract t22 1) w fun t24 w =>
  m3_3 R most0 l1 key2 n3 t23 t24 w
def m3_1 (R : Value → World → Prop) (most0 : Value) (l1 : Value) (key2 : Value) (n3 : Value) (w : World) : Prop :=
  callP Try.prog (fnV 9) #[l1] w fun t19 w =>
  m3_2 R most0 t19 key2 n3 w
def m3_0 (R : Value → World → Prop) (most0 : Value) (l1 : Value) (key2 : Value) (n3 : Value) (w : World) : Prop :=
  m3_1 R most0 l1 key2 n3 w
abbrev W3 := cwp Try.prog (fun i => 0)
noncomputable def k3_0 : Code := (bodyOf Try.f3)
noncomputable def k3_1 : Code := (c2 k3_0)
noncomputable def k3_2 : Code := (c2 k3_1)
noncomputable def k3_3 : Code := (c2 k3_2)
noncomputable def k3_4 : Code := (c2 k3_3)
noncomputable def k3_5 : Code := (c2 k3_4)
noncomputable def k3_6 : Code := (c2 k3_5)
noncomputable def k3_7 : Code := (c2 k3_6)
noncomputable def k3_8 : Code := (c2 k3_7)
noncomputable def k3_9 : Code := (c2 k3_8)
noncomputable def k3_10 : Code := (c2 k3_9)
noncomputable def k3_11 : Code := (c2 k3_10)
noncomputable def k3_12 : Code := (c2 (c1 k3_7))
noncomputable def k3_13 : Code := (c2 (c1 k3_12))
noncomputable def k3_14 : Code := (c2 (c1 k3_5))
noncomputable def k3_15 : Code := (c2 (c1 k3_14))
noncomputable def k3_16 : Code := (c2 (c1 k3_4))
noncomputable def k3_17 : Code := (c2 (c1 k3_16))
theorem s3_17 {R : Value → World → Prop} {Q : Exit → Env → World → Prop} (hR : ∀ e w, (R (e 8) w) → Q .ret e w) (e : Env) (w : World) (h : m3_17 R (e 8) w) : W3 k3_17 Q e w := by
  unfold m3_17 at h
  exact ret_ok (by kernel_rfl) (hR _ _ h)
theorem s3_15 {R : Value → World → Prop} {Q : Exit → Env → World → Prop} (hR : ∀ e w, (R (e 8) w) → Q .ret e w) (e : Env) (w : World) (h : m3_15 R (e 8) w) : W3 k3_15 Q e w := by
  unfold m3_15 at h
  exact ret_ok (by kernel_rfl) (hR _ _ h)
theorem s3_13 {R : Value → World → Prop} {Q : Exit → Env → World → Prop} (hR : ∀ e w, (R (e 8) w) → Q .ret e w) (e : Env) (w : World) (h : m3_13 R (e 8) w) : W3 k3_13 Q e w := by
  unfold m3_13 at h
  exact ret_ok (by kernel_rfl) (hR _ _ h)
theorem s3_11 {R : Value → World → Prop} {Q : Exit → Env → World → Prop} (hR : ∀ e w, (R (e 8) w) → Q .ret e w) (e : Env) (w : World) (h : m3_11 R (e 8) w) : W3 k3_11 Q e w := by
  unfold m3_11 at h
  exact ret_ok (by kernel_rfl) (hR _ _ h)
theorem s3_10 {R : Value → World → Prop} {Q : Exit → Env → World → Prop} (hR : ∀ e w, (R (e 8) w) → Q .ret e w) (e : Env) (w : World) (h : m3_10 R (e 3) (e 9) (e 11) (e 14) (e 15) (e 16) (e 17) w) : W3 k3_10 Q e w := by
  unfold m3_10 at h
  refine seq_ok' (by kernel_rfl) ?_
  have hN' : ∀ e w, (m3_11 R (e 8) w) → (thenE (W3 k3_11 Q) Q) .normal e w := fun e w h => then_N (s3_11 (R := R) (Q := Q) hR e w h)
  have hN := hN'
  exact tree_ok 13 33 [false, false, false, false, false, false, false, false, false, false, false, false, false, false, false, false, false, false, false, false, false, false, false, false, false, false, false, false, false, false, false, false, false] (.take 0 [true, false, false, false, false, false, false, false, false, false, false, false, false, false, false, false, false, false, false, false, false, false, false, false, false, false, false, false, false, false, false, false, false] (.take 1 [true, true, false, false, false, false, false, false, false, false, false, false, false, false, false, false, false, false, false, false, false, false, false, false, false, false, false, false, false, false, false, false, false] (.take 2 [true, true, true, false, false, false, false, false, false, false, false, false, false, false, false, false, false, false, false, false, false, false, false, false, false, false, false, false, false, false, false, false, false] (.take 3 [true, true, true, true, false, false, false, false, false, false, false, false, false, false, false, false, false, false, false, false, false, false, false, false, false, false, false, false, false, false, false, false, false] (.take 4 [true, true, true, true, true, false, false, false, false, false, false, false, false, false, false, false, false, false, false, false, false, false, false, false, false, false, false, false, false, false, false, false, false] (.take 5 [true, true, true, true, true, true, false, false, false, false, false, false, false, false, false, false, false, false, false, false, false, false, false, false, false, false, false, false, false, false, false, false, false] (.take 6 [true, true, true, true, true, true, true, false, false, false, false, false, false, false, false, false, false, false, false, false, false, false, false, false, false, false, false, false, false, false, false, false, false] (.take 7 [true, true, true, true, true, true, true, true, false, false, false, false, false, false, false, false, false, false, false, false, false, false, false, false, false, false, false, false, false, false, false, false, false] (.take 8 [true, true, true, true, true, true, true, true, true, false, false, false, false, false, false, false, false, false, false, false, false, false, false, false, false, false, false, false, false, false, false, false, false] (.take 9 [true, true, true, true, true, true, true, true, true, true, false, false, false, false, false, false, false, false, false, false, false, false, false, false, false, false, false, false, false, false, false, false, false] (.take 11 [true, true, true, true, true, true, true, true, true, true, false, true, false, false, false, false, false, false, false, false, false, false, false, false, false, false, false, false, false, false, false, false, false] (.alt 10 [true, true, true, true, true, true, true, true, true, true, true, true, false, false, false, false, false, false, false, false, false, false, false, false, false, false, false, false, false, false, false, false, false] (.alt 12 [true, true, true, true, true, true, true, true, true, true, true, true, true, false, false, false, false, false, false, false, false, false, false, false, false, false, false, false, false, false, false, false, false] (.take 13 [true, true, true, true, true, true, true, true, true, true, true, true, true, true, false, false, false, false, false, false, false, false, false, false, false, false, false, false, false, false, false, false, false] (.take 14 [true, true, true, true, true, true, true, true, true, true, true, true, true, true, true, false, false, false, false, false, false, false, false, false, false, false, false, false, false, false, false, false, false] (.take 15 [true, true, true, true, true, true, true, true, true, true, true, true, true, true, true, true, false, false, false, false, false, false, false, false, false, false, false, false, false, false, false, false, false] (.take 16 [true, true, true, true, true, true, true, true, true, true, true, true, true, true, true, true, true, false, false, false, false, false, false, false, false, false, false, false, false, false, false, false, false] (.take 17 [true, true, true, true, true, true, true, true, true, true, true, true, true, true, true, true, true, true, false, false, false, false, false, false, false, false, false, false, false, false, false, false, false] (.take 19 [true, true, true, true, true, true, true, true, true, true, true, true, true, true, true, true, true, true, false, true, false, false, false, false, false, false, false, false, false, false, false, false, false] (.alt 18 [true, true, true, true, true, true, true, true, true, true, true, true, true, true, true, true, true, true, true, true, false, false, false, false, false, false, false, false, false, false, false, false, false] (.alt 20 [true, true, true, true, true, true, true, true, true, true, true, true, true, true, true, true, true, true, true, true, true, false, false, false, false, false, false, false, false, false, false, false, false] (.alt 21 [true, true, true, true, true, true, true, true, true, true, true, true, true, true, true, true, true, true, true, true, true, true, false, false, false, false, false, false, false, false, false, false, false] (.take 22 [true, true, true, true, true, true, true, true, true, true, true, true, true, true, true, true, true, true, true, true, true, true, true, false, false, false, false, false, false, false, false, false, false] (.take 23 [true, true, true, true, true, true, true, true, true, true, true, true, true, true, true, true, true, true, true, true, true, true, true, true, false, false, false, false, false, false, false, false, false] (.take 24 [true, true, true, true, true, true, true, true, true, true, true, true, true, true, true, true, true, true, true, true, true, true, true, true, true, false, false, false, false, false, false, false, false] (.alt 25 [true, true, true, true, true, true, true, true, true, true, true, true, true, true, true, true, true, true, true, true, true, true, true, true, true, true, false, false, false, false, false, false, false] (.alt 26 [true, true, true, true, true, true, true, true, true, true, true, true, true, true, true, true, true, true, true, true, true, true, true, true, true, true, true, false, false, false, false, false, false] (.alt 27 [true, true, true, true, true, true, true, true, true, true, true, true, true, true, true, true, true, true, true, true, true, true, true, true, true, true, true, true, false, false, false, false, false] (.take 28 [true, true, true, true, true, true, true, true, true, true, true, true, true, true, true, true, true, true, true, true, true, true, true, true, true, true, true, true, true, false, false, false, false] (.take 29 [true, true, true, true, true, true, true, true, true, true, true, true, true, true, true, true, true, true, true, true, true, true, true, true, true, true, true, true, true, true, false, false, false] (.alt 30 [true, true, true, true, true, true, true, true, true, true, true, true, true, true, true, true, true, true, true, true, true, true, true, true, true, true, true, true, true, true, true, false, false] (.take 31 [true, true, true, true, true, true, true, true, true, true, true, true, true, true, true, true, true, true, true, true, true, true, true, true, true, true, true, true, true, true, true, true, false] (.take 32 [true, true, true, true, true, true, true, true, true, true, true, true, true, true, true, true, true, true, true, true, true, true, true, true, true, true, true, true, true, true, true, true, true] .done)) .stop))) .stop) .stop) .stop)))) .stop) .stop) .stop))))))) .stop) (.alt 12 [true, true, true, true, true, true, true, true, true, true, false, true, true, false, false, false, false, false, false, false, false, false, false, false, false, false, false, false, false, false, false, false, false] (.alt 10 [true, true, true, true, true, true, true, true, true, true, true, true, true, false, false, false, false, false, false, false, false, false, false, false, false, false, false, false, false, false, false, false, false] (.take 13 [true, true, true, true, true, true, true, true, true, true, true, true, true, true, false, false, false, false, false, false, false, false, false, false, false, false, false, false, false, false, false, false, false] (.take 14 [true, true, true, true, true, true, true, true, true, true, true, true, true, true, true, false, false, false, false, false, false, false, false, false, false, false, false, false, false, false, false, false, false] (.take 15 [true, true, true, true, true, true, true, true, true, true, true, true, true, true, true, true, false, false, false, false, false, false, false, false, false, false, false, false, false, false, false, false, false] (.take 16 [true, true, true, true, true, true, true, true, true, true, true, true, true, true, true, true, true, false, false, false, false, false, false, false, false, false, false, false, false, false, false, false, false] (.take 17 [true, true, true, true, true, true, true, true, true, true, true, true, true, true, true, true, true, true, false, false, false, false, false, false, false, false, false, false, false, false, false, false, false] (.take 19 [true, true, true, true, true, true, true, true, true, true, true, true, true, true, true, true, true, true, false, true, false, false, false, false, false, false, false, false, false, false, false, false, false] (.alt 18 [true, true, true, true, true, true, true, true, true, true, true, true, true, true, true, true, true, true, true, true, false, false, false, false, false, false, false, false, false, false, false, false, false] (.alt 20 [true, true, true, true, true, true, true, true, true, true, true, true, true, true, true, true, true, true, true, true, true, false, false, false, false, false, false, false, false, false, false, false, false] (.alt 21 [true, true, true, true, true, true, true, true, true, true, true, true, true, true, true, true, true, true, true, true, true, true, false, false, false, false, false, false, false, false, false, false, false] (.take 22 [true, true, true, true, true, true, true, true, true, true, true, true, true, true, true, true, true, true, true, true, true, true, true, false, false, false, false, false, false, false, false, false, false] (.take 23 [true, true, true, true, true, true, true, true, true, true, true, true, true, true, true, true, true, true, true, true, true, true, true, true, false, false, false, false, false, false, false, false, false] (.take 24 [true, true, true, true, true, true, true, true, true, true, true, true, true, true, true, true, true, true, true, true, true, true, true, true, true, false, false, false, false, false, false, false, false] (.alt 25 [true, true, true, true, true, true, true, true, true, true, true, true, true, true, true, true, true, true, true, true, true, true, true, true, true, true, false, false, false, false, false, false, false] (.alt 26 [true, true, true, true, true, true, true, true, true, true, true, true, true, true, true, true, true, true, true, true, true, true, true, true, true, true, true, false, false, false, false, false, false] (.alt 27 [true, true, true, true, true, true, true, true, true, true, true, true, true, true, true, true, true, true, true, true, true, true, true, true, true, true, true, true, false, false, false, false, false] (.take 28 [true, true, true, true, true, true, true, true, true, true, true, true, true, true, true, true, true, true, true, true, true, true, true, true, true, true, true, true, true, false, false, false, false] (.take 29 [true, true, true, true, true, true, true, true, true, true, true, true, true, true, true, true, true, true, true, true, true, true, true, true, true, true, true, true, true, true, false, false, false] (.alt 30 [true, true, true, true, true, true, true, true, true, true, true, true, true, true, true, true, true, true, true, true, true, true, true, true, true, true, true, true, true, true, true, false, false] (.take 31 [true, true, true, true, true, true, true, true, true, true, true, true, true, true, true, true, true, true, true, true, true, true, true, true, true, true, true, true, true, true, true, true, false] (.take 32 [true, true, true, true, true, true, true, true, true, true, true, true, true, true, true, true, true, true, true, true, true, true, true, true, true, true, true, true, true, true, true, true, true] .done)) .stop))) .stop) .stop) .stop)))) .stop) .stop) .stop))))))) .stop) .stop))))))))))))) (fun e w => m3_11 R (e 8) w) (by kernel_rfl) (by kernel_rfl) (by kernel_rfl) (by kernel_rfl) (by kernel_rfl) (by kernel_rfl) (kcast (by kernel_rfl) h) hN (by kernel_rfl)
theorem s3_9 {R : Value → World → Prop} {Q : Exit → Env → World → Prop} (hR : ∀ e w, (R (e 8) w) → Q .ret e w) (e : Env) (w : World) (h : m3_9 R (e 2) (e 3) (e 9) (e 11) (e 14) (e 15) w) : W3 k3_9 Q e w := by
  unfold m3_9 at h
  refine seq_ok' (by kernel_rfl) ?_
  have hN' : ∀ e w, (m3_10 R (e 3) (e 9) (e 11) (e 14) (e 15) (e 16) (e 17) w) → (thenE (W3 k3_10 Q) Q) .normal e w := fun e w h => then_N (s3_10 (R := R) (Q := Q) hR e w h)
  have hN := hN'
  exact region_ok 12 (fun e w => m3_10 R (e 3) (e 9) (e 11) (e 14) (e 15) (e 16) (e 17) w) (by kernel_rfl) (kcast (by kernel_rfl) h) hN (by kernel_rfl)
theorem s3_8 {R : Value → World → Prop} {Q : Exit → Env → World → Prop} (hR : ∀ e w, (R (e 8) w) → Q .ret e w) (e : Env) (w : World) (h : m3_8 R (e 2) (e 3) (e 9) (e 11) w) : W3 k3_8 Q e w := by
  unfold m3_8 at h
  refine seq_ok' (by kernel_rfl) ?_
  have hN' : ∀ e w, (m3_9 R (e 2) (e 3) (e 9) (e 11) (e 14) (e 15) w) → (thenE (W3 k3_9 Q) Q) .normal e w := fun e w h => then_N (s3_9 (R := R) (Q := Q) hR e w h)
  have hN := hN'
  exact region_ok 11 (fun e w => m3_9 R (e 2) (e 3) (e 9) (e 11) (e 14) (e 15) w) (by kernel_rfl) (kcast (by kernel_rfl) h) hN (by kernel_rfl)
theorem s3_12 {R : Value → World → Prop} {Q : Exit → Env → World → Prop} (hN : ∀ e w, (m3_8 R (e 2) (e 3) (e 9) (e 11) w) → Q .normal e w) (hR : ∀ e w, (R (e 8) w) → Q .ret e w) (e : Env) (w : World) (h : m3_12 R (e 2) (e 3) (e 9) (e 11) (e 67) w) : W3 k3_12 Q e w := by
  unfold m3_12 at h
  refine cond_ok (Operand.tmp 67) (by kernel_rfl) h (fun h1 => ?_) (fun h1 => ?_)
  · refine seq_ok' (by kernel_rfl) ?_
    have hN' : ∀ e w, (m3_13 R (e 8) w) → (thenE (W3 k3_13 Q) Q) .normal e w := fun e w h => then_N (s3_13 (R := R) (Q := Q) hR e w h)
    have hN := hN'
    exact region_ok 10 (fun e w => m3_13 R (e 8) w) (by kernel_rfl) (kcast (by kernel_rfl) h1) hN (by kernel_rfl)
  · exact skip_ok (by kernel_rfl) (hN _ _ h1)
theorem s3_7 {R : Value → World → Prop} {Q : Exit → Env → World → Prop} (hR : ∀ e w, (R (e 8) w) → Q .ret e w) (e : Env) (w : World) (h : m3_7 R (e 1) (e 2) (e 3) (e 9) (e 11) (e 13) w) : W3 k3_7 Q e w := by
  unfold m3_7 at h
  refine seq_ok' (by kernel_rfl) ?_
  have hN' : ∀ e w, (m3_8 R (e 2) (e 3) (e 9) (e 11) w) → (thenE (W3 k3_8 Q) Q) .normal e w := fun e w h => then_N (s3_8 (R := R) (Q := Q) hR e w h)
  have hR : ∀ e w, (R (e 8) w) → (thenE (W3 k3_8 Q) Q) .ret e w := fun e w h => then_R (hR e w h)
  have hN := hN'
  refine seq_ok' (by kernel_rfl) ?_
  have hN' : ∀ e w, (m3_12 R (e 2) (e 3) (e 9) (e 11) (e 67) w) → (thenE (W3 k3_12 (thenE (W3 k3_8 Q) Q)) (thenE (W3 k3_8 Q) Q)) .normal e w := fun e w h => then_N (s3_12 (R := R) (Q := (thenE (W3 k3_8 Q) Q)) hN hR e w h)
  have hN := hN'
  exact tree_ok 9 22 [false, false, false, false, false, false, false, false, false, false, false, false, false, false, false, false, false, false, false, false, false, false] (.take 0 [true, false, false, false, false, false, false, false, false, false, false, false, false, false, false, false, false, false, false, false, false, false] (.take 1 [true, true, false, false, false, false, false, false, false, false, false, false, false, false, false, false, false, false, false, false, false, false] (.take 2 [true, true, true, false, false, false, false, false, false, false, false, false, false, false, false, false, false, false, false, false, false, false] (.take 3 [true, true, true, true, false, false, false, false, false, false, false, false, false, false, false, false, false, false, false, false, false, false] (.take 5 [true, true, true, true, false, true, false, false, false, false, false, false, false, false, false, false, false, false, false, false, false, false] (.take 6 [true, true, true, true, false, true, true, false, false, false, false, false, false, false, false, false, false, false, false, false, false, false] (.take 7 [true, true, true, true, false, true, true, true, false, false, false, false, false, false, false, false, false, false, false, false, false, false] (.alt 4 [true, true, true, true, true, true, true, true, false, false, false, false, false, false, false, false, false, false, false, false, false, false] (.alt 8 [true, true, true, true, true, true, true, true, true, false, false, false, false, false, false, false, false, false, false, false, false, false] (.take 9 [true, true, true, true, true, true, true, true, true, true, false, false, false, false, false, false, false, false, false, false, false, false] (.take 10 [true, true, true, true, true, true, true, true, true, true, true, false, false, false, false, false, false, false, false, false, false, false] (.take 11 [true, true, true, true, true, true, true, true, true, true, true, true, false, false, false, false, false, false, false, false, false, false] (.take 12 [true, true, true, true, true, true, true, true, true, true, true, true, true, false, false, false, false, false, false, false, false, false] (.take 13 [true, true, true, true, true, true, true, true, true, true, true, true, true, true, false, false, false, false, false, false, false, false] (.take 14 [true, true, true, true, true, true, true, true, true, true, true, true, true, true, true, false, false, false, false, false, false, false] (.take 16 [true, true, true, true, true, true, true, true, true, true, true, true, true, true, true, false, true, false, false, false, false, false] (.take 17 [true, true, true, true, true, true, true, true, true, true, true, true, true, true, true, false, true, true, false, false, false, false] (.take 18 [true, true, true, true, true, true, true, true, true, true, true, true, true, true, true, false, true, true, true, false, false, false] (.alt 15 [true, true, true, true, true, true, true, true, true, true, true, true, true, true, true, true, true, true, true, false, false, false] (.alt 19 [true, true, true, true, true, true, true, true, true, true, true, true, true, true, true, true, true, true, true, true, false, false] (.take 20 [true, true, true, true, true, true, true, true, true, true, true, true, true, true, true, true, true, true, true, true, true, false] (.take 21 [true, true, true, true, true, true, true, true, true, true, true, true, true, true, true, true, true, true, true, true, true, true] .done)) .stop) .stop)))))))))) .stop) .stop)))))))) (fun e w => m3_12 R (e 2) (e 3) (e 9) (e 11) (e 67) w) (by kernel_rfl) (by kernel_rfl) (by kernel_rfl) (by kernel_rfl) (by kernel_rfl) (by kernel_rfl) (kcast (by kernel_rfl) h) hN (by kernel_rfl)
theorem s3_6 {R : Value → World → Prop} {Q : Exit → Env → World → Prop} (hR : ∀ e w, (R (e 8) w) → Q .ret e w) (e : Env) (w : World) (h : m3_6 R (e 1) (e 2) (e 3) (e 9) (e 11) w) : W3 k3_6 Q e w := by
  unfold m3_6 at h
  refine seq_ok' (by kernel_rfl) ?_
  have hN' : ∀ e w, (m3_7 R (e 1) (e 2) (e 3) (e 9) (e 11) (e 13) w) → (thenE (W3 k3_7 Q) Q) .normal e w := fun e w h => then_N (s3_7 (R := R) (Q := Q) hR e w h)
  have hN := hN'
  exact region_ok 8 (fun e w => m3_7 R (e 1) (e 2) (e 3) (e 9) (e 11) (e 13) w) (by kernel_rfl) (kcast (by kernel_rfl) h) hN (by kernel_rfl)
theorem s3_14 {R : Value → World → Prop} {Q : Exit → Env → World → Prop} (hN : ∀ e w, (m3_6 R (e 1) (e 2) (e 3) (e 9) (e 11) w) → Q .normal e w) (hR : ∀ e w, (R (e 8) w) → Q .ret e w) (e : Env) (w : World) (h : m3_14 R (e 1) (e 2) (e 3) (e 9) (e 11) (e 41) w) : W3 k3_14 Q e w := by
  unfold m3_14 at h
  refine cond_ok (Operand.tmp 41) (by kernel_rfl) h (fun h1 => ?_) (fun h1 => ?_)
  · refine seq_ok' (by kernel_rfl) ?_
    have hN' : ∀ e w, (m3_15 R (e 8) w) → (thenE (W3 k3_15 Q) Q) .normal e w := fun e w h => then_N (s3_15 (R := R) (Q := Q) hR e w h)
    have hN := hN'
    exact region_ok 7 (fun e w => m3_15 R (e 8) w) (by kernel_rfl) (kcast (by kernel_rfl) h1) hN (by kernel_rfl)
  · exact skip_ok (by kernel_rfl) (hN _ _ h1)
theorem s3_5 {R : Value → World → Prop} {Q : Exit → Env → World → Prop} (hR : ∀ e w, (R (e 8) w) → Q .ret e w) (e : Env) (w : World) (h : m3_5 R (e 1) (e 2) (e 3) (e 9) (e 11) w) : W3 k3_5 Q e w := by
  unfold m3_5 at h
  refine seq_ok' (by kernel_rfl) ?_
  have hN' : ∀ e w, (m3_6 R (e 1) (e 2) (e 3) (e 9) (e 11) w) → (thenE (W3 k3_6 Q) Q) .normal e w := fun e w h => then_N (s3_6 (R := R) (Q := Q) hR e w h)
  have hR : ∀ e w, (R (e 8) w) → (thenE (W3 k3_6 Q) Q) .ret e w := fun e w h => then_R (hR e w h)
  have hN := hN'
  refine seq_ok' (by kernel_rfl) ?_
  have hN' : ∀ e w, (m3_14 R (e 1) (e 2) (e 3) (e 9) (e 11) (e 41) w) → (thenE (W3 k3_14 (thenE (W3 k3_6 Q) Q)) (thenE (W3 k3_6 Q) Q)) .normal e w := fun e w h => then_N (s3_14 (R := R) (Q := (thenE (W3 k3_6 Q) Q)) hN hR e w h)
  have hN := hN'
  exact region_ok 6 (fun e w => m3_14 R (e 1) (e 2) (e 3) (e 9) (e 11) (e 41) w) (by kernel_rfl) (kcast (by kernel_rfl) h) hN (by kernel_rfl)
theorem s3_16 {R : Value → World → Prop} {Q : Exit → Env → World → Prop} (hN : ∀ e w, (m3_5 R (e 1) (e 2) (e 3) (e 9) (e 11) w) → Q .normal e w) (hR : ∀ e w, (R (e 8) w) → Q .ret e w) (e : Env) (w : World) (h : m3_16 R (e 1) (e 2) (e 3) (e 9) (e 11) (e 39) w) : W3 k3_16 Q e w := by
  unfold m3_16 at h
  refine cond_ok (Operand.tmp 39) (by kernel_rfl) h (fun h1 => ?_) (fun h1 => ?_)
  · refine seq_ok' (by kernel_rfl) ?_
    have hN' : ∀ e w, (m3_17 R (e 8) w) → (thenE (W3 k3_17 Q) Q) .normal e w := fun e w h => then_N (s3_17 (R := R) (Q := Q) hR e w h)
    have hN := hN'
    exact region_ok 5 (fun e w => m3_17 R (e 8) w) (by kernel_rfl) (kcast (by kernel_rfl) h1) hN (by kernel_rfl)
  · exact skip_ok (by kernel_rfl) (hN _ _ h1)
theorem s3_4 {R : Value → World → Prop} {Q : Exit → Env → World → Prop} (hR : ∀ e w, (R (e 8) w) → Q .ret e w) (e : Env) (w : World) (h : m3_4 R (e 1) (e 2) (e 3) (e 9) (e 10) (e 11) (e 12) w) : W3 k3_4 Q e w := by
  unfold m3_4 at h
  refine seq_ok' (by kernel_rfl) ?_
  have hN' : ∀ e w, (m3_5 R (e 1) (e 2) (e 3) (e 9) (e 11) w) → (thenE (W3 k3_5 Q) Q) .normal e w := fun e w h => then_N (s3_5 (R := R) (Q := Q) hR e w h)
  have hR : ∀ e w, (R (e 8) w) → (thenE (W3 k3_5 Q) Q) .ret e w := fun e w h => then_R (hR e w h)
  have hN := hN'
  refine seq_ok' (by kernel_rfl) ?_
  have hN' : ∀ e w, (m3_16 R (e 1) (e 2) (e 3) (e 9) (e 11) (e 39) w) → (thenE (W3 k3_16 (thenE (W3 k3_5 Q) Q)) (thenE (W3 k3_5 Q) Q)) .normal e w := fun e w h => then_N (s3_16 (R := R) (Q := (thenE (W3 k3_5 Q) Q)) hN hR e w h)
  have hN := hN'
  exact region_ok 4 (fun e w => m3_16 R (e 1) (e 2) (e 3) (e 9) (e 11) (e 39) w) (by kernel_rfl) (kcast (by kernel_rfl) h) hN (by kernel_rfl)
theorem s3_3 {R : Value → World → Prop} {Q : Exit → Env → World → Prop} (hR : ∀ e w, (R (e 8) w) → Q .ret e w) (e : Env) (w : World) (h : m3_3 R (e 0) (e 1) (e 2) (e 3) (e 9) (e 10) w) : W3 k3_3 Q e w := by
  unfold m3_3 at h
  refine seq_ok' (by kernel_rfl) ?_
  have hN' : ∀ e w, (m3_4 R (e 1) (e 2) (e 3) (e 9) (e 10) (e 11) (e 12) w) → (thenE (W3 k3_4 Q) Q) .normal e w := fun e w h => then_N (s3_4 (R := R) (Q := Q) hR e w h)
  have hN := hN'
  exact region_ok 3 (fun e w => m3_4 R (e 1) (e 2) (e 3) (e 9) (e 10) (e 11) (e 12) w) (by kernel_rfl) (kcast (by kernel_rfl) h) hN (by kernel_rfl)
theorem s3_2 {R : Value → World → Prop} {Q : Exit → Env → World → Prop} (hR : ∀ e w, (R (e 8) w) → Q .ret e w) (e : Env) (w : World) (h : m3_2 R (e 0) (e 1) (e 2) (e 3) w) : W3 k3_2 Q e w := by
  unfold m3_2 at h
  refine seq_ok' (by kernel_rfl) ?_
  have hN' : ∀ e w, (m3_3 R (e 0) (e 1) (e 2) (e 3) (e 9) (e 10) w) → (thenE (W3 k3_3 Q) Q) .normal e w := fun e w h => then_N (s3_3 (R := R) (Q := Q) hR e w h)
  have hN := hN'
  exact region_ok 2 (fun e w => m3_3 R (e 0) (e 1) (e 2) (e 3) (e 9) (e 10) w) (by kernel_rfl) (kcast (by kernel_rfl) h) hN (by kernel_rfl)
theorem s3_1 {R : Value → World → Prop} {Q : Exit → Env → World → Prop} (hR : ∀ e w, (R (e 8) w) → Q .ret e w) (e : Env) (w : World) (h : m3_1 R (e 0) (e 1) (e 2) (e 3) w) : W3 k3_1 Q e w := by
  unfold m3_1 at h
  refine seq_ok' (by kernel_rfl) ?_
  have hN' : ∀ e w, (m3_2 R (e 0) (e 1) (e 2) (e 3) w) → (thenE (W3 k3_2 Q) Q) .normal e w := fun e w h => then_N (s3_2 (R := R) (Q := Q) hR e w h)
  have hN := hN'
  exact region_ok 1 (fun e w => m3_2 R (e 0) (e 1) (e 2) (e 3) w) (by kernel_rfl) (kcast (by kernel_rfl) h) hN (by kernel_rfl)
theorem s3_0 {R : Value → World → Prop} {Q : Exit → Env → World → Prop} (hR : ∀ e w, (R (e 8) w) → Q .ret e w) (e : Env) (w : World) (h : m3_0 R (e 0) (e 1) (e 2) (e 3) w) : W3 k3_0 Q e w := by
  unfold m3_0 at h
  refine seq_ok' (by kernel_rfl) ?_
  have hN' : ∀ e w, (m3_1 R (e 0) (e 1) (e 2) (e 3) w) → (thenE (W3 k3_1 Q) Q) .normal e w := fun e w h => then_N (s3_1 (R := R) (Q := Q) hR e w h)
  have hN := hN'
  exact region_ok 0 (fun e w => m3_1 R (e 0) (e 1) (e 2) (e 3) w) (by kernel_rfl) (kcast (by kernel_rfl) h) hN (by kernel_rfl)
abbrev m3 (R : Value → World → Prop) (most0 : Value) (l1 : Value) (key2 : Value) (n3 : Value) (w : World) : Prop := m3_0 R most0 l1 key2 n3 w
theorem s3 (most0 : Value) (l1 : Value) (key2 : Value) (n3 : Value) {R : Value → World → Prop} {w : World} (h : m3 R most0 l1 key2 n3 w) :
    Calls Try.prog 3 #[most0, l1, key2, n3] w fun e w' => ∃ v, e = .returned v ∧ R v w' :=
  calls_of_cwp (st := (fun i => 0)) (c := k3_0) (by kernel_rfl) Try.func3 (by kernel_rfl) (Nat.le_of_ble_eq_true (by kernel_rfl)) (by kernel_rfl)
    (s3_0 (R := R) (Q := endE Try.prog Try.f3 R) (fun e w h => kcast (by kernel_rfl) h) (argsE #[most0, l1, key2, n3]) w (kcast (by kernel_rfl) h))
/-! ### headgate/headgatelaw30.HeavyBounds -/
def m4_23 (R : Value → World → Prop) (t6 : Value) (w : World) : Prop :=
  R t6 w
def m4_21 (R : Value → World → Prop) (t6 : Value) (w : World) : Prop :=
  R t6 w
def m4_18 (R : Value → World → Prop) (K1 : Value → World → Prop) (t6 : Value) (w : World) : Prop :=
  R t6 w
def m4_14 (R : Value → World → Prop) (K1 : Value → World → Prop) (l1 : Value) (h7 : Value) (all11 : Value) (i12 : Value) (w : World) : Prop :=
  valP Try.prog (binS BinOp.add 3 (Operand.tmp 46) (Operand.const (Value.int IntKind.i64 1)) i12 (Value.int IntKind.i64 1)) w fun t47 w =>
  K1 t47 w
def m4_17 (R : Value → World → Prop) (K1 : Value → World → Prop) (l1 : Value) (h7 : Value) (all11 : Value) (i12 : Value) (t96 : Value) (w : World) : Prop :=
  condP t96
  (m4_18 R K1 (Value.bool false) w)
  (m4_14 R K1 l1 h7 all11 i12 w)
def m4_16 (R : Value → World → Prop) (K1 : Value → World → Prop) (l1 : Value) (h7 : Value) (all11 : Value) (i12 : Value) (a13 : Value) (b14 : Value) (k15 : Value) (w : World) : Prop :=
  valQ Try.prog (binS BinOp.lss 3 (Operand.tmp 65) (Operand.tmp 66) k15 a13) w fun t67 =>
  condP t67
  (pickP t67 (Value.bool true) undef fun t72 =>
  condP t72
  (pickP t72 (Value.bool true) undef fun t87 =>
  condP t87
  (pickP t87 (Value.bool true) undef fun t96 =>
  anyDraw w fun w =>
  m4_17 R K1 l1 h7 all11 i12 t96 w)
  (valQ Try.prog (Instr.indexAt 28 all11 i12) w fun t92 =>
  valQ Try.prog (Instr.fieldAt 45 t92 1) w fun t93 =>
  valQ Try.prog (Instr.loadAt 3 t93) w fun t94 =>
  valQ Try.prog (binS BinOp.neq 3 (Operand.tmp 89) (Operand.tmp 94) b14 t94) w fun t95 =>
  pickP t87 (Value.bool true) t95 fun t96 =>
  anyDraw w fun w =>
  m4_17 R K1 l1 h7 all11 i12 t96 w))
  (valQ Try.prog (Instr.indexAt 28 all11 i12) w fun t77 =>
  valQ Try.prog (Instr.fieldAt 45 t77 1) w fun t78 =>
  valQ Try.prog (Instr.loadAt 3 t78) w fun t79 =>
  valQ Try.prog (Instr.indexAt 28 all11 i12) w fun t82 =>
  valQ Try.prog (Instr.fieldAt 45 t82 2) w fun t83 =>
  valQ Try.prog (Instr.loadAt 3 t83) w fun t84 =>
  valQ Try.prog (binS BinOp.sub 3 (Operand.tmp 79) (Operand.tmp 84) t79 t84) w fun t85 =>
  valQ Try.prog (binS BinOp.neq 3 (Operand.tmp 74) (Operand.tmp 85) a13 t85) w fun t86 =>
  pickP t72 (Value.bool true) t86 fun t87 =>
  condP t87
  (pickP t87 (Value.bool true) undef fun t96 =>
  anyDraw w fun w =>
  m4_17 R K1 l1 h7 all11 i12 t96 w)
  (valQ Try.prog (Instr.indexAt 28 all11 i12) w fun t92 =>
  valQ Try.prog (Instr.fieldAt 45 t92 1) w fun t93 =>
  valQ Try.prog (Instr.loadAt 3 t93) w fun t94 =>
  valQ Try.prog (binS BinOp.neq 3 (Operand.tmp 89) (Operand.tmp 94) b14 t94) w fun t95 =>
  pickP t87 (Value.bool true) t95 fun t96 =>
  anyDraw w fun w =>
  m4_17 R K1 l1 h7 all11 i12 t96 w)))
  (valQ Try.prog (binS BinOp.gtr 3 (Operand.tmp 69) (Operand.tmp 70) k15 b14) w fun t71 =>
  pickP t67 (Value.bool true) t71 fun t72 =>
  condP t72
  (pickP t72 (Value.bool true) undef fun t87 =>
  condP t87
  (pickP t87 (Value.bool true) undef fun t96 =>
  anyDraw w fun w =>
  m4_17 R K1 l1 h7 all11 i12 t96 w)
  (valQ Try.prog (Instr.indexAt 28 all11 i12) w fun t92 =>
  valQ Try.prog (Instr.fieldAt 45 t92 1) w fun t93 =>
  valQ Try.prog (Instr.loadAt 3 t93) w fun t94 =>
  valQ Try.prog (binS BinOp.neq 3 (Operand.tmp 89) (Operand.tmp 94) b14 t94) w fun t95 =>
  pickP t87 (Value.bool true) t95 fun t96 =>
  anyDraw w fun w =>
  m4_17 R K1 l1 h7 all11 i12 t96 w))
  (valQ Try.prog (Instr.indexAt 28 all11 i12) w fun t77 =>
  valQ Try.prog (Instr.fieldAt 45 t77 1) w fun t78 =>
  valQ Try.prog (Instr.loadAt 3 t78) w fun t79 =>
  valQ Try.prog (Instr.indexAt 28 all11 i12) w fun t82 =>
  valQ Try.prog (Instr.fieldAt 45 t82 2) w fun t83 =>
  valQ Try.prog (Instr.loadAt 3 t83) w fun t84 =>
  valQ Try.prog (binS BinOp.sub 3 (Operand.tmp 79) (Operand.tmp 84) t79 t84) w fun t85 =>
  valQ Try.prog (binS BinOp.neq 3 (Operand.tmp 74) (Operand.tmp 85) a13 t85) w fun t86 =>
  pickP t72 (Value.bool true) t86 fun t87 =>
  condP t87
  (pickP t87 (Value.bool true) undef fun t96 =>
  anyDraw w fun w =>
  m4_17 R K1 l1 h7 all11 i12 t96 w)
  (valQ Try.prog (Instr.indexAt 28 all11 i12) w fun t92 =>
  valQ Try.prog (Instr.fieldAt 45 t92 1) w fun t93 =>
  valQ Try.prog (Instr.loadAt 3 t93) w fun t94 =>
  valQ Try.prog (binS BinOp.neq 3 (Operand.tmp 89) (Operand.tmp 94) b14 t94) w fun t95 =>
  pickP t87 (Value.bool true) t95 fun t96 =>
  anyDraw w fun w =>
  m4_17 R K1 l1 h7 all11 i12 t96 w)))
def m4_15 (R : Value → World → Prop) (K1 : Value → World → Prop) (l1 : Value) (h7 : Value) (all11 : Value) (i12 : Value) (a13 : Value) (b14 : Value) (w : World) : Prop :=
  valP Try.prog (Instr.indexAt 28 all11 i12) w fun t61 w =>
  valP Try.prog (Instr.fieldAt 45 t61 0) w fun t62 w =>
  valP Try.prog (Instr.loadAt 3 t62) w fun t63 w =>
  callP Try.prog (fnV 22) #[l1, t63] w fun t64 w =>
  m4_16 R K1 l1 h7 all11 i12 a13 b14 t64 w
def m4_13 (R : Value → World → Prop) (K1 : Value → World → Prop) (l1 : Value) (h7 : Value) (all11 : Value) (i12 : Value) (w : World) : Prop :=
  valP Try.prog (Instr.indexAt 28 all11 i12) w fun t52 w =>
  valP Try.prog (Instr.fieldAt 45 t52 0) w fun t53 w =>
  valP Try.prog (Instr.loadAt 3 t53) w fun t54 w =>
  callP Try.prog (fnV 15) #[h7, t54] w fun t55 w =>
  valP Try.prog (Instr.extract t55 0) w fun t56 w =>
  valP Try.prog (Instr.extract t55 1) w fun t57 w =>
  m4_15 R K1 l1 h7 all11 i12 t56 t57 w
def m4_10 (R : Value → World → Prop) (t6 : Value) (w : World) : Prop :=
  R t6 w
def m4_9 (R : Value → World → Prop) (w : World) : Prop :=
  callP Try.prog (fnV 12) #[] w fun t97 w =>
  m4_10 R t97 w
def m4_19 (R : Value → World → Prop) (K1 : Value → World → Prop) (l1 : Value) (h7 : Value) (all11 : Value) (i12 : Value) (t45 : Value) (w : World) : Prop :=
  condP t45
  (m4_13 R K1 l1 h7 all11 i12 w)
  (m4_9 R w)
def m4_12 (R : Value → World → Prop) (K1 : Value → World → Prop) (l1 : Value) (h7 : Value) (all11 : Value) (i12 : Value) (w : World) : Prop :=
  builtinP Try.prog Builtin.len #[28] 3 #[false] #[all11] w fun t44 w =>
  valP Try.prog (binS BinOp.lss 3 (Operand.tmp 42) (Operand.tmp 44) i12 t44) w fun t45 w =>
  m4_19 R K1 l1 h7 all11 i12 t45 w
def m4_11 (R : Value → World → Prop) (l1 : Value) (h7 : Value) (all11 : Value) (i12 : Value) (w : World) : Prop :=
  loopP (fun (K1 : Value → World → Prop) (s : Value) w => m4_12 R K1 l1 h7 all11 s w) i12 w
def m4_8 (R : Value → World → Prop) (l1 : Value) (h7 : Value) (all11 : Value) (w : World) : Prop :=
  m4_11 R l1 h7 all11 (Value.int IntKind.i64 0) w
def m4_7 (R : Value → World → Prop) (l1 : Value) (h7 : Value) (w : World) : Prop :=
  callP Try.prog (fnV 19) #[h7, (Value.int IntKind.i64 64)] w fun t41 w =>
  m4_8 R l1 h7 t41 w
def m4_20 (R : Value → World → Prop) (l1 : Value) (h7 : Value) (t39 : Value) (w : World) : Prop :=
  condP t39
  (m4_21 R (Value.bool false) w)
  (m4_7 R l1 h7 w)
def m4_6 (R : Value → World → Prop) (l1 : Value) (h7 : Value) (least8 : Value) (top9 : Value) (n10 : Value) (w : World) : Prop :=
  valP Try.prog (binS BinOp.lss 3 (Operand.tmp 32) (Operand.tmp 33) n10 least8) w fun t34 w =>
  condP t34
  (pickP t34 (Value.bool true) undef fun t39 =>
  m4_20 R l1 h7 t39 w)
  (valP Try.prog (binS BinOp.gtr 3 (Operand.tmp 36) (Operand.tmp 37) n10 top9) w fun t38 w =>
  pickP t34 (Value.bool true) t38 fun t39 =>
  m4_20 R l1 h7 t39 w)
def m4_5 (R : Value → World → Prop) (l1 : Value) (key2 : Value) (h7 : Value) (least8 : Value) (top9 : Value) (w : World) : Prop :=
  callP Try.prog (fnV 22) #[l1, key2] w fun t31 w =>
  m4_6 R l1 h7 least8 top9 t31 w
def m4_4 (R : Value → World → Prop) (l1 : Value) (key2 : Value) (h7 : Value) (w : World) : Prop :=
  callP Try.prog (fnV 15) #[h7, key2] w fun t26 w =>
  valP Try.prog (Instr.extract t26 0) w fun t27 w =>
  valP Try.prog (Instr.extract t26 1) w fun t28 w =>
  m4_5 R l1 key2 h7 t27 t28 w
def m4_22 (R : Value → World → Prop) (l1 : Value) (key2 : Value) (h7 : Value) (t22 : Value) (w : World) : Prop :=
  condP t22
  (m4_23 R (Value.bool false) w)
  (m4_4 R l1 key2 h7 w)
def m4_3 (R : Value → World → Prop) (l1 : Value) (key2 : Value) (h7 : Value) (w : World) : Prop :=
  valP Try.prog (binS BinOp.eql 24 (Operand.tmp 21) (Operand.const (Value.pointer none)) h7 (Value.pointer none)) w fun t22 w =>
  m4_22 R l1 key2 h7 t22 w
def m4_2 (R : Value → World → Prop) (most0 : Value) (l1 : Value) (key2 : Value) (w : World) : Prop :=
  callP Try.prog (fnV 21) #[most0, l1] w fun t20 w =>
  m4_3 R l1 key2 t20 w
def m4_1 (R : Value → World → Prop) (most0 : Value) (l1 : Value) (key2 : Value) (w : World) : Prop :=
  callP Try.prog (fnV 9) #[l1] w fun t17 w =>
  m4_2 R most0 t17 key2 w
def m4_0 (R : Value → World → Prop) (most0 : Value) (l1 : Value) (key2 : Value) (w : World) : Prop :=
  m4_1 R most0 l1 key2 w
abbrev W4 := cwp Try.prog (fun i => cond (Nat.beq i 15) 1 (0))
noncomputable def k4_0 : Code := (bodyOf Try.f4)
noncomputable def k4_1 : Code := (c2 k4_0)
noncomputable def k4_2 : Code := (c2 k4_1)
noncomputable def k4_3 : Code := (c2 k4_2)
noncomputable def k4_4 : Code := (c2 k4_3)
noncomputable def k4_5 : Code := (c2 k4_4)
noncomputable def k4_6 : Code := (c2 k4_5)
noncomputable def k4_7 : Code := (c2 k4_6)
noncomputable def k4_8 : Code := (c2 k4_7)
noncomputable def k4_9 : Code := (c2 k4_8)
noncomputable def k4_10 : Code := (c2 k4_9)
noncomputable def k4_11 : Code := (c2 (c1 k4_8))
noncomputable def k4_12 : Code := (c1 (c1 k4_11))
noncomputable def k4_13 : Code := (c2 k4_12)
noncomputable def k4_14 : Code := (c2 k4_13)
noncomputable def k4_15 : Code := (c2 (c1 (c1 k4_13)))
noncomputable def k4_16 : Code := (c2 k4_15)
noncomputable def k4_17 : Code := (c2 k4_16)
noncomputable def k4_18 : Code := (c2 (c1 k4_17))
noncomputable def k4_19 : Code := (c2 (c1 k4_12))
noncomputable def k4_20 : Code := (c2 (c1 k4_6))
noncomputable def k4_21 : Code := (c2 (c1 k4_20))
noncomputable def k4_22 : Code := (c2 (c1 k4_3))
noncomputable def k4_23 : Code := (c2 (c1 k4_22))
theorem s4_23 {R : Value → World → Prop} {Q : Exit → Env → World → Prop} (hR : ∀ e w, (R (e 6) w) → Q .ret e w) (e : Env) (w : World) (h : m4_23 R (e 6) w) : W4 k4_23 Q e w := by
  unfold m4_23 at h
  exact ret_ok (by kernel_rfl) (hR _ _ h)
theorem s4_21 {R : Value → World → Prop} {Q : Exit → Env → World → Prop} (hR : ∀ e w, (R (e 6) w) → Q .ret e w) (e : Env) (w : World) (h : m4_21 R (e 6) w) : W4 k4_21 Q e w := by
  unfold m4_21 at h
  exact ret_ok (by kernel_rfl) (hR _ _ h)
theorem s4_18 {R : Value → World → Prop} {K1 : Value → World → Prop} {Q : Exit → Env → World → Prop} (hR : ∀ e w, (R (e 6) w) → Q .ret e w) (e : Env) (w : World) (h : m4_18 R K1 (e 6) w) : W4 k4_18 Q e w := by
  unfold m4_18 at h
  exact ret_ok (by kernel_rfl) (hR _ _ h)
theorem s4_14 {R : Value → World → Prop} {K1 : Value → World → Prop} {Q : Exit → Env → World → Prop} (hN : ∀ e w, (K1 (e 12) w) → Q .normal e w) (e : Env) (w : World) (h : m4_14 R K1 (e 1) (e 7) (e 11) (e 12) w) : W4 k4_14 Q e w := by
  unfold m4_14 at h
  exact region_ok 12 (fun e w => K1 (e 12) w) (by kernel_rfl) (kcast (by kernel_rfl) h) hN (by kernel_rfl)
theorem s4_17 {R : Value → World → Prop} {K1 : Value → World → Prop} {Q : Exit → Env → World → Prop} (hN : ∀ e w, (m4_14 R K1 (e 1) (e 7) (e 11) (e 12) w) → Q .normal e w) (hR : ∀ e w, (R (e 6) w) → Q .ret e w) (e : Env) (w : World) (h : m4_17 R K1 (e 1) (e 7) (e 11) (e 12) (e 96) w) : W4 k4_17 Q e w := by
  unfold m4_17 at h
  refine cond_ok (Operand.tmp 96) (by kernel_rfl) h (fun h1 => ?_) (fun h1 => ?_)
  · refine seq_ok' (by kernel_rfl) ?_
    have hN' : ∀ e w, (m4_18 R K1 (e 6) w) → (thenE (W4 k4_18 Q) Q) .normal e w := fun e w h => then_N (s4_18 (R := R) (Q := Q) (K1 := K1) hR e w h)
    have hN := hN'
    exact region_ok 16 (fun e w => m4_18 R K1 (e 6) w) (by kernel_rfl) (kcast (by kernel_rfl) h1) hN (by kernel_rfl)
  · exact skip_ok (by kernel_rfl) (hN _ _ h1)
theorem s4_16 {R : Value → World → Prop} {K1 : Value → World → Prop} {Q : Exit → Env → World → Prop} (hN : ∀ e w, (m4_14 R K1 (e 1) (e 7) (e 11) (e 12) w) → Q .normal e w) (hR : ∀ e w, (R (e 6) w) → Q .ret e w) (e : Env) (w : World) (h : m4_16 R K1 (e 1) (e 7) (e 11) (e 12) (e 13) (e 14) (e 15) w) : W4 k4_16 Q e w := by
  unfold m4_16 at h
  refine seq_ok' (by kernel_rfl) ?_
  have hN' : ∀ e w, (m4_17 R K1 (e 1) (e 7) (e 11) (e 12) (e 96) w) → (thenE (W4 k4_17 Q) Q) .normal e w := fun e w h => then_N (s4_17 (R := R) (Q := Q) (K1 := K1) hN hR e w h)
  have hN := hN'
  exact quiet_ok 15 (fun e w => m4_17 R K1 (e 1) (e 7) (e 11) (e 12) (e 96) w) (by kernel_rfl) (by kernel_rfl) (by kernel_rfl) (kcast (by kernel_rfl) h) hN (by kernel_rfl)
theorem s4_15 {R : Value → World → Prop} {K1 : Value → World → Prop} {Q : Exit → Env → World → Prop} (hN : ∀ e w, (m4_14 R K1 (e 1) (e 7) (e 11) (e 12) w) → Q .normal e w) (hR : ∀ e w, (R (e 6) w) → Q .ret e w) (e : Env) (w : World) (h : m4_15 R K1 (e 1) (e 7) (e 11) (e 12) (e 13) (e 14) w) : W4 k4_15 Q e w := by
  unfold m4_15 at h
  refine seq_ok' (by kernel_rfl) ?_
  have hN' : ∀ e w, (m4_16 R K1 (e 1) (e 7) (e 11) (e 12) (e 13) (e 14) (e 15) w) → (thenE (W4 k4_16 Q) Q) .normal e w := fun e w h => then_N (s4_16 (R := R) (Q := Q) (K1 := K1) hN hR e w h)
  have hN := hN'
  exact region_ok 14 (fun e w => m4_16 R K1 (e 1) (e 7) (e 11) (e 12) (e 13) (e 14) (e 15) w) (by kernel_rfl) (kcast (by kernel_rfl) h) hN (by kernel_rfl)
theorem s4_13 {R : Value → World → Prop} {K1 : Value → World → Prop} {Q : Exit → Env → World → Prop} (hN : ∀ e w, (K1 (e 12) w) → Q .normal e w) (hR : ∀ e w, (R (e 6) w) → Q .ret e w) (e : Env) (w : World) (h : m4_13 R K1 (e 1) (e 7) (e 11) (e 12) w) : W4 k4_13 Q e w := by
  unfold m4_13 at h
  refine seq_ok' (by kernel_rfl) ?_
  have hN' : ∀ e w, (m4_14 R K1 (e 1) (e 7) (e 11) (e 12) w) → (thenE (W4 k4_14 Q) Q) .normal e w := fun e w h => then_N (s4_14 (R := R) (Q := Q) (K1 := K1) hN e w h)
  have hR : ∀ e w, (R (e 6) w) → (thenE (W4 k4_14 Q) Q) .ret e w := fun e w h => then_R (hR e w h)
  have hN := hN'
  refine block_ok 1 (by kernel_rfl) ?_
  have hN : ∀ e w, (m4_14 R K1 (e 1) (e 7) (e 11) (e 12) w) → (inBlockE 1 (thenE (W4 k4_14 Q) Q)) .normal e w := fun e w h => block_N (hN e w h)
  have hR : ∀ e w, (R (e 6) w) → (inBlockE 1 (thenE (W4 k4_14 Q) Q)) .ret e w := fun e w h => block_R (hR e w h)
  refine seq_ok' (by kernel_rfl) ?_
  have hN' : ∀ e w, (m4_15 R K1 (e 1) (e 7) (e 11) (e 12) (e 13) (e 14) w) → (thenE (W4 k4_15 (inBlockE 1 (thenE (W4 k4_14 Q) Q))) (inBlockE 1 (thenE (W4 k4_14 Q) Q))) .normal e w := fun e w h => then_N (s4_15 (R := R) (Q := (inBlockE 1 (thenE (W4 k4_14 Q) Q))) (K1 := K1) hN hR e w h)
  have hN := hN'
  exact region_ok 13 (fun e w => m4_15 R K1 (e 1) (e 7) (e 11) (e 12) (e 13) (e 14) w) (by kernel_rfl) (kcast (by kernel_rfl) h) hN (by kernel_rfl)
theorem s4_10 {R : Value → World → Prop} {Q : Exit → Env → World → Prop} (hR : ∀ e w, (R (e 6) w) → Q .ret e w) (e : Env) (w : World) (h : m4_10 R (e 6) w) : W4 k4_10 Q e w := by
  unfold m4_10 at h
  exact ret_ok (by kernel_rfl) (hR _ _ h)
theorem s4_9 {R : Value → World → Prop} {Q : Exit → Env → World → Prop} (hR : ∀ e w, (R (e 6) w) → Q .ret e w) (e : Env) (w : World) (h : m4_9 R w) : W4 k4_9 Q e w := by
  unfold m4_9 at h
  refine seq_ok' (by kernel_rfl) ?_
  have hN' : ∀ e w, (m4_10 R (e 6) w) → (thenE (W4 k4_10 Q) Q) .normal e w := fun e w h => then_N (s4_10 (R := R) (Q := Q) hR e w h)
  have hN := hN'
  exact region_ok 17 (fun e w => m4_10 R (e 6) w) (by kernel_rfl) (kcast (by kernel_rfl) h) hN (by kernel_rfl)
theorem s4_19 {R : Value → World → Prop} {K1 : Value → World → Prop} {Q : Exit → Env → World → Prop} (hN : ∀ e w, (m4_13 R K1 (e 1) (e 7) (e 11) (e 12) w) → Q .normal e w) (hX0 : ∀ e w, (m4_9 R w) → Q (.exit 0) e w) (e : Env) (w : World) (h : m4_19 R K1 (e 1) (e 7) (e 11) (e 12) (e 45) w) : W4 k4_19 Q e w := by
  unfold m4_19 at h
  refine cond_ok (Operand.tmp 45) (by kernel_rfl) h (fun h1 => ?_) (fun h1 => ?_)
  · exact skip_ok (by kernel_rfl) (hN _ _ h1)
  · exact exit_ok 0 (by kernel_rfl) (hX0 _ _ h1)
theorem s4_12 {R : Value → World → Prop} {K1 : Value → World → Prop} {Q : Exit → Env → World → Prop} (hN : ∀ e w, (K1 (e 12) w) → Q .normal e w) (hR : ∀ e w, (R (e 6) w) → Q .ret e w) (hX0 : ∀ e w, (m4_9 R w) → Q (.exit 0) e w) (e : Env) (w : World) (h : m4_12 R K1 (e 1) (e 7) (e 11) (e 12) w) : W4 k4_12 Q e w := by
  unfold m4_12 at h
  refine seq_ok' (by kernel_rfl) ?_
  have hN' : ∀ e w, (m4_13 R K1 (e 1) (e 7) (e 11) (e 12) w) → (thenE (W4 k4_13 Q) Q) .normal e w := fun e w h => then_N (s4_13 (R := R) (Q := Q) (K1 := K1) hN hR e w h)
  have hX0 : ∀ e w, (m4_9 R w) → (thenE (W4 k4_13 Q) Q) (.exit 0) e w := fun e w h => then_X (hX0 e w h)
  have hN := hN'
  refine seq_ok' (by kernel_rfl) ?_
  have hN' : ∀ e w, (m4_19 R K1 (e 1) (e 7) (e 11) (e 12) (e 45) w) → (thenE (W4 k4_19 (thenE (W4 k4_13 Q) Q)) (thenE (W4 k4_13 Q) Q)) .normal e w := fun e w h => then_N (s4_19 (R := R) (Q := (thenE (W4 k4_13 Q) Q)) (K1 := K1) hN hX0 e w h)
  have hN := hN'
  exact region_ok 11 (fun e w => m4_19 R K1 (e 1) (e 7) (e 11) (e 12) (e 45) w) (by kernel_rfl) (kcast (by kernel_rfl) h) hN (by kernel_rfl)
theorem s4_11 {R : Value → World → Prop} {Q : Exit → Env → World → Prop} (hN : ∀ e w, (m4_9 R w) → Q .normal e w) (hR : ∀ e w, (R (e 6) w) → Q .ret e w) (e : Env) (w : World) (h : m4_11 R (e 1) (e 7) (e 11) (e 12) w) : W4 k4_11 Q e w := by
  unfold m4_11 at h
  refine block_ok 0 (by kernel_rfl) ?_
  have hX0 : ∀ e w, (m4_9 R w) → (inBlockE 0 Q) (.exit 0) e w := fun e w h => inBlock_same (Q := Q) 0 (hN e w h)
  have hR : ∀ e w, (R (e 6) w) → (inBlockE 0 Q) .ret e w := fun e w h => block_R (hR e w h)
  refine loop_ok' (fun (e : Env) => e 12) [1, 7, 11] (by kernel_rfl) (by kernel_rfl) h (fun K e' w' hk h' => ?_)
  have r1 : e' 1 = e 1 := hk 1 (by decide)
  have r7 : e' 7 = e 7 := hk 7 (by decide)
  have r11 : e' 11 = e 11 := hk 11 (by decide)
  have hR : ∀ e w, (R (e 6) w) → (thenE (fun (e : Env) w => K (e 12) w) (inBlockE 0 Q)) .ret e w := fun e w h => then_R (hR e w h)
  have hX0 : ∀ e w, (m4_9 R w) → (thenE (fun (e : Env) w => K (e 12) w) (inBlockE 0 Q)) (.exit 0) e w := fun e w h => then_X (hX0 e w h)
  exact s4_12 (R := R) (Q := (thenE (fun (e : Env) w => K (e 12) w) (inBlockE 0 Q))) (K1 := K) (fun _ _ h => then_N h) hR hX0 e' w' (by rw [r1, r7, r11]; exact h')
theorem s4_8 {R : Value → World → Prop} {Q : Exit → Env → World → Prop} (hR : ∀ e w, (R (e 6) w) → Q .ret e w) (e : Env) (w : World) (h : m4_8 R (e 1) (e 7) (e 11) w) : W4 k4_8 Q e w := by
  unfold m4_8 at h
  refine seq_ok' (by kernel_rfl) ?_
  have hN' : ∀ e w, (m4_9 R w) → (thenE (W4 k4_9 Q) Q) .normal e w := fun e w h => then_N (s4_9 (R := R) (Q := Q) hR e w h)
  have hR : ∀ e w, (R (e 6) w) → (thenE (W4 k4_9 Q) Q) .ret e w := fun e w h => then_R (hR e w h)
  have hN := hN'
  refine seq_ok' (by kernel_rfl) ?_
  have hN' : ∀ e w, (m4_11 R (e 1) (e 7) (e 11) (e 12) w) → (thenE (W4 k4_11 (thenE (W4 k4_9 Q) Q)) (thenE (W4 k4_9 Q) Q)) .normal e w := fun e w h => then_N (s4_11 (R := R) (Q := (thenE (W4 k4_9 Q) Q)) hN hR e w h)
  have hN := hN'
  exact region_ok 10 (fun e w => m4_11 R (e 1) (e 7) (e 11) (e 12) w) (by kernel_rfl) (kcast (by kernel_rfl) h) hN (by kernel_rfl)
theorem s4_7 {R : Value → World → Prop} {Q : Exit → Env → World → Prop} (hR : ∀ e w, (R (e 6) w) → Q .ret e w) (e : Env) (w : World) (h : m4_7 R (e 1) (e 7) w) : W4 k4_7 Q e w := by
  unfold m4_7 at h
  refine seq_ok' (by kernel_rfl) ?_
  have hN' : ∀ e w, (m4_8 R (e 1) (e 7) (e 11) w) → (thenE (W4 k4_8 Q) Q) .normal e w := fun e w h => then_N (s4_8 (R := R) (Q := Q) hR e w h)
  have hN := hN'
  exact region_ok 9 (fun e w => m4_8 R (e 1) (e 7) (e 11) w) (by kernel_rfl) (kcast (by kernel_rfl) h) hN (by kernel_rfl)
theorem s4_20 {R : Value → World → Prop} {Q : Exit → Env → World → Prop} (hN : ∀ e w, (m4_7 R (e 1) (e 7) w) → Q .normal e w) (hR : ∀ e w, (R (e 6) w) → Q .ret e w) (e : Env) (w : World) (h : m4_20 R (e 1) (e 7) (e 39) w) : W4 k4_20 Q e w := by
  unfold m4_20 at h
  refine cond_ok (Operand.tmp 39) (by kernel_rfl) h (fun h1 => ?_) (fun h1 => ?_)
  · refine seq_ok' (by kernel_rfl) ?_
    have hN' : ∀ e w, (m4_21 R (e 6) w) → (thenE (W4 k4_21 Q) Q) .normal e w := fun e w h => then_N (s4_21 (R := R) (Q := Q) hR e w h)
    have hN := hN'
    exact region_ok 8 (fun e w => m4_21 R (e 6) w) (by kernel_rfl) (kcast (by kernel_rfl) h1) hN (by kernel_rfl)
  · exact skip_ok (by kernel_rfl) (hN _ _ h1)
theorem s4_6 {R : Value → World → Prop} {Q : Exit → Env → World → Prop} (hR : ∀ e w, (R (e 6) w) → Q .ret e w) (e : Env) (w : World) (h : m4_6 R (e 1) (e 7) (e 8) (e 9) (e 10) w) : W4 k4_6 Q e w := by
  unfold m4_6 at h
  refine seq_ok' (by kernel_rfl) ?_
  have hN' : ∀ e w, (m4_7 R (e 1) (e 7) w) → (thenE (W4 k4_7 Q) Q) .normal e w := fun e w h => then_N (s4_7 (R := R) (Q := Q) hR e w h)
  have hR : ∀ e w, (R (e 6) w) → (thenE (W4 k4_7 Q) Q) .ret e w := fun e w h => then_R (hR e w h)
  have hN := hN'
  refine seq_ok' (by kernel_rfl) ?_
  have hN' : ∀ e w, (m4_20 R (e 1) (e 7) (e 39) w) → (thenE (W4 k4_20 (thenE (W4 k4_7 Q) Q)) (thenE (W4 k4_7 Q) Q)) .normal e w := fun e w h => then_N (s4_20 (R := R) (Q := (thenE (W4 k4_7 Q) Q)) hN hR e w h)
  have hN := hN'
  exact region_ok 7 (fun e w => m4_20 R (e 1) (e 7) (e 39) w) (by kernel_rfl) (kcast (by kernel_rfl) h) hN (by kernel_rfl)
theorem s4_5 {R : Value → World → Prop} {Q : Exit → Env → World → Prop} (hR : ∀ e w, (R (e 6) w) → Q .ret e w) (e : Env) (w : World) (h : m4_5 R (e 1) (e 2) (e 7) (e 8) (e 9) w) : W4 k4_5 Q e w := by
  unfold m4_5 at h
  refine seq_ok' (by kernel_rfl) ?_
  have hN' : ∀ e w, (m4_6 R (e 1) (e 7) (e 8) (e 9) (e 10) w) → (thenE (W4 k4_6 Q) Q) .normal e w := fun e w h => then_N (s4_6 (R := R) (Q := Q) hR e w h)
  have hN := hN'
  exact region_ok 6 (fun e w => m4_6 R (e 1) (e 7) (e 8) (e 9) (e 10) w) (by kernel_rfl) (kcast (by kernel_rfl) h) hN (by kernel_rfl)
theorem s4_4 {R : Value → World → Prop} {Q : Exit → Env → World → Prop} (hR : ∀ e w, (R (e 6) w) → Q .ret e w) (e : Env) (w : World) (h : m4_4 R (e 1) (e 2) (e 7) w) : W4 k4_4 Q e w := by
  unfold m4_4 at h
  refine seq_ok' (by kernel_rfl) ?_
  have hN' : ∀ e w, (m4_5 R (e 1) (e 2) (e 7) (e 8) (e 9) w) → (thenE (W4 k4_5 Q) Q) .normal e w := fun e w h => then_N (s4_5 (R := R) (Q := Q) hR e w h)
  have hN := hN'
  exact region_ok 5 (fun e w => m4_5 R (e 1) (e 2) (e 7) (e 8) (e 9) w) (by kernel_rfl) (kcast (by kernel_rfl) h) hN (by kernel_rfl)
theorem s4_22 {R : Value → World → Prop} {Q : Exit → Env → World → Prop} (hN : ∀ e w, (m4_4 R (e 1) (e 2) (e 7) w) → Q .normal e w) (hR : ∀ e w, (R (e 6) w) → Q .ret e w) (e : Env) (w : World) (h : m4_22 R (e 1) (e 2) (e 7) (e 22) w) : W4 k4_22 Q e w := by
  unfold m4_22 at h
  refine cond_ok (Operand.tmp 22) (by kernel_rfl) h (fun h1 => ?_) (fun h1 => ?_)
  · refine seq_ok' (by kernel_rfl) ?_
    have hN' : ∀ e w, (m4_23 R (e 6) w) → (thenE (W4 k4_23 Q) Q) .normal e w := fun e w h => then_N (s4_23 (R := R) (Q := Q) hR e w h)
    have hN := hN'
    exact region_ok 4 (fun e w => m4_23 R (e 6) w) (by kernel_rfl) (kcast (by kernel_rfl) h1) hN (by kernel_rfl)
  · exact skip_ok (by kernel_rfl) (hN _ _ h1)
theorem s4_3 {R : Value → World → Prop} {Q : Exit → Env → World → Prop} (hR : ∀ e w, (R (e 6) w) → Q .ret e w) (e : Env) (w : World) (h : m4_3 R (e 1) (e 2) (e 7) w) : W4 k4_3 Q e w := by
  unfold m4_3 at h
  refine seq_ok' (by kernel_rfl) ?_
  have hN' : ∀ e w, (m4_4 R (e 1) (e 2) (e 7) w) → (thenE (W4 k4_4 Q) Q) .normal e w := fun e w h => then_N (s4_4 (R := R) (Q := Q) hR e w h)
  have hR : ∀ e w, (R (e 6) w) → (thenE (W4 k4_4 Q) Q) .ret e w := fun e w h => then_R (hR e w h)
  have hN := hN'
  refine seq_ok' (by kernel_rfl) ?_
  have hN' : ∀ e w, (m4_22 R (e 1) (e 2) (e 7) (e 22) w) → (thenE (W4 k4_22 (thenE (W4 k4_4 Q) Q)) (thenE (W4 k4_4 Q) Q)) .normal e w := fun e w h => then_N (s4_22 (R := R) (Q := (thenE (W4 k4_4 Q) Q)) hN hR e w h)
  have hN := hN'
  exact region_ok 3 (fun e w => m4_22 R (e 1) (e 2) (e 7) (e 22) w) (by kernel_rfl) (kcast (by kernel_rfl) h) hN (by kernel_rfl)
theorem s4_2 {R : Value → World → Prop} {Q : Exit → Env → World → Prop} (hR : ∀ e w, (R (e 6) w) → Q .ret e w) (e : Env) (w : World) (h : m4_2 R (e 0) (e 1) (e 2) w) : W4 k4_2 Q e w := by
  unfold m4_2 at h
  refine seq_ok' (by kernel_rfl) ?_
  have hN' : ∀ e w, (m4_3 R (e 1) (e 2) (e 7) w) → (thenE (W4 k4_3 Q) Q) .normal e w := fun e w h => then_N (s4_3 (R := R) (Q := Q) hR e w h)
  have hN := hN'
  exact region_ok 2 (fun e w => m4_3 R (e 1) (e 2) (e 7) w) (by kernel_rfl) (kcast (by kernel_rfl) h) hN (by kernel_rfl)
theorem s4_1 {R : Value → World → Prop} {Q : Exit → Env → World → Prop} (hR : ∀ e w, (R (e 6) w) → Q .ret e w) (e : Env) (w : World) (h : m4_1 R (e 0) (e 1) (e 2) w) : W4 k4_1 Q e w := by
  unfold m4_1 at h
  refine seq_ok' (by kernel_rfl) ?_
  have hN' : ∀ e w, (m4_2 R (e 0) (e 1) (e 2) w) → (thenE (W4 k4_2 Q) Q) .normal e w := fun e w h => then_N (s4_2 (R := R) (Q := Q) hR e w h)
  have hN := hN'
  exact region_ok 1 (fun e w => m4_2 R (e 0) (e 1) (e 2) w) (by kernel_rfl) (kcast (by kernel_rfl) h) hN (by kernel_rfl)
theorem s4_0 {R : Value → World → Prop} {Q : Exit → Env → World → Prop} (hR : ∀ e w, (R (e 6) w) → Q .ret e w) (e : Env) (w : World) (h : m4_0 R (e 0) (e 1) (e 2) w) : W4 k4_0 Q e w := by
  unfold m4_0 at h
  refine seq_ok' (by kernel_rfl) ?_
  have hN' : ∀ e w, (m4_1 R (e 0) (e 1) (e 2) w) → (thenE (W4 k4_1 Q) Q) .normal e w := fun e w h => then_N (s4_1 (R := R) (Q := Q) hR e w h)
  have hN := hN'
  exact region_ok 0 (fun e w => m4_1 R (e 0) (e 1) (e 2) w) (by kernel_rfl) (kcast (by kernel_rfl) h) hN (by kernel_rfl)
abbrev m4 (R : Value → World → Prop) (most0 : Value) (l1 : Value) (key2 : Value) (w : World) : Prop := m4_0 R most0 l1 key2 w
theorem s4 (most0 : Value) (l1 : Value) (key2 : Value) {R : Value → World → Prop} {w : World} (h : m4 R most0 l1 key2 w) :
    Calls Try.prog 4 #[most0, l1, key2] w fun e w' => ∃ v, e = .returned v ∧ R v w' :=
  calls_of_cwp (st := (fun i => cond (Nat.beq i 15) 1 (0))) (c := k4_0) (by kernel_rfl) Try.func4 (by kernel_rfl) (Nat.le_of_ble_eq_true (by kernel_rfl)) (by kernel_rfl)
    (s4_0 (R := R) (Q := endE Try.prog Try.f4 R) (fun e w h => kcast (by kernel_rfl) h) (argsE #[most0, l1, key2]) w (kcast (by kernel_rfl) h))
/-! ### headgate/headgatelaw30.HeavySums -/
def m5_31 (R : Value → World → Prop) (t4 : Value) (w : World) : Prop :=
  R t4 w
def m5_27 (R : Value → World → Prop) (K1 : (Value × Value) → World → Prop) (K2 : Value → World → Prop) (t4 : Value) (w : World) : Prop :=
  R t4 w
def m5_25 (R : Value → World → Prop) (K1 : (Value × Value) → World → Prop) (K2 : Value → World → Prop) (most0 : Value) (l1 : Value) (h5 : Value) (all6 : Value) (sum7 : Value) (i8 : Value) (k9 : Value) (w : World) : Prop :=
  valP Try.prog (binS BinOp.add 3 (Operand.tmp 37) (Operand.const (Value.int IntKind.i64 1)) k9 (Value.int IntKind.i64 1)) w fun t38 w =>
  K2 t38 w
def m5_26 (R : Value → World → Prop) (K1 : (Value × Value) → World → Prop) (K2 : Value → World → Prop) (most0 : Value) (l1 : Value) (h5 : Value) (all6 : Value) (sum7 : Value) (i8 : Value) (k9 : Value) (t49 : Value) (w : World) : Prop :=
  condP t49
  (m5_27 R K1 K2 (Value.bool false) w)
  (m5_25 R K1 K2 most0 l1 h5 all6 sum7 i8 k9 w)
def m5_24 (R : Value → World → Prop) (K1 : (Value × Value) → World → Prop) (K2 : Value → World → Prop) (most0 : Value) (l1 : Value) (h5 : Value) (all6 : Value) (sum7 : Value) (i8 : Value) (k9 : Value) (w : World) : Prop :=
  valQ Try.prog (Instr.indexAt 28 all6 k9) w fun t41 =>
  valQ Try.prog (Instr.fieldAt 45 t41 0) w fun t42 =>
  valQ Try.prog (Instr.loadAt 3 t42) w fun t43 =>
  valQ Try.prog (Instr.indexAt 28 all6 i8) w fun t46 =>
  valQ Try.prog (Instr.fieldAt 45 t46 0) w fun t47 =>
  valQ Try.prog (Instr.loadAt 3 t47) w fun t48 =>
  valQ Try.prog (binS BinOp.eql 3 (Operand.tmp 43) (Operand.tmp 48) t43 t48) w fun t49 =>
  anyDraw w fun w =>
  m5_26 R K1 K2 most0 l1 h5 all6 sum7 i8 k9 t49 w
def m5_20 (R : Value → World → Prop) (K1 : (Value × Value) → World → Prop) (most0 : Value) (l1 : Value) (h5 : Value) (all6 : Value) (sum7 : Value) (i8 : Value) (w : World) : Prop :=
  valP Try.prog (binS BinOp.add 3 (Operand.tmp 25) (Operand.const (Value.int IntKind.i64 1)) i8 (Value.int IntKind.i64 1)) w fun t26 w =>
  K1 (sum7, t26) w
def m5_28 (R : Value → World → Prop) (K1 : (Value × Value) → World → Prop) (K2 : Value → World → Prop) (most0 : Value) (l1 : Value) (h5 : Value) (all6 : Value) (sum7 : Value) (i8 : Value) (k9 : Value) (t36 : Value) (w : World) : Prop :=
  condP t36
  (m5_24 R K1 K2 most0 l1 h5 all6 sum7 i8 k9 w)
  (m5_20 R K1 most0 l1 h5 all6 sum7 i8 w)
def m5_23 (R : Value → World → Prop) (K1 : (Value × Value) → World → Prop) (K2 : Value → World → Prop) (most0 : Value) (l1 : Value) (h5 : Value) (all6 : Value) (sum7 : Value) (i8 : Value) (k9 : Value) (w : World) : Prop :=
  valP Try.prog (binS BinOp.lss 3 (Operand.tmp 34) (Operand.tmp 35) k9 i8) w fun t36 w =>
  m5_28 R K1 K2 most0 l1 h5 all6 sum7 i8 k9 t36 w
def m5_22 (R : Value → World → Prop) (K1 : (Value × Value) → World → Prop) (most0 : Value) (l1 : Value) (h5 : Value) (all6 : Value) (sum7 : Value) (i8 : Value) (k9 : Value) (w : World) : Prop :=
  loopP (fun (K2 : Value → World → Prop) (s : Value) w => m5_23 R K1 K2 most0 l1 h5 all6 sum7 i8 s w) k9 w
def m5_21 (R : Value → World → Prop) (K1 : (Value × Value) → World → Prop) (most0 : Value) (l1 : Value) (h5 : Value) (all6 : Value) (sum7 : Value) (i8 : Value) (w : World) : Prop :=
  m5_22 R K1 most0 l1 h5 all6 sum7 i8 (Value.int IntKind.i64 0) w
def m5_19 (R : Value → World → Prop) (K1 : (Value × Value) → World → Prop) (most0 : Value) (l1 : Value) (h5 : Value) (all6 : Value) (sum7 : Value) (i8 : Value) (w : World) : Prop :=
  valP Try.prog (Instr.indexAt 28 all6 i8) w fun t30 w =>
  valP Try.prog (Instr.fieldAt 45 t30 1) w fun t31 w =>
  valP Try.prog (Instr.loadAt 3 t31) w fun t32 w =>
  valP Try.prog (binS BinOp.add 3 (Operand.tmp 27) (Operand.tmp 32) sum7 t32) w fun t33 w =>
  m5_21 R K1 most0 l1 h5 all6 t33 i8 w
def m5_14 (R : Value → World → Prop) (K1 : (Value × Value) → World → Prop) (most0 : Value) (l1 : Value) (h5 : Value) (all6 : Value) (sum7 : Value) (kinds10 : Value) (i11 : Value) (w : World) : Prop :=
  valP Try.prog (binS BinOp.add 3 (Operand.tmp 54) (Operand.const (Value.int IntKind.i64 1)) i11 (Value.int IntKind.i64 1)) w fun t55 w =>
  K1 (kinds10, t55) w
def m5_15 (R : Value → World → Prop) (K1 : (Value × Value) → World → Prop) (most0 : Value) (l1 : Value) (h5 : Value) (all6 : Value) (sum7 : Value) (kinds10 : Value) (i11 : Value) (t64 : Value) (w : World) : Prop :=
  condP t64
  (valP Try.prog (binS BinOp.add 3 (Operand.tmp 65) (Operand.const (Value.int IntKind.i64 1)) kinds10 (Value.int IntKind.i64 1)) w fun t66 w =>
  m5_14 R K1 most0 l1 h5 all6 sum7 t66 i11 w)
  (m5_14 R K1 most0 l1 h5 all6 sum7 kinds10 i11 w)
def m5_13 (R : Value → World → Prop) (K1 : (Value × Value) → World → Prop) (most0 : Value) (l1 : Value) (h5 : Value) (all6 : Value) (sum7 : Value) (kinds10 : Value) (i11 : Value) (w : World) : Prop :=
  anyDraw w fun w =>
  valS Try.prog (Instr.sliceAt 22 l1 none (some i11) none) w fun t58 =>
  valS Try.prog (Instr.indexAt 22 l1 i11) w fun t61 =>
  valS Try.prog (Instr.loadAt 3 t61) w fun t62 =>
  callP Try.prog (fnV 22) #[t58, t62] w fun t63 w =>
  valP Try.prog (binS BinOp.eql 3 (Operand.tmp 63) (Operand.const (Value.int IntKind.i64 0)) t63 (Value.int IntKind.i64 0)) w fun t64 w =>
  m5_15 R K1 most0 l1 h5 all6 sum7 kinds10 i11 t64 w
def m5_10 (R : Value → World → Prop) (t4 : Value) (w : World) : Prop :=
  R t4 w
def m5_9 (R : Value → World → Prop) (most0 : Value) (l1 : Value) (h5 : Value) (all6 : Value) (sum7 : Value) (kinds10 : Value) (w : World) : Prop :=
  builtinP Try.prog Builtin.len #[22] 3 #[false] #[l1] w fun t69 w =>
  valP Try.prog (binS BinOp.eql 3 (Operand.tmp 67) (Operand.tmp 69) sum7 t69) w fun t70 w =>
  condP t70
  (callP Try.prog (fnV 17) #[h5] w fun t73 w =>
  builtinP Try.prog Builtin.len #[22] 3 #[false] #[l1] w fun t75 w =>
  valP Try.prog (binS BinOp.eql 3 (Operand.tmp 73) (Operand.tmp 75) t73 t75) w fun t76 w =>
  pickP t70 t76 (Value.bool false) fun t77 =>
  condP t77
  (builtinP Try.prog Builtin.len #[28] 3 #[false] #[all6] w fun t80 w =>
  valP Try.prog (binS BinOp.rem 3 (Operand.tmp 82) (Operand.const (Value.int IntKind.i64 16)) most0 (Value.int IntKind.i64 16)) w fun t83 w =>
  valP Try.prog (binS BinOp.add 3 (Operand.tmp 83) (Operand.const (Value.int IntKind.i64 16)) t83 (Value.int IntKind.i64 16)) w fun t84 w =>
  valP Try.prog (binS BinOp.rem 3 (Operand.tmp 84) (Operand.const (Value.int IntKind.i64 16)) t84 (Value.int IntKind.i64 16)) w fun t85 w =>
  valP Try.prog (binS BinOp.add 3 (Operand.const (Value.int IntKind.i64 1)) (Operand.tmp 85) (Value.int IntKind.i64 1) t85) w fun t86 w =>
  builtinP Try.prog Builtin.min #[3, 3] 3 #[false, false] #[kinds10, t86] w fun t87 w =>
  valP Try.prog (binS BinOp.eql 3 (Operand.tmp 80) (Operand.tmp 87) t80 t87) w fun t88 w =>
  pickP t77 t88 (Value.bool false) fun t89 =>
  condP t89
  (callP Try.prog (fnV 12) #[] w fun t91 w =>
  pickP t89 t91 (Value.bool false) fun t92 =>
  m5_10 R t92 w)
  (pickP t89 undef (Value.bool false) fun t92 =>
  m5_10 R t92 w))
  (pickP t77 undef (Value.bool false) fun t89 =>
  condP t89
  (callP Try.prog (fnV 12) #[] w fun t91 w =>
  pickP t89 t91 (Value.bool false) fun t92 =>
  m5_10 R t92 w)
  (pickP t89 undef (Value.bool false) fun t92 =>
  m5_10 R t92 w)))
  (pickP t70 undef (Value.bool false) fun t77 =>
  condP t77
  (builtinP Try.prog Builtin.len #[28] 3 #[false] #[all6] w fun t80 w =>
  valP Try.prog (binS BinOp.rem 3 (Operand.tmp 82) (Operand.const (Value.int IntKind.i64 16)) most0 (Value.int IntKind.i64 16)) w fun t83 w =>
  valP Try.prog (binS BinOp.add 3 (Operand.tmp 83) (Operand.const (Value.int IntKind.i64 16)) t83 (Value.int IntKind.i64 16)) w fun t84 w =>
  valP Try.prog (binS BinOp.rem 3 (Operand.tmp 84) (Operand.const (Value.int IntKind.i64 16)) t84 (Value.int IntKind.i64 16)) w fun t85 w =>
  valP Try.prog (binS BinOp.add 3 (Operand.const (Value.int IntKind.i64 1)) (Operand.tmp 85) (Value.int IntKind.i64 1) t85) w fun t86 w =>
  builtinP Try.prog Builtin.min #[3, 3] 3 #[false, false] #[kinds10, t86] w fun t87 w =>
  valP Try.prog (binS BinOp.eql 3 (Operand.tmp 80) (Operand.tmp 87) t80 t87) w fun t88 w =>
  pickP t77 t88 (Value.bool false) fun t89 =>
  condP t89
  (callP Try.prog (fnV 12) #[] w fun t91 w =>
  pickP t89 t91 (Value.bool false) fun t92 =>
  m5_10 R t92 w)
  (pickP t89 undef (Value.bool false) fun t92 =>
  m5_10 R t92 w))
  (pickP t77 undef (Value.bool false) fun t89 =>
  condP t89
  (callP Try.prog (fnV 12) #[] w fun t91 w =>
  pickP t89 t91 (Value.bool false) fun t92 =>
  m5_10 R t92 w)
  (pickP t89 undef (Value.bool false) fun t92 =>
  m5_10 R t92 w)))
def m5_16 (R : Value → World → Prop) (K1 : (Value × Value) → World → Prop) (most0 : Value) (l1 : Value) (h5 : Value) (all6 : Value) (sum7 : Value) (kinds10 : Value) (i11 : Value) (t53 : Value) (w : World) : Prop :=
  condP t53
  (m5_13 R K1 most0 l1 h5 all6 sum7 kinds10 i11 w)
  (m5_9 R most0 l1 h5 all6 sum7 kinds10 w)
def m5_12 (R : Value → World → Prop) (K1 : (Value × Value) → World → Prop) (most0 : Value) (l1 : Value) (h5 : Value) (all6 : Value) (sum7 : Value) (kinds10 : Value) (i11 : Value) (w : World) : Prop :=
  builtinP Try.prog Builtin.len #[22] 3 #[false] #[l1] w fun t52 w =>
  valP Try.prog (binS BinOp.lss 3 (Operand.tmp 50) (Operand.tmp 52) i11 t52) w fun t53 w =>
  m5_16 R K1 most0 l1 h5 all6 sum7 kinds10 i11 t53 w
def m5_11 (R : Value → World → Prop) (most0 : Value) (l1 : Value) (h5 : Value) (all6 : Value) (sum7 : Value) (kinds10 : Value) (i11 : Value) (w : World) : Prop :=
  loopP (fun (K1 : (Value × Value) → World → Prop) (s : Value × Value) w => m5_12 R K1 most0 l1 h5 all6 sum7 s.1 s.2 w) (kinds10, i11) w
def m5_8 (R : Value → World → Prop) (most0 : Value) (l1 : Value) (h5 : Value) (all6 : Value) (sum7 : Value) (kinds10 : Value) (w : World) : Prop :=
  m5_11 R most0 l1 h5 all6 sum7 kinds10 (Value.int IntKind.i64 0) w
def m5_7 (R : Value → World → Prop) (most0 : Value) (l1 : Value) (h5 : Value) (all6 : Value) (sum7 : Value) (w : World) : Prop :=
  m5_8 R most0 l1 h5 all6 sum7 (Value.int IntKind.i64 0) w
def m5_29 (R : Value → World → Prop) (K1 : (Value × Value) → World → Prop) (most0 : Value) (l1 : Value) (h5 : Value) (all6 : Value) (sum7 : Value) (i8 : Value) (t24 : Value) (w : World) : Prop :=
  condP t24
  (m5_19 R K1 most0 l1 h5 all6 sum7 i8 w)
  (m5_7 R most0 l1 h5 all6 sum7 w)
def m5_18 (R : Value → World → Prop) (K1 : (Value × Value) → World → Prop) (most0 : Value) (l1 : Value) (h5 : Value) (all6 : Value) (sum7 : Value) (i8 : Value) (w : World) : Prop :=
  builtinP Try.prog Builtin.len #[28] 3 #[false] #[all6] w fun t23 w =>
  valP Try.prog (binS BinOp.lss 3 (Operand.tmp 21) (Operand.tmp 23) i8 t23) w fun t24 w =>
  m5_29 R K1 most0 l1 h5 all6 sum7 i8 t24 w
def m5_17 (R : Value → World → Prop) (most0 : Value) (l1 : Value) (h5 : Value) (all6 : Value) (sum7 : Value) (i8 : Value) (w : World) : Prop :=
  loopP (fun (K1 : (Value × Value) → World → Prop) (s : Value × Value) w => m5_18 R K1 most0 l1 h5 all6 s.1 s.2 w) (sum7, i8) w
def m5_6 (R : Value → World → Prop) (most0 : Value) (l1 : Value) (h5 : Value) (all6 : Value) (sum7 : Value) (w : World) : Prop :=
  m5_17 R most0 l1 h5 all6 sum7 (Value.int IntKind.i64 0) w
def m5_5 (R : Value → World → Prop) (most0 : Value) (l1 : Value) (h5 : Value) (all6 : Value) (w : World) : Prop :=
  m5_6 R most0 l1 h5 all6 (Value.int IntKind.i64 0) w
def m5_4 (R : Value → World → Prop) (most0 : Value) (l1 : Value) (h5 : Value) (w : World) : Prop :=
  callP Try.prog (fnV 19) #[h5, (Value.int IntKind.i64 64)] w fun t20 w =>
  m5_5 R most0 l1 h5 t20 w
def m5_30 (R : Value → World → Prop) (most0 : Value) (l1 : Value) (h5 : Value) (t18 : Value) (w : World) : Prop :=
  condP t18
  (m5_31 R (Value.bool false) w)
  (m5_4 R most0 l1 h5 w)
def m5_3 (R : Value → World → Prop) (most0 : Value) (l1 : Value) (h5 : Value) (w : World) : Prop :=
  valP Try.prog (binS BinOp.eql 24 (Operand.tmp 17) (Operand.const (Value.pointer none)) h5 (Value.pointer none)) w fun t18 w =>
  m5_30 R most0 l1 h5 t18 w
def m5_2 (R : Value → World → Prop) (most0 : Value) (l1 : Value) (w : World) : Prop :=
  callP Try.prog (fnV 21) #[most0, l1] w fun t16 w =>
  m5_3 R most0 l1 t16 w
def m5_1 (R : Value → World → Prop) (most0 : Value) (l1 : Value) (w : World) : Prop :=
  callP Try.prog (fnV 9) #[l1] w fun t13 w =>
  m5_2 R most0 t13 w
def m5_0 (R : Value → World → Prop) (most0 : Value) (l1 : Value) (w : World) : Prop :=
  m5_1 R most0 l1 w
abbrev W5 := cwp Try.prog (fun i => cond (Nat.beq i 20) 9 (cond (Nat.beq i 14) 1 (0)))
noncomputable def k5_0 : Code := (bodyOf Try.f5)
noncomputable def k5_1 : Code := (c2 k5_0)
noncomputable def k5_2 : Code := (c2 k5_1)
noncomputable def k5_3 : Code := (c2 k5_2)
noncomputable def k5_4 : Code := (c2 k5_3)
noncomputable def k5_5 : Code := (c2 k5_4)
noncomputable def k5_6 : Code := (c2 k5_5)
noncomputable def k5_7 : Code := (c2 k5_6)
noncomputable def k5_8 : Code := (c2 k5_7)
noncomputable def k5_9 : Code := (c2 k5_8)
noncomputable def k5_10 : Code := (c2 k5_9)
noncomputable def k5_11 : Code := (c2 (c1 k5_8))
noncomputable def k5_12 : Code := (c1 (c1 k5_11))
noncomputable def k5_13 : Code := (c2 k5_12)
noncomputable def k5_14 : Code := (c2 k5_13)
noncomputable def k5_15 : Code := (c2 (c1 (c1 k5_13)))
noncomputable def k5_16 : Code := (c2 (c1 k5_12))
noncomputable def k5_17 : Code := (c2 (c1 k5_6))
noncomputable def k5_18 : Code := (c1 (c1 k5_17))
noncomputable def k5_19 : Code := (c2 k5_18)
noncomputable def k5_20 : Code := (c2 k5_19)
noncomputable def k5_21 : Code := (c2 (c1 (c1 k5_19)))
noncomputable def k5_22 : Code := (c2 k5_21)
noncomputable def k5_23 : Code := (c1 (c1 k5_22))
noncomputable def k5_24 : Code := (c2 k5_23)
noncomputable def k5_25 : Code := (c2 k5_24)
noncomputable def k5_26 : Code := (c2 (c1 (c1 k5_24)))
noncomputable def k5_27 : Code := (c2 (c1 k5_26))
noncomputable def k5_28 : Code := (c2 (c1 k5_23))
noncomputable def k5_29 : Code := (c2 (c1 k5_18))
noncomputable def k5_30 : Code := (c2 (c1 k5_3))
noncomputable def k5_31 : Code := (c2 (c1 k5_30))
theorem s5_31 {R : Value → World → Prop} {Q : Exit → Env → World → Prop} (hR : ∀ e w, (R (e 4) w) → Q .ret e w) (e : Env) (w : World) (h : m5_31 R (e 4) w) : W5 k5_31 Q e w := by
  unfold m5_31 at h
  exact ret_ok (by kernel_rfl) (hR _ _ h)
theorem s5_27 {R : Value → World → Prop} {K1 : (Value × Value) → World → Prop} {K2 : Value → World → Prop} {Q : Exit → Env → World → Prop} (hR : ∀ e w, (R (e 4) w) → Q .ret e w) (e : Env) (w : World) (h : m5_27 R K1 K2 (e 4) w) : W5 k5_27 Q e w := by
  unfold m5_27 at h
  exact ret_ok (by kernel_rfl) (hR _ _ h)
theorem s5_25 {R : Value → World → Prop} {K1 : (Value × Value) → World → Prop} {K2 : Value → World → Prop} {Q : Exit → Env → World → Prop} (hN : ∀ e w, (K2 (e 9) w) → Q .normal e w) (e : Env) (w : World) (h : m5_25 R K1 K2 (e 0) (e 1) (e 5) (e 6) (e 7) (e 8) (e 9) w) : W5 k5_25 Q e w := by
  unfold m5_25 at h
  exact region_ok 13 (fun e w => K2 (e 9) w) (by kernel_rfl) (kcast (by kernel_rfl) h) hN (by kernel_rfl)
theorem s5_26 {R : Value → World → Prop} {K1 : (Value × Value) → World → Prop} {K2 : Value → World → Prop} {Q : Exit → Env → World → Prop} (hN : ∀ e w, (m5_25 R K1 K2 (e 0) (e 1) (e 5) (e 6) (e 7) (e 8) (e 9) w) → Q .normal e w) (hR : ∀ e w, (R (e 4) w) → Q .ret e w) (e : Env) (w : World) (h : m5_26 R K1 K2 (e 0) (e 1) (e 5) (e 6) (e 7) (e 8) (e 9) (e 49) w) : W5 k5_26 Q e w := by
  unfold m5_26 at h
  refine cond_ok (Operand.tmp 49) (by kernel_rfl) h (fun h1 => ?_) (fun h1 => ?_)
  · refine seq_ok' (by kernel_rfl) ?_
    have hN' : ∀ e w, (m5_27 R K1 K2 (e 4) w) → (thenE (W5 k5_27 Q) Q) .normal e w := fun e w h => then_N (s5_27 (R := R) (Q := Q) (K1 := K1) (K2 := K2) hR e w h)
    have hN := hN'
    exact region_ok 15 (fun e w => m5_27 R K1 K2 (e 4) w) (by kernel_rfl) (kcast (by kernel_rfl) h1) hN (by kernel_rfl)
  · exact skip_ok (by kernel_rfl) (hN _ _ h1)
theorem s5_24 {R : Value → World → Prop} {K1 : (Value × Value) → World → Prop} {K2 : Value → World → Prop} {Q : Exit → Env → World → Prop} (hN : ∀ e w, (K2 (e 9) w) → Q .normal e w) (hR : ∀ e w, (R (e 4) w) → Q .ret e w) (e : Env) (w : World) (h : m5_24 R K1 K2 (e 0) (e 1) (e 5) (e 6) (e 7) (e 8) (e 9) w) : W5 k5_24 Q e w := by
  unfold m5_24 at h
  refine seq_ok' (by kernel_rfl) ?_
  have hN' : ∀ e w, (m5_25 R K1 K2 (e 0) (e 1) (e 5) (e 6) (e 7) (e 8) (e 9) w) → (thenE (W5 k5_25 Q) Q) .normal e w := fun e w h => then_N (s5_25 (R := R) (Q := Q) (K1 := K1) (K2 := K2) hN e w h)
  have hR : ∀ e w, (R (e 4) w) → (thenE (W5 k5_25 Q) Q) .ret e w := fun e w h => then_R (hR e w h)
  have hN := hN'
  refine block_ok 3 (by kernel_rfl) ?_
  have hN : ∀ e w, (m5_25 R K1 K2 (e 0) (e 1) (e 5) (e 6) (e 7) (e 8) (e 9) w) → (inBlockE 3 (thenE (W5 k5_25 Q) Q)) .normal e w := fun e w h => block_N (hN e w h)
  have hR : ∀ e w, (R (e 4) w) → (inBlockE 3 (thenE (W5 k5_25 Q) Q)) .ret e w := fun e w h => block_R (hR e w h)
  refine seq_ok' (by kernel_rfl) ?_
  have hN' : ∀ e w, (m5_26 R K1 K2 (e 0) (e 1) (e 5) (e 6) (e 7) (e 8) (e 9) (e 49) w) → (thenE (W5 k5_26 (inBlockE 3 (thenE (W5 k5_25 Q) Q))) (inBlockE 3 (thenE (W5 k5_25 Q) Q))) .normal e w := fun e w h => then_N (s5_26 (R := R) (Q := (inBlockE 3 (thenE (W5 k5_25 Q) Q))) (K1 := K1) (K2 := K2) hN hR e w h)
  have hN := hN'
  exact quiet_ok 14 (fun e w => m5_26 R K1 K2 (e 0) (e 1) (e 5) (e 6) (e 7) (e 8) (e 9) (e 49) w) (by kernel_rfl) (by kernel_rfl) (by kernel_rfl) (kcast (by kernel_rfl) h) hN (by kernel_rfl)
theorem s5_20 {R : Value → World → Prop} {K1 : (Value × Value) → World → Prop} {Q : Exit → Env → World → Prop} (hN : ∀ e w, (K1 ((e 7), (e 8)) w) → Q .normal e w) (e : Env) (w : World) (h : m5_20 R K1 (e 0) (e 1) (e 5) (e 6) (e 7) (e 8) w) : W5 k5_20 Q e w := by
  unfold m5_20 at h
  exact region_ok 9 (fun e w => K1 ((e 7), (e 8)) w) (by kernel_rfl) (kcast (by kernel_rfl) h) hN (by kernel_rfl)
theorem s5_28 {R : Value → World → Prop} {K1 : (Value × Value) → World → Prop} {K2 : Value → World → Prop} {Q : Exit → Env → World → Prop} (hN : ∀ e w, (m5_24 R K1 K2 (e 0) (e 1) (e 5) (e 6) (e 7) (e 8) (e 9) w) → Q .normal e w) (hX2 : ∀ e w, (m5_20 R K1 (e 0) (e 1) (e 5) (e 6) (e 7) (e 8) w) → Q (.exit 2) e w) (e : Env) (w : World) (h : m5_28 R K1 K2 (e 0) (e 1) (e 5) (e 6) (e 7) (e 8) (e 9) (e 36) w) : W5 k5_28 Q e w := by
  unfold m5_28 at h
  refine cond_ok (Operand.tmp 36) (by kernel_rfl) h (fun h1 => ?_) (fun h1 => ?_)
  · exact skip_ok (by kernel_rfl) (hN _ _ h1)
  · exact exit_ok 2 (by kernel_rfl) (hX2 _ _ h1)
theorem s5_23 {R : Value → World → Prop} {K1 : (Value × Value) → World → Prop} {K2 : Value → World → Prop} {Q : Exit → Env → World → Prop} (hN : ∀ e w, (K2 (e 9) w) → Q .normal e w) (hR : ∀ e w, (R (e 4) w) → Q .ret e w) (hX2 : ∀ e w, (m5_20 R K1 (e 0) (e 1) (e 5) (e 6) (e 7) (e 8) w) → Q (.exit 2) e w) (e : Env) (w : World) (h : m5_23 R K1 K2 (e 0) (e 1) (e 5) (e 6) (e 7) (e 8) (e 9) w) : W5 k5_23 Q e w := by
  unfold m5_23 at h
  refine seq_ok' (by kernel_rfl) ?_
  have hN' : ∀ e w, (m5_24 R K1 K2 (e 0) (e 1) (e 5) (e 6) (e 7) (e 8) (e 9) w) → (thenE (W5 k5_24 Q) Q) .normal e w := fun e w h => then_N (s5_24 (R := R) (Q := Q) (K1 := K1) (K2 := K2) hN hR e w h)
  have hX2 : ∀ e w, (m5_20 R K1 (e 0) (e 1) (e 5) (e 6) (e 7) (e 8) w) → (thenE (W5 k5_24 Q) Q) (.exit 2) e w := fun e w h => then_X (hX2 e w h)
  have hN := hN'
  refine seq_ok' (by kernel_rfl) ?_
  have hN' : ∀ e w, (m5_28 R K1 K2 (e 0) (e 1) (e 5) (e 6) (e 7) (e 8) (e 9) (e 36) w) → (thenE (W5 k5_28 (thenE (W5 k5_24 Q) Q)) (thenE (W5 k5_24 Q) Q)) .normal e w := fun e w h => then_N (s5_28 (R := R) (Q := (thenE (W5 k5_24 Q) Q)) (K1 := K1) (K2 := K2) hN hX2 e w h)
  have hN := hN'
  exact region_ok 12 (fun e w => m5_28 R K1 K2 (e 0) (e 1) (e 5) (e 6) (e 7) (e 8) (e 9) (e 36) w) (by kernel_rfl) (kcast (by kernel_rfl) h) hN (by kernel_rfl)
theorem s5_22 {R : Value → World → Prop} {K1 : (Value × Value) → World → Prop} {Q : Exit → Env → World → Prop} (hN : ∀ e w, (m5_20 R K1 (e 0) (e 1) (e 5) (e 6) (e 7) (e 8) w) → Q .normal e w) (hR : ∀ e w, (R (e 4) w) → Q .ret e w) (e : Env) (w : World) (h : m5_22 R K1 (e 0) (e 1) (e 5) (e 6) (e 7) (e 8) (e 9) w) : W5 k5_22 Q e w := by
  unfold m5_22 at h
  refine block_ok 2 (by kernel_rfl) ?_
  have hX2 : ∀ e w, (m5_20 R K1 (e 0) (e 1) (e 5) (e 6) (e 7) (e 8) w) → (inBlockE 2 Q) (.exit 2) e w := fun e w h => inBlock_same (Q := Q) 2 (hN e w h)
  have hR : ∀ e w, (R (e 4) w) → (inBlockE 2 Q) .ret e w := fun e w h => block_R (hR e w h)
  refine loop_ok' (fun (e : Env) => e 9) [0, 1, 5, 6, 7, 8] (by kernel_rfl) (by kernel_rfl) h (fun K e' w' hk h' => ?_)
  have r0 : e' 0 = e 0 := hk 0 (by decide)
  have r1 : e' 1 = e 1 := hk 1 (by decide)
  have r5 : e' 5 = e 5 := hk 5 (by decide)
  have r6 : e' 6 = e 6 := hk 6 (by decide)
  have r7 : e' 7 = e 7 := hk 7 (by decide)
  have r8 : e' 8 = e 8 := hk 8 (by decide)
  have hR : ∀ e w, (R (e 4) w) → (thenE (fun (e : Env) w => K (e 9) w) (inBlockE 2 Q)) .ret e w := fun e w h => then_R (hR e w h)
  have hX2 : ∀ e w, (m5_20 R K1 (e 0) (e 1) (e 5) (e 6) (e 7) (e 8) w) → (thenE (fun (e : Env) w => K (e 9) w) (inBlockE 2 Q)) (.exit 2) e w := fun e w h => then_X (hX2 e w h)
  exact s5_23 (R := R) (Q := (thenE (fun (e : Env) w => K (e 9) w) (inBlockE 2 Q))) (K1 := K1) (K2 := K) (fun _ _ h => then_N h) hR hX2 e' w' (by rw [r0, r1, r5, r6, r7, r8]; exact h')
theorem s5_21 {R : Value → World → Prop} {K1 : (Value × Value) → World → Prop} {Q : Exit → Env → World → Prop} (hN : ∀ e w, (m5_20 R K1 (e 0) (e 1) (e 5) (e 6) (e 7) (e 8) w) → Q .normal e w) (hR : ∀ e w, (R (e 4) w) → Q .ret e w) (e : Env) (w : World) (h : m5_21 R K1 (e 0) (e 1) (e 5) (e 6) (e 7) (e 8) w) : W5 k5_21 Q e w := by
  unfold m5_21 at h
  refine seq_ok' (by kernel_rfl) ?_
  have hN' : ∀ e w, (m5_22 R K1 (e 0) (e 1) (e 5) (e 6) (e 7) (e 8) (e 9) w) → (thenE (W5 k5_22 Q) Q) .normal e w := fun e w h => then_N (s5_22 (R := R) (Q := Q) (K1 := K1) hN hR e w h)
  have hN := hN'
  exact region_ok 11 (fun e w => m5_22 R K1 (e 0) (e 1) (e 5) (e 6) (e 7) (e 8) (e 9) w) (by kernel_rfl) (kcast (by kernel_rfl) h) hN (by kernel_rfl)
theorem s5_19 {R : Value → World → Prop} {K1 : (Value × Value) → World → Prop} {Q : Exit → Env → World → Prop} (hN : ∀ e w, (K1 ((e 7), (e 8)) w) → Q .normal e w) (hR : ∀ e w, (R (e 4) w) → Q .ret e w) (e : Env) (w : World) (h : m5_19 R K1 (e 0) (e 1) (e 5) (e 6) (e 7) (e 8) w) : W5 k5_19 Q e w := by
  unfold m5_19 at h
  refine seq_ok' (by kernel_rfl) ?_
  have hN' : ∀ e w, (m5_20 R K1 (e 0) (e 1) (e 5) (e 6) (e 7) (e 8) w) → (thenE (W5 k5_20 Q) Q) .normal e w := fun e w h => then_N (s5_20 (R := R) (Q := Q) (K1 := K1) hN e w h)
  have hR : ∀ e w, (R (e 4) w) → (thenE (W5 k5_20 Q) Q) .ret e w := fun e w h => then_R (hR e w h)
  have hN := hN'
  refine block_ok 1 (by kernel_rfl) ?_
  have hN : ∀ e w, (m5_20 R K1 (e 0) (e 1) (e 5) (e 6) (e 7) (e 8) w) → (inBlockE 1 (thenE (W5 k5_20 Q) Q)) .normal e w := fun e w h => block_N (hN e w h)
  have hR : ∀ e w, (R (e 4) w) → (inBlockE 1 (thenE (W5 k5_20 Q) Q)) .ret e w := fun e w h => block_R (hR e w h)
  refine seq_ok' (by kernel_rfl) ?_
  have hN' : ∀ e w, (m5_21 R K1 (e 0) (e 1) (e 5) (e 6) (e 7) (e 8) w) → (thenE (W5 k5_21 (inBlockE 1 (thenE (W5 k5_20 Q) Q))) (inBlockE 1 (thenE (W5 k5_20 Q) Q))) .normal e w := fun e w h => then_N (s5_21 (R := R) (Q := (inBlockE 1 (thenE (W5 k5_20 Q) Q))) (K1 := K1) hN hR e w h)
  have hN := hN'
  exact region_ok 10 (fun e w => m5_21 R K1 (e 0) (e 1) (e 5) (e 6) (e 7) (e 8) w) (by kernel_rfl) (kcast (by kernel_rfl) h) hN (by kernel_rfl)
theorem s5_14 {R : Value → World → Prop} {K1 : (Value × Value) → World → Prop} {Q : Exit → Env → World → Prop} (hN : ∀ e w, (K1 ((e 10), (e 11)) w) → Q .normal e w) (e : Env) (w : World) (h : m5_14 R K1 (e 0) (e 1) (e 5) (e 6) (e 7) (e 10) (e 11) w) : W5 k5_14 Q e w := by
  unfold m5_14 at h
  exact region_ok 19 (fun e w => K1 ((e 10), (e 11)) w) (by kernel_rfl) (kcast (by kernel_rfl) h) hN (by kernel_rfl)
theorem s5_15 {R : Value → World → Prop} {K1 : (Value × Value) → World → Prop} {Q : Exit → Env → World → Prop} (hN : ∀ e w, (m5_14 R K1 (e 0) (e 1) (e 5) (e 6) (e 7) (e 10) (e 11) w) → Q .normal e w) (e : Env) (w : World) (h : m5_15 R K1 (e 0) (e 1) (e 5) (e 6) (e 7) (e 10) (e 11) (e 64) w) : W5 k5_15 Q e w := by
  unfold m5_15 at h
  refine cond_ok (Operand.tmp 64) (by kernel_rfl) h (fun h1 => ?_) (fun h1 => ?_)
  · exact region_ok 21 (fun e w => m5_14 R K1 (e 0) (e 1) (e 5) (e 6) (e 7) (e 10) (e 11) w) (by kernel_rfl) (kcast (by kernel_rfl) h1) hN (by kernel_rfl)
  · exact skip_ok (by kernel_rfl) (hN _ _ h1)
theorem s5_13 {R : Value → World → Prop} {K1 : (Value × Value) → World → Prop} {Q : Exit → Env → World → Prop} (hN : ∀ e w, (K1 ((e 10), (e 11)) w) → Q .normal e w) (e : Env) (w : World) (h : m5_13 R K1 (e 0) (e 1) (e 5) (e 6) (e 7) (e 10) (e 11) w) : W5 k5_13 Q e w := by
  unfold m5_13 at h
  refine seq_ok' (by kernel_rfl) ?_
  have hN' : ∀ e w, (m5_14 R K1 (e 0) (e 1) (e 5) (e 6) (e 7) (e 10) (e 11) w) → (thenE (W5 k5_14 Q) Q) .normal e w := fun e w h => then_N (s5_14 (R := R) (Q := Q) (K1 := K1) hN e w h)
  have hN := hN'
  refine block_ok 5 (by kernel_rfl) ?_
  have hN : ∀ e w, (m5_14 R K1 (e 0) (e 1) (e 5) (e 6) (e 7) (e 10) (e 11) w) → (inBlockE 5 (thenE (W5 k5_14 Q) Q)) .normal e w := fun e w h => block_N (hN e w h)
  refine seq_ok' (by kernel_rfl) ?_
  have hN' : ∀ e w, (m5_15 R K1 (e 0) (e 1) (e 5) (e 6) (e 7) (e 10) (e 11) (e 64) w) → (thenE (W5 k5_15 (inBlockE 5 (thenE (W5 k5_14 Q) Q))) (inBlockE 5 (thenE (W5 k5_14 Q) Q))) .normal e w := fun e w h => then_N (s5_15 (R := R) (Q := (inBlockE 5 (thenE (W5 k5_14 Q) Q))) (K1 := K1) hN e w h)
  have hN := hN'
  exact tail_ok 20 7 (fun e w => m5_15 R K1 (e 0) (e 1) (e 5) (e 6) (e 7) (e 10) (e 11) (e 64) w) (by kernel_rfl) (by kernel_rfl) (by kernel_rfl) (kcast (by kernel_rfl) h) hN (by kernel_rfl)
theorem s5_10 {R : Value → World → Prop} {Q : Exit → Env → World → Prop} (hR : ∀ e w, (R (e 4) w) → Q .ret e w) (e : Env) (w : World) (h : m5_10 R (e 4) w) : W5 k5_10 Q e w := by
  unfold m5_10 at h
  exact ret_ok (by kernel_rfl) (hR _ _ h)
theorem s5_9 {R : Value → World → Prop} {Q : Exit → Env → World → Prop} (hR : ∀ e w, (R (e 4) w) → Q .ret e w) (e : Env) (w : World) (h : m5_9 R (e 0) (e 1) (e 5) (e 6) (e 7) (e 10) w) : W5 k5_9 Q e w := by
  unfold m5_9 at h
  refine seq_ok' (by kernel_rfl) ?_
  have hN' : ∀ e w, (m5_10 R (e 4) w) → (thenE (W5 k5_10 Q) Q) .normal e w := fun e w h => then_N (s5_10 (R := R) (Q := Q) hR e w h)
  have hN := hN'
  exact region_ok 22 (fun e w => m5_10 R (e 4) w) (by kernel_rfl) (kcast (by kernel_rfl) h) hN (by kernel_rfl)
theorem s5_16 {R : Value → World → Prop} {K1 : (Value × Value) → World → Prop} {Q : Exit → Env → World → Prop} (hN : ∀ e w, (m5_13 R K1 (e 0) (e 1) (e 5) (e 6) (e 7) (e 10) (e 11) w) → Q .normal e w) (hX4 : ∀ e w, (m5_9 R (e 0) (e 1) (e 5) (e 6) (e 7) (e 10) w) → Q (.exit 4) e w) (e : Env) (w : World) (h : m5_16 R K1 (e 0) (e 1) (e 5) (e 6) (e 7) (e 10) (e 11) (e 53) w) : W5 k5_16 Q e w := by
  unfold m5_16 at h
  refine cond_ok (Operand.tmp 53) (by kernel_rfl) h (fun h1 => ?_) (fun h1 => ?_)
  · exact skip_ok (by kernel_rfl) (hN _ _ h1)
  · exact exit_ok 4 (by kernel_rfl) (hX4 _ _ h1)
theorem s5_12 {R : Value → World → Prop} {K1 : (Value × Value) → World → Prop} {Q : Exit → Env → World → Prop} (hN : ∀ e w, (K1 ((e 10), (e 11)) w) → Q .normal e w) (hX4 : ∀ e w, (m5_9 R (e 0) (e 1) (e 5) (e 6) (e 7) (e 10) w) → Q (.exit 4) e w) (e : Env) (w : World) (h : m5_12 R K1 (e 0) (e 1) (e 5) (e 6) (e 7) (e 10) (e 11) w) : W5 k5_12 Q e w := by
  unfold m5_12 at h
  refine seq_ok' (by kernel_rfl) ?_
  have hN' : ∀ e w, (m5_13 R K1 (e 0) (e 1) (e 5) (e 6) (e 7) (e 10) (e 11) w) → (thenE (W5 k5_13 Q) Q) .normal e w := fun e w h => then_N (s5_13 (R := R) (Q := Q) (K1 := K1) hN e w h)
  have hX4 : ∀ e w, (m5_9 R (e 0) (e 1) (e 5) (e 6) (e 7) (e 10) w) → (thenE (W5 k5_13 Q) Q) (.exit 4) e w := fun e w h => then_X (hX4 e w h)
  have hN := hN'
  refine seq_ok' (by kernel_rfl) ?_
  have hN' : ∀ e w, (m5_16 R K1 (e 0) (e 1) (e 5) (e 6) (e 7) (e 10) (e 11) (e 53) w) → (thenE (W5 k5_16 (thenE (W5 k5_13 Q) Q)) (thenE (W5 k5_13 Q) Q)) .normal e w := fun e w h => then_N (s5_16 (R := R) (Q := (thenE (W5 k5_13 Q) Q)) (K1 := K1) hN hX4 e w h)
  have hN := hN'
  exact region_ok 18 (fun e w => m5_16 R K1 (e 0) (e 1) (e 5) (e 6) (e 7) (e 10) (e 11) (e 53) w) (by kernel_rfl) (kcast (by kernel_rfl) h) hN (by kernel_rfl)
theorem s5_11 {R : Value → World → Prop} {Q : Exit → Env → World → Prop} (hN : ∀ e w, (m5_9 R (e 0) (e 1) (e 5) (e 6) (e 7) (e 10) w) → Q .normal e w) (e : Env) (w : World) (h : m5_11 R (e 0) (e 1) (e 5) (e 6) (e 7) (e 10) (e 11) w) : W5 k5_11 Q e w := by
  unfold m5_11 at h
  refine block_ok 4 (by kernel_rfl) ?_
  have hX4 : ∀ e w, (m5_9 R (e 0) (e 1) (e 5) (e 6) (e 7) (e 10) w) → (inBlockE 4 Q) (.exit 4) e w := fun e w h => inBlock_same (Q := Q) 4 (hN e w h)
  refine loop_ok' (fun (e : Env) => (e 10, e 11)) [0, 1, 5, 6, 7] (by kernel_rfl) (by kernel_rfl) h (fun K e' w' hk h' => ?_)
  have r0 : e' 0 = e 0 := hk 0 (by decide)
  have r1 : e' 1 = e 1 := hk 1 (by decide)
  have r5 : e' 5 = e 5 := hk 5 (by decide)
  have r6 : e' 6 = e 6 := hk 6 (by decide)
  have r7 : e' 7 = e 7 := hk 7 (by decide)
  have hX4 : ∀ e w, (m5_9 R (e 0) (e 1) (e 5) (e 6) (e 7) (e 10) w) → (thenE (fun (e : Env) w => K ((e 10), (e 11)) w) (inBlockE 4 Q)) (.exit 4) e w := fun e w h => then_X (hX4 e w h)
  exact s5_12 (R := R) (Q := (thenE (fun (e : Env) w => K ((e 10), (e 11)) w) (inBlockE 4 Q))) (K1 := K) (fun _ _ h => then_N h) hX4 e' w' (by rw [r0, r1, r5, r6, r7]; exact h')
theorem s5_8 {R : Value → World → Prop} {Q : Exit → Env → World → Prop} (hR : ∀ e w, (R (e 4) w) → Q .ret e w) (e : Env) (w : World) (h : m5_8 R (e 0) (e 1) (e 5) (e 6) (e 7) (e 10) w) : W5 k5_8 Q e w := by
  unfold m5_8 at h
  refine seq_ok' (by kernel_rfl) ?_
  have hN' : ∀ e w, (m5_9 R (e 0) (e 1) (e 5) (e 6) (e 7) (e 10) w) → (thenE (W5 k5_9 Q) Q) .normal e w := fun e w h => then_N (s5_9 (R := R) (Q := Q) hR e w h)
  have hN := hN'
  refine seq_ok' (by kernel_rfl) ?_
  have hN' : ∀ e w, (m5_11 R (e 0) (e 1) (e 5) (e 6) (e 7) (e 10) (e 11) w) → (thenE (W5 k5_11 (thenE (W5 k5_9 Q) Q)) (thenE (W5 k5_9 Q) Q)) .normal e w := fun e w h => then_N (s5_11 (R := R) (Q := (thenE (W5 k5_9 Q) Q)) hN e w h)
  have hN := hN'
  exact region_ok 17 (fun e w => m5_11 R (e 0) (e 1) (e 5) (e 6) (e 7) (e 10) (e 11) w) (by kernel_rfl) (kcast (by kernel_rfl) h) hN (by kernel_rfl)
theorem s5_7 {R : Value → World → Prop} {Q : Exit → Env → World → Prop} (hR : ∀ e w, (R (e 4) w) → Q .ret e w) (e : Env) (w : World) (h : m5_7 R (e 0) (e 1) (e 5) (e 6) (e 7) w) : W5 k5_7 Q e w := by
  unfold m5_7 at h
  refine seq_ok' (by kernel_rfl) ?_
  have hN' : ∀ e w, (m5_8 R (e 0) (e 1) (e 5) (e 6) (e 7) (e 10) w) → (thenE (W5 k5_8 Q) Q) .normal e w := fun e w h => then_N (s5_8 (R := R) (Q := Q) hR e w h)
  have hN := hN'
  exact region_ok 16 (fun e w => m5_8 R (e 0) (e 1) (e 5) (e 6) (e 7) (e 10) w) (by kernel_rfl) (kcast (by kernel_rfl) h) hN (by kernel_rfl)
theorem s5_29 {R : Value → World → Prop} {K1 : (Value × Value) → World → Prop} {Q : Exit → Env → World → Prop} (hN : ∀ e w, (m5_19 R K1 (e 0) (e 1) (e 5) (e 6) (e 7) (e 8) w) → Q .normal e w) (hX0 : ∀ e w, (m5_7 R (e 0) (e 1) (e 5) (e 6) (e 7) w) → Q (.exit 0) e w) (e : Env) (w : World) (h : m5_29 R K1 (e 0) (e 1) (e 5) (e 6) (e 7) (e 8) (e 24) w) : W5 k5_29 Q e w := by
  unfold m5_29 at h
  refine cond_ok (Operand.tmp 24) (by kernel_rfl) h (fun h1 => ?_) (fun h1 => ?_)
  · exact skip_ok (by kernel_rfl) (hN _ _ h1)
  · exact exit_ok 0 (by kernel_rfl) (hX0 _ _ h1)
theorem s5_18 {R : Value → World → Prop} {K1 : (Value × Value) → World → Prop} {Q : Exit → Env → World → Prop} (hN : ∀ e w, (K1 ((e 7), (e 8)) w) → Q .normal e w) (hR : ∀ e w, (R (e 4) w) → Q .ret e w) (hX0 : ∀ e w, (m5_7 R (e 0) (e 1) (e 5) (e 6) (e 7) w) → Q (.exit 0) e w) (e : Env) (w : World) (h : m5_18 R K1 (e 0) (e 1) (e 5) (e 6) (e 7) (e 8) w) : W5 k5_18 Q e w := by
  unfold m5_18 at h
  refine seq_ok' (by kernel_rfl) ?_
  have hN' : ∀ e w, (m5_19 R K1 (e 0) (e 1) (e 5) (e 6) (e 7) (e 8) w) → (thenE (W5 k5_19 Q) Q) .normal e w := fun e w h => then_N (s5_19 (R := R) (Q := Q) (K1 := K1) hN hR e w h)
  have hX0 : ∀ e w, (m5_7 R (e 0) (e 1) (e 5) (e 6) (e 7) w) → (thenE (W5 k5_19 Q) Q) (.exit 0) e w := fun e w h => then_X (hX0 e w h)
  have hN := hN'
  refine seq_ok' (by kernel_rfl) ?_
  have hN' : ∀ e w, (m5_29 R K1 (e 0) (e 1) (e 5) (e 6) (e 7) (e 8) (e 24) w) → (thenE (W5 k5_29 (thenE (W5 k5_19 Q) Q)) (thenE (W5 k5_19 Q) Q)) .normal e w := fun e w h => then_N (s5_29 (R := R) (Q := (thenE (W5 k5_19 Q) Q)) (K1 := K1) hN hX0 e w h)
  have hN := hN'
  exact region_ok 8 (fun e w => m5_29 R K1 (e 0) (e 1) (e 5) (e 6) (e 7) (e 8) (e 24) w) (by kernel_rfl) (kcast (by kernel_rfl) h) hN (by kernel_rfl)
theorem s5_17 {R : Value → World → Prop} {Q : Exit → Env → World → Prop} (hN : ∀ e w, (m5_7 R (e 0) (e 1) (e 5) (e 6) (e 7) w) → Q .normal e w) (hR : ∀ e w, (R (e 4) w) → Q .ret e w) (e : Env) (w : World) (h : m5_17 R (e 0) (e 1) (e 5) (e 6) (e 7) (e 8) w) : W5 k5_17 Q e w := by
  unfold m5_17 at h
  refine block_ok 0 (by kernel_rfl) ?_
  have hX0 : ∀ e w, (m5_7 R (e 0) (e 1) (e 5) (e 6) (e 7) w) → (inBlockE 0 Q) (.exit 0) e w := fun e w h => inBlock_same (Q := Q) 0 (hN e w h)
  have hR : ∀ e w, (R (e 4) w) → (inBlockE 0 Q) .ret e w := fun e w h => block_R (hR e w h)
  refine loop_ok' (fun (e : Env) => (e 7, e 8)) [0, 1, 5, 6] (by kernel_rfl) (by kernel_rfl) h (fun K e' w' hk h' => ?_)
  have r0 : e' 0 = e 0 := hk 0 (by decide)
  have r1 : e' 1 = e 1 := hk 1 (by decide)
  have r5 : e' 5 = e 5 := hk 5 (by decide)
  have r6 : e' 6 = e 6 := hk 6 (by decide)
  have hR : ∀ e w, (R (e 4) w) → (thenE (fun (e : Env) w => K ((e 7), (e 8)) w) (inBlockE 0 Q)) .ret e w := fun e w h => then_R (hR e w h)
  have hX0 : ∀ e w, (m5_7 R (e 0) (e 1) (e 5) (e 6) (e 7) w) → (thenE (fun (e : Env) w => K ((e 7), (e 8)) w) (inBlockE 0 Q)) (.exit 0) e w := fun e w h => then_X (hX0 e w h)
  exact s5_18 (R := R) (Q := (thenE (fun (e : Env) w => K ((e 7), (e 8)) w) (inBlockE 0 Q))) (K1 := K) (fun _ _ h => then_N h) hR hX0 e' w' (by rw [r0, r1, r5, r6]; exact h')
theorem s5_6 {R : Value → World → Prop} {Q : Exit → Env → World → Prop} (hR : ∀ e w, (R (e 4) w) → Q .ret e w) (e : Env) (w : World) (h : m5_6 R (e 0) (e 1) (e 5) (e 6) (e 7) w) : W5 k5_6 Q e w := by
  unfold m5_6 at h
  refine seq_ok' (by kernel_rfl) ?_
  have hN' : ∀ e w, (m5_7 R (e 0) (e 1) (e 5) (e 6) (e 7) w) → (thenE (W5 k5_7 Q) Q) .normal e w := fun e w h => then_N (s5_7 (R := R) (Q := Q) hR e w h)
  have hR : ∀ e w, (R (e 4) w) → (thenE (W5 k5_7 Q) Q) .ret e w := fun e w h => then_R (hR e w h)
  have hN := hN'
  refine seq_ok' (by kernel_rfl) ?_
  have hN' : ∀ e w, (m5_17 R (e 0) (e 1) (e 5) (e 6) (e 7) (e 8) w) → (thenE (W5 k5_17 (thenE (W5 k5_7 Q) Q)) (thenE (W5 k5_7 Q) Q)) .normal e w := fun e w h => then_N (s5_17 (R := R) (Q := (thenE (W5 k5_7 Q) Q)) hN hR e w h)
  have hN := hN'
  exact region_ok 7 (fun e w => m5_17 R (e 0) (e 1) (e 5) (e 6) (e 7) (e 8) w) (by kernel_rfl) (kcast (by kernel_rfl) h) hN (by kernel_rfl)
theorem s5_5 {R : Value → World → Prop} {Q : Exit → Env → World → Prop} (hR : ∀ e w, (R (e 4) w) → Q .ret e w) (e : Env) (w : World) (h : m5_5 R (e 0) (e 1) (e 5) (e 6) w) : W5 k5_5 Q e w := by
  unfold m5_5 at h
  refine seq_ok' (by kernel_rfl) ?_
  have hN' : ∀ e w, (m5_6 R (e 0) (e 1) (e 5) (e 6) (e 7) w) → (thenE (W5 k5_6 Q) Q) .normal e w := fun e w h => then_N (s5_6 (R := R) (Q := Q) hR e w h)
  have hN := hN'
  exact region_ok 6 (fun e w => m5_6 R (e 0) (e 1) (e 5) (e 6) (e 7) w) (by kernel_rfl) (kcast (by kernel_rfl) h) hN (by kernel_rfl)
theorem s5_4 {R : Value → World → Prop} {Q : Exit → Env → World → Prop} (hR : ∀ e w, (R (e 4) w) → Q .ret e w) (e : Env) (w : World) (h : m5_4 R (e 0) (e 1) (e 5) w) : W5 k5_4 Q e w := by
  unfold m5_4 at h
  refine seq_ok' (by kernel_rfl) ?_
  have hN' : ∀ e w, (m5_5 R (e 0) (e 1) (e 5) (e 6) w) → (thenE (W5 k5_5 Q) Q) .normal e w := fun e w h => then_N (s5_5 (R := R) (Q := Q) hR e w h)
  have hN := hN'
  exact region_ok 5 (fun e w => m5_5 R (e 0) (e 1) (e 5) (e 6) w) (by kernel_rfl) (kcast (by kernel_rfl) h) hN (by kernel_rfl)
theorem s5_30 {R : Value → World → Prop} {Q : Exit → Env → World → Prop} (hN : ∀ e w, (m5_4 R (e 0) (e 1) (e 5) w) → Q .normal e w) (hR : ∀ e w, (R (e 4) w) → Q .ret e w) (e : Env) (w : World) (h : m5_30 R (e 0) (e 1) (e 5) (e 18) w) : W5 k5_30 Q e w := by
  unfold m5_30 at h
  refine cond_ok (Operand.tmp 18) (by kernel_rfl) h (fun h1 => ?_) (fun h1 => ?_)
  · refine seq_ok' (by kernel_rfl) ?_
    have hN' : ∀ e w, (m5_31 R (e 4) w) → (thenE (W5 k5_31 Q) Q) .normal e w := fun e w h => then_N (s5_31 (R := R) (Q := Q) hR e w h)
    have hN := hN'
    exact region_ok 4 (fun e w => m5_31 R (e 4) w) (by kernel_rfl) (kcast (by kernel_rfl) h1) hN (by kernel_rfl)
  · exact skip_ok (by kernel_rfl) (hN _ _ h1)
theorem s5_3 {R : Value → World → Prop} {Q : Exit → Env → World → Prop} (hR : ∀ e w, (R (e 4) w) → Q .ret e w) (e : Env) (w : World) (h : m5_3 R (e 0) (e 1) (e 5) w) : W5 k5_3 Q e w := by
  unfold m5_3 at h
  refine seq_ok' (by kernel_rfl) ?_
  have hN' : ∀ e w, (m5_4 R (e 0) (e 1) (e 5) w) → (thenE (W5 k5_4 Q) Q) .normal e w := fun e w h => then_N (s5_4 (R := R) (Q := Q) hR e w h)
  have hR : ∀ e w, (R (e 4) w) → (thenE (W5 k5_4 Q) Q) .ret e w := fun e w h => then_R (hR e w h)
  have hN := hN'
  refine seq_ok' (by kernel_rfl) ?_
  have hN' : ∀ e w, (m5_30 R (e 0) (e 1) (e 5) (e 18) w) → (thenE (W5 k5_30 (thenE (W5 k5_4 Q) Q)) (thenE (W5 k5_4 Q) Q)) .normal e w := fun e w h => then_N (s5_30 (R := R) (Q := (thenE (W5 k5_4 Q) Q)) hN hR e w h)
  have hN := hN'
  exact region_ok 3 (fun e w => m5_30 R (e 0) (e 1) (e 5) (e 18) w) (by kernel_rfl) (kcast (by kernel_rfl) h) hN (by kernel_rfl)
theorem s5_2 {R : Value → World → Prop} {Q : Exit → Env → World → Prop} (hR : ∀ e w, (R (e 4) w) → Q .ret e w) (e : Env) (w : World) (h : m5_2 R (e 0) (e 1) w) : W5 k5_2 Q e w := by
  unfold m5_2 at h
  refine seq_ok' (by kernel_rfl) ?_
  have hN' : ∀ e w, (m5_3 R (e 0) (e 1) (e 5) w) → (thenE (W5 k5_3 Q) Q) .normal e w := fun e w h => then_N (s5_3 (R := R) (Q := Q) hR e w h)
  have hN := hN'
  exact region_ok 2 (fun e w => m5_3 R (e 0) (e 1) (e 5) w) (by kernel_rfl) (kcast (by kernel_rfl) h) hN (by kernel_rfl)
theorem s5_1 {R : Value → World → Prop} {Q : Exit → Env → World → Prop} (hR : ∀ e w, (R (e 4) w) → Q .ret e w) (e : Env) (w : World) (h : m5_1 R (e 0) (e 1) w) : W5 k5_1 Q e w := by
  unfold m5_1 at h
  refine seq_ok' (by kernel_rfl) ?_
  have hN' : ∀ e w, (m5_2 R (e 0) (e 1) w) → (thenE (W5 k5_2 Q) Q) .normal e w := fun e w h => then_N (s5_2 (R := R) (Q := Q) hR e w h)
  have hN := hN'
  exact region_ok 1 (fun e w => m5_2 R (e 0) (e 1) w) (by kernel_rfl) (kcast (by kernel_rfl) h) hN (by kernel_rfl)
theorem s5_0 {R : Value → World → Prop} {Q : Exit → Env → World → Prop} (hR : ∀ e w, (R (e 4) w) → Q .ret e w) (e : Env) (w : World) (h : m5_0 R (e 0) (e 1) w) : W5 k5_0 Q e w := by
  unfold m5_0 at h
  refine seq_ok' (by kernel_rfl) ?_
  have hN' : ∀ e w, (m5_1 R (e 0) (e 1) w) → (thenE (W5 k5_1 Q) Q) .normal e w := fun e w h => then_N (s5_1 (R := R) (Q := Q) hR e w h)
  have hN := hN'
  exact region_ok 0 (fun e w => m5_1 R (e 0) (e 1) w) (by kernel_rfl) (kcast (by kernel_rfl) h) hN (by kernel_rfl)
abbrev m5 (R : Value → World → Prop) (most0 : Value) (l1 : Value) (w : World) : Prop := m5_0 R most0 l1 w
theorem s5 (most0 : Value) (l1 : Value) {R : Value → World → Prop} {w : World} (h : m5 R most0 l1 w) :
    Calls Try.prog 5 #[most0, l1] w fun e w' => ∃ v, e = .returned v ∧ R v w' :=
  calls_of_cwp (st := (fun i => cond (Nat.beq i 20) 9 (cond (Nat.beq i 14) 1 (0)))) (c := k5_0) (by kernel_rfl) Try.func5 (by kernel_rfl) (Nat.le_of_ble_eq_true (by kernel_rfl)) (by kernel_rfl)
    (s5_0 (R := R) (Q := endE Try.prog Try.f5 R) (fun e w h => kcast (by kernel_rfl) h) (argsE #[most0, l1]) w (kcast (by kernel_rfl) h))
end Go.Proofs.Ytcfdalmnhgiaeaa.M
