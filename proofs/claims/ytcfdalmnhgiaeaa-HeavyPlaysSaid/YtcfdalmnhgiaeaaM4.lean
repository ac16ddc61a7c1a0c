/- What functions' texts ask of their ends, told over values that have names; printed by a program of this work. -/
import Derived.Test.YtcfdalmnhgiaeaaFw
import Derived.Test.YtcfdalmnhgiaeaaProg
namespace Go.Proofs.Ytcfdalmnhgiaeaa.M
open Go.Proofs.Ytcfdalmnhgiaeaa.F
set_option linter.unusedVariables false
set_option maxRecDepth 100000
/-! ### headgate/headgatelaw30.HeavyCopies -/
def m8_15 (R : Value → World → Prop) (t6 : Value) (w : World) : Prop :=
  R t6 w
def m8_13 (R : Value → World → Prop) (t6 : Value) (w : World) : Prop :=
  R t6 w
def m8_11 (R : Value → World → Prop) (t6 : Value) (w : World) : Prop :=
  R t6 w
def m8_10 (R : Value → World → Prop) (most0 : Value) (l1 : Value) (more2 : Value) (h7 : Value) (was8 : Value) (c9 : Value) (none10 : Value) (a11 : Value) (b12 : Value) (w : World) : Prop :=
  callP Try.prog (fnV 19) #[h7, (Value.int IntKind.i64 64)] w fun t52 w =>
  callP Try.prog (fnV 18) #[t52, was8] w fun t54 w =>
  condP t54
  (callP Try.prog (fnV 17) #[h7] w fun t57 w =>
  builtinP Try.prog Builtin.len #[22] 3 #[false] #[l1] w fun t59 w =>
  valP Try.prog (binS BinOp.eql 3 (Operand.tmp 57) (Operand.tmp 59) t57 t59) w fun t60 w =>
  pickP t54 t60 (Value.bool false) fun t61 =>
  condP t61
  (callP Try.prog (fnV 17) #[c9] w fun t64 w =>
  builtinP Try.prog Builtin.len #[22] 3 #[false] #[l1] w fun t66 w =>
  builtinP Try.prog Builtin.len #[22] 3 #[false] #[more2] w fun t68 w =>
  valP Try.prog (binS BinOp.add 3 (Operand.tmp 66) (Operand.tmp 68) t66 t68) w fun t69 w =>
  valP Try.prog (binS BinOp.eql 3 (Operand.tmp 64) (Operand.tmp 69) t64 t69) w fun t70 w =>
  pickP t61 t70 (Value.bool false) fun t71 =>
  condP t71
  (callP Try.prog (fnV 13) #[none10, l1] w fun t75 w =>
  valP Try.prog (binS BinOp.eql 25 (Operand.tmp 75) (Operand.const (Value.int IntKind.i64 1)) t75 (Value.int IntKind.i64 1)) w fun t76 w =>
  pickP t71 t76 (Value.bool false) fun t77 =>
  condP t77
  (callP Try.prog (fnV 17) #[none10] w fun t80 w =>
  valP Try.prog (binS BinOp.eql 3 (Operand.tmp 80) (Operand.const (Value.int IntKind.i64 0)) t80 (Value.int IntKind.i64 0)) w fun t81 w =>
  pickP t77 t81 (Value.bool false) fun t82 =>
  condP t82
  (valP Try.prog (binS BinOp.eql 3 (Operand.tmp 84) (Operand.const (Value.int IntKind.i64 0)) a11 (Value.int IntKind.i64 0)) w fun t85 w =>
  pickP t82 t85 (Value.bool false) fun t86 =>
  condP t86
  (valP Try.prog (binS BinOp.eql 3 (Operand.tmp 88) (Operand.const (Value.int IntKind.i64 0)) b12 (Value.int IntKind.i64 0)) w fun t89 w =>
  pickP t86 t89 (Value.bool false) fun t90 =>
  condP t90
  (callP Try.prog (fnV 19) #[none10, most0] w fun t94 w =>
  builtinP Try.prog Builtin.len #[28] 3 #[false] #[t94] w fun t95 w =>
  valP Try.prog (binS BinOp.eql 3 (Operand.tmp 95) (Operand.const (Value.int IntKind.i64 0)) t95 (Value.int IntKind.i64 0)) w fun t96 w =>
  pickP t90 t96 (Value.bool false) fun t97 =>
  condP t97
  (callP Try.prog (fnV 23) #[none10] w fun t100 w =>
  valP Try.prog (binS BinOp.eql 24 (Operand.tmp 100) (Operand.const (Value.pointer none)) t100 (Value.pointer none)) w fun t101 w =>
  pickP t97 t101 (Value.bool false) fun t102 =>
  condP t102
  (callP Try.prog (fnV 12) #[] w fun t104 w =>
  pickP t102 t104 (Value.bool false) fun t105 =>
  m8_11 R t105 w)
  (pickP t102 undef (Value.bool false) fun t105 =>
  m8_11 R t105 w))
  (pickP t97 undef (Value.bool false) fun t102 =>
  condP t102
  (callP Try.prog (fnV 12) #[] w fun t104 w =>
  pickP t102 t104 (Value.bool false) fun t105 =>
  m8_11 R t105 w)
  (pickP t102 undef (Value.bool false) fun t105 =>
  m8_11 R t105 w)))
  (pickP t90 undef (Value.bool false) fun t97 =>
  condP t97
  (callP Try.prog (fnV 23) #[none10] w fun t100 w =>
  valP Try.prog (binS BinOp.eql 24 (Operand.tmp 100) (Operand.const (Value.pointer none)) t100 (Value.pointer none)) w fun t101 w =>
  pickP t97 t101 (Value.bool false) fun t102 =>
  condP t102
  (callP Try.prog (fnV 12) #[] w fun t104 w =>
  pickP t102 t104 (Value.bool false) fun t105 =>
  m8_11 R t105 w)
  (pickP t102 undef (Value.bool false) fun t105 =>
  m8_11 R t105 w))
  (pickP t97 undef (Value.bool false) fun t102 =>
  condP t102
  (callP Try.prog (fnV 12) #[] w fun t104 w =>
  pickP t102 t104 (Value.bool false) fun t105 =>
  m8_11 R t105 w)
  (pickP t102 undef (Value.bool false) fun t105 =>
  m8_11 R t105 w))))
  (pickP t86 undef (Value.bool false) fun t90 =>
  condP t90
  (callP Try.prog (fnV 19) #[none10, most0] w fun t94 w =>
  builtinP Try.prog Builtin.len #[28] 3 #[false] #[t94] w fun t95 w =>
  valP Try.prog (binS BinOp.eql 3 (Operand.tmp 95) (Operand.const (Value.int IntKind.i64 0)) t95 (Value.int IntKind.i64 0)) w fun t96 w =>
  pickP t90 t96 (Value.bool false) fun t97 =>
  condP t97
  (callP Try.prog (fnV 23) #[none10] w fun t100 w =>
  valP Try.prog (binS BinOp.eql 24 (Operand.tmp 100) (Operand.const (Value.pointer none)) t100 (Value.pointer none)) w fun t101 w =>
  pickP t97 t101 (Value.bool false) fun t102 =>
  condP t102
  (callP Try.prog (fnV 12) #[] w fun t104 w =>
  pickP t102 t104 (Value.bool false) fun t105 =>
  m8_11 R t105 w)
  (pickP t102 undef (Value.bool false) fun t105 =>
  m8_11 R t105 w))
  (pickP t97 undef (Value.bool false) fun t102 =>
  condP t102
  (callP Try.prog (fnV 12) #[] w fun t104 w =>
  pickP t102 t104 (Value.bool false) fun t105 =>
  m8_11 R t105 w)
  (pickP t102 undef (Value.bool false) fun t105 =>
  m8_11 R t105 w)))
  (pickP t90 undef (Value.bool false) fun t97 =>
  condP t97
  (callP Try.prog (fnV 23) #[none10] w fun t100 w =>
  valP Try.prog (binS BinOp.eql 24 (Operand.tmp 100) (Operand.const (Value.pointer none)) t100 (Value.pointer none)) w fun t101 w =>
  pickP t97 t101 (Value.bool false) fun t102 =>
  condP t102
  (callP Try.prog (fnV 12) #[] w fun t104 w =>
  pickP t102 t104 (Value.bool false) fun t105 =>
  m8_11 R t105 w)
  (pickP t102 undef (Value.bool false) fun t105 =>
  m8_11 R t105 w))
  (pickP t97 undef (Value.bool false) fun t102 =>
  condP t102
  (callP Try.prog (fnV 12) #[] w fun t104 w =>
  pickP t102 t104 (Value.bool false) fun t105 =>
  m8_11 R t105 w)
  (pickP t102 undef (Value.bool false) fun t105 =>
  m8_11 R t105 w)))))
  (pickP t82 undef (Value.bool false) fun t86 =>
  condP t86
  (valP Try.prog (binS BinOp.eql 3 (Operand.tmp 88) (Operand.const (Value.int IntKind.i64 0)) b12 (Value.int IntKind.i64 0)) w fun t89 w =>
  pickP t86 t89 (Value.bool false) fun t90 =>
  condP t90
  (callP Try.prog (fnV 19) #[none10, most0] w fun t94 w =>
  builtinP Try.prog Builtin.len #[28] 3 #[false] #[t94] w fun t95 w =>
  valP Try.prog (binS BinOp.eql 3 (Operand.tmp 95) (Operand.const (Value.int IntKind.i64 0)) t95 (Value.int IntKind.i64 0)) w fun t96 w =>
  pickP t90 t96 (Value.bool false) fun t97 =>
  condP t97
  (callP Try.prog (fnV 23) #[none10] w fun t100 w =>
  valP Try.prog (binS BinOp.eql 24 (Operand.tmp 100) (Operand.const (Value.pointer none)) t100 (Value.pointer none)) w fun t101 w =>
  pickP t97 t101 (Value.bool false) fun t102 =>
  condP t102
  (callP Try.prog (fnV 12) #[] w fun t104 w =>
  pickP t102 t104 (Value.bool false) fun t105 =>
  m8_11 R t105 w)
  (pickP t102 undef (Value.bool false) fun t105 =>
  m8_11 R t105 w))
  (pickP t97 undef (Value.bool false) fun t102 =>
  condP t102
  (callP Try.prog (fnV 12) #[] w fun t104 w =>
  pickP t102 t104 (Value.bool false) fun t105 =>
  m8_11 R t105 w)
  (pickP t102 undef (Value.bool false) fun t105 =>
  m8_11 R t105 w)))
  (pickP t90 undef (Value.bool false) fun t97 =>
  condP t97
  (callP Try.prog (fnV 23) #[none10] w fun t100 w =>
  valP Try.prog (binS BinOp.eql 24 (Operand.tmp 100) (Operand.const (Value.pointer none)) t100 (Value.pointer none)) w fun t101 w =>
  pickP t97 t101 (Value.bool false) fun t102 =>
  condP t102
  (callP Try.prog (fnV 12) #[] w fun t104 w =>
  pickP t102 t104 (Value.bool false) fun t105 =>
  m8_11 R t105 w)
  (pickP t102 undef (Value.bool false) fun t105 =>
  m8_11 R t105 w))
  (pickP t97 undef (Value.bool false) fun t102 =>
  condP t102
  (callP Try.prog (fnV 12) #[] w fun t104 w =>
  pickP t102 t104 (Value.bool false) fun t105 =>
  m8_11 R t105 w)
  (pickP t102 undef (Value.bool false) fun t105 =>
  m8_11 R t105 w))))
  (pickP t86 undef (Value.bool false) fun t90 =>
  condP t90
  (callP Try.prog (fnV 19) #[none10, most0] w fun t94 w =>
  builtinP Try.prog Builtin.len #[28] 3 #[false] #[t94] w fun t95 w =>
  valP Try.prog (binS BinOp.eql 3 (Operand.tmp 95) (Operand.const (Value.int IntKind.i64 0)) t95 (Value.int IntKind.i64 0)) w fun t96 w =>
  pickP t90 t96 (Value.bool false) fun t97 =>
  condP t97
  (callP Try.prog (fnV 23) #[none10] w fun t100 w =>
  valP Try.prog (binS BinOp.eql 24 (Operand.tmp 100) (Operand.const (Value.pointer none)) t100 (Value.pointer none)) w fun t101 w =>
  pickP t97 t101 (Value.bool false) fun t102 =>
  condP t102
  (callP Try.prog (fnV 12) #[] w fun t104 w =>
  pickP t102 t104 (Value.bool false) fun t105 =>
  m8_11 R t105 w)
  (pickP t102 undef (Value.bool false) fun t105 =>
  m8_11 R t105 w))
  (pickP t97 undef (Value.bool false) fun t102 =>
  condP t102
  (callP Try.prog (fnV 12) #[] w fun t104 w =>
  pickP t102 t104 (Value.bool false) fun t105 =>
  m8_11 R t105 w)
  (pickP t102 undef (Value.bool false) fun t105 =>
  m8_11 R t105 w)))
  (pickP t90 undef (Value.bool false) fun t97 =>
  condP t97
  (callP Try.prog (fnV 23) #[none10] w fun t100 w =>
  valP Try.prog (binS BinOp.eql 24 (Operand.tmp 100) (Operand.const (Value.pointer none)) t100 (Value.pointer none)) w fun t101 w =>
  pickP t97 t101 (Value.bool false) fun t102 =>
  condP t102
  (callP Try.prog (fnV 12) #[] w fun t104 w =>
  pickP t102 t104 (Value.bool false) fun t105 =>
  m8_11 R t105 w)
  (pickP t102 undef (Value.bool false) fun t105 =>
  m8_11 R t105 w))
  (pickP t97 undef (Value.bool false) fun t102 =>
  condP t102
  (callP Try.prog (fnV 12) #[] w fun t104 w =>
  pickP t102 t104 (Value.bool false) fun t105 =>
  m8_11 R t105 w)
  (pickP t102 undef (Value.bool false) fun t105 =>
  m8_11 R t105 w))))))
  (pickP t77 undef (Value.bool false) fun t82 =>
  condP t82
  (valP Try.prog (binS BinOp.eql 3 (Operand.tmp 84) (Operand.const (Value.int IntKind.i64 0)) a11 (Value.int IntKind.i64 0)) w fun t85 w =>
  pickP t82 t85 (Value.bool false) fun t86 =>
  condP t86
  (valP Try.prog (binS BinOp.eql 3 (Operand.tmp 88) (Operand.const (Value.int IntKind.i64 0)) b12 (Value.int IntKind.i64 0)) w fun t89 w =>
  pickP t86 t89 (Value.bool false) fun t90 =>
  condP t90
  (callP Try.prog (fnV 19) #[none10, most0] w fun t94 w =>
  builtinP Try.prog Builtin.len #[28] 3 #[false] #[t94] w fun t95 w =>
  valP Try.prog (binS BinOp.eql 3 (Operand.tmp 95) (Operand.const (Value.int IntKind.i64 0)) t95 (Value.int IntKind.i64 0)) w fun t96 w =>
  pickP t90 t96 (Value.bool false) fun t97 =>
  condP t97
  (callP Try.prog (fnV 23) #[none10] w fun t100 w =>
  valP Try.prog (binS BinOp.eql 24 (Operand.tmp 100) (Operand.const (Value.pointer none)) t100 (Value.pointer none)) w fun t101 w =>
  pickP t97 t101 (Value.bool false) fun t102 =>
  condP t102
  (callP Try.prog (fnV 12) #[] w fun t104 w =>
  pickP t102 t104 (Value.bool false) fun t105 =>
  m8_11 R t105 w)
  (pickP t102 undef (Value.bool false) fun t105 =>
  m8_11 R t105 w))
  (pickP t97 undef (Value.bool false) fun t102 =>
  condP t102
  (callP Try.prog (fnV 12) #[] w fun t104 w =>
  pickP t102 t104 (Value.bool false) fun t105 =>
  m8_11 R t105 w)
  (pickP t102 undef (Value.bool false) fun t105 =>
  m8_11 R t105 w)))
  (pickP t90 undef (Value.bool false) fun t97 =>
  condP t97
  (callP Try.prog (fnV 23) #[none10] w fun t100 w =>
  valP Try.prog (binS BinOp.eql 24 (Operand.tmp 100) (Operand.const (Value.pointer none)) t100 (Value.pointer none)) w fun t101 w =>
  pickP t97 t101 (Value.bool false) fun t102 =>
  condP t102
  (callP Try.prog (fnV 12) #[] w fun t104 w =>
  pickP t102 t104 (Value.bool false) fun t105 =>
  m8_11 R t105 w)
  (pickP t102 undef (Value.bool false) fun t105 =>
  m8_11 R t105 w))
  (pickP t97 undef (Value.bool false) fun t102 =>
  condP t102
  (callP Try.prog (fnV 12) #[] w fun t104 w =>
  pickP t102 t104 (Value.bool false) fun t105 =>
  m8_11 R t105 w)
  (pickP t102 undef (Value.bool false) fun t105 =>
  m8_11 R t105 w))))
  (pickP t86 undef (Value.bool false) fun t90 =>
  condP t90
  (callP Try.prog (fnV 19) #[none10, most0] w fun t94 w =>
  builtinP Try.prog Builtin.len #[28] 3 #[false] #[t94] w fun t95 w =>
  valP Try.prog (binS BinOp.eql 3 (Operand.tmp 95) (Operand.const (Value.int IntKind.i64 0)) t95 (Value.int IntKind.i64 0)) w fun t96 w =>
  pickP t90 t96 (Value.bool false) fun t97 =>
  condP t97
  (callP Try.prog (fnV 23) #[none10] w fun t100 w =>
  valP Try.prog (binS BinOp.eql 24 (Operand.tmp 100) (Operand.const (Value.pointer none)) t100 (Value.pointer none)) w fun t101 w =>
  pickP t97 t101 (Value.bool false) fun t102 =>
  condP t102
  (callP Try.prog (fnV 12) #[] w fun t104 w =>
  pickP t102 t104 (Value.bool false) fun t105 =>
  m8_11 R t105 w)
  (pickP t102 undef (Value.bool false) fun t105 =>
  m8_11 R t105 w))
  (pickP t97 undef (Value.bool false) fun t102 =>
  condP t102
  (callP Try.prog (fnV 12) #[] w fun t104 w =>
  pickP t102 t104 (Value.bool false) fun t105 =>
  m8_11 R t105 w)
  (pickP t102 undef (Value.bool false) fun t105 =>
  m8_11 R t105 w)))
  (pickP t90 undef (Value.bool false) fun t97 =>
  condP t97
  (callP Try.prog (fnV 23) #[none10] w fun t100 w =>
  valP Try.prog (binS BinOp.eql 24 (Operand.tmp 100) (Operand.const (Value.pointer none)) t100 (Value.pointer none)) w fun t101 w =>
  pickP t97 t101 (Value.bool false) fun t102 =>
  condP t102
  (callP Try.prog (fnV 12) #[] w fun t104 w =>
  pickP t102 t104 (Value.bool false) fun t105 =>
  m8_11 R t105 w)
  (pickP t102 undef (Value.bool false) fun t105 =>
  m8_11 R t105 w))
  (pickP t97 undef (Value.bool false) fun t102 =>
  condP t102
  (callP Try.prog (fnV 12) #[] w fun t104 w =>
  pickP t102 t104 (Value.bool false) fun t105 =>
  m8_11 R t105 w)
  (pickP t102 undef (Value.bool false) fun t105 =>
  m8_11 R t105 w)))))
  (pickP t82 undef (Value.bool false) fun t86 =>
  condP t86
  (valP Try.prog (binS BinOp.eql 3 (Operand.tmp 88) (Operand.const (Value.int IntKind.i64 0)) b12 (Value.int IntKind.i64 0)) w fun t89 w =>
  pickP t86 t89 (Value.bool false) fun t90 =>
  condP t90
  (callP Try.prog (fnV 19) #[none10, most0] w fun t94 w =>
  builtinP Try.prog Builtin.len #[28] 3 #[false] #[t94] w fun t95 w =>
  valP Try.prog (binS BinOp.eql 3 (Operand.tmp 95) (Operand.const (Value.int IntKind.i64 0)) t95 (Value.int IntKind.i64 0)) w fun t96 w =>
  pickP t90 t96 (Value.bool false) fun t97 =>
  condP t97
  (callP Try.prog (fnV 23) #[none10] w fun t100 w =>
  valP Try.prog (binS BinOp.eql 24 (Operand.tmp 100) (Operand.const (Value.pointer none)) t100 (Value.pointer none)) w fun t101 w =>
  pickP t97 t101 (Value.bool false) fun t102 =>
  condP t102
  (callP Try.prog (fnV 12) #[] w fun t104 w =>
  pickP t102 t104 (Value.bool false) fun t105 =>
  m8_11 R t105 w)
  (pickP t102 undef (Value.bool false) fun t105 =>
  m8_11 R t105 w))
  (pickP t97 undef (Value.bool false) fun t102 =>
  condP t102
  (callP Try.prog (fnV 12) #[] w fun t104 w =>
  pickP t102 t104 (Value.bool false) fun t105 =>
  m8_11 R t105 w)
  (pickP t102 undef (Value.bool false) fun t105 =>
  m8_11 R t105 w)))
  (pickP t90 undef (Value.bool false) fun t97 =>
  condP t97
  (callP Try.prog (fnV 23) #[none10] w fun t100 w =>
  valP Try.prog (binS BinOp.eql 24 (Operand.tmp 100) (Operand.const (Value.pointer none)) t100 (Value.pointer none)) w fun t101 w =>
  pickP t97 t101 (Value.bool false) fun t102 =>
  condP t102
  (callP Try.prog (fnV 12) #[] w fun t104 w =>
  pickP t102 t104 (Value.bool false) fun t105 =>
  m8_11 R t105 w)
  (pickP t102 undef (Value.bool false) fun t105 =>
  m8_11 R t105 w))
  (pickP t97 undef (Value.bool false) fun t102 =>
  condP t102
  (callP Try.prog (fnV 12) #[] w fun t104 w =>
  pickP t102 t104 (Value.bool false) fun t105 =>
  m8_11 R t105 w)
  (pickP t102 undef (Value.bool false) fun t105 =>
  m8_11 R t105 w))))
  (pickP t86 undef (Value.bool false) fun t90 =>
  condP t90
  (callP Try.prog (fnV 19) #[none10, most0] w fun t94 w =>
  builtinP Try.prog Builtin.len #[28] 3 #[false] #[t94] w fun t95 w =>
  valP Try.prog (binS BinOp.eql 3 (Operand.tmp 95) (Operand.const (Value.int IntKind.i64 0)) t95 (Value.int IntKind.i64 0)) w fun t96 w =>
  pickP t90 t96 (Value.bool false) fun t97 =>
  condP t97
  (callP Try.prog (fnV 23) #[none10] w fun t100 w =>
  valP Try.prog (binS BinOp.eql 24 (Operand.tmp 100) (Operand.const (Value.pointer none)) t100 (Value.pointer none)) w fun t101 w =>
  pickP t97 t101 (Value.bool false) fun t102 =>
  condP t102
  (callP Try.prog (fnV 12) #[] w fun t104 w =>
  pickP t102 t104 (Value.bool false) fun t105 =>
  m8_11 R t105 w)
  (pickP t102 undef (Value.bool false) fun t105 =>
  m8_11 R t105 w))
  (pickP t97 undef (Value.bool false) fun t102 =>
  condP t102
  (callP Try.prog (fnV 12) #[] w fun t104 w =>
  pickP t102 t104 (Value.bool false) fun t105 =>
  m8_11 R t105 w)
  (pickP t102 undef (Value.bool false) fun t105 =>
  m8_11 R t105 w)))
  (pickP t90 undef (Value.bool false) fun t97 =>
  condP t97
  (callP Try.prog (fnV 23) #[none10] w fun t100 w =>
  valP Try.prog (binS BinOp.eql 24 (Operand.tmp 100) (Operand.const (Value.pointer none)) t100 (Value.pointer none)) w fun t101 w =>
  pickP t97 t101 (Value.bool false) fun t102 =>
  condP t102
  (callP Try.prog (fnV 12) #[] w fun t104 w =>
  pickP t102 t104 (Value.bool false) fun t105 =>
  m8_11 R t105 w)
  (pickP t102 undef (Value.bool false) fun t105 =>
  m8_11 R t105 w))
  (pickP t97 undef (Value.bool false) fun t102 =>
  condP t102
  (callP Try.prog (fnV 12) #[] w fun t104 w =>
  pickP t102 t104 (Value.bool false) fun t105 =>
  m8_11 R t105 w)
  (pickP t102 undef (Value.bool false) fun t105 =>
  m8_11 R t105 w)))))))
  (pickP t71 undef (Value.bool false) fun t77 =>
  condP t77
  (callP Try.prog (fnV 17) #[none10] w fun t80 w =>
  valP Try.prog (binS BinOp.eql 3 (Operand.tmp 80) (Operand.const (Value.int IntKind.i64 0)) t80 (Value.int IntKind.i64 0)) w fun t81 w =>
  pickP t77 t81 (Value.bool false) fun t82 =>
  condP t82
  (valP Try.prog (binS BinOp.eql 3 (Operand.tmp 84) (Operand.const (Value.int IntKind.i64 0)) a11 (Value.int IntKind.i64 0)) w fun t85 w =>
  pickP t82 t85 (Value.bool false) fun t86 =>
  condP t86
  (valP Try.prog (binS BinOp.eql 3 (Operand.tmp 88) (Operand.const (Value.int IntKind.i64 0)) b12 (Value.int IntKind.i64 0)) w fun t89 w =>
  pickP t86 t89 (Value.bool false) fun t90 =>
  condP t90
  (callP Try.prog (fnV 19) #[none10, most0] w fun t94 w =>
  builtinP Try.prog Builtin.len #[28] 3 #[false] #[t94] w fun t95 w =>
  valP Try.prog (binS BinOp.eql 3 (Operand.tmp 95) (Operand.const (Value.int IntKind.i64 0)) t95 (Value.int IntKind.i64 0)) w fun t96 w =>
  pickP t90 t96 (Value.bool false) fun t97 =>
  condP t97
  (callP Try.prog (fnV 23) #[none10] w fun t100 w =>
  valP Try.prog (binS BinOp.eql 24 (Operand.tmp 100) (Operand.const (Value.pointer none)) t100 (Value.pointer none)) w fun t101 w =>
  pickP t97 t101 (Value.bool false) fun t102 =>
  condP t102
  (callP Try.prog (fnV 12) #[] w fun t104 w =>
  pickP t102 t104 (Value.bool false) fun t105 =>
  m8_11 R t105 w)
  (pickP t102 undef (Value.bool false) fun t105 =>
  m8_11 R t105 w))
  (pickP t97 undef (Value.bool false) fun t102 =>
  condP t102
  (callP Try.prog (fnV 12) #[] w fun t104 w =>
  pickP t102 t104 (Value.bool false) fun t105 =>
  m8_11 R t105 w)
  (pickP t102 undef (Value.bool false) fun t105 =>
  m8_11 R t105 w)))
  (pickP t90 undef (Value.bool false) fun t97 =>
  condP t97
  (callP Try.prog (fnV 23) #[none10] w fun t100 w =>
  valP Try.prog (binS BinOp.eql 24 (Operand.tmp 100) (Operand.const (Value.pointer none)) t100 (Value.pointer none)) w fun t101 w =>
  pickP t97 t101 (Value.bool false) fun t102 =>
  condP t102
  (callP Try.prog (fnV 12) #[] w fun t104 w =>
  pickP t102 t104 (Value.bool false) fun t105 =>
  m8_11 R t105 w)
  (pickP t102 undef (Value.bool false) fun t105 =>
  m8_11 R t105 w))
  (pickP t97 undef (Value.bool false) fun t102 =>
  condP t102
  (callP Try.prog (fnV 12) #[] w fun t104 w =>
  pickP t102 t104 (Value.bool false) fun t105 =>
  m8_11 R t105 w)
  (pickP t102 undef (Value.bool false) fun t105 =>
  m8_11 R t105 w))))
  (pickP t86 undef (Value.bool false) fun t90 =>
  condP t90
  (callP Try.prog (fnV 19) #[none10, most0] w fun t94 w =>
  builtinP Try.prog Builtin.len #[28] 3 #[false] #[t94] w fun t95 w =>
  valP Try.prog (binS BinOp.eql 3 (Operand.tmp 95) (Operand.const (Value.int IntKind.i64 0)) t95 (Value.int IntKind.i64 0)) w fun t96 w =>
  pickP t90 t96 (Value.bool false) fun t97 =>
  condP t97
  (callP Try.prog (fnV 23) #[none10] w fun t100 w =>
  valP Try.prog (binS BinOp.eql 24 (Operand.tmp 100) (Operand.const (Value.pointer none)) t100 (Value.pointer none)) w fun t101 w =>
  pickP t97 t101 (Value.bool false) fun t102 =>
  condP t102
  (callP Try.prog (fnV 12) #[] w fun t104 w =>
  pickP t102 t104 (Value.bool false) fun t105 =>
  m8_11 R t105 w)
  (pickP t102 undef (Value.bool false) fun t105 =>
  m8_11 R t105 w))
  (pickP t97 undef (Value.bool false) fun t102 =>
  condP t102
  (callP Try.prog (fnV 12) #[] w fun t104 w =>
  pickP t102 t104 (Value.bool false) fun t105 =>
  m8_11 R t105 w)
  (pickP t102 undef (Value.bool false) fun t105 =>
  m8_11 R t105 w)))
  (pickP t90 undef (Value.bool false) fun t97 =>
  condP t97
  (callP Try.prog (fnV 23) #[none10] w fun t100 w =>
  valP Try.prog (binS BinOp.eql 24 (Operand.tmp 100) (Operand.const (Value.pointer none)) t100 (Value.pointer none)) w fun t101 w =>
  pickP t97 t101 (Value.bool false) fun t102 =>
  condP t102
  (callP Try.prog (fnV 12) #[] w fun t104 w =>
  pickP t102 t104 (Value.bool false) fun t105 =>
  m8_11 R t105 w)
  (pickP t102 undef (Value.bool false) fun t105 =>
  m8_11 R t105 w))
  (pickP t97 undef (Value.bool false) fun t102 =>
  condP t102
  (callP Try.prog (fnV 12) #[] w fun t104 w =>
  pickP t102 t104 (Value.bool false) fun t105 =>
  m8_11 R t105 w)
  (pickP t102 undef (Value.bool false) fun t105 =>
  m8_11 R t105 w)))))
  (pickP t82 undef (Value.bool false) fun t86 =>
  condP t86
  (valP Try.prog (binS BinOp.eql 3 (Operand.tmp 88) (Operand.const (Value.int IntKind.i64 0)) b12 (Value.int IntKind.i64 0)) w fun t89 w =>
  pickP t86 t89 (Value.bool false) fun t90 =>
  condP t90
  (callP Try.prog (fnV 19) #[none10, most0] w fun t94 w =>
  builtinP Try.prog Builtin.len #[28] 3 #[false] #[t94] w fun t95 w =>
  valP Try.prog (binS BinOp.eql 3 (Operand.tmp 95) (Operand.const (Value.int IntKind.i64 0)) t95 (Value.int IntKind.i64 0)) w fun t96 w =>
  pickP t90 t96 (Value.bool false) fun t97 =>
  condP t97
  (callP Try.prog (fnV 23) #[none10] w fun t100 w =>
  valP Try.prog (binS BinOp.eql 24 (Operand.tmp 100) (Operand.const (Value.pointer none)) t100 (Value.pointer none)) w fun t101 w =>
  pickP t97 t101 (Value.bool false) fun t102 =>
  condP t102
  (callP Try.prog (fnV 12) #[] w fun t104 w =>
  pickP t102 t104 (Value.bool false) fun t105 =>
  m8_11 R t105 w)
  (pickP t102 undef (Value.bool false) fun t105 =>
  m8_11 R t105 w))
  (pickP t97 undef (Value.bool false) fun t102 =>
  condP t102
  (callP Try.prog (fnV 12) #[] w fun t104 w =>
  pickP t102 t104 (Value.bool false) fun t105 =>
  m8_11 R t105 w)
  (pickP t102 undef (Value.bool false) fun t105 =>
  m8_11 R t105 w)))
  (pickP t90 undef (Value.bool false) fun t97 =>
  condP t97
  (callP Try.prog (fnV 23) #[none10] w fun t100 w =>
  valP Try.prog (binS BinOp.eql 24 (Operand.tmp 100) (Operand.const (Value.pointer none)) t100 (Value.pointer none)) w fun t101 w =>
  pickP t97 t101 (Value.bool false) fun t102 =>
  condP t102
  (callP Try.prog (fnV 12) #[] w fun t104 w =>
  pickP t102 t104 (Value.bool false) fun t105 =>
  m8_11 R t105 w)
  (pickP t102 undef (Value.bool false) fun t105 =>
  m8_11 R t105 w))
  (pickP t97 undef (Value.bool false) fun t102 =>
  condP t102
  (callP Try.prog (fnV 12) #[] w fun t104 w =>
  pickP t102 t104 (Value.bool false) fun t105 =>
  m8_11 R t105 w)
  (pickP t102 undef (Value.bool false) fun t105 =>
  m8_11 R t105 w))))
  (pickP t86 undef (Value.bool false) fun t90 =>
  condP t90
  (callP Try.prog (fnV 19) #[none10, most0] w fun t94 w =>
  builtinP Try.prog Builtin.len #[28] 3 #[false] #[t94] w fun t95 w =>
  valP Try.prog (binS BinOp.eql 3 (Operand.tmp 95) (Operand.const (Value.int IntKind.i64 0)) t95 (Value.int IntKind.i64 0)) w fun t96 w =>
  pickP t90 t96 (Value.bool false) fun t97 =>
  condP t97
  (callP Try.prog (fnV 23) #[none10] w fun t100 w =>
  valP Try.prog (binS BinOp.eql 24 (Operand.tmp 100) (Operand.const (Value.pointer none)) t100 (Value.pointer none)) w fun t101 w =>
  pickP t97 t101 (Value.bool false) fun t102 =>
  condP t102
  (callP Try.prog (fnV 12) #[] w fun t104 w =>
  pickP t102 t104 (Value.bool false) fun t105 =>
  m8_11 R t105 w)
  (pickP t102 undef (Value.bool false) fun t105 =>
  m8_11 R t105 w))
  (pickP t97 undef (Value.bool false) fun t102 =>
  condP t102
  (callP Try.prog (fnV 12) #[] w fun t104 w =>
  pickP t102 t104 (Value.bool false) fun t105 =>
  m8_11 R t105 w)
  (pickP t102 undef (Value.bool false) fun t105 =>
  m8_11 R t105 w)))
  (pickP t90 undef (Value.bool false) fun t97 =>
  condP t97
  (callP Try.prog (fnV 23) #[none10] w fun t100 w =>
  valP Try.prog (binS BinOp.eql 24 (Operand.tmp 100) (Operand.const (Value.pointer none)) t100 (Value.pointer none)) w fun t101 w =>
  pickP t97 t101 (Value.bool false) fun t102 =>
  condP t102
  (callP Try.prog (fnV 12) #[] w fun t104 w =>
  pickP t102 t104 (Value.bool false) fun t105 =>
  m8_11 R t105 w)
  (pickP t102 undef (Value.bool false) fun t105 =>
  m8_11 R t105 w))
  (pickP t97 undef (Value.bool false) fun t102 =>
  condP t102
  (callP Try.prog (fnV 12) #[] w fun t104 w =>
  pickP t102 t104 (Value.bool false) fun t105 =>
  m8_11 R t105 w)
  (pickP t102 undef (Value.bool false) fun t105 =>
  m8_11 R t105 w))))))
  (pickP t77 undef (Value.bool false) fun t82 =>
  condP t82
  (valP Try.prog (binS BinOp.eql 3 (Operand.tmp 84) (Operand.const (Value.int IntKind.i64 0)) a11 (Value.int IntKind.i64 0)) w fun t85 w =>
  pickP t82 t85 (Value.bool false) fun t86 =>
  condP t86
  (valP Try.prog (binS BinOp.eql 3 (Operand.tmp 88) (Operand.const (Value.int IntKind.i64 0)) b12 (Value.int IntKind.i64 0)) w fun t89 w =>
  pickP t86 t89 (Value.bool false) fun t90 =>
  condP t90
  (callP Try.prog (fnV 19) #[none10, most0] w fun t94 w =>
  builtinP Try.prog Builtin.len #[28] 3 #[false] #[t94] w fun t95 w =>
  valP Try.prog (binS BinOp.eql 3 (Operand.tmp 95) (Operand.const (Value.int IntKind.i64 0)) t95 (Value.int IntKind.i64 0)) w fun t96 w =>
  pickP t90 t96 (Value.bool false) fun t97 =>
  condP t97
  (callP Try.prog (fnV 23) #[none10] w fun t100 w =>
  valP Try.prog (binS BinOp.eql 24 (Operand.tmp 100) (Operand.const (Value.pointer none)) t100 (Value.pointer none)) w fun t101 w =>
  pickP t97 t101 (Value.bool false) fun t102 =>
  condP t102
  (callP Try.prog (fnV 12) #[] w fun t104 w =>
  pickP t102 t104 (Value.bool false) fun t105 =>
  m8_11 R t105 w)
  (pickP t102 undef (Value.bool false) fun t105 =>
  m8_11 R t105 w))
  (pickP t97 undef (Value.bool false) fun t102 =>
  condP t102
  (callP Try.prog (fnV 12) #[] w fun t104 w =>
  pickP t102 t104 (Value.bool false) fun t105 =>
  m8_11 R t105 w)
  (pickP t102 undef (Value.bool false) fun t105 =>
  m8_11 R t105 w)))
  (pickP t90 undef (Value.bool false) fun t97 =>
  condP t97
  (callP Try.prog (fnV 23) #[none10] w fun t100 w =>
  valP Try.prog (binS BinOp.eql 24 (Operand.tmp 100) (Operand.const (Value.pointer none)) t100 (Value.pointer none)) w fun t101 w =>
  pickP t97 t101 (Value.bool false) fun t102 =>
  condP t102
  (callP Try.prog (fnV 12) #[] w fun t104 w =>
  pickP t102 t104 (Value.bool false) fun t105 =>
  m8_11 R t105 w)
  (pickP t102 undef (Value.bool false) fun t105 =>
  m8_11 R t105 w))
  (pickP t97 undef (Value.bool false) fun t102 =>
  condP t102
  (callP Try.prog (fnV 12) #[] w fun t104 w =>
  pickP t102 t104 (Value.bool false) fun t105 =>
  m8_11 R t105 w)
  (pickP t102 undef (Value.bool false) fun t105 =>
  m8_11 R t105 w))))
  (pickP t86 undef (Value.bool false) fun t90 =>
  condP t90
  (callP Try.prog (fnV 19) #[none10, most0] w fun t94 w =>
  builtinP Try.prog Builtin.len #[28] 3 #[false] #[t94] w fun t95 w =>
  valP Try.prog (binS BinOp.eql 3 (Operand.tmp 95) (Operand.const (Value.int IntKind.i64 0)) t95 (Value.int IntKind.i64 0)) w fun t96 w =>
  pickP t90 t96 (Value.bool false) fun t97 =>
  condP t97
  (callP Try.prog (fnV 23) #[none10] w fun t100 w =>
  valP Try.prog (binS BinOp.eql 24 (Operand.tmp 100) (Operand.const (Value.pointer none)) t100 (Value.pointer none)) w fun t101 w =>
  pickP t97 t101 (Value.bool false) fun t102 =>
  condP t102
  (callP Try.prog (fnV 12) #[] w fun t104 w =>
  pickP t102 t104 (Value.bool false) fun t105 =>
  m8_11 R t105 w)
  (pickP t102 undef (Value.bool false) fun t105 =>
  m8_11 R t105 w))
  (pickP t97 undef (Value.bool false) fun t102 =>
  condP t102
  (callP Try.prog (fnV 12) #[] w fun t104 w =>
  pickP t102 t104 (Value.bool false) fun t105 =>
  m8_11 R t105 w)
  (pickP t102 undef (Value.bool false) fun t105 =>
  m8_11 R t105 w)))
  (pickP t90 undef (Value.bool false) fun t97 =>
  condP t97
  (callP Try.prog (fnV 23) #[none10] w fun t100 w =>
  valP Try.prog (binS BinOp.eql 24 (Operand.tmp 100) (Operand.const (Value.pointer none)) t100 (Value.pointer none)) w fun t101 w =>
  pickP t97 t101 (Value.bool false) fun t102 =>
  condP t102
  (callP Try.prog (fnV 12) #[] w fun t104 w =>
  pickP t102 t104 (Value.bool false) fun t105 =>
  m8_11 R t105 w)
  (pickP t102 undef (Value.bool false) fun t105 =>
  m8_11 R t105 w))
  (pickP t97 undef (Value.bool false) fun t102 =>
  condP t102
  (callP Try.prog (fnV 12) #[] w fun t104 w =>
  pickP t102 t104 (Value.bool false) fun t105 =>
  m8_11 R t105 w)
  (pickP t102 undef (Value.bool false) fun t105 =>
  m8_11 R t105 w)))))
  (pickP t82 undef (Value.bool false) fun t86 =>
  condP t86
  (valP Try.prog (binS BinOp.eql 3 (Operand.tmp 88) (Operand.const (Value.int IntKind.i64 0)) b12 (Value.int IntKind.i64 0)) w fun t89 w =>
  pickP t86 t89 (Value.bool false) fun t90 =>
  condP t90
  (callP Try.prog (fnV 19) #[none10, most0] w fun t94 w =>
  builtinP Try.prog Builtin.len #[28] 3 #[false] #[t94] w fun t95 w =>
  valP Try.prog (binS BinOp.eql 3 (Operand.tmp 95) (Operand.const (Value.int IntKind.i64 0)) t95 (Value.int IntKind.i64 0)) w fun t96 w =>
  pickP t90 t96 (Value.bool false) fun t97 =>
  condP t97
  (callP Try.prog (fnV 23) #[none10] w fun t100 w =>
  valP Try.prog (binS BinOp.eql 24 (Operand.tmp 100) (Operand.const (Value.pointer none)) t100 (Value.pointer none)) w fun t101 w =>
  pickP t97 t101 (Value.bool false) fun t102 =>
  condP t102
  (callP Try.prog (fnV 12) #[] w fun t104 w =>
  pickP t102 t104 (Value.bool false) fun t105 =>
  m8_11 R t105 w)
  (pickP t102 undef (Value.bool false) fun t105 =>
  m8_11 R t105 w))
  (pickP t97 undef (Value.bool false) fun t102 =>
  condP t102
  (callP Try.prog (fnV 12) #[] w fun t104 w =>
  pickP t102 t104 (Value.bool false) fun t105 =>
  m8_11 R t105 w)
  (pickP t102 undef (Value.bool false) fun t105 =>
  m8_11 R t105 w)))
  (pickP t90 undef (Value.bool false) fun t97 =>
  condP t97
  (callP Try.prog (fnV 23) #[none10] w fun t100 w =>
  valP Try.prog (binS BinOp.eql 24 (Operand.tmp 100) (Operand.const (Value.pointer none)) t100 (Value.pointer none)) w fun t101 w =>
  pickP t97 t101 (Value.bool false) fun t102 =>
  condP t102
  (callP Try.prog (fnV 12) #[] w fun t104 w =>
  pickP t102 t104 (Value.bool false) fun t105 =>
  m8_11 R t105 w)
  (pickP t102 undef (Value.bool false) fun t105 =>
  m8_11 R t105 w))
  (pickP t97 undef (Value.bool false) fun t102 =>
  condP t102
  (callP Try.prog (fnV 12) #[] w fun t104 w =>
  pickP t102 t104 (Value.bool false) fun t105 =>
  m8_11 R t105 w)
  (pickP t102 undef (Value.bool false) fun t105 =>
  m8_11 R t105 w))))
  (pickP t86 undef (Value.bool false) fun t90 =>
  condP t90
  (callP Try.prog (fnV 19) #[none10, most0] w fun t94 w =>
  builtinP Try.prog Builtin.len #[28] 3 #[false] #[t94] w fun t95 w =>
  valP Try.prog (binS BinOp.eql 3 (Operand.tmp 95) (Operand.const (Value.int IntKind.i64 0)) t95 (Value.int IntKind.i64 0)) w fun t96 w =>
  pickP t90 t96 (Value.bool false) fun t97 =>
  condP t97
  (callP Try.prog (fnV 23) #[none10] w fun t100 w =>
  valP Try.prog (binS BinOp.eql 24 (Operand.tmp 100) (Operand.const (Value.pointer none)) t100 (Value.pointer none)) w fun t101 w =>
  pickP t97 t101 (Value.bool false) fun t102 =>
  condP t102
  (callP Try.prog (fnV 12) #[] w fun t104 w =>
  pickP t102 t104 (Value.bool false) fun t105 =>
  m8_11 R t105 w)
  (pickP t102 undef (Value.bool false) fun t105 =>
  m8_11 R t105 w))
  (pickP t97 undef (Value.bool false) fun t102 =>
  condP t102
  (callP Try.prog (fnV 12) #[] w fun t104 w =>
  pickP t102 t104 (Value.bool false) fun t105 =>
  m8_11 R t105 w)
  (pickP t102 undef (Value.bool false) fun t105 =>
  m8_11 R t105 w)))
  (pickP t90 undef (Value.bool false) fun t97 =>
  condP t97
  (callP Try.prog (fnV 23) #[none10] w fun t100 w =>
  valP Try.prog (binS BinOp.eql 24 (Operand.tmp 100) (Operand.const (Value.pointer none)) t100 (Value.pointer none)) w fun t101 w =>
  pickP t97 t101 (Value.bool false) fun t102 =>
  condP t102
  (callP Try.prog (fnV 12) #[] w fun t104 w =>
  pickP t102 t104 (Value.bool false) fun t105 =>
  m8_11 R t105 w)
  (pickP t102 undef (Value.bool false) fun t105 =>
  m8_11 R t105 w))
  (pickP t97 undef (Value.bool false) fun t102 =>
  condP t102
  (callP Try.prog (fnV 12) #[] w fun t104 w =>
  pickP t102 t104 (Value.bool false) fun t105 =>
  m8_11 R t105 w)
  (pickP t102 undef (Value.bool false) fun t105 =>
  m8_11 R t105 w))))))))
  (pickP t61 undef (Value.bool false) fun t71 =>
  condP t71
  (callP Try.prog (fnV 13) #[none10, l1] w fun t75 w =>
  valP Try.prog (binS BinOp.eql 25 (Operand.tmp 75) (Operand.const (Value.int IntKind.i64 1)) t75 (Value.int IntKind.i64 1)) w fun t76 w =>
  pickP t71 t76 (Value.bool false) fun t77 =>
  condP t77
  (callP Try.prog (fnV 17) #[none10] w fun t80 w =>
  valP Try.prog (binS BinOp.eql 3 (Operand.tmp 80) (Operand.const (Value.int IntKind.i64 0)) t80 (Value.int IntKind.i64 0)) w fun t81 w =>
  pickP t77 t81 (Value.bool false) fun t82 =>
  condP t82
  (valP Try.prog (binS BinOp.eql 3 (Operand.tmp 84) (Operand.const (Value.int IntKind.i64 0)) a11 (Value.int IntKind.i64 0)) w fun t85 w =>
  pickP t82 t85 (Value.bool false) fun t86 =>
  condP t86
  (valP Try.prog (binS BinOp.eql 3 (Operand.tmp 88) (Operand.const (Value.int IntKind.i64 0)) b12 (Value.int IntKind.i64 0)) w fun t89 w =>
  pickP t86 t89 (Value.bool false) fun t90 =>
  condP t90
  (callP Try.prog (fnV 19) #[none10, most0] w fun t94 w =>
  builtinP Try.prog Builtin.len #[28] 3 #[false] #[t94] w fun t95 w =>
  valP Try.prog (binS BinOp.eql 3 (Operand.tmp 95) (Operand.const (Value.int IntKind.i64 0)) t95 (Value.int IntKind.i64 0)) w fun t96 w =>
  pickP t90 t96 (Value.bool false) fun t97 =>
  condP t97
  (callP Try.prog (fnV 23) #[none10] w fun t100 w =>
  valP Try.prog (binS BinOp.eql 24 (Operand.tmp 100) (Operand.const (Value.pointer none)) t100 (Value.pointer none)) w fun t101 w =>
  pickP t97 t101 (Value.bool false) fun t102 =>
  condP t102
  (callP Try.prog (fnV 12) #[] w fun t104 w =>
  pickP t102 t104 (Value.bool false) fun t105 =>
  m8_11 R t105 w)
  (pickP t102 undef (Value.bool false) fun t105 =>
  m8_11 R t105 w))
  (pickP t97 undef (Value.bool false) fun t102 =>
  condP t102
  (callP Try.prog (fnV 12) #[] w fun t104 w =>
  pickP t102 t104 (Value.bool false) fun t105 =>
  m8_11 R t105 w)
  (pickP t102 undef (Value.bool false) fun t105 =>
  m8_11 R t105 w)))
  (pickP t90 undef (Value.bool false) fun t97 =>
  condP t97
  (callP Try.prog (fnV 23) #[none10] w fun t100 w =>
  valP Try.prog (binS BinOp.eql 24 (Operand.tmp 100) (Operand.const (Value.pointer none)) t100 (Value.pointer none)) w fun t101 w =>
  pickP t97 t101 (Value.bool false) fun t102 =>
  condP t102
  (callP Try.prog (fnV 12) #[] w fun t104 w =>
  pickP t102 t104 (Value.bool false) fun t105 =>
  m8_11 R t105 w)
  (pickP t102 undef (Value.bool false) fun t105 =>
  m8_11 R t105 w))
  (pickP t97 undef (Value.bool false) fun t102 =>
  condP t102
  (callP Try.prog (fnV 12) #[] w fun t104 w =>
  pickP t102 t104 (Value.bool false) fun t105 =>
  m8_11 R t105 w)
  (pickP t102 undef (Value.bool false) fun t105 =>
  m8_11 R t105 w))))
  (pickP t86 undef (Value.bool false) fun t90 =>
  condP t90
  (callP Try.prog (fnV 19) #[none10, most0] w fun t94 w =>
  builtinP Try.prog Builtin.len #[28] 3 #[false] #[t94] w fun t95 w =>
  valP Try.prog (binS BinOp.eql 3 (Operand.tmp 95) (Operand.const (Value.int IntKind.i64 0)) t95 (Value.int IntKind.i64 0)) w fun t96 w =>
  pickP t90 t96 (Value.bool false) fun t97 =>
  condP t97
  (callP Try.prog (fnV 23) #[none10] w fun t100 w =>
  valP Try.prog (binS BinOp.eql 24 (Operand.tmp 100) (Operand.const (Value.pointer none)) t100 (Value.pointer none)) w fun t101 w =>
  pickP t97 t101 (Value.bool false) fun t102 =>
  condP t102
  (callP Try.prog (fnV 12) #[] w fun t104 w =>
  pickP t102 t104 (Value.bool false) fun t105 =>
  m8_11 R t105 w)
  (pickP t102 undef (Value.bool false) fun t105 =>
  m8_11 R t105 w))
  (pickP t97 undef (Value.bool false) fun t102 =>
  condP t102
  (callP Try.prog (fnV 12) #[] w fun t104 w =>
  pickP t102 t104 (Value.bool false) fun t105 =>
  m8_11 R t105 w)
  (pickP t102 undef (Value.bool false) fun t105 =>
  m8_11 R t105 w)))
  (pickP t90 undef (Value.bool false) fun t97 =>
  condP t97
  (callP Try.prog (fnV 23) #[none10] w fun t100 w =>
  valP Try.prog (binS BinOp.eql 24 (Operand.tmp 100) (Operand.const (Value.pointer none)) t100 (Value.pointer none)) w fun t101 w =>
  pickP t97 t101 (Value.bool false) fun t102 =>
  condP t102
  (callP Try.prog (fnV 12) #[] w fun t104 w =>
  pickP t102 t104 (Value.bool false) fun t105 =>
  m8_11 R t105 w)
  (pickP t102 undef (Value.bool false) fun t105 =>
  m8_11 R t105 w))
  (pickP t97 undef (Value.bool false) fun t102 =>
  condP t102
  (callP Try.prog (fnV 12) #[] w fun t104 w =>
  pickP t102 t104 (Value.bool false) fun t105 =>
  m8_11 R t105 w)
  (pickP t102 undef (Value.bool false) fun t105 =>
  m8_11 R t105 w)))))
  (pickP t82 undef (Value.bool false) fun t86 =>
  condP t86
  (valP Try.prog (binS BinOp.eql 3 (Operand.tmp 88) (Operand.const (Value.int IntKind.i64 0)) b12 (Value.int IntKind.i64 0)) w fun t89 w =>
  pickP t86 t89 (Value.bool false) fun t90 =>
  condP t90
  (callP Try.prog (fnV 19) #[none10, most0] w fun t94 w =>
  builtinP Try.prog Builtin.len #[28] 3 #[false] #[t94] w fun t95 w =>
  valP Try.prog (binS BinOp.eql 3 (Operand.tmp 95) (Operand.const (Value.int IntKind.i64 0)) t95 (Value.int IntKind.i64 0)) w fun t96 w =>
  pickP t90 t96 (Value.bool false) fun t97 =>
  condP t97
  (callP Try.prog (fnV 23) #[none10] w fun t100 w =>
  valP Try.prog (binS BinOp.eql 24 (Operand.tmp 100) (Operand.const (Value.pointer none)) t100 (Value.pointer none)) w fun t101 w =>
  pickP t97 t101 (Value.bool false) fun t102 =>
  condP t102
  (callP Try.prog (fnV 12) #[] w fun t104 w =>
  pickP t102 t104 (Value.bool false) fun t105 =>
  m8_11 R t105 w)
  (pickP t102 undef (Value.bool false) fun t105 =>
  m8_11 R t105 w))
  (pickP t97 undef (Value.bool false) fun t102 =>
  condP t102
  (callP Try.prog (fnV 12) #[] w fun t104 w =>
  pickP t102 t104 (Value.bool false) fun t105 =>
  m8_11 R t105 w)
  (pickP t102 undef (Value.bool false) fun t105 =>
  m8_11 R t105 w)))
  (pickP t90 undef (Value.bool false) fun t97 =>
  condP t97
  (callP Try.prog (fnV 23) #[none10] w fun t100 w =>
  valP Try.prog (binS BinOp.eql 24 (Operand.tmp 100) (Operand.const (Value.pointer none)) t100 (Value.pointer none)) w fun t101 w =>
  pickP t97 t101 (Value.bool false) fun t102 =>
  condP t102
  (callP Try.prog (fnV 12) #[] w fun t104 w =>
  pickP t102 t104 (Value.bool false) fun t105 =>
  m8_11 R t105 w)
  (pickP t102 undef (Value.bool false) fun t105 =>
  m8_11 R t105 w))
  (pickP t97 undef (Value.bool false) fun t102 =>
  condP t102
  (callP Try.prog (fnV 12) #[] w fun t104 w =>
  pickP t102 t104 (Value.bool false) fun t105 =>
  m8_11 R t105 w)
  (pickP t102 undef (Value.bool false) fun t105 =>
  m8_11 R t105 w))))
  (pickP t86 undef (Value.bool false) fun t90 =>
  condP t90
  (callP Try.prog (fnV 19) #[none10, most0] w fun t94 w =>
  builtinP Try.prog Builtin.len #[28] 3 #[false] #[t94] w fun t95 w =>
  valP Try.prog (binS BinOp.eql 3 (Operand.tmp 95) (Operand.const (Value.int IntKind.i64 0)) t95 (Value.int IntKind.i64 0)) w fun t96 w =>
  pickP t90 t96 (Value.bool false) fun t97 =>
  condP t97
  (callP Try.prog (fnV 23) #[none10] w fun t100 w =>
  valP Try.prog (binS BinOp.eql 24 (Operand.tmp 100) (Operand.const (Value.pointer none)) t100 (Value.pointer none)) w fun t101 w =>
  pickP t97 t101 (Value.bool false) fun t102 =>
  condP t102
  (callP Try.prog (fnV 12) #[] w fun t104 w =>
  pickP t102 t104 (Value.bool false) fun t105 =>
  m8_11 R t105 w)
  (pickP t102 undef (Value.bool false) fun t105 =>
  m8_11 R t105 w))
  (pickP t97 undef (Value.bool false) fun t102 =>
  condP t102
  (callP Try.prog (fnV 12) #[] w fun t104 w =>
  pickP t102 t104 (Value.bool false) fun t105 =>
  m8_11 R t105 w)
  (pickP t102 undef (Value.bool false) fun t105 =>
  m8_11 R t105 w)))
  (pickP t90 undef (Value.bool false) fun t97 =>
  condP t97
  (callP Try.prog (fnV 23) #[none10] w fun t100 w =>
  valP Try.prog (binS BinOp.eql 24 (Operand.tmp 100) (Operand.const (Value.pointer none)) t100 (Value.pointer none)) w fun t101 w =>
  pickP t97 t101 (Value.bool false) fun t102 =>
  condP t102
  (callP Try.prog (fnV 12) #[] w fun t104 w =>
  pickP t102 t104 (Value.bool false) fun t105 =>
  m8_11 R t105 w)
  (pickP t102 undef (Value.bool false) fun t105 =>
  m8_11 R t105 w))
  (pickP t97 undef (Value.bool false) fun t102 =>
  condP t102
  (callP Try.prog (fnV 12) #[] w fun t104 w =>
  pickP t102 t104 (Value.bool false) fun t105 =>
  m8_11 R t105 w)
  (pickP t102 undef (Value.bool false) fun t105 =>
  m8_11 R t105 w))))))
  (pickP t77 undef (Value.bool false) fun t82 =>
  condP t82
  (valP Try.prog (binS BinOp.eql 3 (Operand.tmp 84) (Operand.const (Value.int IntKind.i64 0)) a11 (Value.int IntKind.i64 0)) w fun t85 w =>
  pickP t82 t85 (Value.bool false) fun t86 =>
  condP t86
  (valP Try.prog (binS BinOp.eql 3 (Operand.tmp 88) (Operand.const (Value.int IntKind.i64 0)) b12 (Value.int IntKind.i64 0)) w fun t89 w =>
  pickP t86 t89 (Value.bool false) fun t90 =>
  condP t90
  (callP Try.prog (fnV 19) #[none10, most0] w fun t94 w =>
  builtinP Try.prog Builtin.len #[28] 3 #[false] #[t94] w fun t95 w =>
  valP Try.prog (binS BinOp.eql 3 (Operand.tmp 95) (Operand.const (Value.int IntKind.i64 0)) t95 (Value.int IntKind.i64 0)) w fun t96 w =>
  pickP t90 t96 (Value.bool false) fun t97 =>
  condP t97
  (callP Try.prog (fnV 23) #[none10] w fun t100 w =>
  valP Try.prog (binS BinOp.eql 24 (Operand.tmp 100) (Operand.const (Value.pointer none)) t100 (Value.pointer none)) w fun t101 w =>
  pickP t97 t101 (Value.bool false) fun t102 =>
  condP t102
  (callP Try.prog (fnV 12) #[] w fun t104 w =>
  pickP t102 t104 (Value.bool false) fun t105 =>
  m8_11 R t105 w)
  (pickP t102 undef (Value.bool false) fun t105 =>
  m8_11 R t105 w))
  (pickP t97 undef (Value.bool false) fun t102 =>
  condP t102
  (callP Try.prog (fnV 12) #[] w fun t104 w =>
  pickP t102 t104 (Value.bool false) fun t105 =>
  m8_11 R t105 w)
  (pickP t102 undef (Value.bool false) fun t105 =>
  m8_11 R t105 w)))
  (pickP t90 undef (Value.bool false) fun t97 =>
  condP t97
  (callP Try.prog (fnV 23) #[none10] w fun t100 w =>
  valP Try.prog (binS BinOp.eql 24 (Operand.tmp 100) (Operand.const (Value.pointer none)) t100 (Value.pointer none)) w fun t101 w =>
  pickP t97 t101 (Value.bool false) fun t102 =>
  condP t102
  (callP Try.prog (fnV 12) #[] w fun t104 w =>
  pickP t102 t104 (Value.bool false) fun t105 =>
  m8_11 R t105 w)
  (pickP t102 undef (Value.bool false) fun t105 =>
  m8_11 R t105 w))
  (pickP t97 undef (Value.bool false) fun t102 =>
  condP t102
  (callP Try.prog (fnV 12) #[] w fun t104 w =>
  pickP t102 t104 (Value.bool false) fun t105 =>
  m8_11 R t105 w)
  (pickP t102 undef (Value.bool false) fun t105 =>
  m8_11 R t105 w))))
  (pickP t86 undef (Value.bool false) fun t90 =>
  condP t90
  (callP Try.prog (fnV 19) #[none10, most0] w fun t94 w =>
  builtinP Try.prog Builtin.len #[28] 3 #[false] #[t94] w fun t95 w =>
  valP Try.prog (binS BinOp.eql 3 (Operand.tmp 95) (Operand.const (Value.int IntKind.i64 0)) t95 (Value.int IntKind.i64 0)) w fun t96 w =>
  pickP t90 t96 (Value.bool false) fun t97 =>
  condP t97
  (callP Try.prog (fnV 23) #[none10] w fun t100 w =>
  valP Try.prog (binS BinOp.eql 24 (Operand.tmp 100) (Operand.const (Value.pointer none)) t100 (Value.pointer none)) w fun t101 w =>
  pickP t97 t101 (Value.bool false) fun t102 =>
  condP t102
  (callP Try.prog (fnV 12) #[] w fun t104 w =>
  pickP t102 t104 (Value.bool false) fun t105 =>
  m8_11 R t105 w)
  (pickP t102 undef (Value.bool false) fun t105 =>
  m8_11 R t105 w))
  (pickP t97 undef (Value.bool false) fun t102 =>
  condP t102
  (callP Try.prog (fnV 12) #[] w fun t104 w =>
  pickP t102 t104 (Value.bool false) fun t105 =>
  m8_11 R t105 w)
  (pickP t102 undef (Value.bool false) fun t105 =>
  m8_11 R t105 w)))
  (pickP t90 undef (Value.bool false) fun t97 =>
  condP t97
  (callP Try.prog (fnV 23) #[none10] w fun t100 w =>
  valP Try.prog (binS BinOp.eql 24 (Operand.tmp 100) (Operand.const (Value.pointer none)) t100 (Value.pointer none)) w fun t101 w =>
  pickP t97 t101 (Value.bool false) fun t102 =>
  condP t102
  (callP Try.prog (fnV 12) #[] w fun t104 w =>
  pickP t102 t104 (Value.bool false) fun t105 =>
  m8_11 R t105 w)
  (pickP t102 undef (Value.bool false) fun t105 =>
  m8_11 R t105 w))
  (pickP t97 undef (Value.bool false) fun t102 =>
  condP t102
  (callP Try.prog (fnV 12) #[] w fun t104 w =>
  pickP t102 t104 (Value.bool false) fun t105 =>
  m8_11 R t105 w)
  (pickP t102 undef (Value.bool false) fun t105 =>
  m8_11 R t105 w)))))
  (pickP t82 undef (Value.bool false) fun t86 =>
  condP t86
  (valP Try.prog (binS BinOp.eql 3 (Operand.tmp 88) (Operand.const (Value.int IntKind.i64 0)) b12 (Value.int IntKind.i64 0)) w fun t89 w =>
  pickP t86 t89 (Value.bool false) fun t90 =>
  condP t90
  (callP Try.prog (fnV 19) #[none10, most0] w fun t94 w =>
  builtinP Try.prog Builtin.len #[28] 3 #[false] #[t94] w fun t95 w =>
  valP Try.prog (binS BinOp.eql 3 (Operand.tmp 95) (Operand.const (Value.int IntKind.i64 0)) t95 (Value.int IntKind.i64 0)) w fun t96 w =>
  pickP t90 t96 (Value.bool false) fun t97 =>
  condP t97
  (callP Try.prog (fnV 23) #[none10] w fun t100 w =>
  valP Try.prog (binS BinOp.eql 24 (Operand.tmp 100) (Operand.const (Value.pointer none)) t100 (Value.pointer none)) w fun t101 w =>
  pickP t97 t101 (Value.bool false) fun t102 =>
  condP t102
  (callP Try.prog (fnV 12) #[] w fun t104 w =>
  pickP t102 t104 (Value.bool false) fun t105 =>
  m8_11 R t105 w)
  (pickP t102 undef (Value.bool false) fun t105 =>
  m8_11 R t105 w))
  (pickP t97 undef (Value.bool false) fun t102 =>
  condP t102
  (callP Try.prog (fnV 12) #[] w fun t104 w =>
  pickP t102 t104 (Value.bool false) fun t105 =>
  m8_11 R t105 w)
  (pickP t102 undef (Value.bool false) fun t105 =>
  m8_11 R t105 w)))
  (pickP t90 undef (Value.bool false) fun t97 =>
  condP t97
  (callP Try.prog (fnV 23) #[none10] w fun t100 w =>
  valP Try.prog (binS BinOp.eql 24 (Operand.tmp 100) (Operand.const (Value.pointer none)) t100 (Value.pointer none)) w fun t101 w =>
  pickP t97 t101 (Value.bool false) fun t102 =>
  condP t102
  (callP Try.prog (fnV 12) #[] w fun t104 w =>
  pickP t102 t104 (Value.bool false) fun t105 =>
  m8_11 R t105 w)
  (pickP t102 undef (Value.bool false) fun t105 =>
  m8_11 R t105 w))
  (pickP t97 undef (Value.bool false) fun t102 =>
  condP t102
  (callP Try.prog (fnV 12) #[] w fun t104 w =>
  pickP t102 t104 (Value.bool false) fun t105 =>
  m8_11 R t105 w)
  (pickP t102 undef (Value.bool false) fun t105 =>
  m8_11 R t105 w))))
  (pickP t86 undef (Value.bool false) fun t90 =>
  condP t90
  (callP Try.prog (fnV 19) #[none10, most0] w fun t94 w =>
  builtinP Try.prog Builtin.len #[28] 3 #[false] #[t94] w fun t95 w =>
  valP Try.prog (binS BinOp.eql 3 (Operand.tmp 95) (Operand.const (Value.int IntKind.i64 0)) t95 (Value.int IntKind.i64 0)) w fun t96 w =>
  pickP t90 t96 (Value.bool false) fun t97 =>
  condP t97
  (callP Try.prog (fnV 23) #[none10] w fun t100 w =>
  valP Try.prog (binS BinOp.eql 24 (Operand.tmp 100) (Operand.const (Value.pointer none)) t100 (Value.pointer none)) w fun t101 w =>
  pickP t97 t101 (Value.bool false) fun t102 =>
  condP t102
  (callP Try.prog (fnV 12) #[] w fun t104 w =>
  pickP t102 t104 (Value.bool false) fun t105 =>
  m8_11 R t105 w)
  (pickP t102 undef (Value.bool false) fun t105 =>
  m8_11 R t105 w))
  (pickP t97 undef (Value.bool false) fun t102 =>
  condP t102
  (callP Try.prog (fnV 12) #[] w fun t104 w =>
  pickP t102 t104 (Value.bool false) fun t105 =>
  m8_11 R t105 w)
  (pickP t102 undef (Value.bool false) fun t105 =>
  m8_11 R t105 w)))
  (pickP t90 undef (Value.bool false) fun t97 =>
  condP t97
  (callP Try.prog (fnV 23) #[none10] w fun t100 w =>
  valP Try.prog (binS BinOp.eql 24 (Operand.tmp 100) (Operand.const (Value.pointer none)) t100 (Value.pointer none)) w fun t101 w =>
  pickP t97 t101 (Value.bool false) fun t102 =>
  condP t102
  (callP Try.prog (fnV 12) #[] w fun t104 w =>
  pickP t102 t104 (Value.bool false) fun t105 =>
  m8_11 R t105 w)
  (pickP t102 undef (Value.bool false) fun t105 =>
  m8_11 R t105 w))
  (pickP t97 undef (Value.bool false) fun t102 =>
  condP t102
  (callP Try.prog (fnV 12) #[] w fun t104 w =>
  pickP t102 t104 (Value.bool false) fun t105 =>
  m8_11 R t105 w)
  (pickP t102 undef (Value.bool false) fun t105 =>
  m8_11 R t105 w)))))))
  (pickP t71 undef (Value.bool false) fun t77 =>
  condP t77
  (callP Try.prog (fnV 17) #[none10] w fun t80 w =>
  valP Try.prog (binS BinOp.eql 3 (Operand.tmp 80) (Operand.const (Value.int IntKind.i64 0)) t80 (Value.int IntKind.i64 0)) w fun t81 w =>
  pickP t77 t81 (Value.bool false) fun t82 =>
  condP t82
  (valP Try.prog (binS BinOp.eql 3 (Operand.tmp 84) (Operand.const (Value.int IntKind.i64 0)) a11 (Value.int IntKind.i64 0)) w fun t85 w =>
  pickP t82 t85 (Value.bool false) fun t86 =>
  condP t86
  (valP Try.prog (binS BinOp.eql 3 (Operand.tmp 88) (Operand.const (Value.int IntKind.i64 0)) b12 (Value.int IntKind.i64 0)) w fun t89 w =>
  pickP t86 t89 (Value.bool false) fun t90 =>
  condP t90
  (callP Try.prog (fnV 19) #[none10, most0] w fun t94 w =>
  builtinP Try.prog Builtin.len #[28] 3 #[false] #[t94] w fun t95 w =>
  valP Try.prog (binS BinOp.eql 3 (Operand.tmp 95) (Operand.const (Value.int IntKind.i64 0)) t95 (Value.int IntKind.i64 0)) w fun t96 w =>
  pickP t90 t96 (Value.bool false) fun t97 =>
  condP t97
  (callP Try.prog (fnV 23) #[none10] w fun t100 w =>
  valP Try.prog (binS BinOp.eql 24 (Operand.tmp 100) (Operand.const (Value.pointer none)) t100 (Value.pointer none)) w fun t101 w =>
  pickP t97 t101 (Value.bool false) fun t102 =>
  condP t102
  (callP Try.prog (fnV 12) #[] w fun t104 w =>
  pickP t102 t104 (Value.bool false) fun t105 =>
  m8_11 R t105 w)
  (pickP t102 undef (Value.bool false) fun t105 =>
  m8_11 R t105 w))
  (pickP t97 undef (Value.bool false) fun t102 =>
  condP t102
  (callP Try.prog (fnV 12) #[] w fun t104 w =>
  pickP t102 t104 (Value.bool false) fun t105 =>
  m8_11 R t105 w)
  (pickP t102 undef (Value.bool false) fun t105 =>
  m8_11 R t105 w)))
  (pickP t90 undef (Value.bool false) fun t97 =>
  condP t97
  (callP Try.prog (fnV 23) #[none10] w fun t100 w =>
  valP Try.prog (binS BinOp.eql 24 (Operand.tmp 100) (Operand.const (Value.pointer none)) t100 (Value.pointer none)) w fun t101 w =>
  pickP t97 t101 (Value.bool false) fun t102 =>
  condP t102
  (callP Try.prog (fnV 12) #[] w fun t104 w =>
  pickP t102 t104 (Value.bool false) fun t105 =>
  m8_11 R t105 w)
  (pickP t102 undef (Value.bool false) fun t105 =>
  m8_11 R t105 w))
  (pickP t97 undef (Value.bool false) fun t102 =>
  condP t102
  (callP Try.prog (fnV 12) #[] w fun t104 w =>
  pickP t102 t104 (Value.bool false) fun t105 =>
  m8_11 R t105 w)
  (pickP t102 undef (Value.bool false) fun t105 =>
  m8_11 R t105 w))))
  (pickP t86 undef (Value.bool false) fun t90 =>
  condP t90
  (callP Try.prog (fnV 19) #[none10, most0] w fun t94 w =>
  builtinP Try.prog Builtin.len #[28] 3 #[false] #[t94] w fun t95 w =>
  valP Try.prog (binS BinOp.eql 3 (Operand.tmp 95) (Operand.const (Value.int IntKind.i64 0)) t95 (Value.int IntKind.i64 0)) w fun t96 w =>
  pickP t90 t96 (Value.bool false) fun t97 =>
  condP t97
  (callP Try.prog (fnV 23) #[none10] w fun t100 w =>
  valP Try.prog (binS BinOp.eql 24 (Operand.tmp 100) (Operand.const (Value.pointer none)) t100 (Value.pointer none)) w fun t101 w =>
  pickP t97 t101 (Value.bool false) fun t102 =>
  condP t102
  (callP Try.prog (fnV 12) #[] w fun t104 w =>
  pickP t102 t104 (Value.bool false) fun t105 =>
  m8_11 R t105 w)
  (pickP t102 undef (Value.bool false) fun t105 =>
  m8_11 R t105 w))
  (pickP t97 undef (Value.bool false) fun t102 =>
  condP t102
  (callP Try.prog (fnV 12) #[] w fun t104 w =>
  pickP t102 t104 (Value.bool false) fun t105 =>
  m8_11 R t105 w)
  (pickP t102 undef (Value.bool false) fun t105 =>
  m8_11 R t105 w)))
  (pickP t90 undef (Value.bool false) fun t97 =>
  condP t97
  (callP Try.prog (fnV 23) #[none10] w fun t100 w =>
  valP Try.prog (binS BinOp.eql 24 (Operand.tmp 100) (Operand.const (Value.pointer none)) t100 (Value.pointer none)) w fun t101 w =>
  pickP t97 t101 (Value.bool false) fun t102 =>
  condP t102
  (callP Try.prog (fnV 12) #[] w fun t104 w =>
  pickP t102 t104 (Value.bool false) fun t105 =>
  m8_11 R t105 w)
  (pickP t102 undef (Value.bool false) fun t105 =>
  m8_11 R t105 w))
  (pickP t97 undef (Value.bool false) fun t102 =>
  condP t102
  (callP Try.prog (fnV 12) #[] w fun t104 w =>
  pickP t102 t104 (Value.bool false) fun t105 =>
  m8_11 R t105 w)
  (pickP t102 undef (Value.bool false) fun t105 =>
  m8_11 R t105 w)))))
  (pickP t82 undef (Value.bool false) fun t86 =>
  condP t86
  (valP Try.prog (binS BinOp.eql 3 (Operand.tmp 88) (Operand.const (Value.int IntKind.i64 0)) b12 (Value.int IntKind.i64 0)) w fun t89 w =>
  pickP t86 t89 (Value.bool false) fun t90 =>
  condP t90
  (callP Try.prog (fnV 19) #[none10, most0] w fun t94 w =>
  builtinP Try.prog Builtin.len #[28] 3 #[false] #[t94] w fun t95 w =>
  valP Try.prog (binS BinOp.eql 3 (Operand.tmp 95) (Operand.const (Value.int IntKind.i64 0)) t95 (Value.int IntKind.i64 0)) w fun t96 w =>
  pickP t90 t96 (Value.bool false) fun t97 =>
  condP t97
  (callP Try.prog (fnV 23) #[none10] w fun t100 w =>
  valP Try.prog (binS BinOp.eql 24 (Operand.tmp 100) (Operand.const (Value.pointer none)) t100 (Value.pointer none)) w fun t101 w =>
  pickP t97 t101 (Value.bool false) fun t102 =>
  condP t102
  (callP Try.prog (fnV 12) #[] w fun t104 w =>
  pickP t102 t104 (Value.bool false) fun t105 =>
  m8_11 R t105 w)
  (pickP t102 undef (Value.bool false) fun t105 =>
  m8_11 R t105 w))
  (pickP t97 undef (Value.bool false) fun t102 =>
  condP t102
  (callP Try.prog (fnV 12) #[] w fun t104 w =>
  pickP t102 t104 (Value.bool false) fun t105 =>
  m8_11 R t105 w)
  (pickP t102 undef (Value.bool false) fun t105 =>
  m8_11 R t105 w)))
  (pickP t90 undef (Value.bool false) fun t97 =>
  condP t97
  (callP Try.prog (fnV 23) #[none10] w fun t100 w =>
  valP Try.prog (binS BinOp.eql 24 (Operand.tmp 100) (Operand.const (Value.pointer none)) t100 (Value.pointer none)) w fun t101 w =>
  pickP t97 t101 (Value.bool false) fun t102 =>
  condP t102
  (callP Try.prog (fnV 12) #[] w fun t104 w =>
  pickP t102 t104 (Value.bool false) fun t105 =>
  m8_11 R t105 w)
  (pickP t102 undef (Value.bool false) fun t105 =>
  m8_11 R t105 w))
  (pickP t97 undef (Value.bool false) fun t102 =>
  condP t102
  (callP Try.prog (fnV 12) #[] w fun t104 w =>
  pickP t102 t104 (Value.bool false) fun t105 =>
  m8_11 R t105 w)
  (pickP t102 undef (Value.bool false) fun t105 =>
  m8_11 R t105 w))))
  (pickP t86 undef (Value.bool false) fun t90 =>
  condP t90
  (callP Try.prog (fnV 19) #[none10, most0] w fun t94 w =>
  builtinP Try.prog Builtin.len #[28] 3 #[false] #[t94] w fun t95 w =>
  valP Try.prog (binS BinOp.eql 3 (Operand.tmp 95) (Operand.const (Value.int IntKind.i64 0)) t95 (Value.int IntKind.i64 0)) w fun t96 w =>
  pickP t90 t96 (Value.bool false) fun t97 =>
  condP t97
  (callP Try.prog (fnV 23) #[none10] w fun t100 w =>
  valP Try.prog (binS BinOp.eql 24 (Operand.tmp 100) (Operand.const (Value.pointer none)) t100 (Value.pointer none)) w fun t101 w =>
  pickP t97 t101 (Value.bool false) fun t102 =>
  condP t102
  (callP Try.prog (fnV 12) #[] w fun t104 w =>
  pickP t102 t104 (Value.bool false) fun t105 =>
  m8_11 R t105 w)
  (pickP t102 undef (Value.bool false) fun t105 =>
  m8_11 R t105 w))
  (pickP t97 undef (Value.bool false) fun t102 =>
  condP t102
  (callP Try.prog (fnV 12) #[] w fun t104 w =>
  pickP t102 t104 (Value.bool false) fun t105 =>
  m8_11 R t105 w)
  (pickP t102 undef (Value.bool false) fun t105 =>
  m8_11 R t105 w)))
  (pickP t90 undef (Value.bool false) fun t97 =>
  condP t97
  (callP Try.prog (fnV 23) #[none10] w fun t100 w =>
  valP Try.prog (binS BinOp.eql 24 (Operand.tmp 100) (Operand.const (Value.pointer none)) t100 (Value.pointer none)) w fun t101 w =>
  pickP t97 t101 (Value.bool false) fun t102 =>
  condP t102
  (callP Try.prog (fnV 12) #[] w fun t104 w =>
  pickP t102 t104 (Value.bool false) fun t105 =>
  m8_11 R t105 w)
  (pickP t102 undef (Value.bool false) fun t105 =>
  m8_11 R t105 w))
  (pickP t97 undef (Value.bool false) fun t102 =>
  condP t102
  (callP Try.prog (fnV 12) #[] w fun t104 w =>
  pickP t102 t104 (Value.bool false) fun t105 =>
  m8_11 R t105 w)
  (pickP t102 undef (Value.bool false) fun t105 =>
  m8_11 R t105 w))))))
  (pickP t77 undef (Value.bool false) fun t82 =>
  condP t82
  (valP Try.prog (binS BinOp.eql 3 (Operand.tmp 84) (Operand.const (Value.int IntKind.i64 0)) a11 (Value.int IntKind.i64 0)) w fun t85 w =>
  pickP t82 t85 (Value.bool false) fun t86 =>
  condP t86
  (valP Try.prog (binS BinOp.eql 3 (Operand.tmp 88) (Operand.const (Value.int IntKind.i64 0)) b12 (Value.int IntKind.i64 0)) w fun t89 w =>
  pickP t86 t89 (Value.bool false) fun t90 =>
  condP t90
  (callP Try.prog (fnV 19) #[none10, most0] w fun t94 w =>
  builtinP Try.prog Builtin.len #[28] 3 #[false] #[t94] w fun t95 w =>
  valP Try.prog (binS BinOp.eql 3 (Operand.tmp 95) (Operand.const (Value.int IntKind.i64 0)) t95 (Value.int IntKind.i64 0)) w fun t96 w =>
  pickP t90 t96 (Value.bool false) fun t97 =>
  condP t97
  (callP Try.prog (fnV 23) #[none10] w fun t100 w =>
  valP Try.prog (binS BinOp.eql 24 (Operand.tmp 100) (Operand.const (Value.pointer none)) t100 (Value.pointer none)) w fun t101 w =>
  pickP t97 t101 (Value.bool false) fun t102 =>
  condP t102
  (callP Try.prog (fnV 12) #[] w fun t104 w =>
  pickP t102 t104 (Value.bool false) fun t105 =>
  m8_11 R t105 w)
  (pickP t102 undef (Value.bool false) fun t105 =>
  m8_11 R t105 w))
  (pickP t97 undef (Value.bool false) fun t102 =>
  condP t102
  (callP Try.prog (fnV 12) #[] w fun t104 w =>
  pickP t102 t104 (Value.bool false) fun t105 =>
  m8_11 R t105 w)
  (pickP t102 undef (Value.bool false) fun t105 =>
  m8_11 R t105 w)))
  (pickP t90 undef (Value.bool false) fun t97 =>
  condP t97
  (callP Try.prog (fnV 23) #[none10] w fun t100 w =>
  valP Try.prog (binS BinOp.eql 24 (Operand.tmp 100) (Operand.const (Value.pointer none)) t100 (Value.pointer none)) w fun t101 w =>
  pickP t97 t101 (Value.bool false) fun t102 =>
  condP t102
  (callP Try.prog (fnV 12) #[] w fun t104 w =>
  pickP t102 t104 (Value.bool false) fun t105 =>
  m8_11 R t105 w)
  (pickP t102 undef (Value.bool false) fun t105 =>
  m8_11 R t105 w))
  (pickP t97 undef (Value.bool false) fun t102 =>
  condP t102
  (callP Try.prog (fnV 12) #[] w fun t104 w =>
  pickP t102 t104 (Value.bool false) fun t105 =>
  m8_11 R t105 w)
  (pickP t102 undef (Value.bool false) fun t105 =>
  m8_11 R t105 w))))
  (pickP t86 undef (Value.bool false) fun t90 =>
  condP t90
  (callP Try.prog (fnV 19) #[none10, most0] w fun t94 w =>
  builtinP Try.prog Builtin.len #[28] 3 #[false] #[t94] w fun t95 w =>
  valP Try.prog (binS BinOp.eql 3 (Operand.tmp 95) (Operand.const (Value.int IntKind.i64 0)) t95 (Value.int IntKind.i64 0)) w fun t96 w =>
  pickP t90 t96 (Value.bool false) fun t97 =>
  condP t97
  (callP Try.prog (fnV 23) #[none10] w fun t100 w =>
  valP Try.prog (binS BinOp.eql 24 (Operand.tmp 100) (Operand.const (Value.pointer none)) t100 (Value.pointer none)) w fun t101 w =>
  pickP t97 t101 (Value.bool false) fun t102 =>
  condP t102
  (callP Try.prog (fnV 12) #[] w fun t104 w =>
  pickP t102 t104 (Value.bool false) fun t105 =>
  m8_11 R t105 w)
  (pickP t102 undef (Value.bool false) fun t105 =>
  m8_11 R t105 w))
  (pickP t97 undef (Value.bool false) fun t102 =>
  condP t102
  (callP Try.prog (fnV 12) #[] w fun t104 w =>
  pickP t102 t104 (Value.bool false) fun t105 =>
  m8_11 R t105 w)
  (pickP t102 undef (Value.bool false) fun t105 =>
  m8_11 R t105 w)))
  (pickP t90 undef (Value.bool false) fun t97 =>
  condP t97
  (callP Try.prog (fnV 23) #[none10] w fun t100 w =>
  valP Try.prog (binS BinOp.eql 24 (Operand.tmp 100) (Operand.const (Value.pointer none)) t100 (Value.pointer none)) w fun t101 w =>
  pickP t97 t101 (Value.bool false) fun t102 =>
  condP t102
  (callP Try.prog (fnV 12) #[] w fun t104 w =>
  pickP t102 t104 (Value.bool false) fun t105 =>
  m8_11 R t105 w)
  (pickP t102 undef (Value.bool false) fun t105 =>
  m8_11 R t105 w))
  (pickP t97 undef (Value.bool false) fun t102 =>
  condP t102
  (callP Try.prog (fnV 12) #[] w fun t104 w =>
  pickP t102 t104 (Value.bool false) fun t105 =>
  m8_11 R t105 w)
  (pickP t102 undef (Value.bool false) fun t105 =>
  m8_11 R t105 w)))))
  (pickP t82 undef (Value.bool false) fun t86 =>
  condP t86
  (valP Try.prog (binS BinOp.eql 3 (Operand.tmp 88) (Operand.const (Value.int IntKind.i64 0)) b12 (Value.int IntKind.i64 0)) w fun t89 w =>
  pickP t86 t89 (Value.bool false) fun t90 =>
  condP t90
  (callP Try.prog (fnV 19) #[none10, most0] w fun t94 w =>
  builtinP Try.prog Builtin.len #[28] 3 #[false] #[t94] w fun t95 w =>
  valP Try.prog (binS BinOp.eql 3 (Operand.tmp 95) (Operand.const (Value.int IntKind.i64 0)) t95 (Value.int IntKind.i64 0)) w fun t96 w =>
  pickP t90 t96 (Value.bool false) fun t97 =>
  condP t97
  (callP Try.prog (fnV 23) #[none10] w fun t100 w =>
  valP Try.prog (binS BinOp.eql 24 (Operand.tmp 100) (Operand.const (Value.pointer none)) t100 (Value.pointer none)) w fun t101 w =>
  pickP t97 t101 (Value.bool false) fun t102 =>
  condP t102
  (callP Try.prog (fnV 12) #[] w fun t104 w =>
  pickP t102 t104 (Value.bool false) fun t105 =>
  m8_11 R t105 w)
  (pickP t102 undef (Value.bool false) fun t105 =>
  m8_11 R t105 w))
  (pickP t97 undef (Value.bool false) fun t102 =>
  condP t102
  (callP Try.prog (fnV 12) #[] w fun t104 w =>
  pickP t102 t104 (Value.bool false) fun t105 =>
  m8_11 R t105 w)
  (pickP t102 undef (Value.bool false) fun t105 =>
  m8_11 R t105 w)))
  (pickP t90 undef (Value.bool false) fun t97 =>
  condP t97
  (callP Try.prog (fnV 23) #[none10] w fun t100 w =>
  valP Try.prog (binS BinOp.eql 24 (Operand.tmp 100) (Operand.const (Value.pointer none)) t100 (Value.pointer none)) w fun t101 w =>
  pickP t97 t101 (Value.bool false) fun t102 =>
  condP t102
  (callP Try.prog (fnV 12) #[] w fun t104 w =>
  pickP t102 t104 (Value.bool false) fun t105 =>
  m8_11 R t105 w)
  (pickP t102 undef (Value.bool false) fun t105 =>
  m8_11 R t105 w))
  (pickP t97 undef (Value.bool false) fun t102 =>
  condP t102
  (callP Try.prog (fnV 12) #[] w fun t104 w =>
  pickP t102 t104 (Value.bool false) fun t105 =>
  m8_11 R t105 w)
  (pickP t102 undef (Value.bool false) fun t105 =>
  m8_11 R t105 w))))
  (pickP t86 undef (Value.bool false) fun t90 =>
  condP t90
  (callP Try.prog (fnV 19) #[none10, most0] w fun t94 w =>
  builtinP Try.prog Builtin.len #[28] 3 #[false] #[t94] w fun t95 w =>
  valP Try.prog (binS BinOp.eql 3 (Operand.tmp 95) (Operand.const (Value.int IntKind.i64 0)) t95 (Value.int IntKind.i64 0)) w fun t96 w =>
  pickP t90 t96 (Value.bool false) fun t97 =>
  condP t97
  (callP Try.prog (fnV 23) #[none10] w fun t100 w =>
  valP Try.prog (binS BinOp.eql 24 (Operand.tmp 100) (Operand.const (Value.pointer none)) t100 (Value.pointer none)) w fun t101 w =>
  pickP t97 t101 (Value.bool false) fun t102 =>
  condP t102
  (callP Try.prog (fnV 12) #[] w fun t104 w =>
  pickP t102 t104 (Value.bool false) fun t105 =>
  m8_11 R t105 w)
  (pickP t102 undef (Value.bool false) fun t105 =>
  m8_11 R t105 w))
  (pickP t97 undef (Value.bool false) fun t102 =>
  condP t102
  (callP Try.prog (fnV 12) #[] w fun t104 w =>
  pickP t102 t104 (Value.bool false) fun t105 =>
  m8_11 R t105 w)
  (pickP t102 undef (Value.bool false) fun t105 =>
  m8_11 R t105 w)))
  (pickP t90 undef (Value.bool false) fun t97 =>
  condP t97
  (callP Try.prog (fnV 23) #[none10] w fun t100 w =>
  valP Try.prog (binS BinOp.eql 24 (Operand.tmp 100) (Operand.const (Value.pointer none)) t100 (Value.pointer none)) w fun t101 w =>
  pickP t97 t101 (Value.bool false) fun t102 =>
  condP t102
  (callP Try.prog (fnV 12) #[] w fun t104 w =>
  pickP t102 t104 (Value.bool false) fun t105 =>
  m8_11 R t105 w)
  (pickP t102 undef (Value.bool false) fun t105 =>
  m8_11 R t105 w))
  (pickP t97 undef (Value.bool false) fun t102 =>
  condP t102
  (callP Try.prog (fnV 12) #[] w fun t104 w =>
  pickP t102 t104 (Value.bool false) fun t105 =>
  m8_11 R t105 w)
  (pickP t102 undef (Value.bool false) fun t105 =>
  m8_11 R t105 w)))))))))
  (pickP t54 undef (Value.bool false) fun t61 =>
  condP t61
  (callP Try.prog (fnV 17) #[c9] w fun t64 w =>
  builtinP Try.prog Builtin.len #[22] 3 #[false] #[l1] w fun t66 w =>
  builtinP Try.prog Builtin.len #[22] 3 #[false] #[more2] w fun t68 w =>
  valP Try.prog (binS BinOp.add 3 (Operand.tmp 66) (Operand.tmp 68) t66 t68) w fun t69 w =>
  valP Try.prog (binS BinOp.eql 3 (Operand.tmp 64) (Operand.tmp 69) t64 t69) w fun t70 w =>
  pickP t61 t70 (Value.bool false) fun t71 =>
  condP t71
  (callP Try.prog (fnV 13) #[none10, l1] w fun t75 w =>
  valP Try.prog (binS BinOp.eql 25 (Operand.tmp 75) (Operand.const (Value.int IntKind.i64 1)) t75 (Value.int IntKind.i64 1)) w fun t76 w =>
  pickP t71 t76 (Value.bool false) fun t77 =>
  condP t77
  (callP Try.prog (fnV 17) #[none10] w fun t80 w =>
  valP Try.prog (binS BinOp.eql 3 (Operand.tmp 80) (Operand.const (Value.int IntKind.i64 0)) t80 (Value.int IntKind.i64 0)) w fun t81 w =>
  pickP t77 t81 (Value.bool false) fun t82 =>
  condP t82
  (valP Try.prog (binS BinOp.eql 3 (Operand.tmp 84) (Operand.const (Value.int IntKind.i64 0)) a11 (Value.int IntKind.i64 0)) w fun t85 w =>
  pickP t82 t85 (Value.bool false) fun t86 =>
  condP t86
  (valP Try.prog (binS BinOp.eql 3 (Operand.tmp 88) (Operand.const (Value.int IntKind.i64 0)) b12 (Value.int IntKind.i64 0)) w fun t89 w =>
  pickP t86 t89 (Value.bool false) fun t90 =>
  condP t90
  (callP Try.prog (fnV 19) #[none10, most0] w fun t94 w =>
  builtinP Try.prog Builtin.len #[28] 3 #[false] #[t94] w fun t95 w =>
  valP Try.prog (binS BinOp.eql 3 (Operand.tmp 95) (Operand.const (Value.int IntKind.i64 0)) t95 (Value.int IntKind.i64 0)) w fun t96 w =>
  pickP t90 t96 (Value.bool false) fun t97 =>
  condP t97
  (callP Try.prog (fnV 23) #[none10] w fun t100 w =>
  valP Try.prog (binS BinOp.eql 24 (Operand.tmp 100) (Operand.const (Value.pointer none)) t100 (Value.pointer none)) w fun t101 w =>
  pickP t97 t101 (Value.bool false) fun t102 =>
  condP t102
  (callP Try.prog (fnV 12) #[] w fun t104 w =>
  pickP t102 t104 (Value.bool false) fun t105 =>
  m8_11 R t105 w)
  (pickP t102 undef (Value.bool false) fun t105 =>
  m8_11 R t105 w))
  (pickP t97 undef (Value.bool false) fun t102 =>
  condP t102
  (callP Try.prog (fnV 12) #[] w fun t104 w =>
  pickP t102 t104 (Value.bool false) fun t105 =>
  m8_11 R t105 w)
  (pickP t102 undef (Value.bool false) fun t105 =>
  m8_11 R t105 w)))
  (pickP t90 undef (Value.bool false) fun t97 =>
  condP t97
  (callP Try.prog (fnV 23) #[none10] w fun t100 w =>
  valP Try.prog (binS BinOp.eql 24 (Operand.tmp 100) (Operand.const (Value.pointer none)) t100 (Value.pointer none)) w fun t101 w =>
  pickP t97 t101 (Value.bool false) fun t102 =>
  condP t102
  (callP Try.prog (fnV 12) #[] w fun t104 w =>
  pickP t102 t104 (Value.bool false) fun t105 =>
  m8_11 R t105 w)
  (pickP t102 undef (Value.bool false) fun t105 =>
  m8_11 R t105 w))
  (pickP t97 undef (Value.bool false) fun t102 =>
  condP t102
  (callP Try.prog (fnV 12) #[] w fun t104 w =>
  pickP t102 t104 (Value.bool false) fun t105 =>
  m8_11 R t105 w)
  (pickP t102 undef (Value.bool false) fun t105 =>
  m8_11 R t105 w))))
  (pickP t86 undef (Value.bool false) fun t90 =>
  condP t90
  (callP Try.prog (fnV 19) #[none10, most0] w fun t94 w =>
  builtinP Try.prog Builtin.len #[28] 3 #[false] #[t94] w fun t95 w =>
  valP Try.prog (binS BinOp.eql 3 (Operand.tmp 95) (Operand.const (Value.int IntKind.i64 0)) t95 (Value.int IntKind.i64 0)) w fun t96 w =>
  pickP t90 t96 (Value.bool false) fun t97 =>
  condP t97
  (callP Try.prog (fnV 23) #[none10] w fun t100 w =>
  valP Try.prog (binS BinOp.eql 24 (Operand.tmp 100) (Operand.const (Value.pointer none)) t100 (Value.pointer none)) w fun t101 w =>
  pickP t97 t101 (Value.bool false) fun t102 =>
  condP t102
  (callP Try.prog (fnV 12) #[] w fun t104 w =>
  pickP t102 t104 (Value.bool false) fun t105 =>
  m8_11 R t105 w)
  (pickP t102 undef (Value.bool false) fun t105 =>
  m8_11 R t105 w))
  (pickP t97 undef (Value.bool false) fun t102 =>
  condP t102
  (callP Try.prog (fnV 12) #[] w fun t104 w =>
  pickP t102 t104 (Value.bool false) fun t105 =>
  m8_11 R t105 w)
  (pickP t102 undef (Value.bool false) fun t105 =>
  m8_11 R t105 w)))
  (pickP t90 undef (Value.bool false) fun t97 =>
  condP t97
  (callP Try.prog (fnV 23) #[none10] w fun t100 w =>
  valP Try.prog (binS BinOp.eql 24 (Operand.tmp 100) (Operand.const (Value.pointer none)) t100 (Value.pointer none)) w fun t101 w =>
  pickP t97 t101 (Value.bool false) fun t102 =>
  condP t102
  (callP Try.prog (fnV 12) #[] w fun t104 w =>
  pickP t102 t104 (Value.bool false) fun t105 =>
  m8_11 R t105 w)
  (pickP t102 undef (Value.bool false) fun t105 =>
  m8_11 R t105 w))
  (pickP t97 undef (Value.bool false) fun t102 =>
  condP t102
  (callP Try.prog (fnV 12) #[] w fun t104 w =>
  pickP t102 t104 (Value.bool false) fun t105 =>
  m8_11 R t105 w)
  (pickP t102 undef (Value.bool false) fun t105 =>
  m8_11 R t105 w)))))
  (pickP t82 undef (Value.bool false) fun t86 =>
  condP t86
  (valP Try.prog (binS BinOp.eql 3 (Operand.tmp 88) (Operand.const (Value.int IntKind.i64 0)) b12 (Value.int IntKind.i64 0)) w fun t89 w =>
  pickP t86 t89 (Value.bool false) fun t90 =>
  condP t90
  (callP Try.prog (fnV 19) #[none10, most0] w fun t94 w =>
  builtinP Try.prog Builtin.len #[28] 3 #[false] #[t94] w fun t95 w =>
  valP Try.prog (binS BinOp.eql 3 (Operand.tmp 95) (Operand.const (Value.int IntKind.i64 0)) t95 (Value.int IntKind.i64 0)) w fun t96 w =>
  pickP t90 t96 (Value.bool false) fun t97 =>
  condP t97
  (callP Try.prog (fnV 23) #[none10] w fun t100 w =>
  valP Try.prog (binS BinOp.eql 24 (Operand.tmp 100) (Operand.const (Value.pointer none)) t100 (Value.pointer none)) w fun t101 w =>
  pickP t97 t101 (Value.bool false) fun t102 =>
  condP t102
  (callP Try.prog (fnV 12) #[] w fun t104 w =>
  pickP t102 t104 (Value.bool false) fun t105 =>
  m8_11 R t105 w)
  (pickP t102 undef (Value.bool false) fun t105 =>
  m8_11 R t105 w))
  (pickP t97 undef (Value.bool false) fun t102 =>
  condP t102
  (callP Try.prog (fnV 12) #[] w fun t104 w =>
  pickP t102 t104 (Value.bool false) fun t105 =>
  m8_11 R t105 w)
  (pickP t102 undef (Value.bool false) fun t105 =>
  m8_11 R t105 w)))
  (pickP t90 undef (Value.bool false) fun t97 =>
  condP t97
  (callP Try.prog (fnV 23) #[none10] w fun t100 w =>
  valP Try.prog (binS BinOp.eql 24 (Operand.tmp 100) (Operand.const (Value.pointer none)) t100 (Value.pointer none)) w fun t101 w =>
  pickP t97 t101 (Value.bool false) fun t102 =>
  condP t102
  (callP Try.prog (fnV 12) #[] w fun t104 w =>
  pickP t102 t104 (Value.bool false) fun t105 =>
  m8_11 R t105 w)
  (pickP t102 undef (Value.bool false) fun t105 =>
  m8_11 R t105 w))
  (pickP t97 undef (Value.bool false) fun t102 =>
  condP t102
  (callP Try.prog (fnV 12) #[] w fun t104 w =>
  pickP t102 t104 (Value.bool false) fun t105 =>
  m8_11 R t105 w)
  (pickP t102 undef (Value.bool false) fun t105 =>
  m8_11 R t105 w))))
  (pickP t86 undef (Value.bool false) fun t90 =>
  condP t90
  (callP Try.prog (fnV 19) #[none10, most0] w fun t94 w =>
  builtinP Try.prog Builtin.len #[28] 3 #[false] #[t94] w fun t95 w =>
  valP Try.prog (binS BinOp.eql 3 (Operand.tmp 95) (Operand.const (Value.int IntKind.i64 0)) t95 (Value.int IntKind.i64 0)) w fun t96 w =>
  pickP t90 t96 (Value.bool false) fun t97 =>
  condP t97
  (callP Try.prog (fnV 23) #[none10] w fun t100 w =>
  valP Try.prog (binS BinOp.eql 24 (Operand.tmp 100) (Operand.const (Value.pointer none)) t100 (Value.pointer none)) w fun t101 w =>
  pickP t97 t101 (Value.bool false) fun t102 =>
  condP t102
  (callP Try.prog (fnV 12) #[] w fun t104 w =>
  pickP t102 t104 (Value.bool false) fun t105 =>
  m8_11 R t105 w)
  (pickP t102 undef (Value.bool false) fun t105 =>
  m8_11 R t105 w))
  (pickP t97 undef (Value.bool false) fun t102 =>
  condP t102
  (callP Try.prog (fnV 12) #[] w fun t104 w =>
  pickP t102 t104 (Value.bool false) fun t105 =>
  m8_11 R t105 w)
  (pickP t102 undef (Value.bool false) fun t105 =>
  m8_11 R t105 w)))
  (pickP t90 undef (Value.bool false) fun t97 =>
  condP t97
  (callP Try.prog (fnV 23) #[none10] w fun t100 w =>
  valP Try.prog (binS BinOp.eql 24 (Operand.tmp 100) (Operand.const (Value.pointer none)) t100 (Value.pointer none)) w fun t101 w =>
  pickP t97 t101 (Value.bool false) fun t102 =>
  condP t102
  (callP Try.prog (fnV 12) #[] w fun t104 w =>
  pickP t102 t104 (Value.bool false) fun t105 =>
  m8_11 R t105 w)
  (pickP t102 undef (Value.bool false) fun t105 =>
  m8_11 R t105 w))
  (pickP t97 undef (Value.bool false) fun t102 =>
  condP t102
  (callP Try.prog (fnV 12) #[] w fun t104 w =>
  pickP t102 t104 (Value.bool false) fun t105 =>
  m8_11 R t105 w)
  (pickP t102 undef (Value.bool false) fun t105 =>
  m8_11 R t105 w))))))
  (pickP t77 undef (Value.bool false) fun t82 =>
  condP t82
  (valP Try.prog (binS BinOp.eql 3 (Operand.tmp 84) (Operand.const (Value.int IntKind.i64 0)) a11 (Value.int IntKind.i64 0)) w fun t85 w =>
  pickP t82 t85 (Value.bool false) fun t86 =>
  condP t86
  (valP Try.prog (binS BinOp.eql 3 (Operand.tmp 88) (Operand.const (Value.int IntKind.i64 0)) b12 (Value.int IntKind.i64 0)) w fun t89 w =>
  pickP t86 t89 (Value.bool false) fun t90 =>
  condP t90
  (callP Try.prog (fnV 19) #[none10, most0] w fun t94 w =>
  builtinP Try.prog Builtin.len #[28] 3 #[false] #[t94] w fun t95 w =>
  valP Try.prog (binS BinOp.eql 3 (Operand.tmp 95) (Operand.const (Value.int IntKind.i64 0)) t95 (Value.int IntKind.i64 0)) w fun t96 w =>
  pickP t90 t96 (Value.bool false) fun t97 =>
  condP t97
  (callP Try.prog (fnV 23) #[none10] w fun t100 w =>
  valP Try.prog (binS BinOp.eql 24 (Operand.tmp 100) (Operand.const (Value.pointer none)) t100 (Value.pointer none)) w fun t101 w =>
  pickP t97 t101 (Value.bool false) fun t102 =>
  condP t102
  (callP Try.prog (fnV 12) #[] w fun t104 w =>
  pickP t102 t104 (Value.bool false) fun t105 =>
  m8_11 R t105 w)
  (pickP t102 undef (Value.bool false) fun t105 =>
  m8_11 R t105 w))
  (pickP t97 undef (Value.bool false) fun t102 =>
  condP t102
  (callP Try.prog (fnV 12) #[] w fun t104 w =>
  pickP t102 t104 (Value.bool false) fun t105 =>
  m8_11 R t105 w)
  (pickP t102 undef (Value.bool false) fun t105 =>
  m8_11 R t105 w)))
  (pickP t90 undef (Value.bool false) fun t97 =>
  condP t97
  (callP Try.prog (fnV 23) #[none10] w fun t100 w =>
  valP Try.prog (binS BinOp.eql 24 (Operand.tmp 100) (Operand.const (Value.pointer none)) t100 (Value.pointer none)) w fun t101 w =>
  pickP t97 t101 (Value.bool false) fun t102 =>
  condP t102
  (callP Try.prog (fnV 12) #[] w fun t104 w =>
  pickP t102 t104 (Value.bool false) fun t105 =>
  m8_11 R t105 w)
  (pickP t102 undef (Value.bool false) fun t105 =>
  m8_11 R t105 w))
  (pickP t97 undef (Value.bool false) fun t102 =>
  condP t102
  (callP Try.prog (fnV 12) #[] w fun t104 w =>
  pickP t102 t104 (Value.bool false) fun t105 =>
  m8_11 R t105 w)
  (pickP t102 undef (Value.bool false) fun t105 =>
  m8_11 R t105 w))))
  (pickP t86 undef (Value.bool false) fun t90 =>
  condP t90
  (callP Try.prog (fnV 19) #[none10, most0] w fun t94 w =>
  builtinP Try.prog Builtin.len #[28] 3 #[false] #[t94] w fun t95 w =>
  valP Try.prog (binS BinOp.eql 3 (Operand.tmp 95) (Operand.const (Value.int IntKind.i64 0)) t95 (Value.int IntKind.i64 0)) w fun t96 w =>
  pickP t90 t96 (Value.bool false) fun t97 =>
  condP t97
  (callP Try.prog (fnV 23) #[none10] w fun t100 w =>
  valP Try.prog (binS BinOp.eql 24 (Operand.tmp 100) (Operand.const (Value.pointer none)) t100 (Value.pointer none)) w fun t101 w =>
  pickP t97 t101 (Value.bool false) fun t102 =>
  condP t102
  (callP Try.prog (fnV 12) #[] w fun t104 w =>
  pickP t102 t104 (Value.bool false) fun t105 =>
  m8_11 R t105 w)
  (pickP t102 undef (Value.bool false) fun t105 =>
  m8_11 R t105 w))
  (pickP t97 undef (Value.bool false) fun t102 =>
  condP t102
  (callP Try.prog (fnV 12) #[] w fun t104 w =>
  pickP t102 t104 (Value.bool false) fun t105 =>
  m8_11 R t105 w)
  (pickP t102 undef (Value.bool false) fun t105 =>
  m8_11 R t105 w)))
  (pickP t90 undef (Value.bool false) fun t97 =>
  condP t97
  (callP Try.prog (fnV 23) #[none10] w fun t100 w =>
  valP Try.prog (binS BinOp.eql 24 (Operand.tmp 100) (Operand.const (Value.pointer none)) t100 (Value.pointer none)) w fun t101 w =>
  pickP t97 t101 (Value.bool false) fun t102 =>
  condP t102
  (callP Try.prog (fnV 12) #[] w fun t104 w =>
  pickP t102 t104 (Value.bool false) fun t105 =>
  m8_11 R t105 w)
  (pickP t102 undef (Value.bool false) fun t105 =>
  m8_11 R t105 w))
  (pickP t97 undef (Value.bool false) fun t102 =>
  condP t102
  (callP Try.prog (fnV 12) #[] w fun t104 w =>
  pickP t102 t104 (Value.bool false) fun t105 =>
  m8_11 R t105 w)
  (pickP t102 undef (Value.bool false) fun t105 =>
  m8_11 R t105 w)))))
  (pickP t82 undef (Value.bool false) fun t86 =>
  condP t86
  (valP Try.prog (binS BinOp.eql 3 (Operand.tmp 88) (Operand.const (Value.int IntKind.i64 0)) b12 (Value.int IntKind.i64 0)) w fun t89 w =>
  pickP t86 t89 (Value.bool false) fun t90 =>
  condP t90
  (callP Try.prog (fnV 19) #[none10, most0] w fun t94 w =>
  builtinP Try.prog Builtin.len #[28] 3 #[false] #[t94] w fun t95 w =>
  valP Try.prog (binS BinOp.eql 3 (Operand.tmp 95) (Operand.const (Value.int IntKind.i64 0)) t95 (Value.int IntKind.i64 0)) w fun t96 w =>
  pickP t90 t96 (Value.bool false) fun t97 =>
  condP t97
  (callP Try.prog (fnV 23) #[none10] w fun t100 w =>
  valP Try.prog (binS BinOp.eql 24 (Operand.tmp 100) (Operand.const (Value.pointer none)) t100 (Value.pointer none)) w fun t101 w =>
  pickP t97 t101 (Value.bool false) fun t102 =>
  condP t102
  (callP Try.prog (fnV 12) #[] w fun t104 w =>
  pickP t102 t104 (Value.bool false) fun t105 =>
  m8_11 R t105 w)
  (pickP t102 undef (Value.bool false) fun t105 =>
  m8_11 R t105 w))
  (pickP t97 undef (Value.bool false) fun t102 =>
  condP t102
  (callP Try.prog (fnV 12) #[] w fun t104 w =>
  pickP t102 t104 (Value.bool false) fun t105 =>
  m8_11 R t105 w)
  (pickP t102 undef (Value.bool false) fun t105 =>
  m8_11 R t105 w)))
  (pickP t90 undef (Value.bool false) fun t97 =>
  condP t97
  (callP Try.prog (fnV 23) #[none10] w fun t100 w =>
  valP Try.prog (binS BinOp.eql 24 (Operand.tmp 100) (Operand.const (Value.pointer none)) t100 (Value.pointer none)) w fun t101 w =>
  pickP t97 t101 (Value.bool false) fun t102 =>
  condP t102
  (callP Try.prog (fnV 12) #[] w fun t104 w =>
  pickP t102 t104 (Value.bool false) fun t105 =>
  m8_11 R t105 w)
  (pickP t102 undef (Value.bool false) fun t105 =>
  m8_11 R t105 w))
  (pickP t97 undef (Value.bool false) fun t102 =>
  condP t102
  (callP Try.prog (fnV 12) #[] w fun t104 w =>
  pickP t102 t104 (Value.bool false) fun t105 =>
  m8_11 R t105 w)
  (pickP t102 undef (Value.bool false) fun t105 =>
  m8_11 R t105 w))))
  (pickP t86 undef (Value.bool false) fun t90 =>
  condP t90
  (callP Try.prog (fnV 19) #[none10, most0] w fun t94 w =>
  builtinP Try.prog Builtin.len #[28] 3 #[false] #[t94] w fun t95 w =>
  valP Try.prog (binS BinOp.eql 3 (Operand.tmp 95) (Operand.const (Value.int IntKind.i64 0)) t95 (Value.int IntKind.i64 0)) w fun t96 w =>
  pickP t90 t96 (Value.bool false) fun t97 =>
  condP t97
  (callP Try.prog (fnV 23) #[none10] w fun t100 w =>
  valP Try.prog (binS BinOp.eql 24 (Operand.tmp 100) (Operand.const (Value.pointer none)) t100 (Value.pointer none)) w fun t101 w =>
  pickP t97 t101 (Value.bool false) fun t102 =>
  condP t102
  (callP Try.prog (fnV 12) #[] w fun t104 w =>
  pickP t102 t104 (Value.bool false) fun t105 =>
  m8_11 R t105 w)
  (pickP t102 undef (Value.bool false) fun t105 =>
  m8_11 R t105 w))
  (pickP t97 undef (Value.bool false) fun t102 =>
  condP t102
  (callP Try.prog (fnV 12) #[] w fun t104 w =>
  pickP t102 t104 (Value.bool false) fun t105 =>
  m8_11 R t105 w)
  (pickP t102 undef (Value.bool false) fun t105 =>
  m8_11 R t105 w)))
  (pickP t90 undef (Value.bool false) fun t97 =>
  condP t97
  (callP Try.prog (fnV 23) #[none10] w fun t100 w =>
  valP Try.prog (binS BinOp.eql 24 (Operand.tmp 100) (Operand.const (Value.pointer none)) t100 (Value.pointer none)) w fun t101 w =>
  pickP t97 t101 (Value.bool false) fun t102 =>
  condP t102
  (callP Try.prog (fnV 12) #[] w fun t104 w =>
  pickP t102 t104 (Value.bool false) fun t105 =>
  m8_11 R t105 w)
  (pickP t102 undef (Value.bool false) fun t105 =>
  m8_11 R t105 w))
  (pickP t97 undef (Value.bool false) fun t102 =>
  condP t102
  (callP Try.prog (fnV 12) #[] w fun t104 w =>
  pickP t102 t104 (Value.bool false) fun t105 =>
  m8_11 R t105 w)
  (pickP t102 undef (Value.bool false) fun t105 =>
  m8_11 R t105 w)))))))
  (pickP t71 undef (Value.bool false) fun t77 =>
  condP t77
  (callP Try.prog (fnV 17) #[none10] w fun t80 w =>
  valP Try.prog (binS BinOp.eql 3 (Operand.tmp 80) (Operand.const (Value.int IntKind.i64 0)) t80 (Value.int IntKind.i64 0)) w fun t81 w =>
  pickP t77 t81 (Value.bool false) fun t82 =>
  condP t82
  (valP Try.prog (binS BinOp.eql 3 (Operand.tmp 84) (Operand.const (Value.int IntKind.i64 0)) a11 (Value.int IntKind.i64 0)) w fun t85 w =>
  pickP t82 t85 (Value.bool false) fun t86 =>
  condP t86
  (valP Try.prog (binS BinOp.eql 3 (Operand.tmp 88) (Operand.const (Value.int IntKind.i64 0)) b12 (Value.int IntKind.i64 0)) w fun t89 w =>
  pickP t86 t89 (Value.bool false) fun t90 =>
  condP t90
  (callP Try.prog (fnV 19) #[none10, most0] w fun t94 w =>
  builtinP Try.prog Builtin.len #[28] 3 #[false] #[t94] w fun t95 w =>
  valP Try.prog (binS BinOp.eql 3 (Operand.tmp 95) (Operand.const (Value.int IntKind.i64 0)) t95 (Value.int IntKind.i64 0)) w fun t96 w =>
  pickP t90 t96 (Value.bool false) fun t97 =>
  condP t97
  (callP Try.prog (fnV 23) #[none10] w fun t100 w =>
  valP Try.prog (binS BinOp.eql 24 (Operand.tmp 100) (Operand.const (Value.pointer none)) t100 (Value.pointer none)) w fun t101 w =>
  pickP t97 t101 (Value.bool false) fun t102 =>
  condP t102
  (callP Try.prog (fnV 12) #[] w fun t104 w =>
  pickP t102 t104 (Value.bool false) fun t105 =>
  m8_11 R t105 w)
  (pickP t102 undef (Value.bool false) fun t105 =>
  m8_11 R t105 w))
  (pickP t97 undef (Value.bool false) fun t102 =>
  condP t102
  (callP Try.prog (fnV 12) #[] w fun t104 w =>
  pickP t102 t104 (Value.bool false) fun t105 =>
  m8_11 R t105 w)
  (pickP t102 undef (Value.bool false) fun t105 =>
  m8_11 R t105 w)))
  (pickP t90 undef (Value.bool false) fun t97 =>
  condP t97
  (callP Try.prog (fnV 23) #[none10] w fun t100 w =>
  valP Try.prog (binS BinOp.eql 24 (Operand.tmp 100) (Operand.const (Value.pointer none)) t100 (Value.pointer none)) w fun t101 w =>
  pickP t97 t101 (Value.bool false) fun t102 =>
  condP t102
  (callP Try.prog (fnV 12) #[] w fun t104 w =>
  pickP t102 t104 (Value.bool false) fun t105 =>
  m8_11 R t105 w)
  (pickP t102 undef (Value.bool false) fun t105 =>
  m8_11 R t105 w))
  (pickP t97 undef (Value.bool false) fun t102 =>
  condP t102
  (callP Try.prog (fnV 12) #[] w fun t104 w =>
  pickP t102 t104 (Value.bool false) fun t105 =>
  m8_11 R t105 w)
  (pickP t102 undef (Value.bool false) fun t105 =>
  m8_11 R t105 w))))
  (pickP t86 undef (Value.bool false) fun t90 =>
  condP t90
  (callP Try.prog (fnV 19) #[none10, most0] w fun t94 w =>
  builtinP Try.prog Builtin.len #[28] 3 #[false] #[t94] w fun t95 w =>
  valP Try.prog (binS BinOp.eql 3 (Operand.tmp 95) (Operand.const (Value.int IntKind.i64 0)) t95 (Value.int IntKind.i64 0)) w fun t96 w =>
  pickP t90 t96 (Value.bool false) fun t97 =>
  condP t97
  (callP Try.prog (fnV 23) #[none10] w fun t100 w =>
  valP Try.prog (binS BinOp.eql 24 (Operand.tmp 100) (Operand.const (Value.pointer none)) t100 (Value.pointer none)) w fun t101 w =>
  pickP t97 t101 (Value.bool false) fun t102 =>
  condP t102
  (callP Try.prog (fnV 12) #[] w fun t104 w =>
  pickP t102 t104 (Value.bool false) fun t105 =>
  m8_11 R t105 w)
  (pickP t102 undef (Value.bool false) fun t105 =>
  m8_11 R t105 w))
  (pickP t97 undef (Value.bool false) fun t102 =>
  condP t102
  (callP Try.prog (fnV 12) #[] w fun t104 w =>
  pickP t102 t104 (Value.bool false) fun t105 =>
  m8_11 R t105 w)
  (pickP t102 undef (Value.bool false) fun t105 =>
  m8_11 R t105 w)))
  (pickP t90 undef (Value.bool false) fun t97 =>
  condP t97
  (callP Try.prog (fnV 23) #[none10] w fun t100 w =>
  valP Try.prog (binS BinOp.eql 24 (Operand.tmp 100) (Operand.const (Value.pointer none)) t100 (Value.pointer none)) w fun t101 w =>
  pickP t97 t101 (Value.bool false) fun t102 =>
  condP t102
  (callP Try.prog (fnV 12) #[] w fun t104 w =>
  pickP t102 t104 (Value.bool false) fun t105 =>
  m8_11 R t105 w)
  (pickP t102 undef (Value.bool false) fun t105 =>
  m8_11 R t105 w))
  (pickP t97 undef (Value.bool false) fun t102 =>
  condP t102
  (callP Try.prog (fnV 12) #[] w fun t104 w =>
  pickP t102 t104 (Value.bool false) fun t105 =>
  m8_11 R t105 w)
  (pickP t102 undef (Value.bool false) fun t105 =>
  m8_11 R t105 w)))))
  (pickP t82 undef (Value.bool false) fun t86 =>
  condP t86
  (valP Try.prog (binS BinOp.eql 3 (Operand.tmp 88) (Operand.const (Value.int IntKind.i64 0)) b12 (Value.int IntKind.i64 0)) w fun t89 w =>
  pickP t86 t89 (Value.bool false) fun t90 =>
  condP t90
  (callP Try.prog (fnV 19) #[none10, most0] w fun t94 w =>
  builtinP Try.prog Builtin.len #[28] 3 #[false] #[t94] w fun t95 w =>
  valP Try.prog (binS BinOp.eql 3 (Operand.tmp 95) (Operand.const (Value.int IntKind.i64 0)) t95 (Value.int IntKind.i64 0)) w fun t96 w =>
  pickP t90 t96 (Value.bool false) fun t97 =>
  condP t97
  (callP Try.prog (fnV 23) #[none10] w fun t100 w =>
  valP Try.prog (binS BinOp.eql 24 (Operand.tmp 100) (Operand.const (Value.pointer none)) t100 (Value.pointer none)) w fun t101 w =>
  pickP t97 t101 (Value.bool false) fun t102 =>
  condP t102
  (callP Try.prog (fnV 12) #[] w fun t104 w =>
  pickP t102 t104 (Value.bool false) fun t105 =>
  m8_11 R t105 w)
  (pickP t102 undef (Value.bool false) fun t105 =>
  m8_11 R t105 w))
  (pickP t97 undef (Value.bool false) fun t102 =>
  condP t102
  (callP Try.prog (fnV 12) #[] w fun t104 w =>
  pickP t102 t104 (Value.bool false) fun t105 =>
  m8_11 R t105 w)
  (pickP t102 undef (Value.bool false) fun t105 =>
  m8_11 R t105 w)))
  (pickP t90 undef (Value.bool false) fun t97 =>
  condP t97
  (callP Try.prog (fnV 23) #[none10] w fun t100 w =>
  valP Try.prog (binS BinOp.eql 24 (Operand.tmp 100) (Operand.const (Value.pointer none)) t100 (Value.pointer none)) w fun t101 w =>
  pickP t97 t101 (Value.bool false) fun t102 =>
  condP t102
  (callP Try.prog (fnV 12) #[] w fun t104 w =>
  pickP t102 t104 (Value.bool false) fun t105 =>
  m8_11 R t105 w)
  (pickP t102 undef (Value.bool false) fun t105 =>
  m8_11 R t105 w))
  (pickP t97 undef (Value.bool false) fun t102 =>
  condP t102
  (callP Try.prog (fnV 12) #[] w fun t104 w =>
  pickP t102 t104 (Value.bool false) fun t105 =>
  m8_11 R t105 w)
  (pickP t102 undef (Value.bool false) fun t105 =>
  m8_11 R t105 w))))
  (pickP t86 undef (Value.bool false) fun t90 =>
  condP t90
  (callP Try.prog (fnV 19) #[none10, most0] w fun t94 w =>
  builtinP Try.prog Builtin.len #[28] 3 #[false] #[t94] w fun t95 w =>
  valP Try.prog (binS BinOp.eql 3 (Operand.tmp 95) (Operand.const (Value.int IntKind.i64 0)) t95 (Value.int IntKind.i64 0)) w fun t96 w =>
  pickP t90 t96 (Value.bool false) fun t97 =>
  condP t97
  (callP Try.prog (fnV 23) #[none10] w fun t100 w =>
  valP Try.prog (binS BinOp.eql 24 (Operand.tmp 100) (Operand.const (Value.pointer none)) t100 (Value.pointer none)) w fun t101 w =>
  pickP t97 t101 (Value.bool false) fun t102 =>
  condP t102
  (callP Try.prog (fnV 12) #[] w fun t104 w =>
  pickP t102 t104 (Value.bool false) fun t105 =>
  m8_11 R t105 w)
  (pickP t102 undef (Value.bool false) fun t105 =>
  m8_11 R t105 w))
  (pickP t97 undef (Value.bool false) fun t102 =>
  condP t102
  (callP Try.prog (fnV 12) #[] w fun t104 w =>
  pickP t102 t104 (Value.bool false) fun t105 =>
  m8_11 R t105 w)
  (pickP t102 undef (Value.bool false) fun t105 =>
  m8_11 R t105 w)))
  (pickP t90 undef (Value.bool false) fun t97 =>
  condP t97
  (callP Try.prog (fnV 23) #[none10] w fun t100 w =>
  valP Try.prog (binS BinOp.eql 24 (Operand.tmp 100) (Operand.const (Value.pointer none)) t100 (Value.pointer none)) w fun t101 w =>
  pickP t97 t101 (Value.bool false) fun t102 =>
  condP t102
  (callP Try.prog (fnV 12) #[] w fun t104 w =>
  pickP t102 t104 (Value.bool false) fun t105 =>
  m8_11 R t105 w)
  (pickP t102 undef (Value.bool false) fun t105 =>
  m8_11 R t105 w))
  (pickP t97 undef (Value.bool false) fun t102 =>
  condP t102
  (callP Try.prog (fnV 12) #[] w fun t104 w =>
  pickP t102 t104 (Value.bool false) fun t105 =>
  m8_11 R t105 w)
  (pickP t102 undef (Value.bool false) fun t105 =>
  m8_11 R t105 w))))))
  (pickP t77 undef (Value.bool false) fun t82 =>
  condP t82
  (valP Try.prog (binS BinOp.eql 3 (Operand.tmp 84) (Operand.const (Value.int IntKind.i64 0)) a11 (Value.int IntKind.i64 0)) w fun t85 w =>
  pickP t82 t85 (Value.bool false) fun t86 =>
  condP t86
  (valP Try.prog (binS BinOp.eql 3 (Operand.tmp 88) (Operand.const (Value.int IntKind.i64 0)) b12 (Value.int IntKind.i64 0)) w fun t89 w =>
  pickP t86 t89 (Value.bool false) fun t90 =>
  condP t90
  (callP Try.prog (fnV 19) #[none10, most0] w fun t94 w =>
  builtinP Try.prog Builtin.len #[28] 3 #[false] #[t94] w fun t95 w =>
  valP Try.prog (binS BinOp.eql 3 (Operand.tmp 95) (Operand.const (Value.int IntKind.i64 0)) t95 (Value.int IntKind.i64 0)) w fun t96 w =>
  pickP t90 t96 (Value.bool false) fun t97 =>
  condP t97
  (callP Try.prog (fnV 23) #[none10] w fun t100 w =>
  valP Try.prog (binS BinOp.eql 24 (Operand.tmp 100) (Operand.const (Value.pointer none)) t100 (Value.pointer none)) w fun t101 w =>
  pickP t97 t101 (Value.bool false) fun t102 =>
  condP t102
  (callP Try.prog (fnV 12) #[] w fun t104 w =>
  pickP t102 t104 (Value.bool false) fun t105 =>
  m8_11 R t105 w)
  (pickP t102 undef (Value.bool false) fun t105 =>
  m8_11 R t105 w))
  (pickP t97 undef (Value.bool false) fun t102 =>
  condP t102
  (callP Try.prog (fnV 12) #[] w fun t104 w =>
  pickP t102 t104 (Value.bool false) fun t105 =>
  m8_11 R t105 w)
  (pickP t102 undef (Value.bool false) fun t105 =>
  m8_11 R t105 w)))
  (pickP t90 undef (Value.bool false) fun t97 =>
  condP t97
  (callP Try.prog (fnV 23) #[none10] w fun t100 w =>
  valP Try.prog (binS BinOp.eql 24 (Operand.tmp 100) (Operand.const (Value.pointer none)) t100 (Value.pointer none)) w fun t101 w =>
  pickP t97 t101 (Value.bool false) fun t102 =>
  condP t102
  (callP Try.prog (fnV 12) #[] w fun t104 w =>
  pickP t102 t104 (Value.bool false) fun t105 =>
  m8_11 R t105 w)
  (pickP t102 undef (Value.bool false) fun t105 =>
  m8_11 R t105 w))
  (pickP t97 undef (Value.bool false) fun t102 =>
  condP t102
  (callP Try.prog (fnV 12) #[] w fun t104 w =>
  pickP t102 t104 (Value.bool false) fun t105 =>
  m8_11 R t105 w)
  (pickP t102 undef (Value.bool false) fun t105 =>
  m8_11 R t105 w))))
  (pickP t86 undef (Value.bool false) fun t90 =>
  condP t90
  (callP Try.prog (fnV 19) #[none10, most0] w fun t94 w =>
  builtinP Try.prog Builtin.len #[28] 3 #[false] #[t94] w fun t95 w =>
  valP Try.prog (binS BinOp.eql 3 (Operand.tmp 95) (Operand.const (Value.int IntKind.i64 0)) t95 (Value.int IntKind.i64 0)) w fun t96 w =>
  pickP t90 t96 (Value.bool false) fun t97 =>
  condP t97
  (callP Try.prog (fnV 23) #[none10] w fun t100 w =>
  valP Try.prog (binS BinOp.eql 24 (Operand.tmp 100) (Operand.const (Value.pointer none)) t100 (Value.pointer none)) w fun t101 w =>
  pickP t97 t101 (Value.bool false) fun t102 =>
  condP t102
  (callP Try.prog (fnV 12) #[] w fun t104 w =>
  pickP t102 t104 (Value.bool false) fun t105 =>
  m8_11 R t105 w)
  (pickP t102 undef (Value.bool false) fun t105 =>
  m8_11 R t105 w))
  (pickP t97 undef (Value.bool false) fun t102 =>
  condP t102
  (callP Try.prog (fnV 12) #[] w fun t104 w =>
  pickP t102 t104 (Value.bool false) fun t105 =>
  m8_11 R t105 w)
  (pickP t102 undef (Value.bool false) fun t105 =>
  m8_11 R t105 w)))
  (pickP t90 undef (Value.bool false) fun t97 =>
  condP t97
  (callP Try.prog (fnV 23) #[none10] w fun t100 w =>
  valP Try.prog (binS BinOp.eql 24 (Operand.tmp 100) (Operand.const (Value.pointer none)) t100 (Value.pointer none)) w fun t101 w =>
  pickP t97 t101 (Value.bool false) fun t102 =>
  condP t102
  (callP Try.prog (fnV 12) #[] w fun t104 w =>
  pickP t102 t104 (Value.bool false) fun t105 =>
  m8_11 R t105 w)
  (pickP t102 undef (Value.bool false) fun t105 =>
  m8_11 R t105 w))
  (pickP t97 undef (Value.bool false) fun t102 =>
  condP t102
  (callP Try.prog (fnV 12) #[] w fun t104 w =>
  pickP t102 t104 (Value.bool false) fun t105 =>
  m8_11 R t105 w)
  (pickP t102 undef (Value.bool false) fun t105 =>
  m8_11 R t105 w)))))
  (pickP t82 undef (Value.bool false) fun t86 =>
  condP t86
  (valP Try.prog (binS BinOp.eql 3 (Operand.tmp 88) (Operand.const (Value.int IntKind.i64 0)) b12 (Value.int IntKind.i64 0)) w fun t89 w =>
  pickP t86 t89 (Value.bool false) fun t90 =>
  condP t90
  (callP Try.prog (fnV 19) #[none10, most0] w fun t94 w =>
  builtinP Try.prog Builtin.len #[28] 3 #[false] #[t94] w fun t95 w =>
  valP Try.prog (binS BinOp.eql 3 (Operand.tmp 95) (Operand.const (Value.int IntKind.i64 0)) t95 (Value.int IntKind.i64 0)) w fun t96 w =>
  pickP t90 t96 (Value.bool false) fun t97 =>
  condP t97
  (callP Try.prog (fnV 23) #[none10] w fun t100 w =>
  valP Try.prog (binS BinOp.eql 24 (Operand.tmp 100) (Operand.const (Value.pointer none)) t100 (Value.pointer none)) w fun t101 w =>
  pickP t97 t101 (Value.bool false) fun t102 =>
  condP t102
  (callP Try.prog (fnV 12) #[] w fun t104 w =>
  pickP t102 t104 (Value.bool false) fun t105 =>
  m8_11 R t105 w)
  (pickP t102 undef (Value.bool false) fun t105 =>
  m8_11 R t105 w))
  (pickP t97 undef (Value.bool false) fun t102 =>
  condP t102
  (callP Try.prog (fnV 12) #[] w fun t104 w =>
  pickP t102 t104 (Value.bool false) fun t105 =>
  m8_11 R t105 w)
  (pickP t102 undef (Value.bool false) fun t105 =>
  m8_11 R t105 w)))
  (pickP t90 undef (Value.bool false) fun t97 =>
  condP t97
  (callP Try.prog (fnV 23) #[none10] w fun t100 w =>
  valP Try.prog (binS BinOp.eql 24 (Operand.tmp 100) (Operand.const (Value.pointer none)) t100 (Value.pointer none)) w fun t101 w =>
  pickP t97 t101 (Value.bool false) fun t102 =>
  condP t102
  (callP Try.prog (fnV 12) #[] w fun t104 w =>
  pickP t102 t104 (Value.bool false) fun t105 =>
  m8_11 R t105 w)
  (pickP t102 undef (Value.bool false) fun t105 =>
  m8_11 R t105 w))
  (pickP t97 undef (Value.bool false) fun t102 =>
  condP t102
  (callP Try.prog (fnV 12) #[] w fun t104 w =>
  pickP t102 t104 (Value.bool false) fun t105 =>
  m8_11 R t105 w)
  (pickP t102 undef (Value.bool false) fun t105 =>
  m8_11 R t105 w))))
  (pickP t86 undef (Value.bool false) fun t90 =>
  condP t90
  (callP Try.prog (fnV 19) #[none10, most0] w fun t94 w =>
  builtinP Try.prog Builtin.len #[28] 3 #[false] #[t94] w fun t95 w =>
  valP Try.prog (binS BinOp.eql 3 (Operand.tmp 95) (Operand.const (Value.int IntKind.i64 0)) t95 (Value.int IntKind.i64 0)) w fun t96 w =>
  pickP t90 t96 (Value.bool false) fun t97 =>
  condP t97
  (callP Try.prog (fnV 23) #[none10] w fun t100 w =>
  valP Try.prog (binS BinOp.eql 24 (Operand.tmp 100) (Operand.const (Value.pointer none)) t100 (Value.pointer none)) w fun t101 w =>
  pickP t97 t101 (Value.bool false) fun t102 =>
  condP t102
  (callP Try.prog (fnV 12) #[] w fun t104 w =>
  pickP t102 t104 (Value.bool false) fun t105 =>
  m8_11 R t105 w)
  (pickP t102 undef (Value.bool false) fun t105 =>
  m8_11 R t105 w))
  (pickP t97 undef (Value.bool false) fun t102 =>
  condP t102
  (callP Try.prog (fnV 12) #[] w fun t104 w =>
  pickP t102 t104 (Value.bool false) fun t105 =>
  m8_11 R t105 w)
  (pickP t102 undef (Value.bool false) fun t105 =>
  m8_11 R t105 w)))
  (pickP t90 undef (Value.bool false) fun t97 =>
  condP t97
  (callP Try.prog (fnV 23) #[none10] w fun t100 w =>
  valP Try.prog (binS BinOp.eql 24 (Operand.tmp 100) (Operand.const (Value.pointer none)) t100 (Value.pointer none)) w fun t101 w =>
  pickP t97 t101 (Value.bool false) fun t102 =>
  condP t102
  (callP Try.prog (fnV 12) #[] w fun t104 w =>
  pickP t102 t104 (Value.bool false) fun t105 =>
  m8_11 R t105 w)
  (pickP t102 undef (Value.bool false) fun t105 =>
  m8_11 R t105 w))
  (pickP t97 undef (Value.bool false) fun t102 =>
  condP t102
  (callP Try.prog (fnV 12) #[] w fun t104 w =>
  pickP t102 t104 (Value.bool false) fun t105 =>
  m8_11 R t105 w)
  (pickP t102 undef (Value.bool false) fun t105 =>
  m8_11 R t105 w))))))))
  (pickP t61 undef (Value.bool false) fun t71 =>
  condP t71
  (callP Try.prog (fnV 13) #[none10, l1] w fun t75 w =>
  valP Try.prog (binS BinOp.eql 25 (Operand.tmp 75) (Operand.const (Value.int IntKind.i64 1)) t75 (Value.int IntKind.i64 1)) w fun t76 w =>
  pickP t71 t76 (Value.bool false) fun t77 =>
  condP t77
  (callP Try.prog (fnV 17) #[none10] w fun t80 w =>
  valP Try.prog (binS BinOp.eql 3 (Operand.tmp 80) (Operand.const (Value.int IntKind.i64 0)) t80 (Value.int IntKind.i64 0)) w fun t81 w =>
  pickP t77 t81 (Value.bool false) fun t82 =>
  condP t82
  (valP Try.prog (binS BinOp.eql 3 (Operand.tmp 84) (Operand.const (Value.int IntKind.i64 0)) a11 (Value.int IntKind.i64 0)) w fun t85 w =>
  pickP t82 t85 (Value.bool false) fun t86 =>
  condP t86
  (valP Try.prog (binS BinOp.eql 3 (Operand.tmp 88) (Operand.const (Value.int IntKind.i64 0)) b12 (Value.int IntKind.i64 0)) w fun t89 w =>
  pickP t86 t89 (Value.bool false) fun t90 =>
  condP t90
  (callP Try.prog (fnV 19) #[none10, most0] w fun t94 w =>
  builtinP Try.prog Builtin.len #[28] 3 #[false] #[t94] w fun t95 w =>
  valP Try.prog (binS BinOp.eql 3 (Operand.tmp 95) (Operand.const (Value.int IntKind.i64 0)) t95 (Value.int IntKind.i64 0)) w fun t96 w =>
  pickP t90 t96 (Value.bool false) fun t97 =>
  condP t97
  (callP Try.prog (fnV 23) #[none10] w fun t100 w =>
  valP Try.prog (binS BinOp.eql 24 (Operand.tmp 100) (Operand.const (Value.pointer none)) t100 (Value.pointer none)) w fun t101 w =>
  pickP t97 t101 (Value.bool false) fun t102 =>
  condP t102
  (callP Try.prog (fnV 12) #[] w fun t104 w =>
  pickP t102 t104 (Value.bool false) fun t105 =>
  m8_11 R t105 w)
  (pickP t102 undef (Value.bool false) fun t105 =>
  m8_11 R t105 w))
  (pickP t97 undef (Value.bool false) fun t102 =>
  condP t102
  (callP Try.prog (fnV 12) #[] w fun t104 w =>
  pickP t102 t104 (Value.bool false) fun t105 =>
  m8_11 R t105 w)
  (pickP t102 undef (Value.bool false) fun t105 =>
  m8_11 R t105 w)))
  (pickP t90 undef (Value.bool false) fun t97 =>
  condP t97
  (callP Try.prog (fnV 23) #[none10] w fun t100 w =>
  valP Try.prog (binS BinOp.eql 24 (Operand.tmp 100) (Operand.const (Value.pointer none)) t100 (Value.pointer none)) w fun t101 w =>
  pickP t97 t101 (Value.bool false) fun t102 =>
  condP t102
  (callP Try.prog (fnV 12) #[] w fun t104 w =>
  pickP t102 t104 (Value.bool false) fun t105 =>
  m8_11 R t105 w)
  (pickP t102 undef (Value.bool false) fun t105 =>
  m8_11 R t105 w))
  (pickP t97 undef (Value.bool false) fun t102 =>
  condP t102
  (callP Try.prog (fnV 12) #[] w fun t104 w =>
  pickP t102 t104 (Value.bool false) fun t105 =>
  m8_11 R t105 w)
  (pickP t102 undef (Value.bool false) fun t105 =>
  m8_11 R t105 w))))
  (pickP t86 undef (Value.bool false) fun t90 =>
  condP t90
  (callP Try.prog (fnV 19) #[none10, most0] w fun t94 w =>
  builtinP Try.prog Builtin.len #[28] 3 #[false] #[t94] w fun t95 w =>
  valP Try.prog (binS BinOp.eql 3 (Operand.tmp 95) (Operand.const (Value.int IntKind.i64 0)) t95 (Value.int IntKind.i64 0)) w fun t96 w =>
  pickP t90 t96 (Value.bool false) fun t97 =>
  condP t97
  (callP Try.prog (fnV 23) #[none10] w fun t100 w =>
  valP Try.prog (binS BinOp.eql 24 (Operand.tmp 100) (Operand.const (Value.pointer none)) t100 (Value.pointer none)) w fun t101 w =>
  pickP t97 t101 (Value.bool false) fun t102 =>
  condP t102
  (callP Try.prog (fnV 12) #[] w fun t104 w =>
  pickP t102 t104 (Value.bool false) fun t105 =>
  m8_11 R t105 w)
  (pickP t102 undef (Value.bool false) fun t105 =>
  m8_11 R t105 w))
  (pickP t97 undef (Value.bool false) fun t102 =>
  condP t102
  (callP Try.prog (fnV 12) #[] w fun t104 w =>
  pickP t102 t104 (Value.bool false) fun t105 =>
  m8_11 R t105 w)
  (pickP t102 undef (Value.bool false) fun t105 =>
  m8_11 R t105 w)))
  (pickP t90 undef (Value.bool false) fun t97 =>
  condP t97
  (callP Try.prog (fnV 23) #[none10] w fun t100 w =>
  valP Try.prog (binS BinOp.eql 24 (Operand.tmp 100) (Operand.const (Value.pointer none)) t100 (Value.pointer none)) w fun t101 w =>
  pickP t97 t101 (Value.bool false) fun t102 =>
  condP t102
  (callP Try.prog (fnV 12) #[] w fun t104 w =>
  pickP t102 t104 (Value.bool false) fun t105 =>
  m8_11 R t105 w)
  (pickP t102 undef (Value.bool false) fun t105 =>
  m8_11 R t105 w))
  (pickP t97 undef (Value.bool false) fun t102 =>
  condP t102
  (callP Try.prog (fnV 12) #[] w fun t104 w =>
  pickP t102 t104 (Value.bool false) fun t105 =>
  m8_11 R t105 w)
  (pickP t102 undef (Value.bool false) fun t105 =>
  m8_11 R t105 w)))))
  (pickP t82 undef (Value.bool false) fun t86 =>
  condP t86
  (valP Try.prog (binS BinOp.eql 3 (Operand.tmp 88) (Operand.const (Value.int IntKind.i64 0)) b12 (Value.int IntKind.i64 0)) w fun t89 w =>
  pickP t86 t89 (Value.bool false) fun t90 =>
  condP t90
  (callP Try.prog (fnV 19) #[none10, most0] w fun t94 w =>
  builtinP Try.prog Builtin.len #[28] 3 #[false] #[t94] w fun t95 w =>
  valP Try.prog (binS BinOp.eql 3 (Operand.tmp 95) (Operand.const (Value.int IntKind.i64 0)) t95 (Value.int IntKind.i64 0)) w fun t96 w =>
  pickP t90 t96 (Value.bool false) fun t97 =>
  condP t97
  (callP Try.prog (fnV 23) #[none10] w fun t100 w =>
  valP Try.prog (binS BinOp.eql 24 (Operand.tmp 100) (Operand.const (Value.pointer none)) t100 (Value.pointer none)) w fun t101 w =>
  pickP t97 t101 (Value.bool false) fun t102 =>
  condP t102
  (callP Try.prog (fnV 12) #[] w fun t104 w =>
  pickP t102 t104 (Value.bool false) fun t105 =>
  m8_11 R t105 w)
  (pickP t102 undef (Value.bool false) fun t105 =>
  m8_11 R t105 w))
  (pickP t97 undef (Value.bool false) fun t102 =>
  condP t102
  (callP Try.prog (fnV 12) #[] w fun t104 w =>
  pickP t102 t104 (Value.bool false) fun t105 =>
  m8_11 R t105 w)
  (pickP t102 undef (Value.bool false) fun t105 =>
  m8_11 R t105 w)))
  (pickP t90 undef (Value.bool false) fun t97 =>
  condP t97
  (callP Try.prog (fnV 23) #[none10] w fun t100 w =>
  valP Try.prog (binS BinOp.eql 24 (Operand.tmp 100) (Operand.const (Value.pointer none)) t100 (Value.pointer none)) w fun t101 w =>
  pickP t97 t101 (Value.bool false) fun t102 =>
  condP t102
  (callP Try.prog (fnV 12) #[] w fun t104 w =>
  pickP t102 t104 (Value.bool false) fun t105 =>
  m8_11 R t105 w)
  (pickP t102 undef (Value.bool false) fun t105 =>
  m8_11 R t105 w))
  (pickP t97 undef (Value.bool false) fun t102 =>
  condP t102
  (callP Try.prog (fnV 12) #[] w fun t104 w =>
  pickP t102 t104 (Value.bool false) fun t105 =>
  m8_11 R t105 w)
  (pickP t102 undef (Value.bool false) fun t105 =>
  m8_11 R t105 w))))
  (pickP t86 undef (Value.bool false) fun t90 =>
  condP t90
  (callP Try.prog (fnV 19) #[none10, most0] w fun t94 w =>
  builtinP Try.prog Builtin.len #[28] 3 #[false] #[t94] w fun t95 w =>
  valP Try.prog (binS BinOp.eql 3 (Operand.tmp 95) (Operand.const (Value.int IntKind.i64 0)) t95 (Value.int IntKind.i64 0)) w fun t96 w =>
  pickP t90 t96 (Value.bool false) fun t97 =>
  condP t97
  (callP Try.prog (fnV 23) #[none10] w fun t100 w =>
  valP Try.prog (binS BinOp.eql 24 (Operand.tmp 100) (Operand.const (Value.pointer none)) t100 (Value.pointer none)) w fun t101 w =>
  pickP t97 t101 (Value.bool false) fun t102 =>
  condP t102
  (callP Try.prog (fnV 12) #[] w fun t104 w =>
  pickP t102 t104 (Value.bool false) fun t105 =>
  m8_11 R t105 w)
  (pickP t102 undef (Value.bool false) fun t105 =>
  m8_11 R t105 w))
  (pickP t97 undef (Value.bool false) fun t102 =>
  condP t102
  (callP Try.prog (fnV 12) #[] w fun t104 w =>
  pickP t102 t104 (Value.bool false) fun t105 =>
  m8_11 R t105 w)
  (pickP t102 undef (Value.bool false) fun t105 =>
  m8_11 R t105 w)))
  (pickP t90 undef (Value.bool false) fun t97 =>
  condP t97
  (callP Try.prog (fnV 23) #[none10] w fun t100 w =>
  valP Try.prog (binS BinOp.eql 24 (Operand.tmp 100) (Operand.const (Value.pointer none)) t100 (Value.pointer none)) w fun t101 w =>
  pickP t97 t101 (Value.bool false) fun t102 =>
  condP t102
  (callP Try.prog (fnV 12) #[] w fun t104 w =>
  pickP t102 t104 (Value.bool false) fun t105 =>
  m8_11 R t105 w)
  (pickP t102 undef (Value.bool false) fun t105 =>
  m8_11 R t105 w))
  (pickP t97 undef (Value.bool false) fun t102 =>
  condP t102
  (callP Try.prog (fnV 12) #[] w fun t104 w =>
  pickP t102 t104 (Value.bool false) fun t105 =>
  m8_11 R t105 w)
  (pickP t102 undef (Value.bool false) fun t105 =>
  m8_11 R t105 w))))))
  (pickP t77 undef (Value.bool false) fun t82 =>
  condP t82
  (valP Try.prog (binS BinOp.eql 3 (Operand.tmp 84) (Operand.const (Value.int IntKind.i64 0)) a11 (Value.int IntKind.i64 0)) w fun t85 w =>
  pickP t82 t85 (Value.bool false) fun t86 =>
  condP t86
  (valP Try.prog (binS BinOp.eql 3 (Operand.tmp 88) (Operand.const (Value.int IntKind.i64 0)) b12 (Value.int IntKind.i64 0)) w fun t89 w =>
  pickP t86 t89 (Value.bool false) fun t90 =>
  condP t90
  (callP Try.prog (fnV 19) #[none10, most0] w fun t94 w =>
  builtinP Try.prog Builtin.len #[28] 3 #[false] #[t94] w fun t95 w =>
  valP Try.prog (binS BinOp.eql 3 (Operand.tmp 95) (Operand.const (Value.int IntKind.i64 0)) t95 (Value.int IntKind.i64 0)) w fun t96 w =>
  pickP t90 t96 (Value.bool false) fun t97 =>
  condP t97
  (callP Try.prog (fnV 23) #[none10] w fun t100 w =>
  valP Try.prog (binS BinOp.eql 24 (Operand.tmp 100) (Operand.const (Value.pointer none)) t100 (Value.pointer none)) w fun t101 w =>
  pickP t97 t101 (Value.bool false) fun t102 =>
  condP t102
  (callP Try.prog (fnV 12) #[] w fun t104 w =>
  pickP t102 t104 (Value.bool false) fun t105 =>
  m8_11 R t105 w)
  (pickP t102 undef (Value.bool false) fun t105 =>
  m8_11 R t105 w))
  (pickP t97 undef (Value.bool false) fun t102 =>
  condP t102
  (callP Try.prog (fnV 12) #[] w fun t104 w =>
  pickP t102 t104 (Value.bool false) fun t105 =>
  m8_11 R t105 w)
  (pickP t102 undef (Value.bool false) fun t105 =>
  m8_11 R t105 w)))
  (pickP t90 undef (Value.bool false) fun t97 =>
  condP t97
  (callP Try.prog (fnV 23) #[none10] w fun t100 w =>
  valP Try.prog (binS BinOp.eql 24 (Operand.tmp 100) (Operand.const (Value.pointer none)) t100 (Value.pointer none)) w fun t101 w =>
  pickP t97 t101 (Value.bool false) fun t102 =>
  condP t102
  (callP Try.prog (fnV 12) #[] w fun t104 w =>
  pickP t102 t104 (Value.bool false) fun t105 =>
  m8_11 R t105 w)
  (pickP t102 undef (Value.bool false) fun t105 =>
  m8_11 R t105 w))
  (pickP t97 undef (Value.bool false) fun t102 =>
  condP t102
  (callP Try.prog (fnV 12) #[] w fun t104 w =>
  pickP t102 t104 (Value.bool false) fun t105 =>
  m8_11 R t105 w)
  (pickP t102 undef (Value.bool false) fun t105 =>
  m8_11 R t105 w))))
  (pickP t86 undef (Value.bool false) fun t90 =>
  condP t90
  (callP Try.prog (fnV 19) #[none10, most0] w fun t94 w =>
  builtinP Try.prog Builtin.len #[28] 3 #[false] #[t94] w fun t95 w =>
  valP Try.prog (binS BinOp.eql 3 (Operand.tmp 95) (Operand.const (Value.int IntKind.i64 0)) t95 (Value.int IntKind.i64 0)) w fun t96 w =>
  pickP t90 t96 (Value.bool false) fun t97 =>
  condP t97
  (callP Try.prog (fnV 23) #[none10] w fun t100 w =>
  valP Try.prog (binS BinOp.eql 24 (Operand.tmp 100) (Operand.const (Value.pointer none)) t100 (Value.pointer none)) w fun t101 w =>
  pickP t97 t101 (Value.bool false) fun t102 =>
  condP t102
  (callP Try.prog (fnV 12) #[] w fun t104 w =>
  pickP t102 t104 (Value.bool false) fun t105 =>
  m8_11 R t105 w)
  (pickP t102 undef (Value.bool false) fun t105 =>
  m8_11 R t105 w))
  (pickP t97 undef (Value.bool false) fun t102 =>
  condP t102
  (callP Try.prog (fnV 12) #[] w fun t104 w =>
  pickP t102 t104 (Value.bool false) fun t105 =>
  m8_11 R t105 w)
  (pickP t102 undef (Value.bool false) fun t105 =>
  m8_11 R t105 w)))
  (pickP t90 undef (Value.bool false) fun t97 =>
  condP t97
  (callP Try.prog (fnV 23) #[none10] w fun t100 w =>
  valP Try.prog (binS BinOp.eql 24 (Operand.tmp 100) (Operand.const (Value.pointer none)) t100 (Value.pointer none)) w fun t101 w =>
  pickP t97 t101 (Value.bool false) fun t102 =>
  condP t102
  (callP Try.prog (fnV 12) #[] w fun t104 w =>
  pickP t102 t104 (Value.bool false) fun t105 =>
  m8_11 R t105 w)
  (pickP t102 undef (Value.bool false) fun t105 =>
  m8_11 R t105 w))
  (pickP t97 undef (Value.bool false) fun t102 =>
  condP t102
  (callP Try.prog (fnV 12) #[] w fun t104 w =>
  pickP t102 t104 (Value.bool false) fun t105 =>
  m8_11 R t105 w)
  (pickP t102 undef (Value.bool false) fun t105 =>
  m8_11 R t105 w)))))
  (pickP t82 undef (Value.bool false) fun t86 =>
  condP t86
  (valP Try.prog (binS BinOp.eql 3 (Operand.tmp 88) (Operand.const (Value.int IntKind.i64 0)) b12 (Value.int IntKind.i64 0)) w fun t89 w =>
  pickP t86 t89 (Value.bool false) fun t90 =>
  condP t90
  (callP Try.prog (fnV 19) #[none10, most0] w fun t94 w =>
  builtinP Try.prog Builtin.len #[28] 3 #[false] #[t94] w fun t95 w =>
  valP Try.prog (binS BinOp.eql 3 (Operand.tmp 95) (Operand.const (Value.int IntKind.i64 0)) t95 (Value.int IntKind.i64 0)) w fun t96 w =>
  pickP t90 t96 (Value.bool false) fun t97 =>
  condP t97
  (callP Try.prog (fnV 23) #[none10] w fun t100 w =>
  valP Try.prog (binS BinOp.eql 24 (Operand.tmp 100) (Operand.const (Value.pointer none)) t100 (Value.pointer none)) w fun t101 w =>
  pickP t97 t101 (Value.bool false) fun t102 =>
  condP t102
  (callP Try.prog (fnV 12) #[] w fun t104 w =>
  pickP t102 t104 (Value.bool false) fun t105 =>
  m8_11 R t105 w)
  (pickP t102 undef (Value.bool false) fun t105 =>
  m8_11 R t105 w))
  (pickP t97 undef (Value.bool false) fun t102 =>
  condP t102
  (callP Try.prog (fnV 12) #[] w fun t104 w =>
  pickP t102 t104 (Value.bool false) fun t105 =>
  m8_11 R t105 w)
  (pickP t102 undef (Value.bool false) fun t105 =>
  m8_11 R t105 w)))
  (pickP t90 undef (Value.bool false) fun t97 =>
  condP t97
  (callP Try.prog (fnV 23) #[none10] w fun t100 w =>
  valP Try.prog (binS BinOp.eql 24 (Operand.tmp 100) (Operand.const (Value.pointer none)) t100 (Value.pointer none)) w fun t101 w =>
  pickP t97 t101 (Value.bool false) fun t102 =>
  condP t102
  (callP Try.prog (fnV 12) #[] w fun t104 w =>
  pickP t102 t104 (Value.bool false) fun t105 =>
  m8_11 R t105 w)
  (pickP t102 undef (Value.bool false) fun t105 =>
  m8_11 R t105 w))
  (pickP t97 undef (Value.bool false) fun t102 =>
  condP t102
  (callP Try.prog (fnV 12) #[] w fun t104 w =>
  pickP t102 t104 (Value.bool false) fun t105 =>
  m8_11 R t105 w)
  (pickP t102 undef (Value.bool false) fun t105 =>
  m8_11 R t105 w))))
  (pickP t86 undef (Value.bool false) fun t90 =>
  condP t90
  (callP Try.prog (fnV 19) #[none10, most0] w fun t94 w =>
  builtinP Try.prog Builtin.len #[28] 3 #[false] #[t94] w fun t95 w =>
  valP Try.prog (binS BinOp.eql 3 (Operand.tmp 95) (Operand.const (Value.int IntKind.i64 0)) t95 (Value.int IntKind.i64 0)) w fun t96 w =>
  pickP t90 t96 (Value.bool false) fun t97 =>
  condP t97
  (callP Try.prog (fnV 23) #[none10] w fun t100 w =>
  valP Try.prog (binS BinOp.eql 24 (Operand.tmp 100) (Operand.const (Value.pointer none)) t100 (Value.pointer none)) w fun t101 w =>
  pickP t97 t101 (Value.bool false) fun t102 =>
  condP t102
  (callP Try.prog (fnV 12) #[] w fun t104 w =>
  pickP t102 t104 (Value.bool false) fun t105 =>
  m8_11 R t105 w)
  (pickP t102 undef (Value.bool false) fun t105 =>
  m8_11 R t105 w))
  (pickP t97 undef (Value.bool false) fun t102 =>
  condP t102
  (callP Try.prog (fnV 12) #[] w fun t104 w =>
  pickP t102 t104 (Value.bool false) fun t105 =>
  m8_11 R t105 w)
  (pickP t102 undef (Value.bool false) fun t105 =>
  m8_11 R t105 w)))
  (pickP t90 undef (Value.bool false) fun t97 =>
  condP t97
  (callP Try.prog (fnV 23) #[none10] w fun t100 w =>
  valP Try.prog (binS BinOp.eql 24 (Operand.tmp 100) (Operand.const (Value.pointer none)) t100 (Value.pointer none)) w fun t101 w =>
  pickP t97 t101 (Value.bool false) fun t102 =>
  condP t102
  (callP Try.prog (fnV 12) #[] w fun t104 w =>
  pickP t102 t104 (Value.bool false) fun t105 =>
  m8_11 R t105 w)
  (pickP t102 undef (Value.bool false) fun t105 =>
  m8_11 R t105 w))
  (pickP t97 undef (Value.bool false) fun t102 =>
  condP t102
  (callP Try.prog (fnV 12) #[] w fun t104 w =>
  pickP t102 t104 (Value.bool false) fun t105 =>
  m8_11 R t105 w)
  (pickP t102 undef (Value.bool false) fun t105 =>
  m8_11 R t105 w)))))))
  (pickP t71 undef (Value.bool false) fun t77 =>
  condP t77
  (callP Try.prog (fnV 17) #[none10] w fun t80 w =>
  valP Try.prog (binS BinOp.eql 3 (Operand.tmp 80) (Operand.const (Value.int IntKind.i64 0)) t80 (Value.int IntKind.i64 0)) w fun t81 w =>
  pickP t77 t81 (Value.bool false) fun t82 =>
  condP t82
  (valP Try.prog (binS BinOp.eql 3 (Operand.tmp 84) (Operand.const (Value.int IntKind.i64 0)) a11 (Value.int IntKind.i64 0)) w fun t85 w =>
  pickP t82 t85 (Value.bool false) fun t86 =>
  condP t86
  (valP Try.prog (binS BinOp.eql 3 (Operand.tmp 88) (Operand.const (Value.int IntKind.i64 0)) b12 (Value.int IntKind.i64 0)) w fun t89 w =>
  pickP t86 t89 (Value.bool false) fun t90 =>
  condP t90
  (callP Try.prog (fnV 19) #[none10, most0] w fun t94 w =>
  builtinP Try.prog Builtin.len #[28] 3 #[false] #[t94] w fun t95 w =>
  valP Try.prog (binS BinOp.eql 3 (Operand.tmp 95) (Operand.const (Value.int IntKind.i64 0)) t95 (Value.int IntKind.i64 0)) w fun t96 w =>
  pickP t90 t96 (Value.bool false) fun t97 =>
  condP t97
  (callP Try.prog (fnV 23) #[none10] w fun t100 w =>
  valP Try.prog (binS BinOp.eql 24 (Operand.tmp 100) (Operand.const (Value.pointer none)) t100 (Value.pointer none)) w fun t101 w =>
  pickP t97 t101 (Value.bool false) fun t102 =>
  condP t102
  (callP Try.prog (fnV 12) #[] w fun t104 w =>
  pickP t102 t104 (Value.bool false) fun t105 =>
  m8_11 R t105 w)
  (pickP t102 undef (Value.bool false) fun t105 =>
  m8_11 R t105 w))
  (pickP t97 undef (Value.bool false) fun t102 =>
  condP t102
  (callP Try.prog (fnV 12) #[] w fun t104 w =>
  pickP t102 t104 (Value.bool false) fun t105 =>
  m8_11 R t105 w)
  (pickP t102 undef (Value.bool false) fun t105 =>
  m8_11 R t105 w)))
  (pickP t90 undef (Value.bool false) fun t97 =>
  condP t97
  (callP Try.prog (fnV 23) #[none10] w fun t100 w =>
  valP Try.prog (binS BinOp.eql 24 (Operand.tmp 100) (Operand.const (Value.pointer none)) t100 (Value.pointer none)) w fun t101 w =>
  pickP t97 t101 (Value.bool false) fun t102 =>
  condP t102
  (callP Try.prog (fnV 12) #[] w fun t104 w =>
  pickP t102 t104 (Value.bool false) fun t105 =>
  m8_11 R t105 w)
  (pickP t102 undef (Value.bool false) fun t105 =>
  m8_11 R t105 w))
  (pickP t97 undef (Value.bool false) fun t102 =>
  condP t102
  (callP Try.prog (fnV 12) #[] w fun t104 w =>
  pickP t102 t104 (Value.bool false) fun t105 =>
  m8_11 R t105 w)
  (pickP t102 undef (Value.bool false) fun t105 =>
  m8_11 R t105 w))))
  (pickP t86 undef (Value.bool false) fun t90 =>
  condP t90
  (callP Try.prog (fnV 19) #[none10, most0] w fun t94 w =>
  builtinP Try.prog Builtin.len #[28] 3 #[false] #[t94] w fun t95 w =>
  valP Try.prog (binS BinOp.eql 3 (Operand.tmp 95) (Operand.const (Value.int IntKind.i64 0)) t95 (Value.int IntKind.i64 0)) w fun t96 w =>
  pickP t90 t96 (Value.bool false) fun t97 =>
  condP t97
  (callP Try.prog (fnV 23) #[none10] w fun t100 w =>
  valP Try.prog (binS BinOp.eql 24 (Operand.tmp 100) (Operand.const (Value.pointer none)) t100 (Value.pointer none)) w fun t101 w =>
  pickP t97 t101 (Value.bool false) fun t102 =>
  condP t102
  (callP Try.prog (fnV 12) #[] w fun t104 w =>
  pickP t102 t104 (Value.bool false) fun t105 =>
  m8_11 R t105 w)
  (pickP t102 undef (Value.bool false) fun t105 =>
  m8_11 R t105 w))
  (pickP t97 undef (Value.bool false) fun t102 =>
  condP t102
  (callP Try.prog (fnV 12) #[] w fun t104 w =>
  pickP t102 t104 (Value.bool false) fun t105 =>
  m8_11 R t105 w)
  (pickP t102 undef (Value.bool false) fun t105 =>
  m8_11 R t105 w)))
  (pickP t90 undef (Value.bool false) fun t97 =>
  condP t97
  (callP Try.prog (fnV 23) #[none10] w fun t100 w =>
  valP Try.prog (binS BinOp.eql 24 (Operand.tmp 100) (Operand.const (Value.pointer none)) t100 (Value.pointer none)) w fun t101 w =>
  pickP t97 t101 (Value.bool false) fun t102 =>
  condP t102
  (callP Try.prog (fnV 12) #[] w fun t104 w =>
  pickP t102 t104 (Value.bool false) fun t105 =>
  m8_11 R t105 w)
  (pickP t102 undef (Value.bool false) fun t105 =>
  m8_11 R t105 w))
  (pickP t97 undef (Value.bool false) fun t102 =>
  condP t102
  (callP Try.prog (fnV 12) #[] w fun t104 w =>
  pickP t102 t104 (Value.bool false) fun t105 =>
  m8_11 R t105 w)
  (pickP t102 undef (Value.bool false) fun t105 =>
  m8_11 R t105 w)))))
  (pickP t82 undef (Value.bool false) fun t86 =>
  condP t86
  (valP Try.prog (binS BinOp.eql 3 (Operand.tmp 88) (Operand.const (Value.int IntKind.i64 0)) b12 (Value.int IntKind.i64 0)) w fun t89 w =>
  pickP t86 t89 (Value.bool false) fun t90 =>
  condP t90
  (callP Try.prog (fnV 19) #[none10, most0] w fun t94 w =>
  builtinP Try.prog Builtin.len #[28] 3 #[false] #[t94] w fun t95 w =>
  valP Try.prog (binS BinOp.eql 3 (Operand.tmp 95) (Operand.const (Value.int IntKind.i64 0)) t95 (Value.int IntKind.i64 0)) w fun t96 w =>
  pickP t90 t96 (Value.bool false) fun t97 =>
  condP t97
  (callP Try.prog (fnV 23) #[none10] w fun t100 w =>
  valP Try.prog (binS BinOp.eql 24 (Operand.tmp 100) (Operand.const (Value.pointer none)) t100 (Value.pointer none)) w fun t101 w =>
  pickP t97 t101 (Value.bool false) fun t102 =>
  condP t102
  (callP Try.prog (fnV 12) #[] w fun t104 w =>
  pickP t102 t104 (Value.bool false) fun t105 =>
  m8_11 R t105 w)
  (pickP t102 undef (Value.bool false) fun t105 =>
  m8_11 R t105 w))
  (pickP t97 undef (Value.bool false) fun t102 =>
  condP t102
  (callP Try.prog (fnV 12) #[] w fun t104 w =>
  pickP t102 t104 (Value.bool false) fun t105 =>
  m8_11 R t105 w)
  (pickP t102 undef (Value.bool false) fun t105 =>
  m8_11 R t105 w)))
  (pickP t90 undef (Value.bool false) fun t97 =>
  condP t97
  (callP Try.prog (fnV 23) #[none10] w fun t100 w =>
  valP Try.prog (binS BinOp.eql 24 (Operand.tmp 100) (Operand.const (Value.pointer none)) t100 (Value.pointer none)) w fun t101 w =>
  pickP t97 t101 (Value.bool false) fun t102 =>
  condP t102
  (callP Try.prog (fnV 12) #[] w fun t104 w =>
  pickP t102 t104 (Value.bool false) fun t105 =>
  m8_11 R t105 w)
  (pickP t102 undef (Value.bool false) fun t105 =>
  m8_11 R t105 w))
  (pickP t97 undef (Value.bool false) fun t102 =>
  condP t102
  (callP Try.prog (fnV 12) #[] w fun t104 w =>
  pickP t102 t104 (Value.bool false) fun t105 =>
  m8_11 R t105 w)
  (pickP t102 undef (Value.bool false) fun t105 =>
  m8_11 R t105 w))))
  (pickP t86 undef (Value.bool false) fun t90 =>
  condP t90
  (callP Try.prog (fnV 19) #[none10, most0] w fun t94 w =>
  builtinP Try.prog Builtin.len #[28] 3 #[false] #[t94] w fun t95 w =>
  valP Try.prog (binS BinOp.eql 3 (Operand.tmp 95) (Operand.const (Value.int IntKind.i64 0)) t95 (Value.int IntKind.i64 0)) w fun t96 w =>
  pickP t90 t96 (Value.bool false) fun t97 =>
  condP t97
  (callP Try.prog (fnV 23) #[none10] w fun t100 w =>
  valP Try.prog (binS BinOp.eql 24 (Operand.tmp 100) (Operand.const (Value.pointer none)) t100 (Value.pointer none)) w fun t101 w =>
  pickP t97 t101 (Value.bool false) fun t102 =>
  condP t102
  (callP Try.prog (fnV 12) #[] w fun t104 w =>
  pickP t102 t104 (Value.bool false) fun t105 =>
  m8_11 R t105 w)
  (pickP t102 undef (Value.bool false) fun t105 =>
  m8_11 R t105 w))
  (pickP t97 undef (Value.bool false) fun t102 =>
  condP t102
  (callP Try.prog (fnV 12) #[] w fun t104 w =>
  pickP t102 t104 (Value.bool false) fun t105 =>
  m8_11 R t105 w)
  (pickP t102 undef (Value.bool false) fun t105 =>
  m8_11 R t105 w)))
  (pickP t90 undef (Value.bool false) fun t97 =>
  condP t97
  (callP Try.prog (fnV 23) #[none10] w fun t100 w =>
  valP Try.prog (binS BinOp.eql 24 (Operand.tmp 100) (Operand.const (Value.pointer none)) t100 (Value.pointer none)) w fun t101 w =>
  pickP t97 t101 (Value.bool false) fun t102 =>
  condP t102
  (callP Try.prog (fnV 12) #[] w fun t104 w =>
  pickP t102 t104 (Value.bool false) fun t105 =>
  m8_11 R t105 w)
  (pickP t102 undef (Value.bool false) fun t105 =>
  m8_11 R t105 w))
  (pickP t97 undef (Value.bool false) fun t102 =>
  condP t102
  (callP Try.prog (fnV 12) #[] w fun t104 w =>
  pickP t102 t104 (Value.bool false) fun t105 =>
  m8_11 R t105 w)
  (pickP t102 undef (Value.bool false) fun t105 =>
  m8_11 R t105 w))))))
  (pickP t77 undef (Value.bool false) fun t82 =>
  condP t82
  (valP Try.prog (binS BinOp.eql 3 (Operand.tmp 84) (Operand.const (Value.int IntKind.i64 0)) a11 (Value.int IntKind.i64 0)) w fun t85 w =>
  pickP t82 t85 (Value.bool false) fun t86 =>
  condP t86
  (valP Try.prog (binS BinOp.eql 3 (Operand.tmp 88) (Operand.const (Value.int IntKind.i64 0)) b12 (Value.int IntKind.i64 0)) w fun t89 w =>
  pickP t86 t89 (Value.bool false) fun t90 =>
  condP t90
  (callP Try.prog (fnV 19) #[none10, most0] w fun t94 w =>
  builtinP Try.prog Builtin.len #[28] 3 #[false] #[t94] w fun t95 w =>
  valP Try.prog (binS BinOp.eql 3 (Operand.tmp 95) (Operand.const (Value.int IntKind.i64 0)) t95 (Value.int IntKind.i64 0)) w fun t96 w =>
  pickP t90 t96 (Value.bool false) fun t97 =>
  condP t97
  (callP Try.prog (fnV 23) #[none10] w fun t100 w =>
  valP Try.prog (binS BinOp.eql 24 (Operand.tmp 100) (Operand.const (Value.pointer none)) t100 (Value.pointer none)) w fun t101 w =>
  pickP t97 t101 (Value.bool false) fun t102 =>
  condP t102
  (callP Try.prog (fnV 12) #[] w fun t104 w =>
  pickP t102 t104 (Value.bool false) fun t105 =>
  m8_11 R t105 w)
  (pickP t102 undef (Value.bool false) fun t105 =>
  m8_11 R t105 w))
  (pickP t97 undef (Value.bool false) fun t102 =>
  condP t102
  (callP Try.prog (fnV 12) #[] w fun t104 w =>
  pickP t102 t104 (Value.bool false) fun t105 =>
  m8_11 R t105 w)
  (pickP t102 undef (Value.bool false) fun t105 =>
  m8_11 R t105 w)))
  (pickP t90 undef (Value.bool false) fun t97 =>
  condP t97
  (callP Try.prog (fnV 23) #[none10] w fun t100 w =>
  valP Try.prog (binS BinOp.eql 24 (Operand.tmp 100) (Operand.const (Value.pointer none)) t100 (Value.pointer none)) w fun t101 w =>
  pickP t97 t101 (Value.bool false) fun t102 =>
  condP t102
  (callP Try.prog (fnV 12) #[] w fun t104 w =>
  pickP t102 t104 (Value.bool false) fun t105 =>
  m8_11 R t105 w)
  (pickP t102 undef (Value.bool false) fun t105 =>
  m8_11 R t105 w))
  (pickP t97 undef (Value.bool false) fun t102 =>
  condP t102
  (callP Try.prog (fnV 12) #[] w fun t104 w =>
  pickP t102 t104 (Value.bool false) fun t105 =>
  m8_11 R t105 w)
  (pickP t102 undef (Value.bool false) fun t105 =>
  m8_11 R t105 w))))
  (pickP t86 undef (Value.bool false) fun t90 =>
  condP t90
  (callP Try.prog (fnV 19) #[none10, most0] w fun t94 w =>
  builtinP Try.prog Builtin.len #[28] 3 #[false] #[t94] w fun t95 w =>
  valP Try.prog (binS BinOp.eql 3 (Operand.tmp 95) (Operand.const (Value.int IntKind.i64 0)) t95 (Value.int IntKind.i64 0)) w fun t96 w =>
  pickP t90 t96 (Value.bool false) fun t97 =>
  condP t97
  (callP Try.prog (fnV 23) #[none10] w fun t100 w =>
  valP Try.prog (binS BinOp.eql 24 (Operand.tmp 100) (Operand.const (Value.pointer none)) t100 (Value.pointer none)) w fun t101 w =>
  pickP t97 t101 (Value.bool false) fun t102 =>
  condP t102
  (callP Try.prog (fnV 12) #[] w fun t104 w =>
  pickP t102 t104 (Value.bool false) fun t105 =>
  m8_11 R t105 w)
  (pickP t102 undef (Value.bool false) fun t105 =>
  m8_11 R t105 w))
  (pickP t97 undef (Value.bool false) fun t102 =>
  condP t102
  (callP Try.prog (fnV 12) #[] w fun t104 w =>
  pickP t102 t104 (Value.bool false) fun t105 =>
  m8_11 R t105 w)
  (pickP t102 undef (Value.bool false) fun t105 =>
  m8_11 R t105 w)))
  (pickP t90 undef (Value.bool false) fun t97 =>
  condP t97
  (callP Try.prog (fnV 23) #[none10] w fun t100 w =>
  valP Try.prog (binS BinOp.eql 24 (Operand.tmp 100) (Operand.const (Value.pointer none)) t100 (Value.pointer none)) w fun t101 w =>
  pickP t97 t101 (Value.bool false) fun t102 =>
  condP t102
  (callP Try.prog (fnV 12) #[] w fun t104 w =>
  pickP t102 t104 (Value.bool false) fun t105 =>
  m8_11 R t105 w)
  (pickP t102 undef (Value.bool false) fun t105 =>
  m8_11 R t105 w))
  (pickP t97 undef (Value.bool false) fun t102 =>
  condP t102
  (callP Try.prog (fnV 12) #[] w fun t104 w =>
  pickP t102 t104 (Value.bool false) fun t105 =>
  m8_11 R t105 w)
  (pickP t102 undef (Value.bool false) fun t105 =>
  m8_11 R t105 w)))))
  (pickP t82 undef (Value.bool false) fun t86 =>
  condP t86
  (valP Try.prog (binS BinOp.eql 3 (Operand.tmp 88) (Operand.const (Value.int IntKind.i64 0)) b12 (Value.int IntKind.i64 0)) w fun t89 w =>
  pickP t86 t89 (Value.bool false) fun t90 =>
  condP t90
  (callP Try.prog (fnV 19) #[none10, most0] w fun t94 w =>
  builtinP Try.prog Builtin.len #[28] 3 #[false] #[t94] w fun t95 w =>
  valP Try.prog (binS BinOp.eql 3 (Operand.tmp 95) (Operand.const (Value.int IntKind.i64 0)) t95 (Value.int IntKind.i64 0)) w fun t96 w =>
  pickP t90 t96 (Value.bool false) fun t97 =>
  condP t97
  (callP Try.prog (fnV 23) #[none10] w fun t100 w =>
  valP Try.prog (binS BinOp.eql 24 (Operand.tmp 100) (Operand.const (Value.pointer none)) t100 (Value.pointer none)) w fun t101 w =>
  pickP t97 t101 (Value.bool false) fun t102 =>
  condP t102
  (callP Try.prog (fnV 12) #[] w fun t104 w =>
  pickP t102 t104 (Value.bool false) fun t105 =>
  m8_11 R t105 w)
  (pickP t102 undef (Value.bool false) fun t105 =>
  m8_11 R t105 w))
  (pickP t97 undef (Value.bool false) fun t102 =>
  condP t102
  (callP Try.prog (fnV 12) #[] w fun t104 w =>
  pickP t102 t104 (Value.bool false) fun t105 =>
  m8_11 R t105 w)
  (pickP t102 undef (Value.bool false) fun t105 =>
  m8_11 R t105 w)))
  (pickP t90 undef (Value.bool false) fun t97 =>
  condP t97
  (callP Try.prog (fnV 23) #[none10] w fun t100 w =>
  valP Try.prog (binS BinOp.eql 24 (Operand.tmp 100) (Operand.const (Value.pointer none)) t100 (Value.pointer none)) w fun t101 w =>
  pickP t97 t101 (Value.bool false) fun t102 =>
  condP t102
  (callP Try.prog (fnV 12) #[] w fun t104 w =>
  pickP t102 t104 (Value.bool false) fun t105 =>
  m8_11 R t105 w)
  (pickP t102 undef (Value.bool false) fun t105 =>
  m8_11 R t105 w))
  (pickP t97 undef (Value.bool false) fun t102 =>
  condP t102
  (callP Try.prog (fnV 12) #[] w fun t104 w =>
  pickP t102 t104 (Value.bool false) fun t105 =>
  m8_11 R t105 w)
  (pickP t102 undef (Value.bool false) fun t105 =>
  m8_11 R t105 w))))
  (pickP t86 undef (Value.bool false) fun t90 =>
  condP t90
  (callP Try.prog (fnV 19) #[none10, most0] w fun t94 w =>
  builtinP Try.prog Builtin.len #[28] 3 #[false] #[t94] w fun t95 w =>
  valP Try.prog (binS BinOp.eql 3 (Operand.tmp 95) (Operand.const (Value.int IntKind.i64 0)) t95 (Value.int IntKind.i64 0)) w fun t96 w =>
  pickP t90 t96 (Value.bool false) fun t97 =>
  condP t97
  (callP Try.prog (fnV 23) #[none10] w fun t100 w =>
  valP Try.prog (binS BinOp.eql 24 (Operand.tmp 100) (Operand.const (Value.pointer none)) t100 (Value.pointer none)) w fun t101 w =>
  pickP t97 t101 (Value.bool false) fun t102 =>
  condP t102
  (callP Try.prog (fnV 12) #[] w fun t104 w =>
  pickP t102 t104 (Value.bool false) fun t105 =>
  m8_11 R t105 w)
  (pickP t102 undef (Value.bool false) fun t105 =>
  m8_11 R t105 w))
  (pickP t97 undef (Value.bool false) fun t102 =>
  condP t102
  (callP Try.prog (fnV 12) #[] w fun t104 w =>
  pickP t102 t104 (Value.bool false) fun t105 =>
  m8_11 R t105 w)
  (pickP t102 undef (Value.bool false) fun t105 =>
  m8_11 R t105 w)))
  (pickP t90 undef (Value.bool false) fun t97 =>
  condP t97
  (callP Try.prog (fnV 23) #[none10] w fun t100 w =>
  valP Try.prog (binS BinOp.eql 24 (Operand.tmp 100) (Operand.const (Value.pointer none)) t100 (Value.pointer none)) w fun t101 w =>
  pickP t97 t101 (Value.bool false) fun t102 =>
  condP t102
  (callP Try.prog (fnV 12) #[] w fun t104 w =>
  pickP t102 t104 (Value.bool false) fun t105 =>
  m8_11 R t105 w)
  (pickP t102 undef (Value.bool false) fun t105 =>
  m8_11 R t105 w))
  (pickP t97 undef (Value.bool false) fun t102 =>
  condP t102
  (callP Try.prog (fnV 12) #[] w fun t104 w =>
  pickP t102 t104 (Value.bool false) fun t105 =>
  m8_11 R t105 w)
  (pickP t102 undef (Value.bool false) fun t105 =>
  m8_11 R t105 w)))))))))
def m8_9 (R : Value → World → Prop) (most0 : Value) (l1 : Value) (more2 : Value) (h7 : Value) (was8 : Value) (c9 : Value) (none10 : Value) (w : World) : Prop :=
  callP Try.prog (fnV 15) #[none10, most0] w fun t48 w =>
  valP Try.prog (Instr.extract t48 0) w fun t49 w =>
  valP Try.prog (Instr.extract t48 1) w fun t50 w =>
  m8_10 R most0 l1 more2 h7 was8 c9 none10 t49 t50 w
def m8_8 (R : Value → World → Prop) (most0 : Value) (l1 : Value) (more2 : Value) (h7 : Value) (was8 : Value) (c9 : Value) (w : World) : Prop :=
  m8_9 R most0 l1 more2 h7 was8 c9 (Value.pointer none) w
def m8_7 (R : Value → World → Prop) (most0 : Value) (l1 : Value) (more2 : Value) (h7 : Value) (was8 : Value) (c9 : Value) (w : World) : Prop :=
  callP Try.prog (fnV 13) #[c9, more2] w fun t44 w =>
  m8_8 R most0 l1 more2 h7 was8 c9 w
def m8_12 (R : Value → World → Prop) (most0 : Value) (l1 : Value) (more2 : Value) (h7 : Value) (was8 : Value) (c9 : Value) (t41 : Value) (w : World) : Prop :=
  condP t41
  (m8_13 R (Value.bool false) w)
  (m8_7 R most0 l1 more2 h7 was8 c9 w)
def m8_6 (R : Value → World → Prop) (most0 : Value) (l1 : Value) (more2 : Value) (h7 : Value) (was8 : Value) (c9 : Value) (w : World) : Prop :=
  valP Try.prog (binS BinOp.eql 24 (Operand.tmp 26) (Operand.const (Value.pointer none)) c9 (Value.pointer none)) w fun t27 w =>
  condP t27
  (pickP t27 (Value.bool true) undef fun t34 =>
  condP t34
  (pickP t34 (Value.bool true) undef fun t41 =>
  m8_12 R most0 l1 more2 h7 was8 c9 t41 w)
  (callP Try.prog (fnV 17) #[c9] w fun t37 w =>
  callP Try.prog (fnV 17) #[h7] w fun t39 w =>
  valP Try.prog (binS BinOp.neq 3 (Operand.tmp 37) (Operand.tmp 39) t37 t39) w fun t40 w =>
  pickP t34 (Value.bool true) t40 fun t41 =>
  m8_12 R most0 l1 more2 h7 was8 c9 t41 w))
  (callP Try.prog (fnV 19) #[c9, (Value.int IntKind.i64 64)] w fun t30 w =>
  callP Try.prog (fnV 18) #[t30, was8] w fun t32 w =>
  valP Try.prog (Op.unary UnOp.not t32) w fun t33 w =>
  pickP t27 (Value.bool true) t33 fun t34 =>
  condP t34
  (pickP t34 (Value.bool true) undef fun t41 =>
  m8_12 R most0 l1 more2 h7 was8 c9 t41 w)
  (callP Try.prog (fnV 17) #[c9] w fun t37 w =>
  callP Try.prog (fnV 17) #[h7] w fun t39 w =>
  valP Try.prog (binS BinOp.neq 3 (Operand.tmp 37) (Operand.tmp 39) t37 t39) w fun t40 w =>
  pickP t34 (Value.bool true) t40 fun t41 =>
  m8_12 R most0 l1 more2 h7 was8 c9 t41 w))
def m8_5 (R : Value → World → Prop) (most0 : Value) (l1 : Value) (more2 : Value) (h7 : Value) (was8 : Value) (w : World) : Prop :=
  callP Try.prog (fnV 23) #[h7] w fun t25 w =>
  m8_6 R most0 l1 more2 h7 was8 t25 w
def m8_4 (R : Value → World → Prop) (most0 : Value) (l1 : Value) (more2 : Value) (h7 : Value) (w : World) : Prop :=
  callP Try.prog (fnV 19) #[h7, (Value.int IntKind.i64 64)] w fun t23 w =>
  m8_5 R most0 l1 more2 h7 t23 w
def m8_14 (R : Value → World → Prop) (most0 : Value) (l1 : Value) (more2 : Value) (h7 : Value) (t21 : Value) (w : World) : Prop :=
  condP t21
  (m8_15 R (Value.bool false) w)
  (m8_4 R most0 l1 more2 h7 w)
def m8_3 (R : Value → World → Prop) (most0 : Value) (l1 : Value) (more2 : Value) (h7 : Value) (w : World) : Prop :=
  valP Try.prog (binS BinOp.eql 24 (Operand.tmp 20) (Operand.const (Value.pointer none)) h7 (Value.pointer none)) w fun t21 w =>
  m8_14 R most0 l1 more2 h7 t21 w
def m8_2 (R : Value → World → Prop) (most0 : Value) (l1 : Value) (more2 : Value) (w : World) : Prop :=
  callP Try.prog (fnV 21) #[most0, l1] w fun t19 w =>
  m8_3 R most0 l1 more2 t19 w
def m8_1 (R : Value → World → Prop) (most0 : Value) (l1 : Value) (more2 : Value) (w : World) : Prop :=
  callP Try.prog (fnV 9) #[l1] w fun t14 w =>
  callP Try.prog (fnV 9) #[more2] w fun t16 w =>
  m8_2 R most0 t14 t16 w
def m8_0 (R : Value → World → Prop) (most0 : Value) (l1 : Value) (more2 : Value) (w : World) : Prop :=
  m8_1 R most0 l1 more2 w
abbrev W8 := cwp Try.prog (fun i => 0)
noncomputable def k8_0 : Code := (bodyOf Try.f8)
noncomputable def k8_1 : Code := (c2 k8_0)
noncomputable def k8_2 : Code := (c2 k8_1)
noncomputable def k8_3 : Code := (c2 k8_2)
noncomputable def k8_4 : Code := (c2 k8_3)
noncomputable def k8_5 : Code := (c2 k8_4)
noncomputable def k8_6 : Code := (c2 k8_5)
noncomputable def k8_7 : Code := (c2 k8_6)
noncomputable def k8_8 : Code := (c2 k8_7)
noncomputable def k8_9 : Code := (c2 k8_8)
noncomputable def k8_10 : Code := (c2 k8_9)
noncomputable def k8_11 : Code := (c2 k8_10)
noncomputable def k8_12 : Code := (c2 (c1 k8_6))
noncomputable def k8_13 : Code := (c2 (c1 k8_12))
noncomputable def k8_14 : Code := (c2 (c1 k8_3))
noncomputable def k8_15 : Code := (c2 (c1 k8_14))
theorem s8_15 {R : Value → World → Prop} {Q : Exit → Env → World → Prop} (hR : ∀ e w, (R (e 6) w) → Q .ret e w) (e : Env) (w : World) (h : m8_15 R (e 6) w) : W8 k8_15 Q e w := by
  unfold m8_15 at h
  exact ret_ok (by kernel_rfl) (hR _ _ h)
theorem s8_13 {R : Value → World → Prop} {Q : Exit → Env → World → Prop} (hR : ∀ e w, (R (e 6) w) → Q .ret e w) (e : Env) (w : World) (h : m8_13 R (e 6) w) : W8 k8_13 Q e w := by
  unfold m8_13 at h
  exact ret_ok (by kernel_rfl) (hR _ _ h)
theorem s8_11 {R : Value → World → Prop} {Q : Exit → Env → World → Prop} (hR : ∀ e w, (R (e 6) w) → Q .ret e w) (e : Env) (w : World) (h : m8_11 R (e 6) w) : W8 k8_11 Q e w := by
  unfold m8_11 at h
  exact ret_ok (by kernel_rfl) (hR _ _ h)
theorem s8_10 {R : Value → World → Prop} {Q : Exit → Env → World → Prop} (hR : ∀ e w, (R (e 6) w) → Q .ret e w) (e : Env) (w : World) (h : m8_10 R (e 0) (e 1) (e 2) (e 7) (e 8) (e 9) (e 10) (e 11) (e 12) w) : W8 k8_10 Q e w := by
  unfold m8_10 at h
  refine seq_ok' (by kernel_rfl) ?_
  have hN' : ∀ e w, (m8_11 R (e 6) w) → (thenE (W8 k8_11 Q) Q) .normal e w := fun e w h => then_N (s8_11 (R := R) (Q := Q) hR e w h)
  have hN := hN'
  exact region_ok 12 (fun e w => m8_11 R (e 6) w) (by kernel_rfl) (kcast (by kernel_rfl) h) hN (by kernel_rfl)
theorem s8_9 {R : Value → World → Prop} {Q : Exit → Env → World → Prop} (hR : ∀ e w, (R (e 6) w) → Q .ret e w) (e : Env) (w : World) (h : m8_9 R (e 0) (e 1) (e 2) (e 7) (e 8) (e 9) (e 10) w) : W8 k8_9 Q e w := by
  unfold m8_9 at h
  refine seq_ok' (by kernel_rfl) ?_
  have hN' : ∀ e w, (m8_10 R (e 0) (e 1) (e 2) (e 7) (e 8) (e 9) (e 10) (e 11) (e 12) w) → (thenE (W8 k8_10 Q) Q) .normal e w := fun e w h => then_N (s8_10 (R := R) (Q := Q) hR e w h)
  have hN := hN'
  exact region_ok 11 (fun e w => m8_10 R (e 0) (e 1) (e 2) (e 7) (e 8) (e 9) (e 10) (e 11) (e 12) w) (by kernel_rfl) (kcast (by kernel_rfl) h) hN (by kernel_rfl)
theorem s8_8 {R : Value → World → Prop} {Q : Exit → Env → World → Prop} (hR : ∀ e w, (R (e 6) w) → Q .ret e w) (e : Env) (w : World) (h : m8_8 R (e 0) (e 1) (e 2) (e 7) (e 8) (e 9) w) : W8 k8_8 Q e w := by
  unfold m8_8 at h
  refine seq_ok' (by kernel_rfl) ?_
  have hN' : ∀ e w, (m8_9 R (e 0) (e 1) (e 2) (e 7) (e 8) (e 9) (e 10) w) → (thenE (W8 k8_9 Q) Q) .normal e w := fun e w h => then_N (s8_9 (R := R) (Q := Q) hR e w h)
  have hN := hN'
  exact region_ok 10 (fun e w => m8_9 R (e 0) (e 1) (e 2) (e 7) (e 8) (e 9) (e 10) w) (by kernel_rfl) (kcast (by kernel_rfl) h) hN (by kernel_rfl)
theorem s8_7 {R : Value → World → Prop} {Q : Exit → Env → World → Prop} (hR : ∀ e w, (R (e 6) w) → Q .ret e w) (e : Env) (w : World) (h : m8_7 R (e 0) (e 1) (e 2) (e 7) (e 8) (e 9) w) : W8 k8_7 Q e w := by
  unfold m8_7 at h
  refine seq_ok' (by kernel_rfl) ?_
  have hN' : ∀ e w, (m8_8 R (e 0) (e 1) (e 2) (e 7) (e 8) (e 9) w) → (thenE (W8 k8_8 Q) Q) .normal e w := fun e w h => then_N (s8_8 (R := R) (Q := Q) hR e w h)
  have hN := hN'
  exact region_ok 9 (fun e w => m8_8 R (e 0) (e 1) (e 2) (e 7) (e 8) (e 9) w) (by kernel_rfl) (kcast (by kernel_rfl) h) hN (by kernel_rfl)
theorem s8_12 {R : Value → World → Prop} {Q : Exit → Env → World → Prop} (hN : ∀ e w, (m8_7 R (e 0) (e 1) (e 2) (e 7) (e 8) (e 9) w) → Q .normal e w) (hR : ∀ e w, (R (e 6) w) → Q .ret e w) (e : Env) (w : World) (h : m8_12 R (e 0) (e 1) (e 2) (e 7) (e 8) (e 9) (e 41) w) : W8 k8_12 Q e w := by
  unfold m8_12 at h
  refine cond_ok (Operand.tmp 41) (by kernel_rfl) h (fun h1 => ?_) (fun h1 => ?_)
  · refine seq_ok' (by kernel_rfl) ?_
    have hN' : ∀ e w, (m8_13 R (e 6) w) → (thenE (W8 k8_13 Q) Q) .normal e w := fun e w h => then_N (s8_13 (R := R) (Q := Q) hR e w h)
    have hN := hN'
    exact region_ok 8 (fun e w => m8_13 R (e 6) w) (by kernel_rfl) (kcast (by kernel_rfl) h1) hN (by kernel_rfl)
  · exact skip_ok (by kernel_rfl) (hN _ _ h1)
theorem s8_6 {R : Value → World → Prop} {Q : Exit → Env → World → Prop} (hR : ∀ e w, (R (e 6) w) → Q .ret e w) (e : Env) (w : World) (h : m8_6 R (e 0) (e 1) (e 2) (e 7) (e 8) (e 9) w) : W8 k8_6 Q e w := by
  unfold m8_6 at h
  refine seq_ok' (by kernel_rfl) ?_
  have hN' : ∀ e w, (m8_7 R (e 0) (e 1) (e 2) (e 7) (e 8) (e 9) w) → (thenE (W8 k8_7 Q) Q) .normal e w := fun e w h => then_N (s8_7 (R := R) (Q := Q) hR e w h)
  have hR : ∀ e w, (R (e 6) w) → (thenE (W8 k8_7 Q) Q) .ret e w := fun e w h => then_R (hR e w h)
  have hN := hN'
  refine seq_ok' (by kernel_rfl) ?_
  have hN' : ∀ e w, (m8_12 R (e 0) (e 1) (e 2) (e 7) (e 8) (e 9) (e 41) w) → (thenE (W8 k8_12 (thenE (W8 k8_7 Q) Q)) (thenE (W8 k8_7 Q) Q)) .normal e w := fun e w h => then_N (s8_12 (R := R) (Q := (thenE (W8 k8_7 Q) Q)) hN hR e w h)
  have hN := hN'
  exact region_ok 7 (fun e w => m8_12 R (e 0) (e 1) (e 2) (e 7) (e 8) (e 9) (e 41) w) (by kernel_rfl) (kcast (by kernel_rfl) h) hN (by kernel_rfl)
theorem s8_5 {R : Value → World → Prop} {Q : Exit → Env → World → Prop} (hR : ∀ e w, (R (e 6) w) → Q .ret e w) (e : Env) (w : World) (h : m8_5 R (e 0) (e 1) (e 2) (e 7) (e 8) w) : W8 k8_5 Q e w := by
  unfold m8_5 at h
  refine seq_ok' (by kernel_rfl) ?_
  have hN' : ∀ e w, (m8_6 R (e 0) (e 1) (e 2) (e 7) (e 8) (e 9) w) → (thenE (W8 k8_6 Q) Q) .normal e w := fun e w h => then_N (s8_6 (R := R) (Q := Q) hR e w h)
  have hN := hN'
  exact region_ok 6 (fun e w => m8_6 R (e 0) (e 1) (e 2) (e 7) (e 8) (e 9) w) (by kernel_rfl) (kcast (by kernel_rfl) h) hN (by kernel_rfl)
theorem s8_4 {R : Value → World → Prop} {Q : Exit → Env → World → Prop} (hR : ∀ e w, (R (e 6) w) → Q .ret e w) (e : Env) (w : World) (h : m8_4 R (e 0) (e 1) (e 2) (e 7) w) : W8 k8_4 Q e w := by
  unfold m8_4 at h
  refine seq_ok' (by kernel_rfl) ?_
  have hN' : ∀ e w, (m8_5 R (e 0) (e 1) (e 2) (e 7) (e 8) w) → (thenE (W8 k8_5 Q) Q) .normal e w := fun e w h => then_N (s8_5 (R := R) (Q := Q) hR e w h)
  have hN := hN'
  exact region_ok 5 (fun e w => m8_5 R (e 0) (e 1) (e 2) (e 7) (e 8) w) (by kernel_rfl) (kcast (by kernel_rfl) h) hN (by kernel_rfl)
theorem s8_14 {R : Value → World → Prop} {Q : Exit → Env → World → Prop} (hN : ∀ e w, (m8_4 R (e 0) (e 1) (e 2) (e 7) w) → Q .normal e w) (hR : ∀ e w, (R (e 6) w) → Q .ret e w) (e : Env) (w : World) (h : m8_14 R (e 0) (e 1) (e 2) (e 7) (e 21) w) : W8 k8_14 Q e w := by
  unfold m8_14 at h
  refine cond_ok (Operand.tmp 21) (by kernel_rfl) h (fun h1 => ?_) (fun h1 => ?_)
  · refine seq_ok' (by kernel_rfl) ?_
    have hN' : ∀ e w, (m8_15 R (e 6) w) → (thenE (W8 k8_15 Q) Q) .normal e w := fun e w h => then_N (s8_15 (R := R) (Q := Q) hR e w h)
    have hN := hN'
    exact region_ok 4 (fun e w => m8_15 R (e 6) w) (by kernel_rfl) (kcast (by kernel_rfl) h1) hN (by kernel_rfl)
  · exact skip_ok (by kernel_rfl) (hN _ _ h1)
theorem s8_3 {R : Value → World → Prop} {Q : Exit → Env → World → Prop} (hR : ∀ e w, (R (e 6) w) → Q .ret e w) (e : Env) (w : World) (h : m8_3 R (e 0) (e 1) (e 2) (e 7) w) : W8 k8_3 Q e w := by
  unfold m8_3 at h
  refine seq_ok' (by kernel_rfl) ?_
  have hN' : ∀ e w, (m8_4 R (e 0) (e 1) (e 2) (e 7) w) → (thenE (W8 k8_4 Q) Q) .normal e w := fun e w h => then_N (s8_4 (R := R) (Q := Q) hR e w h)
  have hR : ∀ e w, (R (e 6) w) → (thenE (W8 k8_4 Q) Q) .ret e w := fun e w h => then_R (hR e w h)
  have hN := hN'
  refine seq_ok' (by kernel_rfl) ?_
  have hN' : ∀ e w, (m8_14 R (e 0) (e 1) (e 2) (e 7) (e 21) w) → (thenE (W8 k8_14 (thenE (W8 k8_4 Q) Q)) (thenE (W8 k8_4 Q) Q)) .normal e w := fun e w h => then_N (s8_14 (R := R) (Q := (thenE (W8 k8_4 Q) Q)) hN hR e w h)
  have hN := hN'
  exact region_ok 3 (fun e w => m8_14 R (e 0) (e 1) (e 2) (e 7) (e 21) w) (by kernel_rfl) (kcast (by kernel_rfl) h) hN (by kernel_rfl)
theorem s8_2 {R : Value → World → Prop} {Q : Exit → Env → World → Prop} (hR : ∀ e w, (R (e 6) w) → Q .ret e w) (e : Env) (w : World) (h : m8_2 R (e 0) (e 1) (e 2) w) : W8 k8_2 Q e w := by
  unfold m8_2 at h
  refine seq_ok' (by kernel_rfl) ?_
  have hN' : ∀ e w, (m8_3 R (e 0) (e 1) (e 2) (e 7) w) → (thenE (W8 k8_3 Q) Q) .normal e w := fun e w h => then_N (s8_3 (R := R) (Q := Q) hR e w h)
  have hN := hN'
  exact region_ok 2 (fun e w => m8_3 R (e 0) (e 1) (e 2) (e 7) w) (by kernel_rfl) (kcast (by kernel_rfl) h) hN (by kernel_rfl)
theorem s8_1 {R : Value → World → Prop} {Q : Exit → Env → World → Prop} (hR : ∀ e w, (R (e 6) w) → Q .ret e w) (e : Env) (w : World) (h : m8_1 R (e 0) (e 1) (e 2) w) : W8 k8_1 Q e w := by
  unfold m8_1 at h
  refine seq_ok' (by kernel_rfl) ?_
  have hN' : ∀ e w, (m8_2 R (e 0) (e 1) (e 2) w) → (thenE (W8 k8_2 Q) Q) .normal e w := fun e w h => then_N (s8_2 (R := R) (Q := Q) hR e w h)
  have hN := hN'
  exact region_ok 1 (fun e w => m8_2 R (e 0) (e 1) (e 2) w) (by kernel_rfl) (kcast (by kernel_rfl) h) hN (by kernel_rfl)
theorem s8_0 {R : Value → World → Prop} {Q : Exit → Env → World → Prop} (hR : ∀ e w, (R (e 6) w) → Q .ret e w) (e : Env) (w : World) (h : m8_0 R (e 0) (e 1) (e 2) w) : W8 k8_0 Q e w := by
  unfold m8_0 at h
  refine seq_ok' (by kernel_rfl) ?_
  have hN' : ∀ e w, (m8_1 R (e 0) (e 1) (e 2) w) → (thenE (W8 k8_1 Q) Q) .normal e w := fun e w h => then_N (s8_1 (R := R) (Q := Q) hR e w h)
  have hN := hN'
  exact region_ok 0 (fun e w => m8_1 R (e 0) (e 1) (e 2) w) (by kernel_rfl) (kcast (by kernel_rfl) h) hN (by kernel_rfl)
abbrev m8 (R : Value → World → Prop) (most0 : Value) (l1 : Value) (more2 : Value) (w : World) : Prop := m8_0 R most0 l1 more2 w
theorem s8 (most0 : Value) (l1 : Value) (more2 : Value) {R : Value → World → Prop} {w : World} (h : m8 R most0 l1 more2 w) :
    Calls Try.prog 8 #[most0, l1, more2] w fun e w' => ∃ v, e = .returned v ∧ R v w' :=
  calls_of_cwp (st := (fun i => 0)) (c := k8_0) (by kernel_rfl) Try.func8 (by kernel_rfl) (Nat.le_of_ble_eq_true (by kernel_rfl)) (by kernel_rfl)
    (s8_0 (R := R) (Q := endE Try.prog Try.f8 R) (fun e w h => kcast (by kernel_rfl) h) (argsE #[most0, l1, more2]) w (kcast (by kernel_rfl) h))
end Go.Proofs.Ytcfdalmnhgiaeaa.M
