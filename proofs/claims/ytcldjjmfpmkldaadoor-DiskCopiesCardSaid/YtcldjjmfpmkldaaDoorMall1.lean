/- What functions' texts ask of their ends, told over values that have names; printed by a program of this work. -/
import Derived.Test.YtcldjjmfpmkldaaDoorFw
import Derived.Test.YtcldjjmfpmkldaaDoorProg
namespace Go.Proofs.YtcldjjmfpmkldaaDoor.M
open Go.Proofs.YtcldjjmfpmkldaaDoor.F
set_option linter.unusedVariables false
set_option maxRecDepth 100000
/-! ### headgate/headgatelaw04.DiskFull -/
def m7_28 (R : VP) (t8 : Value) (w : World) : Prop :=
  R t8 w
def m7_23 (R : VP) (K1 : (Value × Value × Value) → World → Prop) (name2 s3 d9 was10 n11 is12 i13 : Value) (w : World) : Prop :=
  valP Tryd.prog (binS BinOp.add 3 (Operand.tmp 38) (Operand.const (Value.int IntKind.i64 1)) i13 (Value.int IntKind.i64 1)) w fun t39 w =>
  K1 (n11, is12, t39) w
def m7_25 (R : VP) (K1 : (Value × Value × Value) → World → Prop) (name2 s3 d9 was10 n11 i13 : Value) (w : World) : Prop :=
  m7_23 R K1 name2 s3 d9 was10 n11 (Value.bool true) i13 w
def m7_24 (R : VP) (K1 : (Value × Value × Value) → World → Prop) (name2 s3 d9 was10 n11 is12 i13 t46 : Value) (w : World) : Prop :=
  condP t46
  (valQ Tryd.prog (Instr.indexAt 38 was10 i13) w fun t49 =>
  valQ Tryd.prog (Instr.fieldAt 42 t49 1) w fun t50 =>
  valQ Tryd.prog (Instr.loadAt 9 t50) w fun t51 =>
  builtinQ Tryd.prog Builtin.len #[9] 3 #[false] #[t51] w fun t52 =>
  valQ Tryd.prog (Instr.indexAt 38 was10 i13) w fun t55 =>
  valQ Tryd.prog (Instr.fieldAt 42 t55 2) w fun t56 =>
  valQ Tryd.prog (Instr.loadAt 9 t56) w fun t57 =>
  builtinQ Tryd.prog Builtin.len #[9] 3 #[false] #[t57] w fun t58 =>
  valQ Tryd.prog (binS BinOp.add 3 (Operand.tmp 52) (Operand.tmp 58) t52 t58) w fun t59 =>
  anyDraw w fun w =>
  m7_25 R K1 name2 s3 d9 was10 t59 i13 w)
  (m7_23 R K1 name2 s3 d9 was10 n11 is12 i13 w)
def m7_22 (R : VP) (K1 : (Value × Value × Value) → World → Prop) (name2 s3 d9 was10 n11 is12 i13 : Value) (w : World) : Prop :=
  valP Tryd.prog (Instr.indexAt 38 was10 i13) w fun t42 w =>
  valP Tryd.prog (Instr.fieldAt 42 t42 0) w fun t43 w =>
  valP Tryd.prog (Instr.loadAt 9 t43) w fun t44 w =>
  valP Tryd.prog (binS BinOp.eql 9 (Operand.tmp 44) (Operand.tmp 45) t44 name2) w fun t46 w =>
  m7_24 R K1 name2 s3 d9 was10 n11 is12 i13 t46 w
def m7_18 (R : VP) (t8 : Value) (w : World) : Prop :=
  R t8 w
def m7_17 (R : VP) (name2 d9 was10 off16 e17 full18 : Value) (w : World) : Prop :=
  valP Tryd.prog (binS BinOp.eql 24 (Operand.tmp 94) (Operand.const (Value.int IntKind.i64 1)) e17 (Value.int IntKind.i64 1)) w fun t95 w =>
  condP t95
  (callP Tryd.prog (fnV 24) #[name2] w fun t98 w =>
  valP Tryd.prog (Op.unary UnOp.not t98) w fun t99 w =>
  pickP t95 t99 (Value.bool false) fun t100 =>
  condP t100
  (pickP t100 (Value.bool true) undef fun t107 =>
  pickP t107 (Value.bool true) undef fun t114 =>
  callP Tryd.prog (fnV 20) #[d9] w fun t117 w =>
  callP Tryd.prog (fnV 23) #[t117, was10] w fun t119 w =>
  pickP t114 t119 (Value.bool false) fun t120 =>
  condP t120
  (callP Tryd.prog (fnV 17) #[] w fun t122 w =>
  pickP t120 t122 (Value.bool false) fun t123 =>
  m7_18 R t123 w)
  (pickP t120 undef (Value.bool false) fun t123 =>
  m7_18 R t123 w))
  (valP Tryd.prog (binS BinOp.eql 24 (Operand.tmp 102) (Operand.const (Value.int IntKind.i64 4)) e17 (Value.int IntKind.i64 4)) w fun t103 w =>
  condP t103
  (pickP t103 off16 (Value.bool false) fun t106 =>
  pickP t100 (Value.bool true) t106 fun t107 =>
  condP t107
  (pickP t107 (Value.bool true) undef fun t114 =>
  callP Tryd.prog (fnV 20) #[d9] w fun t117 w =>
  callP Tryd.prog (fnV 23) #[t117, was10] w fun t119 w =>
  pickP t114 t119 (Value.bool false) fun t120 =>
  condP t120
  (callP Tryd.prog (fnV 17) #[] w fun t122 w =>
  pickP t120 t122 (Value.bool false) fun t123 =>
  m7_18 R t123 w)
  (pickP t120 undef (Value.bool false) fun t123 =>
  m7_18 R t123 w))
  (valP Tryd.prog (binS BinOp.eql 24 (Operand.tmp 109) (Operand.const (Value.int IntKind.i64 5)) e17 (Value.int IntKind.i64 5)) w fun t110 w =>
  condP t110
  (pickP t110 full18 (Value.bool false) fun t113 =>
  pickP t107 (Value.bool true) t113 fun t114 =>
  condP t114
  (callP Tryd.prog (fnV 20) #[d9] w fun t117 w =>
  callP Tryd.prog (fnV 23) #[t117, was10] w fun t119 w =>
  pickP t114 t119 (Value.bool false) fun t120 =>
  condP t120
  (callP Tryd.prog (fnV 17) #[] w fun t122 w =>
  pickP t120 t122 (Value.bool false) fun t123 =>
  m7_18 R t123 w)
  (pickP t120 undef (Value.bool false) fun t123 =>
  m7_18 R t123 w))
  (pickP t114 undef (Value.bool false) fun t120 =>
  pickP t120 undef (Value.bool false) fun t123 =>
  m7_18 R t123 w))
  (pickP t110 undef (Value.bool false) fun t113 =>
  pickP t107 (Value.bool true) t113 fun t114 =>
  pickP t114 undef (Value.bool false) fun t120 =>
  pickP t120 undef (Value.bool false) fun t123 =>
  m7_18 R t123 w)))
  (pickP t103 undef (Value.bool false) fun t106 =>
  pickP t100 (Value.bool true) t106 fun t107 =>
  valP Tryd.prog (binS BinOp.eql 24 (Operand.tmp 109) (Operand.const (Value.int IntKind.i64 5)) e17 (Value.int IntKind.i64 5)) w fun t110 w =>
  condP t110
  (pickP t110 full18 (Value.bool false) fun t113 =>
  pickP t107 (Value.bool true) t113 fun t114 =>
  condP t114
  (callP Tryd.prog (fnV 20) #[d9] w fun t117 w =>
  callP Tryd.prog (fnV 23) #[t117, was10] w fun t119 w =>
  pickP t114 t119 (Value.bool false) fun t120 =>
  condP t120
  (callP Tryd.prog (fnV 17) #[] w fun t122 w =>
  pickP t120 t122 (Value.bool false) fun t123 =>
  m7_18 R t123 w)
  (pickP t120 undef (Value.bool false) fun t123 =>
  m7_18 R t123 w))
  (pickP t114 undef (Value.bool false) fun t120 =>
  pickP t120 undef (Value.bool false) fun t123 =>
  m7_18 R t123 w))
  (pickP t110 undef (Value.bool false) fun t113 =>
  pickP t107 (Value.bool true) t113 fun t114 =>
  pickP t114 undef (Value.bool false) fun t120 =>
  pickP t120 undef (Value.bool false) fun t123 =>
  m7_18 R t123 w))))
  (pickP t95 undef (Value.bool false) fun t100 =>
  valP Tryd.prog (binS BinOp.eql 24 (Operand.tmp 102) (Operand.const (Value.int IntKind.i64 4)) e17 (Value.int IntKind.i64 4)) w fun t103 w =>
  condP t103
  (pickP t103 off16 (Value.bool false) fun t106 =>
  pickP t100 (Value.bool true) t106 fun t107 =>
  condP t107
  (pickP t107 (Value.bool true) undef fun t114 =>
  callP Tryd.prog (fnV 20) #[d9] w fun t117 w =>
  callP Tryd.prog (fnV 23) #[t117, was10] w fun t119 w =>
  pickP t114 t119 (Value.bool false) fun t120 =>
  condP t120
  (callP Tryd.prog (fnV 17) #[] w fun t122 w =>
  pickP t120 t122 (Value.bool false) fun t123 =>
  m7_18 R t123 w)
  (pickP t120 undef (Value.bool false) fun t123 =>
  m7_18 R t123 w))
  (valP Tryd.prog (binS BinOp.eql 24 (Operand.tmp 109) (Operand.const (Value.int IntKind.i64 5)) e17 (Value.int IntKind.i64 5)) w fun t110 w =>
  condP t110
  (pickP t110 full18 (Value.bool false) fun t113 =>
  pickP t107 (Value.bool true) t113 fun t114 =>
  condP t114
  (callP Tryd.prog (fnV 20) #[d9] w fun t117 w =>
  callP Tryd.prog (fnV 23) #[t117, was10] w fun t119 w =>
  pickP t114 t119 (Value.bool false) fun t120 =>
  condP t120
  (callP Tryd.prog (fnV 17) #[] w fun t122 w =>
  pickP t120 t122 (Value.bool false) fun t123 =>
  m7_18 R t123 w)
  (pickP t120 undef (Value.bool false) fun t123 =>
  m7_18 R t123 w))
  (pickP t114 undef (Value.bool false) fun t120 =>
  pickP t120 undef (Value.bool false) fun t123 =>
  m7_18 R t123 w))
  (pickP t110 undef (Value.bool false) fun t113 =>
  pickP t107 (Value.bool true) t113 fun t114 =>
  pickP t114 undef (Value.bool false) fun t120 =>
  pickP t120 undef (Value.bool false) fun t123 =>
  m7_18 R t123 w)))
  (pickP t103 undef (Value.bool false) fun t106 =>
  pickP t100 (Value.bool true) t106 fun t107 =>
  valP Tryd.prog (binS BinOp.eql 24 (Operand.tmp 109) (Operand.const (Value.int IntKind.i64 5)) e17 (Value.int IntKind.i64 5)) w fun t110 w =>
  condP t110
  (pickP t110 full18 (Value.bool false) fun t113 =>
  pickP t107 (Value.bool true) t113 fun t114 =>
  condP t114
  (callP Tryd.prog (fnV 20) #[d9] w fun t117 w =>
  callP Tryd.prog (fnV 23) #[t117, was10] w fun t119 w =>
  pickP t114 t119 (Value.bool false) fun t120 =>
  condP t120
  (callP Tryd.prog (fnV 17) #[] w fun t122 w =>
  pickP t120 t122 (Value.bool false) fun t123 =>
  m7_18 R t123 w)
  (pickP t120 undef (Value.bool false) fun t123 =>
  m7_18 R t123 w))
  (pickP t114 undef (Value.bool false) fun t120 =>
  pickP t120 undef (Value.bool false) fun t123 =>
  m7_18 R t123 w))
  (pickP t110 undef (Value.bool false) fun t113 =>
  pickP t107 (Value.bool true) t113 fun t114 =>
  pickP t114 undef (Value.bool false) fun t120 =>
  pickP t120 undef (Value.bool false) fun t123 =>
  m7_18 R t123 w)))
def m7_15 (R : VP) (t8 : Value) (w : World) : Prop :=
  R t8 w
def m7_14 (R : VP) (s3 d9 n11 need14 free15 t19 f20 : Value) (w : World) : Prop :=
  valP Tryd.prog (binS BinOp.leq 3 (Operand.tmp 130) (Operand.tmp 131) need14 free15) w fun t132 w =>
  condP t132
  (callP Tryd.prog (fnV 19) #[d9] w fun t135 w =>
  valP Tryd.prog (binS BinOp.sub 3 (Operand.tmp 136) (Operand.tmp 137) free15 need14) w fun t138 w =>
  valP Tryd.prog (binS BinOp.eql 3 (Operand.tmp 135) (Operand.tmp 138) t135 t138) w fun t139 w =>
  pickP t132 t139 (Value.bool false) fun t140 =>
  condP t140
  (valP Tryd.prog (binS BinOp.eql 24 (Operand.tmp 142) (Operand.const (Value.int IntKind.i64 0)) f20 (Value.int IntKind.i64 0)) w fun t143 w =>
  pickP t140 t143 (Value.bool false) fun t144 =>
  condP t144
  (builtinP Tryd.prog Builtin.len #[9] 3 #[false] #[t19] w fun t147 w =>
  builtinP Tryd.prog Builtin.len #[9] 3 #[false] #[s3] w fun t150 w =>
  valP Tryd.prog (binS BinOp.add 3 (Operand.tmp 148) (Operand.tmp 150) n11 t150) w fun t151 w =>
  valP Tryd.prog (binS BinOp.eql 3 (Operand.tmp 147) (Operand.tmp 151) t147 t151) w fun t152 w =>
  pickP t144 t152 (Value.bool false) fun t153 =>
  condP t153
  (valP Tryd.prog (Instr.sliceAt 9 t19 (some n11) none none) w fun t157 w =>
  valP Tryd.prog (binS BinOp.eql 9 (Operand.tmp 157) (Operand.tmp 158) t157 s3) w fun t159 w =>
  pickP t153 t159 (Value.bool false) fun t160 =>
  condP t160
  (callP Tryd.prog (fnV 17) #[] w fun t162 w =>
  pickP t160 t162 (Value.bool false) fun t163 =>
  m7_15 R t163 w)
  (pickP t160 undef (Value.bool false) fun t163 =>
  m7_15 R t163 w))
  (pickP t153 undef (Value.bool false) fun t160 =>
  pickP t160 undef (Value.bool false) fun t163 =>
  m7_15 R t163 w))
  (pickP t144 undef (Value.bool false) fun t153 =>
  pickP t153 undef (Value.bool false) fun t160 =>
  pickP t160 undef (Value.bool false) fun t163 =>
  m7_15 R t163 w))
  (pickP t140 undef (Value.bool false) fun t144 =>
  pickP t144 undef (Value.bool false) fun t153 =>
  pickP t153 undef (Value.bool false) fun t160 =>
  pickP t160 undef (Value.bool false) fun t163 =>
  m7_15 R t163 w))
  (pickP t132 undef (Value.bool false) fun t140 =>
  pickP t140 undef (Value.bool false) fun t144 =>
  pickP t144 undef (Value.bool false) fun t153 =>
  pickP t153 undef (Value.bool false) fun t160 =>
  pickP t160 undef (Value.bool false) fun t163 =>
  m7_15 R t163 w)
def m7_13 (R : VP) (name2 s3 d9 n11 need14 free15 : Value) (w : World) : Prop :=
  callP Tryd.prog (fnV 15) #[d9, name2] w fun t127 w =>
  valP Tryd.prog (Instr.extract t127 0) w fun t128 w =>
  valP Tryd.prog (Instr.extract t127 1) w fun t129 w =>
  m7_14 R s3 d9 n11 need14 free15 t128 t129 w
def m7_16 (R : VP) (name2 s3 d9 was10 n11 is12 need14 free15 off16 e17 t81 : Value) (w : World) : Prop :=
  condP t81
  (valP Tryd.prog (binS BinOp.gtr 3 (Operand.tmp 82) (Operand.tmp 83) need14 free15) w fun t84 w =>
  condP t84
  (pickP t84 (Value.bool true) undef fun t93 =>
  m7_17 R name2 d9 was10 off16 e17 t93 w)
  (valP Tryd.prog (Op.unary UnOp.not is12) w fun t87 w =>
  condP t87
  (builtinP Tryd.prog Builtin.len #[38] 3 #[false] #[was10] w fun t90 w =>
  valP Tryd.prog (binS BinOp.eql 3 (Operand.tmp 90) (Operand.const (Value.int IntKind.i64 256)) t90 (Value.int IntKind.i64 256)) w fun t91 w =>
  pickP t87 t91 (Value.bool false) fun t92 =>
  pickP t84 (Value.bool true) t92 fun t93 =>
  m7_17 R name2 d9 was10 off16 e17 t93 w)
  (pickP t87 undef (Value.bool false) fun t92 =>
  pickP t84 (Value.bool true) t92 fun t93 =>
  m7_17 R name2 d9 was10 off16 e17 t93 w)))
  (m7_13 R name2 s3 d9 n11 need14 free15 w)
def m7_12 (R : VP) (name2 s3 d9 was10 n11 is12 need14 free15 off16 e17 : Value) (w : World) : Prop :=
  valP Tryd.prog (binS BinOp.neq 24 (Operand.tmp 80) (Operand.const (Value.int IntKind.i64 0)) e17 (Value.int IntKind.i64 0)) w fun t81 w =>
  m7_16 R name2 s3 d9 was10 n11 is12 need14 free15 off16 e17 t81 w
def m7_11 (R : VP) (name2 s3 d9 was10 n11 is12 need14 free15 off16 : Value) (w : World) : Prop :=
  callP Tryd.prog (fnV 12) #[d9, name2, s3] w fun t79 w =>
  m7_12 R name2 s3 d9 was10 n11 is12 need14 free15 off16 t79 w
def m7_10 (R : VP) (name2 s3 d9 was10 n11 is12 need14 free15 : Value) (w : World) : Prop :=
  callP Tryd.prog (fnV 13) #[d9] w fun t75 w =>
  m7_11 R name2 s3 d9 was10 n11 is12 need14 free15 t75 w
def m7_9 (R : VP) (name2 s3 d9 was10 n11 is12 need14 free15 : Value) (w : World) : Prop :=
  callP Tryd.prog (fnV 11) #[d9, (Value.int IntKind.i64 (-1))] w fun t73 w =>
  m7_10 R name2 s3 d9 was10 n11 is12 need14 free15 w
def m7_8 (R : VP) (name2 s3 d9 was10 n11 is12 need14 : Value) (w : World) : Prop :=
  callP Tryd.prog (fnV 19) #[d9] w fun t71 w =>
  m7_9 R name2 s3 d9 was10 n11 is12 need14 t71 w
def m7_19 (R : VP) (name2 s3 d9 was10 n11 is12 need14 t65 : Value) (w : World) : Prop :=
  condP t65
  (callP Tryd.prog (fnV 21) #[n11] w fun t68 w =>
  valP Tryd.prog (binS BinOp.sub 3 (Operand.tmp 66) (Operand.tmp 68) need14 t68) w fun t69 w =>
  m7_8 R name2 s3 d9 was10 n11 is12 t69 w)
  (m7_8 R name2 s3 d9 was10 n11 is12 need14 w)
def m7_7 (R : VP) (name2 s3 d9 was10 n11 is12 need14 : Value) (w : World) : Prop :=
  m7_19 R name2 s3 d9 was10 n11 is12 need14 is12 w
def m7_6 (R : VP) (name2 s3 d9 was10 n11 is12 : Value) (w : World) : Prop :=
  builtinP Tryd.prog Builtin.len #[9] 3 #[false] #[s3] w fun t62 w =>
  valP Tryd.prog (binS BinOp.add 3 (Operand.tmp 60) (Operand.tmp 62) n11 t62) w fun t63 w =>
  callP Tryd.prog (fnV 21) #[t63] w fun t64 w =>
  m7_7 R name2 s3 d9 was10 n11 is12 t64 w
def m7_26 (R : VP) (K1 : (Value × Value × Value) → World → Prop) (name2 s3 d9 was10 n11 is12 i13 t37 : Value) (w : World) : Prop :=
  condP t37
  (m7_22 R K1 name2 s3 d9 was10 n11 is12 i13 w)
  (m7_6 R name2 s3 d9 was10 n11 is12 w)
def m7_21 (R : VP) (K1 : (Value × Value × Value) → World → Prop) (name2 s3 d9 was10 n11 is12 i13 : Value) (w : World) : Prop :=
  builtinP Tryd.prog Builtin.len #[38] 3 #[false] #[was10] w fun t36 w =>
  valP Tryd.prog (binS BinOp.lss 3 (Operand.tmp 34) (Operand.tmp 36) i13 t36) w fun t37 w =>
  m7_26 R K1 name2 s3 d9 was10 n11 is12 i13 t37 w
def m7_20 (R : VP) (name2 s3 d9 was10 n11 is12 i13 : Value) (w : World) : Prop :=
  loopP (fun (K1 : (Value × Value × Value) → World → Prop) (s : Value × Value × Value) w => m7_21 R K1 name2 s3 d9 was10 s.1 s.2.1 s.2.2 w) (n11, is12, i13) w
def m7_5 (R : VP) (name2 s3 d9 was10 n11 is12 : Value) (w : World) : Prop :=
  m7_20 R name2 s3 d9 was10 n11 is12 (Value.int IntKind.i64 0) w
def m7_4 (R : VP) (name2 s3 d9 was10 : Value) (w : World) : Prop :=
  m7_5 R name2 s3 d9 was10 (Value.int IntKind.i64 0) (Value.bool false) w
def m7_3 (R : VP) (name2 s3 d9 : Value) (w : World) : Prop :=
  callP Tryd.prog (fnV 20) #[d9] w fun t33 w =>
  m7_4 R name2 s3 d9 t33 w
def m7_27 (R : VP) (name2 s3 d9 t30 : Value) (w : World) : Prop :=
  condP t30
  (callP Tryd.prog (fnV 17) #[] w fun t31 w =>
  m7_28 R t31 w)
  (m7_3 R name2 s3 d9 w)
def m7_2 (R : VP) (name2 s3 d9 : Value) (w : World) : Prop :=
  valP Tryd.prog (binS BinOp.eql 23 (Operand.tmp 24) (Operand.const (Value.pointer none)) d9 (Value.pointer none)) w fun t25 w =>
  condP t25
  (pickP t25 (Value.bool true) undef fun t30 =>
  m7_27 R name2 s3 d9 t30 w)
  (builtinP Tryd.prog Builtin.len #[9] 3 #[false] #[s3] w fun t28 w =>
  valP Tryd.prog (binS BinOp.gtr 3 (Operand.tmp 28) (Operand.const (Value.int IntKind.i64 2097152)) t28 (Value.int IntKind.i64 2097152)) w fun t29 w =>
  pickP t25 (Value.bool true) t29 fun t30 =>
  m7_27 R name2 s3 d9 t30 w)
def m7_1 (R : VP) (size0 l1 name2 s3 : Value) (w : World) : Prop :=
  callP Tryd.prog (fnV 18) #[size0, l1] w fun t23 w =>
  m7_2 R name2 s3 t23 w
def m7_0 (R : VP) (size0 l1 name2 s3 : Value) (w : World) : Prop :=
  m7_1 R size0 l1 name2 s3 w
abbrev W7 := cwp Tryd.prog (fun i => cond (Nat.beq i 10) 1 (0))
noncomputable def k7_0 : Code := (bodyOf Tryd.f7)
noncomputable def k7_1 : Code := (c2 k7_0)
noncomputable def k7_2 : Code := (c2 k7_1)
noncomputable def k7_3 : Code := (c2 k7_2)
noncomputable def k7_4 : Code := (c2 k7_3)
noncomputable def k7_5 : Code := (c2 k7_4)
noncomputable def k7_6 : Code := (c2 k7_5)
noncomputable def k7_7 : Code := (c2 k7_6)
noncomputable def k7_8 : Code := (c2 k7_7)
noncomputable def k7_9 : Code := (c2 k7_8)
noncomputable def k7_10 : Code := (c2 k7_9)
noncomputable def k7_11 : Code := (c2 k7_10)
noncomputable def k7_12 : Code := (c2 k7_11)
noncomputable def k7_13 : Code := (c2 k7_12)
noncomputable def k7_14 : Code := (c2 k7_13)
noncomputable def k7_15 : Code := (c2 k7_14)
noncomputable def k7_16 : Code := (c2 (c1 k7_12))
noncomputable def k7_17 : Code := (c2 (c1 k7_16))
noncomputable def k7_18 : Code := (c2 k7_17)
noncomputable def k7_19 : Code := (c2 (c1 k7_7))
noncomputable def k7_20 : Code := (c2 (c1 k7_5))
noncomputable def k7_21 : Code := (c1 (c1 k7_20))
noncomputable def k7_22 : Code := (c2 k7_21)
noncomputable def k7_23 : Code := (c2 k7_22)
noncomputable def k7_24 : Code := (c2 (c1 (c1 k7_22)))
noncomputable def k7_25 : Code := (c2 (c1 k7_24))
noncomputable def k7_26 : Code := (c2 (c1 k7_21))
noncomputable def k7_27 : Code := (c2 (c1 k7_2))
noncomputable def k7_28 : Code := (c2 (c1 k7_27))
theorem s7_28 {R : VP} {Q : EQ} (hR : ∀ e w, (R (e 8) w) → Q .ret e w) (e : Env) (w : World) (h : m7_28 R (e 8) w) : W7 k7_28 Q e w := by
  unfold m7_28 at h
  exact reA (hR _ _ h)
theorem s7_23 {R : VP} {K1 : (Value × Value × Value) → World → Prop} {Q : EQ} (hN : ∀ e w, (K1 ((e 11), (e 12), (e 13)) w) → Q .normal e w) (e : Env) (w : World) (h : m7_23 R K1 (e 2) (e 3) (e 9) (e 10) (e 11) (e 12) (e 13) w) : W7 k7_23 Q e w := by
  unfold m7_23 at h
  exact rgA 8 (fun e w => K1 ((e 11), (e 12), (e 13)) w) h hN
theorem s7_25 {R : VP} {K1 : (Value × Value × Value) → World → Prop} {Q : EQ} (hN : ∀ e w, (m7_23 R K1 (e 2) (e 3) (e 9) (e 10) (e 11) (e 12) (e 13) w) → Q .normal e w) (e : Env) (w : World) (h : m7_25 R K1 (e 2) (e 3) (e 9) (e 10) (e 11) (e 13) w) : W7 k7_25 Q e w := by
  unfold m7_25 at h
  exact rgA 11 (fun e w => m7_23 R K1 (e 2) (e 3) (e 9) (e 10) (e 11) (e 12) (e 13) w) h hN
theorem s7_24 {R : VP} {K1 : (Value × Value × Value) → World → Prop} {Q : EQ} (hN : ∀ e w, (m7_23 R K1 (e 2) (e 3) (e 9) (e 10) (e 11) (e 12) (e 13) w) → Q .normal e w) (e : Env) (w : World) (h : m7_24 R K1 (e 2) (e 3) (e 9) (e 10) (e 11) (e 12) (e 13) (e 46) w) : W7 k7_24 Q e w := by
  unfold m7_24 at h
  refine coA (Operand.tmp 46) h (fun h1 => ?_) (fun h1 => ?_)
  · refine seA ?_
    have hN : ∀ e w, (m7_25 R K1 (e 2) (e 3) (e 9) (e 10) (e 11) (e 13) w) → (thenE (W7 k7_25 Q) Q) .normal e w := fun e w h => then_N (s7_25 (R := R) (Q := Q) (K1 := K1) hN e w h)
    exact quA 10 (fun e w => m7_25 R K1 (e 2) (e 3) (e 9) (e 10) (e 11) (e 13) w) h1 hN
  · exact skA (hN _ _ h1)
theorem s7_22 {R : VP} {K1 : (Value × Value × Value) → World → Prop} {Q : EQ} (hN : ∀ e w, (K1 ((e 11), (e 12), (e 13)) w) → Q .normal e w) (e : Env) (w : World) (h : m7_22 R K1 (e 2) (e 3) (e 9) (e 10) (e 11) (e 12) (e 13) w) : W7 k7_22 Q e w := by
  unfold m7_22 at h
  refine seA ?_
  have hN : ∀ e w, (m7_23 R K1 (e 2) (e 3) (e 9) (e 10) (e 11) (e 12) (e 13) w) → (thenE (W7 k7_23 Q) Q) .normal e w := fun e w h => then_N (s7_23 (R := R) (Q := Q) (K1 := K1) hN e w h)
  refine block_ok 1 (by kernel_rfl) ?_
  have hN : ∀ e w, (m7_23 R K1 (e 2) (e 3) (e 9) (e 10) (e 11) (e 12) (e 13) w) → (inBlockE 1 (thenE (W7 k7_23 Q) Q)) .normal e w := fun e w h => block_N (hN e w h)
  refine seA ?_
  have hN : ∀ e w, (m7_24 R K1 (e 2) (e 3) (e 9) (e 10) (e 11) (e 12) (e 13) (e 46) w) → (thenE (W7 k7_24 (inBlockE 1 (thenE (W7 k7_23 Q) Q))) (inBlockE 1 (thenE (W7 k7_23 Q) Q))) .normal e w := fun e w h => then_N (s7_24 (R := R) (Q := (inBlockE 1 (thenE (W7 k7_23 Q) Q))) (K1 := K1) hN e w h)
  exact rgA 9 (fun e w => m7_24 R K1 (e 2) (e 3) (e 9) (e 10) (e 11) (e 12) (e 13) (e 46) w) h hN
theorem s7_18 {R : VP} {Q : EQ} (hR : ∀ e w, (R (e 8) w) → Q .ret e w) (e : Env) (w : World) (h : m7_18 R (e 8) w) : W7 k7_18 Q e w := by
  unfold m7_18 at h
  exact reA (hR _ _ h)
theorem s7_17 {R : VP} {Q : EQ} (hR : ∀ e w, (R (e 8) w) → Q .ret e w) (e : Env) (w : World) (h : m7_17 R (e 2) (e 9) (e 10) (e 16) (e 17) (e 18) w) : W7 k7_17 Q e w := by
  unfold m7_17 at h
  refine seA ?_
  have hN : ∀ e w, (m7_18 R (e 8) w) → (thenE (W7 k7_18 Q) Q) .normal e w := fun e w h => then_N (s7_18 (R := R) (Q := Q) hR e w h)
  exact rgK 21 (fun e w => m7_18 R (e 8) w) h hN
theorem s7_15 {R : VP} {Q : EQ} (hR : ∀ e w, (R (e 8) w) → Q .ret e w) (e : Env) (w : World) (h : m7_15 R (e 8) w) : W7 k7_15 Q e w := by
  unfold m7_15 at h
  exact reA (hR _ _ h)
theorem s7_14 {R : VP} {Q : EQ} (hR : ∀ e w, (R (e 8) w) → Q .ret e w) (e : Env) (w : World) (h : m7_14 R (e 3) (e 9) (e 11) (e 14) (e 15) (e 19) (e 20) w) : W7 k7_14 Q e w := by
  unfold m7_14 at h
  refine seA ?_
  have hN : ∀ e w, (m7_15 R (e 8) w) → (thenE (W7 k7_15 Q) Q) .normal e w := fun e w h => then_N (s7_15 (R := R) (Q := Q) hR e w h)
  exact rgK 23 (fun e w => m7_15 R (e 8) w) h hN
theorem s7_13 {R : VP} {Q : EQ} (hR : ∀ e w, (R (e 8) w) → Q .ret e w) (e : Env) (w : World) (h : m7_13 R (e 2) (e 3) (e 9) (e 11) (e 14) (e 15) w) : W7 k7_13 Q e w := by
  unfold m7_13 at h
  refine seA ?_
  have hN : ∀ e w, (m7_14 R (e 3) (e 9) (e 11) (e 14) (e 15) (e 19) (e 20) w) → (thenE (W7 k7_14 Q) Q) .normal e w := fun e w h => then_N (s7_14 (R := R) (Q := Q) hR e w h)
  exact rgA 22 (fun e w => m7_14 R (e 3) (e 9) (e 11) (e 14) (e 15) (e 19) (e 20) w) h hN
theorem s7_16 {R : VP} {Q : EQ} (hN : ∀ e w, (m7_13 R (e 2) (e 3) (e 9) (e 11) (e 14) (e 15) w) → Q .normal e w) (hR : ∀ e w, (R (e 8) w) → Q .ret e w) (e : Env) (w : World) (h : m7_16 R (e 2) (e 3) (e 9) (e 10) (e 11) (e 12) (e 14) (e 15) (e 16) (e 17) (e 81) w) : W7 k7_16 Q e w := by
  unfold m7_16 at h
  refine coA (Operand.tmp 81) h (fun h1 => ?_) (fun h1 => ?_)
  · refine seA ?_
    have hN : ∀ e w, (m7_17 R (e 2) (e 9) (e 10) (e 16) (e 17) (e 18) w) → (thenE (W7 k7_17 Q) Q) .normal e w := fun e w h => then_N (s7_17 (R := R) (Q := Q) hR e w h)
    exact rgA 20 (fun e w => m7_17 R (e 2) (e 9) (e 10) (e 16) (e 17) (e 18) w) h1 hN
  · exact skA (hN _ _ h1)
theorem s7_12 {R : VP} {Q : EQ} (hR : ∀ e w, (R (e 8) w) → Q .ret e w) (e : Env) (w : World) (h : m7_12 R (e 2) (e 3) (e 9) (e 10) (e 11) (e 12) (e 14) (e 15) (e 16) (e 17) w) : W7 k7_12 Q e w := by
  unfold m7_12 at h
  refine seA ?_
  have hN : ∀ e w, (m7_13 R (e 2) (e 3) (e 9) (e 11) (e 14) (e 15) w) → (thenE (W7 k7_13 Q) Q) .normal e w := fun e w h => then_N (s7_13 (R := R) (Q := Q) hR e w h)
  have hR : ∀ e w, (R (e 8) w) → (thenE (W7 k7_13 Q) Q) .ret e w := fun e w h => then_R (hR e w h)
  refine seA ?_
  have hN : ∀ e w, (m7_16 R (e 2) (e 3) (e 9) (e 10) (e 11) (e 12) (e 14) (e 15) (e 16) (e 17) (e 81) w) → (thenE (W7 k7_16 (thenE (W7 k7_13 Q) Q)) (thenE (W7 k7_13 Q) Q)) .normal e w := fun e w h => then_N (s7_16 (R := R) (Q := (thenE (W7 k7_13 Q) Q)) hN hR e w h)
  exact rgA 19 (fun e w => m7_16 R (e 2) (e 3) (e 9) (e 10) (e 11) (e 12) (e 14) (e 15) (e 16) (e 17) (e 81) w) h hN
theorem s7_11 {R : VP} {Q : EQ} (hR : ∀ e w, (R (e 8) w) → Q .ret e w) (e : Env) (w : World) (h : m7_11 R (e 2) (e 3) (e 9) (e 10) (e 11) (e 12) (e 14) (e 15) (e 16) w) : W7 k7_11 Q e w := by
  unfold m7_11 at h
  refine seA ?_
  have hN : ∀ e w, (m7_12 R (e 2) (e 3) (e 9) (e 10) (e 11) (e 12) (e 14) (e 15) (e 16) (e 17) w) → (thenE (W7 k7_12 Q) Q) .normal e w := fun e w h => then_N (s7_12 (R := R) (Q := Q) hR e w h)
  exact rgA 18 (fun e w => m7_12 R (e 2) (e 3) (e 9) (e 10) (e 11) (e 12) (e 14) (e 15) (e 16) (e 17) w) h hN
theorem s7_10 {R : VP} {Q : EQ} (hR : ∀ e w, (R (e 8) w) → Q .ret e w) (e : Env) (w : World) (h : m7_10 R (e 2) (e 3) (e 9) (e 10) (e 11) (e 12) (e 14) (e 15) w) : W7 k7_10 Q e w := by
  unfold m7_10 at h
  refine seA ?_
  have hN : ∀ e w, (m7_11 R (e 2) (e 3) (e 9) (e 10) (e 11) (e 12) (e 14) (e 15) (e 16) w) → (thenE (W7 k7_11 Q) Q) .normal e w := fun e w h => then_N (s7_11 (R := R) (Q := Q) hR e w h)
  exact rgA 17 (fun e w => m7_11 R (e 2) (e 3) (e 9) (e 10) (e 11) (e 12) (e 14) (e 15) (e 16) w) h hN
theorem s7_9 {R : VP} {Q : EQ} (hR : ∀ e w, (R (e 8) w) → Q .ret e w) (e : Env) (w : World) (h : m7_9 R (e 2) (e 3) (e 9) (e 10) (e 11) (e 12) (e 14) (e 15) w) : W7 k7_9 Q e w := by
  unfold m7_9 at h
  refine seA ?_
  have hN : ∀ e w, (m7_10 R (e 2) (e 3) (e 9) (e 10) (e 11) (e 12) (e 14) (e 15) w) → (thenE (W7 k7_10 Q) Q) .normal e w := fun e w h => then_N (s7_10 (R := R) (Q := Q) hR e w h)
  exact rgA 16 (fun e w => m7_10 R (e 2) (e 3) (e 9) (e 10) (e 11) (e 12) (e 14) (e 15) w) h hN
theorem s7_8 {R : VP} {Q : EQ} (hR : ∀ e w, (R (e 8) w) → Q .ret e w) (e : Env) (w : World) (h : m7_8 R (e 2) (e 3) (e 9) (e 10) (e 11) (e 12) (e 14) w) : W7 k7_8 Q e w := by
  unfold m7_8 at h
  refine seA ?_
  have hN : ∀ e w, (m7_9 R (e 2) (e 3) (e 9) (e 10) (e 11) (e 12) (e 14) (e 15) w) → (thenE (W7 k7_9 Q) Q) .normal e w := fun e w h => then_N (s7_9 (R := R) (Q := Q) hR e w h)
  exact rgA 15 (fun e w => m7_9 R (e 2) (e 3) (e 9) (e 10) (e 11) (e 12) (e 14) (e 15) w) h hN
theorem s7_19 {R : VP} {Q : EQ} (hN : ∀ e w, (m7_8 R (e 2) (e 3) (e 9) (e 10) (e 11) (e 12) (e 14) w) → Q .normal e w) (e : Env) (w : World) (h : m7_19 R (e 2) (e 3) (e 9) (e 10) (e 11) (e 12) (e 14) (e 65) w) : W7 k7_19 Q e w := by
  unfold m7_19 at h
  refine coA (Operand.tmp 65) h (fun h1 => ?_) (fun h1 => ?_)
  · exact rgA 14 (fun e w => m7_8 R (e 2) (e 3) (e 9) (e 10) (e 11) (e 12) (e 14) w) h1 hN
  · exact skA (hN _ _ h1)
theorem s7_7 {R : VP} {Q : EQ} (hR : ∀ e w, (R (e 8) w) → Q .ret e w) (e : Env) (w : World) (h : m7_7 R (e 2) (e 3) (e 9) (e 10) (e 11) (e 12) (e 14) w) : W7 k7_7 Q e w := by
  unfold m7_7 at h
  refine seA ?_
  have hN : ∀ e w, (m7_8 R (e 2) (e 3) (e 9) (e 10) (e 11) (e 12) (e 14) w) → (thenE (W7 k7_8 Q) Q) .normal e w := fun e w h => then_N (s7_8 (R := R) (Q := Q) hR e w h)
  refine seA ?_
  have hN : ∀ e w, (m7_19 R (e 2) (e 3) (e 9) (e 10) (e 11) (e 12) (e 14) (e 65) w) → (thenE (W7 k7_19 (thenE (W7 k7_8 Q) Q)) (thenE (W7 k7_8 Q) Q)) .normal e w := fun e w h => then_N (s7_19 (R := R) (Q := (thenE (W7 k7_8 Q) Q)) hN e w h)
  exact rgA 13 (fun e w => m7_19 R (e 2) (e 3) (e 9) (e 10) (e 11) (e 12) (e 14) (e 65) w) h hN
theorem s7_6 {R : VP} {Q : EQ} (hR : ∀ e w, (R (e 8) w) → Q .ret e w) (e : Env) (w : World) (h : m7_6 R (e 2) (e 3) (e 9) (e 10) (e 11) (e 12) w) : W7 k7_6 Q e w := by
  unfold m7_6 at h
  refine seA ?_
  have hN : ∀ e w, (m7_7 R (e 2) (e 3) (e 9) (e 10) (e 11) (e 12) (e 14) w) → (thenE (W7 k7_7 Q) Q) .normal e w := fun e w h => then_N (s7_7 (R := R) (Q := Q) hR e w h)
  exact rgA 12 (fun e w => m7_7 R (e 2) (e 3) (e 9) (e 10) (e 11) (e 12) (e 14) w) h hN
theorem s7_26 {R : VP} {K1 : (Value × Value × Value) → World → Prop} {Q : EQ} (hN : ∀ e w, (m7_22 R K1 (e 2) (e 3) (e 9) (e 10) (e 11) (e 12) (e 13) w) → Q .normal e w) (hX0 : ∀ e w, (m7_6 R (e 2) (e 3) (e 9) (e 10) (e 11) (e 12) w) → Q (.exit 0) e w) (e : Env) (w : World) (h : m7_26 R K1 (e 2) (e 3) (e 9) (e 10) (e 11) (e 12) (e 13) (e 37) w) : W7 k7_26 Q e w := by
  unfold m7_26 at h
  refine coA (Operand.tmp 37) h (fun h1 => ?_) (fun h1 => ?_)
  · exact skA (hN _ _ h1)
  · exact exA 0 (hX0 _ _ h1)
theorem s7_21 {R : VP} {K1 : (Value × Value × Value) → World → Prop} {Q : EQ} (hN : ∀ e w, (K1 ((e 11), (e 12), (e 13)) w) → Q .normal e w) (hX0 : ∀ e w, (m7_6 R (e 2) (e 3) (e 9) (e 10) (e 11) (e 12) w) → Q (.exit 0) e w) (e : Env) (w : World) (h : m7_21 R K1 (e 2) (e 3) (e 9) (e 10) (e 11) (e 12) (e 13) w) : W7 k7_21 Q e w := by
  unfold m7_21 at h
  refine seA ?_
  have hN : ∀ e w, (m7_22 R K1 (e 2) (e 3) (e 9) (e 10) (e 11) (e 12) (e 13) w) → (thenE (W7 k7_22 Q) Q) .normal e w := fun e w h => then_N (s7_22 (R := R) (Q := Q) (K1 := K1) hN e w h)
  have hX0 : ∀ e w, (m7_6 R (e 2) (e 3) (e 9) (e 10) (e 11) (e 12) w) → (thenE (W7 k7_22 Q) Q) (.exit 0) e w := fun e w h => then_X (hX0 e w h)
  refine seA ?_
  have hN : ∀ e w, (m7_26 R K1 (e 2) (e 3) (e 9) (e 10) (e 11) (e 12) (e 13) (e 37) w) → (thenE (W7 k7_26 (thenE (W7 k7_22 Q) Q)) (thenE (W7 k7_22 Q) Q)) .normal e w := fun e w h => then_N (s7_26 (R := R) (Q := (thenE (W7 k7_22 Q) Q)) (K1 := K1) hN hX0 e w h)
  exact rgA 7 (fun e w => m7_26 R K1 (e 2) (e 3) (e 9) (e 10) (e 11) (e 12) (e 13) (e 37) w) h hN
theorem s7_20 {R : VP} {Q : EQ} (hN : ∀ e w, (m7_6 R (e 2) (e 3) (e 9) (e 10) (e 11) (e 12) w) → Q .normal e w) (e : Env) (w : World) (h : m7_20 R (e 2) (e 3) (e 9) (e 10) (e 11) (e 12) (e 13) w) : W7 k7_20 Q e w := by
  unfold m7_20 at h
  refine block_ok 0 (by kernel_rfl) ?_
  have hX0 : ∀ e w, (m7_6 R (e 2) (e 3) (e 9) (e 10) (e 11) (e 12) w) → (inBlockE 0 Q) (.exit 0) e w := fun e w h => inBlock_same (Q := Q) 0 (hN e w h)
  refine loop_ok' (fun (e : Env) => (e 11, e 12, e 13)) [2, 3, 9, 10] (by kernel_rfl) (by kernel_rfl) h (fun K e' w' hk h' => ?_)
  have r2 : e' 2 = e 2 := hk 2 (by decide)
  have r3 : e' 3 = e 3 := hk 3 (by decide)
  have r9 : e' 9 = e 9 := hk 9 (by decide)
  have r10 : e' 10 = e 10 := hk 10 (by decide)
  have hX0 : ∀ e w, (m7_6 R (e 2) (e 3) (e 9) (e 10) (e 11) (e 12) w) → (thenE (fun (e : Env) w => K ((e 11), (e 12), (e 13)) w) (inBlockE 0 Q)) (.exit 0) e w := fun e w h => then_X (hX0 e w h)
  exact s7_21 (R := R) (Q := (thenE (fun (e : Env) w => K ((e 11), (e 12), (e 13)) w) (inBlockE 0 Q))) (K1 := K) (fun _ _ h => then_N h) hX0 e' w' (by rw [r2, r3, r9, r10]; exact h')
theorem s7_5 {R : VP} {Q : EQ} (hR : ∀ e w, (R (e 8) w) → Q .ret e w) (e : Env) (w : World) (h : m7_5 R (e 2) (e 3) (e 9) (e 10) (e 11) (e 12) w) : W7 k7_5 Q e w := by
  unfold m7_5 at h
  refine seA ?_
  have hN : ∀ e w, (m7_6 R (e 2) (e 3) (e 9) (e 10) (e 11) (e 12) w) → (thenE (W7 k7_6 Q) Q) .normal e w := fun e w h => then_N (s7_6 (R := R) (Q := Q) hR e w h)
  refine seA ?_
  have hN : ∀ e w, (m7_20 R (e 2) (e 3) (e 9) (e 10) (e 11) (e 12) (e 13) w) → (thenE (W7 k7_20 (thenE (W7 k7_6 Q) Q)) (thenE (W7 k7_6 Q) Q)) .normal e w := fun e w h => then_N (s7_20 (R := R) (Q := (thenE (W7 k7_6 Q) Q)) hN e w h)
  exact rgA 6 (fun e w => m7_20 R (e 2) (e 3) (e 9) (e 10) (e 11) (e 12) (e 13) w) h hN
theorem s7_4 {R : VP} {Q : EQ} (hR : ∀ e w, (R (e 8) w) → Q .ret e w) (e : Env) (w : World) (h : m7_4 R (e 2) (e 3) (e 9) (e 10) w) : W7 k7_4 Q e w := by
  unfold m7_4 at h
  refine seA ?_
  have hN : ∀ e w, (m7_5 R (e 2) (e 3) (e 9) (e 10) (e 11) (e 12) w) → (thenE (W7 k7_5 Q) Q) .normal e w := fun e w h => then_N (s7_5 (R := R) (Q := Q) hR e w h)
  exact rgA 5 (fun e w => m7_5 R (e 2) (e 3) (e 9) (e 10) (e 11) (e 12) w) h hN
theorem s7_3 {R : VP} {Q : EQ} (hR : ∀ e w, (R (e 8) w) → Q .ret e w) (e : Env) (w : World) (h : m7_3 R (e 2) (e 3) (e 9) w) : W7 k7_3 Q e w := by
  unfold m7_3 at h
  refine seA ?_
  have hN : ∀ e w, (m7_4 R (e 2) (e 3) (e 9) (e 10) w) → (thenE (W7 k7_4 Q) Q) .normal e w := fun e w h => then_N (s7_4 (R := R) (Q := Q) hR e w h)
  exact rgA 4 (fun e w => m7_4 R (e 2) (e 3) (e 9) (e 10) w) h hN
theorem s7_27 {R : VP} {Q : EQ} (hN : ∀ e w, (m7_3 R (e 2) (e 3) (e 9) w) → Q .normal e w) (hR : ∀ e w, (R (e 8) w) → Q .ret e w) (e : Env) (w : World) (h : m7_27 R (e 2) (e 3) (e 9) (e 30) w) : W7 k7_27 Q e w := by
  unfold m7_27 at h
  refine coA (Operand.tmp 30) h (fun h1 => ?_) (fun h1 => ?_)
  · refine seA ?_
    have hN : ∀ e w, (m7_28 R (e 8) w) → (thenE (W7 k7_28 Q) Q) .normal e w := fun e w h => then_N (s7_28 (R := R) (Q := Q) hR e w h)
    exact rgA 3 (fun e w => m7_28 R (e 8) w) h1 hN
  · exact skA (hN _ _ h1)
theorem s7_2 {R : VP} {Q : EQ} (hR : ∀ e w, (R (e 8) w) → Q .ret e w) (e : Env) (w : World) (h : m7_2 R (e 2) (e 3) (e 9) w) : W7 k7_2 Q e w := by
  unfold m7_2 at h
  refine seA ?_
  have hN : ∀ e w, (m7_3 R (e 2) (e 3) (e 9) w) → (thenE (W7 k7_3 Q) Q) .normal e w := fun e w h => then_N (s7_3 (R := R) (Q := Q) hR e w h)
  have hR : ∀ e w, (R (e 8) w) → (thenE (W7 k7_3 Q) Q) .ret e w := fun e w h => then_R (hR e w h)
  refine seA ?_
  have hN : ∀ e w, (m7_27 R (e 2) (e 3) (e 9) (e 30) w) → (thenE (W7 k7_27 (thenE (W7 k7_3 Q) Q)) (thenE (W7 k7_3 Q) Q)) .normal e w := fun e w h => then_N (s7_27 (R := R) (Q := (thenE (W7 k7_3 Q) Q)) hN hR e w h)
  exact rgA 2 (fun e w => m7_27 R (e 2) (e 3) (e 9) (e 30) w) h hN
theorem s7_1 {R : VP} {Q : EQ} (hR : ∀ e w, (R (e 8) w) → Q .ret e w) (e : Env) (w : World) (h : m7_1 R (e 0) (e 1) (e 2) (e 3) w) : W7 k7_1 Q e w := by
  unfold m7_1 at h
  refine seA ?_
  have hN : ∀ e w, (m7_2 R (e 2) (e 3) (e 9) w) → (thenE (W7 k7_2 Q) Q) .normal e w := fun e w h => then_N (s7_2 (R := R) (Q := Q) hR e w h)
  exact rgA 1 (fun e w => m7_2 R (e 2) (e 3) (e 9) w) h hN
theorem s7_0 {R : VP} {Q : EQ} (hR : ∀ e w, (R (e 8) w) → Q .ret e w) (e : Env) (w : World) (h : m7_0 R (e 0) (e 1) (e 2) (e 3) w) : W7 k7_0 Q e w := by
  unfold m7_0 at h
  refine seA ?_
  have hN : ∀ e w, (m7_1 R (e 0) (e 1) (e 2) (e 3) w) → (thenE (W7 k7_1 Q) Q) .normal e w := fun e w h => then_N (s7_1 (R := R) (Q := Q) hR e w h)
  exact rgA 0 (fun e w => m7_1 R (e 0) (e 1) (e 2) (e 3) w) h hN
abbrev m7 (R : VP) (size0 l1 name2 s3 : Value) (w : World) : Prop := m7_0 R size0 l1 name2 s3 w
theorem s7 (size0 l1 name2 s3 : Value) {R : VP} {w : World} (h : m7 R size0 l1 name2 s3 w) :
    Calls Tryd.prog 7 #[size0, l1, name2, s3] w fun e w' => ∃ v, e = .returned v ∧ R v w' :=
  calls_of_cwp (st := (fun i => cond (Nat.beq i 10) 1 (0))) (c := k7_0) (by kernel_rfl) Tryd.func7 (by kernel_rfl) (Nat.le_of_ble_eq_true (by kernel_rfl)) (by kernel_rfl)
    (s7_0 (R := R) (Q := endE Tryd.prog Tryd.f7 R) (fun e w h => kcast (by kernel_rfl) h) (argsE #[size0, l1, name2, s3]) w (kcast (by kernel_rfl) h))
/-! ### headgate/headgatelaw04.DiskCopies -/
def m8_18 (R : VP) (t6 : Value) (w : World) : Prop :=
  R t6 w
def m8_16 (R : VP) (t6 : Value) (w : World) : Prop :=
  R t6 w
def m8_13 (R : VP) (K1 : VP) (more2 d7 was8 free9 off10 c11 i12 : Value) (w : World) : Prop :=
  valP Tryd.prog (binS BinOp.add 3 (Operand.tmp 54) (Operand.const (Value.int IntKind.i64 1)) i12 (Value.int IntKind.i64 1)) w fun t55 w =>
  K1 t55 w
def m8_12 (R : VP) (K1 : VP) (more2 d7 was8 free9 off10 c11 i12 : Value) (w : World) : Prop :=
  valP Tryd.prog (Instr.indexAt 35 more2 i12) w fun t59 w =>
  valP Tryd.prog (Instr.loadAt 54 t59) w fun t60 w =>
  callP Tryd.prog (fnV 27) #[c11, t60] w fun t61 w =>
  m8_13 R K1 more2 d7 was8 free9 off10 c11 i12 w
def m8_9 (R : VP) (t6 : Value) (w : World) : Prop :=
  R t6 w
def m8_8 (R : VP) (d7 was8 free9 off10 : Value) (w : World) : Prop :=
  callP Tryd.prog (fnV 20) #[d7] w fun t63 w =>
  callP Tryd.prog (fnV 23) #[t63, was8] w fun t65 w =>
  condP t65
  (callP Tryd.prog (fnV 19) #[d7] w fun t68 w =>
  valP Tryd.prog (binS BinOp.eql 3 (Operand.tmp 68) (Operand.tmp 69) t68 free9) w fun t70 w =>
  pickP t65 t70 (Value.bool false) fun t71 =>
  condP t71
  (callP Tryd.prog (fnV 13) #[d7] w fun t74 w =>
  valP Tryd.prog (binS BinOp.eql 4 (Operand.tmp 74) (Operand.tmp 75) t74 off10) w fun t76 w =>
  pickP t71 t76 (Value.bool false) fun t77 =>
  condP t77
  (callP Tryd.prog (fnV 17) #[] w fun t79 w =>
  pickP t77 t79 (Value.bool false) fun t80 =>
  m8_9 R t80 w)
  (pickP t77 undef (Value.bool false) fun t80 =>
  m8_9 R t80 w))
  (pickP t71 undef (Value.bool false) fun t77 =>
  condP t77
  (callP Tryd.prog (fnV 17) #[] w fun t79 w =>
  pickP t77 t79 (Value.bool false) fun t80 =>
  m8_9 R t80 w)
  (pickP t77 undef (Value.bool false) fun t80 =>
  m8_9 R t80 w)))
  (pickP t65 undef (Value.bool false) fun t71 =>
  condP t71
  (callP Tryd.prog (fnV 13) #[d7] w fun t74 w =>
  valP Tryd.prog (binS BinOp.eql 4 (Operand.tmp 74) (Operand.tmp 75) t74 off10) w fun t76 w =>
  pickP t71 t76 (Value.bool false) fun t77 =>
  condP t77
  (callP Tryd.prog (fnV 17) #[] w fun t79 w =>
  pickP t77 t79 (Value.bool false) fun t80 =>
  m8_9 R t80 w)
  (pickP t77 undef (Value.bool false) fun t80 =>
  m8_9 R t80 w))
  (pickP t71 undef (Value.bool false) fun t77 =>
  condP t77
  (callP Tryd.prog (fnV 17) #[] w fun t79 w =>
  pickP t77 t79 (Value.bool false) fun t80 =>
  m8_9 R t80 w)
  (pickP t77 undef (Value.bool false) fun t80 =>
  m8_9 R t80 w)))
def m8_14 (R : VP) (K1 : VP) (more2 d7 was8 free9 off10 c11 i12 t53 : Value) (w : World) : Prop :=
  condP t53
  (m8_12 R K1 more2 d7 was8 free9 off10 c11 i12 w)
  (m8_8 R d7 was8 free9 off10 w)
def m8_11 (R : VP) (K1 : VP) (more2 d7 was8 free9 off10 c11 i12 : Value) (w : World) : Prop :=
  builtinP Tryd.prog Builtin.len #[35] 3 #[false] #[more2] w fun t52 w =>
  valP Tryd.prog (binS BinOp.lss 3 (Operand.tmp 50) (Operand.tmp 52) i12 t52) w fun t53 w =>
  m8_14 R K1 more2 d7 was8 free9 off10 c11 i12 t53 w
def m8_10 (R : VP) (more2 d7 was8 free9 off10 c11 i12 : Value) (w : World) : Prop :=
  loopP (fun (K1 : VP) (s : Value) w => m8_11 R K1 more2 d7 was8 free9 off10 c11 s w) i12 w
def m8_7 (R : VP) (more2 d7 was8 free9 off10 c11 : Value) (w : World) : Prop :=
  m8_10 R more2 d7 was8 free9 off10 c11 (Value.int IntKind.i64 0) w
def m8_6 (R : VP) (more2 d7 was8 free9 off10 c11 : Value) (w : World) : Prop :=
  callP Tryd.prog (fnV 26) #[more2] w fun t49 w =>
  m8_7 R t49 d7 was8 free9 off10 c11 w
def m8_15 (R : VP) (more2 d7 was8 free9 off10 c11 t47 : Value) (w : World) : Prop :=
  condP t47
  (m8_16 R (Value.bool false) w)
  (m8_6 R more2 d7 was8 free9 off10 c11 w)
def m8_5 (R : VP) (more2 d7 was8 free9 off10 c11 : Value) (w : World) : Prop :=
  valP Tryd.prog (binS BinOp.eql 23 (Operand.tmp 27) (Operand.const (Value.pointer none)) c11 (Value.pointer none)) w fun t28 w =>
  condP t28
  (pickP t28 (Value.bool true) undef fun t35 =>
  condP t35
  (pickP t35 (Value.bool true) undef fun t41 =>
  condP t41
  (pickP t41 (Value.bool true) undef fun t47 =>
  m8_15 R more2 d7 was8 free9 off10 c11 t47 w)
  (callP Tryd.prog (fnV 13) #[c11] w fun t44 w =>
  valP Tryd.prog (binS BinOp.neq 4 (Operand.tmp 44) (Operand.tmp 45) t44 off10) w fun t46 w =>
  pickP t41 (Value.bool true) t46 fun t47 =>
  m8_15 R more2 d7 was8 free9 off10 c11 t47 w))
  (callP Tryd.prog (fnV 19) #[c11] w fun t38 w =>
  valP Tryd.prog (binS BinOp.neq 3 (Operand.tmp 38) (Operand.tmp 39) t38 free9) w fun t40 w =>
  pickP t35 (Value.bool true) t40 fun t41 =>
  condP t41
  (pickP t41 (Value.bool true) undef fun t47 =>
  m8_15 R more2 d7 was8 free9 off10 c11 t47 w)
  (callP Tryd.prog (fnV 13) #[c11] w fun t44 w =>
  valP Tryd.prog (binS BinOp.neq 4 (Operand.tmp 44) (Operand.tmp 45) t44 off10) w fun t46 w =>
  pickP t41 (Value.bool true) t46 fun t47 =>
  m8_15 R more2 d7 was8 free9 off10 c11 t47 w)))
  (callP Tryd.prog (fnV 20) #[c11] w fun t31 w =>
  callP Tryd.prog (fnV 23) #[t31, was8] w fun t33 w =>
  valP Tryd.prog (Op.unary UnOp.not t33) w fun t34 w =>
  pickP t28 (Value.bool true) t34 fun t35 =>
  condP t35
  (pickP t35 (Value.bool true) undef fun t41 =>
  condP t41
  (pickP t41 (Value.bool true) undef fun t47 =>
  m8_15 R more2 d7 was8 free9 off10 c11 t47 w)
  (callP Tryd.prog (fnV 13) #[c11] w fun t44 w =>
  valP Tryd.prog (binS BinOp.neq 4 (Operand.tmp 44) (Operand.tmp 45) t44 off10) w fun t46 w =>
  pickP t41 (Value.bool true) t46 fun t47 =>
  m8_15 R more2 d7 was8 free9 off10 c11 t47 w))
  (callP Tryd.prog (fnV 19) #[c11] w fun t38 w =>
  valP Tryd.prog (binS BinOp.neq 3 (Operand.tmp 38) (Operand.tmp 39) t38 free9) w fun t40 w =>
  pickP t35 (Value.bool true) t40 fun t41 =>
  condP t41
  (pickP t41 (Value.bool true) undef fun t47 =>
  m8_15 R more2 d7 was8 free9 off10 c11 t47 w)
  (callP Tryd.prog (fnV 13) #[c11] w fun t44 w =>
  valP Tryd.prog (binS BinOp.neq 4 (Operand.tmp 44) (Operand.tmp 45) t44 off10) w fun t46 w =>
  pickP t41 (Value.bool true) t46 fun t47 =>
  m8_15 R more2 d7 was8 free9 off10 c11 t47 w)))
def m8_4 (R : VP) (more2 d7 was8 free9 off10 : Value) (w : World) : Prop :=
  callP Tryd.prog (fnV 25) #[d7] w fun t26 w =>
  m8_5 R more2 d7 was8 free9 off10 t26 w
def m8_3 (R : VP) (more2 d7 : Value) (w : World) : Prop :=
  callP Tryd.prog (fnV 20) #[d7] w fun t20 w =>
  callP Tryd.prog (fnV 19) #[d7] w fun t22 w =>
  callP Tryd.prog (fnV 13) #[d7] w fun t24 w =>
  m8_4 R more2 d7 t20 t22 t24 w
def m8_17 (R : VP) (more2 d7 t17 : Value) (w : World) : Prop :=
  condP t17
  (callP Tryd.prog (fnV 17) #[] w fun t18 w =>
  m8_18 R t18 w)
  (m8_3 R more2 d7 w)
def m8_2 (R : VP) (more2 d7 : Value) (w : World) : Prop :=
  valP Tryd.prog (binS BinOp.eql 23 (Operand.tmp 16) (Operand.const (Value.pointer none)) d7 (Value.pointer none)) w fun t17 w =>
  m8_17 R more2 d7 t17 w
def m8_1 (R : VP) (size0 l1 more2 : Value) (w : World) : Prop :=
  callP Tryd.prog (fnV 18) #[size0, l1] w fun t15 w =>
  m8_2 R more2 t15 w
def m8_0 (R : VP) (size0 l1 more2 : Value) (w : World) : Prop :=
  m8_1 R size0 l1 more2 w
abbrev W8 := cwp Tryd.prog (fun i => 0)
noncomputable def k8_0 : Code := (bodyOf Tryd.f8)
noncomputable def k8_1 : Code := (c2 k8_0)
noncomputable def k8_2 : Code := (c2 k8_1)
noncomputable def k8_3 : Code := (c2 k8_2)
noncomputable def k8_4 : Code := (c2 k8_3)
noncomputable def k8_5 : Code := (c2 k8_4)
noncomputable def k8_6 : Code := (c2 k8_5)
noncomputable def k8_7 : Code := (c2 k8_6)
noncomputable def k8_8 : Code := (c2 k8_7)
noncomputable def k8_9 : Code := (c2 k8_8)
noncomputable def k8_10 : Code := (c2 (c1 k8_7))
noncomputable def k8_11 : Code := (c1 (c1 k8_10))
noncomputable def k8_12 : Code := (c2 k8_11)
noncomputable def k8_13 : Code := (c2 k8_12)
noncomputable def k8_14 : Code := (c2 (c1 k8_11))
noncomputable def k8_15 : Code := (c2 (c1 k8_5))
noncomputable def k8_16 : Code := (c2 (c1 k8_15))
noncomputable def k8_17 : Code := (c2 (c1 k8_2))
noncomputable def k8_18 : Code := (c2 (c1 k8_17))
theorem s8_18 {R : VP} {Q : EQ} (hR : ∀ e w, (R (e 6) w) → Q .ret e w) (e : Env) (w : World) (h : m8_18 R (e 6) w) : W8 k8_18 Q e w := by
  unfold m8_18 at h
  exact reA (hR _ _ h)
theorem s8_16 {R : VP} {Q : EQ} (hR : ∀ e w, (R (e 6) w) → Q .ret e w) (e : Env) (w : World) (h : m8_16 R (e 6) w) : W8 k8_16 Q e w := by
  unfold m8_16 at h
  exact reA (hR _ _ h)
theorem s8_13 {R : VP} {K1 : VP} {Q : EQ} (hN : ∀ e w, (K1 (e 12) w) → Q .normal e w) (e : Env) (w : World) (h : m8_13 R K1 (e 2) (e 7) (e 8) (e 9) (e 10) (e 11) (e 12) w) : W8 k8_13 Q e w := by
  unfold m8_13 at h
  exact rgA 11 (fun e w => K1 (e 12) w) h hN
theorem s8_12 {R : VP} {K1 : VP} {Q : EQ} (hN : ∀ e w, (K1 (e 12) w) → Q .normal e w) (e : Env) (w : World) (h : m8_12 R K1 (e 2) (e 7) (e 8) (e 9) (e 10) (e 11) (e 12) w) : W8 k8_12 Q e w := by
  unfold m8_12 at h
  refine seA ?_
  have hN : ∀ e w, (m8_13 R K1 (e 2) (e 7) (e 8) (e 9) (e 10) (e 11) (e 12) w) → (thenE (W8 k8_13 Q) Q) .normal e w := fun e w h => then_N (s8_13 (R := R) (Q := Q) (K1 := K1) hN e w h)
  refine block_ok 1 (by kernel_rfl) ?_
  have hN : ∀ e w, (m8_13 R K1 (e 2) (e 7) (e 8) (e 9) (e 10) (e 11) (e 12) w) → (inBlockE 1 (thenE (W8 k8_13 Q) Q)) .normal e w := fun e w h => block_N (hN e w h)
  exact rgA 12 (fun e w => m8_13 R K1 (e 2) (e 7) (e 8) (e 9) (e 10) (e 11) (e 12) w) h hN
theorem s8_9 {R : VP} {Q : EQ} (hR : ∀ e w, (R (e 6) w) → Q .ret e w) (e : Env) (w : World) (h : m8_9 R (e 6) w) : W8 k8_9 Q e w := by
  unfold m8_9 at h
  exact reA (hR _ _ h)
theorem s8_8 {R : VP} {Q : EQ} (hR : ∀ e w, (R (e 6) w) → Q .ret e w) (e : Env) (w : World) (h : m8_8 R (e 7) (e 8) (e 9) (e 10) w) : W8 k8_8 Q e w := by
  unfold m8_8 at h
  refine seA ?_
  have hN : ∀ e w, (m8_9 R (e 6) w) → (thenE (W8 k8_9 Q) Q) .normal e w := fun e w h => then_N (s8_9 (R := R) (Q := Q) hR e w h)
  exact rgA 13 (fun e w => m8_9 R (e 6) w) h hN
theorem s8_14 {R : VP} {K1 : VP} {Q : EQ} (hN : ∀ e w, (m8_12 R K1 (e 2) (e 7) (e 8) (e 9) (e 10) (e 11) (e 12) w) → Q .normal e w) (hX0 : ∀ e w, (m8_8 R (e 7) (e 8) (e 9) (e 10) w) → Q (.exit 0) e w) (e : Env) (w : World) (h : m8_14 R K1 (e 2) (e 7) (e 8) (e 9) (e 10) (e 11) (e 12) (e 53) w) : W8 k8_14 Q e w := by
  unfold m8_14 at h
  refine coA (Operand.tmp 53) h (fun h1 => ?_) (fun h1 => ?_)
  · exact skA (hN _ _ h1)
  · exact exA 0 (hX0 _ _ h1)
theorem s8_11 {R : VP} {K1 : VP} {Q : EQ} (hN : ∀ e w, (K1 (e 12) w) → Q .normal e w) (hX0 : ∀ e w, (m8_8 R (e 7) (e 8) (e 9) (e 10) w) → Q (.exit 0) e w) (e : Env) (w : World) (h : m8_11 R K1 (e 2) (e 7) (e 8) (e 9) (e 10) (e 11) (e 12) w) : W8 k8_11 Q e w := by
  unfold m8_11 at h
  refine seA ?_
  have hN : ∀ e w, (m8_12 R K1 (e 2) (e 7) (e 8) (e 9) (e 10) (e 11) (e 12) w) → (thenE (W8 k8_12 Q) Q) .normal e w := fun e w h => then_N (s8_12 (R := R) (Q := Q) (K1 := K1) hN e w h)
  have hX0 : ∀ e w, (m8_8 R (e 7) (e 8) (e 9) (e 10) w) → (thenE (W8 k8_12 Q) Q) (.exit 0) e w := fun e w h => then_X (hX0 e w h)
  refine seA ?_
  have hN : ∀ e w, (m8_14 R K1 (e 2) (e 7) (e 8) (e 9) (e 10) (e 11) (e 12) (e 53) w) → (thenE (W8 k8_14 (thenE (W8 k8_12 Q) Q)) (thenE (W8 k8_12 Q) Q)) .normal e w := fun e w h => then_N (s8_14 (R := R) (Q := (thenE (W8 k8_12 Q) Q)) (K1 := K1) hN hX0 e w h)
  exact rgA 10 (fun e w => m8_14 R K1 (e 2) (e 7) (e 8) (e 9) (e 10) (e 11) (e 12) (e 53) w) h hN
theorem s8_10 {R : VP} {Q : EQ} (hN : ∀ e w, (m8_8 R (e 7) (e 8) (e 9) (e 10) w) → Q .normal e w) (e : Env) (w : World) (h : m8_10 R (e 2) (e 7) (e 8) (e 9) (e 10) (e 11) (e 12) w) : W8 k8_10 Q e w := by
  unfold m8_10 at h
  refine block_ok 0 (by kernel_rfl) ?_
  have hX0 : ∀ e w, (m8_8 R (e 7) (e 8) (e 9) (e 10) w) → (inBlockE 0 Q) (.exit 0) e w := fun e w h => inBlock_same (Q := Q) 0 (hN e w h)
  refine loop_ok' (fun (e : Env) => e 12) [2, 7, 8, 9, 10, 11] (by kernel_rfl) (by kernel_rfl) h (fun K e' w' hk h' => ?_)
  have r2 : e' 2 = e 2 := hk 2 (by decide)
  have r7 : e' 7 = e 7 := hk 7 (by decide)
  have r8 : e' 8 = e 8 := hk 8 (by decide)
  have r9 : e' 9 = e 9 := hk 9 (by decide)
  have r10 : e' 10 = e 10 := hk 10 (by decide)
  have r11 : e' 11 = e 11 := hk 11 (by decide)
  have hX0 : ∀ e w, (m8_8 R (e 7) (e 8) (e 9) (e 10) w) → (thenE (fun (e : Env) w => K (e 12) w) (inBlockE 0 Q)) (.exit 0) e w := fun e w h => then_X (hX0 e w h)
  exact s8_11 (R := R) (Q := (thenE (fun (e : Env) w => K (e 12) w) (inBlockE 0 Q))) (K1 := K) (fun _ _ h => then_N h) hX0 e' w' (by rw [r2, r7, r8, r9, r10, r11]; exact h')
theorem s8_7 {R : VP} {Q : EQ} (hR : ∀ e w, (R (e 6) w) → Q .ret e w) (e : Env) (w : World) (h : m8_7 R (e 2) (e 7) (e 8) (e 9) (e 10) (e 11) w) : W8 k8_7 Q e w := by
  unfold m8_7 at h
  refine seA ?_
  have hN : ∀ e w, (m8_8 R (e 7) (e 8) (e 9) (e 10) w) → (thenE (W8 k8_8 Q) Q) .normal e w := fun e w h => then_N (s8_8 (R := R) (Q := Q) hR e w h)
  refine seA ?_
  have hN : ∀ e w, (m8_10 R (e 2) (e 7) (e 8) (e 9) (e 10) (e 11) (e 12) w) → (thenE (W8 k8_10 (thenE (W8 k8_8 Q) Q)) (thenE (W8 k8_8 Q) Q)) .normal e w := fun e w h => then_N (s8_10 (R := R) (Q := (thenE (W8 k8_8 Q) Q)) hN e w h)
  exact rgA 9 (fun e w => m8_10 R (e 2) (e 7) (e 8) (e 9) (e 10) (e 11) (e 12) w) h hN
theorem s8_6 {R : VP} {Q : EQ} (hR : ∀ e w, (R (e 6) w) → Q .ret e w) (e : Env) (w : World) (h : m8_6 R (e 2) (e 7) (e 8) (e 9) (e 10) (e 11) w) : W8 k8_6 Q e w := by
  unfold m8_6 at h
  refine seA ?_
  have hN : ∀ e w, (m8_7 R (e 2) (e 7) (e 8) (e 9) (e 10) (e 11) w) → (thenE (W8 k8_7 Q) Q) .normal e w := fun e w h => then_N (s8_7 (R := R) (Q := Q) hR e w h)
  exact rgA 8 (fun e w => m8_7 R (e 2) (e 7) (e 8) (e 9) (e 10) (e 11) w) h hN
theorem s8_15 {R : VP} {Q : EQ} (hN : ∀ e w, (m8_6 R (e 2) (e 7) (e 8) (e 9) (e 10) (e 11) w) → Q .normal e w) (hR : ∀ e w, (R (e 6) w) → Q .ret e w) (e : Env) (w : World) (h : m8_15 R (e 2) (e 7) (e 8) (e 9) (e 10) (e 11) (e 47) w) : W8 k8_15 Q e w := by
  unfold m8_15 at h
  refine coA (Operand.tmp 47) h (fun h1 => ?_) (fun h1 => ?_)
  · refine seA ?_
    have hN : ∀ e w, (m8_16 R (e 6) w) → (thenE (W8 k8_16 Q) Q) .normal e w := fun e w h => then_N (s8_16 (R := R) (Q := Q) hR e w h)
    exact rgA 7 (fun e w => m8_16 R (e 6) w) h1 hN
  · exact skA (hN _ _ h1)
theorem s8_5 {R : VP} {Q : EQ} (hR : ∀ e w, (R (e 6) w) → Q .ret e w) (e : Env) (w : World) (h : m8_5 R (e 2) (e 7) (e 8) (e 9) (e 10) (e 11) w) : W8 k8_5 Q e w := by
  unfold m8_5 at h
  refine seA ?_
  have hN : ∀ e w, (m8_6 R (e 2) (e 7) (e 8) (e 9) (e 10) (e 11) w) → (thenE (W8 k8_6 Q) Q) .normal e w := fun e w h => then_N (s8_6 (R := R) (Q := Q) hR e w h)
  have hR : ∀ e w, (R (e 6) w) → (thenE (W8 k8_6 Q) Q) .ret e w := fun e w h => then_R (hR e w h)
  refine seA ?_
  have hN : ∀ e w, (m8_15 R (e 2) (e 7) (e 8) (e 9) (e 10) (e 11) (e 47) w) → (thenE (W8 k8_15 (thenE (W8 k8_6 Q) Q)) (thenE (W8 k8_6 Q) Q)) .normal e w := fun e w h => then_N (s8_15 (R := R) (Q := (thenE (W8 k8_6 Q) Q)) hN hR e w h)
  exact rgA 6 (fun e w => m8_15 R (e 2) (e 7) (e 8) (e 9) (e 10) (e 11) (e 47) w) h hN
theorem s8_4 {R : VP} {Q : EQ} (hR : ∀ e w, (R (e 6) w) → Q .ret e w) (e : Env) (w : World) (h : m8_4 R (e 2) (e 7) (e 8) (e 9) (e 10) w) : W8 k8_4 Q e w := by
  unfold m8_4 at h
  refine seA ?_
  have hN : ∀ e w, (m8_5 R (e 2) (e 7) (e 8) (e 9) (e 10) (e 11) w) → (thenE (W8 k8_5 Q) Q) .normal e w := fun e w h => then_N (s8_5 (R := R) (Q := Q) hR e w h)
  exact rgA 5 (fun e w => m8_5 R (e 2) (e 7) (e 8) (e 9) (e 10) (e 11) w) h hN
theorem s8_3 {R : VP} {Q : EQ} (hR : ∀ e w, (R (e 6) w) → Q .ret e w) (e : Env) (w : World) (h : m8_3 R (e 2) (e 7) w) : W8 k8_3 Q e w := by
  unfold m8_3 at h
  refine seA ?_
  have hN : ∀ e w, (m8_4 R (e 2) (e 7) (e 8) (e 9) (e 10) w) → (thenE (W8 k8_4 Q) Q) .normal e w := fun e w h => then_N (s8_4 (R := R) (Q := Q) hR e w h)
  exact rgA 4 (fun e w => m8_4 R (e 2) (e 7) (e 8) (e 9) (e 10) w) h hN
theorem s8_17 {R : VP} {Q : EQ} (hN : ∀ e w, (m8_3 R (e 2) (e 7) w) → Q .normal e w) (hR : ∀ e w, (R (e 6) w) → Q .ret e w) (e : Env) (w : World) (h : m8_17 R (e 2) (e 7) (e 17) w) : W8 k8_17 Q e w := by
  unfold m8_17 at h
  refine coA (Operand.tmp 17) h (fun h1 => ?_) (fun h1 => ?_)
  · refine seA ?_
    have hN : ∀ e w, (m8_18 R (e 6) w) → (thenE (W8 k8_18 Q) Q) .normal e w := fun e w h => then_N (s8_18 (R := R) (Q := Q) hR e w h)
    exact rgA 3 (fun e w => m8_18 R (e 6) w) h1 hN
  · exact skA (hN _ _ h1)
theorem s8_2 {R : VP} {Q : EQ} (hR : ∀ e w, (R (e 6) w) → Q .ret e w) (e : Env) (w : World) (h : m8_2 R (e 2) (e 7) w) : W8 k8_2 Q e w := by
  unfold m8_2 at h
  refine seA ?_
  have hN : ∀ e w, (m8_3 R (e 2) (e 7) w) → (thenE (W8 k8_3 Q) Q) .normal e w := fun e w h => then_N (s8_3 (R := R) (Q := Q) hR e w h)
  have hR : ∀ e w, (R (e 6) w) → (thenE (W8 k8_3 Q) Q) .ret e w := fun e w h => then_R (hR e w h)
  refine seA ?_
  have hN : ∀ e w, (m8_17 R (e 2) (e 7) (e 17) w) → (thenE (W8 k8_17 (thenE (W8 k8_3 Q) Q)) (thenE (W8 k8_3 Q) Q)) .normal e w := fun e w h => then_N (s8_17 (R := R) (Q := (thenE (W8 k8_3 Q) Q)) hN hR e w h)
  exact rgA 2 (fun e w => m8_17 R (e 2) (e 7) (e 17) w) h hN
theorem s8_1 {R : VP} {Q : EQ} (hR : ∀ e w, (R (e 6) w) → Q .ret e w) (e : Env) (w : World) (h : m8_1 R (e 0) (e 1) (e 2) w) : W8 k8_1 Q e w := by
  unfold m8_1 at h
  refine seA ?_
  have hN : ∀ e w, (m8_2 R (e 2) (e 7) w) → (thenE (W8 k8_2 Q) Q) .normal e w := fun e w h => then_N (s8_2 (R := R) (Q := Q) hR e w h)
  exact rgA 1 (fun e w => m8_2 R (e 2) (e 7) w) h hN
theorem s8_0 {R : VP} {Q : EQ} (hR : ∀ e w, (R (e 6) w) → Q .ret e w) (e : Env) (w : World) (h : m8_0 R (e 0) (e 1) (e 2) w) : W8 k8_0 Q e w := by
  unfold m8_0 at h
  refine seA ?_
  have hN : ∀ e w, (m8_1 R (e 0) (e 1) (e 2) w) → (thenE (W8 k8_1 Q) Q) .normal e w := fun e w h => then_N (s8_1 (R := R) (Q := Q) hR e w h)
  exact rgA 0 (fun e w => m8_1 R (e 0) (e 1) (e 2) w) h hN
abbrev m8 (R : VP) (size0 l1 more2 : Value) (w : World) : Prop := m8_0 R size0 l1 more2 w
theorem s8 (size0 l1 more2 : Value) {R : VP} {w : World} (h : m8 R size0 l1 more2 w) :
    Calls Tryd.prog 8 #[size0, l1, more2] w fun e w' => ∃ v, e = .returned v ∧ R v w' :=
  calls_of_cwp (st := (fun i => 0)) (c := k8_0) (by kernel_rfl) Tryd.func8 (by kernel_rfl) (Nat.le_of_ble_eq_true (by kernel_rfl)) (by kernel_rfl)
    (s8_0 (R := R) (Q := endE Tryd.prog Tryd.f8 R) (fun e w h => kcast (by kernel_rfl) h) (argsE #[size0, l1, more2]) w (kcast (by kernel_rfl) h))
/-! ### headgate/headgatelaw04.DiskNone -/
def m9_6 (R : VP) (t6 : Value) (w : World) : Prop :=
  R t6 w
def m9_5 (R : VP) (name0 s1 n2 d7 t8 e9 : Value) (w : World) : Prop :=
  callP Tryd.prog (fnV 12) #[d7, name0, s1] w fun t26 w =>
  valP Tryd.prog (binS BinOp.eql 24 (Operand.tmp 26) (Operand.const (Value.int IntKind.i64 1)) t26 (Value.int IntKind.i64 1)) w fun t27 w =>
  condP t27
  (callP Tryd.prog (fnV 28) #[d7, name0] w fun t31 w =>
  valP Tryd.prog (binS BinOp.eql 24 (Operand.tmp 31) (Operand.const (Value.int IntKind.i64 1)) t31 (Value.int IntKind.i64 1)) w fun t32 w =>
  pickP t27 t32 (Value.bool false) fun t33 =>
  condP t33
  (callP Tryd.prog (fnV 29) #[d7, name0, n2] w fun t38 w =>
  valP Tryd.prog (binS BinOp.eql 24 (Operand.tmp 38) (Operand.const (Value.int IntKind.i64 1)) t38 (Value.int IntKind.i64 1)) w fun t39 w =>
  pickP t33 t39 (Value.bool false) fun t40 =>
  condP t40
  (callP Tryd.prog (fnV 22) #[d7, name0, s1] w fun t45 w =>
  valP Tryd.prog (binS BinOp.eql 24 (Operand.tmp 45) (Operand.const (Value.int IntKind.i64 1)) t45 (Value.int IntKind.i64 1)) w fun t46 w =>
  pickP t40 t46 (Value.bool false) fun t47 =>
  condP t47
  (callP Tryd.prog (fnV 30) #[d7, name0] w fun t51 w =>
  valP Tryd.prog (binS BinOp.eql 24 (Operand.tmp 51) (Operand.const (Value.int IntKind.i64 1)) t51 (Value.int IntKind.i64 1)) w fun t52 w =>
  pickP t47 t52 (Value.bool false) fun t53 =>
  condP t53
  (valP Tryd.prog (binS BinOp.eql 9 (Operand.tmp 55) (Operand.const (Value.string ⟨#[]⟩)) t8 (Value.string ⟨#[]⟩)) w fun t56 w =>
  pickP t53 t56 (Value.bool false) fun t57 =>
  condP t57
  (valP Tryd.prog (binS BinOp.eql 24 (Operand.tmp 59) (Operand.const (Value.int IntKind.i64 1)) e9 (Value.int IntKind.i64 1)) w fun t60 w =>
  pickP t57 t60 (Value.bool false) fun t61 =>
  condP t61
  (callP Tryd.prog (fnV 20) #[d7] w fun t64 w =>
  builtinP Tryd.prog Builtin.len #[38] 3 #[false] #[t64] w fun t65 w =>
  valP Tryd.prog (binS BinOp.eql 3 (Operand.tmp 65) (Operand.const (Value.int IntKind.i64 0)) t65 (Value.int IntKind.i64 0)) w fun t66 w =>
  pickP t61 t66 (Value.bool false) fun t67 =>
  condP t67
  (callP Tryd.prog (fnV 19) #[d7] w fun t70 w =>
  valP Tryd.prog (binS BinOp.eql 3 (Operand.tmp 70) (Operand.const (Value.int IntKind.i64 0)) t70 (Value.int IntKind.i64 0)) w fun t71 w =>
  pickP t67 t71 (Value.bool false) fun t72 =>
  condP t72
  (callP Tryd.prog (fnV 13) #[d7] w fun t75 w =>
  pickP t72 t75 (Value.bool false) fun t76 =>
  condP t76
  (callP Tryd.prog (fnV 25) #[d7] w fun t79 w =>
  valP Tryd.prog (binS BinOp.eql 23 (Operand.tmp 79) (Operand.const (Value.pointer none)) t79 (Value.pointer none)) w fun t80 w =>
  pickP t76 t80 (Value.bool false) fun t81 =>
  condP t81
  (callP Tryd.prog (fnV 17) #[] w fun t83 w =>
  pickP t81 t83 (Value.bool false) fun t84 =>
  m9_6 R t84 w)
  (pickP t81 undef (Value.bool false) fun t84 =>
  m9_6 R t84 w))
  (pickP t76 undef (Value.bool false) fun t81 =>
  pickP t81 undef (Value.bool false) fun t84 =>
  m9_6 R t84 w))
  (pickP t72 undef (Value.bool false) fun t76 =>
  pickP t76 undef (Value.bool false) fun t81 =>
  pickP t81 undef (Value.bool false) fun t84 =>
  m9_6 R t84 w))
  (pickP t67 undef (Value.bool false) fun t72 =>
  pickP t72 undef (Value.bool false) fun t76 =>
  pickP t76 undef (Value.bool false) fun t81 =>
  pickP t81 undef (Value.bool false) fun t84 =>
  m9_6 R t84 w))
  (pickP t61 undef (Value.bool false) fun t67 =>
  pickP t67 undef (Value.bool false) fun t72 =>
  pickP t72 undef (Value.bool false) fun t76 =>
  pickP t76 undef (Value.bool false) fun t81 =>
  pickP t81 undef (Value.bool false) fun t84 =>
  m9_6 R t84 w))
  (pickP t57 undef (Value.bool false) fun t61 =>
  pickP t61 undef (Value.bool false) fun t67 =>
  pickP t67 undef (Value.bool false) fun t72 =>
  pickP t72 undef (Value.bool false) fun t76 =>
  pickP t76 undef (Value.bool false) fun t81 =>
  pickP t81 undef (Value.bool false) fun t84 =>
  m9_6 R t84 w))
  (pickP t53 undef (Value.bool false) fun t57 =>
  pickP t57 undef (Value.bool false) fun t61 =>
  pickP t61 undef (Value.bool false) fun t67 =>
  pickP t67 undef (Value.bool false) fun t72 =>
  pickP t72 undef (Value.bool false) fun t76 =>
  pickP t76 undef (Value.bool false) fun t81 =>
  pickP t81 undef (Value.bool false) fun t84 =>
  m9_6 R t84 w))
  (pickP t47 undef (Value.bool false) fun t53 =>
  pickP t53 undef (Value.bool false) fun t57 =>
  pickP t57 undef (Value.bool false) fun t61 =>
  pickP t61 undef (Value.bool false) fun t67 =>
  pickP t67 undef (Value.bool false) fun t72 =>
  pickP t72 undef (Value.bool false) fun t76 =>
  pickP t76 undef (Value.bool false) fun t81 =>
  pickP t81 undef (Value.bool false) fun t84 =>
  m9_6 R t84 w))
  (pickP t40 undef (Value.bool false) fun t47 =>
  pickP t47 undef (Value.bool false) fun t53 =>
  pickP t53 undef (Value.bool false) fun t57 =>
  pickP t57 undef (Value.bool false) fun t61 =>
  pickP t61 undef (Value.bool false) fun t67 =>
  pickP t67 undef (Value.bool false) fun t72 =>
  pickP t72 undef (Value.bool false) fun t76 =>
  pickP t76 undef (Value.bool false) fun t81 =>
  pickP t81 undef (Value.bool false) fun t84 =>
  m9_6 R t84 w))
  (pickP t33 undef (Value.bool false) fun t40 =>
  pickP t40 undef (Value.bool false) fun t47 =>
  pickP t47 undef (Value.bool false) fun t53 =>
  pickP t53 undef (Value.bool false) fun t57 =>
  pickP t57 undef (Value.bool false) fun t61 =>
  pickP t61 undef (Value.bool false) fun t67 =>
  pickP t67 undef (Value.bool false) fun t72 =>
  pickP t72 undef (Value.bool false) fun t76 =>
  pickP t76 undef (Value.bool false) fun t81 =>
  pickP t81 undef (Value.bool false) fun t84 =>
  m9_6 R t84 w))
  (pickP t27 undef (Value.bool false) fun t33 =>
  pickP t33 undef (Value.bool false) fun t40 =>
  pickP t40 undef (Value.bool false) fun t47 =>
  pickP t47 undef (Value.bool false) fun t53 =>
  pickP t53 undef (Value.bool false) fun t57 =>
  pickP t57 undef (Value.bool false) fun t61 =>
  pickP t61 undef (Value.bool false) fun t67 =>
  pickP t67 undef (Value.bool false) fun t72 =>
  pickP t72 undef (Value.bool false) fun t76 =>
  pickP t76 undef (Value.bool false) fun t81 =>
  pickP t81 undef (Value.bool false) fun t84 =>
  m9_6 R t84 w)
def m9_4 (R : VP) (name0 s1 n2 d7 : Value) (w : World) : Prop :=
  callP Tryd.prog (fnV 15) #[d7, name0] w fun t20 w =>
  valP Tryd.prog (Instr.extract t20 0) w fun t21 w =>
  valP Tryd.prog (Instr.extract t20 1) w fun t22 w =>
  m9_5 R name0 s1 n2 d7 t21 t22 w
def m9_3 (R : VP) (name0 s1 n2 d7 : Value) (w : World) : Prop :=
  callP Tryd.prog (fnV 11) #[d7, n2] w fun t16 w =>
  m9_4 R name0 s1 n2 d7 w
def m9_2 (R : VP) (name0 s1 n2 d7 : Value) (w : World) : Prop :=
  valP Tryd.prog (Instr.buildSlice 46 1 #[(0, n2)]) w fun t12 w =>
  callP Tryd.prog (fnV 14) #[d7, t12] w fun t13 w =>
  m9_3 R name0 s1 n2 d7 w
def m9_1 (R : VP) (name0 s1 n2 : Value) (w : World) : Prop :=
  m9_2 R name0 s1 n2 (Value.pointer none) w
def m9_0 (R : VP) (name0 s1 n2 : Value) (w : World) : Prop :=
  m9_1 R name0 s1 n2 w
abbrev W9 := cwp Tryd.prog (fun i => 0)
noncomputable def k9_0 : Code := (bodyOf Tryd.f9)
noncomputable def k9_1 : Code := (c2 k9_0)
noncomputable def k9_2 : Code := (c2 k9_1)
noncomputable def k9_3 : Code := (c2 k9_2)
noncomputable def k9_4 : Code := (c2 k9_3)
noncomputable def k9_5 : Code := (c2 k9_4)
noncomputable def k9_6 : Code := (c2 k9_5)
theorem s9_6 {R : VP} {Q : EQ} (hR : ∀ e w, (R (e 6) w) → Q .ret e w) (e : Env) (w : World) (h : m9_6 R (e 6) w) : W9 k9_6 Q e w := by
  unfold m9_6 at h
  exact reA (hR _ _ h)
theorem s9_5 {R : VP} {Q : EQ} (hR : ∀ e w, (R (e 6) w) → Q .ret e w) (e : Env) (w : World) (h : m9_5 R (e 0) (e 1) (e 2) (e 7) (e 8) (e 9) w) : W9 k9_5 Q e w := by
  unfold m9_5 at h
  refine seA ?_
  have hN : ∀ e w, (m9_6 R (e 6) w) → (thenE (W9 k9_6 Q) Q) .normal e w := fun e w h => then_N (s9_6 (R := R) (Q := Q) hR e w h)
  exact rgK 5 (fun e w => m9_6 R (e 6) w) h hN
theorem s9_4 {R : VP} {Q : EQ} (hR : ∀ e w, (R (e 6) w) → Q .ret e w) (e : Env) (w : World) (h : m9_4 R (e 0) (e 1) (e 2) (e 7) w) : W9 k9_4 Q e w := by
  unfold m9_4 at h
  refine seA ?_
  have hN : ∀ e w, (m9_5 R (e 0) (e 1) (e 2) (e 7) (e 8) (e 9) w) → (thenE (W9 k9_5 Q) Q) .normal e w := fun e w h => then_N (s9_5 (R := R) (Q := Q) hR e w h)
  exact rgA 4 (fun e w => m9_5 R (e 0) (e 1) (e 2) (e 7) (e 8) (e 9) w) h hN
theorem s9_3 {R : VP} {Q : EQ} (hR : ∀ e w, (R (e 6) w) → Q .ret e w) (e : Env) (w : World) (h : m9_3 R (e 0) (e 1) (e 2) (e 7) w) : W9 k9_3 Q e w := by
  unfold m9_3 at h
  refine seA ?_
  have hN : ∀ e w, (m9_4 R (e 0) (e 1) (e 2) (e 7) w) → (thenE (W9 k9_4 Q) Q) .normal e w := fun e w h => then_N (s9_4 (R := R) (Q := Q) hR e w h)
  exact rgA 3 (fun e w => m9_4 R (e 0) (e 1) (e 2) (e 7) w) h hN
theorem s9_2 {R : VP} {Q : EQ} (hR : ∀ e w, (R (e 6) w) → Q .ret e w) (e : Env) (w : World) (h : m9_2 R (e 0) (e 1) (e 2) (e 7) w) : W9 k9_2 Q e w := by
  unfold m9_2 at h
  refine seA ?_
  have hN : ∀ e w, (m9_3 R (e 0) (e 1) (e 2) (e 7) w) → (thenE (W9 k9_3 Q) Q) .normal e w := fun e w h => then_N (s9_3 (R := R) (Q := Q) hR e w h)
  exact rgA 2 (fun e w => m9_3 R (e 0) (e 1) (e 2) (e 7) w) h hN
theorem s9_1 {R : VP} {Q : EQ} (hR : ∀ e w, (R (e 6) w) → Q .ret e w) (e : Env) (w : World) (h : m9_1 R (e 0) (e 1) (e 2) w) : W9 k9_1 Q e w := by
  unfold m9_1 at h
  refine seA ?_
  have hN : ∀ e w, (m9_2 R (e 0) (e 1) (e 2) (e 7) w) → (thenE (W9 k9_2 Q) Q) .normal e w := fun e w h => then_N (s9_2 (R := R) (Q := Q) hR e w h)
  exact rgA 1 (fun e w => m9_2 R (e 0) (e 1) (e 2) (e 7) w) h hN
theorem s9_0 {R : VP} {Q : EQ} (hR : ∀ e w, (R (e 6) w) → Q .ret e w) (e : Env) (w : World) (h : m9_0 R (e 0) (e 1) (e 2) w) : W9 k9_0 Q e w := by
  unfold m9_0 at h
  refine seA ?_
  have hN : ∀ e w, (m9_1 R (e 0) (e 1) (e 2) w) → (thenE (W9 k9_1 Q) Q) .normal e w := fun e w h => then_N (s9_1 (R := R) (Q := Q) hR e w h)
  exact rgA 0 (fun e w => m9_1 R (e 0) (e 1) (e 2) w) h hN
abbrev m9 (R : VP) (name0 s1 n2 : Value) (w : World) : Prop := m9_0 R name0 s1 n2 w
theorem s9 (name0 s1 n2 : Value) {R : VP} {w : World} (h : m9 R name0 s1 n2 w) :
    Calls Tryd.prog 9 #[name0, s1, n2] w fun e w' => ∃ v, e = .returned v ∧ R v w' :=
  calls_of_cwp (st := (fun i => 0)) (c := k9_0) (by kernel_rfl) Tryd.func9 (by kernel_rfl) (Nat.le_of_ble_eq_true (by kernel_rfl)) (by kernel_rfl)
    (s9_0 (R := R) (Q := endE Tryd.prog Tryd.f9 R) (fun e w h => kcast (by kernel_rfl) h) (argsE #[name0, s1, n2]) w (kcast (by kernel_rfl) h))
end Go.Proofs.YtcldjjmfpmkldaaDoor.M
