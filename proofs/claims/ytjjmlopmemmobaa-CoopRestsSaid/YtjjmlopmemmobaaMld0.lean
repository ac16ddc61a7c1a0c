/- What functions' texts ask of their ends, told over values that have names; printed by a program of this work. -/
import Derived.Test.YtjjmlopmemmobaaFw
import Derived.Test.YtjjmlopmemmobaaProg
namespace Go.Proofs.Ytjjmlopmemmobaa.M
open Go.Proofs.Ytjjmlopmemmobaa.F
set_option linter.unusedVariables false
set_option maxRecDepth 100000
/-! ### headgate/headgatelaw35.CoopRests -/
def m6_52 (R : VP) (t6 : Value) (w : World) : Prop :=
  R t6 w
def m6_49 (R : VP) (K1 : VP) (l1 back2 c7 i8 : Value) (w : World) : Prop :=
  valP Try.prog (binS BinOp.add 3 (Operand.tmp 31) (Operand.const (Value.int IntKind.i64 1)) i8 (Value.int IntKind.i64 1)) w fun t32 w =>
  K1 t32 w
def m6_48 (R : VP) (K1 : VP) (l1 back2 c7 i8 : Value) (w : World) : Prop :=
  valP Try.prog (Instr.indexAt 22 l1 i8) w fun t36 w =>
  valP Try.prog (Instr.loadAt 30 t36) w fun t37 w =>
  callP Try.prog (fnV 17) #[t37, c7] w fun t39 w =>
  callP Try.prog (fnV 16) #[c7, t39] w fun t40 w =>
  m6_49 R K1 l1 back2 c7 i8 w
def m6_43 (R : VP) (K1 : VP) (t6 : Value) (w : World) : Prop :=
  R t6 w
def m6_40 (R : VP) (K1 : VP) (K2 : VP) (t6 : Value) (w : World) : Prop :=
  R t6 w
def m6_38 (R : VP) (K1 : VP) (K2 : VP) (back2 c7 m9 gen10 i11 k12 give13 j15 : Value) (w : World) : Prop :=
  valP Try.prog (binS BinOp.add 3 (Operand.tmp 73) (Operand.const (Value.int IntKind.i64 1)) j15 (Value.int IntKind.i64 1)) w fun t74 w =>
  K2 t74 w
def m6_39 (R : VP) (K1 : VP) (K2 : VP) (back2 c7 m9 gen10 i11 k12 give13 j15 t85 : Value) (w : World) : Prop :=
  condP t85
  (m6_40 R K1 K2 (Value.bool false) w)
  (m6_38 R K1 K2 back2 c7 m9 gen10 i11 k12 give13 j15 w)
def m6_37 (R : VP) (K1 : VP) (K2 : VP) (back2 c7 m9 gen10 i11 k12 give13 j15 : Value) (w : World) : Prop :=
  anyDraw w fun w =>
  valS Try.prog (Instr.indexAt 28 m9 k12) w fun t78 =>
  valS Try.prog (Instr.loadAt 3 t78) w fun t79 =>
  valS Try.prog (Instr.indexAt 28 give13 j15) w fun t82 =>
  valS Try.prog (Instr.loadAt 3 t82) w fun t83 =>
  callP Try.prog (fnV 33) #[c7, t79, t83] w fun t84 w =>
  valP Try.prog (binS BinOp.neq 26 (Operand.tmp 84) (Operand.const (Value.int IntKind.i64 0)) t84 (Value.int IntKind.i64 0)) w fun t85 w =>
  m6_39 R K1 K2 back2 c7 m9 gen10 i11 k12 give13 j15 t85 w
def m6_30 (R : VP) (K1 : VP) (back2 c7 m9 gen10 i11 : Value) (w : World) : Prop :=
  valP Try.prog (binS BinOp.add 3 (Operand.tmp 49) (Operand.const (Value.int IntKind.i64 1)) i11 (Value.int IntKind.i64 1)) w fun t50 w =>
  K1 t50 w
def m6_41 (R : VP) (K1 : VP) (K2 : VP) (back2 c7 m9 gen10 i11 k12 give13 j15 t72 : Value) (w : World) : Prop :=
  condP t72
  (m6_37 R K1 K2 back2 c7 m9 gen10 i11 k12 give13 j15 w)
  (m6_30 R K1 back2 c7 m9 gen10 i11 w)
def m6_36 (R : VP) (K1 : VP) (K2 : VP) (back2 c7 m9 gen10 i11 k12 give13 j15 : Value) (w : World) : Prop :=
  builtinP Try.prog Builtin.len #[28] 3 #[false] #[give13] w fun t71 w =>
  valP Try.prog (binS BinOp.lss 3 (Operand.tmp 69) (Operand.tmp 71) j15 t71) w fun t72 w =>
  m6_41 R K1 K2 back2 c7 m9 gen10 i11 k12 give13 j15 t72 w
def m6_35 (R : VP) (K1 : VP) (back2 c7 m9 gen10 i11 k12 give13 j15 : Value) (w : World) : Prop :=
  loopP (fun (K2 : VP) (s : Value) w => m6_36 R K1 K2 back2 c7 m9 gen10 i11 k12 give13 s w) j15 w
def m6_34 (R : VP) (K1 : VP) (back2 c7 m9 gen10 i11 k12 give13 : Value) (w : World) : Prop :=
  m6_35 R K1 back2 c7 m9 gen10 i11 k12 give13 (Value.int IntKind.i64 0) w
def m6_42 (R : VP) (K1 : VP) (back2 c7 m9 gen10 i11 k12 give13 t68 : Value) (w : World) : Prop :=
  condP t68
  (m6_43 R K1 (Value.bool false) w)
  (m6_34 R K1 back2 c7 m9 gen10 i11 k12 give13 w)
def m6_33 (R : VP) (K1 : VP) (back2 c7 m9 gen10 i11 k12 give13 e14 : Value) (w : World) : Prop :=
  valP Try.prog (binS BinOp.neq 26 (Operand.tmp 67) (Operand.const (Value.int IntKind.i64 0)) e14 (Value.int IntKind.i64 0)) w fun t68 w =>
  m6_42 R K1 back2 c7 m9 gen10 i11 k12 give13 t68 w
def m6_32 (R : VP) (K1 : VP) (back2 c7 m9 gen10 i11 k12 : Value) (w : World) : Prop :=
  valP Try.prog (Instr.indexAt 28 m9 k12) w fun t62 w =>
  valP Try.prog (Instr.loadAt 3 t62) w fun t63 w =>
  callP Try.prog (fnV 25) #[c7, t63] w fun t64 w =>
  valP Try.prog (Instr.extract t64 0) w fun t65 w =>
  valP Try.prog (Instr.extract t64 1) w fun t66 w =>
  m6_33 R K1 back2 c7 m9 gen10 i11 k12 t65 t66 w
def m6_44 (R : VP) (K1 : VP) (back2 c7 m9 gen10 i11 k12 t52 : Value) (w : World) : Prop :=
  condP t52
  (builtinP Try.prog Builtin.len #[28] 3 #[false] #[m9] w fun t54 w =>
  valP Try.prog (binS BinOp.sub 3 (Operand.tmp 54) (Operand.const (Value.int IntKind.i64 1)) t54 (Value.int IntKind.i64 1)) w fun t55 w =>
  valP Try.prog (binS BinOp.sub 3 (Operand.tmp 55) (Operand.tmp 56) t55 i11) w fun t57 w =>
  m6_32 R K1 back2 c7 m9 gen10 i11 t57 w)
  (m6_32 R K1 back2 c7 m9 gen10 i11 k12 w)
def m6_31 (R : VP) (K1 : VP) (back2 c7 m9 gen10 i11 k12 : Value) (w : World) : Prop :=
  m6_44 R K1 back2 c7 m9 gen10 i11 k12 back2 w
def m6_29 (R : VP) (K1 : VP) (back2 c7 m9 gen10 i11 : Value) (w : World) : Prop :=
  m6_31 R K1 back2 c7 m9 gen10 i11 i11 w
def m6_26 (R : VP) (t6 : Value) (w : World) : Prop :=
  R t6 w
def m6_23 (R : VP) (K1 : VP) (t6 : Value) (w : World) : Prop :=
  R t6 w
def m6_21 (R : VP) (K1 : VP) (t6 : Value) (w : World) : Prop :=
  R t6 w
def m6_16 (R : VP) (K1 : VP) (c7 m9 have16 i17 : Value) (w : World) : Prop :=
  valP Try.prog (binS BinOp.add 3 (Operand.tmp 109) (Operand.const (Value.int IntKind.i64 1)) i17 (Value.int IntKind.i64 1)) w fun t110 w =>
  K1 t110 w
def m6_20 (R : VP) (K1 : VP) (c7 m9 have16 i17 t145 : Value) (w : World) : Prop :=
  condP t145
  (m6_21 R K1 (Value.bool false) w)
  (m6_16 R K1 c7 m9 have16 i17 w)
def m6_19 (R : VP) (K1 : VP) (c7 m9 have16 i17 left19 : Value) (w : World) : Prop :=
  builtinP Try.prog Builtin.len #[28] 3 #[false] #[left19] w fun t144 w =>
  valP Try.prog (binS BinOp.gtr 3 (Operand.tmp 144) (Operand.const (Value.int IntKind.i64 0)) t144 (Value.int IntKind.i64 0)) w fun t145 w =>
  m6_20 R K1 c7 m9 have16 i17 t145 w
def m6_18 (R : VP) (K1 : VP) (c7 m9 have16 i17 : Value) (w : World) : Prop :=
  valP Try.prog (Instr.indexAt 28 m9 i17) w fun t138 w =>
  valP Try.prog (Instr.loadAt 3 t138) w fun t139 w =>
  callP Try.prog (fnV 25) #[c7, t139] w fun t140 w =>
  valP Try.prog (Instr.extract t140 0) w fun t141 w =>
  valP Try.prog (Instr.extract t140 1) w fun t142 w =>
  m6_19 R K1 c7 m9 have16 i17 t141 w
def m6_22 (R : VP) (K1 : VP) (c7 m9 have16 i17 t133 : Value) (w : World) : Prop :=
  condP t133
  (m6_23 R K1 (Value.bool false) w)
  (m6_18 R K1 c7 m9 have16 i17 w)
def m6_17 (R : VP) (K1 : VP) (c7 m9 have16 i17 n18 : Value) (w : World) : Prop :=
  builtinP Try.prog Builtin.len #[28] 3 #[false] #[have16] w fun t119 w =>
  builtinP Try.prog Builtin.len #[28] 3 #[false] #[m9] w fun t121 w =>
  valP Try.prog (binS BinOp.quo 3 (Operand.tmp 119) (Operand.tmp 121) t119 t121) w fun t122 w =>
  valP Try.prog (binS BinOp.neq 3 (Operand.tmp 117) (Operand.tmp 122) n18 t122) w fun t123 w =>
  condP t123
  (builtinP Try.prog Builtin.len #[28] 3 #[false] #[have16] w fun t127 w =>
  builtinP Try.prog Builtin.len #[28] 3 #[false] #[m9] w fun t129 w =>
  valP Try.prog (binS BinOp.quo 3 (Operand.tmp 127) (Operand.tmp 129) t127 t129) w fun t130 w =>
  valP Try.prog (binS BinOp.add 3 (Operand.tmp 130) (Operand.const (Value.int IntKind.i64 1)) t130 (Value.int IntKind.i64 1)) w fun t131 w =>
  valP Try.prog (binS BinOp.neq 3 (Operand.tmp 125) (Operand.tmp 131) n18 t131) w fun t132 w =>
  pickP t123 t132 (Value.bool false) fun t133 =>
  m6_22 R K1 c7 m9 have16 i17 t133 w)
  (pickP t123 undef (Value.bool false) fun t133 =>
  m6_22 R K1 c7 m9 have16 i17 t133 w)
def m6_15 (R : VP) (K1 : VP) (c7 m9 have16 i17 : Value) (w : World) : Prop :=
  valP Try.prog (Instr.indexAt 28 m9 i17) w fun t114 w =>
  valP Try.prog (Instr.loadAt 3 t114) w fun t115 w =>
  callP Try.prog (fnV 21) #[have16, t115] w fun t116 w =>
  m6_17 R K1 c7 m9 have16 i17 t116 w
def m6_12 (R : VP) (t6 : Value) (w : World) : Prop :=
  R t6 w
def m6_11 (R : VP) (w : World) : Prop :=
  callP Try.prog (fnV 22) #[] w fun t146 w =>
  m6_12 R t146 w
def m6_24 (R : VP) (K1 : VP) (c7 m9 have16 i17 t108 : Value) (w : World) : Prop :=
  condP t108
  (m6_15 R K1 c7 m9 have16 i17 w)
  (m6_11 R w)
def m6_14 (R : VP) (K1 : VP) (c7 m9 have16 i17 : Value) (w : World) : Prop :=
  builtinP Try.prog Builtin.len #[28] 3 #[false] #[m9] w fun t107 w =>
  valP Try.prog (binS BinOp.lss 3 (Operand.tmp 105) (Operand.tmp 107) i17 t107) w fun t108 w =>
  m6_24 R K1 c7 m9 have16 i17 t108 w
def m6_13 (R : VP) (c7 m9 have16 i17 : Value) (w : World) : Prop :=
  loopP (fun (K1 : VP) (s : Value) w => m6_14 R K1 c7 m9 have16 s w) i17 w
def m6_10 (R : VP) (c7 m9 have16 : Value) (w : World) : Prop :=
  m6_13 R c7 m9 have16 (Value.int IntKind.i64 0) w
def m6_9 (R : VP) (c7 m9 : Value) (w : World) : Prop :=
  callP Try.prog (fnV 19) #[c7] w fun t104 w =>
  m6_10 R c7 m9 t104 w
def m6_25 (R : VP) (c7 m9 t102 : Value) (w : World) : Prop :=
  condP t102
  (m6_26 R (Value.bool false) w)
  (m6_9 R c7 m9 w)
def m6_8 (R : VP) (c7 m9 gen10 : Value) (w : World) : Prop :=
  callP Try.prog (fnV 23) #[c7] w fun t87 w =>
  valP Try.prog (Op.unary UnOp.not t87) w fun t88 w =>
  condP t88
  (pickP t88 (Value.bool true) undef fun t94 =>
  condP t94
  (pickP t94 (Value.bool true) undef fun t102 =>
  m6_25 R c7 m9 t102 w)
  (callP Try.prog (fnV 19) #[c7] w fun t97 w =>
  callP Try.prog (fnV 20) #[c7] w fun t99 w =>
  callP Try.prog (fnV 32) #[t97, t99] w fun t100 w =>
  valP Try.prog (Op.unary UnOp.not t100) w fun t101 w =>
  pickP t94 (Value.bool true) t101 fun t102 =>
  m6_25 R c7 m9 t102 w))
  (callP Try.prog (fnV 35) #[c7] w fun t91 w =>
  valP Try.prog (binS BinOp.neq 3 (Operand.tmp 91) (Operand.tmp 92) t91 gen10) w fun t93 w =>
  pickP t88 (Value.bool true) t93 fun t94 =>
  condP t94
  (pickP t94 (Value.bool true) undef fun t102 =>
  m6_25 R c7 m9 t102 w)
  (callP Try.prog (fnV 19) #[c7] w fun t97 w =>
  callP Try.prog (fnV 20) #[c7] w fun t99 w =>
  callP Try.prog (fnV 32) #[t97, t99] w fun t100 w =>
  valP Try.prog (Op.unary UnOp.not t100) w fun t101 w =>
  pickP t94 (Value.bool true) t101 fun t102 =>
  m6_25 R c7 m9 t102 w))
def m6_45 (R : VP) (K1 : VP) (back2 c7 m9 gen10 i11 t48 : Value) (w : World) : Prop :=
  condP t48
  (m6_29 R K1 back2 c7 m9 gen10 i11 w)
  (m6_8 R c7 m9 gen10 w)
def m6_28 (R : VP) (K1 : VP) (back2 c7 m9 gen10 i11 : Value) (w : World) : Prop :=
  builtinP Try.prog Builtin.len #[28] 3 #[false] #[m9] w fun t47 w =>
  valP Try.prog (binS BinOp.lss 3 (Operand.tmp 45) (Operand.tmp 47) i11 t47) w fun t48 w =>
  m6_45 R K1 back2 c7 m9 gen10 i11 t48 w
def m6_27 (R : VP) (back2 c7 m9 gen10 i11 : Value) (w : World) : Prop :=
  loopP (fun (K1 : VP) (s : Value) w => m6_28 R K1 back2 c7 m9 gen10 s w) i11 w
def m6_7 (R : VP) (back2 c7 m9 gen10 : Value) (w : World) : Prop :=
  m6_27 R back2 c7 m9 gen10 (Value.int IntKind.i64 0) w
def m6_6 (R : VP) (back2 c7 m9 : Value) (w : World) : Prop :=
  callP Try.prog (fnV 35) #[c7] w fun t44 w =>
  m6_7 R back2 c7 m9 t44 w
def m6_5 (R : VP) (back2 c7 : Value) (w : World) : Prop :=
  callP Try.prog (fnV 18) #[c7] w fun t42 w =>
  m6_6 R back2 c7 t42 w
def m6_50 (R : VP) (K1 : VP) (l1 back2 c7 i8 t30 : Value) (w : World) : Prop :=
  condP t30
  (m6_48 R K1 l1 back2 c7 i8 w)
  (m6_5 R back2 c7 w)
def m6_47 (R : VP) (K1 : VP) (l1 back2 c7 i8 : Value) (w : World) : Prop :=
  builtinP Try.prog Builtin.len #[22] 3 #[false] #[l1] w fun t29 w =>
  valP Try.prog (binS BinOp.lss 3 (Operand.tmp 27) (Operand.tmp 29) i8 t29) w fun t30 w =>
  m6_50 R K1 l1 back2 c7 i8 t30 w
def m6_46 (R : VP) (l1 back2 c7 i8 : Value) (w : World) : Prop :=
  loopP (fun (K1 : VP) (s : Value) w => m6_47 R K1 l1 back2 c7 s w) i8 w
def m6_4 (R : VP) (l1 back2 c7 : Value) (w : World) : Prop :=
  m6_46 R l1 back2 c7 (Value.int IntKind.i64 0) w
def m6_3 (R : VP) (l1 back2 c7 : Value) (w : World) : Prop :=
  callP Try.prog (fnV 15) #[l1] w fun t26 w =>
  m6_4 R t26 back2 c7 w
def m6_51 (R : VP) (l1 back2 c7 t24 : Value) (w : World) : Prop :=
  condP t24
  (m6_52 R (Value.bool false) w)
  (m6_3 R l1 back2 c7 w)
def m6_2 (R : VP) (l1 back2 c7 : Value) (w : World) : Prop :=
  valP Try.prog (binS BinOp.eql 23 (Operand.tmp 23) (Operand.const (Value.pointer none)) c7 (Value.pointer none)) w fun t24 w =>
  m6_51 R l1 back2 c7 t24 w
def m6_1 (R : VP) (parts0 l1 back2 : Value) (w : World) : Prop :=
  callP Try.prog (fnV 14) #[parts0] w fun t22 w =>
  m6_2 R l1 back2 t22 w
def m6_0 (R : VP) (parts0 l1 back2 : Value) (w : World) : Prop :=
  m6_1 R parts0 l1 back2 w
abbrev W6 := cwp Try.prog (fun i => cond (Nat.beq i 23) 11 (0))
noncomputable def k6_0 : Code := (bodyOf Try.f6)
noncomputable def k6_1 : Code := (c2 k6_0)
noncomputable def k6_2 : Code := (c2 k6_1)
noncomputable def k6_3 : Code := (c2 k6_2)
noncomputable def k6_4 : Code := (c2 k6_3)
noncomputable def k6_5 : Code := (c2 k6_4)
noncomputable def k6_6 : Code := (c2 k6_5)
noncomputable def k6_7 : Code := (c2 k6_6)
noncomputable def k6_8 : Code := (c2 k6_7)
noncomputable def k6_9 : Code := (c2 k6_8)
noncomputable def k6_10 : Code := (c2 k6_9)
noncomputable def k6_11 : Code := (c2 k6_10)
noncomputable def k6_12 : Code := (c2 k6_11)
noncomputable def k6_13 : Code := (c2 (c1 k6_10))
noncomputable def k6_14 : Code := (c1 (c1 k6_13))
noncomputable def k6_15 : Code := (c2 k6_14)
noncomputable def k6_16 : Code := (c2 k6_15)
noncomputable def k6_17 : Code := (c2 (c1 (c1 k6_15)))
noncomputable def k6_18 : Code := (c2 k6_17)
noncomputable def k6_19 : Code := (c2 k6_18)
noncomputable def k6_20 : Code := (c2 k6_19)
noncomputable def k6_21 : Code := (c2 (c1 k6_20))
noncomputable def k6_22 : Code := (c2 (c1 k6_17))
noncomputable def k6_23 : Code := (c2 (c1 k6_22))
noncomputable def k6_24 : Code := (c2 (c1 k6_14))
noncomputable def k6_25 : Code := (c2 (c1 k6_8))
noncomputable def k6_26 : Code := (c2 (c1 k6_25))
noncomputable def k6_27 : Code := (c2 (c1 k6_7))
noncomputable def k6_28 : Code := (c1 (c1 k6_27))
noncomputable def k6_29 : Code := (c2 k6_28)
noncomputable def k6_30 : Code := (c2 k6_29)
noncomputable def k6_31 : Code := (c2 (c1 (c1 k6_29)))
noncomputable def k6_32 : Code := (c2 k6_31)
noncomputable def k6_33 : Code := (c2 k6_32)
noncomputable def k6_34 : Code := (c2 k6_33)
noncomputable def k6_35 : Code := (c2 k6_34)
noncomputable def k6_36 : Code := (c1 (c1 k6_35))
noncomputable def k6_37 : Code := (c2 k6_36)
noncomputable def k6_38 : Code := (c2 k6_37)
noncomputable def k6_39 : Code := (c2 (c1 (c1 k6_37)))
noncomputable def k6_40 : Code := (c2 (c1 k6_39))
noncomputable def k6_41 : Code := (c2 (c1 k6_36))
noncomputable def k6_42 : Code := (c2 (c1 k6_33))
noncomputable def k6_43 : Code := (c2 (c1 k6_42))
noncomputable def k6_44 : Code := (c2 (c1 k6_31))
noncomputable def k6_45 : Code := (c2 (c1 k6_28))
noncomputable def k6_46 : Code := (c2 (c1 k6_4))
noncomputable def k6_47 : Code := (c1 (c1 k6_46))
noncomputable def k6_48 : Code := (c2 k6_47)
noncomputable def k6_49 : Code := (c2 k6_48)
noncomputable def k6_50 : Code := (c2 (c1 k6_47))
noncomputable def k6_51 : Code := (c2 (c1 k6_2))
noncomputable def k6_52 : Code := (c2 (c1 k6_51))
theorem s6_52 {R : VP} {Q : EQ} (hR : ∀ e w, (R (e 6) w) → Q .ret e w) (e : Env) (w : World) (h : m6_52 R (e 6) w) : W6 k6_52 Q e w := by
  unfold m6_52 at h
  exact reA (hR _ _ h)
theorem s6_49 {R : VP} {K1 : VP} {Q : EQ} (hN : ∀ e w, (K1 (e 8) w) → Q .normal e w) (e : Env) (w : World) (h : m6_49 R K1 (e 1) (e 2) (e 7) (e 8) w) : W6 k6_49 Q e w := by
  unfold m6_49 at h
  exact rgA 7 (fun e w => K1 (e 8) w) h hN
theorem s6_48 {R : VP} {K1 : VP} {Q : EQ} (hN : ∀ e w, (K1 (e 8) w) → Q .normal e w) (e : Env) (w : World) (h : m6_48 R K1 (e 1) (e 2) (e 7) (e 8) w) : W6 k6_48 Q e w := by
  unfold m6_48 at h
  refine seA ?_
  have hN : ∀ e w, (m6_49 R K1 (e 1) (e 2) (e 7) (e 8) w) → (thenE (W6 k6_49 Q) Q) .normal e w := fun e w h => then_N (s6_49 (R := R) (Q := Q) (K1 := K1) hN e w h)
  refine block_ok 1 (by kernel_rfl) ?_
  have hN : ∀ e w, (m6_49 R K1 (e 1) (e 2) (e 7) (e 8) w) → (inBlockE 1 (thenE (W6 k6_49 Q) Q)) .normal e w := fun e w h => block_N (hN e w h)
  exact rgA 8 (fun e w => m6_49 R K1 (e 1) (e 2) (e 7) (e 8) w) h hN
theorem s6_43 {R : VP} {K1 : VP} {Q : EQ} (hR : ∀ e w, (R (e 6) w) → Q .ret e w) (e : Env) (w : World) (h : m6_43 R K1 (e 6) w) : W6 k6_43 Q e w := by
  unfold m6_43 at h
  exact reA (hR _ _ h)
theorem s6_40 {R : VP} {K1 : VP} {K2 : VP} {Q : EQ} (hR : ∀ e w, (R (e 6) w) → Q .ret e w) (e : Env) (w : World) (h : m6_40 R K1 K2 (e 6) w) : W6 k6_40 Q e w := by
  unfold m6_40 at h
  exact reA (hR _ _ h)
theorem s6_38 {R : VP} {K1 : VP} {K2 : VP} {Q : EQ} (hN : ∀ e w, (K2 (e 15) w) → Q .normal e w) (e : Env) (w : World) (h : m6_38 R K1 K2 (e 2) (e 7) (e 9) (e 10) (e 11) (e 12) (e 13) (e 15) w) : W6 k6_38 Q e w := by
  unfold m6_38 at h
  exact rgA 22 (fun e w => K2 (e 15) w) h hN
theorem s6_39 {R : VP} {K1 : VP} {K2 : VP} {Q : EQ} (hN : ∀ e w, (m6_38 R K1 K2 (e 2) (e 7) (e 9) (e 10) (e 11) (e 12) (e 13) (e 15) w) → Q .normal e w) (hR : ∀ e w, (R (e 6) w) → Q .ret e w) (e : Env) (w : World) (h : m6_39 R K1 K2 (e 2) (e 7) (e 9) (e 10) (e 11) (e 12) (e 13) (e 15) (e 85) w) : W6 k6_39 Q e w := by
  unfold m6_39 at h
  refine coA (Operand.tmp 85) h (fun h1 => ?_) (fun h1 => ?_)
  · refine seA ?_
    have hN : ∀ e w, (m6_40 R K1 K2 (e 6) w) → (thenE (W6 k6_40 Q) Q) .normal e w := fun e w h => then_N (s6_40 (R := R) (Q := Q) (K1 := K1) (K2 := K2) hR e w h)
    exact rgA 24 (fun e w => m6_40 R K1 K2 (e 6) w) h1 hN
  · exact skA (hN _ _ h1)
theorem s6_37 {R : VP} {K1 : VP} {K2 : VP} {Q : EQ} (hN : ∀ e w, (K2 (e 15) w) → Q .normal e w) (hR : ∀ e w, (R (e 6) w) → Q .ret e w) (e : Env) (w : World) (h : m6_37 R K1 K2 (e 2) (e 7) (e 9) (e 10) (e 11) (e 12) (e 13) (e 15) w) : W6 k6_37 Q e w := by
  unfold m6_37 at h
  refine seA ?_
  have hN : ∀ e w, (m6_38 R K1 K2 (e 2) (e 7) (e 9) (e 10) (e 11) (e 12) (e 13) (e 15) w) → (thenE (W6 k6_38 Q) Q) .normal e w := fun e w h => then_N (s6_38 (R := R) (Q := Q) (K1 := K1) (K2 := K2) hN e w h)
  have hR : ∀ e w, (R (e 6) w) → (thenE (W6 k6_38 Q) Q) .ret e w := fun e w h => then_R (hR e w h)
  refine block_ok 5 (by kernel_rfl) ?_
  have hN : ∀ e w, (m6_38 R K1 K2 (e 2) (e 7) (e 9) (e 10) (e 11) (e 12) (e 13) (e 15) w) → (inBlockE 5 (thenE (W6 k6_38 Q) Q)) .normal e w := fun e w h => block_N (hN e w h)
  have hR : ∀ e w, (R (e 6) w) → (inBlockE 5 (thenE (W6 k6_38 Q) Q)) .ret e w := fun e w h => block_R (hR e w h)
  refine seA ?_
  have hN : ∀ e w, (m6_39 R K1 K2 (e 2) (e 7) (e 9) (e 10) (e 11) (e 12) (e 13) (e 15) (e 85) w) → (thenE (W6 k6_39 (inBlockE 5 (thenE (W6 k6_38 Q) Q))) (inBlockE 5 (thenE (W6 k6_38 Q) Q))) .normal e w := fun e w h => then_N (s6_39 (R := R) (Q := (inBlockE 5 (thenE (W6 k6_38 Q) Q))) (K1 := K1) (K2 := K2) hN hR e w h)
  exact taA 23 9 (fun e w => m6_39 R K1 K2 (e 2) (e 7) (e 9) (e 10) (e 11) (e 12) (e 13) (e 15) (e 85) w) h hN
theorem s6_30 {R : VP} {K1 : VP} {Q : EQ} (hN : ∀ e w, (K1 (e 11) w) → Q .normal e w) (e : Env) (w : World) (h : m6_30 R K1 (e 2) (e 7) (e 9) (e 10) (e 11) w) : W6 k6_30 Q e w := by
  unfold m6_30 at h
  exact rgA 13 (fun e w => K1 (e 11) w) h hN
theorem s6_41 {R : VP} {K1 : VP} {K2 : VP} {Q : EQ} (hN : ∀ e w, (m6_37 R K1 K2 (e 2) (e 7) (e 9) (e 10) (e 11) (e 12) (e 13) (e 15) w) → Q .normal e w) (hX4 : ∀ e w, (m6_30 R K1 (e 2) (e 7) (e 9) (e 10) (e 11) w) → Q (.exit 4) e w) (e : Env) (w : World) (h : m6_41 R K1 K2 (e 2) (e 7) (e 9) (e 10) (e 11) (e 12) (e 13) (e 15) (e 72) w) : W6 k6_41 Q e w := by
  unfold m6_41 at h
  refine coA (Operand.tmp 72) h (fun h1 => ?_) (fun h1 => ?_)
  · exact skA (hN _ _ h1)
  · exact exA 4 (hX4 _ _ h1)
theorem s6_36 {R : VP} {K1 : VP} {K2 : VP} {Q : EQ} (hN : ∀ e w, (K2 (e 15) w) → Q .normal e w) (hR : ∀ e w, (R (e 6) w) → Q .ret e w) (hX4 : ∀ e w, (m6_30 R K1 (e 2) (e 7) (e 9) (e 10) (e 11) w) → Q (.exit 4) e w) (e : Env) (w : World) (h : m6_36 R K1 K2 (e 2) (e 7) (e 9) (e 10) (e 11) (e 12) (e 13) (e 15) w) : W6 k6_36 Q e w := by
  unfold m6_36 at h
  refine seA ?_
  have hN : ∀ e w, (m6_37 R K1 K2 (e 2) (e 7) (e 9) (e 10) (e 11) (e 12) (e 13) (e 15) w) → (thenE (W6 k6_37 Q) Q) .normal e w := fun e w h => then_N (s6_37 (R := R) (Q := Q) (K1 := K1) (K2 := K2) hN hR e w h)
  have hX4 : ∀ e w, (m6_30 R K1 (e 2) (e 7) (e 9) (e 10) (e 11) w) → (thenE (W6 k6_37 Q) Q) (.exit 4) e w := fun e w h => then_X (hX4 e w h)
  refine seA ?_
  have hN : ∀ e w, (m6_41 R K1 K2 (e 2) (e 7) (e 9) (e 10) (e 11) (e 12) (e 13) (e 15) (e 72) w) → (thenE (W6 k6_41 (thenE (W6 k6_37 Q) Q)) (thenE (W6 k6_37 Q) Q)) .normal e w := fun e w h => then_N (s6_41 (R := R) (Q := (thenE (W6 k6_37 Q) Q)) (K1 := K1) (K2 := K2) hN hX4 e w h)
  exact rgA 21 (fun e w => m6_41 R K1 K2 (e 2) (e 7) (e 9) (e 10) (e 11) (e 12) (e 13) (e 15) (e 72) w) h hN
theorem s6_35 {R : VP} {K1 : VP} {Q : EQ} (hN : ∀ e w, (m6_30 R K1 (e 2) (e 7) (e 9) (e 10) (e 11) w) → Q .normal e w) (hR : ∀ e w, (R (e 6) w) → Q .ret e w) (e : Env) (w : World) (h : m6_35 R K1 (e 2) (e 7) (e 9) (e 10) (e 11) (e 12) (e 13) (e 15) w) : W6 k6_35 Q e w := by
  unfold m6_35 at h
  refine block_ok 4 (by kernel_rfl) ?_
  have hX4 : ∀ e w, (m6_30 R K1 (e 2) (e 7) (e 9) (e 10) (e 11) w) → (inBlockE 4 Q) (.exit 4) e w := fun e w h => inBlock_same (Q := Q) 4 (hN e w h)
  have hR : ∀ e w, (R (e 6) w) → (inBlockE 4 Q) .ret e w := fun e w h => block_R (hR e w h)
  refine loop_ok' (fun (e : Env) => e 15) [2, 7, 9, 10, 11, 12, 13] (by kernel_rfl) (by kernel_rfl) h (fun K e' w' hk h' => ?_)
  have r2 : e' 2 = e 2 := hk 2 (by decide)
  have r7 : e' 7 = e 7 := hk 7 (by decide)
  have r9 : e' 9 = e 9 := hk 9 (by decide)
  have r10 : e' 10 = e 10 := hk 10 (by decide)
  have r11 : e' 11 = e 11 := hk 11 (by decide)
  have r12 : e' 12 = e 12 := hk 12 (by decide)
  have r13 : e' 13 = e 13 := hk 13 (by decide)
  have hR : ∀ e w, (R (e 6) w) → (thenE (fun (e : Env) w => K (e 15) w) (inBlockE 4 Q)) .ret e w := fun e w h => then_R (hR e w h)
  have hX4 : ∀ e w, (m6_30 R K1 (e 2) (e 7) (e 9) (e 10) (e 11) w) → (thenE (fun (e : Env) w => K (e 15) w) (inBlockE 4 Q)) (.exit 4) e w := fun e w h => then_X (hX4 e w h)
  exact s6_36 (R := R) (Q := (thenE (fun (e : Env) w => K (e 15) w) (inBlockE 4 Q))) (K1 := K1) (K2 := K) (fun _ _ h => then_N h) hR hX4 e' w' (by rw [r2, r7, r9, r10, r11, r12, r13]; exact h')
theorem s6_34 {R : VP} {K1 : VP} {Q : EQ} (hN : ∀ e w, (m6_30 R K1 (e 2) (e 7) (e 9) (e 10) (e 11) w) → Q .normal e w) (hR : ∀ e w, (R (e 6) w) → Q .ret e w) (e : Env) (w : World) (h : m6_34 R K1 (e 2) (e 7) (e 9) (e 10) (e 11) (e 12) (e 13) w) : W6 k6_34 Q e w := by
  unfold m6_34 at h
  refine seA ?_
  have hN : ∀ e w, (m6_35 R K1 (e 2) (e 7) (e 9) (e 10) (e 11) (e 12) (e 13) (e 15) w) → (thenE (W6 k6_35 Q) Q) .normal e w := fun e w h => then_N (s6_35 (R := R) (Q := Q) (K1 := K1) hN hR e w h)
  exact rgA 20 (fun e w => m6_35 R K1 (e 2) (e 7) (e 9) (e 10) (e 11) (e 12) (e 13) (e 15) w) h hN
theorem s6_42 {R : VP} {K1 : VP} {Q : EQ} (hN : ∀ e w, (m6_34 R K1 (e 2) (e 7) (e 9) (e 10) (e 11) (e 12) (e 13) w) → Q .normal e w) (hR : ∀ e w, (R (e 6) w) → Q .ret e w) (e : Env) (w : World) (h : m6_42 R K1 (e 2) (e 7) (e 9) (e 10) (e 11) (e 12) (e 13) (e 68) w) : W6 k6_42 Q e w := by
  unfold m6_42 at h
  refine coA (Operand.tmp 68) h (fun h1 => ?_) (fun h1 => ?_)
  · refine seA ?_
    have hN : ∀ e w, (m6_43 R K1 (e 6) w) → (thenE (W6 k6_43 Q) Q) .normal e w := fun e w h => then_N (s6_43 (R := R) (Q := Q) (K1 := K1) hR e w h)
    exact rgA 19 (fun e w => m6_43 R K1 (e 6) w) h1 hN
  · exact skA (hN _ _ h1)
theorem s6_33 {R : VP} {K1 : VP} {Q : EQ} (hN : ∀ e w, (m6_30 R K1 (e 2) (e 7) (e 9) (e 10) (e 11) w) → Q .normal e w) (hR : ∀ e w, (R (e 6) w) → Q .ret e w) (e : Env) (w : World) (h : m6_33 R K1 (e 2) (e 7) (e 9) (e 10) (e 11) (e 12) (e 13) (e 14) w) : W6 k6_33 Q e w := by
  unfold m6_33 at h
  refine seA ?_
  have hN : ∀ e w, (m6_34 R K1 (e 2) (e 7) (e 9) (e 10) (e 11) (e 12) (e 13) w) → (thenE (W6 k6_34 Q) Q) .normal e w := fun e w h => then_N (s6_34 (R := R) (Q := Q) (K1 := K1) hN hR e w h)
  have hR : ∀ e w, (R (e 6) w) → (thenE (W6 k6_34 Q) Q) .ret e w := fun e w h => then_R (hR e w h)
  refine seA ?_
  have hN : ∀ e w, (m6_42 R K1 (e 2) (e 7) (e 9) (e 10) (e 11) (e 12) (e 13) (e 68) w) → (thenE (W6 k6_42 (thenE (W6 k6_34 Q) Q)) (thenE (W6 k6_34 Q) Q)) .normal e w := fun e w h => then_N (s6_42 (R := R) (Q := (thenE (W6 k6_34 Q) Q)) (K1 := K1) hN hR e w h)
  exact rgA 18 (fun e w => m6_42 R K1 (e 2) (e 7) (e 9) (e 10) (e 11) (e 12) (e 13) (e 68) w) h hN
theorem s6_32 {R : VP} {K1 : VP} {Q : EQ} (hN : ∀ e w, (m6_30 R K1 (e 2) (e 7) (e 9) (e 10) (e 11) w) → Q .normal e w) (hR : ∀ e w, (R (e 6) w) → Q .ret e w) (e : Env) (w : World) (h : m6_32 R K1 (e 2) (e 7) (e 9) (e 10) (e 11) (e 12) w) : W6 k6_32 Q e w := by
  unfold m6_32 at h
  refine seA ?_
  have hN : ∀ e w, (m6_33 R K1 (e 2) (e 7) (e 9) (e 10) (e 11) (e 12) (e 13) (e 14) w) → (thenE (W6 k6_33 Q) Q) .normal e w := fun e w h => then_N (s6_33 (R := R) (Q := Q) (K1 := K1) hN hR e w h)
  exact rgA 17 (fun e w => m6_33 R K1 (e 2) (e 7) (e 9) (e 10) (e 11) (e 12) (e 13) (e 14) w) h hN
theorem s6_44 {R : VP} {K1 : VP} {Q : EQ} (hN : ∀ e w, (m6_32 R K1 (e 2) (e 7) (e 9) (e 10) (e 11) (e 12) w) → Q .normal e w) (e : Env) (w : World) (h : m6_44 R K1 (e 2) (e 7) (e 9) (e 10) (e 11) (e 12) (e 52) w) : W6 k6_44 Q e w := by
  unfold m6_44 at h
  refine coA (Operand.tmp 52) h (fun h1 => ?_) (fun h1 => ?_)
  · exact rgA 16 (fun e w => m6_32 R K1 (e 2) (e 7) (e 9) (e 10) (e 11) (e 12) w) h1 hN
  · exact skA (hN _ _ h1)
theorem s6_31 {R : VP} {K1 : VP} {Q : EQ} (hN : ∀ e w, (m6_30 R K1 (e 2) (e 7) (e 9) (e 10) (e 11) w) → Q .normal e w) (hR : ∀ e w, (R (e 6) w) → Q .ret e w) (e : Env) (w : World) (h : m6_31 R K1 (e 2) (e 7) (e 9) (e 10) (e 11) (e 12) w) : W6 k6_31 Q e w := by
  unfold m6_31 at h
  refine seA ?_
  have hN : ∀ e w, (m6_32 R K1 (e 2) (e 7) (e 9) (e 10) (e 11) (e 12) w) → (thenE (W6 k6_32 Q) Q) .normal e w := fun e w h => then_N (s6_32 (R := R) (Q := Q) (K1 := K1) hN hR e w h)
  refine seA ?_
  have hN : ∀ e w, (m6_44 R K1 (e 2) (e 7) (e 9) (e 10) (e 11) (e 12) (e 52) w) → (thenE (W6 k6_44 (thenE (W6 k6_32 Q) Q)) (thenE (W6 k6_32 Q) Q)) .normal e w := fun e w h => then_N (s6_44 (R := R) (Q := (thenE (W6 k6_32 Q) Q)) (K1 := K1) hN e w h)
  exact rgA 15 (fun e w => m6_44 R K1 (e 2) (e 7) (e 9) (e 10) (e 11) (e 12) (e 52) w) h hN
theorem s6_29 {R : VP} {K1 : VP} {Q : EQ} (hN : ∀ e w, (K1 (e 11) w) → Q .normal e w) (hR : ∀ e w, (R (e 6) w) → Q .ret e w) (e : Env) (w : World) (h : m6_29 R K1 (e 2) (e 7) (e 9) (e 10) (e 11) w) : W6 k6_29 Q e w := by
  unfold m6_29 at h
  refine seA ?_
  have hN : ∀ e w, (m6_30 R K1 (e 2) (e 7) (e 9) (e 10) (e 11) w) → (thenE (W6 k6_30 Q) Q) .normal e w := fun e w h => then_N (s6_30 (R := R) (Q := Q) (K1 := K1) hN e w h)
  have hR : ∀ e w, (R (e 6) w) → (thenE (W6 k6_30 Q) Q) .ret e w := fun e w h => then_R (hR e w h)
  refine block_ok 3 (by kernel_rfl) ?_
  have hN : ∀ e w, (m6_30 R K1 (e 2) (e 7) (e 9) (e 10) (e 11) w) → (inBlockE 3 (thenE (W6 k6_30 Q) Q)) .normal e w := fun e w h => block_N (hN e w h)
  have hR : ∀ e w, (R (e 6) w) → (inBlockE 3 (thenE (W6 k6_30 Q) Q)) .ret e w := fun e w h => block_R (hR e w h)
  refine seA ?_
  have hN : ∀ e w, (m6_31 R K1 (e 2) (e 7) (e 9) (e 10) (e 11) (e 12) w) → (thenE (W6 k6_31 (inBlockE 3 (thenE (W6 k6_30 Q) Q))) (inBlockE 3 (thenE (W6 k6_30 Q) Q))) .normal e w := fun e w h => then_N (s6_31 (R := R) (Q := (inBlockE 3 (thenE (W6 k6_30 Q) Q))) (K1 := K1) hN hR e w h)
  exact rgA 14 (fun e w => m6_31 R K1 (e 2) (e 7) (e 9) (e 10) (e 11) (e 12) w) h hN
theorem s6_26 {R : VP} {Q : EQ} (hR : ∀ e w, (R (e 6) w) → Q .ret e w) (e : Env) (w : World) (h : m6_26 R (e 6) w) : W6 k6_26 Q e w := by
  unfold m6_26 at h
  exact reA (hR _ _ h)
theorem s6_23 {R : VP} {K1 : VP} {Q : EQ} (hR : ∀ e w, (R (e 6) w) → Q .ret e w) (e : Env) (w : World) (h : m6_23 R K1 (e 6) w) : W6 k6_23 Q e w := by
  unfold m6_23 at h
  exact reA (hR _ _ h)
theorem s6_21 {R : VP} {K1 : VP} {Q : EQ} (hR : ∀ e w, (R (e 6) w) → Q .ret e w) (e : Env) (w : World) (h : m6_21 R K1 (e 6) w) : W6 k6_21 Q e w := by
  unfold m6_21 at h
  exact reA (hR _ _ h)
theorem s6_16 {R : VP} {K1 : VP} {Q : EQ} (hN : ∀ e w, (K1 (e 17) w) → Q .normal e w) (e : Env) (w : World) (h : m6_16 R K1 (e 7) (e 9) (e 16) (e 17) w) : W6 k6_16 Q e w := by
  unfold m6_16 at h
  exact rgA 30 (fun e w => K1 (e 17) w) h hN
theorem s6_20 {R : VP} {K1 : VP} {Q : EQ} (hN : ∀ e w, (m6_16 R K1 (e 7) (e 9) (e 16) (e 17) w) → Q .normal e w) (hR : ∀ e w, (R (e 6) w) → Q .ret e w) (e : Env) (w : World) (h : m6_20 R K1 (e 7) (e 9) (e 16) (e 17) (e 145) w) : W6 k6_20 Q e w := by
  unfold m6_20 at h
  refine coA (Operand.tmp 145) h (fun h1 => ?_) (fun h1 => ?_)
  · refine seA ?_
    have hN : ∀ e w, (m6_21 R K1 (e 6) w) → (thenE (W6 k6_21 Q) Q) .normal e w := fun e w h => then_N (s6_21 (R := R) (Q := Q) (K1 := K1) hR e w h)
    exact rgA 36 (fun e w => m6_21 R K1 (e 6) w) h1 hN
  · exact skA (hN _ _ h1)
theorem s6_19 {R : VP} {K1 : VP} {Q : EQ} (hN : ∀ e w, (m6_16 R K1 (e 7) (e 9) (e 16) (e 17) w) → Q .normal e w) (hR : ∀ e w, (R (e 6) w) → Q .ret e w) (e : Env) (w : World) (h : m6_19 R K1 (e 7) (e 9) (e 16) (e 17) (e 19) w) : W6 k6_19 Q e w := by
  unfold m6_19 at h
  refine seA ?_
  have hN : ∀ e w, (m6_20 R K1 (e 7) (e 9) (e 16) (e 17) (e 145) w) → (thenE (W6 k6_20 Q) Q) .normal e w := fun e w h => then_N (s6_20 (R := R) (Q := Q) (K1 := K1) hN hR e w h)
  exact rgA 35 (fun e w => m6_20 R K1 (e 7) (e 9) (e 16) (e 17) (e 145) w) h hN
theorem s6_18 {R : VP} {K1 : VP} {Q : EQ} (hN : ∀ e w, (m6_16 R K1 (e 7) (e 9) (e 16) (e 17) w) → Q .normal e w) (hR : ∀ e w, (R (e 6) w) → Q .ret e w) (e : Env) (w : World) (h : m6_18 R K1 (e 7) (e 9) (e 16) (e 17) w) : W6 k6_18 Q e w := by
  unfold m6_18 at h
  refine seA ?_
  have hN : ∀ e w, (m6_19 R K1 (e 7) (e 9) (e 16) (e 17) (e 19) w) → (thenE (W6 k6_19 Q) Q) .normal e w := fun e w h => then_N (s6_19 (R := R) (Q := Q) (K1 := K1) hN hR e w h)
  exact rgA 34 (fun e w => m6_19 R K1 (e 7) (e 9) (e 16) (e 17) (e 19) w) h hN
theorem s6_22 {R : VP} {K1 : VP} {Q : EQ} (hN : ∀ e w, (m6_18 R K1 (e 7) (e 9) (e 16) (e 17) w) → Q .normal e w) (hR : ∀ e w, (R (e 6) w) → Q .ret e w) (e : Env) (w : World) (h : m6_22 R K1 (e 7) (e 9) (e 16) (e 17) (e 133) w) : W6 k6_22 Q e w := by
  unfold m6_22 at h
  refine coA (Operand.tmp 133) h (fun h1 => ?_) (fun h1 => ?_)
  · refine seA ?_
    have hN : ∀ e w, (m6_23 R K1 (e 6) w) → (thenE (W6 k6_23 Q) Q) .normal e w := fun e w h => then_N (s6_23 (R := R) (Q := Q) (K1 := K1) hR e w h)
    exact rgA 33 (fun e w => m6_23 R K1 (e 6) w) h1 hN
  · exact skA (hN _ _ h1)
theorem s6_17 {R : VP} {K1 : VP} {Q : EQ} (hN : ∀ e w, (m6_16 R K1 (e 7) (e 9) (e 16) (e 17) w) → Q .normal e w) (hR : ∀ e w, (R (e 6) w) → Q .ret e w) (e : Env) (w : World) (h : m6_17 R K1 (e 7) (e 9) (e 16) (e 17) (e 18) w) : W6 k6_17 Q e w := by
  unfold m6_17 at h
  refine seA ?_
  have hN : ∀ e w, (m6_18 R K1 (e 7) (e 9) (e 16) (e 17) w) → (thenE (W6 k6_18 Q) Q) .normal e w := fun e w h => then_N (s6_18 (R := R) (Q := Q) (K1 := K1) hN hR e w h)
  have hR : ∀ e w, (R (e 6) w) → (thenE (W6 k6_18 Q) Q) .ret e w := fun e w h => then_R (hR e w h)
  refine seA ?_
  have hN : ∀ e w, (m6_22 R K1 (e 7) (e 9) (e 16) (e 17) (e 133) w) → (thenE (W6 k6_22 (thenE (W6 k6_18 Q) Q)) (thenE (W6 k6_18 Q) Q)) .normal e w := fun e w h => then_N (s6_22 (R := R) (Q := (thenE (W6 k6_18 Q) Q)) (K1 := K1) hN hR e w h)
  exact rgA 32 (fun e w => m6_22 R K1 (e 7) (e 9) (e 16) (e 17) (e 133) w) h hN
theorem s6_15 {R : VP} {K1 : VP} {Q : EQ} (hN : ∀ e w, (K1 (e 17) w) → Q .normal e w) (hR : ∀ e w, (R (e 6) w) → Q .ret e w) (e : Env) (w : World) (h : m6_15 R K1 (e 7) (e 9) (e 16) (e 17) w) : W6 k6_15 Q e w := by
  unfold m6_15 at h
  refine seA ?_
  have hN : ∀ e w, (m6_16 R K1 (e 7) (e 9) (e 16) (e 17) w) → (thenE (W6 k6_16 Q) Q) .normal e w := fun e w h => then_N (s6_16 (R := R) (Q := Q) (K1 := K1) hN e w h)
  have hR : ∀ e w, (R (e 6) w) → (thenE (W6 k6_16 Q) Q) .ret e w := fun e w h => then_R (hR e w h)
  refine block_ok 7 (by kernel_rfl) ?_
  have hN : ∀ e w, (m6_16 R K1 (e 7) (e 9) (e 16) (e 17) w) → (inBlockE 7 (thenE (W6 k6_16 Q) Q)) .normal e w := fun e w h => block_N (hN e w h)
  have hR : ∀ e w, (R (e 6) w) → (inBlockE 7 (thenE (W6 k6_16 Q) Q)) .ret e w := fun e w h => block_R (hR e w h)
  refine seA ?_
  have hN : ∀ e w, (m6_17 R K1 (e 7) (e 9) (e 16) (e 17) (e 18) w) → (thenE (W6 k6_17 (inBlockE 7 (thenE (W6 k6_16 Q) Q))) (inBlockE 7 (thenE (W6 k6_16 Q) Q))) .normal e w := fun e w h => then_N (s6_17 (R := R) (Q := (inBlockE 7 (thenE (W6 k6_16 Q) Q))) (K1 := K1) hN hR e w h)
  exact rgA 31 (fun e w => m6_17 R K1 (e 7) (e 9) (e 16) (e 17) (e 18) w) h hN
theorem s6_12 {R : VP} {Q : EQ} (hR : ∀ e w, (R (e 6) w) → Q .ret e w) (e : Env) (w : World) (h : m6_12 R (e 6) w) : W6 k6_12 Q e w := by
  unfold m6_12 at h
  exact reA (hR _ _ h)
theorem s6_11 {R : VP} {Q : EQ} (hR : ∀ e w, (R (e 6) w) → Q .ret e w) (e : Env) (w : World) (h : m6_11 R w) : W6 k6_11 Q e w := by
  unfold m6_11 at h
  refine seA ?_
  have hN : ∀ e w, (m6_12 R (e 6) w) → (thenE (W6 k6_12 Q) Q) .normal e w := fun e w h => then_N (s6_12 (R := R) (Q := Q) hR e w h)
  exact rgA 37 (fun e w => m6_12 R (e 6) w) h hN
theorem s6_24 {R : VP} {K1 : VP} {Q : EQ} (hN : ∀ e w, (m6_15 R K1 (e 7) (e 9) (e 16) (e 17) w) → Q .normal e w) (hX6 : ∀ e w, (m6_11 R w) → Q (.exit 6) e w) (e : Env) (w : World) (h : m6_24 R K1 (e 7) (e 9) (e 16) (e 17) (e 108) w) : W6 k6_24 Q e w := by
  unfold m6_24 at h
  refine coA (Operand.tmp 108) h (fun h1 => ?_) (fun h1 => ?_)
  · exact skA (hN _ _ h1)
  · exact exA 6 (hX6 _ _ h1)
theorem s6_14 {R : VP} {K1 : VP} {Q : EQ} (hN : ∀ e w, (K1 (e 17) w) → Q .normal e w) (hR : ∀ e w, (R (e 6) w) → Q .ret e w) (hX6 : ∀ e w, (m6_11 R w) → Q (.exit 6) e w) (e : Env) (w : World) (h : m6_14 R K1 (e 7) (e 9) (e 16) (e 17) w) : W6 k6_14 Q e w := by
  unfold m6_14 at h
  refine seA ?_
  have hN : ∀ e w, (m6_15 R K1 (e 7) (e 9) (e 16) (e 17) w) → (thenE (W6 k6_15 Q) Q) .normal e w := fun e w h => then_N (s6_15 (R := R) (Q := Q) (K1 := K1) hN hR e w h)
  have hX6 : ∀ e w, (m6_11 R w) → (thenE (W6 k6_15 Q) Q) (.exit 6) e w := fun e w h => then_X (hX6 e w h)
  refine seA ?_
  have hN : ∀ e w, (m6_24 R K1 (e 7) (e 9) (e 16) (e 17) (e 108) w) → (thenE (W6 k6_24 (thenE (W6 k6_15 Q) Q)) (thenE (W6 k6_15 Q) Q)) .normal e w := fun e w h => then_N (s6_24 (R := R) (Q := (thenE (W6 k6_15 Q) Q)) (K1 := K1) hN hX6 e w h)
  exact rgA 29 (fun e w => m6_24 R K1 (e 7) (e 9) (e 16) (e 17) (e 108) w) h hN
theorem s6_13 {R : VP} {Q : EQ} (hN : ∀ e w, (m6_11 R w) → Q .normal e w) (hR : ∀ e w, (R (e 6) w) → Q .ret e w) (e : Env) (w : World) (h : m6_13 R (e 7) (e 9) (e 16) (e 17) w) : W6 k6_13 Q e w := by
  unfold m6_13 at h
  refine block_ok 6 (by kernel_rfl) ?_
  have hX6 : ∀ e w, (m6_11 R w) → (inBlockE 6 Q) (.exit 6) e w := fun e w h => inBlock_same (Q := Q) 6 (hN e w h)
  have hR : ∀ e w, (R (e 6) w) → (inBlockE 6 Q) .ret e w := fun e w h => block_R (hR e w h)
  refine loop_ok' (fun (e : Env) => e 17) [7, 9, 16] (by kernel_rfl) (by kernel_rfl) h (fun K e' w' hk h' => ?_)
  have r7 : e' 7 = e 7 := hk 7 (by decide)
  have r9 : e' 9 = e 9 := hk 9 (by decide)
  have r16 : e' 16 = e 16 := hk 16 (by decide)
  have hR : ∀ e w, (R (e 6) w) → (thenE (fun (e : Env) w => K (e 17) w) (inBlockE 6 Q)) .ret e w := fun e w h => then_R (hR e w h)
  have hX6 : ∀ e w, (m6_11 R w) → (thenE (fun (e : Env) w => K (e 17) w) (inBlockE 6 Q)) (.exit 6) e w := fun e w h => then_X (hX6 e w h)
  exact s6_14 (R := R) (Q := (thenE (fun (e : Env) w => K (e 17) w) (inBlockE 6 Q))) (K1 := K) (fun _ _ h => then_N h) hR hX6 e' w' (by rw [r7, r9, r16]; exact h')
theorem s6_10 {R : VP} {Q : EQ} (hR : ∀ e w, (R (e 6) w) → Q .ret e w) (e : Env) (w : World) (h : m6_10 R (e 7) (e 9) (e 16) w) : W6 k6_10 Q e w := by
  unfold m6_10 at h
  refine seA ?_
  have hN : ∀ e w, (m6_11 R w) → (thenE (W6 k6_11 Q) Q) .normal e w := fun e w h => then_N (s6_11 (R := R) (Q := Q) hR e w h)
  have hR : ∀ e w, (R (e 6) w) → (thenE (W6 k6_11 Q) Q) .ret e w := fun e w h => then_R (hR e w h)
  refine seA ?_
  have hN : ∀ e w, (m6_13 R (e 7) (e 9) (e 16) (e 17) w) → (thenE (W6 k6_13 (thenE (W6 k6_11 Q) Q)) (thenE (W6 k6_11 Q) Q)) .normal e w := fun e w h => then_N (s6_13 (R := R) (Q := (thenE (W6 k6_11 Q) Q)) hN hR e w h)
  exact rgA 28 (fun e w => m6_13 R (e 7) (e 9) (e 16) (e 17) w) h hN
theorem s6_9 {R : VP} {Q : EQ} (hR : ∀ e w, (R (e 6) w) → Q .ret e w) (e : Env) (w : World) (h : m6_9 R (e 7) (e 9) w) : W6 k6_9 Q e w := by
  unfold m6_9 at h
  refine seA ?_
  have hN : ∀ e w, (m6_10 R (e 7) (e 9) (e 16) w) → (thenE (W6 k6_10 Q) Q) .normal e w := fun e w h => then_N (s6_10 (R := R) (Q := Q) hR e w h)
  exact rgA 27 (fun e w => m6_10 R (e 7) (e 9) (e 16) w) h hN
theorem s6_25 {R : VP} {Q : EQ} (hN : ∀ e w, (m6_9 R (e 7) (e 9) w) → Q .normal e w) (hR : ∀ e w, (R (e 6) w) → Q .ret e w) (e : Env) (w : World) (h : m6_25 R (e 7) (e 9) (e 102) w) : W6 k6_25 Q e w := by
  unfold m6_25 at h
  refine coA (Operand.tmp 102) h (fun h1 => ?_) (fun h1 => ?_)
  · refine seA ?_
    have hN : ∀ e w, (m6_26 R (e 6) w) → (thenE (W6 k6_26 Q) Q) .normal e w := fun e w h => then_N (s6_26 (R := R) (Q := Q) hR e w h)
    exact rgA 26 (fun e w => m6_26 R (e 6) w) h1 hN
  · exact skA (hN _ _ h1)
theorem s6_8 {R : VP} {Q : EQ} (hR : ∀ e w, (R (e 6) w) → Q .ret e w) (e : Env) (w : World) (h : m6_8 R (e 7) (e 9) (e 10) w) : W6 k6_8 Q e w := by
  unfold m6_8 at h
  refine seA ?_
  have hN : ∀ e w, (m6_9 R (e 7) (e 9) w) → (thenE (W6 k6_9 Q) Q) .normal e w := fun e w h => then_N (s6_9 (R := R) (Q := Q) hR e w h)
  have hR : ∀ e w, (R (e 6) w) → (thenE (W6 k6_9 Q) Q) .ret e w := fun e w h => then_R (hR e w h)
  refine seA ?_
  have hN : ∀ e w, (m6_25 R (e 7) (e 9) (e 102) w) → (thenE (W6 k6_25 (thenE (W6 k6_9 Q) Q)) (thenE (W6 k6_9 Q) Q)) .normal e w := fun e w h => then_N (s6_25 (R := R) (Q := (thenE (W6 k6_9 Q) Q)) hN hR e w h)
  exact rgA 25 (fun e w => m6_25 R (e 7) (e 9) (e 102) w) h hN
theorem s6_45 {R : VP} {K1 : VP} {Q : EQ} (hN : ∀ e w, (m6_29 R K1 (e 2) (e 7) (e 9) (e 10) (e 11) w) → Q .normal e w) (hX2 : ∀ e w, (m6_8 R (e 7) (e 9) (e 10) w) → Q (.exit 2) e w) (e : Env) (w : World) (h : m6_45 R K1 (e 2) (e 7) (e 9) (e 10) (e 11) (e 48) w) : W6 k6_45 Q e w := by
  unfold m6_45 at h
  refine coA (Operand.tmp 48) h (fun h1 => ?_) (fun h1 => ?_)
  · exact skA (hN _ _ h1)
  · exact exA 2 (hX2 _ _ h1)
theorem s6_28 {R : VP} {K1 : VP} {Q : EQ} (hN : ∀ e w, (K1 (e 11) w) → Q .normal e w) (hR : ∀ e w, (R (e 6) w) → Q .ret e w) (hX2 : ∀ e w, (m6_8 R (e 7) (e 9) (e 10) w) → Q (.exit 2) e w) (e : Env) (w : World) (h : m6_28 R K1 (e 2) (e 7) (e 9) (e 10) (e 11) w) : W6 k6_28 Q e w := by
  unfold m6_28 at h
  refine seA ?_
  have hN : ∀ e w, (m6_29 R K1 (e 2) (e 7) (e 9) (e 10) (e 11) w) → (thenE (W6 k6_29 Q) Q) .normal e w := fun e w h => then_N (s6_29 (R := R) (Q := Q) (K1 := K1) hN hR e w h)
  have hX2 : ∀ e w, (m6_8 R (e 7) (e 9) (e 10) w) → (thenE (W6 k6_29 Q) Q) (.exit 2) e w := fun e w h => then_X (hX2 e w h)
  refine seA ?_
  have hN : ∀ e w, (m6_45 R K1 (e 2) (e 7) (e 9) (e 10) (e 11) (e 48) w) → (thenE (W6 k6_45 (thenE (W6 k6_29 Q) Q)) (thenE (W6 k6_29 Q) Q)) .normal e w := fun e w h => then_N (s6_45 (R := R) (Q := (thenE (W6 k6_29 Q) Q)) (K1 := K1) hN hX2 e w h)
  exact rgA 12 (fun e w => m6_45 R K1 (e 2) (e 7) (e 9) (e 10) (e 11) (e 48) w) h hN
theorem s6_27 {R : VP} {Q : EQ} (hN : ∀ e w, (m6_8 R (e 7) (e 9) (e 10) w) → Q .normal e w) (hR : ∀ e w, (R (e 6) w) → Q .ret e w) (e : Env) (w : World) (h : m6_27 R (e 2) (e 7) (e 9) (e 10) (e 11) w) : W6 k6_27 Q e w := by
  unfold m6_27 at h
  refine block_ok 2 (by kernel_rfl) ?_
  have hX2 : ∀ e w, (m6_8 R (e 7) (e 9) (e 10) w) → (inBlockE 2 Q) (.exit 2) e w := fun e w h => inBlock_same (Q := Q) 2 (hN e w h)
  have hR : ∀ e w, (R (e 6) w) → (inBlockE 2 Q) .ret e w := fun e w h => block_R (hR e w h)
  refine loop_ok' (fun (e : Env) => e 11) [2, 7, 9, 10] (by kernel_rfl) (by kernel_rfl) h (fun K e' w' hk h' => ?_)
  have r2 : e' 2 = e 2 := hk 2 (by decide)
  have r7 : e' 7 = e 7 := hk 7 (by decide)
  have r9 : e' 9 = e 9 := hk 9 (by decide)
  have r10 : e' 10 = e 10 := hk 10 (by decide)
  have hR : ∀ e w, (R (e 6) w) → (thenE (fun (e : Env) w => K (e 11) w) (inBlockE 2 Q)) .ret e w := fun e w h => then_R (hR e w h)
  have hX2 : ∀ e w, (m6_8 R (e 7) (e 9) (e 10) w) → (thenE (fun (e : Env) w => K (e 11) w) (inBlockE 2 Q)) (.exit 2) e w := fun e w h => then_X (hX2 e w h)
  exact s6_28 (R := R) (Q := (thenE (fun (e : Env) w => K (e 11) w) (inBlockE 2 Q))) (K1 := K) (fun _ _ h => then_N h) hR hX2 e' w' (by rw [r2, r7, r9, r10]; exact h')
theorem s6_7 {R : VP} {Q : EQ} (hR : ∀ e w, (R (e 6) w) → Q .ret e w) (e : Env) (w : World) (h : m6_7 R (e 2) (e 7) (e 9) (e 10) w) : W6 k6_7 Q e w := by
  unfold m6_7 at h
  refine seA ?_
  have hN : ∀ e w, (m6_8 R (e 7) (e 9) (e 10) w) → (thenE (W6 k6_8 Q) Q) .normal e w := fun e w h => then_N (s6_8 (R := R) (Q := Q) hR e w h)
  have hR : ∀ e w, (R (e 6) w) → (thenE (W6 k6_8 Q) Q) .ret e w := fun e w h => then_R (hR e w h)
  refine seA ?_
  have hN : ∀ e w, (m6_27 R (e 2) (e 7) (e 9) (e 10) (e 11) w) → (thenE (W6 k6_27 (thenE (W6 k6_8 Q) Q)) (thenE (W6 k6_8 Q) Q)) .normal e w := fun e w h => then_N (s6_27 (R := R) (Q := (thenE (W6 k6_8 Q) Q)) hN hR e w h)
  exact rgA 11 (fun e w => m6_27 R (e 2) (e 7) (e 9) (e 10) (e 11) w) h hN
theorem s6_6 {R : VP} {Q : EQ} (hR : ∀ e w, (R (e 6) w) → Q .ret e w) (e : Env) (w : World) (h : m6_6 R (e 2) (e 7) (e 9) w) : W6 k6_6 Q e w := by
  unfold m6_6 at h
  refine seA ?_
  have hN : ∀ e w, (m6_7 R (e 2) (e 7) (e 9) (e 10) w) → (thenE (W6 k6_7 Q) Q) .normal e w := fun e w h => then_N (s6_7 (R := R) (Q := Q) hR e w h)
  exact rgA 10 (fun e w => m6_7 R (e 2) (e 7) (e 9) (e 10) w) h hN
theorem s6_5 {R : VP} {Q : EQ} (hR : ∀ e w, (R (e 6) w) → Q .ret e w) (e : Env) (w : World) (h : m6_5 R (e 2) (e 7) w) : W6 k6_5 Q e w := by
  unfold m6_5 at h
  refine seA ?_
  have hN : ∀ e w, (m6_6 R (e 2) (e 7) (e 9) w) → (thenE (W6 k6_6 Q) Q) .normal e w := fun e w h => then_N (s6_6 (R := R) (Q := Q) hR e w h)
  exact rgA 9 (fun e w => m6_6 R (e 2) (e 7) (e 9) w) h hN
theorem s6_50 {R : VP} {K1 : VP} {Q : EQ} (hN : ∀ e w, (m6_48 R K1 (e 1) (e 2) (e 7) (e 8) w) → Q .normal e w) (hX0 : ∀ e w, (m6_5 R (e 2) (e 7) w) → Q (.exit 0) e w) (e : Env) (w : World) (h : m6_50 R K1 (e 1) (e 2) (e 7) (e 8) (e 30) w) : W6 k6_50 Q e w := by
  unfold m6_50 at h
  refine coA (Operand.tmp 30) h (fun h1 => ?_) (fun h1 => ?_)
  · exact skA (hN _ _ h1)
  · exact exA 0 (hX0 _ _ h1)
theorem s6_47 {R : VP} {K1 : VP} {Q : EQ} (hN : ∀ e w, (K1 (e 8) w) → Q .normal e w) (hX0 : ∀ e w, (m6_5 R (e 2) (e 7) w) → Q (.exit 0) e w) (e : Env) (w : World) (h : m6_47 R K1 (e 1) (e 2) (e 7) (e 8) w) : W6 k6_47 Q e w := by
  unfold m6_47 at h
  refine seA ?_
  have hN : ∀ e w, (m6_48 R K1 (e 1) (e 2) (e 7) (e 8) w) → (thenE (W6 k6_48 Q) Q) .normal e w := fun e w h => then_N (s6_48 (R := R) (Q := Q) (K1 := K1) hN e w h)
  have hX0 : ∀ e w, (m6_5 R (e 2) (e 7) w) → (thenE (W6 k6_48 Q) Q) (.exit 0) e w := fun e w h => then_X (hX0 e w h)
  refine seA ?_
  have hN : ∀ e w, (m6_50 R K1 (e 1) (e 2) (e 7) (e 8) (e 30) w) → (thenE (W6 k6_50 (thenE (W6 k6_48 Q) Q)) (thenE (W6 k6_48 Q) Q)) .normal e w := fun e w h => then_N (s6_50 (R := R) (Q := (thenE (W6 k6_48 Q) Q)) (K1 := K1) hN hX0 e w h)
  exact rgA 6 (fun e w => m6_50 R K1 (e 1) (e 2) (e 7) (e 8) (e 30) w) h hN
theorem s6_46 {R : VP} {Q : EQ} (hN : ∀ e w, (m6_5 R (e 2) (e 7) w) → Q .normal e w) (e : Env) (w : World) (h : m6_46 R (e 1) (e 2) (e 7) (e 8) w) : W6 k6_46 Q e w := by
  unfold m6_46 at h
  refine block_ok 0 (by kernel_rfl) ?_
  have hX0 : ∀ e w, (m6_5 R (e 2) (e 7) w) → (inBlockE 0 Q) (.exit 0) e w := fun e w h => inBlock_same (Q := Q) 0 (hN e w h)
  refine loop_ok' (fun (e : Env) => e 8) [1, 2, 7] (by kernel_rfl) (by kernel_rfl) h (fun K e' w' hk h' => ?_)
  have r1 : e' 1 = e 1 := hk 1 (by decide)
  have r2 : e' 2 = e 2 := hk 2 (by decide)
  have r7 : e' 7 = e 7 := hk 7 (by decide)
  have hX0 : ∀ e w, (m6_5 R (e 2) (e 7) w) → (thenE (fun (e : Env) w => K (e 8) w) (inBlockE 0 Q)) (.exit 0) e w := fun e w h => then_X (hX0 e w h)
  exact s6_47 (R := R) (Q := (thenE (fun (e : Env) w => K (e 8) w) (inBlockE 0 Q))) (K1 := K) (fun _ _ h => then_N h) hX0 e' w' (by rw [r1, r2, r7]; exact h')
theorem s6_4 {R : VP} {Q : EQ} (hR : ∀ e w, (R (e 6) w) → Q .ret e w) (e : Env) (w : World) (h : m6_4 R (e 1) (e 2) (e 7) w) : W6 k6_4 Q e w := by
  unfold m6_4 at h
  refine seA ?_
  have hN : ∀ e w, (m6_5 R (e 2) (e 7) w) → (thenE (W6 k6_5 Q) Q) .normal e w := fun e w h => then_N (s6_5 (R := R) (Q := Q) hR e w h)
  refine seA ?_
  have hN : ∀ e w, (m6_46 R (e 1) (e 2) (e 7) (e 8) w) → (thenE (W6 k6_46 (thenE (W6 k6_5 Q) Q)) (thenE (W6 k6_5 Q) Q)) .normal e w := fun e w h => then_N (s6_46 (R := R) (Q := (thenE (W6 k6_5 Q) Q)) hN e w h)
  exact rgA 5 (fun e w => m6_46 R (e 1) (e 2) (e 7) (e 8) w) h hN
theorem s6_3 {R : VP} {Q : EQ} (hR : ∀ e w, (R (e 6) w) → Q .ret e w) (e : Env) (w : World) (h : m6_3 R (e 1) (e 2) (e 7) w) : W6 k6_3 Q e w := by
  unfold m6_3 at h
  refine seA ?_
  have hN : ∀ e w, (m6_4 R (e 1) (e 2) (e 7) w) → (thenE (W6 k6_4 Q) Q) .normal e w := fun e w h => then_N (s6_4 (R := R) (Q := Q) hR e w h)
  exact rgA 4 (fun e w => m6_4 R (e 1) (e 2) (e 7) w) h hN
theorem s6_51 {R : VP} {Q : EQ} (hN : ∀ e w, (m6_3 R (e 1) (e 2) (e 7) w) → Q .normal e w) (hR : ∀ e w, (R (e 6) w) → Q .ret e w) (e : Env) (w : World) (h : m6_51 R (e 1) (e 2) (e 7) (e 24) w) : W6 k6_51 Q e w := by
  unfold m6_51 at h
  refine coA (Operand.tmp 24) h (fun h1 => ?_) (fun h1 => ?_)
  · refine seA ?_
    have hN : ∀ e w, (m6_52 R (e 6) w) → (thenE (W6 k6_52 Q) Q) .normal e w := fun e w h => then_N (s6_52 (R := R) (Q := Q) hR e w h)
    exact rgA 3 (fun e w => m6_52 R (e 6) w) h1 hN
  · exact skA (hN _ _ h1)
theorem s6_2 {R : VP} {Q : EQ} (hR : ∀ e w, (R (e 6) w) → Q .ret e w) (e : Env) (w : World) (h : m6_2 R (e 1) (e 2) (e 7) w) : W6 k6_2 Q e w := by
  unfold m6_2 at h
  refine seA ?_
  have hN : ∀ e w, (m6_3 R (e 1) (e 2) (e 7) w) → (thenE (W6 k6_3 Q) Q) .normal e w := fun e w h => then_N (s6_3 (R := R) (Q := Q) hR e w h)
  have hR : ∀ e w, (R (e 6) w) → (thenE (W6 k6_3 Q) Q) .ret e w := fun e w h => then_R (hR e w h)
  refine seA ?_
  have hN : ∀ e w, (m6_51 R (e 1) (e 2) (e 7) (e 24) w) → (thenE (W6 k6_51 (thenE (W6 k6_3 Q) Q)) (thenE (W6 k6_3 Q) Q)) .normal e w := fun e w h => then_N (s6_51 (R := R) (Q := (thenE (W6 k6_3 Q) Q)) hN hR e w h)
  exact rgA 2 (fun e w => m6_51 R (e 1) (e 2) (e 7) (e 24) w) h hN
theorem s6_1 {R : VP} {Q : EQ} (hR : ∀ e w, (R (e 6) w) → Q .ret e w) (e : Env) (w : World) (h : m6_1 R (e 0) (e 1) (e 2) w) : W6 k6_1 Q e w := by
  unfold m6_1 at h
  refine seA ?_
  have hN : ∀ e w, (m6_2 R (e 1) (e 2) (e 7) w) → (thenE (W6 k6_2 Q) Q) .normal e w := fun e w h => then_N (s6_2 (R := R) (Q := Q) hR e w h)
  exact rgA 1 (fun e w => m6_2 R (e 1) (e 2) (e 7) w) h hN
theorem s6_0 {R : VP} {Q : EQ} (hR : ∀ e w, (R (e 6) w) → Q .ret e w) (e : Env) (w : World) (h : m6_0 R (e 0) (e 1) (e 2) w) : W6 k6_0 Q e w := by
  unfold m6_0 at h
  refine seA ?_
  have hN : ∀ e w, (m6_1 R (e 0) (e 1) (e 2) w) → (thenE (W6 k6_1 Q) Q) .normal e w := fun e w h => then_N (s6_1 (R := R) (Q := Q) hR e w h)
  exact rgA 0 (fun e w => m6_1 R (e 0) (e 1) (e 2) w) h hN
abbrev m6 (R : VP) (parts0 l1 back2 : Value) (w : World) : Prop := m6_0 R parts0 l1 back2 w
theorem s6 (parts0 l1 back2 : Value) {R : VP} {w : World} (h : m6 R parts0 l1 back2 w) :
    Calls Try.prog 6 #[parts0, l1, back2] w fun e w' => ∃ v, e = .returned v ∧ R v w' :=
  calls_of_cwp (st := (fun i => cond (Nat.beq i 23) 11 (0))) (c := k6_0) (by kernel_rfl) Try.func6 (by kernel_rfl) (Nat.le_of_ble_eq_true (by kernel_rfl)) (by kernel_rfl)
    (s6_0 (R := R) (Q := endE Try.prog Try.f6 R) (fun e w h => kcast (by kernel_rfl) h) (argsE #[parts0, l1, back2]) w (kcast (by kernel_rfl) h))
end Go.Proofs.Ytjjmlopmemmobaa.M
