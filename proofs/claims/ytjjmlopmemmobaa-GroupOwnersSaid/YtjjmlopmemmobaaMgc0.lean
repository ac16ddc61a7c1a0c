/- What functions' texts ask of their ends, told over values that have names; printed by a program of this work. -/
import Derived.Test.YtjjmlopmemmobaaFw
import Derived.Test.YtjjmlopmemmobaaProg
namespace Go.Proofs.Ytjjmlopmemmobaa.M
open Go.Proofs.Ytjjmlopmemmobaa.F
set_option linter.unusedVariables false
set_option maxRecDepth 100000
/-! ### headgate/headgatelaw10.GroupOwners -/
def m10_44 (R : VP) (t6 : Value) (w : World) : Prop :=
  R t6 w
def m10_41 (R : VP) (K1 : VP) (t6 : Value) (w : World) : Prop :=
  R t6 w
def m10_38 (R : VP) (K1 : VP) (K2 : (Value × Value) → World → Prop) (t6 : Value) (w : World) : Prop :=
  R t6 w
def m10_36 (R : VP) (K1 : VP) (K2 : (Value × Value) → World → Prop) (t6 : Value) (w : World) : Prop :=
  R t6 w
def m10_33 (R : VP) (K1 : VP) (K2 : (Value × Value) → World → Prop) (K3 : VP) (t6 : Value) (w : World) : Prop :=
  R t6 w
def m10_31 (R : VP) (K1 : VP) (K2 : (Value × Value) → World → Prop) (K3 : VP) (parts0 l2 g7 i9 m10 o11 sum12 k13 own16 p18 : Value) (w : World) : Prop :=
  valP Try.prog (binS BinOp.add 3 (Operand.tmp 123) (Operand.const (Value.int IntKind.i64 1)) p18 (Value.int IntKind.i64 1)) w fun t124 w =>
  K3 t124 w
def m10_32 (R : VP) (K1 : VP) (K2 : (Value × Value) → World → Prop) (K3 : VP) (parts0 l2 g7 i9 m10 o11 sum12 k13 own16 p18 t138 : Value) (w : World) : Prop :=
  condP t138
  (m10_33 R K1 K2 K3 (Value.bool false) w)
  (m10_31 R K1 K2 K3 parts0 l2 g7 i9 m10 o11 sum12 k13 own16 p18 w)
def m10_30 (R : VP) (K1 : VP) (K2 : (Value × Value) → World → Prop) (K3 : VP) (parts0 l2 g7 i9 m10 o11 sum12 k13 own16 p18 : Value) (w : World) : Prop :=
  anyDraw w fun w =>
  heldP w fun J =>
  valJ Try.prog J (Instr.indexAt 66 m10 k13) fun t128 =>
  valJ Try.prog J (Instr.fieldAt 69 t128 0) fun t129 =>
  valJ Try.prog J (Instr.loadAt 3 t129) fun t130 =>
  valJ Try.prog J (Instr.indexAt 28 own16 p18) fun t135 =>
  valJ Try.prog J (Instr.loadAt 3 t135) fun t136 =>
  callP Try.prog (fnV 44) #[g7] w fun t132 w =>
  stayP J w
  (callP Try.prog (fnV 47) #[g7, t130, t132, t136] w fun t137 w =>
  stayP J w
  (valJ Try.prog J (binS BinOp.neq 26 (Operand.tmp 137) (Operand.const (Value.int IntKind.i64 0)) t137 (Value.int IntKind.i64 0)) fun t138 =>
  m10_32 R K1 K2 K3 parts0 l2 g7 i9 m10 o11 sum12 k13 own16 p18 t138 w))
def m10_22 (R : VP) (K1 : VP) (K2 : (Value × Value) → World → Prop) (parts0 l2 g7 i9 m10 o11 sum12 k13 : Value) (w : World) : Prop :=
  valP Try.prog (binS BinOp.add 3 (Operand.tmp 73) (Operand.const (Value.int IntKind.i64 1)) k13 (Value.int IntKind.i64 1)) w fun t74 w =>
  K2 (sum12, t74) w
def m10_34 (R : VP) (K1 : VP) (K2 : (Value × Value) → World → Prop) (K3 : VP) (parts0 l2 g7 i9 m10 o11 sum12 k13 own16 p18 t122 : Value) (w : World) : Prop :=
  condP t122
  (m10_30 R K1 K2 K3 parts0 l2 g7 i9 m10 o11 sum12 k13 own16 p18 w)
  (m10_22 R K1 K2 parts0 l2 g7 i9 m10 o11 sum12 k13 w)
def m10_29 (R : VP) (K1 : VP) (K2 : (Value × Value) → World → Prop) (K3 : VP) (parts0 l2 g7 i9 m10 o11 sum12 k13 own16 p18 : Value) (w : World) : Prop :=
  builtinP Try.prog Builtin.len #[28] 3 #[false] #[own16] w fun t121 w =>
  valP Try.prog (binS BinOp.lss 3 (Operand.tmp 119) (Operand.tmp 121) p18 t121) w fun t122 w =>
  m10_34 R K1 K2 K3 parts0 l2 g7 i9 m10 o11 sum12 k13 own16 p18 t122 w
def m10_28 (R : VP) (K1 : VP) (K2 : (Value × Value) → World → Prop) (parts0 l2 g7 i9 m10 o11 sum12 k13 own16 p18 : Value) (w : World) : Prop :=
  loopP (fun (K3 : VP) (s : Value) w => m10_29 R K1 K2 K3 parts0 l2 g7 i9 m10 o11 sum12 k13 own16 s w) p18 w
def m10_27 (R : VP) (K1 : VP) (K2 : (Value × Value) → World → Prop) (parts0 l2 g7 i9 m10 o11 sum12 k13 own16 : Value) (w : World) : Prop :=
  m10_28 R K1 K2 parts0 l2 g7 i9 m10 o11 sum12 k13 own16 (Value.int IntKind.i64 0) w
def m10_35 (R : VP) (K1 : VP) (K2 : (Value × Value) → World → Prop) (parts0 l2 g7 i9 m10 o11 sum12 k13 own16 t118 : Value) (w : World) : Prop :=
  condP t118
  (m10_36 R K1 K2 (Value.bool false) w)
  (m10_27 R K1 K2 parts0 l2 g7 i9 m10 o11 sum12 k13 own16 w)
def m10_26 (R : VP) (K1 : VP) (K2 : (Value × Value) → World → Prop) (parts0 l2 g7 i9 m10 o11 sum12 k13 n14 own16 f17 : Value) (w : World) : Prop :=
  valP Try.prog (binS BinOp.neq 26 (Operand.tmp 111) (Operand.const (Value.int IntKind.i64 0)) f17 (Value.int IntKind.i64 0)) w fun t112 w =>
  condP t112
  (pickP t112 (Value.bool true) undef fun t118 =>
  m10_35 R K1 K2 parts0 l2 g7 i9 m10 o11 sum12 k13 own16 t118 w)
  (builtinP Try.prog Builtin.len #[28] 3 #[false] #[own16] w fun t115 w =>
  valP Try.prog (binS BinOp.neq 3 (Operand.tmp 115) (Operand.tmp 116) t115 n14) w fun t117 w =>
  pickP t112 (Value.bool true) t117 fun t118 =>
  m10_35 R K1 K2 parts0 l2 g7 i9 m10 o11 sum12 k13 own16 t118 w)
def m10_25 (R : VP) (K1 : VP) (K2 : (Value × Value) → World → Prop) (parts0 l2 g7 i9 m10 o11 sum12 k13 n14 : Value) (w : World) : Prop :=
  valP Try.prog (Instr.indexAt 66 m10 k13) w fun t104 w =>
  valP Try.prog (Instr.fieldAt 69 t104 0) w fun t105 w =>
  valP Try.prog (Instr.loadAt 3 t105) w fun t106 w =>
  callP Try.prog (fnV 41) #[g7, t106] w fun t107 w =>
  valP Try.prog (Instr.extract t107 0) w fun t108 w =>
  valP Try.prog (Instr.extract t107 1) w fun t109 w =>
  valP Try.prog (Instr.extract t107 2) w fun t110 w =>
  m10_26 R K1 K2 parts0 l2 g7 i9 m10 o11 sum12 k13 n14 t109 t110 w
def m10_24 (R : VP) (K1 : VP) (K2 : (Value × Value) → World → Prop) (parts0 l2 g7 i9 m10 o11 sum12 k13 n14 : Value) (w : World) : Prop :=
  valP Try.prog (binS BinOp.add 3 (Operand.tmp 97) (Operand.tmp 98) sum12 n14) w fun t99 w =>
  m10_25 R K1 K2 parts0 l2 g7 i9 m10 o11 t99 k13 n14 w
def m10_37 (R : VP) (K1 : VP) (K2 : (Value × Value) → World → Prop) (parts0 l2 g7 i9 m10 o11 sum12 k13 n14 t96 : Value) (w : World) : Prop :=
  condP t96
  (m10_38 R K1 K2 (Value.bool false) w)
  (m10_24 R K1 K2 parts0 l2 g7 i9 m10 o11 sum12 k13 n14 w)
def m10_23 (R : VP) (K1 : VP) (K2 : (Value × Value) → World → Prop) (parts0 l2 g7 i9 m10 o11 sum12 k13 n14 : Value) (w : World) : Prop :=
  builtinP Try.prog Builtin.len #[66] 3 #[false] #[m10] w fun t85 w =>
  valP Try.prog (binS BinOp.quo 3 (Operand.tmp 83) (Operand.tmp 85) parts0 t85) w fun t86 w =>
  valP Try.prog (binS BinOp.neq 3 (Operand.tmp 82) (Operand.tmp 86) n14 t86) w fun t87 w =>
  condP t87
  (builtinP Try.prog Builtin.len #[66] 3 #[false] #[m10] w fun t92 w =>
  valP Try.prog (binS BinOp.quo 3 (Operand.tmp 90) (Operand.tmp 92) parts0 t92) w fun t93 w =>
  valP Try.prog (binS BinOp.add 3 (Operand.tmp 93) (Operand.const (Value.int IntKind.i64 1)) t93 (Value.int IntKind.i64 1)) w fun t94 w =>
  valP Try.prog (binS BinOp.neq 3 (Operand.tmp 89) (Operand.tmp 94) n14 t94) w fun t95 w =>
  pickP t87 t95 (Value.bool false) fun t96 =>
  m10_37 R K1 K2 parts0 l2 g7 i9 m10 o11 sum12 k13 n14 t96 w)
  (pickP t87 undef (Value.bool false) fun t96 =>
  m10_37 R K1 K2 parts0 l2 g7 i9 m10 o11 sum12 k13 n14 t96 w)
def m10_21 (R : VP) (K1 : VP) (K2 : (Value × Value) → World → Prop) (parts0 l2 g7 i9 m10 o11 sum12 k13 : Value) (w : World) : Prop :=
  valP Try.prog (Instr.indexAt 66 m10 k13) w fun t78 w =>
  valP Try.prog (Instr.fieldAt 69 t78 0) w fun t79 w =>
  valP Try.prog (Instr.loadAt 3 t79) w fun t80 w =>
  callP Try.prog (fnV 21) #[o11, t80] w fun t81 w =>
  m10_23 R K1 K2 parts0 l2 g7 i9 m10 o11 sum12 k13 t81 w
def m10_18 (R : VP) (K1 : VP) (t6 : Value) (w : World) : Prop :=
  R t6 w
def m10_11 (R : VP) (K1 : VP) (parts0 l2 g7 i9 : Value) (w : World) : Prop :=
  valP Try.prog (binS BinOp.add 3 (Operand.tmp 42) (Operand.const (Value.int IntKind.i64 1)) i9 (Value.int IntKind.i64 1)) w fun t43 w =>
  K1 t43 w
def m10_17 (R : VP) (K1 : VP) (parts0 l2 g7 i9 t146 : Value) (w : World) : Prop :=
  condP t146
  (m10_18 R K1 (Value.bool false) w)
  (m10_11 R K1 parts0 l2 g7 i9 w)
def m10_16 (R : VP) (K1 : VP) (parts0 l2 g7 i9 m10 sum12 : Value) (w : World) : Prop :=
  builtinP Try.prog Builtin.len #[66] 3 #[false] #[m10] w fun t140 w =>
  valP Try.prog (binS BinOp.gtr 3 (Operand.tmp 140) (Operand.const (Value.int IntKind.i64 0)) t140 (Value.int IntKind.i64 0)) w fun t141 w =>
  condP t141
  (valP Try.prog (binS BinOp.neq 3 (Operand.tmp 143) (Operand.tmp 144) sum12 parts0) w fun t145 w =>
  pickP t141 t145 (Value.bool false) fun t146 =>
  m10_17 R K1 parts0 l2 g7 i9 t146 w)
  (pickP t141 undef (Value.bool false) fun t146 =>
  m10_17 R K1 parts0 l2 g7 i9 t146 w)
def m10_39 (R : VP) (K1 : VP) (K2 : (Value × Value) → World → Prop) (parts0 l2 g7 i9 m10 o11 sum12 k13 t72 : Value) (w : World) : Prop :=
  condP t72
  (m10_21 R K1 K2 parts0 l2 g7 i9 m10 o11 sum12 k13 w)
  (m10_16 R K1 parts0 l2 g7 i9 m10 sum12 w)
def m10_20 (R : VP) (K1 : VP) (K2 : (Value × Value) → World → Prop) (parts0 l2 g7 i9 m10 o11 sum12 k13 : Value) (w : World) : Prop :=
  builtinP Try.prog Builtin.len #[66] 3 #[false] #[m10] w fun t71 w =>
  valP Try.prog (binS BinOp.lss 3 (Operand.tmp 69) (Operand.tmp 71) k13 t71) w fun t72 w =>
  m10_39 R K1 K2 parts0 l2 g7 i9 m10 o11 sum12 k13 t72 w
def m10_19 (R : VP) (K1 : VP) (parts0 l2 g7 i9 m10 o11 sum12 k13 : Value) (w : World) : Prop :=
  loopP (fun (K2 : (Value × Value) → World → Prop) (s : Value × Value) w => m10_20 R K1 K2 parts0 l2 g7 i9 m10 o11 s.1 s.2 w) (sum12, k13) w
def m10_15 (R : VP) (K1 : VP) (parts0 l2 g7 i9 m10 o11 sum12 : Value) (w : World) : Prop :=
  m10_19 R K1 parts0 l2 g7 i9 m10 o11 sum12 (Value.int IntKind.i64 0) w
def m10_14 (R : VP) (K1 : VP) (parts0 l2 g7 i9 m10 o11 : Value) (w : World) : Prop :=
  m10_15 R K1 parts0 l2 g7 i9 m10 o11 (Value.int IntKind.i64 0) w
def m10_40 (R : VP) (K1 : VP) (parts0 l2 g7 i9 m10 o11 t68 : Value) (w : World) : Prop :=
  condP t68
  (m10_41 R K1 (Value.bool false) w)
  (m10_14 R K1 parts0 l2 g7 i9 m10 o11 w)
def m10_13 (R : VP) (K1 : VP) (parts0 l2 g7 i9 m10 o11 : Value) (w : World) : Prop :=
  builtinP Try.prog Builtin.len #[28] 3 #[false] #[o11] w fun t55 w =>
  valP Try.prog (binS BinOp.neq 3 (Operand.tmp 55) (Operand.tmp 56) t55 parts0) w fun t57 w =>
  condP t57
  (pickP t57 (Value.bool true) undef fun t68 =>
  m10_40 R K1 parts0 l2 g7 i9 m10 o11 t68 w)
  (builtinP Try.prog Builtin.len #[66] 3 #[false] #[m10] w fun t60 w =>
  valP Try.prog (binS BinOp.eql 3 (Operand.tmp 60) (Operand.const (Value.int IntKind.i64 0)) t60 (Value.int IntKind.i64 0)) w fun t61 w =>
  condP t61
  (callP Try.prog (fnV 21) #[o11, (Value.int IntKind.i64 0)] w fun t64 w =>
  valP Try.prog (binS BinOp.neq 3 (Operand.tmp 64) (Operand.tmp 65) t64 parts0) w fun t66 w =>
  pickP t61 t66 (Value.bool false) fun t67 =>
  pickP t57 (Value.bool true) t67 fun t68 =>
  m10_40 R K1 parts0 l2 g7 i9 m10 o11 t68 w)
  (pickP t61 undef (Value.bool false) fun t67 =>
  pickP t57 (Value.bool true) t67 fun t68 =>
  m10_40 R K1 parts0 l2 g7 i9 m10 o11 t68 w))
def m10_12 (R : VP) (K1 : VP) (parts0 l2 g7 i9 : Value) (w : World) : Prop :=
  callP Try.prog (fnV 39) #[g7] w fun t51 w =>
  callP Try.prog (fnV 46) #[g7] w fun t53 w =>
  m10_13 R K1 parts0 l2 g7 i9 t51 t53 w
def m10_10 (R : VP) (K1 : VP) (parts0 l2 g7 i9 : Value) (w : World) : Prop :=
  valP Try.prog (Instr.indexAt 58 l2 i9) w fun t47 w =>
  valP Try.prog (Instr.loadAt 65 t47) w fun t48 w =>
  callP Try.prog (fnV 38) #[g7, t48] w fun t49 w =>
  m10_12 R K1 parts0 l2 g7 i9 w
def m10_7 (R : VP) (t6 : Value) (w : World) : Prop :=
  R t6 w
def m10_6 (R : VP) (w : World) : Prop :=
  callP Try.prog (fnV 40) #[] w fun t147 w =>
  m10_7 R t147 w
def m10_42 (R : VP) (K1 : VP) (parts0 l2 g7 i9 t41 : Value) (w : World) : Prop :=
  condP t41
  (m10_10 R K1 parts0 l2 g7 i9 w)
  (m10_6 R w)
def m10_9 (R : VP) (K1 : VP) (parts0 l2 g7 i9 : Value) (w : World) : Prop :=
  builtinP Try.prog Builtin.len #[58] 3 #[false] #[l2] w fun t40 w =>
  valP Try.prog (binS BinOp.lss 3 (Operand.tmp 38) (Operand.tmp 40) i9 t40) w fun t41 w =>
  m10_42 R K1 parts0 l2 g7 i9 t41 w
def m10_8 (R : VP) (parts0 l2 g7 i9 : Value) (w : World) : Prop :=
  loopP (fun (K1 : VP) (s : Value) w => m10_9 R K1 parts0 l2 g7 s w) i9 w
def m10_5 (R : VP) (parts0 l2 g7 : Value) (w : World) : Prop :=
  m10_8 R parts0 l2 g7 (Value.int IntKind.i64 0) w
def m10_4 (R : VP) (parts0 l2 g7 : Value) (w : World) : Prop :=
  callP Try.prog (fnV 37) #[l2] w fun t37 w =>
  m10_5 R parts0 t37 g7 w
def m10_43 (R : VP) (parts0 l2 g7 t35 : Value) (w : World) : Prop :=
  condP t35
  (m10_44 R (Value.bool false) w)
  (m10_4 R parts0 l2 g7 w)
def m10_3 (R : VP) (parts0 l2 g7 e8 : Value) (w : World) : Prop :=
  valP Try.prog (binS BinOp.neq 26 (Operand.tmp 30) (Operand.const (Value.int IntKind.i64 0)) e8 (Value.int IntKind.i64 0)) w fun t31 w =>
  condP t31
  (pickP t31 (Value.bool true) undef fun t35 =>
  m10_43 R parts0 l2 g7 t35 w)
  (valP Try.prog (binS BinOp.eql 59 (Operand.tmp 33) (Operand.const (Value.pointer none)) g7 (Value.pointer none)) w fun t34 w =>
  pickP t31 (Value.bool true) t34 fun t35 =>
  m10_43 R parts0 l2 g7 t35 w)
def m10_2 (R : VP) (parts0 sticky1 l2 : Value) (w : World) : Prop :=
  callP Try.prog (fnV 36) #[parts0, sticky1, (Value.int IntKind.i64 0), (Value.int IntKind.i64 1)] w fun t27 w =>
  valP Try.prog (Instr.extract t27 0) w fun t28 w =>
  valP Try.prog (Instr.extract t27 1) w fun t29 w =>
  m10_3 R parts0 l2 t28 t29 w
def m10_1 (R : VP) (parts0 sticky1 l2 : Value) (w : World) : Prop :=
  valP Try.prog (binS BinOp.rem 3 (Operand.tmp 19) (Operand.const (Value.int IntKind.i64 4)) parts0 (Value.int IntKind.i64 4)) w fun t20 w =>
  valP Try.prog (binS BinOp.add 3 (Operand.tmp 20) (Operand.const (Value.int IntKind.i64 4)) t20 (Value.int IntKind.i64 4)) w fun t21 w =>
  valP Try.prog (binS BinOp.rem 3 (Operand.tmp 21) (Operand.const (Value.int IntKind.i64 4)) t21 (Value.int IntKind.i64 4)) w fun t22 w =>
  valP Try.prog (binS BinOp.add 3 (Operand.const (Value.int IntKind.i64 1)) (Operand.tmp 22) (Value.int IntKind.i64 1) t22) w fun t23 w =>
  m10_2 R t23 sticky1 l2 w
def m10_0 (R : VP) (parts0 sticky1 l2 : Value) (w : World) : Prop :=
  m10_1 R parts0 sticky1 l2 w
abbrev W10 := cwp Try.prog (fun i => 0)
noncomputable def k10_0 : Code := (bodyOf Try.f10)
noncomputable def k10_1 : Code := (c2 k10_0)
noncomputable def k10_2 : Code := (c2 k10_1)
noncomputable def k10_3 : Code := (c2 k10_2)
noncomputable def k10_4 : Code := (c2 k10_3)
noncomputable def k10_5 : Code := (c2 k10_4)
noncomputable def k10_6 : Code := (c2 k10_5)
noncomputable def k10_7 : Code := (c2 k10_6)
noncomputable def k10_8 : Code := (c2 (c1 k10_5))
noncomputable def k10_9 : Code := (c1 (c1 k10_8))
noncomputable def k10_10 : Code := (c2 k10_9)
noncomputable def k10_11 : Code := (c2 k10_10)
noncomputable def k10_12 : Code := (c2 (c1 (c1 k10_10)))
noncomputable def k10_13 : Code := (c2 k10_12)
noncomputable def k10_14 : Code := (c2 k10_13)
noncomputable def k10_15 : Code := (c2 k10_14)
noncomputable def k10_16 : Code := (c2 k10_15)
noncomputable def k10_17 : Code := (c2 k10_16)
noncomputable def k10_18 : Code := (c2 (c1 k10_17))
noncomputable def k10_19 : Code := (c2 (c1 k10_15))
noncomputable def k10_20 : Code := (c1 (c1 k10_19))
noncomputable def k10_21 : Code := (c2 k10_20)
noncomputable def k10_22 : Code := (c2 k10_21)
noncomputable def k10_23 : Code := (c2 (c1 (c1 k10_21)))
noncomputable def k10_24 : Code := (c2 k10_23)
noncomputable def k10_25 : Code := (c2 k10_24)
noncomputable def k10_26 : Code := (c2 k10_25)
noncomputable def k10_27 : Code := (c2 k10_26)
noncomputable def k10_28 : Code := (c2 k10_27)
noncomputable def k10_29 : Code := (c1 (c1 k10_28))
noncomputable def k10_30 : Code := (c2 k10_29)
noncomputable def k10_31 : Code := (c2 k10_30)
noncomputable def k10_32 : Code := (c2 (c1 (c1 k10_30)))
noncomputable def k10_33 : Code := (c2 (c1 k10_32))
noncomputable def k10_34 : Code := (c2 (c1 k10_29))
noncomputable def k10_35 : Code := (c2 (c1 k10_26))
noncomputable def k10_36 : Code := (c2 (c1 k10_35))
noncomputable def k10_37 : Code := (c2 (c1 k10_23))
noncomputable def k10_38 : Code := (c2 (c1 k10_37))
noncomputable def k10_39 : Code := (c2 (c1 k10_20))
noncomputable def k10_40 : Code := (c2 (c1 k10_13))
noncomputable def k10_41 : Code := (c2 (c1 k10_40))
noncomputable def k10_42 : Code := (c2 (c1 k10_9))
noncomputable def k10_43 : Code := (c2 (c1 k10_3))
noncomputable def k10_44 : Code := (c2 (c1 k10_43))
theorem s10_44 {R : VP} {Q : EQ} (hR : ∀ e w, (R (e 6) w) → Q .ret e w) (e : Env) (w : World) (h : m10_44 R (e 6) w) : W10 k10_44 Q e w := by
  unfold m10_44 at h
  exact reA (hR _ _ h)
theorem s10_41 {R : VP} {K1 : VP} {Q : EQ} (hR : ∀ e w, (R (e 6) w) → Q .ret e w) (e : Env) (w : World) (h : m10_41 R K1 (e 6) w) : W10 k10_41 Q e w := by
  unfold m10_41 at h
  exact reA (hR _ _ h)
theorem s10_38 {R : VP} {K1 : VP} {K2 : (Value × Value) → World → Prop} {Q : EQ} (hR : ∀ e w, (R (e 6) w) → Q .ret e w) (e : Env) (w : World) (h : m10_38 R K1 K2 (e 6) w) : W10 k10_38 Q e w := by
  unfold m10_38 at h
  exact reA (hR _ _ h)
theorem s10_36 {R : VP} {K1 : VP} {K2 : (Value × Value) → World → Prop} {Q : EQ} (hR : ∀ e w, (R (e 6) w) → Q .ret e w) (e : Env) (w : World) (h : m10_36 R K1 K2 (e 6) w) : W10 k10_36 Q e w := by
  unfold m10_36 at h
  exact reA (hR _ _ h)
theorem s10_33 {R : VP} {K1 : VP} {K2 : (Value × Value) → World → Prop} {K3 : VP} {Q : EQ} (hR : ∀ e w, (R (e 6) w) → Q .ret e w) (e : Env) (w : World) (h : m10_33 R K1 K2 K3 (e 6) w) : W10 k10_33 Q e w := by
  unfold m10_33 at h
  exact reA (hR _ _ h)
theorem s10_31 {R : VP} {K1 : VP} {K2 : (Value × Value) → World → Prop} {K3 : VP} {Q : EQ} (hN : ∀ e w, (K3 (e 18) w) → Q .normal e w) (e : Env) (w : World) (h : m10_31 R K1 K2 K3 (e 0) (e 2) (e 7) (e 9) (e 10) (e 11) (e 12) (e 13) (e 16) (e 18) w) : W10 k10_31 Q e w := by
  unfold m10_31 at h
  exact rgA 26 (fun e w => K3 (e 18) w) h hN
theorem s10_32 {R : VP} {K1 : VP} {K2 : (Value × Value) → World → Prop} {K3 : VP} {Q : EQ} (hN : ∀ e w, (m10_31 R K1 K2 K3 (e 0) (e 2) (e 7) (e 9) (e 10) (e 11) (e 12) (e 13) (e 16) (e 18) w) → Q .normal e w) (hR : ∀ e w, (R (e 6) w) → Q .ret e w) (e : Env) (w : World) (h : m10_32 R K1 K2 K3 (e 0) (e 2) (e 7) (e 9) (e 10) (e 11) (e 12) (e 13) (e 16) (e 18) (e 138) w) : W10 k10_32 Q e w := by
  unfold m10_32 at h
  refine coA (Operand.tmp 138) h (fun h1 => ?_) (fun h1 => ?_)
  · refine seA ?_
    have hN : ∀ e w, (m10_33 R K1 K2 K3 (e 6) w) → (thenE (W10 k10_33 Q) Q) .normal e w := fun e w h => then_N (s10_33 (R := R) (Q := Q) (K1 := K1) (K2 := K2) (K3 := K3) hR e w h)
    exact rgA 28 (fun e w => m10_33 R K1 K2 K3 (e 6) w) h1 hN
  · exact skA (hN _ _ h1)
theorem s10_30 {R : VP} {K1 : VP} {K2 : (Value × Value) → World → Prop} {K3 : VP} {Q : EQ} (hN : ∀ e w, (K3 (e 18) w) → Q .normal e w) (hR : ∀ e w, (R (e 6) w) → Q .ret e w) (e : Env) (w : World) (h : m10_30 R K1 K2 K3 (e 0) (e 2) (e 7) (e 9) (e 10) (e 11) (e 12) (e 13) (e 16) (e 18) w) : W10 k10_30 Q e w := by
  unfold m10_30 at h
  refine seA ?_
  have hN : ∀ e w, (m10_31 R K1 K2 K3 (e 0) (e 2) (e 7) (e 9) (e 10) (e 11) (e 12) (e 13) (e 16) (e 18) w) → (thenE (W10 k10_31 Q) Q) .normal e w := fun e w h => then_N (s10_31 (R := R) (Q := Q) (K1 := K1) (K2 := K2) (K3 := K3) hN e w h)
  have hR : ∀ e w, (R (e 6) w) → (thenE (W10 k10_31 Q) Q) .ret e w := fun e w h => then_R (hR e w h)
  refine block_ok 5 (by kernel_rfl) ?_
  have hN : ∀ e w, (m10_31 R K1 K2 K3 (e 0) (e 2) (e 7) (e 9) (e 10) (e 11) (e 12) (e 13) (e 16) (e 18) w) → (inBlockE 5 (thenE (W10 k10_31 Q) Q)) .normal e w := fun e w h => block_N (hN e w h)
  have hR : ∀ e w, (R (e 6) w) → (inBlockE 5 (thenE (W10 k10_31 Q) Q)) .ret e w := fun e w h => block_R (hR e w h)
  refine seA ?_
  have hN : ∀ e w, (m10_32 R K1 K2 K3 (e 0) (e 2) (e 7) (e 9) (e 10) (e 11) (e 12) (e 13) (e 16) (e 18) (e 138) w) → (thenE (W10 k10_32 (inBlockE 5 (thenE (W10 k10_31 Q) Q))) (inBlockE 5 (thenE (W10 k10_31 Q) Q))) .normal e w := fun e w h => then_N (s10_32 (R := R) (Q := (inBlockE 5 (thenE (W10 k10_31 Q) Q))) (K1 := K1) (K2 := K2) (K3 := K3) hN hR e w h)
  exact treeJ_ok 27 14 [false, false, false, false, false, false, false, false, false, false, false, false, false, false] (.take 0 [true, false, false, false, false, false, false, false, false, false, false, false, false, false] (.take 1 [true, true, false, false, false, false, false, false, false, false, false, false, false, false] (.take 2 [true, true, true, false, false, false, false, false, false, false, false, false, false, false] (.take 3 [true, true, true, true, false, false, false, false, false, false, false, false, false, false] (.take 4 [true, true, true, true, true, false, false, false, false, false, false, false, false, false] (.take 5 [true, true, true, true, true, true, false, false, false, false, false, false, false, false] (.take 6 [true, true, true, true, true, true, true, false, false, false, false, false, false, false] (.take 8 [true, true, true, true, true, true, true, false, true, false, false, false, false, false] (.take 9 [true, true, true, true, true, true, true, false, true, true, false, false, false, false] (.take 10 [true, true, true, true, true, true, true, false, true, true, true, false, false, false] (.take 11 [true, true, true, true, true, true, true, false, true, true, true, true, false, false] (.alt 7 [true, true, true, true, true, true, true, true, true, true, true, true, false, false] (.alt 12 [true, true, true, true, true, true, true, true, true, true, true, true, true, false] (.take 13 [true, true, true, true, true, true, true, true, true, true, true, true, true, true] .done) .stop) .stop)))))))))))) (fun e w => m10_32 R K1 K2 K3 (e 0) (e 2) (e 7) (e 9) (e 10) (e 11) (e 12) (e 13) (e 16) (e 18) (e 138) w) (by kernel_rfl) (by kernel_rfl) (by kernel_rfl) (by kernel_rfl) (by kernel_rfl) (by kernel_rfl) (kcast (by kernel_rfl) h) hN (by kernel_rfl)
theorem s10_22 {R : VP} {K1 : VP} {K2 : (Value × Value) → World → Prop} {Q : EQ} (hN : ∀ e w, (K2 ((e 12), (e 13)) w) → Q .normal e w) (e : Env) (w : World) (h : m10_22 R K1 K2 (e 0) (e 2) (e 7) (e 9) (e 10) (e 11) (e 12) (e 13) w) : W10 k10_22 Q e w := by
  unfold m10_22 at h
  exact rgA 16 (fun e w => K2 ((e 12), (e 13)) w) h hN
theorem s10_34 {R : VP} {K1 : VP} {K2 : (Value × Value) → World → Prop} {K3 : VP} {Q : EQ} (hN : ∀ e w, (m10_30 R K1 K2 K3 (e 0) (e 2) (e 7) (e 9) (e 10) (e 11) (e 12) (e 13) (e 16) (e 18) w) → Q .normal e w) (hX4 : ∀ e w, (m10_22 R K1 K2 (e 0) (e 2) (e 7) (e 9) (e 10) (e 11) (e 12) (e 13) w) → Q (.exit 4) e w) (e : Env) (w : World) (h : m10_34 R K1 K2 K3 (e 0) (e 2) (e 7) (e 9) (e 10) (e 11) (e 12) (e 13) (e 16) (e 18) (e 122) w) : W10 k10_34 Q e w := by
  unfold m10_34 at h
  refine coA (Operand.tmp 122) h (fun h1 => ?_) (fun h1 => ?_)
  · exact skA (hN _ _ h1)
  · exact exA 4 (hX4 _ _ h1)
theorem s10_29 {R : VP} {K1 : VP} {K2 : (Value × Value) → World → Prop} {K3 : VP} {Q : EQ} (hN : ∀ e w, (K3 (e 18) w) → Q .normal e w) (hR : ∀ e w, (R (e 6) w) → Q .ret e w) (hX4 : ∀ e w, (m10_22 R K1 K2 (e 0) (e 2) (e 7) (e 9) (e 10) (e 11) (e 12) (e 13) w) → Q (.exit 4) e w) (e : Env) (w : World) (h : m10_29 R K1 K2 K3 (e 0) (e 2) (e 7) (e 9) (e 10) (e 11) (e 12) (e 13) (e 16) (e 18) w) : W10 k10_29 Q e w := by
  unfold m10_29 at h
  refine seA ?_
  have hN : ∀ e w, (m10_30 R K1 K2 K3 (e 0) (e 2) (e 7) (e 9) (e 10) (e 11) (e 12) (e 13) (e 16) (e 18) w) → (thenE (W10 k10_30 Q) Q) .normal e w := fun e w h => then_N (s10_30 (R := R) (Q := Q) (K1 := K1) (K2 := K2) (K3 := K3) hN hR e w h)
  have hX4 : ∀ e w, (m10_22 R K1 K2 (e 0) (e 2) (e 7) (e 9) (e 10) (e 11) (e 12) (e 13) w) → (thenE (W10 k10_30 Q) Q) (.exit 4) e w := fun e w h => then_X (hX4 e w h)
  refine seA ?_
  have hN : ∀ e w, (m10_34 R K1 K2 K3 (e 0) (e 2) (e 7) (e 9) (e 10) (e 11) (e 12) (e 13) (e 16) (e 18) (e 122) w) → (thenE (W10 k10_34 (thenE (W10 k10_30 Q) Q)) (thenE (W10 k10_30 Q) Q)) .normal e w := fun e w h => then_N (s10_34 (R := R) (Q := (thenE (W10 k10_30 Q) Q)) (K1 := K1) (K2 := K2) (K3 := K3) hN hX4 e w h)
  exact rgA 25 (fun e w => m10_34 R K1 K2 K3 (e 0) (e 2) (e 7) (e 9) (e 10) (e 11) (e 12) (e 13) (e 16) (e 18) (e 122) w) h hN
theorem s10_28 {R : VP} {K1 : VP} {K2 : (Value × Value) → World → Prop} {Q : EQ} (hN : ∀ e w, (m10_22 R K1 K2 (e 0) (e 2) (e 7) (e 9) (e 10) (e 11) (e 12) (e 13) w) → Q .normal e w) (hR : ∀ e w, (R (e 6) w) → Q .ret e w) (e : Env) (w : World) (h : m10_28 R K1 K2 (e 0) (e 2) (e 7) (e 9) (e 10) (e 11) (e 12) (e 13) (e 16) (e 18) w) : W10 k10_28 Q e w := by
  unfold m10_28 at h
  refine block_ok 4 (by kernel_rfl) ?_
  have hX4 : ∀ e w, (m10_22 R K1 K2 (e 0) (e 2) (e 7) (e 9) (e 10) (e 11) (e 12) (e 13) w) → (inBlockE 4 Q) (.exit 4) e w := fun e w h => inBlock_same (Q := Q) 4 (hN e w h)
  have hR : ∀ e w, (R (e 6) w) → (inBlockE 4 Q) .ret e w := fun e w h => block_R (hR e w h)
  refine loop_ok' (fun (e : Env) => e 18) [0, 2, 7, 9, 10, 11, 12, 13, 16] (by kernel_rfl) (by kernel_rfl) h (fun K e' w' hk h' => ?_)
  have r0 : e' 0 = e 0 := hk 0 (by decide)
  have r2 : e' 2 = e 2 := hk 2 (by decide)
  have r7 : e' 7 = e 7 := hk 7 (by decide)
  have r9 : e' 9 = e 9 := hk 9 (by decide)
  have r10 : e' 10 = e 10 := hk 10 (by decide)
  have r11 : e' 11 = e 11 := hk 11 (by decide)
  have r12 : e' 12 = e 12 := hk 12 (by decide)
  have r13 : e' 13 = e 13 := hk 13 (by decide)
  have r16 : e' 16 = e 16 := hk 16 (by decide)
  have hR : ∀ e w, (R (e 6) w) → (thenE (fun (e : Env) w => K (e 18) w) (inBlockE 4 Q)) .ret e w := fun e w h => then_R (hR e w h)
  have hX4 : ∀ e w, (m10_22 R K1 K2 (e 0) (e 2) (e 7) (e 9) (e 10) (e 11) (e 12) (e 13) w) → (thenE (fun (e : Env) w => K (e 18) w) (inBlockE 4 Q)) (.exit 4) e w := fun e w h => then_X (hX4 e w h)
  exact s10_29 (R := R) (Q := (thenE (fun (e : Env) w => K (e 18) w) (inBlockE 4 Q))) (K1 := K1) (K2 := K2) (K3 := K) (fun _ _ h => then_N h) hR hX4 e' w' (by rw [r0, r2, r7, r9, r10, r11, r12, r13, r16]; exact h')
theorem s10_27 {R : VP} {K1 : VP} {K2 : (Value × Value) → World → Prop} {Q : EQ} (hN : ∀ e w, (m10_22 R K1 K2 (e 0) (e 2) (e 7) (e 9) (e 10) (e 11) (e 12) (e 13) w) → Q .normal e w) (hR : ∀ e w, (R (e 6) w) → Q .ret e w) (e : Env) (w : World) (h : m10_27 R K1 K2 (e 0) (e 2) (e 7) (e 9) (e 10) (e 11) (e 12) (e 13) (e 16) w) : W10 k10_27 Q e w := by
  unfold m10_27 at h
  refine seA ?_
  have hN : ∀ e w, (m10_28 R K1 K2 (e 0) (e 2) (e 7) (e 9) (e 10) (e 11) (e 12) (e 13) (e 16) (e 18) w) → (thenE (W10 k10_28 Q) Q) .normal e w := fun e w h => then_N (s10_28 (R := R) (Q := Q) (K1 := K1) (K2 := K2) hN hR e w h)
  exact rgA 24 (fun e w => m10_28 R K1 K2 (e 0) (e 2) (e 7) (e 9) (e 10) (e 11) (e 12) (e 13) (e 16) (e 18) w) h hN
theorem s10_35 {R : VP} {K1 : VP} {K2 : (Value × Value) → World → Prop} {Q : EQ} (hN : ∀ e w, (m10_27 R K1 K2 (e 0) (e 2) (e 7) (e 9) (e 10) (e 11) (e 12) (e 13) (e 16) w) → Q .normal e w) (hR : ∀ e w, (R (e 6) w) → Q .ret e w) (e : Env) (w : World) (h : m10_35 R K1 K2 (e 0) (e 2) (e 7) (e 9) (e 10) (e 11) (e 12) (e 13) (e 16) (e 118) w) : W10 k10_35 Q e w := by
  unfold m10_35 at h
  refine coA (Operand.tmp 118) h (fun h1 => ?_) (fun h1 => ?_)
  · refine seA ?_
    have hN : ∀ e w, (m10_36 R K1 K2 (e 6) w) → (thenE (W10 k10_36 Q) Q) .normal e w := fun e w h => then_N (s10_36 (R := R) (Q := Q) (K1 := K1) (K2 := K2) hR e w h)
    exact rgA 23 (fun e w => m10_36 R K1 K2 (e 6) w) h1 hN
  · exact skA (hN _ _ h1)
theorem s10_26 {R : VP} {K1 : VP} {K2 : (Value × Value) → World → Prop} {Q : EQ} (hN : ∀ e w, (m10_22 R K1 K2 (e 0) (e 2) (e 7) (e 9) (e 10) (e 11) (e 12) (e 13) w) → Q .normal e w) (hR : ∀ e w, (R (e 6) w) → Q .ret e w) (e : Env) (w : World) (h : m10_26 R K1 K2 (e 0) (e 2) (e 7) (e 9) (e 10) (e 11) (e 12) (e 13) (e 14) (e 16) (e 17) w) : W10 k10_26 Q e w := by
  unfold m10_26 at h
  refine seA ?_
  have hN : ∀ e w, (m10_27 R K1 K2 (e 0) (e 2) (e 7) (e 9) (e 10) (e 11) (e 12) (e 13) (e 16) w) → (thenE (W10 k10_27 Q) Q) .normal e w := fun e w h => then_N (s10_27 (R := R) (Q := Q) (K1 := K1) (K2 := K2) hN hR e w h)
  have hR : ∀ e w, (R (e 6) w) → (thenE (W10 k10_27 Q) Q) .ret e w := fun e w h => then_R (hR e w h)
  refine seA ?_
  have hN : ∀ e w, (m10_35 R K1 K2 (e 0) (e 2) (e 7) (e 9) (e 10) (e 11) (e 12) (e 13) (e 16) (e 118) w) → (thenE (W10 k10_35 (thenE (W10 k10_27 Q) Q)) (thenE (W10 k10_27 Q) Q)) .normal e w := fun e w h => then_N (s10_35 (R := R) (Q := (thenE (W10 k10_27 Q) Q)) (K1 := K1) (K2 := K2) hN hR e w h)
  exact rgA 22 (fun e w => m10_35 R K1 K2 (e 0) (e 2) (e 7) (e 9) (e 10) (e 11) (e 12) (e 13) (e 16) (e 118) w) h hN
theorem s10_25 {R : VP} {K1 : VP} {K2 : (Value × Value) → World → Prop} {Q : EQ} (hN : ∀ e w, (m10_22 R K1 K2 (e 0) (e 2) (e 7) (e 9) (e 10) (e 11) (e 12) (e 13) w) → Q .normal e w) (hR : ∀ e w, (R (e 6) w) → Q .ret e w) (e : Env) (w : World) (h : m10_25 R K1 K2 (e 0) (e 2) (e 7) (e 9) (e 10) (e 11) (e 12) (e 13) (e 14) w) : W10 k10_25 Q e w := by
  unfold m10_25 at h
  refine seA ?_
  have hN : ∀ e w, (m10_26 R K1 K2 (e 0) (e 2) (e 7) (e 9) (e 10) (e 11) (e 12) (e 13) (e 14) (e 16) (e 17) w) → (thenE (W10 k10_26 Q) Q) .normal e w := fun e w h => then_N (s10_26 (R := R) (Q := Q) (K1 := K1) (K2 := K2) hN hR e w h)
  exact rgA 21 (fun e w => m10_26 R K1 K2 (e 0) (e 2) (e 7) (e 9) (e 10) (e 11) (e 12) (e 13) (e 14) (e 16) (e 17) w) h hN
theorem s10_24 {R : VP} {K1 : VP} {K2 : (Value × Value) → World → Prop} {Q : EQ} (hN : ∀ e w, (m10_22 R K1 K2 (e 0) (e 2) (e 7) (e 9) (e 10) (e 11) (e 12) (e 13) w) → Q .normal e w) (hR : ∀ e w, (R (e 6) w) → Q .ret e w) (e : Env) (w : World) (h : m10_24 R K1 K2 (e 0) (e 2) (e 7) (e 9) (e 10) (e 11) (e 12) (e 13) (e 14) w) : W10 k10_24 Q e w := by
  unfold m10_24 at h
  refine seA ?_
  have hN : ∀ e w, (m10_25 R K1 K2 (e 0) (e 2) (e 7) (e 9) (e 10) (e 11) (e 12) (e 13) (e 14) w) → (thenE (W10 k10_25 Q) Q) .normal e w := fun e w h => then_N (s10_25 (R := R) (Q := Q) (K1 := K1) (K2 := K2) hN hR e w h)
  exact rgA 20 (fun e w => m10_25 R K1 K2 (e 0) (e 2) (e 7) (e 9) (e 10) (e 11) (e 12) (e 13) (e 14) w) h hN
theorem s10_37 {R : VP} {K1 : VP} {K2 : (Value × Value) → World → Prop} {Q : EQ} (hN : ∀ e w, (m10_24 R K1 K2 (e 0) (e 2) (e 7) (e 9) (e 10) (e 11) (e 12) (e 13) (e 14) w) → Q .normal e w) (hR : ∀ e w, (R (e 6) w) → Q .ret e w) (e : Env) (w : World) (h : m10_37 R K1 K2 (e 0) (e 2) (e 7) (e 9) (e 10) (e 11) (e 12) (e 13) (e 14) (e 96) w) : W10 k10_37 Q e w := by
  unfold m10_37 at h
  refine coA (Operand.tmp 96) h (fun h1 => ?_) (fun h1 => ?_)
  · refine seA ?_
    have hN : ∀ e w, (m10_38 R K1 K2 (e 6) w) → (thenE (W10 k10_38 Q) Q) .normal e w := fun e w h => then_N (s10_38 (R := R) (Q := Q) (K1 := K1) (K2 := K2) hR e w h)
    exact rgA 19 (fun e w => m10_38 R K1 K2 (e 6) w) h1 hN
  · exact skA (hN _ _ h1)
theorem s10_23 {R : VP} {K1 : VP} {K2 : (Value × Value) → World → Prop} {Q : EQ} (hN : ∀ e w, (m10_22 R K1 K2 (e 0) (e 2) (e 7) (e 9) (e 10) (e 11) (e 12) (e 13) w) → Q .normal e w) (hR : ∀ e w, (R (e 6) w) → Q .ret e w) (e : Env) (w : World) (h : m10_23 R K1 K2 (e 0) (e 2) (e 7) (e 9) (e 10) (e 11) (e 12) (e 13) (e 14) w) : W10 k10_23 Q e w := by
  unfold m10_23 at h
  refine seA ?_
  have hN : ∀ e w, (m10_24 R K1 K2 (e 0) (e 2) (e 7) (e 9) (e 10) (e 11) (e 12) (e 13) (e 14) w) → (thenE (W10 k10_24 Q) Q) .normal e w := fun e w h => then_N (s10_24 (R := R) (Q := Q) (K1 := K1) (K2 := K2) hN hR e w h)
  have hR : ∀ e w, (R (e 6) w) → (thenE (W10 k10_24 Q) Q) .ret e w := fun e w h => then_R (hR e w h)
  refine seA ?_
  have hN : ∀ e w, (m10_37 R K1 K2 (e 0) (e 2) (e 7) (e 9) (e 10) (e 11) (e 12) (e 13) (e 14) (e 96) w) → (thenE (W10 k10_37 (thenE (W10 k10_24 Q) Q)) (thenE (W10 k10_24 Q) Q)) .normal e w := fun e w h => then_N (s10_37 (R := R) (Q := (thenE (W10 k10_24 Q) Q)) (K1 := K1) (K2 := K2) hN hR e w h)
  exact rgA 18 (fun e w => m10_37 R K1 K2 (e 0) (e 2) (e 7) (e 9) (e 10) (e 11) (e 12) (e 13) (e 14) (e 96) w) h hN
theorem s10_21 {R : VP} {K1 : VP} {K2 : (Value × Value) → World → Prop} {Q : EQ} (hN : ∀ e w, (K2 ((e 12), (e 13)) w) → Q .normal e w) (hR : ∀ e w, (R (e 6) w) → Q .ret e w) (e : Env) (w : World) (h : m10_21 R K1 K2 (e 0) (e 2) (e 7) (e 9) (e 10) (e 11) (e 12) (e 13) w) : W10 k10_21 Q e w := by
  unfold m10_21 at h
  refine seA ?_
  have hN : ∀ e w, (m10_22 R K1 K2 (e 0) (e 2) (e 7) (e 9) (e 10) (e 11) (e 12) (e 13) w) → (thenE (W10 k10_22 Q) Q) .normal e w := fun e w h => then_N (s10_22 (R := R) (Q := Q) (K1 := K1) (K2 := K2) hN e w h)
  have hR : ∀ e w, (R (e 6) w) → (thenE (W10 k10_22 Q) Q) .ret e w := fun e w h => then_R (hR e w h)
  refine block_ok 3 (by kernel_rfl) ?_
  have hN : ∀ e w, (m10_22 R K1 K2 (e 0) (e 2) (e 7) (e 9) (e 10) (e 11) (e 12) (e 13) w) → (inBlockE 3 (thenE (W10 k10_22 Q) Q)) .normal e w := fun e w h => block_N (hN e w h)
  have hR : ∀ e w, (R (e 6) w) → (inBlockE 3 (thenE (W10 k10_22 Q) Q)) .ret e w := fun e w h => block_R (hR e w h)
  refine seA ?_
  have hN : ∀ e w, (m10_23 R K1 K2 (e 0) (e 2) (e 7) (e 9) (e 10) (e 11) (e 12) (e 13) (e 14) w) → (thenE (W10 k10_23 (inBlockE 3 (thenE (W10 k10_22 Q) Q))) (inBlockE 3 (thenE (W10 k10_22 Q) Q))) .normal e w := fun e w h => then_N (s10_23 (R := R) (Q := (inBlockE 3 (thenE (W10 k10_22 Q) Q))) (K1 := K1) (K2 := K2) hN hR e w h)
  exact rgA 17 (fun e w => m10_23 R K1 K2 (e 0) (e 2) (e 7) (e 9) (e 10) (e 11) (e 12) (e 13) (e 14) w) h hN
theorem s10_18 {R : VP} {K1 : VP} {Q : EQ} (hR : ∀ e w, (R (e 6) w) → Q .ret e w) (e : Env) (w : World) (h : m10_18 R K1 (e 6) w) : W10 k10_18 Q e w := by
  unfold m10_18 at h
  exact reA (hR _ _ h)
theorem s10_11 {R : VP} {K1 : VP} {Q : EQ} (hN : ∀ e w, (K1 (e 9) w) → Q .normal e w) (e : Env) (w : World) (h : m10_11 R K1 (e 0) (e 2) (e 7) (e 9) w) : W10 k10_11 Q e w := by
  unfold m10_11 at h
  exact rgA 8 (fun e w => K1 (e 9) w) h hN
theorem s10_17 {R : VP} {K1 : VP} {Q : EQ} (hN : ∀ e w, (m10_11 R K1 (e 0) (e 2) (e 7) (e 9) w) → Q .normal e w) (hR : ∀ e w, (R (e 6) w) → Q .ret e w) (e : Env) (w : World) (h : m10_17 R K1 (e 0) (e 2) (e 7) (e 9) (e 146) w) : W10 k10_17 Q e w := by
  unfold m10_17 at h
  refine coA (Operand.tmp 146) h (fun h1 => ?_) (fun h1 => ?_)
  · refine seA ?_
    have hN : ∀ e w, (m10_18 R K1 (e 6) w) → (thenE (W10 k10_18 Q) Q) .normal e w := fun e w h => then_N (s10_18 (R := R) (Q := Q) (K1 := K1) hR e w h)
    exact rgA 30 (fun e w => m10_18 R K1 (e 6) w) h1 hN
  · exact skA (hN _ _ h1)
theorem s10_16 {R : VP} {K1 : VP} {Q : EQ} (hN : ∀ e w, (m10_11 R K1 (e 0) (e 2) (e 7) (e 9) w) → Q .normal e w) (hR : ∀ e w, (R (e 6) w) → Q .ret e w) (e : Env) (w : World) (h : m10_16 R K1 (e 0) (e 2) (e 7) (e 9) (e 10) (e 12) w) : W10 k10_16 Q e w := by
  unfold m10_16 at h
  refine seA ?_
  have hN : ∀ e w, (m10_17 R K1 (e 0) (e 2) (e 7) (e 9) (e 146) w) → (thenE (W10 k10_17 Q) Q) .normal e w := fun e w h => then_N (s10_17 (R := R) (Q := Q) (K1 := K1) hN hR e w h)
  exact rgA 29 (fun e w => m10_17 R K1 (e 0) (e 2) (e 7) (e 9) (e 146) w) h hN
theorem s10_39 {R : VP} {K1 : VP} {K2 : (Value × Value) → World → Prop} {Q : EQ} (hN : ∀ e w, (m10_21 R K1 K2 (e 0) (e 2) (e 7) (e 9) (e 10) (e 11) (e 12) (e 13) w) → Q .normal e w) (hX2 : ∀ e w, (m10_16 R K1 (e 0) (e 2) (e 7) (e 9) (e 10) (e 12) w) → Q (.exit 2) e w) (e : Env) (w : World) (h : m10_39 R K1 K2 (e 0) (e 2) (e 7) (e 9) (e 10) (e 11) (e 12) (e 13) (e 72) w) : W10 k10_39 Q e w := by
  unfold m10_39 at h
  refine coA (Operand.tmp 72) h (fun h1 => ?_) (fun h1 => ?_)
  · exact skA (hN _ _ h1)
  · exact exA 2 (hX2 _ _ h1)
theorem s10_20 {R : VP} {K1 : VP} {K2 : (Value × Value) → World → Prop} {Q : EQ} (hN : ∀ e w, (K2 ((e 12), (e 13)) w) → Q .normal e w) (hR : ∀ e w, (R (e 6) w) → Q .ret e w) (hX2 : ∀ e w, (m10_16 R K1 (e 0) (e 2) (e 7) (e 9) (e 10) (e 12) w) → Q (.exit 2) e w) (e : Env) (w : World) (h : m10_20 R K1 K2 (e 0) (e 2) (e 7) (e 9) (e 10) (e 11) (e 12) (e 13) w) : W10 k10_20 Q e w := by
  unfold m10_20 at h
  refine seA ?_
  have hN : ∀ e w, (m10_21 R K1 K2 (e 0) (e 2) (e 7) (e 9) (e 10) (e 11) (e 12) (e 13) w) → (thenE (W10 k10_21 Q) Q) .normal e w := fun e w h => then_N (s10_21 (R := R) (Q := Q) (K1 := K1) (K2 := K2) hN hR e w h)
  have hX2 : ∀ e w, (m10_16 R K1 (e 0) (e 2) (e 7) (e 9) (e 10) (e 12) w) → (thenE (W10 k10_21 Q) Q) (.exit 2) e w := fun e w h => then_X (hX2 e w h)
  refine seA ?_
  have hN : ∀ e w, (m10_39 R K1 K2 (e 0) (e 2) (e 7) (e 9) (e 10) (e 11) (e 12) (e 13) (e 72) w) → (thenE (W10 k10_39 (thenE (W10 k10_21 Q) Q)) (thenE (W10 k10_21 Q) Q)) .normal e w := fun e w h => then_N (s10_39 (R := R) (Q := (thenE (W10 k10_21 Q) Q)) (K1 := K1) (K2 := K2) hN hX2 e w h)
  exact rgA 15 (fun e w => m10_39 R K1 K2 (e 0) (e 2) (e 7) (e 9) (e 10) (e 11) (e 12) (e 13) (e 72) w) h hN
theorem s10_19 {R : VP} {K1 : VP} {Q : EQ} (hN : ∀ e w, (m10_16 R K1 (e 0) (e 2) (e 7) (e 9) (e 10) (e 12) w) → Q .normal e w) (hR : ∀ e w, (R (e 6) w) → Q .ret e w) (e : Env) (w : World) (h : m10_19 R K1 (e 0) (e 2) (e 7) (e 9) (e 10) (e 11) (e 12) (e 13) w) : W10 k10_19 Q e w := by
  unfold m10_19 at h
  refine block_ok 2 (by kernel_rfl) ?_
  have hX2 : ∀ e w, (m10_16 R K1 (e 0) (e 2) (e 7) (e 9) (e 10) (e 12) w) → (inBlockE 2 Q) (.exit 2) e w := fun e w h => inBlock_same (Q := Q) 2 (hN e w h)
  have hR : ∀ e w, (R (e 6) w) → (inBlockE 2 Q) .ret e w := fun e w h => block_R (hR e w h)
  refine loop_ok' (fun (e : Env) => (e 12, e 13)) [0, 2, 7, 9, 10, 11] (by kernel_rfl) (by kernel_rfl) h (fun K e' w' hk h' => ?_)
  have r0 : e' 0 = e 0 := hk 0 (by decide)
  have r2 : e' 2 = e 2 := hk 2 (by decide)
  have r7 : e' 7 = e 7 := hk 7 (by decide)
  have r9 : e' 9 = e 9 := hk 9 (by decide)
  have r10 : e' 10 = e 10 := hk 10 (by decide)
  have r11 : e' 11 = e 11 := hk 11 (by decide)
  have hR : ∀ e w, (R (e 6) w) → (thenE (fun (e : Env) w => K ((e 12), (e 13)) w) (inBlockE 2 Q)) .ret e w := fun e w h => then_R (hR e w h)
  have hX2 : ∀ e w, (m10_16 R K1 (e 0) (e 2) (e 7) (e 9) (e 10) (e 12) w) → (thenE (fun (e : Env) w => K ((e 12), (e 13)) w) (inBlockE 2 Q)) (.exit 2) e w := fun e w h => then_X (hX2 e w h)
  exact s10_20 (R := R) (Q := (thenE (fun (e : Env) w => K ((e 12), (e 13)) w) (inBlockE 2 Q))) (K1 := K1) (K2 := K) (fun _ _ h => then_N h) hR hX2 e' w' (by rw [r0, r2, r7, r9, r10, r11]; exact h')
theorem s10_15 {R : VP} {K1 : VP} {Q : EQ} (hN : ∀ e w, (m10_11 R K1 (e 0) (e 2) (e 7) (e 9) w) → Q .normal e w) (hR : ∀ e w, (R (e 6) w) → Q .ret e w) (e : Env) (w : World) (h : m10_15 R K1 (e 0) (e 2) (e 7) (e 9) (e 10) (e 11) (e 12) w) : W10 k10_15 Q e w := by
  unfold m10_15 at h
  refine seA ?_
  have hN : ∀ e w, (m10_16 R K1 (e 0) (e 2) (e 7) (e 9) (e 10) (e 12) w) → (thenE (W10 k10_16 Q) Q) .normal e w := fun e w h => then_N (s10_16 (R := R) (Q := Q) (K1 := K1) hN hR e w h)
  have hR : ∀ e w, (R (e 6) w) → (thenE (W10 k10_16 Q) Q) .ret e w := fun e w h => then_R (hR e w h)
  refine seA ?_
  have hN : ∀ e w, (m10_19 R K1 (e 0) (e 2) (e 7) (e 9) (e 10) (e 11) (e 12) (e 13) w) → (thenE (W10 k10_19 (thenE (W10 k10_16 Q) Q)) (thenE (W10 k10_16 Q) Q)) .normal e w := fun e w h => then_N (s10_19 (R := R) (Q := (thenE (W10 k10_16 Q) Q)) (K1 := K1) hN hR e w h)
  exact rgA 14 (fun e w => m10_19 R K1 (e 0) (e 2) (e 7) (e 9) (e 10) (e 11) (e 12) (e 13) w) h hN
theorem s10_14 {R : VP} {K1 : VP} {Q : EQ} (hN : ∀ e w, (m10_11 R K1 (e 0) (e 2) (e 7) (e 9) w) → Q .normal e w) (hR : ∀ e w, (R (e 6) w) → Q .ret e w) (e : Env) (w : World) (h : m10_14 R K1 (e 0) (e 2) (e 7) (e 9) (e 10) (e 11) w) : W10 k10_14 Q e w := by
  unfold m10_14 at h
  refine seA ?_
  have hN : ∀ e w, (m10_15 R K1 (e 0) (e 2) (e 7) (e 9) (e 10) (e 11) (e 12) w) → (thenE (W10 k10_15 Q) Q) .normal e w := fun e w h => then_N (s10_15 (R := R) (Q := Q) (K1 := K1) hN hR e w h)
  exact rgA 13 (fun e w => m10_15 R K1 (e 0) (e 2) (e 7) (e 9) (e 10) (e 11) (e 12) w) h hN
theorem s10_40 {R : VP} {K1 : VP} {Q : EQ} (hN : ∀ e w, (m10_14 R K1 (e 0) (e 2) (e 7) (e 9) (e 10) (e 11) w) → Q .normal e w) (hR : ∀ e w, (R (e 6) w) → Q .ret e w) (e : Env) (w : World) (h : m10_40 R K1 (e 0) (e 2) (e 7) (e 9) (e 10) (e 11) (e 68) w) : W10 k10_40 Q e w := by
  unfold m10_40 at h
  refine coA (Operand.tmp 68) h (fun h1 => ?_) (fun h1 => ?_)
  · refine seA ?_
    have hN : ∀ e w, (m10_41 R K1 (e 6) w) → (thenE (W10 k10_41 Q) Q) .normal e w := fun e w h => then_N (s10_41 (R := R) (Q := Q) (K1 := K1) hR e w h)
    exact rgA 12 (fun e w => m10_41 R K1 (e 6) w) h1 hN
  · exact skA (hN _ _ h1)
theorem s10_13 {R : VP} {K1 : VP} {Q : EQ} (hN : ∀ e w, (m10_11 R K1 (e 0) (e 2) (e 7) (e 9) w) → Q .normal e w) (hR : ∀ e w, (R (e 6) w) → Q .ret e w) (e : Env) (w : World) (h : m10_13 R K1 (e 0) (e 2) (e 7) (e 9) (e 10) (e 11) w) : W10 k10_13 Q e w := by
  unfold m10_13 at h
  refine seA ?_
  have hN : ∀ e w, (m10_14 R K1 (e 0) (e 2) (e 7) (e 9) (e 10) (e 11) w) → (thenE (W10 k10_14 Q) Q) .normal e w := fun e w h => then_N (s10_14 (R := R) (Q := Q) (K1 := K1) hN hR e w h)
  have hR : ∀ e w, (R (e 6) w) → (thenE (W10 k10_14 Q) Q) .ret e w := fun e w h => then_R (hR e w h)
  refine seA ?_
  have hN : ∀ e w, (m10_40 R K1 (e 0) (e 2) (e 7) (e 9) (e 10) (e 11) (e 68) w) → (thenE (W10 k10_40 (thenE (W10 k10_14 Q) Q)) (thenE (W10 k10_14 Q) Q)) .normal e w := fun e w h => then_N (s10_40 (R := R) (Q := (thenE (W10 k10_14 Q) Q)) (K1 := K1) hN hR e w h)
  exact rgA 11 (fun e w => m10_40 R K1 (e 0) (e 2) (e 7) (e 9) (e 10) (e 11) (e 68) w) h hN
theorem s10_12 {R : VP} {K1 : VP} {Q : EQ} (hN : ∀ e w, (m10_11 R K1 (e 0) (e 2) (e 7) (e 9) w) → Q .normal e w) (hR : ∀ e w, (R (e 6) w) → Q .ret e w) (e : Env) (w : World) (h : m10_12 R K1 (e 0) (e 2) (e 7) (e 9) w) : W10 k10_12 Q e w := by
  unfold m10_12 at h
  refine seA ?_
  have hN : ∀ e w, (m10_13 R K1 (e 0) (e 2) (e 7) (e 9) (e 10) (e 11) w) → (thenE (W10 k10_13 Q) Q) .normal e w := fun e w h => then_N (s10_13 (R := R) (Q := Q) (K1 := K1) hN hR e w h)
  exact rgA 10 (fun e w => m10_13 R K1 (e 0) (e 2) (e 7) (e 9) (e 10) (e 11) w) h hN
theorem s10_10 {R : VP} {K1 : VP} {Q : EQ} (hN : ∀ e w, (K1 (e 9) w) → Q .normal e w) (hR : ∀ e w, (R (e 6) w) → Q .ret e w) (e : Env) (w : World) (h : m10_10 R K1 (e 0) (e 2) (e 7) (e 9) w) : W10 k10_10 Q e w := by
  unfold m10_10 at h
  refine seA ?_
  have hN : ∀ e w, (m10_11 R K1 (e 0) (e 2) (e 7) (e 9) w) → (thenE (W10 k10_11 Q) Q) .normal e w := fun e w h => then_N (s10_11 (R := R) (Q := Q) (K1 := K1) hN e w h)
  have hR : ∀ e w, (R (e 6) w) → (thenE (W10 k10_11 Q) Q) .ret e w := fun e w h => then_R (hR e w h)
  refine block_ok 1 (by kernel_rfl) ?_
  have hN : ∀ e w, (m10_11 R K1 (e 0) (e 2) (e 7) (e 9) w) → (inBlockE 1 (thenE (W10 k10_11 Q) Q)) .normal e w := fun e w h => block_N (hN e w h)
  have hR : ∀ e w, (R (e 6) w) → (inBlockE 1 (thenE (W10 k10_11 Q) Q)) .ret e w := fun e w h => block_R (hR e w h)
  refine seA ?_
  have hN : ∀ e w, (m10_12 R K1 (e 0) (e 2) (e 7) (e 9) w) → (thenE (W10 k10_12 (inBlockE 1 (thenE (W10 k10_11 Q) Q))) (inBlockE 1 (thenE (W10 k10_11 Q) Q))) .normal e w := fun e w h => then_N (s10_12 (R := R) (Q := (inBlockE 1 (thenE (W10 k10_11 Q) Q))) (K1 := K1) hN hR e w h)
  exact rgA 9 (fun e w => m10_12 R K1 (e 0) (e 2) (e 7) (e 9) w) h hN
theorem s10_7 {R : VP} {Q : EQ} (hR : ∀ e w, (R (e 6) w) → Q .ret e w) (e : Env) (w : World) (h : m10_7 R (e 6) w) : W10 k10_7 Q e w := by
  unfold m10_7 at h
  exact reA (hR _ _ h)
theorem s10_6 {R : VP} {Q : EQ} (hR : ∀ e w, (R (e 6) w) → Q .ret e w) (e : Env) (w : World) (h : m10_6 R w) : W10 k10_6 Q e w := by
  unfold m10_6 at h
  refine seA ?_
  have hN : ∀ e w, (m10_7 R (e 6) w) → (thenE (W10 k10_7 Q) Q) .normal e w := fun e w h => then_N (s10_7 (R := R) (Q := Q) hR e w h)
  exact rgA 31 (fun e w => m10_7 R (e 6) w) h hN
theorem s10_42 {R : VP} {K1 : VP} {Q : EQ} (hN : ∀ e w, (m10_10 R K1 (e 0) (e 2) (e 7) (e 9) w) → Q .normal e w) (hX0 : ∀ e w, (m10_6 R w) → Q (.exit 0) e w) (e : Env) (w : World) (h : m10_42 R K1 (e 0) (e 2) (e 7) (e 9) (e 41) w) : W10 k10_42 Q e w := by
  unfold m10_42 at h
  refine coA (Operand.tmp 41) h (fun h1 => ?_) (fun h1 => ?_)
  · exact skA (hN _ _ h1)
  · exact exA 0 (hX0 _ _ h1)
theorem s10_9 {R : VP} {K1 : VP} {Q : EQ} (hN : ∀ e w, (K1 (e 9) w) → Q .normal e w) (hR : ∀ e w, (R (e 6) w) → Q .ret e w) (hX0 : ∀ e w, (m10_6 R w) → Q (.exit 0) e w) (e : Env) (w : World) (h : m10_9 R K1 (e 0) (e 2) (e 7) (e 9) w) : W10 k10_9 Q e w := by
  unfold m10_9 at h
  refine seA ?_
  have hN : ∀ e w, (m10_10 R K1 (e 0) (e 2) (e 7) (e 9) w) → (thenE (W10 k10_10 Q) Q) .normal e w := fun e w h => then_N (s10_10 (R := R) (Q := Q) (K1 := K1) hN hR e w h)
  have hX0 : ∀ e w, (m10_6 R w) → (thenE (W10 k10_10 Q) Q) (.exit 0) e w := fun e w h => then_X (hX0 e w h)
  refine seA ?_
  have hN : ∀ e w, (m10_42 R K1 (e 0) (e 2) (e 7) (e 9) (e 41) w) → (thenE (W10 k10_42 (thenE (W10 k10_10 Q) Q)) (thenE (W10 k10_10 Q) Q)) .normal e w := fun e w h => then_N (s10_42 (R := R) (Q := (thenE (W10 k10_10 Q) Q)) (K1 := K1) hN hX0 e w h)
  exact rgA 7 (fun e w => m10_42 R K1 (e 0) (e 2) (e 7) (e 9) (e 41) w) h hN
theorem s10_8 {R : VP} {Q : EQ} (hN : ∀ e w, (m10_6 R w) → Q .normal e w) (hR : ∀ e w, (R (e 6) w) → Q .ret e w) (e : Env) (w : World) (h : m10_8 R (e 0) (e 2) (e 7) (e 9) w) : W10 k10_8 Q e w := by
  unfold m10_8 at h
  refine block_ok 0 (by kernel_rfl) ?_
  have hX0 : ∀ e w, (m10_6 R w) → (inBlockE 0 Q) (.exit 0) e w := fun e w h => inBlock_same (Q := Q) 0 (hN e w h)
  have hR : ∀ e w, (R (e 6) w) → (inBlockE 0 Q) .ret e w := fun e w h => block_R (hR e w h)
  refine loop_ok' (fun (e : Env) => e 9) [0, 2, 7] (by kernel_rfl) (by kernel_rfl) h (fun K e' w' hk h' => ?_)
  have r0 : e' 0 = e 0 := hk 0 (by decide)
  have r2 : e' 2 = e 2 := hk 2 (by decide)
  have r7 : e' 7 = e 7 := hk 7 (by decide)
  have hR : ∀ e w, (R (e 6) w) → (thenE (fun (e : Env) w => K (e 9) w) (inBlockE 0 Q)) .ret e w := fun e w h => then_R (hR e w h)
  have hX0 : ∀ e w, (m10_6 R w) → (thenE (fun (e : Env) w => K (e 9) w) (inBlockE 0 Q)) (.exit 0) e w := fun e w h => then_X (hX0 e w h)
  exact s10_9 (R := R) (Q := (thenE (fun (e : Env) w => K (e 9) w) (inBlockE 0 Q))) (K1 := K) (fun _ _ h => then_N h) hR hX0 e' w' (by rw [r0, r2, r7]; exact h')
theorem s10_5 {R : VP} {Q : EQ} (hR : ∀ e w, (R (e 6) w) → Q .ret e w) (e : Env) (w : World) (h : m10_5 R (e 0) (e 2) (e 7) w) : W10 k10_5 Q e w := by
  unfold m10_5 at h
  refine seA ?_
  have hN : ∀ e w, (m10_6 R w) → (thenE (W10 k10_6 Q) Q) .normal e w := fun e w h => then_N (s10_6 (R := R) (Q := Q) hR e w h)
  have hR : ∀ e w, (R (e 6) w) → (thenE (W10 k10_6 Q) Q) .ret e w := fun e w h => then_R (hR e w h)
  refine seA ?_
  have hN : ∀ e w, (m10_8 R (e 0) (e 2) (e 7) (e 9) w) → (thenE (W10 k10_8 (thenE (W10 k10_6 Q) Q)) (thenE (W10 k10_6 Q) Q)) .normal e w := fun e w h => then_N (s10_8 (R := R) (Q := (thenE (W10 k10_6 Q) Q)) hN hR e w h)
  exact rgA 6 (fun e w => m10_8 R (e 0) (e 2) (e 7) (e 9) w) h hN
theorem s10_4 {R : VP} {Q : EQ} (hR : ∀ e w, (R (e 6) w) → Q .ret e w) (e : Env) (w : World) (h : m10_4 R (e 0) (e 2) (e 7) w) : W10 k10_4 Q e w := by
  unfold m10_4 at h
  refine seA ?_
  have hN : ∀ e w, (m10_5 R (e 0) (e 2) (e 7) w) → (thenE (W10 k10_5 Q) Q) .normal e w := fun e w h => then_N (s10_5 (R := R) (Q := Q) hR e w h)
  exact rgA 5 (fun e w => m10_5 R (e 0) (e 2) (e 7) w) h hN
theorem s10_43 {R : VP} {Q : EQ} (hN : ∀ e w, (m10_4 R (e 0) (e 2) (e 7) w) → Q .normal e w) (hR : ∀ e w, (R (e 6) w) → Q .ret e w) (e : Env) (w : World) (h : m10_43 R (e 0) (e 2) (e 7) (e 35) w) : W10 k10_43 Q e w := by
  unfold m10_43 at h
  refine coA (Operand.tmp 35) h (fun h1 => ?_) (fun h1 => ?_)
  · refine seA ?_
    have hN : ∀ e w, (m10_44 R (e 6) w) → (thenE (W10 k10_44 Q) Q) .normal e w := fun e w h => then_N (s10_44 (R := R) (Q := Q) hR e w h)
    exact rgA 4 (fun e w => m10_44 R (e 6) w) h1 hN
  · exact skA (hN _ _ h1)
theorem s10_3 {R : VP} {Q : EQ} (hR : ∀ e w, (R (e 6) w) → Q .ret e w) (e : Env) (w : World) (h : m10_3 R (e 0) (e 2) (e 7) (e 8) w) : W10 k10_3 Q e w := by
  unfold m10_3 at h
  refine seA ?_
  have hN : ∀ e w, (m10_4 R (e 0) (e 2) (e 7) w) → (thenE (W10 k10_4 Q) Q) .normal e w := fun e w h => then_N (s10_4 (R := R) (Q := Q) hR e w h)
  have hR : ∀ e w, (R (e 6) w) → (thenE (W10 k10_4 Q) Q) .ret e w := fun e w h => then_R (hR e w h)
  refine seA ?_
  have hN : ∀ e w, (m10_43 R (e 0) (e 2) (e 7) (e 35) w) → (thenE (W10 k10_43 (thenE (W10 k10_4 Q) Q)) (thenE (W10 k10_4 Q) Q)) .normal e w := fun e w h => then_N (s10_43 (R := R) (Q := (thenE (W10 k10_4 Q) Q)) hN hR e w h)
  exact rgA 3 (fun e w => m10_43 R (e 0) (e 2) (e 7) (e 35) w) h hN
theorem s10_2 {R : VP} {Q : EQ} (hR : ∀ e w, (R (e 6) w) → Q .ret e w) (e : Env) (w : World) (h : m10_2 R (e 0) (e 1) (e 2) w) : W10 k10_2 Q e w := by
  unfold m10_2 at h
  refine seA ?_
  have hN : ∀ e w, (m10_3 R (e 0) (e 2) (e 7) (e 8) w) → (thenE (W10 k10_3 Q) Q) .normal e w := fun e w h => then_N (s10_3 (R := R) (Q := Q) hR e w h)
  exact rgA 2 (fun e w => m10_3 R (e 0) (e 2) (e 7) (e 8) w) h hN
theorem s10_1 {R : VP} {Q : EQ} (hR : ∀ e w, (R (e 6) w) → Q .ret e w) (e : Env) (w : World) (h : m10_1 R (e 0) (e 1) (e 2) w) : W10 k10_1 Q e w := by
  unfold m10_1 at h
  refine seA ?_
  have hN : ∀ e w, (m10_2 R (e 0) (e 1) (e 2) w) → (thenE (W10 k10_2 Q) Q) .normal e w := fun e w h => then_N (s10_2 (R := R) (Q := Q) hR e w h)
  exact rgA 1 (fun e w => m10_2 R (e 0) (e 1) (e 2) w) h hN
theorem s10_0 {R : VP} {Q : EQ} (hR : ∀ e w, (R (e 6) w) → Q .ret e w) (e : Env) (w : World) (h : m10_0 R (e 0) (e 1) (e 2) w) : W10 k10_0 Q e w := by
  unfold m10_0 at h
  refine seA ?_
  have hN : ∀ e w, (m10_1 R (e 0) (e 1) (e 2) w) → (thenE (W10 k10_1 Q) Q) .normal e w := fun e w h => then_N (s10_1 (R := R) (Q := Q) hR e w h)
  exact rgA 0 (fun e w => m10_1 R (e 0) (e 1) (e 2) w) h hN
abbrev m10 (R : VP) (parts0 sticky1 l2 : Value) (w : World) : Prop := m10_0 R parts0 sticky1 l2 w
theorem s10 (parts0 sticky1 l2 : Value) {R : VP} {w : World} (h : m10 R parts0 sticky1 l2 w) :
    Calls Try.prog 10 #[parts0, sticky1, l2] w fun e w' => ∃ v, e = .returned v ∧ R v w' :=
  calls_of_cwp (st := (fun i => 0)) (c := k10_0) (by kernel_rfl) Try.func10 (by kernel_rfl) (Nat.le_of_ble_eq_true (by kernel_rfl)) (by kernel_rfl)
    (s10_0 (R := R) (Q := endE Try.prog Try.f10 R) (fun e w h => kcast (by kernel_rfl) h) (argsE #[parts0, sticky1, l2]) w (kcast (by kernel_rfl) h))
end Go.Proofs.Ytjjmlopmemmobaa.M
