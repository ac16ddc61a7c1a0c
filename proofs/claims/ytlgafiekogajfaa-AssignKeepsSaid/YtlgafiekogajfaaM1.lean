/- What functions' texts ask of their ends, told over values that have names; printed by a program of this work. -/
import Derived.Test.YtlgafiekogajfaaFw
import Derived.Test.YtlgafiekogajfaaProg
namespace Go.Proofs.Ytlgafiekogajfaa.M
open Go.Proofs.Ytlgafiekogajfaa.F
set_option linter.unusedVariables false
set_option maxRecDepth 100000
/-! ### headgate/headgateref09.Sticky -/
def m16_43 (R : Value → World → Prop) (t6 : Value) (t7 : Value) (w : World) : Prop :=
  R (Value.tuple #[t6, t7]) w
def m16_40 (R : Value → World → Prop) (K1 : (Value × Value) → World → Prop) (parts0 : Value) (old2 : Value) (m8 : Value) (l9 : Value) (i10 : Value) (w : World) : Prop :=
  valP Try.prog (binS BinOp.add 3 (Operand.tmp 28) (Operand.const (Value.int IntKind.i64 1)) i10 (Value.int IntKind.i64 1)) w fun t29 w =>
  K1 (l9, t29) w
def m16_39 (R : Value → World → Prop) (K1 : (Value × Value) → World → Prop) (parts0 : Value) (old2 : Value) (m8 : Value) (l9 : Value) (i10 : Value) (w : World) : Prop :=
  valP Try.prog (Instr.buildSlice 22 1 #[(0, (Value.int IntKind.i64 0))]) w fun t31 w =>
  builtinP Try.prog Builtin.append #[22, 22] 22 #[false, false] #[l9, t31] w fun t32 w =>
  m16_40 R K1 parts0 old2 m8 t32 i10 w
def m16_36 (R : Value → World → Prop) (t6 : Value) (t7 : Value) (w : World) : Prop :=
  R (Value.tuple #[t6, t7]) w
def m16_29 (R : Value → World → Prop) (K1 : Value → World → Prop) (parts0 : Value) (old2 : Value) (m8 : Value) (l9 : Value) (least11 : Value) (i12 : Value) (w : World) : Prop :=
  valP Try.prog (binS BinOp.add 3 (Operand.tmp 50) (Operand.const (Value.int IntKind.i64 1)) i12 (Value.int IntKind.i64 1)) w fun t51 w =>
  K1 t51 w
def m16_32 (R : Value → World → Prop) (K1 : Value → World → Prop) (parts0 : Value) (old2 : Value) (m8 : Value) (l9 : Value) (least11 : Value) (i12 : Value) (t83 : Value) (w : World) : Prop :=
  condP t83
  (valP Try.prog (Instr.indexAt 22 old2 i12) w fun t88 w =>
  valP Try.prog (Instr.loadAt 3 t88) w fun t89 w =>
  valP Try.prog (Instr.indexAt 22 l9 i12) w fun t90 w =>
  unitP Try.prog (Instr.storeAt 3 t90 t89) w fun _ w =>
  m16_29 R K1 parts0 old2 m8 l9 least11 i12 w)
  (m16_29 R K1 parts0 old2 m8 l9 least11 i12 w)
def m16_31 (R : Value → World → Prop) (K1 : Value → World → Prop) (parts0 : Value) (old2 : Value) (m8 : Value) (l9 : Value) (least11 : Value) (i12 : Value) (n13 : Value) (w : World) : Prop :=
  anyDraw w fun w =>
  pureP Try.prog (binS BinOp.lss 3 (Operand.tmp 65) (Operand.tmp 66) n13 least11) fun t67 =>
  condP t67
  ((pickP t67 (Value.bool true) undef fun t83 =>
  m16_32 R K1 parts0 old2 m8 l9 least11 i12 t83 w) ∧ (pickP t67 (Value.bool true) undef fun t83 =>
  m16_32 R K1 parts0 old2 m8 l9 least11 i12 t83 w))
  (pureP Try.prog (binS BinOp.eql 3 (Operand.tmp 69) (Operand.tmp 70) n13 least11) fun t71 =>
  condP t71
  ((callP Try.prog (fnV 24) #[l9, m8, least11] w fun t76 w =>
  builtinP Try.prog Builtin.len #[22] 3 #[false] #[m8] w fun t79 w =>
  pureP Try.prog (binS BinOp.rem 3 (Operand.tmp 77) (Operand.tmp 79) parts0 t79) fun t80 =>
  pureP Try.prog (binS BinOp.lss 3 (Operand.tmp 76) (Operand.tmp 80) t76 t80) fun t81 =>
  pickP t71 t81 (Value.bool false) fun t82 =>
  pickP t67 (Value.bool true) t82 fun t83 =>
  m16_32 R K1 parts0 old2 m8 l9 least11 i12 t83 w) ∧ (builtinP Try.prog Builtin.len #[22] 3 #[false] #[m8] w fun t79 w =>
  pureP Try.prog (binS BinOp.rem 3 (Operand.tmp 77) (Operand.tmp 79) parts0 t79) fun t80 =>
  callP Try.prog (fnV 24) #[l9, m8, least11] w fun t76 w =>
  pureP Try.prog (binS BinOp.lss 3 (Operand.tmp 76) (Operand.tmp 80) t76 t80) fun t81 =>
  pickP t71 t81 (Value.bool false) fun t82 =>
  pickP t67 (Value.bool true) t82 fun t83 =>
  m16_32 R K1 parts0 old2 m8 l9 least11 i12 t83 w))
  ((pickP t71 undef (Value.bool false) fun t82 =>
  pickP t67 (Value.bool true) t82 fun t83 =>
  m16_32 R K1 parts0 old2 m8 l9 least11 i12 t83 w) ∧ (pickP t71 undef (Value.bool false) fun t82 =>
  pickP t67 (Value.bool true) t82 fun t83 =>
  m16_32 R K1 parts0 old2 m8 l9 least11 i12 t83 w)))
def m16_30 (R : Value → World → Prop) (K1 : Value → World → Prop) (parts0 : Value) (old2 : Value) (m8 : Value) (l9 : Value) (least11 : Value) (i12 : Value) (w : World) : Prop :=
  valP Try.prog (Instr.indexAt 22 old2 i12) w fun t62 w =>
  valP Try.prog (Instr.loadAt 3 t62) w fun t63 w =>
  callP Try.prog (fnV 19) #[l9, t63] w fun t64 w =>
  m16_31 R K1 parts0 old2 m8 l9 least11 i12 t64 w
def m16_33 (R : Value → World → Prop) (K1 : Value → World → Prop) (parts0 : Value) (old2 : Value) (m8 : Value) (l9 : Value) (least11 : Value) (i12 : Value) (t58 : Value) (w : World) : Prop :=
  condP t58
  (m16_29 R K1 parts0 old2 m8 l9 least11 i12 w)
  (m16_30 R K1 parts0 old2 m8 l9 least11 i12 w)
def m16_28 (R : Value → World → Prop) (K1 : Value → World → Prop) (parts0 : Value) (old2 : Value) (m8 : Value) (l9 : Value) (least11 : Value) (i12 : Value) (w : World) : Prop :=
  valP Try.prog (Instr.indexAt 22 old2 i12) w fun t55 w =>
  valP Try.prog (Instr.loadAt 3 t55) w fun t56 w =>
  callP Try.prog (fnV 23) #[m8, t56] w fun t57 w =>
  valP Try.prog (Op.unary UnOp.not t57) w fun t58 w =>
  m16_33 R K1 parts0 old2 m8 l9 least11 i12 t58 w
def m16_14 (R : Value → World → Prop) (K1 : Value → World → Prop) (parts0 : Value) (m8 : Value) (l9 : Value) (i14 : Value) (w : World) : Prop :=
  valP Try.prog (binS BinOp.add 3 (Operand.tmp 94) (Operand.const (Value.int IntKind.i64 1)) i14 (Value.int IntKind.i64 1)) w fun t95 w =>
  K1 t95 w
def m16_21 (R : Value → World → Prop) (K1 : Value → World → Prop) (K2 : (Value × Value) → World → Prop) (parts0 : Value) (m8 : Value) (l9 : Value) (i14 : Value) (best15 : Value) (k16 : Value) (w : World) : Prop :=
  valP Try.prog (binS BinOp.add 3 (Operand.tmp 108) (Operand.const (Value.int IntKind.i64 1)) k16 (Value.int IntKind.i64 1)) w fun t109 w =>
  K2 (best15, t109) w
def m16_22 (R : Value → World → Prop) (K1 : Value → World → Prop) (K2 : (Value × Value) → World → Prop) (parts0 : Value) (m8 : Value) (l9 : Value) (i14 : Value) (best15 : Value) (k16 : Value) (t119 : Value) (w : World) : Prop :=
  condP t119
  (valP Try.prog (Instr.indexAt 22 m8 k16) w fun t122 w =>
  valP Try.prog (Instr.loadAt 3 t122) w fun t123 w =>
  m16_21 R K1 K2 parts0 m8 l9 i14 t123 k16 w)
  (m16_21 R K1 K2 parts0 m8 l9 i14 best15 k16 w)
def m16_20 (R : Value → World → Prop) (K1 : Value → World → Prop) (K2 : (Value × Value) → World → Prop) (parts0 : Value) (m8 : Value) (l9 : Value) (i14 : Value) (best15 : Value) (k16 : Value) (w : World) : Prop :=
  valP Try.prog (Instr.indexAt 22 m8 k16) w fun t113 w =>
  valP Try.prog (Instr.loadAt 3 t113) w fun t114 w =>
  callP Try.prog (fnV 19) #[l9, t114] w fun t115 w =>
  callP Try.prog (fnV 19) #[l9, best15] w fun t118 w =>
  valP Try.prog (binS BinOp.lss 3 (Operand.tmp 115) (Operand.tmp 118) t115 t118) w fun t119 w =>
  m16_22 R K1 K2 parts0 m8 l9 i14 best15 k16 t119 w
def m16_17 (R : Value → World → Prop) (K1 : Value → World → Prop) (parts0 : Value) (m8 : Value) (l9 : Value) (i14 : Value) (best15 : Value) (w : World) : Prop :=
  valP Try.prog (Instr.indexAt 22 l9 i14) w fun t127 w =>
  unitP Try.prog (Instr.storeAt 3 t127 best15) w fun _ w =>
  m16_14 R K1 parts0 m8 l9 i14 w
def m16_23 (R : Value → World → Prop) (K1 : Value → World → Prop) (K2 : (Value × Value) → World → Prop) (parts0 : Value) (m8 : Value) (l9 : Value) (i14 : Value) (best15 : Value) (k16 : Value) (t107 : Value) (w : World) : Prop :=
  condP t107
  (m16_20 R K1 K2 parts0 m8 l9 i14 best15 k16 w)
  (m16_17 R K1 parts0 m8 l9 i14 best15 w)
def m16_19 (R : Value → World → Prop) (K1 : Value → World → Prop) (K2 : (Value × Value) → World → Prop) (parts0 : Value) (m8 : Value) (l9 : Value) (i14 : Value) (best15 : Value) (k16 : Value) (w : World) : Prop :=
  builtinP Try.prog Builtin.len #[22] 3 #[false] #[m8] w fun t106 w =>
  valP Try.prog (binS BinOp.lss 3 (Operand.tmp 104) (Operand.tmp 106) k16 t106) w fun t107 w =>
  m16_23 R K1 K2 parts0 m8 l9 i14 best15 k16 t107 w
def m16_18 (R : Value → World → Prop) (K1 : Value → World → Prop) (parts0 : Value) (m8 : Value) (l9 : Value) (i14 : Value) (best15 : Value) (k16 : Value) (w : World) : Prop :=
  loopP (fun (K2 : (Value × Value) → World → Prop) (s : Value × Value) w => m16_19 R K1 K2 parts0 m8 l9 i14 s.1 s.2 w) (best15, k16) w
def m16_16 (R : Value → World → Prop) (K1 : Value → World → Prop) (parts0 : Value) (m8 : Value) (l9 : Value) (i14 : Value) (best15 : Value) (w : World) : Prop :=
  m16_18 R K1 parts0 m8 l9 i14 best15 (Value.int IntKind.i64 1) w
def m16_15 (R : Value → World → Prop) (K1 : Value → World → Prop) (parts0 : Value) (m8 : Value) (l9 : Value) (i14 : Value) (w : World) : Prop :=
  valP Try.prog (Instr.indexAt 22 m8 (Value.int IntKind.i64 0)) w fun t102 w =>
  valP Try.prog (Instr.loadAt 3 t102) w fun t103 w =>
  m16_16 R K1 parts0 m8 l9 i14 t103 w
def m16_24 (R : Value → World → Prop) (K1 : Value → World → Prop) (parts0 : Value) (m8 : Value) (l9 : Value) (i14 : Value) (t100 : Value) (w : World) : Prop :=
  condP t100
  (m16_14 R K1 parts0 m8 l9 i14 w)
  (m16_15 R K1 parts0 m8 l9 i14 w)
def m16_13 (R : Value → World → Prop) (K1 : Value → World → Prop) (parts0 : Value) (m8 : Value) (l9 : Value) (i14 : Value) (w : World) : Prop :=
  valP Try.prog (Instr.indexAt 22 l9 i14) w fun t98 w =>
  valP Try.prog (Instr.loadAt 3 t98) w fun t99 w =>
  valP Try.prog (binS BinOp.gtr 3 (Operand.tmp 99) (Operand.const (Value.int IntKind.i64 0)) t99 (Value.int IntKind.i64 0)) w fun t100 w =>
  m16_24 R K1 parts0 m8 l9 i14 t100 w
def m16_10 (R : Value → World → Prop) (t6 : Value) (t7 : Value) (w : World) : Prop :=
  R (Value.tuple #[t6, t7]) w
def m16_9 (R : Value → World → Prop) (l9 : Value) (w : World) : Prop :=
  m16_10 R l9 (Value.int IntKind.i64 0) w
def m16_25 (R : Value → World → Prop) (K1 : Value → World → Prop) (parts0 : Value) (m8 : Value) (l9 : Value) (i14 : Value) (t93 : Value) (w : World) : Prop :=
  condP t93
  (m16_13 R K1 parts0 m8 l9 i14 w)
  (m16_9 R l9 w)
def m16_12 (R : Value → World → Prop) (K1 : Value → World → Prop) (parts0 : Value) (m8 : Value) (l9 : Value) (i14 : Value) (w : World) : Prop :=
  valP Try.prog (binS BinOp.lss 3 (Operand.tmp 91) (Operand.tmp 92) i14 parts0) w fun t93 w =>
  m16_25 R K1 parts0 m8 l9 i14 t93 w
def m16_11 (R : Value → World → Prop) (parts0 : Value) (m8 : Value) (l9 : Value) (i14 : Value) (w : World) : Prop :=
  loopP (fun (K1 : Value → World → Prop) (s : Value) w => m16_12 R K1 parts0 m8 l9 s w) i14 w
def m16_8 (R : Value → World → Prop) (parts0 : Value) (m8 : Value) (l9 : Value) (w : World) : Prop :=
  m16_11 R parts0 m8 l9 (Value.int IntKind.i64 0) w
def m16_34 (R : Value → World → Prop) (K1 : Value → World → Prop) (parts0 : Value) (old2 : Value) (m8 : Value) (l9 : Value) (least11 : Value) (i12 : Value) (t49 : Value) (w : World) : Prop :=
  condP t49
  (m16_28 R K1 parts0 old2 m8 l9 least11 i12 w)
  (m16_8 R parts0 m8 l9 w)
def m16_27 (R : Value → World → Prop) (K1 : Value → World → Prop) (parts0 : Value) (old2 : Value) (m8 : Value) (l9 : Value) (least11 : Value) (i12 : Value) (w : World) : Prop :=
  valP Try.prog (binS BinOp.lss 3 (Operand.tmp 41) (Operand.tmp 42) i12 parts0) w fun t43 w =>
  condP t43
  (builtinP Try.prog Builtin.len #[22] 3 #[false] #[old2] w fun t47 w =>
  valP Try.prog (binS BinOp.lss 3 (Operand.tmp 45) (Operand.tmp 47) i12 t47) w fun t48 w =>
  pickP t43 t48 (Value.bool false) fun t49 =>
  m16_34 R K1 parts0 old2 m8 l9 least11 i12 t49 w)
  (pickP t43 undef (Value.bool false) fun t49 =>
  m16_34 R K1 parts0 old2 m8 l9 least11 i12 t49 w)
def m16_26 (R : Value → World → Prop) (parts0 : Value) (old2 : Value) (m8 : Value) (l9 : Value) (least11 : Value) (i12 : Value) (w : World) : Prop :=
  loopP (fun (K1 : Value → World → Prop) (s : Value) w => m16_27 R K1 parts0 old2 m8 l9 least11 s w) i12 w
def m16_7 (R : Value → World → Prop) (parts0 : Value) (old2 : Value) (m8 : Value) (l9 : Value) (least11 : Value) (w : World) : Prop :=
  m16_26 R parts0 old2 m8 l9 least11 (Value.int IntKind.i64 0) w
def m16_6 (R : Value → World → Prop) (parts0 : Value) (old2 : Value) (m8 : Value) (l9 : Value) (w : World) : Prop :=
  builtinP Try.prog Builtin.len #[22] 3 #[false] #[m8] w fun t39 w =>
  valP Try.prog (binS BinOp.quo 3 (Operand.tmp 37) (Operand.tmp 39) parts0 t39) w fun t40 w =>
  m16_7 R parts0 old2 m8 l9 t40 w
def m16_35 (R : Value → World → Prop) (parts0 : Value) (old2 : Value) (m8 : Value) (l9 : Value) (t35 : Value) (w : World) : Prop :=
  condP t35
  (m16_36 R l9 (Value.int IntKind.i64 0) w)
  (m16_6 R parts0 old2 m8 l9 w)
def m16_5 (R : Value → World → Prop) (parts0 : Value) (old2 : Value) (m8 : Value) (l9 : Value) (w : World) : Prop :=
  builtinP Try.prog Builtin.len #[22] 3 #[false] #[m8] w fun t34 w =>
  valP Try.prog (binS BinOp.eql 3 (Operand.tmp 34) (Operand.const (Value.int IntKind.i64 0)) t34 (Value.int IntKind.i64 0)) w fun t35 w =>
  m16_35 R parts0 old2 m8 l9 t35 w
def m16_41 (R : Value → World → Prop) (K1 : (Value × Value) → World → Prop) (parts0 : Value) (old2 : Value) (m8 : Value) (l9 : Value) (i10 : Value) (t27 : Value) (w : World) : Prop :=
  condP t27
  (m16_39 R K1 parts0 old2 m8 l9 i10 w)
  (m16_5 R parts0 old2 m8 l9 w)
def m16_38 (R : Value → World → Prop) (K1 : (Value × Value) → World → Prop) (parts0 : Value) (old2 : Value) (m8 : Value) (l9 : Value) (i10 : Value) (w : World) : Prop :=
  valP Try.prog (binS BinOp.lss 3 (Operand.tmp 25) (Operand.tmp 26) i10 parts0) w fun t27 w =>
  m16_41 R K1 parts0 old2 m8 l9 i10 t27 w
def m16_37 (R : Value → World → Prop) (parts0 : Value) (old2 : Value) (m8 : Value) (l9 : Value) (i10 : Value) (w : World) : Prop :=
  loopP (fun (K1 : (Value × Value) → World → Prop) (s : Value × Value) w => m16_38 R K1 parts0 old2 m8 s.1 s.2 w) (l9, i10) w
def m16_4 (R : Value → World → Prop) (parts0 : Value) (old2 : Value) (m8 : Value) (l9 : Value) (w : World) : Prop :=
  m16_37 R parts0 old2 m8 l9 (Value.int IntKind.i64 0) w
def m16_3 (R : Value → World → Prop) (parts0 : Value) (old2 : Value) (m8 : Value) (w : World) : Prop :=
  m16_4 R parts0 old2 m8 (Value.slice none 0 0) w
def m16_2 (R : Value → World → Prop) (parts0 : Value) (members1 : Value) (old2 : Value) (w : World) : Prop :=
  callP Try.prog (fnV 18) #[members1] w fun t24 w =>
  m16_3 R parts0 old2 t24 w
def m16_42 (R : Value → World → Prop) (parts0 : Value) (members1 : Value) (old2 : Value) (t22 : Value) (w : World) : Prop :=
  condP t22
  (m16_43 R (Value.slice none 0 0) (Value.int IntKind.i64 1) w)
  (m16_2 R parts0 members1 old2 w)
def m16_1 (R : Value → World → Prop) (parts0 : Value) (members1 : Value) (old2 : Value) (w : World) : Prop :=
  valP Try.prog (binS BinOp.lss 3 (Operand.tmp 17) (Operand.const (Value.int IntKind.i64 1)) parts0 (Value.int IntKind.i64 1)) w fun t18 w =>
  condP t18
  (pickP t18 (Value.bool true) undef fun t22 =>
  m16_42 R parts0 members1 old2 t22 w)
  (valP Try.prog (binS BinOp.gtr 3 (Operand.tmp 20) (Operand.const (Value.int IntKind.i64 64)) parts0 (Value.int IntKind.i64 64)) w fun t21 w =>
  pickP t18 (Value.bool true) t21 fun t22 =>
  m16_42 R parts0 members1 old2 t22 w)
def m16_0 (R : Value → World → Prop) (parts0 : Value) (members1 : Value) (old2 : Value) (w : World) : Prop :=
  m16_1 R parts0 members1 old2 w
abbrev W16 := cwp Try.prog (fun i => 0)
noncomputable def k16_0 : Code := (bodyOf Try.f16)
noncomputable def k16_1 : Code := (c2 k16_0)
noncomputable def k16_2 : Code := (c2 k16_1)
noncomputable def k16_3 : Code := (c2 k16_2)
noncomputable def k16_4 : Code := (c2 k16_3)
noncomputable def k16_5 : Code := (c2 k16_4)
noncomputable def k16_6 : Code := (c2 k16_5)
noncomputable def k16_7 : Code := (c2 k16_6)
noncomputable def k16_8 : Code := (c2 k16_7)
noncomputable def k16_9 : Code := (c2 k16_8)
noncomputable def k16_10 : Code := (c2 k16_9)
noncomputable def k16_11 : Code := (c2 (c1 k16_8))
noncomputable def k16_12 : Code := (c1 (c1 k16_11))
noncomputable def k16_13 : Code := (c2 k16_12)
noncomputable def k16_14 : Code := (c2 k16_13)
noncomputable def k16_15 : Code := (c2 (c1 (c1 k16_13)))
noncomputable def k16_16 : Code := (c2 k16_15)
noncomputable def k16_17 : Code := (c2 k16_16)
noncomputable def k16_18 : Code := (c2 (c1 k16_16))
noncomputable def k16_19 : Code := (c1 (c1 k16_18))
noncomputable def k16_20 : Code := (c2 k16_19)
noncomputable def k16_21 : Code := (c2 k16_20)
noncomputable def k16_22 : Code := (c2 (c1 (c1 k16_20)))
noncomputable def k16_23 : Code := (c2 (c1 k16_19))
noncomputable def k16_24 : Code := (c2 (c1 (c1 (c1 k16_13))))
noncomputable def k16_25 : Code := (c2 (c1 k16_12))
noncomputable def k16_26 : Code := (c2 (c1 k16_7))
noncomputable def k16_27 : Code := (c1 (c1 k16_26))
noncomputable def k16_28 : Code := (c2 k16_27)
noncomputable def k16_29 : Code := (c2 k16_28)
noncomputable def k16_30 : Code := (c2 (c1 (c1 k16_28)))
noncomputable def k16_31 : Code := (c2 k16_30)
noncomputable def k16_32 : Code := (c2 k16_31)
noncomputable def k16_33 : Code := (c2 (c1 (c1 (c1 k16_28))))
noncomputable def k16_34 : Code := (c2 (c1 k16_27))
noncomputable def k16_35 : Code := (c2 (c1 k16_5))
noncomputable def k16_36 : Code := (c2 (c1 k16_35))
noncomputable def k16_37 : Code := (c2 (c1 k16_4))
noncomputable def k16_38 : Code := (c1 (c1 k16_37))
noncomputable def k16_39 : Code := (c2 k16_38)
noncomputable def k16_40 : Code := (c2 k16_39)
noncomputable def k16_41 : Code := (c2 (c1 k16_38))
noncomputable def k16_42 : Code := (c2 (c1 k16_1))
noncomputable def k16_43 : Code := (c2 (c1 k16_42))
theorem s16_43 {R : Value → World → Prop} {Q : Exit → Env → World → Prop} (hR : ∀ e w, (R (Value.tuple #[(e 6), (e 7)]) w) → Q .ret e w) (e : Env) (w : World) (h : m16_43 R (e 6) (e 7) w) : W16 k16_43 Q e w := by
  unfold m16_43 at h
  exact ret_ok (by kernel_rfl) (hR _ _ h)
theorem s16_40 {R : Value → World → Prop} {K1 : (Value × Value) → World → Prop} {Q : Exit → Env → World → Prop} (hN : ∀ e w, (K1 ((e 9), (e 10)) w) → Q .normal e w) (e : Env) (w : World) (h : m16_40 R K1 (e 0) (e 2) (e 8) (e 9) (e 10) w) : W16 k16_40 Q e w := by
  unfold m16_40 at h
  exact region_ok 7 (fun e w => K1 ((e 9), (e 10)) w) (by kernel_rfl) (kcast (by kernel_rfl) h) hN (by kernel_rfl)
theorem s16_39 {R : Value → World → Prop} {K1 : (Value × Value) → World → Prop} {Q : Exit → Env → World → Prop} (hN : ∀ e w, (K1 ((e 9), (e 10)) w) → Q .normal e w) (e : Env) (w : World) (h : m16_39 R K1 (e 0) (e 2) (e 8) (e 9) (e 10) w) : W16 k16_39 Q e w := by
  unfold m16_39 at h
  refine seq_ok' (by kernel_rfl) ?_
  have hN' : ∀ e w, (m16_40 R K1 (e 0) (e 2) (e 8) (e 9) (e 10) w) → (thenE (W16 k16_40 Q) Q) .normal e w := fun e w h => then_N (s16_40 (R := R) (Q := Q) (K1 := K1) hN e w h)
  have hN := hN'
  refine block_ok 1 (by kernel_rfl) ?_
  have hN : ∀ e w, (m16_40 R K1 (e 0) (e 2) (e 8) (e 9) (e 10) w) → (inBlockE 1 (thenE (W16 k16_40 Q) Q)) .normal e w := fun e w h => block_N (hN e w h)
  exact region_ok 8 (fun e w => m16_40 R K1 (e 0) (e 2) (e 8) (e 9) (e 10) w) (by kernel_rfl) (kcast (by kernel_rfl) h) hN (by kernel_rfl)
theorem s16_36 {R : Value → World → Prop} {Q : Exit → Env → World → Prop} (hR : ∀ e w, (R (Value.tuple #[(e 6), (e 7)]) w) → Q .ret e w) (e : Env) (w : World) (h : m16_36 R (e 6) (e 7) w) : W16 k16_36 Q e w := by
  unfold m16_36 at h
  exact ret_ok (by kernel_rfl) (hR _ _ h)
theorem s16_29 {R : Value → World → Prop} {K1 : Value → World → Prop} {Q : Exit → Env → World → Prop} (hN : ∀ e w, (K1 (e 12) w) → Q .normal e w) (e : Env) (w : World) (h : m16_29 R K1 (e 0) (e 2) (e 8) (e 9) (e 11) (e 12) w) : W16 k16_29 Q e w := by
  unfold m16_29 at h
  exact region_ok 14 (fun e w => K1 (e 12) w) (by kernel_rfl) (kcast (by kernel_rfl) h) hN (by kernel_rfl)
theorem s16_32 {R : Value → World → Prop} {K1 : Value → World → Prop} {Q : Exit → Env → World → Prop} (hN : ∀ e w, (m16_29 R K1 (e 0) (e 2) (e 8) (e 9) (e 11) (e 12) w) → Q .normal e w) (e : Env) (w : World) (h : m16_32 R K1 (e 0) (e 2) (e 8) (e 9) (e 11) (e 12) (e 83) w) : W16 k16_32 Q e w := by
  unfold m16_32 at h
  refine cond_ok (Operand.tmp 83) (by kernel_rfl) h (fun h1 => ?_) (fun h1 => ?_)
  · exact region_ok 18 (fun e w => m16_29 R K1 (e 0) (e 2) (e 8) (e 9) (e 11) (e 12) w) (by kernel_rfl) (kcast (by kernel_rfl) h1) hN (by kernel_rfl)
  · exact skip_ok (by kernel_rfl) (hN _ _ h1)
theorem s16_31 {R : Value → World → Prop} {K1 : Value → World → Prop} {Q : Exit → Env → World → Prop} (hN : ∀ e w, (m16_29 R K1 (e 0) (e 2) (e 8) (e 9) (e 11) (e 12) w) → Q .normal e w) (e : Env) (w : World) (h : m16_31 R K1 (e 0) (e 2) (e 8) (e 9) (e 11) (e 12) (e 13) w) : W16 k16_31 Q e w := by
  unfold m16_31 at h
  refine seq_ok' (by kernel_rfl) ?_
  have hN' : ∀ e w, (m16_32 R K1 (e 0) (e 2) (e 8) (e 9) (e 11) (e 12) (e 83) w) → (thenE (W16 k16_32 Q) Q) .normal e w := fun e w h => then_N (s16_32 (R := R) (Q := Q) (K1 := K1) hN e w h)
  have hN := hN'
  exact tree_ok 17 19 [false, false, false, false, false, false, false, false, false, false, false, false, false, false, false, false, false, false, false] (.take 0 [true, false, false, false, false, false, false, false, false, false, false, false, false, false, false, false, false, false, false] (.take 1 [true, true, false, false, false, false, false, false, false, false, false, false, false, false, false, false, false, false, false] (.take 2 [true, true, true, false, false, false, false, false, false, false, false, false, false, false, false, false, false, false, false] (.take 3 [true, true, true, true, false, false, false, false, false, false, false, false, false, false, false, false, false, false, false] (.take 4 [true, true, true, true, true, false, false, false, false, false, false, false, false, false, false, false, false, false, false] (.take 5 [true, true, true, true, true, true, false, false, false, false, false, false, false, false, false, false, false, false, false] (.take 6 [true, true, true, true, true, true, true, false, false, false, false, false, false, false, false, false, false, false, false] (.take 7 [true, true, true, true, true, true, true, true, false, false, false, false, false, false, false, false, false, false, false] (.take 8 [true, true, true, true, true, true, true, true, true, false, false, false, false, false, false, false, false, false, false] (.take 9 [true, true, true, true, true, true, true, true, true, true, false, false, false, false, false, false, false, false, false] (.take 10 [true, true, true, true, true, true, true, true, true, true, true, false, false, false, false, false, false, false, false] (.take 12 [true, true, true, true, true, true, true, true, true, true, true, false, true, false, false, false, false, false, false] (.take 13 [true, true, true, true, true, true, true, true, true, true, true, false, true, true, false, false, false, false, false] (.alt 11 [true, true, true, true, true, true, true, true, true, true, true, true, true, true, false, false, false, false, false] (.alt 14 [true, true, true, true, true, true, true, true, true, true, true, true, true, true, true, false, false, false, false] (.take 15 [true, true, true, true, true, true, true, true, true, true, true, true, true, true, true, true, false, false, false] (.take 16 [true, true, true, true, true, true, true, true, true, true, true, true, true, true, true, true, true, false, false] (.take 17 [true, true, true, true, true, true, true, true, true, true, true, true, true, true, true, true, true, true, false] (.take 18 [true, true, true, true, true, true, true, true, true, true, true, true, true, true, true, true, true, true, true] .done)))) .stop) (.alt 14 [true, true, true, true, true, true, true, true, true, true, true, false, true, true, true, false, false, false, false] (.take 15 [true, true, true, true, true, true, true, true, true, true, true, false, true, true, true, true, false, false, false] (.alt 11 [true, true, true, true, true, true, true, true, true, true, true, true, true, true, true, true, false, false, false] (.take 16 [true, true, true, true, true, true, true, true, true, true, true, true, true, true, true, true, true, false, false] (.take 17 [true, true, true, true, true, true, true, true, true, true, true, true, true, true, true, true, true, true, false] (.take 18 [true, true, true, true, true, true, true, true, true, true, true, true, true, true, true, true, true, true, true] .done))) .stop)) .stop))))))))))))))) (fun e w => m16_32 R K1 (e 0) (e 2) (e 8) (e 9) (e 11) (e 12) (e 83) w) (by kernel_rfl) (by kernel_rfl) (by kernel_rfl) (by kernel_rfl) (by kernel_rfl) (by kernel_rfl) (kcast (by kernel_rfl) h) hN (by kernel_rfl)
theorem s16_30 {R : Value → World → Prop} {K1 : Value → World → Prop} {Q : Exit → Env → World → Prop} (hN : ∀ e w, (m16_29 R K1 (e 0) (e 2) (e 8) (e 9) (e 11) (e 12) w) → Q .normal e w) (e : Env) (w : World) (h : m16_30 R K1 (e 0) (e 2) (e 8) (e 9) (e 11) (e 12) w) : W16 k16_30 Q e w := by
  unfold m16_30 at h
  refine seq_ok' (by kernel_rfl) ?_
  have hN' : ∀ e w, (m16_31 R K1 (e 0) (e 2) (e 8) (e 9) (e 11) (e 12) (e 13) w) → (thenE (W16 k16_31 Q) Q) .normal e w := fun e w h => then_N (s16_31 (R := R) (Q := Q) (K1 := K1) hN e w h)
  have hN := hN'
  exact region_ok 16 (fun e w => m16_31 R K1 (e 0) (e 2) (e 8) (e 9) (e 11) (e 12) (e 13) w) (by kernel_rfl) (kcast (by kernel_rfl) h) hN (by kernel_rfl)
theorem s16_33 {R : Value → World → Prop} {K1 : Value → World → Prop} {Q : Exit → Env → World → Prop} (hN : ∀ e w, (m16_30 R K1 (e 0) (e 2) (e 8) (e 9) (e 11) (e 12) w) → Q .normal e w) (hX3 : ∀ e w, (m16_29 R K1 (e 0) (e 2) (e 8) (e 9) (e 11) (e 12) w) → Q (.exit 3) e w) (e : Env) (w : World) (h : m16_33 R K1 (e 0) (e 2) (e 8) (e 9) (e 11) (e 12) (e 58) w) : W16 k16_33 Q e w := by
  unfold m16_33 at h
  refine cond_ok (Operand.tmp 58) (by kernel_rfl) h (fun h1 => ?_) (fun h1 => ?_)
  · exact exit_ok 3 (by kernel_rfl) (hX3 _ _ h1)
  · exact skip_ok (by kernel_rfl) (hN _ _ h1)
theorem s16_28 {R : Value → World → Prop} {K1 : Value → World → Prop} {Q : Exit → Env → World → Prop} (hN : ∀ e w, (K1 (e 12) w) → Q .normal e w) (e : Env) (w : World) (h : m16_28 R K1 (e 0) (e 2) (e 8) (e 9) (e 11) (e 12) w) : W16 k16_28 Q e w := by
  unfold m16_28 at h
  refine seq_ok' (by kernel_rfl) ?_
  have hN' : ∀ e w, (m16_29 R K1 (e 0) (e 2) (e 8) (e 9) (e 11) (e 12) w) → (thenE (W16 k16_29 Q) Q) .normal e w := fun e w h => then_N (s16_29 (R := R) (Q := Q) (K1 := K1) hN e w h)
  have hN := hN'
  refine block_ok 3 (by kernel_rfl) ?_
  have hX3 : ∀ e w, (m16_29 R K1 (e 0) (e 2) (e 8) (e 9) (e 11) (e 12) w) → (inBlockE 3 (thenE (W16 k16_29 Q) Q)) (.exit 3) e w := fun e w h => inBlock_same (Q := (thenE (W16 k16_29 Q) Q)) 3 (hN e w h)
  have hN : ∀ e w, (m16_29 R K1 (e 0) (e 2) (e 8) (e 9) (e 11) (e 12) w) → (inBlockE 3 (thenE (W16 k16_29 Q) Q)) .normal e w := fun e w h => block_N (hN e w h)
  refine seq_ok' (by kernel_rfl) ?_
  have hN' : ∀ e w, (m16_30 R K1 (e 0) (e 2) (e 8) (e 9) (e 11) (e 12) w) → (thenE (W16 k16_30 (inBlockE 3 (thenE (W16 k16_29 Q) Q))) (inBlockE 3 (thenE (W16 k16_29 Q) Q))) .normal e w := fun e w h => then_N (s16_30 (R := R) (Q := (inBlockE 3 (thenE (W16 k16_29 Q) Q))) (K1 := K1) hN e w h)
  have hX3 : ∀ e w, (m16_29 R K1 (e 0) (e 2) (e 8) (e 9) (e 11) (e 12) w) → (thenE (W16 k16_30 (inBlockE 3 (thenE (W16 k16_29 Q) Q))) (inBlockE 3 (thenE (W16 k16_29 Q) Q))) (.exit 3) e w := fun e w h => then_X (hX3 e w h)
  have hN := hN'
  refine seq_ok' (by kernel_rfl) ?_
  have hN' : ∀ e w, (m16_33 R K1 (e 0) (e 2) (e 8) (e 9) (e 11) (e 12) (e 58) w) → (thenE (W16 k16_33 (thenE (W16 k16_30 (inBlockE 3 (thenE (W16 k16_29 Q) Q))) (inBlockE 3 (thenE (W16 k16_29 Q) Q)))) (thenE (W16 k16_30 (inBlockE 3 (thenE (W16 k16_29 Q) Q))) (inBlockE 3 (thenE (W16 k16_29 Q) Q)))) .normal e w := fun e w h => then_N (s16_33 (R := R) (Q := (thenE (W16 k16_30 (inBlockE 3 (thenE (W16 k16_29 Q) Q))) (inBlockE 3 (thenE (W16 k16_29 Q) Q)))) (K1 := K1) hN hX3 e w h)
  have hN := hN'
  exact region_ok 15 (fun e w => m16_33 R K1 (e 0) (e 2) (e 8) (e 9) (e 11) (e 12) (e 58) w) (by kernel_rfl) (kcast (by kernel_rfl) h) hN (by kernel_rfl)
theorem s16_14 {R : Value → World → Prop} {K1 : Value → World → Prop} {Q : Exit → Env → World → Prop} (hN : ∀ e w, (K1 (e 14) w) → Q .normal e w) (e : Env) (w : World) (h : m16_14 R K1 (e 0) (e 8) (e 9) (e 14) w) : W16 k16_14 Q e w := by
  unfold m16_14 at h
  exact region_ok 21 (fun e w => K1 (e 14) w) (by kernel_rfl) (kcast (by kernel_rfl) h) hN (by kernel_rfl)
theorem s16_21 {R : Value → World → Prop} {K1 : Value → World → Prop} {K2 : (Value × Value) → World → Prop} {Q : Exit → Env → World → Prop} (hN : ∀ e w, (K2 ((e 15), (e 16)) w) → Q .normal e w) (e : Env) (w : World) (h : m16_21 R K1 K2 (e 0) (e 8) (e 9) (e 14) (e 15) (e 16) w) : W16 k16_21 Q e w := by
  unfold m16_21 at h
  exact region_ok 26 (fun e w => K2 ((e 15), (e 16)) w) (by kernel_rfl) (kcast (by kernel_rfl) h) hN (by kernel_rfl)
theorem s16_22 {R : Value → World → Prop} {K1 : Value → World → Prop} {K2 : (Value × Value) → World → Prop} {Q : Exit → Env → World → Prop} (hN : ∀ e w, (m16_21 R K1 K2 (e 0) (e 8) (e 9) (e 14) (e 15) (e 16) w) → Q .normal e w) (e : Env) (w : World) (h : m16_22 R K1 K2 (e 0) (e 8) (e 9) (e 14) (e 15) (e 16) (e 119) w) : W16 k16_22 Q e w := by
  unfold m16_22 at h
  refine cond_ok (Operand.tmp 119) (by kernel_rfl) h (fun h1 => ?_) (fun h1 => ?_)
  · exact region_ok 28 (fun e w => m16_21 R K1 K2 (e 0) (e 8) (e 9) (e 14) (e 15) (e 16) w) (by kernel_rfl) (kcast (by kernel_rfl) h1) hN (by kernel_rfl)
  · exact skip_ok (by kernel_rfl) (hN _ _ h1)
theorem s16_20 {R : Value → World → Prop} {K1 : Value → World → Prop} {K2 : (Value × Value) → World → Prop} {Q : Exit → Env → World → Prop} (hN : ∀ e w, (K2 ((e 15), (e 16)) w) → Q .normal e w) (e : Env) (w : World) (h : m16_20 R K1 K2 (e 0) (e 8) (e 9) (e 14) (e 15) (e 16) w) : W16 k16_20 Q e w := by
  unfold m16_20 at h
  refine seq_ok' (by kernel_rfl) ?_
  have hN' : ∀ e w, (m16_21 R K1 K2 (e 0) (e 8) (e 9) (e 14) (e 15) (e 16) w) → (thenE (W16 k16_21 Q) Q) .normal e w := fun e w h => then_N (s16_21 (R := R) (Q := Q) (K1 := K1) (K2 := K2) hN e w h)
  have hN := hN'
  refine block_ok 7 (by kernel_rfl) ?_
  have hN : ∀ e w, (m16_21 R K1 K2 (e 0) (e 8) (e 9) (e 14) (e 15) (e 16) w) → (inBlockE 7 (thenE (W16 k16_21 Q) Q)) .normal e w := fun e w h => block_N (hN e w h)
  refine seq_ok' (by kernel_rfl) ?_
  have hN' : ∀ e w, (m16_22 R K1 K2 (e 0) (e 8) (e 9) (e 14) (e 15) (e 16) (e 119) w) → (thenE (W16 k16_22 (inBlockE 7 (thenE (W16 k16_21 Q) Q))) (inBlockE 7 (thenE (W16 k16_21 Q) Q))) .normal e w := fun e w h => then_N (s16_22 (R := R) (Q := (inBlockE 7 (thenE (W16 k16_21 Q) Q))) (K1 := K1) (K2 := K2) hN e w h)
  have hN := hN'
  exact region_ok 27 (fun e w => m16_22 R K1 K2 (e 0) (e 8) (e 9) (e 14) (e 15) (e 16) (e 119) w) (by kernel_rfl) (kcast (by kernel_rfl) h) hN (by kernel_rfl)
theorem s16_17 {R : Value → World → Prop} {K1 : Value → World → Prop} {Q : Exit → Env → World → Prop} (hN : ∀ e w, (m16_14 R K1 (e 0) (e 8) (e 9) (e 14) w) → Q .normal e w) (e : Env) (w : World) (h : m16_17 R K1 (e 0) (e 8) (e 9) (e 14) (e 15) w) : W16 k16_17 Q e w := by
  unfold m16_17 at h
  exact region_ok 29 (fun e w => m16_14 R K1 (e 0) (e 8) (e 9) (e 14) w) (by kernel_rfl) (kcast (by kernel_rfl) h) hN (by kernel_rfl)
theorem s16_23 {R : Value → World → Prop} {K1 : Value → World → Prop} {K2 : (Value × Value) → World → Prop} {Q : Exit → Env → World → Prop} (hN : ∀ e w, (m16_20 R K1 K2 (e 0) (e 8) (e 9) (e 14) (e 15) (e 16) w) → Q .normal e w) (hX6 : ∀ e w, (m16_17 R K1 (e 0) (e 8) (e 9) (e 14) (e 15) w) → Q (.exit 6) e w) (e : Env) (w : World) (h : m16_23 R K1 K2 (e 0) (e 8) (e 9) (e 14) (e 15) (e 16) (e 107) w) : W16 k16_23 Q e w := by
  unfold m16_23 at h
  refine cond_ok (Operand.tmp 107) (by kernel_rfl) h (fun h1 => ?_) (fun h1 => ?_)
  · exact skip_ok (by kernel_rfl) (hN _ _ h1)
  · exact exit_ok 6 (by kernel_rfl) (hX6 _ _ h1)
theorem s16_19 {R : Value → World → Prop} {K1 : Value → World → Prop} {K2 : (Value × Value) → World → Prop} {Q : Exit → Env → World → Prop} (hN : ∀ e w, (K2 ((e 15), (e 16)) w) → Q .normal e w) (hX6 : ∀ e w, (m16_17 R K1 (e 0) (e 8) (e 9) (e 14) (e 15) w) → Q (.exit 6) e w) (e : Env) (w : World) (h : m16_19 R K1 K2 (e 0) (e 8) (e 9) (e 14) (e 15) (e 16) w) : W16 k16_19 Q e w := by
  unfold m16_19 at h
  refine seq_ok' (by kernel_rfl) ?_
  have hN' : ∀ e w, (m16_20 R K1 K2 (e 0) (e 8) (e 9) (e 14) (e 15) (e 16) w) → (thenE (W16 k16_20 Q) Q) .normal e w := fun e w h => then_N (s16_20 (R := R) (Q := Q) (K1 := K1) (K2 := K2) hN e w h)
  have hX6 : ∀ e w, (m16_17 R K1 (e 0) (e 8) (e 9) (e 14) (e 15) w) → (thenE (W16 k16_20 Q) Q) (.exit 6) e w := fun e w h => then_X (hX6 e w h)
  have hN := hN'
  refine seq_ok' (by kernel_rfl) ?_
  have hN' : ∀ e w, (m16_23 R K1 K2 (e 0) (e 8) (e 9) (e 14) (e 15) (e 16) (e 107) w) → (thenE (W16 k16_23 (thenE (W16 k16_20 Q) Q)) (thenE (W16 k16_20 Q) Q)) .normal e w := fun e w h => then_N (s16_23 (R := R) (Q := (thenE (W16 k16_20 Q) Q)) (K1 := K1) (K2 := K2) hN hX6 e w h)
  have hN := hN'
  exact region_ok 25 (fun e w => m16_23 R K1 K2 (e 0) (e 8) (e 9) (e 14) (e 15) (e 16) (e 107) w) (by kernel_rfl) (kcast (by kernel_rfl) h) hN (by kernel_rfl)
theorem s16_18 {R : Value → World → Prop} {K1 : Value → World → Prop} {Q : Exit → Env → World → Prop} (hN : ∀ e w, (m16_17 R K1 (e 0) (e 8) (e 9) (e 14) (e 15) w) → Q .normal e w) (e : Env) (w : World) (h : m16_18 R K1 (e 0) (e 8) (e 9) (e 14) (e 15) (e 16) w) : W16 k16_18 Q e w := by
  unfold m16_18 at h
  refine block_ok 6 (by kernel_rfl) ?_
  have hX6 : ∀ e w, (m16_17 R K1 (e 0) (e 8) (e 9) (e 14) (e 15) w) → (inBlockE 6 Q) (.exit 6) e w := fun e w h => inBlock_same (Q := Q) 6 (hN e w h)
  refine loop_ok' (fun (e : Env) => (e 15, e 16)) [0, 8, 9, 14] (by kernel_rfl) (by kernel_rfl) h (fun K e' w' hk h' => ?_)
  have r0 : e' 0 = e 0 := hk 0 (by decide)
  have r8 : e' 8 = e 8 := hk 8 (by decide)
  have r9 : e' 9 = e 9 := hk 9 (by decide)
  have r14 : e' 14 = e 14 := hk 14 (by decide)
  have hX6 : ∀ e w, (m16_17 R K1 (e 0) (e 8) (e 9) (e 14) (e 15) w) → (thenE (fun (e : Env) w => K ((e 15), (e 16)) w) (inBlockE 6 Q)) (.exit 6) e w := fun e w h => then_X (hX6 e w h)
  exact s16_19 (R := R) (Q := (thenE (fun (e : Env) w => K ((e 15), (e 16)) w) (inBlockE 6 Q))) (K1 := K1) (K2 := K) (fun _ _ h => then_N h) hX6 e' w' (by rw [r0, r8, r9, r14]; exact h')
theorem s16_16 {R : Value → World → Prop} {K1 : Value → World → Prop} {Q : Exit → Env → World → Prop} (hN : ∀ e w, (m16_14 R K1 (e 0) (e 8) (e 9) (e 14) w) → Q .normal e w) (e : Env) (w : World) (h : m16_16 R K1 (e 0) (e 8) (e 9) (e 14) (e 15) w) : W16 k16_16 Q e w := by
  unfold m16_16 at h
  refine seq_ok' (by kernel_rfl) ?_
  have hN' : ∀ e w, (m16_17 R K1 (e 0) (e 8) (e 9) (e 14) (e 15) w) → (thenE (W16 k16_17 Q) Q) .normal e w := fun e w h => then_N (s16_17 (R := R) (Q := Q) (K1 := K1) hN e w h)
  have hN := hN'
  refine seq_ok' (by kernel_rfl) ?_
  have hN' : ∀ e w, (m16_18 R K1 (e 0) (e 8) (e 9) (e 14) (e 15) (e 16) w) → (thenE (W16 k16_18 (thenE (W16 k16_17 Q) Q)) (thenE (W16 k16_17 Q) Q)) .normal e w := fun e w h => then_N (s16_18 (R := R) (Q := (thenE (W16 k16_17 Q) Q)) (K1 := K1) hN e w h)
  have hN := hN'
  exact region_ok 24 (fun e w => m16_18 R K1 (e 0) (e 8) (e 9) (e 14) (e 15) (e 16) w) (by kernel_rfl) (kcast (by kernel_rfl) h) hN (by kernel_rfl)
theorem s16_15 {R : Value → World → Prop} {K1 : Value → World → Prop} {Q : Exit → Env → World → Prop} (hN : ∀ e w, (m16_14 R K1 (e 0) (e 8) (e 9) (e 14) w) → Q .normal e w) (e : Env) (w : World) (h : m16_15 R K1 (e 0) (e 8) (e 9) (e 14) w) : W16 k16_15 Q e w := by
  unfold m16_15 at h
  refine seq_ok' (by kernel_rfl) ?_
  have hN' : ∀ e w, (m16_16 R K1 (e 0) (e 8) (e 9) (e 14) (e 15) w) → (thenE (W16 k16_16 Q) Q) .normal e w := fun e w h => then_N (s16_16 (R := R) (Q := Q) (K1 := K1) hN e w h)
  have hN := hN'
  exact region_ok 23 (fun e w => m16_16 R K1 (e 0) (e 8) (e 9) (e 14) (e 15) w) (by kernel_rfl) (kcast (by kernel_rfl) h) hN (by kernel_rfl)
theorem s16_24 {R : Value → World → Prop} {K1 : Value → World → Prop} {Q : Exit → Env → World → Prop} (hN : ∀ e w, (m16_15 R K1 (e 0) (e 8) (e 9) (e 14) w) → Q .normal e w) (hX5 : ∀ e w, (m16_14 R K1 (e 0) (e 8) (e 9) (e 14) w) → Q (.exit 5) e w) (e : Env) (w : World) (h : m16_24 R K1 (e 0) (e 8) (e 9) (e 14) (e 100) w) : W16 k16_24 Q e w := by
  unfold m16_24 at h
  refine cond_ok (Operand.tmp 100) (by kernel_rfl) h (fun h1 => ?_) (fun h1 => ?_)
  · exact exit_ok 5 (by kernel_rfl) (hX5 _ _ h1)
  · exact skip_ok (by kernel_rfl) (hN _ _ h1)
theorem s16_13 {R : Value → World → Prop} {K1 : Value → World → Prop} {Q : Exit → Env → World → Prop} (hN : ∀ e w, (K1 (e 14) w) → Q .normal e w) (e : Env) (w : World) (h : m16_13 R K1 (e 0) (e 8) (e 9) (e 14) w) : W16 k16_13 Q e w := by
  unfold m16_13 at h
  refine seq_ok' (by kernel_rfl) ?_
  have hN' : ∀ e w, (m16_14 R K1 (e 0) (e 8) (e 9) (e 14) w) → (thenE (W16 k16_14 Q) Q) .normal e w := fun e w h => then_N (s16_14 (R := R) (Q := Q) (K1 := K1) hN e w h)
  have hN := hN'
  refine block_ok 5 (by kernel_rfl) ?_
  have hX5 : ∀ e w, (m16_14 R K1 (e 0) (e 8) (e 9) (e 14) w) → (inBlockE 5 (thenE (W16 k16_14 Q) Q)) (.exit 5) e w := fun e w h => inBlock_same (Q := (thenE (W16 k16_14 Q) Q)) 5 (hN e w h)
  have hN : ∀ e w, (m16_14 R K1 (e 0) (e 8) (e 9) (e 14) w) → (inBlockE 5 (thenE (W16 k16_14 Q) Q)) .normal e w := fun e w h => block_N (hN e w h)
  refine seq_ok' (by kernel_rfl) ?_
  have hN' : ∀ e w, (m16_15 R K1 (e 0) (e 8) (e 9) (e 14) w) → (thenE (W16 k16_15 (inBlockE 5 (thenE (W16 k16_14 Q) Q))) (inBlockE 5 (thenE (W16 k16_14 Q) Q))) .normal e w := fun e w h => then_N (s16_15 (R := R) (Q := (inBlockE 5 (thenE (W16 k16_14 Q) Q))) (K1 := K1) hN e w h)
  have hX5 : ∀ e w, (m16_14 R K1 (e 0) (e 8) (e 9) (e 14) w) → (thenE (W16 k16_15 (inBlockE 5 (thenE (W16 k16_14 Q) Q))) (inBlockE 5 (thenE (W16 k16_14 Q) Q))) (.exit 5) e w := fun e w h => then_X (hX5 e w h)
  have hN := hN'
  refine seq_ok' (by kernel_rfl) ?_
  have hN' : ∀ e w, (m16_24 R K1 (e 0) (e 8) (e 9) (e 14) (e 100) w) → (thenE (W16 k16_24 (thenE (W16 k16_15 (inBlockE 5 (thenE (W16 k16_14 Q) Q))) (inBlockE 5 (thenE (W16 k16_14 Q) Q)))) (thenE (W16 k16_15 (inBlockE 5 (thenE (W16 k16_14 Q) Q))) (inBlockE 5 (thenE (W16 k16_14 Q) Q)))) .normal e w := fun e w h => then_N (s16_24 (R := R) (Q := (thenE (W16 k16_15 (inBlockE 5 (thenE (W16 k16_14 Q) Q))) (inBlockE 5 (thenE (W16 k16_14 Q) Q)))) (K1 := K1) hN hX5 e w h)
  have hN := hN'
  exact region_ok 22 (fun e w => m16_24 R K1 (e 0) (e 8) (e 9) (e 14) (e 100) w) (by kernel_rfl) (kcast (by kernel_rfl) h) hN (by kernel_rfl)
theorem s16_10 {R : Value → World → Prop} {Q : Exit → Env → World → Prop} (hR : ∀ e w, (R (Value.tuple #[(e 6), (e 7)]) w) → Q .ret e w) (e : Env) (w : World) (h : m16_10 R (e 6) (e 7) w) : W16 k16_10 Q e w := by
  unfold m16_10 at h
  exact ret_ok (by kernel_rfl) (hR _ _ h)
theorem s16_9 {R : Value → World → Prop} {Q : Exit → Env → World → Prop} (hR : ∀ e w, (R (Value.tuple #[(e 6), (e 7)]) w) → Q .ret e w) (e : Env) (w : World) (h : m16_9 R (e 9) w) : W16 k16_9 Q e w := by
  unfold m16_9 at h
  refine seq_ok' (by kernel_rfl) ?_
  have hN' : ∀ e w, (m16_10 R (e 6) (e 7) w) → (thenE (W16 k16_10 Q) Q) .normal e w := fun e w h => then_N (s16_10 (R := R) (Q := Q) hR e w h)
  have hN := hN'
  exact region_ok 30 (fun e w => m16_10 R (e 6) (e 7) w) (by kernel_rfl) (kcast (by kernel_rfl) h) hN (by kernel_rfl)
theorem s16_25 {R : Value → World → Prop} {K1 : Value → World → Prop} {Q : Exit → Env → World → Prop} (hN : ∀ e w, (m16_13 R K1 (e 0) (e 8) (e 9) (e 14) w) → Q .normal e w) (hX4 : ∀ e w, (m16_9 R (e 9) w) → Q (.exit 4) e w) (e : Env) (w : World) (h : m16_25 R K1 (e 0) (e 8) (e 9) (e 14) (e 93) w) : W16 k16_25 Q e w := by
  unfold m16_25 at h
  refine cond_ok (Operand.tmp 93) (by kernel_rfl) h (fun h1 => ?_) (fun h1 => ?_)
  · exact skip_ok (by kernel_rfl) (hN _ _ h1)
  · exact exit_ok 4 (by kernel_rfl) (hX4 _ _ h1)
theorem s16_12 {R : Value → World → Prop} {K1 : Value → World → Prop} {Q : Exit → Env → World → Prop} (hN : ∀ e w, (K1 (e 14) w) → Q .normal e w) (hX4 : ∀ e w, (m16_9 R (e 9) w) → Q (.exit 4) e w) (e : Env) (w : World) (h : m16_12 R K1 (e 0) (e 8) (e 9) (e 14) w) : W16 k16_12 Q e w := by
  unfold m16_12 at h
  refine seq_ok' (by kernel_rfl) ?_
  have hN' : ∀ e w, (m16_13 R K1 (e 0) (e 8) (e 9) (e 14) w) → (thenE (W16 k16_13 Q) Q) .normal e w := fun e w h => then_N (s16_13 (R := R) (Q := Q) (K1 := K1) hN e w h)
  have hX4 : ∀ e w, (m16_9 R (e 9) w) → (thenE (W16 k16_13 Q) Q) (.exit 4) e w := fun e w h => then_X (hX4 e w h)
  have hN := hN'
  refine seq_ok' (by kernel_rfl) ?_
  have hN' : ∀ e w, (m16_25 R K1 (e 0) (e 8) (e 9) (e 14) (e 93) w) → (thenE (W16 k16_25 (thenE (W16 k16_13 Q) Q)) (thenE (W16 k16_13 Q) Q)) .normal e w := fun e w h => then_N (s16_25 (R := R) (Q := (thenE (W16 k16_13 Q) Q)) (K1 := K1) hN hX4 e w h)
  have hN := hN'
  exact region_ok 20 (fun e w => m16_25 R K1 (e 0) (e 8) (e 9) (e 14) (e 93) w) (by kernel_rfl) (kcast (by kernel_rfl) h) hN (by kernel_rfl)
theorem s16_11 {R : Value → World → Prop} {Q : Exit → Env → World → Prop} (hN : ∀ e w, (m16_9 R (e 9) w) → Q .normal e w) (e : Env) (w : World) (h : m16_11 R (e 0) (e 8) (e 9) (e 14) w) : W16 k16_11 Q e w := by
  unfold m16_11 at h
  refine block_ok 4 (by kernel_rfl) ?_
  have hX4 : ∀ e w, (m16_9 R (e 9) w) → (inBlockE 4 Q) (.exit 4) e w := fun e w h => inBlock_same (Q := Q) 4 (hN e w h)
  refine loop_ok' (fun (e : Env) => e 14) [0, 8, 9] (by kernel_rfl) (by kernel_rfl) h (fun K e' w' hk h' => ?_)
  have r0 : e' 0 = e 0 := hk 0 (by decide)
  have r8 : e' 8 = e 8 := hk 8 (by decide)
  have r9 : e' 9 = e 9 := hk 9 (by decide)
  have hX4 : ∀ e w, (m16_9 R (e 9) w) → (thenE (fun (e : Env) w => K (e 14) w) (inBlockE 4 Q)) (.exit 4) e w := fun e w h => then_X (hX4 e w h)
  exact s16_12 (R := R) (Q := (thenE (fun (e : Env) w => K (e 14) w) (inBlockE 4 Q))) (K1 := K) (fun _ _ h => then_N h) hX4 e' w' (by rw [r0, r8, r9]; exact h')
theorem s16_8 {R : Value → World → Prop} {Q : Exit → Env → World → Prop} (hR : ∀ e w, (R (Value.tuple #[(e 6), (e 7)]) w) → Q .ret e w) (e : Env) (w : World) (h : m16_8 R (e 0) (e 8) (e 9) w) : W16 k16_8 Q e w := by
  unfold m16_8 at h
  refine seq_ok' (by kernel_rfl) ?_
  have hN' : ∀ e w, (m16_9 R (e 9) w) → (thenE (W16 k16_9 Q) Q) .normal e w := fun e w h => then_N (s16_9 (R := R) (Q := Q) hR e w h)
  have hN := hN'
  refine seq_ok' (by kernel_rfl) ?_
  have hN' : ∀ e w, (m16_11 R (e 0) (e 8) (e 9) (e 14) w) → (thenE (W16 k16_11 (thenE (W16 k16_9 Q) Q)) (thenE (W16 k16_9 Q) Q)) .normal e w := fun e w h => then_N (s16_11 (R := R) (Q := (thenE (W16 k16_9 Q) Q)) hN e w h)
  have hN := hN'
  exact region_ok 19 (fun e w => m16_11 R (e 0) (e 8) (e 9) (e 14) w) (by kernel_rfl) (kcast (by kernel_rfl) h) hN (by kernel_rfl)
theorem s16_34 {R : Value → World → Prop} {K1 : Value → World → Prop} {Q : Exit → Env → World → Prop} (hN : ∀ e w, (m16_28 R K1 (e 0) (e 2) (e 8) (e 9) (e 11) (e 12) w) → Q .normal e w) (hX2 : ∀ e w, (m16_8 R (e 0) (e 8) (e 9) w) → Q (.exit 2) e w) (e : Env) (w : World) (h : m16_34 R K1 (e 0) (e 2) (e 8) (e 9) (e 11) (e 12) (e 49) w) : W16 k16_34 Q e w := by
  unfold m16_34 at h
  refine cond_ok (Operand.tmp 49) (by kernel_rfl) h (fun h1 => ?_) (fun h1 => ?_)
  · exact skip_ok (by kernel_rfl) (hN _ _ h1)
  · exact exit_ok 2 (by kernel_rfl) (hX2 _ _ h1)
theorem s16_27 {R : Value → World → Prop} {K1 : Value → World → Prop} {Q : Exit → Env → World → Prop} (hN : ∀ e w, (K1 (e 12) w) → Q .normal e w) (hX2 : ∀ e w, (m16_8 R (e 0) (e 8) (e 9) w) → Q (.exit 2) e w) (e : Env) (w : World) (h : m16_27 R K1 (e 0) (e 2) (e 8) (e 9) (e 11) (e 12) w) : W16 k16_27 Q e w := by
  unfold m16_27 at h
  refine seq_ok' (by kernel_rfl) ?_
  have hN' : ∀ e w, (m16_28 R K1 (e 0) (e 2) (e 8) (e 9) (e 11) (e 12) w) → (thenE (W16 k16_28 Q) Q) .normal e w := fun e w h => then_N (s16_28 (R := R) (Q := Q) (K1 := K1) hN e w h)
  have hX2 : ∀ e w, (m16_8 R (e 0) (e 8) (e 9) w) → (thenE (W16 k16_28 Q) Q) (.exit 2) e w := fun e w h => then_X (hX2 e w h)
  have hN := hN'
  refine seq_ok' (by kernel_rfl) ?_
  have hN' : ∀ e w, (m16_34 R K1 (e 0) (e 2) (e 8) (e 9) (e 11) (e 12) (e 49) w) → (thenE (W16 k16_34 (thenE (W16 k16_28 Q) Q)) (thenE (W16 k16_28 Q) Q)) .normal e w := fun e w h => then_N (s16_34 (R := R) (Q := (thenE (W16 k16_28 Q) Q)) (K1 := K1) hN hX2 e w h)
  have hN := hN'
  exact region_ok 13 (fun e w => m16_34 R K1 (e 0) (e 2) (e 8) (e 9) (e 11) (e 12) (e 49) w) (by kernel_rfl) (kcast (by kernel_rfl) h) hN (by kernel_rfl)
theorem s16_26 {R : Value → World → Prop} {Q : Exit → Env → World → Prop} (hN : ∀ e w, (m16_8 R (e 0) (e 8) (e 9) w) → Q .normal e w) (e : Env) (w : World) (h : m16_26 R (e 0) (e 2) (e 8) (e 9) (e 11) (e 12) w) : W16 k16_26 Q e w := by
  unfold m16_26 at h
  refine block_ok 2 (by kernel_rfl) ?_
  have hX2 : ∀ e w, (m16_8 R (e 0) (e 8) (e 9) w) → (inBlockE 2 Q) (.exit 2) e w := fun e w h => inBlock_same (Q := Q) 2 (hN e w h)
  refine loop_ok' (fun (e : Env) => e 12) [0, 2, 8, 9, 11] (by kernel_rfl) (by kernel_rfl) h (fun K e' w' hk h' => ?_)
  have r0 : e' 0 = e 0 := hk 0 (by decide)
  have r2 : e' 2 = e 2 := hk 2 (by decide)
  have r8 : e' 8 = e 8 := hk 8 (by decide)
  have r9 : e' 9 = e 9 := hk 9 (by decide)
  have r11 : e' 11 = e 11 := hk 11 (by decide)
  have hX2 : ∀ e w, (m16_8 R (e 0) (e 8) (e 9) w) → (thenE (fun (e : Env) w => K (e 12) w) (inBlockE 2 Q)) (.exit 2) e w := fun e w h => then_X (hX2 e w h)
  exact s16_27 (R := R) (Q := (thenE (fun (e : Env) w => K (e 12) w) (inBlockE 2 Q))) (K1 := K) (fun _ _ h => then_N h) hX2 e' w' (by rw [r0, r2, r8, r9, r11]; exact h')
theorem s16_7 {R : Value → World → Prop} {Q : Exit → Env → World → Prop} (hR : ∀ e w, (R (Value.tuple #[(e 6), (e 7)]) w) → Q .ret e w) (e : Env) (w : World) (h : m16_7 R (e 0) (e 2) (e 8) (e 9) (e 11) w) : W16 k16_7 Q e w := by
  unfold m16_7 at h
  refine seq_ok' (by kernel_rfl) ?_
  have hN' : ∀ e w, (m16_8 R (e 0) (e 8) (e 9) w) → (thenE (W16 k16_8 Q) Q) .normal e w := fun e w h => then_N (s16_8 (R := R) (Q := Q) hR e w h)
  have hN := hN'
  refine seq_ok' (by kernel_rfl) ?_
  have hN' : ∀ e w, (m16_26 R (e 0) (e 2) (e 8) (e 9) (e 11) (e 12) w) → (thenE (W16 k16_26 (thenE (W16 k16_8 Q) Q)) (thenE (W16 k16_8 Q) Q)) .normal e w := fun e w h => then_N (s16_26 (R := R) (Q := (thenE (W16 k16_8 Q) Q)) hN e w h)
  have hN := hN'
  exact region_ok 12 (fun e w => m16_26 R (e 0) (e 2) (e 8) (e 9) (e 11) (e 12) w) (by kernel_rfl) (kcast (by kernel_rfl) h) hN (by kernel_rfl)
theorem s16_6 {R : Value → World → Prop} {Q : Exit → Env → World → Prop} (hR : ∀ e w, (R (Value.tuple #[(e 6), (e 7)]) w) → Q .ret e w) (e : Env) (w : World) (h : m16_6 R (e 0) (e 2) (e 8) (e 9) w) : W16 k16_6 Q e w := by
  unfold m16_6 at h
  refine seq_ok' (by kernel_rfl) ?_
  have hN' : ∀ e w, (m16_7 R (e 0) (e 2) (e 8) (e 9) (e 11) w) → (thenE (W16 k16_7 Q) Q) .normal e w := fun e w h => then_N (s16_7 (R := R) (Q := Q) hR e w h)
  have hN := hN'
  exact region_ok 11 (fun e w => m16_7 R (e 0) (e 2) (e 8) (e 9) (e 11) w) (by kernel_rfl) (kcast (by kernel_rfl) h) hN (by kernel_rfl)
theorem s16_35 {R : Value → World → Prop} {Q : Exit → Env → World → Prop} (hN : ∀ e w, (m16_6 R (e 0) (e 2) (e 8) (e 9) w) → Q .normal e w) (hR : ∀ e w, (R (Value.tuple #[(e 6), (e 7)]) w) → Q .ret e w) (e : Env) (w : World) (h : m16_35 R (e 0) (e 2) (e 8) (e 9) (e 35) w) : W16 k16_35 Q e w := by
  unfold m16_35 at h
  refine cond_ok (Operand.tmp 35) (by kernel_rfl) h (fun h1 => ?_) (fun h1 => ?_)
  · refine seq_ok' (by kernel_rfl) ?_
    have hN' : ∀ e w, (m16_36 R (e 6) (e 7) w) → (thenE (W16 k16_36 Q) Q) .normal e w := fun e w h => then_N (s16_36 (R := R) (Q := Q) hR e w h)
    have hN := hN'
    exact region_ok 10 (fun e w => m16_36 R (e 6) (e 7) w) (by kernel_rfl) (kcast (by kernel_rfl) h1) hN (by kernel_rfl)
  · exact skip_ok (by kernel_rfl) (hN _ _ h1)
theorem s16_5 {R : Value → World → Prop} {Q : Exit → Env → World → Prop} (hR : ∀ e w, (R (Value.tuple #[(e 6), (e 7)]) w) → Q .ret e w) (e : Env) (w : World) (h : m16_5 R (e 0) (e 2) (e 8) (e 9) w) : W16 k16_5 Q e w := by
  unfold m16_5 at h
  refine seq_ok' (by kernel_rfl) ?_
  have hN' : ∀ e w, (m16_6 R (e 0) (e 2) (e 8) (e 9) w) → (thenE (W16 k16_6 Q) Q) .normal e w := fun e w h => then_N (s16_6 (R := R) (Q := Q) hR e w h)
  have hR : ∀ e w, (R (Value.tuple #[(e 6), (e 7)]) w) → (thenE (W16 k16_6 Q) Q) .ret e w := fun e w h => then_R (hR e w h)
  have hN := hN'
  refine seq_ok' (by kernel_rfl) ?_
  have hN' : ∀ e w, (m16_35 R (e 0) (e 2) (e 8) (e 9) (e 35) w) → (thenE (W16 k16_35 (thenE (W16 k16_6 Q) Q)) (thenE (W16 k16_6 Q) Q)) .normal e w := fun e w h => then_N (s16_35 (R := R) (Q := (thenE (W16 k16_6 Q) Q)) hN hR e w h)
  have hN := hN'
  exact region_ok 9 (fun e w => m16_35 R (e 0) (e 2) (e 8) (e 9) (e 35) w) (by kernel_rfl) (kcast (by kernel_rfl) h) hN (by kernel_rfl)
theorem s16_41 {R : Value → World → Prop} {K1 : (Value × Value) → World → Prop} {Q : Exit → Env → World → Prop} (hN : ∀ e w, (m16_39 R K1 (e 0) (e 2) (e 8) (e 9) (e 10) w) → Q .normal e w) (hX0 : ∀ e w, (m16_5 R (e 0) (e 2) (e 8) (e 9) w) → Q (.exit 0) e w) (e : Env) (w : World) (h : m16_41 R K1 (e 0) (e 2) (e 8) (e 9) (e 10) (e 27) w) : W16 k16_41 Q e w := by
  unfold m16_41 at h
  refine cond_ok (Operand.tmp 27) (by kernel_rfl) h (fun h1 => ?_) (fun h1 => ?_)
  · exact skip_ok (by kernel_rfl) (hN _ _ h1)
  · exact exit_ok 0 (by kernel_rfl) (hX0 _ _ h1)
theorem s16_38 {R : Value → World → Prop} {K1 : (Value × Value) → World → Prop} {Q : Exit → Env → World → Prop} (hN : ∀ e w, (K1 ((e 9), (e 10)) w) → Q .normal e w) (hX0 : ∀ e w, (m16_5 R (e 0) (e 2) (e 8) (e 9) w) → Q (.exit 0) e w) (e : Env) (w : World) (h : m16_38 R K1 (e 0) (e 2) (e 8) (e 9) (e 10) w) : W16 k16_38 Q e w := by
  unfold m16_38 at h
  refine seq_ok' (by kernel_rfl) ?_
  have hN' : ∀ e w, (m16_39 R K1 (e 0) (e 2) (e 8) (e 9) (e 10) w) → (thenE (W16 k16_39 Q) Q) .normal e w := fun e w h => then_N (s16_39 (R := R) (Q := Q) (K1 := K1) hN e w h)
  have hX0 : ∀ e w, (m16_5 R (e 0) (e 2) (e 8) (e 9) w) → (thenE (W16 k16_39 Q) Q) (.exit 0) e w := fun e w h => then_X (hX0 e w h)
  have hN := hN'
  refine seq_ok' (by kernel_rfl) ?_
  have hN' : ∀ e w, (m16_41 R K1 (e 0) (e 2) (e 8) (e 9) (e 10) (e 27) w) → (thenE (W16 k16_41 (thenE (W16 k16_39 Q) Q)) (thenE (W16 k16_39 Q) Q)) .normal e w := fun e w h => then_N (s16_41 (R := R) (Q := (thenE (W16 k16_39 Q) Q)) (K1 := K1) hN hX0 e w h)
  have hN := hN'
  exact region_ok 6 (fun e w => m16_41 R K1 (e 0) (e 2) (e 8) (e 9) (e 10) (e 27) w) (by kernel_rfl) (kcast (by kernel_rfl) h) hN (by kernel_rfl)
theorem s16_37 {R : Value → World → Prop} {Q : Exit → Env → World → Prop} (hN : ∀ e w, (m16_5 R (e 0) (e 2) (e 8) (e 9) w) → Q .normal e w) (e : Env) (w : World) (h : m16_37 R (e 0) (e 2) (e 8) (e 9) (e 10) w) : W16 k16_37 Q e w := by
  unfold m16_37 at h
  refine block_ok 0 (by kernel_rfl) ?_
  have hX0 : ∀ e w, (m16_5 R (e 0) (e 2) (e 8) (e 9) w) → (inBlockE 0 Q) (.exit 0) e w := fun e w h => inBlock_same (Q := Q) 0 (hN e w h)
  refine loop_ok' (fun (e : Env) => (e 9, e 10)) [0, 2, 8] (by kernel_rfl) (by kernel_rfl) h (fun K e' w' hk h' => ?_)
  have r0 : e' 0 = e 0 := hk 0 (by decide)
  have r2 : e' 2 = e 2 := hk 2 (by decide)
  have r8 : e' 8 = e 8 := hk 8 (by decide)
  have hX0 : ∀ e w, (m16_5 R (e 0) (e 2) (e 8) (e 9) w) → (thenE (fun (e : Env) w => K ((e 9), (e 10)) w) (inBlockE 0 Q)) (.exit 0) e w := fun e w h => then_X (hX0 e w h)
  exact s16_38 (R := R) (Q := (thenE (fun (e : Env) w => K ((e 9), (e 10)) w) (inBlockE 0 Q))) (K1 := K) (fun _ _ h => then_N h) hX0 e' w' (by rw [r0, r2, r8]; exact h')
theorem s16_4 {R : Value → World → Prop} {Q : Exit → Env → World → Prop} (hR : ∀ e w, (R (Value.tuple #[(e 6), (e 7)]) w) → Q .ret e w) (e : Env) (w : World) (h : m16_4 R (e 0) (e 2) (e 8) (e 9) w) : W16 k16_4 Q e w := by
  unfold m16_4 at h
  refine seq_ok' (by kernel_rfl) ?_
  have hN' : ∀ e w, (m16_5 R (e 0) (e 2) (e 8) (e 9) w) → (thenE (W16 k16_5 Q) Q) .normal e w := fun e w h => then_N (s16_5 (R := R) (Q := Q) hR e w h)
  have hN := hN'
  refine seq_ok' (by kernel_rfl) ?_
  have hN' : ∀ e w, (m16_37 R (e 0) (e 2) (e 8) (e 9) (e 10) w) → (thenE (W16 k16_37 (thenE (W16 k16_5 Q) Q)) (thenE (W16 k16_5 Q) Q)) .normal e w := fun e w h => then_N (s16_37 (R := R) (Q := (thenE (W16 k16_5 Q) Q)) hN e w h)
  have hN := hN'
  exact region_ok 5 (fun e w => m16_37 R (e 0) (e 2) (e 8) (e 9) (e 10) w) (by kernel_rfl) (kcast (by kernel_rfl) h) hN (by kernel_rfl)
theorem s16_3 {R : Value → World → Prop} {Q : Exit → Env → World → Prop} (hR : ∀ e w, (R (Value.tuple #[(e 6), (e 7)]) w) → Q .ret e w) (e : Env) (w : World) (h : m16_3 R (e 0) (e 2) (e 8) w) : W16 k16_3 Q e w := by
  unfold m16_3 at h
  refine seq_ok' (by kernel_rfl) ?_
  have hN' : ∀ e w, (m16_4 R (e 0) (e 2) (e 8) (e 9) w) → (thenE (W16 k16_4 Q) Q) .normal e w := fun e w h => then_N (s16_4 (R := R) (Q := Q) hR e w h)
  have hN := hN'
  exact region_ok 4 (fun e w => m16_4 R (e 0) (e 2) (e 8) (e 9) w) (by kernel_rfl) (kcast (by kernel_rfl) h) hN (by kernel_rfl)
theorem s16_2 {R : Value → World → Prop} {Q : Exit → Env → World → Prop} (hR : ∀ e w, (R (Value.tuple #[(e 6), (e 7)]) w) → Q .ret e w) (e : Env) (w : World) (h : m16_2 R (e 0) (e 1) (e 2) w) : W16 k16_2 Q e w := by
  unfold m16_2 at h
  refine seq_ok' (by kernel_rfl) ?_
  have hN' : ∀ e w, (m16_3 R (e 0) (e 2) (e 8) w) → (thenE (W16 k16_3 Q) Q) .normal e w := fun e w h => then_N (s16_3 (R := R) (Q := Q) hR e w h)
  have hN := hN'
  exact region_ok 3 (fun e w => m16_3 R (e 0) (e 2) (e 8) w) (by kernel_rfl) (kcast (by kernel_rfl) h) hN (by kernel_rfl)
theorem s16_42 {R : Value → World → Prop} {Q : Exit → Env → World → Prop} (hN : ∀ e w, (m16_2 R (e 0) (e 1) (e 2) w) → Q .normal e w) (hR : ∀ e w, (R (Value.tuple #[(e 6), (e 7)]) w) → Q .ret e w) (e : Env) (w : World) (h : m16_42 R (e 0) (e 1) (e 2) (e 22) w) : W16 k16_42 Q e w := by
  unfold m16_42 at h
  refine cond_ok (Operand.tmp 22) (by kernel_rfl) h (fun h1 => ?_) (fun h1 => ?_)
  · refine seq_ok' (by kernel_rfl) ?_
    have hN' : ∀ e w, (m16_43 R (e 6) (e 7) w) → (thenE (W16 k16_43 Q) Q) .normal e w := fun e w h => then_N (s16_43 (R := R) (Q := Q) hR e w h)
    have hN := hN'
    exact region_ok 2 (fun e w => m16_43 R (e 6) (e 7) w) (by kernel_rfl) (kcast (by kernel_rfl) h1) hN (by kernel_rfl)
  · exact skip_ok (by kernel_rfl) (hN _ _ h1)
theorem s16_1 {R : Value → World → Prop} {Q : Exit → Env → World → Prop} (hR : ∀ e w, (R (Value.tuple #[(e 6), (e 7)]) w) → Q .ret e w) (e : Env) (w : World) (h : m16_1 R (e 0) (e 1) (e 2) w) : W16 k16_1 Q e w := by
  unfold m16_1 at h
  refine seq_ok' (by kernel_rfl) ?_
  have hN' : ∀ e w, (m16_2 R (e 0) (e 1) (e 2) w) → (thenE (W16 k16_2 Q) Q) .normal e w := fun e w h => then_N (s16_2 (R := R) (Q := Q) hR e w h)
  have hR : ∀ e w, (R (Value.tuple #[(e 6), (e 7)]) w) → (thenE (W16 k16_2 Q) Q) .ret e w := fun e w h => then_R (hR e w h)
  have hN := hN'
  refine seq_ok' (by kernel_rfl) ?_
  have hN' : ∀ e w, (m16_42 R (e 0) (e 1) (e 2) (e 22) w) → (thenE (W16 k16_42 (thenE (W16 k16_2 Q) Q)) (thenE (W16 k16_2 Q) Q)) .normal e w := fun e w h => then_N (s16_42 (R := R) (Q := (thenE (W16 k16_2 Q) Q)) hN hR e w h)
  have hN := hN'
  exact region_ok 1 (fun e w => m16_42 R (e 0) (e 1) (e 2) (e 22) w) (by kernel_rfl) (kcast (by kernel_rfl) h) hN (by kernel_rfl)
theorem s16_0 {R : Value → World → Prop} {Q : Exit → Env → World → Prop} (hR : ∀ e w, (R (Value.tuple #[(e 6), (e 7)]) w) → Q .ret e w) (e : Env) (w : World) (h : m16_0 R (e 0) (e 1) (e 2) w) : W16 k16_0 Q e w := by
  unfold m16_0 at h
  refine seq_ok' (by kernel_rfl) ?_
  have hN' : ∀ e w, (m16_1 R (e 0) (e 1) (e 2) w) → (thenE (W16 k16_1 Q) Q) .normal e w := fun e w h => then_N (s16_1 (R := R) (Q := Q) hR e w h)
  have hN := hN'
  exact region_ok 0 (fun e w => m16_1 R (e 0) (e 1) (e 2) w) (by kernel_rfl) (kcast (by kernel_rfl) h) hN (by kernel_rfl)
abbrev m16 (R : Value → World → Prop) (parts0 : Value) (members1 : Value) (old2 : Value) (w : World) : Prop := m16_0 R parts0 members1 old2 w
theorem s16 (parts0 : Value) (members1 : Value) (old2 : Value) {R : Value → World → Prop} {w : World} (h : m16 R parts0 members1 old2 w) :
    Calls Try.prog 16 #[parts0, members1, old2] w fun e w' => ∃ v, e = .returned v ∧ R v w' :=
  calls_of_cwp (st := (fun i => 0)) (c := k16_0) (by kernel_rfl) Try.func16 (by kernel_rfl) (Nat.le_of_ble_eq_true (by kernel_rfl)) (by kernel_rfl)
    (s16_0 (R := R) (Q := endE Try.prog Try.f16 R) (fun e w h => kcast (by kernel_rfl) h) (argsE #[parts0, members1, old2]) w (kcast (by kernel_rfl) h))
/-! ### headgate/headgatelaw09.fair -/
def m17_20 (R : Value → World → Prop) (t6 : Value) (w : World) : Prop :=
  R t6 w
def m17_18 (R : Value → World → Prop) (t6 : Value) (w : World) : Prop :=
  R t6 w
def m17_15 (R : Value → World → Prop) (K1 : (Value × Value) → World → Prop) (t6 : Value) (w : World) : Prop :=
  R t6 w
def m17_11 (R : Value → World → Prop) (K1 : (Value × Value) → World → Prop) (l0 : Value) (parts2 : Value) (m7 : Value) (sum8 : Value) (i9 : Value) (w : World) : Prop :=
  valP Try.prog (binS BinOp.add 3 (Operand.tmp 28) (Operand.const (Value.int IntKind.i64 1)) i9 (Value.int IntKind.i64 1)) w fun t29 w =>
  K1 (sum8, t29) w
def m17_13 (R : Value → World → Prop) (K1 : (Value × Value) → World → Prop) (l0 : Value) (parts2 : Value) (m7 : Value) (sum8 : Value) (i9 : Value) (n10 : Value) (w : World) : Prop :=
  valP Try.prog (binS BinOp.add 3 (Operand.tmp 51) (Operand.tmp 52) sum8 n10) w fun t53 w =>
  m17_11 R K1 l0 parts2 m7 t53 i9 w
def m17_14 (R : Value → World → Prop) (K1 : (Value × Value) → World → Prop) (l0 : Value) (parts2 : Value) (m7 : Value) (sum8 : Value) (i9 : Value) (n10 : Value) (t50 : Value) (w : World) : Prop :=
  condP t50
  (m17_15 R K1 (Value.bool false) w)
  (m17_13 R K1 l0 parts2 m7 sum8 i9 n10 w)
def m17_12 (R : Value → World → Prop) (K1 : (Value × Value) → World → Prop) (l0 : Value) (parts2 : Value) (m7 : Value) (sum8 : Value) (i9 : Value) (n10 : Value) (w : World) : Prop :=
  builtinP Try.prog Builtin.len #[22] 3 #[false] #[m7] w fun t39 w =>
  valP Try.prog (binS BinOp.quo 3 (Operand.tmp 37) (Operand.tmp 39) parts2 t39) w fun t40 w =>
  valP Try.prog (binS BinOp.neq 3 (Operand.tmp 36) (Operand.tmp 40) n10 t40) w fun t41 w =>
  condP t41
  (builtinP Try.prog Builtin.len #[22] 3 #[false] #[m7] w fun t46 w =>
  valP Try.prog (binS BinOp.quo 3 (Operand.tmp 44) (Operand.tmp 46) parts2 t46) w fun t47 w =>
  valP Try.prog (binS BinOp.add 3 (Operand.tmp 47) (Operand.const (Value.int IntKind.i64 1)) t47 (Value.int IntKind.i64 1)) w fun t48 w =>
  valP Try.prog (binS BinOp.neq 3 (Operand.tmp 43) (Operand.tmp 48) n10 t48) w fun t49 w =>
  pickP t41 t49 (Value.bool false) fun t50 =>
  m17_14 R K1 l0 parts2 m7 sum8 i9 n10 t50 w)
  (pickP t41 undef (Value.bool false) fun t50 =>
  m17_14 R K1 l0 parts2 m7 sum8 i9 n10 t50 w)
def m17_10 (R : Value → World → Prop) (K1 : (Value × Value) → World → Prop) (l0 : Value) (parts2 : Value) (m7 : Value) (sum8 : Value) (i9 : Value) (w : World) : Prop :=
  valP Try.prog (Instr.indexAt 22 m7 i9) w fun t33 w =>
  valP Try.prog (Instr.loadAt 3 t33) w fun t34 w =>
  callP Try.prog (fnV 19) #[l0, t34] w fun t35 w =>
  m17_12 R K1 l0 parts2 m7 sum8 i9 t35 w
def m17_7 (R : Value → World → Prop) (t6 : Value) (w : World) : Prop :=
  R t6 w
def m17_6 (R : Value → World → Prop) (parts2 : Value) (sum8 : Value) (w : World) : Prop :=
  valP Try.prog (binS BinOp.eql 3 (Operand.tmp 54) (Operand.tmp 55) sum8 parts2) w fun t56 w =>
  m17_7 R t56 w
def m17_16 (R : Value → World → Prop) (K1 : (Value × Value) → World → Prop) (l0 : Value) (parts2 : Value) (m7 : Value) (sum8 : Value) (i9 : Value) (t27 : Value) (w : World) : Prop :=
  condP t27
  (m17_10 R K1 l0 parts2 m7 sum8 i9 w)
  (m17_6 R parts2 sum8 w)
def m17_9 (R : Value → World → Prop) (K1 : (Value × Value) → World → Prop) (l0 : Value) (parts2 : Value) (m7 : Value) (sum8 : Value) (i9 : Value) (w : World) : Prop :=
  builtinP Try.prog Builtin.len #[22] 3 #[false] #[m7] w fun t26 w =>
  valP Try.prog (binS BinOp.lss 3 (Operand.tmp 24) (Operand.tmp 26) i9 t26) w fun t27 w =>
  m17_16 R K1 l0 parts2 m7 sum8 i9 t27 w
def m17_8 (R : Value → World → Prop) (l0 : Value) (parts2 : Value) (m7 : Value) (sum8 : Value) (i9 : Value) (w : World) : Prop :=
  loopP (fun (K1 : (Value × Value) → World → Prop) (s : Value × Value) w => m17_9 R K1 l0 parts2 m7 s.1 s.2 w) (sum8, i9) w
def m17_5 (R : Value → World → Prop) (l0 : Value) (parts2 : Value) (m7 : Value) (sum8 : Value) (w : World) : Prop :=
  m17_8 R l0 parts2 m7 sum8 (Value.int IntKind.i64 0) w
def m17_4 (R : Value → World → Prop) (l0 : Value) (parts2 : Value) (m7 : Value) (w : World) : Prop :=
  m17_5 R l0 parts2 m7 (Value.int IntKind.i64 0) w
def m17_17 (R : Value → World → Prop) (l0 : Value) (parts2 : Value) (m7 : Value) (t19 : Value) (w : World) : Prop :=
  condP t19
  (callP Try.prog (fnV 19) #[l0, (Value.int IntKind.i64 0)] w fun t21 w =>
  valP Try.prog (binS BinOp.eql 3 (Operand.tmp 21) (Operand.tmp 22) t21 parts2) w fun t23 w =>
  m17_18 R t23 w)
  (m17_4 R l0 parts2 m7 w)
def m17_3 (R : Value → World → Prop) (l0 : Value) (parts2 : Value) (m7 : Value) (w : World) : Prop :=
  builtinP Try.prog Builtin.len #[22] 3 #[false] #[m7] w fun t18 w =>
  valP Try.prog (binS BinOp.eql 3 (Operand.tmp 18) (Operand.const (Value.int IntKind.i64 0)) t18 (Value.int IntKind.i64 0)) w fun t19 w =>
  m17_17 R l0 parts2 m7 t19 w
def m17_19 (R : Value → World → Prop) (l0 : Value) (parts2 : Value) (m7 : Value) (t16 : Value) (w : World) : Prop :=
  condP t16
  (m17_20 R (Value.bool false) w)
  (m17_3 R l0 parts2 m7 w)
def m17_2 (R : Value → World → Prop) (l0 : Value) (parts2 : Value) (m7 : Value) (w : World) : Prop :=
  builtinP Try.prog Builtin.len #[22] 3 #[false] #[l0] w fun t14 w =>
  valP Try.prog (binS BinOp.neq 3 (Operand.tmp 14) (Operand.tmp 15) t14 parts2) w fun t16 w =>
  m17_19 R l0 parts2 m7 t16 w
def m17_1 (R : Value → World → Prop) (l0 : Value) (members1 : Value) (parts2 : Value) (w : World) : Prop :=
  callP Try.prog (fnV 18) #[members1] w fun t12 w =>
  m17_2 R l0 parts2 t12 w
def m17_0 (R : Value → World → Prop) (l0 : Value) (members1 : Value) (parts2 : Value) (w : World) : Prop :=
  m17_1 R l0 members1 parts2 w
abbrev W17 := cwp Try.prog (fun i => 0)
noncomputable def k17_0 : Code := (bodyOf Try.f17)
noncomputable def k17_1 : Code := (c2 k17_0)
noncomputable def k17_2 : Code := (c2 k17_1)
noncomputable def k17_3 : Code := (c2 k17_2)
noncomputable def k17_4 : Code := (c2 k17_3)
noncomputable def k17_5 : Code := (c2 k17_4)
noncomputable def k17_6 : Code := (c2 k17_5)
noncomputable def k17_7 : Code := (c2 k17_6)
noncomputable def k17_8 : Code := (c2 (c1 k17_5))
noncomputable def k17_9 : Code := (c1 (c1 k17_8))
noncomputable def k17_10 : Code := (c2 k17_9)
noncomputable def k17_11 : Code := (c2 k17_10)
noncomputable def k17_12 : Code := (c2 (c1 (c1 k17_10)))
noncomputable def k17_13 : Code := (c2 k17_12)
noncomputable def k17_14 : Code := (c2 (c1 k17_12))
noncomputable def k17_15 : Code := (c2 (c1 k17_14))
noncomputable def k17_16 : Code := (c2 (c1 k17_9))
noncomputable def k17_17 : Code := (c2 (c1 k17_3))
noncomputable def k17_18 : Code := (c2 (c1 k17_17))
noncomputable def k17_19 : Code := (c2 (c1 k17_2))
noncomputable def k17_20 : Code := (c2 (c1 k17_19))
theorem s17_20 {R : Value → World → Prop} {Q : Exit → Env → World → Prop} (hR : ∀ e w, (R (e 6) w) → Q .ret e w) (e : Env) (w : World) (h : m17_20 R (e 6) w) : W17 k17_20 Q e w := by
  unfold m17_20 at h
  exact ret_ok (by kernel_rfl) (hR _ _ h)
theorem s17_18 {R : Value → World → Prop} {Q : Exit → Env → World → Prop} (hR : ∀ e w, (R (e 6) w) → Q .ret e w) (e : Env) (w : World) (h : m17_18 R (e 6) w) : W17 k17_18 Q e w := by
  unfold m17_18 at h
  exact ret_ok (by kernel_rfl) (hR _ _ h)
theorem s17_15 {R : Value → World → Prop} {K1 : (Value × Value) → World → Prop} {Q : Exit → Env → World → Prop} (hR : ∀ e w, (R (e 6) w) → Q .ret e w) (e : Env) (w : World) (h : m17_15 R K1 (e 6) w) : W17 k17_15 Q e w := by
  unfold m17_15 at h
  exact ret_ok (by kernel_rfl) (hR _ _ h)
theorem s17_11 {R : Value → World → Prop} {K1 : (Value × Value) → World → Prop} {Q : Exit → Env → World → Prop} (hN : ∀ e w, (K1 ((e 8), (e 9)) w) → Q .normal e w) (e : Env) (w : World) (h : m17_11 R K1 (e 0) (e 2) (e 7) (e 8) (e 9) w) : W17 k17_11 Q e w := by
  unfold m17_11 at h
  exact region_ok 9 (fun e w => K1 ((e 8), (e 9)) w) (by kernel_rfl) (kcast (by kernel_rfl) h) hN (by kernel_rfl)
theorem s17_13 {R : Value → World → Prop} {K1 : (Value × Value) → World → Prop} {Q : Exit → Env → World → Prop} (hN : ∀ e w, (m17_11 R K1 (e 0) (e 2) (e 7) (e 8) (e 9) w) → Q .normal e w) (e : Env) (w : World) (h : m17_13 R K1 (e 0) (e 2) (e 7) (e 8) (e 9) (e 10) w) : W17 k17_13 Q e w := by
  unfold m17_13 at h
  exact region_ok 13 (fun e w => m17_11 R K1 (e 0) (e 2) (e 7) (e 8) (e 9) w) (by kernel_rfl) (kcast (by kernel_rfl) h) hN (by kernel_rfl)
theorem s17_14 {R : Value → World → Prop} {K1 : (Value × Value) → World → Prop} {Q : Exit → Env → World → Prop} (hN : ∀ e w, (m17_13 R K1 (e 0) (e 2) (e 7) (e 8) (e 9) (e 10) w) → Q .normal e w) (hR : ∀ e w, (R (e 6) w) → Q .ret e w) (e : Env) (w : World) (h : m17_14 R K1 (e 0) (e 2) (e 7) (e 8) (e 9) (e 10) (e 50) w) : W17 k17_14 Q e w := by
  unfold m17_14 at h
  refine cond_ok (Operand.tmp 50) (by kernel_rfl) h (fun h1 => ?_) (fun h1 => ?_)
  · refine seq_ok' (by kernel_rfl) ?_
    have hN' : ∀ e w, (m17_15 R K1 (e 6) w) → (thenE (W17 k17_15 Q) Q) .normal e w := fun e w h => then_N (s17_15 (R := R) (Q := Q) (K1 := K1) hR e w h)
    have hN := hN'
    exact region_ok 12 (fun e w => m17_15 R K1 (e 6) w) (by kernel_rfl) (kcast (by kernel_rfl) h1) hN (by kernel_rfl)
  · exact skip_ok (by kernel_rfl) (hN _ _ h1)
theorem s17_12 {R : Value → World → Prop} {K1 : (Value × Value) → World → Prop} {Q : Exit → Env → World → Prop} (hN : ∀ e w, (m17_11 R K1 (e 0) (e 2) (e 7) (e 8) (e 9) w) → Q .normal e w) (hR : ∀ e w, (R (e 6) w) → Q .ret e w) (e : Env) (w : World) (h : m17_12 R K1 (e 0) (e 2) (e 7) (e 8) (e 9) (e 10) w) : W17 k17_12 Q e w := by
  unfold m17_12 at h
  refine seq_ok' (by kernel_rfl) ?_
  have hN' : ∀ e w, (m17_13 R K1 (e 0) (e 2) (e 7) (e 8) (e 9) (e 10) w) → (thenE (W17 k17_13 Q) Q) .normal e w := fun e w h => then_N (s17_13 (R := R) (Q := Q) (K1 := K1) hN e w h)
  have hR : ∀ e w, (R (e 6) w) → (thenE (W17 k17_13 Q) Q) .ret e w := fun e w h => then_R (hR e w h)
  have hN := hN'
  refine seq_ok' (by kernel_rfl) ?_
  have hN' : ∀ e w, (m17_14 R K1 (e 0) (e 2) (e 7) (e 8) (e 9) (e 10) (e 50) w) → (thenE (W17 k17_14 (thenE (W17 k17_13 Q) Q)) (thenE (W17 k17_13 Q) Q)) .normal e w := fun e w h => then_N (s17_14 (R := R) (Q := (thenE (W17 k17_13 Q) Q)) (K1 := K1) hN hR e w h)
  have hN := hN'
  exact region_ok 11 (fun e w => m17_14 R K1 (e 0) (e 2) (e 7) (e 8) (e 9) (e 10) (e 50) w) (by kernel_rfl) (kcast (by kernel_rfl) h) hN (by kernel_rfl)
theorem s17_10 {R : Value → World → Prop} {K1 : (Value × Value) → World → Prop} {Q : Exit → Env → World → Prop} (hN : ∀ e w, (K1 ((e 8), (e 9)) w) → Q .normal e w) (hR : ∀ e w, (R (e 6) w) → Q .ret e w) (e : Env) (w : World) (h : m17_10 R K1 (e 0) (e 2) (e 7) (e 8) (e 9) w) : W17 k17_10 Q e w := by
  unfold m17_10 at h
  refine seq_ok' (by kernel_rfl) ?_
  have hN' : ∀ e w, (m17_11 R K1 (e 0) (e 2) (e 7) (e 8) (e 9) w) → (thenE (W17 k17_11 Q) Q) .normal e w := fun e w h => then_N (s17_11 (R := R) (Q := Q) (K1 := K1) hN e w h)
  have hR : ∀ e w, (R (e 6) w) → (thenE (W17 k17_11 Q) Q) .ret e w := fun e w h => then_R (hR e w h)
  have hN := hN'
  refine block_ok 1 (by kernel_rfl) ?_
  have hN : ∀ e w, (m17_11 R K1 (e 0) (e 2) (e 7) (e 8) (e 9) w) → (inBlockE 1 (thenE (W17 k17_11 Q) Q)) .normal e w := fun e w h => block_N (hN e w h)
  have hR : ∀ e w, (R (e 6) w) → (inBlockE 1 (thenE (W17 k17_11 Q) Q)) .ret e w := fun e w h => block_R (hR e w h)
  refine seq_ok' (by kernel_rfl) ?_
  have hN' : ∀ e w, (m17_12 R K1 (e 0) (e 2) (e 7) (e 8) (e 9) (e 10) w) → (thenE (W17 k17_12 (inBlockE 1 (thenE (W17 k17_11 Q) Q))) (inBlockE 1 (thenE (W17 k17_11 Q) Q))) .normal e w := fun e w h => then_N (s17_12 (R := R) (Q := (inBlockE 1 (thenE (W17 k17_11 Q) Q))) (K1 := K1) hN hR e w h)
  have hN := hN'
  exact region_ok 10 (fun e w => m17_12 R K1 (e 0) (e 2) (e 7) (e 8) (e 9) (e 10) w) (by kernel_rfl) (kcast (by kernel_rfl) h) hN (by kernel_rfl)
theorem s17_7 {R : Value → World → Prop} {Q : Exit → Env → World → Prop} (hR : ∀ e w, (R (e 6) w) → Q .ret e w) (e : Env) (w : World) (h : m17_7 R (e 6) w) : W17 k17_7 Q e w := by
  unfold m17_7 at h
  exact ret_ok (by kernel_rfl) (hR _ _ h)
theorem s17_6 {R : Value → World → Prop} {Q : Exit → Env → World → Prop} (hR : ∀ e w, (R (e 6) w) → Q .ret e w) (e : Env) (w : World) (h : m17_6 R (e 2) (e 8) w) : W17 k17_6 Q e w := by
  unfold m17_6 at h
  refine seq_ok' (by kernel_rfl) ?_
  have hN' : ∀ e w, (m17_7 R (e 6) w) → (thenE (W17 k17_7 Q) Q) .normal e w := fun e w h => then_N (s17_7 (R := R) (Q := Q) hR e w h)
  have hN := hN'
  exact region_ok 14 (fun e w => m17_7 R (e 6) w) (by kernel_rfl) (kcast (by kernel_rfl) h) hN (by kernel_rfl)
theorem s17_16 {R : Value → World → Prop} {K1 : (Value × Value) → World → Prop} {Q : Exit → Env → World → Prop} (hN : ∀ e w, (m17_10 R K1 (e 0) (e 2) (e 7) (e 8) (e 9) w) → Q .normal e w) (hX0 : ∀ e w, (m17_6 R (e 2) (e 8) w) → Q (.exit 0) e w) (e : Env) (w : World) (h : m17_16 R K1 (e 0) (e 2) (e 7) (e 8) (e 9) (e 27) w) : W17 k17_16 Q e w := by
  unfold m17_16 at h
  refine cond_ok (Operand.tmp 27) (by kernel_rfl) h (fun h1 => ?_) (fun h1 => ?_)
  · exact skip_ok (by kernel_rfl) (hN _ _ h1)
  · exact exit_ok 0 (by kernel_rfl) (hX0 _ _ h1)
theorem s17_9 {R : Value → World → Prop} {K1 : (Value × Value) → World → Prop} {Q : Exit → Env → World → Prop} (hN : ∀ e w, (K1 ((e 8), (e 9)) w) → Q .normal e w) (hR : ∀ e w, (R (e 6) w) → Q .ret e w) (hX0 : ∀ e w, (m17_6 R (e 2) (e 8) w) → Q (.exit 0) e w) (e : Env) (w : World) (h : m17_9 R K1 (e 0) (e 2) (e 7) (e 8) (e 9) w) : W17 k17_9 Q e w := by
  unfold m17_9 at h
  refine seq_ok' (by kernel_rfl) ?_
  have hN' : ∀ e w, (m17_10 R K1 (e 0) (e 2) (e 7) (e 8) (e 9) w) → (thenE (W17 k17_10 Q) Q) .normal e w := fun e w h => then_N (s17_10 (R := R) (Q := Q) (K1 := K1) hN hR e w h)
  have hX0 : ∀ e w, (m17_6 R (e 2) (e 8) w) → (thenE (W17 k17_10 Q) Q) (.exit 0) e w := fun e w h => then_X (hX0 e w h)
  have hN := hN'
  refine seq_ok' (by kernel_rfl) ?_
  have hN' : ∀ e w, (m17_16 R K1 (e 0) (e 2) (e 7) (e 8) (e 9) (e 27) w) → (thenE (W17 k17_16 (thenE (W17 k17_10 Q) Q)) (thenE (W17 k17_10 Q) Q)) .normal e w := fun e w h => then_N (s17_16 (R := R) (Q := (thenE (W17 k17_10 Q) Q)) (K1 := K1) hN hX0 e w h)
  have hN := hN'
  exact region_ok 8 (fun e w => m17_16 R K1 (e 0) (e 2) (e 7) (e 8) (e 9) (e 27) w) (by kernel_rfl) (kcast (by kernel_rfl) h) hN (by kernel_rfl)
theorem s17_8 {R : Value → World → Prop} {Q : Exit → Env → World → Prop} (hN : ∀ e w, (m17_6 R (e 2) (e 8) w) → Q .normal e w) (hR : ∀ e w, (R (e 6) w) → Q .ret e w) (e : Env) (w : World) (h : m17_8 R (e 0) (e 2) (e 7) (e 8) (e 9) w) : W17 k17_8 Q e w := by
  unfold m17_8 at h
  refine block_ok 0 (by kernel_rfl) ?_
  have hX0 : ∀ e w, (m17_6 R (e 2) (e 8) w) → (inBlockE 0 Q) (.exit 0) e w := fun e w h => inBlock_same (Q := Q) 0 (hN e w h)
  have hR : ∀ e w, (R (e 6) w) → (inBlockE 0 Q) .ret e w := fun e w h => block_R (hR e w h)
  refine loop_ok' (fun (e : Env) => (e 8, e 9)) [0, 2, 7] (by kernel_rfl) (by kernel_rfl) h (fun K e' w' hk h' => ?_)
  have r0 : e' 0 = e 0 := hk 0 (by decide)
  have r2 : e' 2 = e 2 := hk 2 (by decide)
  have r7 : e' 7 = e 7 := hk 7 (by decide)
  have hR : ∀ e w, (R (e 6) w) → (thenE (fun (e : Env) w => K ((e 8), (e 9)) w) (inBlockE 0 Q)) .ret e w := fun e w h => then_R (hR e w h)
  have hX0 : ∀ e w, (m17_6 R (e 2) (e 8) w) → (thenE (fun (e : Env) w => K ((e 8), (e 9)) w) (inBlockE 0 Q)) (.exit 0) e w := fun e w h => then_X (hX0 e w h)
  exact s17_9 (R := R) (Q := (thenE (fun (e : Env) w => K ((e 8), (e 9)) w) (inBlockE 0 Q))) (K1 := K) (fun _ _ h => then_N h) hR hX0 e' w' (by rw [r0, r2, r7]; exact h')
theorem s17_5 {R : Value → World → Prop} {Q : Exit → Env → World → Prop} (hR : ∀ e w, (R (e 6) w) → Q .ret e w) (e : Env) (w : World) (h : m17_5 R (e 0) (e 2) (e 7) (e 8) w) : W17 k17_5 Q e w := by
  unfold m17_5 at h
  refine seq_ok' (by kernel_rfl) ?_
  have hN' : ∀ e w, (m17_6 R (e 2) (e 8) w) → (thenE (W17 k17_6 Q) Q) .normal e w := fun e w h => then_N (s17_6 (R := R) (Q := Q) hR e w h)
  have hR : ∀ e w, (R (e 6) w) → (thenE (W17 k17_6 Q) Q) .ret e w := fun e w h => then_R (hR e w h)
  have hN := hN'
  refine seq_ok' (by kernel_rfl) ?_
  have hN' : ∀ e w, (m17_8 R (e 0) (e 2) (e 7) (e 8) (e 9) w) → (thenE (W17 k17_8 (thenE (W17 k17_6 Q) Q)) (thenE (W17 k17_6 Q) Q)) .normal e w := fun e w h => then_N (s17_8 (R := R) (Q := (thenE (W17 k17_6 Q) Q)) hN hR e w h)
  have hN := hN'
  exact region_ok 7 (fun e w => m17_8 R (e 0) (e 2) (e 7) (e 8) (e 9) w) (by kernel_rfl) (kcast (by kernel_rfl) h) hN (by kernel_rfl)
theorem s17_4 {R : Value → World → Prop} {Q : Exit → Env → World → Prop} (hR : ∀ e w, (R (e 6) w) → Q .ret e w) (e : Env) (w : World) (h : m17_4 R (e 0) (e 2) (e 7) w) : W17 k17_4 Q e w := by
  unfold m17_4 at h
  refine seq_ok' (by kernel_rfl) ?_
  have hN' : ∀ e w, (m17_5 R (e 0) (e 2) (e 7) (e 8) w) → (thenE (W17 k17_5 Q) Q) .normal e w := fun e w h => then_N (s17_5 (R := R) (Q := Q) hR e w h)
  have hN := hN'
  exact region_ok 6 (fun e w => m17_5 R (e 0) (e 2) (e 7) (e 8) w) (by kernel_rfl) (kcast (by kernel_rfl) h) hN (by kernel_rfl)
theorem s17_17 {R : Value → World → Prop} {Q : Exit → Env → World → Prop} (hN : ∀ e w, (m17_4 R (e 0) (e 2) (e 7) w) → Q .normal e w) (hR : ∀ e w, (R (e 6) w) → Q .ret e w) (e : Env) (w : World) (h : m17_17 R (e 0) (e 2) (e 7) (e 19) w) : W17 k17_17 Q e w := by
  unfold m17_17 at h
  refine cond_ok (Operand.tmp 19) (by kernel_rfl) h (fun h1 => ?_) (fun h1 => ?_)
  · refine seq_ok' (by kernel_rfl) ?_
    have hN' : ∀ e w, (m17_18 R (e 6) w) → (thenE (W17 k17_18 Q) Q) .normal e w := fun e w h => then_N (s17_18 (R := R) (Q := Q) hR e w h)
    have hN := hN'
    exact region_ok 5 (fun e w => m17_18 R (e 6) w) (by kernel_rfl) (kcast (by kernel_rfl) h1) hN (by kernel_rfl)
  · exact skip_ok (by kernel_rfl) (hN _ _ h1)
theorem s17_3 {R : Value → World → Prop} {Q : Exit → Env → World → Prop} (hR : ∀ e w, (R (e 6) w) → Q .ret e w) (e : Env) (w : World) (h : m17_3 R (e 0) (e 2) (e 7) w) : W17 k17_3 Q e w := by
  unfold m17_3 at h
  refine seq_ok' (by kernel_rfl) ?_
  have hN' : ∀ e w, (m17_4 R (e 0) (e 2) (e 7) w) → (thenE (W17 k17_4 Q) Q) .normal e w := fun e w h => then_N (s17_4 (R := R) (Q := Q) hR e w h)
  have hR : ∀ e w, (R (e 6) w) → (thenE (W17 k17_4 Q) Q) .ret e w := fun e w h => then_R (hR e w h)
  have hN := hN'
  refine seq_ok' (by kernel_rfl) ?_
  have hN' : ∀ e w, (m17_17 R (e 0) (e 2) (e 7) (e 19) w) → (thenE (W17 k17_17 (thenE (W17 k17_4 Q) Q)) (thenE (W17 k17_4 Q) Q)) .normal e w := fun e w h => then_N (s17_17 (R := R) (Q := (thenE (W17 k17_4 Q) Q)) hN hR e w h)
  have hN := hN'
  exact region_ok 4 (fun e w => m17_17 R (e 0) (e 2) (e 7) (e 19) w) (by kernel_rfl) (kcast (by kernel_rfl) h) hN (by kernel_rfl)
theorem s17_19 {R : Value → World → Prop} {Q : Exit → Env → World → Prop} (hN : ∀ e w, (m17_3 R (e 0) (e 2) (e 7) w) → Q .normal e w) (hR : ∀ e w, (R (e 6) w) → Q .ret e w) (e : Env) (w : World) (h : m17_19 R (e 0) (e 2) (e 7) (e 16) w) : W17 k17_19 Q e w := by
  unfold m17_19 at h
  refine cond_ok (Operand.tmp 16) (by kernel_rfl) h (fun h1 => ?_) (fun h1 => ?_)
  · refine seq_ok' (by kernel_rfl) ?_
    have hN' : ∀ e w, (m17_20 R (e 6) w) → (thenE (W17 k17_20 Q) Q) .normal e w := fun e w h => then_N (s17_20 (R := R) (Q := Q) hR e w h)
    have hN := hN'
    exact region_ok 3 (fun e w => m17_20 R (e 6) w) (by kernel_rfl) (kcast (by kernel_rfl) h1) hN (by kernel_rfl)
  · exact skip_ok (by kernel_rfl) (hN _ _ h1)
theorem s17_2 {R : Value → World → Prop} {Q : Exit → Env → World → Prop} (hR : ∀ e w, (R (e 6) w) → Q .ret e w) (e : Env) (w : World) (h : m17_2 R (e 0) (e 2) (e 7) w) : W17 k17_2 Q e w := by
  unfold m17_2 at h
  refine seq_ok' (by kernel_rfl) ?_
  have hN' : ∀ e w, (m17_3 R (e 0) (e 2) (e 7) w) → (thenE (W17 k17_3 Q) Q) .normal e w := fun e w h => then_N (s17_3 (R := R) (Q := Q) hR e w h)
  have hR : ∀ e w, (R (e 6) w) → (thenE (W17 k17_3 Q) Q) .ret e w := fun e w h => then_R (hR e w h)
  have hN := hN'
  refine seq_ok' (by kernel_rfl) ?_
  have hN' : ∀ e w, (m17_19 R (e 0) (e 2) (e 7) (e 16) w) → (thenE (W17 k17_19 (thenE (W17 k17_3 Q) Q)) (thenE (W17 k17_3 Q) Q)) .normal e w := fun e w h => then_N (s17_19 (R := R) (Q := (thenE (W17 k17_3 Q) Q)) hN hR e w h)
  have hN := hN'
  exact region_ok 2 (fun e w => m17_19 R (e 0) (e 2) (e 7) (e 16) w) (by kernel_rfl) (kcast (by kernel_rfl) h) hN (by kernel_rfl)
theorem s17_1 {R : Value → World → Prop} {Q : Exit → Env → World → Prop} (hR : ∀ e w, (R (e 6) w) → Q .ret e w) (e : Env) (w : World) (h : m17_1 R (e 0) (e 1) (e 2) w) : W17 k17_1 Q e w := by
  unfold m17_1 at h
  refine seq_ok' (by kernel_rfl) ?_
  have hN' : ∀ e w, (m17_2 R (e 0) (e 2) (e 7) w) → (thenE (W17 k17_2 Q) Q) .normal e w := fun e w h => then_N (s17_2 (R := R) (Q := Q) hR e w h)
  have hN := hN'
  exact region_ok 1 (fun e w => m17_2 R (e 0) (e 2) (e 7) w) (by kernel_rfl) (kcast (by kernel_rfl) h) hN (by kernel_rfl)
theorem s17_0 {R : Value → World → Prop} {Q : Exit → Env → World → Prop} (hR : ∀ e w, (R (e 6) w) → Q .ret e w) (e : Env) (w : World) (h : m17_0 R (e 0) (e 1) (e 2) w) : W17 k17_0 Q e w := by
  unfold m17_0 at h
  refine seq_ok' (by kernel_rfl) ?_
  have hN' : ∀ e w, (m17_1 R (e 0) (e 1) (e 2) w) → (thenE (W17 k17_1 Q) Q) .normal e w := fun e w h => then_N (s17_1 (R := R) (Q := Q) hR e w h)
  have hN := hN'
  exact region_ok 0 (fun e w => m17_1 R (e 0) (e 1) (e 2) w) (by kernel_rfl) (kcast (by kernel_rfl) h) hN (by kernel_rfl)
abbrev m17 (R : Value → World → Prop) (l0 : Value) (members1 : Value) (parts2 : Value) (w : World) : Prop := m17_0 R l0 members1 parts2 w
theorem s17 (l0 : Value) (members1 : Value) (parts2 : Value) {R : Value → World → Prop} {w : World} (h : m17 R l0 members1 parts2 w) :
    Calls Try.prog 17 #[l0, members1, parts2] w fun e w' => ∃ v, e = .returned v ∧ R v w' :=
  calls_of_cwp (st := (fun i => 0)) (c := k17_0) (by kernel_rfl) Try.func17 (by kernel_rfl) (Nat.le_of_ble_eq_true (by kernel_rfl)) (by kernel_rfl)
    (s17_0 (R := R) (Q := endE Try.prog Try.f17 R) (fun e w h => kcast (by kernel_rfl) h) (argsE #[l0, members1, parts2]) w (kcast (by kernel_rfl) h))
/-! ### headgate/assign.share -/
def m20_11 (R : Value → World → Prop) (t4 : Value) (t5 : Value) (w : World) : Prop :=
  R (Value.tuple #[t4, t5]) w
def m20_7 (R : Value → World → Prop) (t4 : Value) (t5 : Value) (w : World) : Prop :=
  R (Value.tuple #[t4, t5]) w
def m20_6 (R : Value → World → Prop) (s7 : Value) (w : World) : Prop :=
  m20_7 R s7 (Value.bool true) w
def m20_9 (R : Value → World → Prop) (parts0 : Value) (s7 : Value) (n8 : Value) (t28 : Value) (w : World) : Prop :=
  condP t28
  (anyDraw w fun w =>
  pureP Try.prog (binS BinOp.quo 3 (Operand.tmp 31) (Operand.tmp 32) parts0 n8) fun t33 =>
  pureP Try.prog (binS BinOp.rem 3 (Operand.tmp 34) (Operand.tmp 35) parts0 n8) fun t36 =>
  nilCheckP s7 fun t37 =>
  pureP Try.prog (Instr.fieldAt 45 t37 2) fun t38 =>
  unitP Try.prog (Instr.storeAt 3 t38 t33) w fun _ w =>
  nilCheckP s7 fun t39 =>
  pureP Try.prog (Instr.fieldAt 45 t39 3) fun t40 =>
  unitP Try.prog (Instr.storeAt 3 t40 t36) w fun _ w =>
  m20_6 R s7 w)
  (m20_6 R s7 w)
def m20_8 (R : Value → World → Prop) (parts0 : Value) (s7 : Value) (n8 : Value) (w : World) : Prop :=
  valP Try.prog (binS BinOp.gtr 3 (Operand.tmp 27) (Operand.const (Value.int IntKind.i64 0)) n8 (Value.int IntKind.i64 0)) w fun t28 w =>
  m20_9 R parts0 s7 n8 t28 w
def m20_5 (R : Value → World → Prop) (parts0 : Value) (l6 : Value) (s7 : Value) (w : World) : Prop :=
  builtinP Try.prog Builtin.len #[22] 3 #[false] #[l6] w fun t26 w =>
  m20_8 R parts0 s7 t26 w
def m20_4 (R : Value → World → Prop) (parts0 : Value) (l6 : Value) (w : World) : Prop :=
  valP Try.prog (Instr.makeMap 43 none) w fun t22 w =>
  valP Try.prog (Instr.build 45 #[(0, l6), (1, t22)]) w fun t23 w =>
  valP Try.prog (Instr.box 45 t23) w fun t24 w =>
  m20_5 R parts0 l6 t24 w
def m20_10 (R : Value → World → Prop) (parts0 : Value) (l6 : Value) (t20 : Value) (w : World) : Prop :=
  condP t20
  (m20_11 R (Value.pointer none) (Value.bool false) w)
  (m20_4 R parts0 l6 w)
def m20_3 (R : Value → World → Prop) (parts0 : Value) (l6 : Value) (w : World) : Prop :=
  valP Try.prog (binS BinOp.lss 3 (Operand.tmp 15) (Operand.const (Value.int IntKind.i64 1)) parts0 (Value.int IntKind.i64 1)) w fun t16 w =>
  condP t16
  (pickP t16 (Value.bool true) undef fun t20 =>
  m20_10 R parts0 l6 t20 w)
  (valP Try.prog (binS BinOp.gtr 3 (Operand.tmp 18) (Operand.const (Value.int IntKind.i64 64)) parts0 (Value.int IntKind.i64 64)) w fun t19 w =>
  pickP t16 (Value.bool true) t19 fun t20 =>
  m20_10 R parts0 l6 t20 w)
def m20_2 (R : Value → World → Prop) (parts0 : Value) (l6 : Value) (w : World) : Prop :=
  callP Try.prog (fnV 29) #[l6] w fun t14 w =>
  m20_3 R parts0 t14 w
def m20_1 (R : Value → World → Prop) (parts0 : Value) (members1 : Value) (w : World) : Prop :=
  callP Try.prog (fnV 27) #[members1] w fun t10 w =>
  callP Try.prog (fnV 26) #[t10] w fun t11 w =>
  callP Try.prog (fnV 25) #[t11, (fnV 28)] w fun t12 w =>
  m20_2 R parts0 t12 w
def m20_0 (R : Value → World → Prop) (parts0 : Value) (members1 : Value) (w : World) : Prop :=
  m20_1 R parts0 members1 w
abbrev W20 := cwp Try.prog (fun i => 0)
noncomputable def k20_0 : Code := (bodyOf Try.f20)
noncomputable def k20_1 : Code := (c2 k20_0)
noncomputable def k20_2 : Code := (c2 k20_1)
noncomputable def k20_3 : Code := (c2 k20_2)
noncomputable def k20_4 : Code := (c2 k20_3)
noncomputable def k20_5 : Code := (c2 k20_4)
noncomputable def k20_6 : Code := (c2 k20_5)
noncomputable def k20_7 : Code := (c2 k20_6)
noncomputable def k20_8 : Code := (c2 (c1 k20_5))
noncomputable def k20_9 : Code := (c2 k20_8)
noncomputable def k20_10 : Code := (c2 (c1 k20_3))
noncomputable def k20_11 : Code := (c2 (c1 k20_10))
theorem s20_11 {R : Value → World → Prop} {Q : Exit → Env → World → Prop} (hR : ∀ e w, (R (Value.tuple #[(e 4), (e 5)]) w) → Q .ret e w) (e : Env) (w : World) (h : m20_11 R (e 4) (e 5) w) : W20 k20_11 Q e w := by
  unfold m20_11 at h
  exact ret_ok (by kernel_rfl) (hR _ _ h)
theorem s20_7 {R : Value → World → Prop} {Q : Exit → Env → World → Prop} (hR : ∀ e w, (R (Value.tuple #[(e 4), (e 5)]) w) → Q .ret e w) (e : Env) (w : World) (h : m20_7 R (e 4) (e 5) w) : W20 k20_7 Q e w := by
  unfold m20_7 at h
  exact ret_ok (by kernel_rfl) (hR _ _ h)
theorem s20_6 {R : Value → World → Prop} {Q : Exit → Env → World → Prop} (hR : ∀ e w, (R (Value.tuple #[(e 4), (e 5)]) w) → Q .ret e w) (e : Env) (w : World) (h : m20_6 R (e 7) w) : W20 k20_6 Q e w := by
  unfold m20_6 at h
  refine seq_ok' (by kernel_rfl) ?_
  have hN' : ∀ e w, (m20_7 R (e 4) (e 5) w) → (thenE (W20 k20_7 Q) Q) .normal e w := fun e w h => then_N (s20_7 (R := R) (Q := Q) hR e w h)
  have hN := hN'
  exact region_ok 9 (fun e w => m20_7 R (e 4) (e 5) w) (by kernel_rfl) (kcast (by kernel_rfl) h) hN (by kernel_rfl)
theorem s20_9 {R : Value → World → Prop} {Q : Exit → Env → World → Prop} (hN : ∀ e w, (m20_6 R (e 7) w) → Q .normal e w) (e : Env) (w : World) (h : m20_9 R (e 0) (e 7) (e 8) (e 28) w) : W20 k20_9 Q e w := by
  unfold m20_9 at h
  refine cond_ok (Operand.tmp 28) (by kernel_rfl) h (fun h1 => ?_) (fun h1 => ?_)
  · exact tree_ok 8 14 [false, false, false, false, false, false, false, false, false, false, false, false, false, false] (.take 0 [true, false, false, false, false, false, false, false, false, false, false, false, false, false] (.take 1 [true, true, false, false, false, false, false, false, false, false, false, false, false, false] (.take 2 [true, true, true, false, false, false, false, false, false, false, false, false, false, false] (.take 3 [true, true, true, true, false, false, false, false, false, false, false, false, false, false] (.take 4 [true, true, true, true, true, false, false, false, false, false, false, false, false, false] (.take 5 [true, true, true, true, true, true, false, false, false, false, false, false, false, false] (.take 6 [true, true, true, true, true, true, true, false, false, false, false, false, false, false] (.take 7 [true, true, true, true, true, true, true, true, false, false, false, false, false, false] (.take 8 [true, true, true, true, true, true, true, true, true, false, false, false, false, false] (.take 9 [true, true, true, true, true, true, true, true, true, true, false, false, false, false] (.alt 10 [true, true, true, true, true, true, true, true, true, true, true, false, false, false] (.take 11 [true, true, true, true, true, true, true, true, true, true, true, true, false, false] (.take 12 [true, true, true, true, true, true, true, true, true, true, true, true, true, false] (.alt 13 [true, true, true, true, true, true, true, true, true, true, true, true, true, true] .done .stop))) .stop))))))))))) (fun e w => m20_6 R (e 7) w) (by kernel_rfl) (by kernel_rfl) (by kernel_rfl) (by kernel_rfl) (by kernel_rfl) (by kernel_rfl) (kcast (by kernel_rfl) h1) hN (by kernel_rfl)
  · exact skip_ok (by kernel_rfl) (hN _ _ h1)
theorem s20_8 {R : Value → World → Prop} {Q : Exit → Env → World → Prop} (hN : ∀ e w, (m20_6 R (e 7) w) → Q .normal e w) (e : Env) (w : World) (h : m20_8 R (e 0) (e 7) (e 8) w) : W20 k20_8 Q e w := by
  unfold m20_8 at h
  refine seq_ok' (by kernel_rfl) ?_
  have hN' : ∀ e w, (m20_9 R (e 0) (e 7) (e 8) (e 28) w) → (thenE (W20 k20_9 Q) Q) .normal e w := fun e w h => then_N (s20_9 (R := R) (Q := Q) hN e w h)
  have hN := hN'
  exact region_ok 7 (fun e w => m20_9 R (e 0) (e 7) (e 8) (e 28) w) (by kernel_rfl) (kcast (by kernel_rfl) h) hN (by kernel_rfl)
theorem s20_5 {R : Value → World → Prop} {Q : Exit → Env → World → Prop} (hR : ∀ e w, (R (Value.tuple #[(e 4), (e 5)]) w) → Q .ret e w) (e : Env) (w : World) (h : m20_5 R (e 0) (e 6) (e 7) w) : W20 k20_5 Q e w := by
  unfold m20_5 at h
  refine seq_ok' (by kernel_rfl) ?_
  have hN' : ∀ e w, (m20_6 R (e 7) w) → (thenE (W20 k20_6 Q) Q) .normal e w := fun e w h => then_N (s20_6 (R := R) (Q := Q) hR e w h)
  have hN := hN'
  refine seq_ok' (by kernel_rfl) ?_
  have hN' : ∀ e w, (m20_8 R (e 0) (e 7) (e 8) w) → (thenE (W20 k20_8 (thenE (W20 k20_6 Q) Q)) (thenE (W20 k20_6 Q) Q)) .normal e w := fun e w h => then_N (s20_8 (R := R) (Q := (thenE (W20 k20_6 Q) Q)) hN e w h)
  have hN := hN'
  exact region_ok 6 (fun e w => m20_8 R (e 0) (e 7) (e 8) w) (by kernel_rfl) (kcast (by kernel_rfl) h) hN (by kernel_rfl)
theorem s20_4 {R : Value → World → Prop} {Q : Exit → Env → World → Prop} (hR : ∀ e w, (R (Value.tuple #[(e 4), (e 5)]) w) → Q .ret e w) (e : Env) (w : World) (h : m20_4 R (e 0) (e 6) w) : W20 k20_4 Q e w := by
  unfold m20_4 at h
  refine seq_ok' (by kernel_rfl) ?_
  have hN' : ∀ e w, (m20_5 R (e 0) (e 6) (e 7) w) → (thenE (W20 k20_5 Q) Q) .normal e w := fun e w h => then_N (s20_5 (R := R) (Q := Q) hR e w h)
  have hN := hN'
  exact region_ok 5 (fun e w => m20_5 R (e 0) (e 6) (e 7) w) (by kernel_rfl) (kcast (by kernel_rfl) h) hN (by kernel_rfl)
theorem s20_10 {R : Value → World → Prop} {Q : Exit → Env → World → Prop} (hN : ∀ e w, (m20_4 R (e 0) (e 6) w) → Q .normal e w) (hR : ∀ e w, (R (Value.tuple #[(e 4), (e 5)]) w) → Q .ret e w) (e : Env) (w : World) (h : m20_10 R (e 0) (e 6) (e 20) w) : W20 k20_10 Q e w := by
  unfold m20_10 at h
  refine cond_ok (Operand.tmp 20) (by kernel_rfl) h (fun h1 => ?_) (fun h1 => ?_)
  · refine seq_ok' (by kernel_rfl) ?_
    have hN' : ∀ e w, (m20_11 R (e 4) (e 5) w) → (thenE (W20 k20_11 Q) Q) .normal e w := fun e w h => then_N (s20_11 (R := R) (Q := Q) hR e w h)
    have hN := hN'
    exact region_ok 4 (fun e w => m20_11 R (e 4) (e 5) w) (by kernel_rfl) (kcast (by kernel_rfl) h1) hN (by kernel_rfl)
  · exact skip_ok (by kernel_rfl) (hN _ _ h1)
theorem s20_3 {R : Value → World → Prop} {Q : Exit → Env → World → Prop} (hR : ∀ e w, (R (Value.tuple #[(e 4), (e 5)]) w) → Q .ret e w) (e : Env) (w : World) (h : m20_3 R (e 0) (e 6) w) : W20 k20_3 Q e w := by
  unfold m20_3 at h
  refine seq_ok' (by kernel_rfl) ?_
  have hN' : ∀ e w, (m20_4 R (e 0) (e 6) w) → (thenE (W20 k20_4 Q) Q) .normal e w := fun e w h => then_N (s20_4 (R := R) (Q := Q) hR e w h)
  have hR : ∀ e w, (R (Value.tuple #[(e 4), (e 5)]) w) → (thenE (W20 k20_4 Q) Q) .ret e w := fun e w h => then_R (hR e w h)
  have hN := hN'
  refine seq_ok' (by kernel_rfl) ?_
  have hN' : ∀ e w, (m20_10 R (e 0) (e 6) (e 20) w) → (thenE (W20 k20_10 (thenE (W20 k20_4 Q) Q)) (thenE (W20 k20_4 Q) Q)) .normal e w := fun e w h => then_N (s20_10 (R := R) (Q := (thenE (W20 k20_4 Q) Q)) hN hR e w h)
  have hN := hN'
  exact region_ok 3 (fun e w => m20_10 R (e 0) (e 6) (e 20) w) (by kernel_rfl) (kcast (by kernel_rfl) h) hN (by kernel_rfl)
theorem s20_2 {R : Value → World → Prop} {Q : Exit → Env → World → Prop} (hR : ∀ e w, (R (Value.tuple #[(e 4), (e 5)]) w) → Q .ret e w) (e : Env) (w : World) (h : m20_2 R (e 0) (e 6) w) : W20 k20_2 Q e w := by
  unfold m20_2 at h
  refine seq_ok' (by kernel_rfl) ?_
  have hN' : ∀ e w, (m20_3 R (e 0) (e 6) w) → (thenE (W20 k20_3 Q) Q) .normal e w := fun e w h => then_N (s20_3 (R := R) (Q := Q) hR e w h)
  have hN := hN'
  exact region_ok 2 (fun e w => m20_3 R (e 0) (e 6) w) (by kernel_rfl) (kcast (by kernel_rfl) h) hN (by kernel_rfl)
theorem s20_1 {R : Value → World → Prop} {Q : Exit → Env → World → Prop} (hR : ∀ e w, (R (Value.tuple #[(e 4), (e 5)]) w) → Q .ret e w) (e : Env) (w : World) (h : m20_1 R (e 0) (e 1) w) : W20 k20_1 Q e w := by
  unfold m20_1 at h
  refine seq_ok' (by kernel_rfl) ?_
  have hN' : ∀ e w, (m20_2 R (e 0) (e 6) w) → (thenE (W20 k20_2 Q) Q) .normal e w := fun e w h => then_N (s20_2 (R := R) (Q := Q) hR e w h)
  have hN := hN'
  exact region_ok 1 (fun e w => m20_2 R (e 0) (e 6) w) (by kernel_rfl) (kcast (by kernel_rfl) h) hN (by kernel_rfl)
theorem s20_0 {R : Value → World → Prop} {Q : Exit → Env → World → Prop} (hR : ∀ e w, (R (Value.tuple #[(e 4), (e 5)]) w) → Q .ret e w) (e : Env) (w : World) (h : m20_0 R (e 0) (e 1) w) : W20 k20_0 Q e w := by
  unfold m20_0 at h
  refine seq_ok' (by kernel_rfl) ?_
  have hN' : ∀ e w, (m20_1 R (e 0) (e 1) w) → (thenE (W20 k20_1 Q) Q) .normal e w := fun e w h => then_N (s20_1 (R := R) (Q := Q) hR e w h)
  have hN := hN'
  exact region_ok 0 (fun e w => m20_1 R (e 0) (e 1) w) (by kernel_rfl) (kcast (by kernel_rfl) h) hN (by kernel_rfl)
abbrev m20 (R : Value → World → Prop) (parts0 : Value) (members1 : Value) (w : World) : Prop := m20_0 R parts0 members1 w
theorem s20 (parts0 : Value) (members1 : Value) {R : Value → World → Prop} {w : World} (h : m20 R parts0 members1 w) :
    Calls Try.prog 20 #[parts0, members1] w fun e w' => ∃ v, e = .returned v ∧ R v w' :=
  calls_of_cwp (st := (fun i => 0)) (c := k20_0) (by kernel_rfl) Try.func20 (by kernel_rfl) (Nat.le_of_ble_eq_true (by kernel_rfl)) (by kernel_rfl)
    (s20_0 (R := R) (Q := endE Try.prog Try.f20 R) (fun e w h => kcast (by kernel_rfl) h) (argsE #[parts0, members1]) w (kcast (by kernel_rfl) h))
/-! ### headgate/assign.share$1 -/
def m28_2 (R : Value → World → Prop) (t2 : Value) (w : World) : Prop :=
  R t2 w
def m28_1 (R : Value → World → Prop) (m0 : Value) (w : World) : Prop :=
  valP Try.prog (binS BinOp.leq 3 (Operand.tmp 3) (Operand.const (Value.int IntKind.i64 0)) m0 (Value.int IntKind.i64 0)) w fun t4 w =>
  m28_2 R t4 w
def m28_0 (R : Value → World → Prop) (m0 : Value) (w : World) : Prop :=
  m28_1 R m0 w
abbrev W28 := cwp Try.prog (fun i => 0)
noncomputable def k28_0 : Code := (bodyOf Try.f28)
noncomputable def k28_1 : Code := (c2 k28_0)
noncomputable def k28_2 : Code := (c2 k28_1)
theorem s28_2 {R : Value → World → Prop} {Q : Exit → Env → World → Prop} (hR : ∀ e w, (R (e 2) w) → Q .ret e w) (e : Env) (w : World) (h : m28_2 R (e 2) w) : W28 k28_2 Q e w := by
  unfold m28_2 at h
  exact ret_ok (by kernel_rfl) (hR _ _ h)
theorem s28_1 {R : Value → World → Prop} {Q : Exit → Env → World → Prop} (hR : ∀ e w, (R (e 2) w) → Q .ret e w) (e : Env) (w : World) (h : m28_1 R (e 0) w) : W28 k28_1 Q e w := by
  unfold m28_1 at h
  refine seq_ok' (by kernel_rfl) ?_
  have hN' : ∀ e w, (m28_2 R (e 2) w) → (thenE (W28 k28_2 Q) Q) .normal e w := fun e w h => then_N (s28_2 (R := R) (Q := Q) hR e w h)
  have hN := hN'
  exact region_ok 1 (fun e w => m28_2 R (e 2) w) (by kernel_rfl) (kcast (by kernel_rfl) h) hN (by kernel_rfl)
theorem s28_0 {R : Value → World → Prop} {Q : Exit → Env → World → Prop} (hR : ∀ e w, (R (e 2) w) → Q .ret e w) (e : Env) (w : World) (h : m28_0 R (e 0) w) : W28 k28_0 Q e w := by
  unfold m28_0 at h
  refine seq_ok' (by kernel_rfl) ?_
  have hN' : ∀ e w, (m28_1 R (e 0) w) → (thenE (W28 k28_1 Q) Q) .normal e w := fun e w h => then_N (s28_1 (R := R) (Q := Q) hR e w h)
  have hN := hN'
  exact region_ok 0 (fun e w => m28_1 R (e 0) w) (by kernel_rfl) (kcast (by kernel_rfl) h) hN (by kernel_rfl)
abbrev m28 (R : Value → World → Prop) (m0 : Value) (w : World) : Prop := m28_0 R m0 w
theorem s28 (m0 : Value) {R : Value → World → Prop} {w : World} (h : m28 R m0 w) :
    Calls Try.prog 28 #[m0] w fun e w' => ∃ v, e = .returned v ∧ R v w' :=
  calls_of_cwp (st := (fun i => 0)) (c := k28_0) (by kernel_rfl) Try.func28 (by kernel_rfl) (Nat.le_of_ble_eq_true (by kernel_rfl)) (by kernel_rfl)
    (s28_0 (R := R) (Q := endE Try.prog Try.f28 R) (fun e w h => kcast (by kernel_rfl) h) (argsE #[m0]) w (kcast (by kernel_rfl) h))
/-! ### slices.Compact[[]int,int] -/
def m29_23 (R : Value → World → Prop) (t2 : Value) (w : World) : Prop :=
  R t2 w
def m29_17 (R : Value → World → Prop) (K1 : Value → World → Prop) (K2 : (Value × Value) → World → Prop) (s0 : Value) (k3 : Value) (s24 : Value) (k25 : Value) (w : World) : Prop :=
  valP Try.prog (binS BinOp.add 3 (Operand.tmp 33) (Operand.const (Value.int IntKind.i64 1)) k25 (Value.int IntKind.i64 1)) w fun t34 w =>
  K2 (k3, t34) w
def m29_19 (R : Value → World → Prop) (K1 : Value → World → Prop) (K2 : (Value × Value) → World → Prop) (s0 : Value) (k3 : Value) (s24 : Value) (k25 : Value) (w : World) : Prop :=
  valP Try.prog (binS BinOp.add 3 (Operand.tmp 52) (Operand.const (Value.int IntKind.i64 1)) k3 (Value.int IntKind.i64 1)) w fun t53 w =>
  m29_17 R K1 K2 s0 t53 s24 k25 w
def m29_18 (R : Value → World → Prop) (K1 : Value → World → Prop) (K2 : (Value × Value) → World → Prop) (s0 : Value) (k3 : Value) (s24 : Value) (k25 : Value) (t44 : Value) (w : World) : Prop :=
  condP t44
  (valP Try.prog (Instr.indexAt 22 s24 k25) w fun t49 w =>
  valP Try.prog (Instr.loadAt 3 t49) w fun t50 w =>
  valP Try.prog (Instr.indexAt 22 s0 k3) w fun t51 w =>
  unitP Try.prog (Instr.storeAt 3 t51 t50) w fun _ w =>
  m29_19 R K1 K2 s0 k3 s24 k25 w)
  (m29_17 R K1 K2 s0 k3 s24 k25 w)
def m29_16 (R : Value → World → Prop) (K1 : Value → World → Prop) (K2 : (Value × Value) → World → Prop) (s0 : Value) (k3 : Value) (s24 : Value) (k25 : Value) (w : World) : Prop :=
  valQ Try.prog (Instr.indexAt 22 s24 k25) w fun t37 =>
  valQ Try.prog (Instr.loadAt 3 t37) w fun t38 =>
  valQ Try.prog (binS BinOp.sub 3 (Operand.tmp 40) (Operand.const (Value.int IntKind.i64 1)) k25 (Value.int IntKind.i64 1)) w fun t41 =>
  valQ Try.prog (Instr.indexAt 22 s24 t41) w fun t42 =>
  valQ Try.prog (Instr.loadAt 3 t42) w fun t43 =>
  valQ Try.prog (binS BinOp.neq 3 (Operand.tmp 38) (Operand.tmp 43) t38 t43) w fun t44 =>
  anyDraw w fun w =>
  m29_18 R K1 K2 s0 k3 s24 k25 t44 w
def m29_13 (R : Value → World → Prop) (K1 : Value → World → Prop) (t2 : Value) (w : World) : Prop :=
  R t2 w
def m29_12 (R : Value → World → Prop) (K1 : Value → World → Prop) (s0 : Value) (k3 : Value) (w : World) : Prop :=
  valP Try.prog (Instr.sliceAt 22 s0 none (some k3) none) w fun t59 w =>
  m29_13 R K1 t59 w
def m29_11 (R : Value → World → Prop) (K1 : Value → World → Prop) (s0 : Value) (k3 : Value) (w : World) : Prop :=
  valP Try.prog (Instr.sliceAt 22 s0 (some k3) none none) w fun t56 w =>
  builtinP Try.prog Builtin.clear #[22] 0 #[false] #[t56] w fun _ w =>
  m29_12 R K1 s0 k3 w
def m29_20 (R : Value → World → Prop) (K1 : Value → World → Prop) (K2 : (Value × Value) → World → Prop) (s0 : Value) (k3 : Value) (s24 : Value) (k25 : Value) (t32 : Value) (w : World) : Prop :=
  condP t32
  (m29_16 R K1 K2 s0 k3 s24 k25 w)
  (m29_11 R K1 s0 k3 w)
def m29_15 (R : Value → World → Prop) (K1 : Value → World → Prop) (K2 : (Value × Value) → World → Prop) (s0 : Value) (k3 : Value) (s24 : Value) (k25 : Value) (w : World) : Prop :=
  builtinP Try.prog Builtin.len #[22] 3 #[false] #[s24] w fun t31 w =>
  valP Try.prog (binS BinOp.lss 3 (Operand.tmp 29) (Operand.tmp 31) k25 t31) w fun t32 w =>
  m29_20 R K1 K2 s0 k3 s24 k25 t32 w
def m29_14 (R : Value → World → Prop) (K1 : Value → World → Prop) (s0 : Value) (k3 : Value) (s24 : Value) (k25 : Value) (w : World) : Prop :=
  loopP (fun (K2 : (Value × Value) → World → Prop) (s : Value × Value) w => m29_15 R K1 K2 s0 s.1 s24 s.2 w) (k3, k25) w
def m29_10 (R : Value → World → Prop) (K1 : Value → World → Prop) (s0 : Value) (k3 : Value) (s24 : Value) (w : World) : Prop :=
  m29_14 R K1 s0 k3 s24 (Value.int IntKind.i64 1) w
def m29_8 (R : Value → World → Prop) (K1 : Value → World → Prop) (s0 : Value) (k3 : Value) (w : World) : Prop :=
  valP Try.prog (binS BinOp.add 3 (Operand.tmp 14) (Operand.const (Value.int IntKind.i64 1)) k3 (Value.int IntKind.i64 1)) w fun t15 w =>
  K1 t15 w
def m29_9 (R : Value → World → Prop) (K1 : Value → World → Prop) (s0 : Value) (k3 : Value) (t25 : Value) (w : World) : Prop :=
  condP t25
  (valP Try.prog (Instr.sliceAt 22 s0 (some k3) none none) w fun t28 w =>
  m29_10 R K1 s0 k3 t28 w)
  (m29_8 R K1 s0 k3 w)
def m29_7 (R : Value → World → Prop) (K1 : Value → World → Prop) (s0 : Value) (k3 : Value) (w : World) : Prop :=
  valQ Try.prog (Instr.indexAt 22 s0 k3) w fun t18 =>
  valQ Try.prog (Instr.loadAt 3 t18) w fun t19 =>
  valQ Try.prog (binS BinOp.sub 3 (Operand.tmp 21) (Operand.const (Value.int IntKind.i64 1)) k3 (Value.int IntKind.i64 1)) w fun t22 =>
  valQ Try.prog (Instr.indexAt 22 s0 t22) w fun t23 =>
  valQ Try.prog (Instr.loadAt 3 t23) w fun t24 =>
  valQ Try.prog (binS BinOp.eql 3 (Operand.tmp 19) (Operand.tmp 24) t19 t24) w fun t25 =>
  anyDraw w fun w =>
  m29_9 R K1 s0 k3 t25 w
def m29_4 (R : Value → World → Prop) (t2 : Value) (w : World) : Prop :=
  R t2 w
def m29_3 (R : Value → World → Prop) (s0 : Value) (w : World) : Prop :=
  m29_4 R s0 w
def m29_21 (R : Value → World → Prop) (K1 : Value → World → Prop) (s0 : Value) (k3 : Value) (t13 : Value) (w : World) : Prop :=
  condP t13
  (m29_7 R K1 s0 k3 w)
  (m29_3 R s0 w)
def m29_6 (R : Value → World → Prop) (K1 : Value → World → Prop) (s0 : Value) (k3 : Value) (w : World) : Prop :=
  builtinP Try.prog Builtin.len #[22] 3 #[false] #[s0] w fun t12 w =>
  valP Try.prog (binS BinOp.lss 3 (Operand.tmp 10) (Operand.tmp 12) k3 t12) w fun t13 w =>
  m29_21 R K1 s0 k3 t13 w
def m29_5 (R : Value → World → Prop) (s0 : Value) (k3 : Value) (w : World) : Prop :=
  loopP (fun (K1 : Value → World → Prop) (s : Value) w => m29_6 R K1 s0 s w) k3 w
def m29_2 (R : Value → World → Prop) (s0 : Value) (w : World) : Prop :=
  m29_5 R s0 (Value.int IntKind.i64 1) w
def m29_22 (R : Value → World → Prop) (s0 : Value) (t8 : Value) (w : World) : Prop :=
  condP t8
  (m29_23 R s0 w)
  (m29_2 R s0 w)
def m29_1 (R : Value → World → Prop) (s0 : Value) (w : World) : Prop :=
  builtinP Try.prog Builtin.len #[22] 3 #[false] #[s0] w fun t7 w =>
  valP Try.prog (binS BinOp.lss 3 (Operand.tmp 7) (Operand.const (Value.int IntKind.i64 2)) t7 (Value.int IntKind.i64 2)) w fun t8 w =>
  m29_22 R s0 t8 w
def m29_0 (R : Value → World → Prop) (s0 : Value) (w : World) : Prop :=
  m29_1 R s0 w
abbrev W29 := cwp Try.prog (fun i => cond (Nat.beq i 11) 1 (cond (Nat.beq i 6) 1 (0)))
noncomputable def k29_0 : Code := (bodyOf Try.f29)
noncomputable def k29_1 : Code := (c2 k29_0)
noncomputable def k29_2 : Code := (c2 k29_1)
noncomputable def k29_3 : Code := (c2 k29_2)
noncomputable def k29_4 : Code := (c2 k29_3)
noncomputable def k29_5 : Code := (c2 (c1 k29_2))
noncomputable def k29_6 : Code := (c1 (c1 k29_5))
noncomputable def k29_7 : Code := (c2 k29_6)
noncomputable def k29_8 : Code := (c2 k29_7)
noncomputable def k29_9 : Code := (c2 (c1 (c1 k29_7)))
noncomputable def k29_10 : Code := (c2 (c1 k29_9))
noncomputable def k29_11 : Code := (c2 k29_10)
noncomputable def k29_12 : Code := (c2 k29_11)
noncomputable def k29_13 : Code := (c2 k29_12)
noncomputable def k29_14 : Code := (c2 (c1 k29_10))
noncomputable def k29_15 : Code := (c1 (c1 k29_14))
noncomputable def k29_16 : Code := (c2 k29_15)
noncomputable def k29_17 : Code := (c2 k29_16)
noncomputable def k29_18 : Code := (c2 (c1 (c1 k29_16)))
noncomputable def k29_19 : Code := (c2 (c1 k29_18))
noncomputable def k29_20 : Code := (c2 (c1 k29_15))
noncomputable def k29_21 : Code := (c2 (c1 k29_6))
noncomputable def k29_22 : Code := (c2 (c1 k29_1))
noncomputable def k29_23 : Code := (c2 (c1 k29_22))
theorem s29_23 {R : Value → World → Prop} {Q : Exit → Env → World → Prop} (hR : ∀ e w, (R (e 2) w) → Q .ret e w) (e : Env) (w : World) (h : m29_23 R (e 2) w) : W29 k29_23 Q e w := by
  unfold m29_23 at h
  exact ret_ok (by kernel_rfl) (hR _ _ h)
theorem s29_17 {R : Value → World → Prop} {K1 : Value → World → Prop} {K2 : (Value × Value) → World → Prop} {Q : Exit → Env → World → Prop} (hN : ∀ e w, (K2 ((e 3), (e 5)) w) → Q .normal e w) (e : Env) (w : World) (h : m29_17 R K1 K2 (e 0) (e 3) (e 4) (e 5) w) : W29 k29_17 Q e w := by
  unfold m29_17 at h
  exact region_ok 10 (fun e w => K2 ((e 3), (e 5)) w) (by kernel_rfl) (kcast (by kernel_rfl) h) hN (by kernel_rfl)
theorem s29_19 {R : Value → World → Prop} {K1 : Value → World → Prop} {K2 : (Value × Value) → World → Prop} {Q : Exit → Env → World → Prop} (hN : ∀ e w, (m29_17 R K1 K2 (e 0) (e 3) (e 4) (e 5) w) → Q .normal e w) (e : Env) (w : World) (h : m29_19 R K1 K2 (e 0) (e 3) (e 4) (e 5) w) : W29 k29_19 Q e w := by
  unfold m29_19 at h
  exact region_ok 13 (fun e w => m29_17 R K1 K2 (e 0) (e 3) (e 4) (e 5) w) (by kernel_rfl) (kcast (by kernel_rfl) h) hN (by kernel_rfl)
theorem s29_18 {R : Value → World → Prop} {K1 : Value → World → Prop} {K2 : (Value × Value) → World → Prop} {Q : Exit → Env → World → Prop} (hN : ∀ e w, (m29_17 R K1 K2 (e 0) (e 3) (e 4) (e 5) w) → Q .normal e w) (e : Env) (w : World) (h : m29_18 R K1 K2 (e 0) (e 3) (e 4) (e 5) (e 44) w) : W29 k29_18 Q e w := by
  unfold m29_18 at h
  refine cond_ok (Operand.tmp 44) (by kernel_rfl) h (fun h1 => ?_) (fun h1 => ?_)
  · refine seq_ok' (by kernel_rfl) ?_
    have hN' : ∀ e w, (m29_19 R K1 K2 (e 0) (e 3) (e 4) (e 5) w) → (thenE (W29 k29_19 Q) Q) .normal e w := fun e w h => then_N (s29_19 (R := R) (Q := Q) (K1 := K1) (K2 := K2) hN e w h)
    have hN := hN'
    exact region_ok 12 (fun e w => m29_19 R K1 K2 (e 0) (e 3) (e 4) (e 5) w) (by kernel_rfl) (kcast (by kernel_rfl) h1) hN (by kernel_rfl)
  · exact skip_ok (by kernel_rfl) (hN _ _ h1)
theorem s29_16 {R : Value → World → Prop} {K1 : Value → World → Prop} {K2 : (Value × Value) → World → Prop} {Q : Exit → Env → World → Prop} (hN : ∀ e w, (K2 ((e 3), (e 5)) w) → Q .normal e w) (e : Env) (w : World) (h : m29_16 R K1 K2 (e 0) (e 3) (e 4) (e 5) w) : W29 k29_16 Q e w := by
  unfold m29_16 at h
  refine seq_ok' (by kernel_rfl) ?_
  have hN' : ∀ e w, (m29_17 R K1 K2 (e 0) (e 3) (e 4) (e 5) w) → (thenE (W29 k29_17 Q) Q) .normal e w := fun e w h => then_N (s29_17 (R := R) (Q := Q) (K1 := K1) (K2 := K2) hN e w h)
  have hN := hN'
  refine block_ok 3 (by kernel_rfl) ?_
  have hN : ∀ e w, (m29_17 R K1 K2 (e 0) (e 3) (e 4) (e 5) w) → (inBlockE 3 (thenE (W29 k29_17 Q) Q)) .normal e w := fun e w h => block_N (hN e w h)
  refine seq_ok' (by kernel_rfl) ?_
  have hN' : ∀ e w, (m29_18 R K1 K2 (e 0) (e 3) (e 4) (e 5) (e 44) w) → (thenE (W29 k29_18 (inBlockE 3 (thenE (W29 k29_17 Q) Q))) (inBlockE 3 (thenE (W29 k29_17 Q) Q))) .normal e w := fun e w h => then_N (s29_18 (R := R) (Q := (inBlockE 3 (thenE (W29 k29_17 Q) Q))) (K1 := K1) (K2 := K2) hN e w h)
  have hN := hN'
  exact quiet_ok 11 (fun e w => m29_18 R K1 K2 (e 0) (e 3) (e 4) (e 5) (e 44) w) (by kernel_rfl) (by kernel_rfl) (by kernel_rfl) (kcast (by kernel_rfl) h) hN (by kernel_rfl)
theorem s29_13 {R : Value → World → Prop} {K1 : Value → World → Prop} {Q : Exit → Env → World → Prop} (hR : ∀ e w, (R (e 2) w) → Q .ret e w) (e : Env) (w : World) (h : m29_13 R K1 (e 2) w) : W29 k29_13 Q e w := by
  unfold m29_13 at h
  exact ret_ok (by kernel_rfl) (hR _ _ h)
theorem s29_12 {R : Value → World → Prop} {K1 : Value → World → Prop} {Q : Exit → Env → World → Prop} (hR : ∀ e w, (R (e 2) w) → Q .ret e w) (e : Env) (w : World) (h : m29_12 R K1 (e 0) (e 3) w) : W29 k29_12 Q e w := by
  unfold m29_12 at h
  refine seq_ok' (by kernel_rfl) ?_
  have hN' : ∀ e w, (m29_13 R K1 (e 2) w) → (thenE (W29 k29_13 Q) Q) .normal e w := fun e w h => then_N (s29_13 (R := R) (Q := Q) (K1 := K1) hR e w h)
  have hN := hN'
  exact region_ok 15 (fun e w => m29_13 R K1 (e 2) w) (by kernel_rfl) (kcast (by kernel_rfl) h) hN (by kernel_rfl)
theorem s29_11 {R : Value → World → Prop} {K1 : Value → World → Prop} {Q : Exit → Env → World → Prop} (hR : ∀ e w, (R (e 2) w) → Q .ret e w) (e : Env) (w : World) (h : m29_11 R K1 (e 0) (e 3) w) : W29 k29_11 Q e w := by
  unfold m29_11 at h
  refine seq_ok' (by kernel_rfl) ?_
  have hN' : ∀ e w, (m29_12 R K1 (e 0) (e 3) w) → (thenE (W29 k29_12 Q) Q) .normal e w := fun e w h => then_N (s29_12 (R := R) (Q := Q) (K1 := K1) hR e w h)
  have hN := hN'
  exact region_ok 14 (fun e w => m29_12 R K1 (e 0) (e 3) w) (by kernel_rfl) (kcast (by kernel_rfl) h) hN (by kernel_rfl)
theorem s29_20 {R : Value → World → Prop} {K1 : Value → World → Prop} {K2 : (Value × Value) → World → Prop} {Q : Exit → Env → World → Prop} (hN : ∀ e w, (m29_16 R K1 K2 (e 0) (e 3) (e 4) (e 5) w) → Q .normal e w) (hX2 : ∀ e w, (m29_11 R K1 (e 0) (e 3) w) → Q (.exit 2) e w) (e : Env) (w : World) (h : m29_20 R K1 K2 (e 0) (e 3) (e 4) (e 5) (e 32) w) : W29 k29_20 Q e w := by
  unfold m29_20 at h
  refine cond_ok (Operand.tmp 32) (by kernel_rfl) h (fun h1 => ?_) (fun h1 => ?_)
  · exact skip_ok (by kernel_rfl) (hN _ _ h1)
  · exact exit_ok 2 (by kernel_rfl) (hX2 _ _ h1)
theorem s29_15 {R : Value → World → Prop} {K1 : Value → World → Prop} {K2 : (Value × Value) → World → Prop} {Q : Exit → Env → World → Prop} (hN : ∀ e w, (K2 ((e 3), (e 5)) w) → Q .normal e w) (hX2 : ∀ e w, (m29_11 R K1 (e 0) (e 3) w) → Q (.exit 2) e w) (e : Env) (w : World) (h : m29_15 R K1 K2 (e 0) (e 3) (e 4) (e 5) w) : W29 k29_15 Q e w := by
  unfold m29_15 at h
  refine seq_ok' (by kernel_rfl) ?_
  have hN' : ∀ e w, (m29_16 R K1 K2 (e 0) (e 3) (e 4) (e 5) w) → (thenE (W29 k29_16 Q) Q) .normal e w := fun e w h => then_N (s29_16 (R := R) (Q := Q) (K1 := K1) (K2 := K2) hN e w h)
  have hX2 : ∀ e w, (m29_11 R K1 (e 0) (e 3) w) → (thenE (W29 k29_16 Q) Q) (.exit 2) e w := fun e w h => then_X (hX2 e w h)
  have hN := hN'
  refine seq_ok' (by kernel_rfl) ?_
  have hN' : ∀ e w, (m29_20 R K1 K2 (e 0) (e 3) (e 4) (e 5) (e 32) w) → (thenE (W29 k29_20 (thenE (W29 k29_16 Q) Q)) (thenE (W29 k29_16 Q) Q)) .normal e w := fun e w h => then_N (s29_20 (R := R) (Q := (thenE (W29 k29_16 Q) Q)) (K1 := K1) (K2 := K2) hN hX2 e w h)
  have hN := hN'
  exact region_ok 9 (fun e w => m29_20 R K1 K2 (e 0) (e 3) (e 4) (e 5) (e 32) w) (by kernel_rfl) (kcast (by kernel_rfl) h) hN (by kernel_rfl)
theorem s29_14 {R : Value → World → Prop} {K1 : Value → World → Prop} {Q : Exit → Env → World → Prop} (hN : ∀ e w, (m29_11 R K1 (e 0) (e 3) w) → Q .normal e w) (e : Env) (w : World) (h : m29_14 R K1 (e 0) (e 3) (e 4) (e 5) w) : W29 k29_14 Q e w := by
  unfold m29_14 at h
  refine block_ok 2 (by kernel_rfl) ?_
  have hX2 : ∀ e w, (m29_11 R K1 (e 0) (e 3) w) → (inBlockE 2 Q) (.exit 2) e w := fun e w h => inBlock_same (Q := Q) 2 (hN e w h)
  refine loop_ok' (fun (e : Env) => (e 3, e 5)) [0, 4] (by kernel_rfl) (by kernel_rfl) h (fun K e' w' hk h' => ?_)
  have r0 : e' 0 = e 0 := hk 0 (by decide)
  have r4 : e' 4 = e 4 := hk 4 (by decide)
  have hX2 : ∀ e w, (m29_11 R K1 (e 0) (e 3) w) → (thenE (fun (e : Env) w => K ((e 3), (e 5)) w) (inBlockE 2 Q)) (.exit 2) e w := fun e w h => then_X (hX2 e w h)
  exact s29_15 (R := R) (Q := (thenE (fun (e : Env) w => K ((e 3), (e 5)) w) (inBlockE 2 Q))) (K1 := K1) (K2 := K) (fun _ _ h => then_N h) hX2 e' w' (by rw [r0, r4]; exact h')
theorem s29_10 {R : Value → World → Prop} {K1 : Value → World → Prop} {Q : Exit → Env → World → Prop} (hR : ∀ e w, (R (e 2) w) → Q .ret e w) (e : Env) (w : World) (h : m29_10 R K1 (e 0) (e 3) (e 4) w) : W29 k29_10 Q e w := by
  unfold m29_10 at h
  refine seq_ok' (by kernel_rfl) ?_
  have hN' : ∀ e w, (m29_11 R K1 (e 0) (e 3) w) → (thenE (W29 k29_11 Q) Q) .normal e w := fun e w h => then_N (s29_11 (R := R) (Q := Q) (K1 := K1) hR e w h)
  have hN := hN'
  refine seq_ok' (by kernel_rfl) ?_
  have hN' : ∀ e w, (m29_14 R K1 (e 0) (e 3) (e 4) (e 5) w) → (thenE (W29 k29_14 (thenE (W29 k29_11 Q) Q)) (thenE (W29 k29_11 Q) Q)) .normal e w := fun e w h => then_N (s29_14 (R := R) (Q := (thenE (W29 k29_11 Q) Q)) (K1 := K1) hN e w h)
  have hN := hN'
  exact region_ok 8 (fun e w => m29_14 R K1 (e 0) (e 3) (e 4) (e 5) w) (by kernel_rfl) (kcast (by kernel_rfl) h) hN (by kernel_rfl)
theorem s29_8 {R : Value → World → Prop} {K1 : Value → World → Prop} {Q : Exit → Env → World → Prop} (hN : ∀ e w, (K1 (e 3) w) → Q .normal e w) (e : Env) (w : World) (h : m29_8 R K1 (e 0) (e 3) w) : W29 k29_8 Q e w := by
  unfold m29_8 at h
  exact region_ok 5 (fun e w => K1 (e 3) w) (by kernel_rfl) (kcast (by kernel_rfl) h) hN (by kernel_rfl)
theorem s29_9 {R : Value → World → Prop} {K1 : Value → World → Prop} {Q : Exit → Env → World → Prop} (hN : ∀ e w, (m29_8 R K1 (e 0) (e 3) w) → Q .normal e w) (hR : ∀ e w, (R (e 2) w) → Q .ret e w) (e : Env) (w : World) (h : m29_9 R K1 (e 0) (e 3) (e 25) w) : W29 k29_9 Q e w := by
  unfold m29_9 at h
  refine cond_ok (Operand.tmp 25) (by kernel_rfl) h (fun h1 => ?_) (fun h1 => ?_)
  · refine seq_ok' (by kernel_rfl) ?_
    have hN' : ∀ e w, (m29_10 R K1 (e 0) (e 3) (e 4) w) → (thenE (W29 k29_10 Q) Q) .normal e w := fun e w h => then_N (s29_10 (R := R) (Q := Q) (K1 := K1) hR e w h)
    have hN := hN'
    exact region_ok 7 (fun e w => m29_10 R K1 (e 0) (e 3) (e 4) w) (by kernel_rfl) (kcast (by kernel_rfl) h1) hN (by kernel_rfl)
  · exact skip_ok (by kernel_rfl) (hN _ _ h1)
theorem s29_7 {R : Value → World → Prop} {K1 : Value → World → Prop} {Q : Exit → Env → World → Prop} (hN : ∀ e w, (K1 (e 3) w) → Q .normal e w) (hR : ∀ e w, (R (e 2) w) → Q .ret e w) (e : Env) (w : World) (h : m29_7 R K1 (e 0) (e 3) w) : W29 k29_7 Q e w := by
  unfold m29_7 at h
  refine seq_ok' (by kernel_rfl) ?_
  have hN' : ∀ e w, (m29_8 R K1 (e 0) (e 3) w) → (thenE (W29 k29_8 Q) Q) .normal e w := fun e w h => then_N (s29_8 (R := R) (Q := Q) (K1 := K1) hN e w h)
  have hR : ∀ e w, (R (e 2) w) → (thenE (W29 k29_8 Q) Q) .ret e w := fun e w h => then_R (hR e w h)
  have hN := hN'
  refine block_ok 1 (by kernel_rfl) ?_
  have hN : ∀ e w, (m29_8 R K1 (e 0) (e 3) w) → (inBlockE 1 (thenE (W29 k29_8 Q) Q)) .normal e w := fun e w h => block_N (hN e w h)
  have hR : ∀ e w, (R (e 2) w) → (inBlockE 1 (thenE (W29 k29_8 Q) Q)) .ret e w := fun e w h => block_R (hR e w h)
  refine seq_ok' (by kernel_rfl) ?_
  have hN' : ∀ e w, (m29_9 R K1 (e 0) (e 3) (e 25) w) → (thenE (W29 k29_9 (inBlockE 1 (thenE (W29 k29_8 Q) Q))) (inBlockE 1 (thenE (W29 k29_8 Q) Q))) .normal e w := fun e w h => then_N (s29_9 (R := R) (Q := (inBlockE 1 (thenE (W29 k29_8 Q) Q))) (K1 := K1) hN hR e w h)
  have hN := hN'
  exact quiet_ok 6 (fun e w => m29_9 R K1 (e 0) (e 3) (e 25) w) (by kernel_rfl) (by kernel_rfl) (by kernel_rfl) (kcast (by kernel_rfl) h) hN (by kernel_rfl)
theorem s29_4 {R : Value → World → Prop} {Q : Exit → Env → World → Prop} (hR : ∀ e w, (R (e 2) w) → Q .ret e w) (e : Env) (w : World) (h : m29_4 R (e 2) w) : W29 k29_4 Q e w := by
  unfold m29_4 at h
  exact ret_ok (by kernel_rfl) (hR _ _ h)
theorem s29_3 {R : Value → World → Prop} {Q : Exit → Env → World → Prop} (hR : ∀ e w, (R (e 2) w) → Q .ret e w) (e : Env) (w : World) (h : m29_3 R (e 0) w) : W29 k29_3 Q e w := by
  unfold m29_3 at h
  refine seq_ok' (by kernel_rfl) ?_
  have hN' : ∀ e w, (m29_4 R (e 2) w) → (thenE (W29 k29_4 Q) Q) .normal e w := fun e w h => then_N (s29_4 (R := R) (Q := Q) hR e w h)
  have hN := hN'
  exact region_ok 16 (fun e w => m29_4 R (e 2) w) (by kernel_rfl) (kcast (by kernel_rfl) h) hN (by kernel_rfl)
theorem s29_21 {R : Value → World → Prop} {K1 : Value → World → Prop} {Q : Exit → Env → World → Prop} (hN : ∀ e w, (m29_7 R K1 (e 0) (e 3) w) → Q .normal e w) (hX0 : ∀ e w, (m29_3 R (e 0) w) → Q (.exit 0) e w) (e : Env) (w : World) (h : m29_21 R K1 (e 0) (e 3) (e 13) w) : W29 k29_21 Q e w := by
  unfold m29_21 at h
  refine cond_ok (Operand.tmp 13) (by kernel_rfl) h (fun h1 => ?_) (fun h1 => ?_)
  · exact skip_ok (by kernel_rfl) (hN _ _ h1)
  · exact exit_ok 0 (by kernel_rfl) (hX0 _ _ h1)
theorem s29_6 {R : Value → World → Prop} {K1 : Value → World → Prop} {Q : Exit → Env → World → Prop} (hN : ∀ e w, (K1 (e 3) w) → Q .normal e w) (hR : ∀ e w, (R (e 2) w) → Q .ret e w) (hX0 : ∀ e w, (m29_3 R (e 0) w) → Q (.exit 0) e w) (e : Env) (w : World) (h : m29_6 R K1 (e 0) (e 3) w) : W29 k29_6 Q e w := by
  unfold m29_6 at h
  refine seq_ok' (by kernel_rfl) ?_
  have hN' : ∀ e w, (m29_7 R K1 (e 0) (e 3) w) → (thenE (W29 k29_7 Q) Q) .normal e w := fun e w h => then_N (s29_7 (R := R) (Q := Q) (K1 := K1) hN hR e w h)
  have hX0 : ∀ e w, (m29_3 R (e 0) w) → (thenE (W29 k29_7 Q) Q) (.exit 0) e w := fun e w h => then_X (hX0 e w h)
  have hN := hN'
  refine seq_ok' (by kernel_rfl) ?_
  have hN' : ∀ e w, (m29_21 R K1 (e 0) (e 3) (e 13) w) → (thenE (W29 k29_21 (thenE (W29 k29_7 Q) Q)) (thenE (W29 k29_7 Q) Q)) .normal e w := fun e w h => then_N (s29_21 (R := R) (Q := (thenE (W29 k29_7 Q) Q)) (K1 := K1) hN hX0 e w h)
  have hN := hN'
  exact region_ok 4 (fun e w => m29_21 R K1 (e 0) (e 3) (e 13) w) (by kernel_rfl) (kcast (by kernel_rfl) h) hN (by kernel_rfl)
theorem s29_5 {R : Value → World → Prop} {Q : Exit → Env → World → Prop} (hN : ∀ e w, (m29_3 R (e 0) w) → Q .normal e w) (hR : ∀ e w, (R (e 2) w) → Q .ret e w) (e : Env) (w : World) (h : m29_5 R (e 0) (e 3) w) : W29 k29_5 Q e w := by
  unfold m29_5 at h
  refine block_ok 0 (by kernel_rfl) ?_
  have hX0 : ∀ e w, (m29_3 R (e 0) w) → (inBlockE 0 Q) (.exit 0) e w := fun e w h => inBlock_same (Q := Q) 0 (hN e w h)
  have hR : ∀ e w, (R (e 2) w) → (inBlockE 0 Q) .ret e w := fun e w h => block_R (hR e w h)
  refine loop_ok' (fun (e : Env) => e 3) [0] (by kernel_rfl) (by kernel_rfl) h (fun K e' w' hk h' => ?_)
  have r0 : e' 0 = e 0 := hk 0 (by decide)
  have hR : ∀ e w, (R (e 2) w) → (thenE (fun (e : Env) w => K (e 3) w) (inBlockE 0 Q)) .ret e w := fun e w h => then_R (hR e w h)
  have hX0 : ∀ e w, (m29_3 R (e 0) w) → (thenE (fun (e : Env) w => K (e 3) w) (inBlockE 0 Q)) (.exit 0) e w := fun e w h => then_X (hX0 e w h)
  exact s29_6 (R := R) (Q := (thenE (fun (e : Env) w => K (e 3) w) (inBlockE 0 Q))) (K1 := K) (fun _ _ h => then_N h) hR hX0 e' w' (by rw [r0]; exact h')
theorem s29_2 {R : Value → World → Prop} {Q : Exit → Env → World → Prop} (hR : ∀ e w, (R (e 2) w) → Q .ret e w) (e : Env) (w : World) (h : m29_2 R (e 0) w) : W29 k29_2 Q e w := by
  unfold m29_2 at h
  refine seq_ok' (by kernel_rfl) ?_
  have hN' : ∀ e w, (m29_3 R (e 0) w) → (thenE (W29 k29_3 Q) Q) .normal e w := fun e w h => then_N (s29_3 (R := R) (Q := Q) hR e w h)
  have hR : ∀ e w, (R (e 2) w) → (thenE (W29 k29_3 Q) Q) .ret e w := fun e w h => then_R (hR e w h)
  have hN := hN'
  refine seq_ok' (by kernel_rfl) ?_
  have hN' : ∀ e w, (m29_5 R (e 0) (e 3) w) → (thenE (W29 k29_5 (thenE (W29 k29_3 Q) Q)) (thenE (W29 k29_3 Q) Q)) .normal e w := fun e w h => then_N (s29_5 (R := R) (Q := (thenE (W29 k29_3 Q) Q)) hN hR e w h)
  have hN := hN'
  exact region_ok 3 (fun e w => m29_5 R (e 0) (e 3) w) (by kernel_rfl) (kcast (by kernel_rfl) h) hN (by kernel_rfl)
theorem s29_22 {R : Value → World → Prop} {Q : Exit → Env → World → Prop} (hN : ∀ e w, (m29_2 R (e 0) w) → Q .normal e w) (hR : ∀ e w, (R (e 2) w) → Q .ret e w) (e : Env) (w : World) (h : m29_22 R (e 0) (e 8) w) : W29 k29_22 Q e w := by
  unfold m29_22 at h
  refine cond_ok (Operand.tmp 8) (by kernel_rfl) h (fun h1 => ?_) (fun h1 => ?_)
  · refine seq_ok' (by kernel_rfl) ?_
    have hN' : ∀ e w, (m29_23 R (e 2) w) → (thenE (W29 k29_23 Q) Q) .normal e w := fun e w h => then_N (s29_23 (R := R) (Q := Q) hR e w h)
    have hN := hN'
    exact region_ok 2 (fun e w => m29_23 R (e 2) w) (by kernel_rfl) (kcast (by kernel_rfl) h1) hN (by kernel_rfl)
  · exact skip_ok (by kernel_rfl) (hN _ _ h1)
theorem s29_1 {R : Value → World → Prop} {Q : Exit → Env → World → Prop} (hR : ∀ e w, (R (e 2) w) → Q .ret e w) (e : Env) (w : World) (h : m29_1 R (e 0) w) : W29 k29_1 Q e w := by
  unfold m29_1 at h
  refine seq_ok' (by kernel_rfl) ?_
  have hN' : ∀ e w, (m29_2 R (e 0) w) → (thenE (W29 k29_2 Q) Q) .normal e w := fun e w h => then_N (s29_2 (R := R) (Q := Q) hR e w h)
  have hR : ∀ e w, (R (e 2) w) → (thenE (W29 k29_2 Q) Q) .ret e w := fun e w h => then_R (hR e w h)
  have hN := hN'
  refine seq_ok' (by kernel_rfl) ?_
  have hN' : ∀ e w, (m29_22 R (e 0) (e 8) w) → (thenE (W29 k29_22 (thenE (W29 k29_2 Q) Q)) (thenE (W29 k29_2 Q) Q)) .normal e w := fun e w h => then_N (s29_22 (R := R) (Q := (thenE (W29 k29_2 Q) Q)) hN hR e w h)
  have hN := hN'
  exact region_ok 1 (fun e w => m29_22 R (e 0) (e 8) w) (by kernel_rfl) (kcast (by kernel_rfl) h) hN (by kernel_rfl)
theorem s29_0 {R : Value → World → Prop} {Q : Exit → Env → World → Prop} (hR : ∀ e w, (R (e 2) w) → Q .ret e w) (e : Env) (w : World) (h : m29_0 R (e 0) w) : W29 k29_0 Q e w := by
  unfold m29_0 at h
  refine seq_ok' (by kernel_rfl) ?_
  have hN' : ∀ e w, (m29_1 R (e 0) w) → (thenE (W29 k29_1 Q) Q) .normal e w := fun e w h => then_N (s29_1 (R := R) (Q := Q) hR e w h)
  have hN := hN'
  exact region_ok 0 (fun e w => m29_1 R (e 0) w) (by kernel_rfl) (kcast (by kernel_rfl) h) hN (by kernel_rfl)
abbrev m29 (R : Value → World → Prop) (s0 : Value) (w : World) : Prop := m29_0 R s0 w
theorem s29 (s0 : Value) {R : Value → World → Prop} {w : World} (h : m29 R s0 w) :
    Calls Try.prog 29 #[s0] w fun e w' => ∃ v, e = .returned v ∧ R v w' :=
  calls_of_cwp (st := (fun i => cond (Nat.beq i 11) 1 (cond (Nat.beq i 6) 1 (0)))) (c := k29_0) (by kernel_rfl) Try.func29 (by kernel_rfl) (Nat.le_of_ble_eq_true (by kernel_rfl)) (by kernel_rfl)
    (s29_0 (R := R) (Q := endE Try.prog Try.f29 R) (fun e w h => kcast (by kernel_rfl) h) (argsE #[s0]) w (kcast (by kernel_rfl) h))
/-! ### slices.DeleteFunc[[]int,int] -/
def m25_16 (R : Value → World → Prop) (t4 : Value) (w : World) : Prop :=
  R t4 w
def m25_10 (R : Value → World → Prop) (K1 : (Value × Value) → World → Prop) (s0 : Value) (del1 : Value) (i5 : Value) (j6 : Value) (w : World) : Prop :=
  valP Try.prog (binS BinOp.add 3 (Operand.tmp 20) (Operand.const (Value.int IntKind.i64 1)) j6 (Value.int IntKind.i64 1)) w fun t21 w =>
  K1 (i5, t21) w
def m25_13 (R : Value → World → Prop) (K1 : (Value × Value) → World → Prop) (s0 : Value) (del1 : Value) (i5 : Value) (j6 : Value) (w : World) : Prop :=
  valP Try.prog (binS BinOp.add 3 (Operand.tmp 34) (Operand.const (Value.int IntKind.i64 1)) i5 (Value.int IntKind.i64 1)) w fun t35 w =>
  m25_10 R K1 s0 del1 t35 j6 w
def m25_12 (R : Value → World → Prop) (K1 : (Value × Value) → World → Prop) (s0 : Value) (del1 : Value) (i5 : Value) (j6 : Value) (v7 : Value) (t29 : Value) (w : World) : Prop :=
  condP t29
  (valP Try.prog (Instr.indexAt 22 s0 i5) w fun t33 w =>
  unitP Try.prog (Instr.storeAt 3 t33 v7) w fun _ w =>
  m25_13 R K1 s0 del1 i5 j6 w)
  (m25_10 R K1 s0 del1 i5 j6 w)
def m25_11 (R : Value → World → Prop) (K1 : (Value × Value) → World → Prop) (s0 : Value) (del1 : Value) (i5 : Value) (j6 : Value) (v7 : Value) (w : World) : Prop :=
  callP Try.prog del1 #[v7] w fun t28 w =>
  valP Try.prog (Op.unary UnOp.not t28) w fun t29 w =>
  m25_12 R K1 s0 del1 i5 j6 v7 t29 w
def m25_9 (R : Value → World → Prop) (K1 : (Value × Value) → World → Prop) (s0 : Value) (del1 : Value) (i5 : Value) (j6 : Value) (w : World) : Prop :=
  valP Try.prog (Instr.indexAt 22 s0 j6) w fun t24 w =>
  valP Try.prog (Instr.loadAt 3 t24) w fun t25 w =>
  m25_11 R K1 s0 del1 i5 j6 t25 w
def m25_6 (R : Value → World → Prop) (t4 : Value) (w : World) : Prop :=
  R t4 w
def m25_5 (R : Value → World → Prop) (s0 : Value) (i5 : Value) (w : World) : Prop :=
  valP Try.prog (Instr.sliceAt 22 s0 none (some i5) none) w fun t41 w =>
  m25_6 R t41 w
def m25_4 (R : Value → World → Prop) (s0 : Value) (i5 : Value) (w : World) : Prop :=
  valP Try.prog (Instr.sliceAt 22 s0 (some i5) none none) w fun t38 w =>
  builtinP Try.prog Builtin.clear #[22] 0 #[false] #[t38] w fun _ w =>
  m25_5 R s0 i5 w
def m25_14 (R : Value → World → Prop) (K1 : (Value × Value) → World → Prop) (s0 : Value) (del1 : Value) (i5 : Value) (j6 : Value) (t19 : Value) (w : World) : Prop :=
  condP t19
  (m25_9 R K1 s0 del1 i5 j6 w)
  (m25_4 R s0 i5 w)
def m25_8 (R : Value → World → Prop) (K1 : (Value × Value) → World → Prop) (s0 : Value) (del1 : Value) (i5 : Value) (j6 : Value) (w : World) : Prop :=
  builtinP Try.prog Builtin.len #[22] 3 #[false] #[s0] w fun t18 w =>
  valP Try.prog (binS BinOp.lss 3 (Operand.tmp 16) (Operand.tmp 18) j6 t18) w fun t19 w =>
  m25_14 R K1 s0 del1 i5 j6 t19 w
def m25_7 (R : Value → World → Prop) (s0 : Value) (del1 : Value) (i5 : Value) (j6 : Value) (w : World) : Prop :=
  loopP (fun (K1 : (Value × Value) → World → Prop) (s : Value × Value) w => m25_8 R K1 s0 del1 s.1 s.2 w) (i5, j6) w
def m25_3 (R : Value → World → Prop) (s0 : Value) (del1 : Value) (i5 : Value) (w : World) : Prop :=
  valP Try.prog (binS BinOp.add 3 (Operand.tmp 14) (Operand.const (Value.int IntKind.i64 1)) i5 (Value.int IntKind.i64 1)) w fun t15 w =>
  m25_7 R s0 del1 i5 t15 w
def m25_15 (R : Value → World → Prop) (s0 : Value) (del1 : Value) (i5 : Value) (t12 : Value) (w : World) : Prop :=
  condP t12
  (m25_16 R s0 w)
  (m25_3 R s0 del1 i5 w)
def m25_2 (R : Value → World → Prop) (s0 : Value) (del1 : Value) (i5 : Value) (w : World) : Prop :=
  valP Try.prog (binS BinOp.eql 3 (Operand.tmp 11) (Operand.const (Value.int IntKind.i64 (-1))) i5 (Value.int IntKind.i64 (-1))) w fun t12 w =>
  m25_15 R s0 del1 i5 t12 w
def m25_1 (R : Value → World → Prop) (s0 : Value) (del1 : Value) (w : World) : Prop :=
  callP Try.prog (fnV 33) #[s0, del1] w fun t10 w =>
  m25_2 R s0 del1 t10 w
def m25_0 (R : Value → World → Prop) (s0 : Value) (del1 : Value) (w : World) : Prop :=
  m25_1 R s0 del1 w
abbrev W25 := cwp Try.prog (fun i => 0)
noncomputable def k25_0 : Code := (bodyOf Try.f25)
noncomputable def k25_1 : Code := (c2 k25_0)
noncomputable def k25_2 : Code := (c2 k25_1)
noncomputable def k25_3 : Code := (c2 k25_2)
noncomputable def k25_4 : Code := (c2 k25_3)
noncomputable def k25_5 : Code := (c2 k25_4)
noncomputable def k25_6 : Code := (c2 k25_5)
noncomputable def k25_7 : Code := (c2 (c1 k25_3))
noncomputable def k25_8 : Code := (c1 (c1 k25_7))
noncomputable def k25_9 : Code := (c2 k25_8)
noncomputable def k25_10 : Code := (c2 k25_9)
noncomputable def k25_11 : Code := (c2 (c1 (c1 k25_9)))
noncomputable def k25_12 : Code := (c2 k25_11)
noncomputable def k25_13 : Code := (c2 (c1 k25_12))
noncomputable def k25_14 : Code := (c2 (c1 k25_8))
noncomputable def k25_15 : Code := (c2 (c1 k25_2))
noncomputable def k25_16 : Code := (c2 (c1 k25_15))
theorem s25_16 {R : Value → World → Prop} {Q : Exit → Env → World → Prop} (hR : ∀ e w, (R (e 4) w) → Q .ret e w) (e : Env) (w : World) (h : m25_16 R (e 4) w) : W25 k25_16 Q e w := by
  unfold m25_16 at h
  exact ret_ok (by kernel_rfl) (hR _ _ h)
theorem s25_10 {R : Value → World → Prop} {K1 : (Value × Value) → World → Prop} {Q : Exit → Env → World → Prop} (hN : ∀ e w, (K1 ((e 5), (e 6)) w) → Q .normal e w) (e : Env) (w : World) (h : m25_10 R K1 (e 0) (e 1) (e 5) (e 6) w) : W25 k25_10 Q e w := by
  unfold m25_10 at h
  exact region_ok 6 (fun e w => K1 ((e 5), (e 6)) w) (by kernel_rfl) (kcast (by kernel_rfl) h) hN (by kernel_rfl)
theorem s25_13 {R : Value → World → Prop} {K1 : (Value × Value) → World → Prop} {Q : Exit → Env → World → Prop} (hN : ∀ e w, (m25_10 R K1 (e 0) (e 1) (e 5) (e 6) w) → Q .normal e w) (e : Env) (w : World) (h : m25_13 R K1 (e 0) (e 1) (e 5) (e 6) w) : W25 k25_13 Q e w := by
  unfold m25_13 at h
  exact region_ok 10 (fun e w => m25_10 R K1 (e 0) (e 1) (e 5) (e 6) w) (by kernel_rfl) (kcast (by kernel_rfl) h) hN (by kernel_rfl)
theorem s25_12 {R : Value → World → Prop} {K1 : (Value × Value) → World → Prop} {Q : Exit → Env → World → Prop} (hN : ∀ e w, (m25_10 R K1 (e 0) (e 1) (e 5) (e 6) w) → Q .normal e w) (e : Env) (w : World) (h : m25_12 R K1 (e 0) (e 1) (e 5) (e 6) (e 7) (e 29) w) : W25 k25_12 Q e w := by
  unfold m25_12 at h
  refine cond_ok (Operand.tmp 29) (by kernel_rfl) h (fun h1 => ?_) (fun h1 => ?_)
  · refine seq_ok' (by kernel_rfl) ?_
    have hN' : ∀ e w, (m25_13 R K1 (e 0) (e 1) (e 5) (e 6) w) → (thenE (W25 k25_13 Q) Q) .normal e w := fun e w h => then_N (s25_13 (R := R) (Q := Q) (K1 := K1) hN e w h)
    have hN := hN'
    exact region_ok 9 (fun e w => m25_13 R K1 (e 0) (e 1) (e 5) (e 6) w) (by kernel_rfl) (kcast (by kernel_rfl) h1) hN (by kernel_rfl)
  · exact skip_ok (by kernel_rfl) (hN _ _ h1)
theorem s25_11 {R : Value → World → Prop} {K1 : (Value × Value) → World → Prop} {Q : Exit → Env → World → Prop} (hN : ∀ e w, (m25_10 R K1 (e 0) (e 1) (e 5) (e 6) w) → Q .normal e w) (e : Env) (w : World) (h : m25_11 R K1 (e 0) (e 1) (e 5) (e 6) (e 7) w) : W25 k25_11 Q e w := by
  unfold m25_11 at h
  refine seq_ok' (by kernel_rfl) ?_
  have hN' : ∀ e w, (m25_12 R K1 (e 0) (e 1) (e 5) (e 6) (e 7) (e 29) w) → (thenE (W25 k25_12 Q) Q) .normal e w := fun e w h => then_N (s25_12 (R := R) (Q := Q) (K1 := K1) hN e w h)
  have hN := hN'
  exact region_ok 8 (fun e w => m25_12 R K1 (e 0) (e 1) (e 5) (e 6) (e 7) (e 29) w) (by kernel_rfl) (kcast (by kernel_rfl) h) hN (by kernel_rfl)
theorem s25_9 {R : Value → World → Prop} {K1 : (Value × Value) → World → Prop} {Q : Exit → Env → World → Prop} (hN : ∀ e w, (K1 ((e 5), (e 6)) w) → Q .normal e w) (e : Env) (w : World) (h : m25_9 R K1 (e 0) (e 1) (e 5) (e 6) w) : W25 k25_9 Q e w := by
  unfold m25_9 at h
  refine seq_ok' (by kernel_rfl) ?_
  have hN' : ∀ e w, (m25_10 R K1 (e 0) (e 1) (e 5) (e 6) w) → (thenE (W25 k25_10 Q) Q) .normal e w := fun e w h => then_N (s25_10 (R := R) (Q := Q) (K1 := K1) hN e w h)
  have hN := hN'
  refine block_ok 1 (by kernel_rfl) ?_
  have hN : ∀ e w, (m25_10 R K1 (e 0) (e 1) (e 5) (e 6) w) → (inBlockE 1 (thenE (W25 k25_10 Q) Q)) .normal e w := fun e w h => block_N (hN e w h)
  refine seq_ok' (by kernel_rfl) ?_
  have hN' : ∀ e w, (m25_11 R K1 (e 0) (e 1) (e 5) (e 6) (e 7) w) → (thenE (W25 k25_11 (inBlockE 1 (thenE (W25 k25_10 Q) Q))) (inBlockE 1 (thenE (W25 k25_10 Q) Q))) .normal e w := fun e w h => then_N (s25_11 (R := R) (Q := (inBlockE 1 (thenE (W25 k25_10 Q) Q))) (K1 := K1) hN e w h)
  have hN := hN'
  exact region_ok 7 (fun e w => m25_11 R K1 (e 0) (e 1) (e 5) (e 6) (e 7) w) (by kernel_rfl) (kcast (by kernel_rfl) h) hN (by kernel_rfl)
theorem s25_6 {R : Value → World → Prop} {Q : Exit → Env → World → Prop} (hR : ∀ e w, (R (e 4) w) → Q .ret e w) (e : Env) (w : World) (h : m25_6 R (e 4) w) : W25 k25_6 Q e w := by
  unfold m25_6 at h
  exact ret_ok (by kernel_rfl) (hR _ _ h)
theorem s25_5 {R : Value → World → Prop} {Q : Exit → Env → World → Prop} (hR : ∀ e w, (R (e 4) w) → Q .ret e w) (e : Env) (w : World) (h : m25_5 R (e 0) (e 5) w) : W25 k25_5 Q e w := by
  unfold m25_5 at h
  refine seq_ok' (by kernel_rfl) ?_
  have hN' : ∀ e w, (m25_6 R (e 4) w) → (thenE (W25 k25_6 Q) Q) .normal e w := fun e w h => then_N (s25_6 (R := R) (Q := Q) hR e w h)
  have hN := hN'
  exact region_ok 12 (fun e w => m25_6 R (e 4) w) (by kernel_rfl) (kcast (by kernel_rfl) h) hN (by kernel_rfl)
theorem s25_4 {R : Value → World → Prop} {Q : Exit → Env → World → Prop} (hR : ∀ e w, (R (e 4) w) → Q .ret e w) (e : Env) (w : World) (h : m25_4 R (e 0) (e 5) w) : W25 k25_4 Q e w := by
  unfold m25_4 at h
  refine seq_ok' (by kernel_rfl) ?_
  have hN' : ∀ e w, (m25_5 R (e 0) (e 5) w) → (thenE (W25 k25_5 Q) Q) .normal e w := fun e w h => then_N (s25_5 (R := R) (Q := Q) hR e w h)
  have hN := hN'
  exact region_ok 11 (fun e w => m25_5 R (e 0) (e 5) w) (by kernel_rfl) (kcast (by kernel_rfl) h) hN (by kernel_rfl)
theorem s25_14 {R : Value → World → Prop} {K1 : (Value × Value) → World → Prop} {Q : Exit → Env → World → Prop} (hN : ∀ e w, (m25_9 R K1 (e 0) (e 1) (e 5) (e 6) w) → Q .normal e w) (hX0 : ∀ e w, (m25_4 R (e 0) (e 5) w) → Q (.exit 0) e w) (e : Env) (w : World) (h : m25_14 R K1 (e 0) (e 1) (e 5) (e 6) (e 19) w) : W25 k25_14 Q e w := by
  unfold m25_14 at h
  refine cond_ok (Operand.tmp 19) (by kernel_rfl) h (fun h1 => ?_) (fun h1 => ?_)
  · exact skip_ok (by kernel_rfl) (hN _ _ h1)
  · exact exit_ok 0 (by kernel_rfl) (hX0 _ _ h1)
theorem s25_8 {R : Value → World → Prop} {K1 : (Value × Value) → World → Prop} {Q : Exit → Env → World → Prop} (hN : ∀ e w, (K1 ((e 5), (e 6)) w) → Q .normal e w) (hX0 : ∀ e w, (m25_4 R (e 0) (e 5) w) → Q (.exit 0) e w) (e : Env) (w : World) (h : m25_8 R K1 (e 0) (e 1) (e 5) (e 6) w) : W25 k25_8 Q e w := by
  unfold m25_8 at h
  refine seq_ok' (by kernel_rfl) ?_
  have hN' : ∀ e w, (m25_9 R K1 (e 0) (e 1) (e 5) (e 6) w) → (thenE (W25 k25_9 Q) Q) .normal e w := fun e w h => then_N (s25_9 (R := R) (Q := Q) (K1 := K1) hN e w h)
  have hX0 : ∀ e w, (m25_4 R (e 0) (e 5) w) → (thenE (W25 k25_9 Q) Q) (.exit 0) e w := fun e w h => then_X (hX0 e w h)
  have hN := hN'
  refine seq_ok' (by kernel_rfl) ?_
  have hN' : ∀ e w, (m25_14 R K1 (e 0) (e 1) (e 5) (e 6) (e 19) w) → (thenE (W25 k25_14 (thenE (W25 k25_9 Q) Q)) (thenE (W25 k25_9 Q) Q)) .normal e w := fun e w h => then_N (s25_14 (R := R) (Q := (thenE (W25 k25_9 Q) Q)) (K1 := K1) hN hX0 e w h)
  have hN := hN'
  exact region_ok 5 (fun e w => m25_14 R K1 (e 0) (e 1) (e 5) (e 6) (e 19) w) (by kernel_rfl) (kcast (by kernel_rfl) h) hN (by kernel_rfl)
theorem s25_7 {R : Value → World → Prop} {Q : Exit → Env → World → Prop} (hN : ∀ e w, (m25_4 R (e 0) (e 5) w) → Q .normal e w) (e : Env) (w : World) (h : m25_7 R (e 0) (e 1) (e 5) (e 6) w) : W25 k25_7 Q e w := by
  unfold m25_7 at h
  refine block_ok 0 (by kernel_rfl) ?_
  have hX0 : ∀ e w, (m25_4 R (e 0) (e 5) w) → (inBlockE 0 Q) (.exit 0) e w := fun e w h => inBlock_same (Q := Q) 0 (hN e w h)
  refine loop_ok' (fun (e : Env) => (e 5, e 6)) [0, 1] (by kernel_rfl) (by kernel_rfl) h (fun K e' w' hk h' => ?_)
  have r0 : e' 0 = e 0 := hk 0 (by decide)
  have r1 : e' 1 = e 1 := hk 1 (by decide)
  have hX0 : ∀ e w, (m25_4 R (e 0) (e 5) w) → (thenE (fun (e : Env) w => K ((e 5), (e 6)) w) (inBlockE 0 Q)) (.exit 0) e w := fun e w h => then_X (hX0 e w h)
  exact s25_8 (R := R) (Q := (thenE (fun (e : Env) w => K ((e 5), (e 6)) w) (inBlockE 0 Q))) (K1 := K) (fun _ _ h => then_N h) hX0 e' w' (by rw [r0, r1]; exact h')
theorem s25_3 {R : Value → World → Prop} {Q : Exit → Env → World → Prop} (hR : ∀ e w, (R (e 4) w) → Q .ret e w) (e : Env) (w : World) (h : m25_3 R (e 0) (e 1) (e 5) w) : W25 k25_3 Q e w := by
  unfold m25_3 at h
  refine seq_ok' (by kernel_rfl) ?_
  have hN' : ∀ e w, (m25_4 R (e 0) (e 5) w) → (thenE (W25 k25_4 Q) Q) .normal e w := fun e w h => then_N (s25_4 (R := R) (Q := Q) hR e w h)
  have hN := hN'
  refine seq_ok' (by kernel_rfl) ?_
  have hN' : ∀ e w, (m25_7 R (e 0) (e 1) (e 5) (e 6) w) → (thenE (W25 k25_7 (thenE (W25 k25_4 Q) Q)) (thenE (W25 k25_4 Q) Q)) .normal e w := fun e w h => then_N (s25_7 (R := R) (Q := (thenE (W25 k25_4 Q) Q)) hN e w h)
  have hN := hN'
  exact region_ok 4 (fun e w => m25_7 R (e 0) (e 1) (e 5) (e 6) w) (by kernel_rfl) (kcast (by kernel_rfl) h) hN (by kernel_rfl)
theorem s25_15 {R : Value → World → Prop} {Q : Exit → Env → World → Prop} (hN : ∀ e w, (m25_3 R (e 0) (e 1) (e 5) w) → Q .normal e w) (hR : ∀ e w, (R (e 4) w) → Q .ret e w) (e : Env) (w : World) (h : m25_15 R (e 0) (e 1) (e 5) (e 12) w) : W25 k25_15 Q e w := by
  unfold m25_15 at h
  refine cond_ok (Operand.tmp 12) (by kernel_rfl) h (fun h1 => ?_) (fun h1 => ?_)
  · refine seq_ok' (by kernel_rfl) ?_
    have hN' : ∀ e w, (m25_16 R (e 4) w) → (thenE (W25 k25_16 Q) Q) .normal e w := fun e w h => then_N (s25_16 (R := R) (Q := Q) hR e w h)
    have hN := hN'
    exact region_ok 3 (fun e w => m25_16 R (e 4) w) (by kernel_rfl) (kcast (by kernel_rfl) h1) hN (by kernel_rfl)
  · exact skip_ok (by kernel_rfl) (hN _ _ h1)
theorem s25_2 {R : Value → World → Prop} {Q : Exit → Env → World → Prop} (hR : ∀ e w, (R (e 4) w) → Q .ret e w) (e : Env) (w : World) (h : m25_2 R (e 0) (e 1) (e 5) w) : W25 k25_2 Q e w := by
  unfold m25_2 at h
  refine seq_ok' (by kernel_rfl) ?_
  have hN' : ∀ e w, (m25_3 R (e 0) (e 1) (e 5) w) → (thenE (W25 k25_3 Q) Q) .normal e w := fun e w h => then_N (s25_3 (R := R) (Q := Q) hR e w h)
  have hR : ∀ e w, (R (e 4) w) → (thenE (W25 k25_3 Q) Q) .ret e w := fun e w h => then_R (hR e w h)
  have hN := hN'
  refine seq_ok' (by kernel_rfl) ?_
  have hN' : ∀ e w, (m25_15 R (e 0) (e 1) (e 5) (e 12) w) → (thenE (W25 k25_15 (thenE (W25 k25_3 Q) Q)) (thenE (W25 k25_3 Q) Q)) .normal e w := fun e w h => then_N (s25_15 (R := R) (Q := (thenE (W25 k25_3 Q) Q)) hN hR e w h)
  have hN := hN'
  exact region_ok 2 (fun e w => m25_15 R (e 0) (e 1) (e 5) (e 12) w) (by kernel_rfl) (kcast (by kernel_rfl) h) hN (by kernel_rfl)
theorem s25_1 {R : Value → World → Prop} {Q : Exit → Env → World → Prop} (hR : ∀ e w, (R (e 4) w) → Q .ret e w) (e : Env) (w : World) (h : m25_1 R (e 0) (e 1) w) : W25 k25_1 Q e w := by
  unfold m25_1 at h
  refine seq_ok' (by kernel_rfl) ?_
  have hN' : ∀ e w, (m25_2 R (e 0) (e 1) (e 5) w) → (thenE (W25 k25_2 Q) Q) .normal e w := fun e w h => then_N (s25_2 (R := R) (Q := Q) hR e w h)
  have hN := hN'
  exact region_ok 1 (fun e w => m25_2 R (e 0) (e 1) (e 5) w) (by kernel_rfl) (kcast (by kernel_rfl) h) hN (by kernel_rfl)
theorem s25_0 {R : Value → World → Prop} {Q : Exit → Env → World → Prop} (hR : ∀ e w, (R (e 4) w) → Q .ret e w) (e : Env) (w : World) (h : m25_0 R (e 0) (e 1) w) : W25 k25_0 Q e w := by
  unfold m25_0 at h
  refine seq_ok' (by kernel_rfl) ?_
  have hN' : ∀ e w, (m25_1 R (e 0) (e 1) w) → (thenE (W25 k25_1 Q) Q) .normal e w := fun e w h => then_N (s25_1 (R := R) (Q := Q) hR e w h)
  have hN := hN'
  exact region_ok 0 (fun e w => m25_1 R (e 0) (e 1) w) (by kernel_rfl) (kcast (by kernel_rfl) h) hN (by kernel_rfl)
abbrev m25 (R : Value → World → Prop) (s0 : Value) (del1 : Value) (w : World) : Prop := m25_0 R s0 del1 w
theorem s25 (s0 : Value) (del1 : Value) {R : Value → World → Prop} {w : World} (h : m25 R s0 del1 w) :
    Calls Try.prog 25 #[s0, del1] w fun e w' => ∃ v, e = .returned v ∧ R v w' :=
  calls_of_cwp (st := (fun i => 0)) (c := k25_0) (by kernel_rfl) Try.func25 (by kernel_rfl) (Nat.le_of_ble_eq_true (by kernel_rfl)) (by kernel_rfl)
    (s25_0 (R := R) (Q := endE Try.prog Try.f25 R) (fun e w h => kcast (by kernel_rfl) h) (argsE #[s0, del1]) w (kcast (by kernel_rfl) h))
/-! ### slices.IndexFunc[[]int,int] -/
def m33_11 (R : Value → World → Prop) (K1 : Value → World → Prop) (t4 : Value) (w : World) : Prop :=
  R t4 w
def m33_8 (R : Value → World → Prop) (K1 : Value → World → Prop) (s0 : Value) (f1 : Value) (t7 : Value) (t8 : Value) (w : World) : Prop :=
  valP Try.prog (binS BinOp.add 3 (Operand.tmp 8) (Operand.const (Value.int IntKind.i64 1)) t8 (Value.int IntKind.i64 1)) w fun t18 w =>
  K1 t18 w
def m33_10 (R : Value → World → Prop) (K1 : Value → World → Prop) (s0 : Value) (f1 : Value) (i5 : Value) (t7 : Value) (t8 : Value) (t16 : Value) (w : World) : Prop :=
  condP t16
  (m33_11 R K1 i5 w)
  (m33_8 R K1 s0 f1 t7 t8 w)
def m33_9 (R : Value → World → Prop) (K1 : Value → World → Prop) (s0 : Value) (f1 : Value) (i5 : Value) (t7 : Value) (t8 : Value) (w : World) : Prop :=
  valP Try.prog (Instr.indexAt 22 s0 i5) w fun t14 w =>
  valP Try.prog (Instr.loadAt 3 t14) w fun t15 w =>
  callP Try.prog f1 #[t15] w fun t16 w =>
  m33_10 R K1 s0 f1 i5 t7 t8 t16 w
def m33_7 (R : Value → World → Prop) (K1 : Value → World → Prop) (s0 : Value) (f1 : Value) (t7 : Value) (t8 : Value) (w : World) : Prop :=
  m33_9 R K1 s0 f1 t8 t7 t8 w
def m33_3 (R : Value → World → Prop) (t4 : Value) (w : World) : Prop :=
  R t4 w
def m33_2 (R : Value → World → Prop) (w : World) : Prop :=
  m33_3 R (Value.int IntKind.i64 (-1)) w
def m33_6 (R : Value → World → Prop) (K1 : Value → World → Prop) (s0 : Value) (f1 : Value) (t7 : Value) (t8 : Value) (t9 : Value) (w : World) : Prop :=
  condP t9
  (m33_7 R K1 s0 f1 t7 t8 w)
  (m33_2 R w)
def m33_5 (R : Value → World → Prop) (K1 : Value → World → Prop) (s0 : Value) (f1 : Value) (t7 : Value) (t8 : Value) (w : World) : Prop :=
  valP Try.prog (binS BinOp.lss 3 (Operand.tmp 8) (Operand.tmp 7) t8 t7) w fun t9 w =>
  m33_6 R K1 s0 f1 t7 t8 t9 w
def m33_4 (R : Value → World → Prop) (s0 : Value) (f1 : Value) (t7 : Value) (t8 : Value) (w : World) : Prop :=
  loopP (fun (K1 : Value → World → Prop) (s : Value) w => m33_5 R K1 s0 f1 t7 s w) t8 w
def m33_1 (R : Value → World → Prop) (s0 : Value) (f1 : Value) (w : World) : Prop :=
  builtinP Try.prog Builtin.len #[22] 3 #[false] #[s0] w fun t7 w =>
  m33_4 R s0 f1 t7 (Value.int IntKind.i64 0) w
def m33_0 (R : Value → World → Prop) (s0 : Value) (f1 : Value) (w : World) : Prop :=
  m33_1 R s0 f1 w
abbrev W33 := cwp Try.prog (fun i => 0)
noncomputable def k33_0 : Code := (bodyOf Try.f33)
noncomputable def k33_1 : Code := (c2 k33_0)
noncomputable def k33_2 : Code := (c2 k33_1)
noncomputable def k33_3 : Code := (c2 k33_2)
noncomputable def k33_4 : Code := (c2 (c1 k33_1))
noncomputable def k33_5 : Code := (c1 (c1 k33_4))
noncomputable def k33_6 : Code := (c2 k33_5)
noncomputable def k33_7 : Code := (c2 k33_6)
noncomputable def k33_8 : Code := (c2 k33_7)
noncomputable def k33_9 : Code := (c2 (c1 (c1 k33_7)))
noncomputable def k33_10 : Code := (c2 k33_9)
noncomputable def k33_11 : Code := (c2 (c1 k33_10))
theorem s33_11 {R : Value → World → Prop} {K1 : Value → World → Prop} {Q : Exit → Env → World → Prop} (hR : ∀ e w, (R (e 4) w) → Q .ret e w) (e : Env) (w : World) (h : m33_11 R K1 (e 4) w) : W33 k33_11 Q e w := by
  unfold m33_11 at h
  exact ret_ok (by kernel_rfl) (hR _ _ h)
theorem s33_8 {R : Value → World → Prop} {K1 : Value → World → Prop} {Q : Exit → Env → World → Prop} (hN : ∀ e w, (K1 (e 8) w) → Q .normal e w) (e : Env) (w : World) (h : m33_8 R K1 (e 0) (e 1) (e 7) (e 8) w) : W33 k33_8 Q e w := by
  unfold m33_8 at h
  exact region_ok 6 (fun e w => K1 (e 8) w) (by kernel_rfl) (kcast (by kernel_rfl) h) hN (by kernel_rfl)
theorem s33_10 {R : Value → World → Prop} {K1 : Value → World → Prop} {Q : Exit → Env → World → Prop} (hN : ∀ e w, (m33_8 R K1 (e 0) (e 1) (e 7) (e 8) w) → Q .normal e w) (hR : ∀ e w, (R (e 4) w) → Q .ret e w) (e : Env) (w : World) (h : m33_10 R K1 (e 0) (e 1) (e 5) (e 7) (e 8) (e 16) w) : W33 k33_10 Q e w := by
  unfold m33_10 at h
  refine cond_ok (Operand.tmp 16) (by kernel_rfl) h (fun h1 => ?_) (fun h1 => ?_)
  · refine seq_ok' (by kernel_rfl) ?_
    have hN' : ∀ e w, (m33_11 R K1 (e 4) w) → (thenE (W33 k33_11 Q) Q) .normal e w := fun e w h => then_N (s33_11 (R := R) (Q := Q) (K1 := K1) hR e w h)
    have hN := hN'
    exact region_ok 5 (fun e w => m33_11 R K1 (e 4) w) (by kernel_rfl) (kcast (by kernel_rfl) h1) hN (by kernel_rfl)
  · exact skip_ok (by kernel_rfl) (hN _ _ h1)
theorem s33_9 {R : Value → World → Prop} {K1 : Value → World → Prop} {Q : Exit → Env → World → Prop} (hN : ∀ e w, (m33_8 R K1 (e 0) (e 1) (e 7) (e 8) w) → Q .normal e w) (hR : ∀ e w, (R (e 4) w) → Q .ret e w) (e : Env) (w : World) (h : m33_9 R K1 (e 0) (e 1) (e 5) (e 7) (e 8) w) : W33 k33_9 Q e w := by
  unfold m33_9 at h
  refine seq_ok' (by kernel_rfl) ?_
  have hN' : ∀ e w, (m33_10 R K1 (e 0) (e 1) (e 5) (e 7) (e 8) (e 16) w) → (thenE (W33 k33_10 Q) Q) .normal e w := fun e w h => then_N (s33_10 (R := R) (Q := Q) (K1 := K1) hN hR e w h)
  have hN := hN'
  exact region_ok 4 (fun e w => m33_10 R K1 (e 0) (e 1) (e 5) (e 7) (e 8) (e 16) w) (by kernel_rfl) (kcast (by kernel_rfl) h) hN (by kernel_rfl)
theorem s33_7 {R : Value → World → Prop} {K1 : Value → World → Prop} {Q : Exit → Env → World → Prop} (hN : ∀ e w, (K1 (e 8) w) → Q .normal e w) (hR : ∀ e w, (R (e 4) w) → Q .ret e w) (e : Env) (w : World) (h : m33_7 R K1 (e 0) (e 1) (e 7) (e 8) w) : W33 k33_7 Q e w := by
  unfold m33_7 at h
  refine seq_ok' (by kernel_rfl) ?_
  have hN' : ∀ e w, (m33_8 R K1 (e 0) (e 1) (e 7) (e 8) w) → (thenE (W33 k33_8 Q) Q) .normal e w := fun e w h => then_N (s33_8 (R := R) (Q := Q) (K1 := K1) hN e w h)
  have hR : ∀ e w, (R (e 4) w) → (thenE (W33 k33_8 Q) Q) .ret e w := fun e w h => then_R (hR e w h)
  have hN := hN'
  refine block_ok 1 (by kernel_rfl) ?_
  have hN : ∀ e w, (m33_8 R K1 (e 0) (e 1) (e 7) (e 8) w) → (inBlockE 1 (thenE (W33 k33_8 Q) Q)) .normal e w := fun e w h => block_N (hN e w h)
  have hR : ∀ e w, (R (e 4) w) → (inBlockE 1 (thenE (W33 k33_8 Q) Q)) .ret e w := fun e w h => block_R (hR e w h)
  refine seq_ok' (by kernel_rfl) ?_
  have hN' : ∀ e w, (m33_9 R K1 (e 0) (e 1) (e 5) (e 7) (e 8) w) → (thenE (W33 k33_9 (inBlockE 1 (thenE (W33 k33_8 Q) Q))) (inBlockE 1 (thenE (W33 k33_8 Q) Q))) .normal e w := fun e w h => then_N (s33_9 (R := R) (Q := (inBlockE 1 (thenE (W33 k33_8 Q) Q))) (K1 := K1) hN hR e w h)
  have hN := hN'
  exact region_ok 3 (fun e w => m33_9 R K1 (e 0) (e 1) (e 5) (e 7) (e 8) w) (by kernel_rfl) (kcast (by kernel_rfl) h) hN (by kernel_rfl)
theorem s33_3 {R : Value → World → Prop} {Q : Exit → Env → World → Prop} (hR : ∀ e w, (R (e 4) w) → Q .ret e w) (e : Env) (w : World) (h : m33_3 R (e 4) w) : W33 k33_3 Q e w := by
  unfold m33_3 at h
  exact ret_ok (by kernel_rfl) (hR _ _ h)
theorem s33_2 {R : Value → World → Prop} {Q : Exit → Env → World → Prop} (hR : ∀ e w, (R (e 4) w) → Q .ret e w) (e : Env) (w : World) (h : m33_2 R w) : W33 k33_2 Q e w := by
  unfold m33_2 at h
  refine seq_ok' (by kernel_rfl) ?_
  have hN' : ∀ e w, (m33_3 R (e 4) w) → (thenE (W33 k33_3 Q) Q) .normal e w := fun e w h => then_N (s33_3 (R := R) (Q := Q) hR e w h)
  have hN := hN'
  exact region_ok 7 (fun e w => m33_3 R (e 4) w) (by kernel_rfl) (kcast (by kernel_rfl) h) hN (by kernel_rfl)
theorem s33_6 {R : Value → World → Prop} {K1 : Value → World → Prop} {Q : Exit → Env → World → Prop} (hN : ∀ e w, (K1 (e 8) w) → Q .normal e w) (hR : ∀ e w, (R (e 4) w) → Q .ret e w) (hX0 : ∀ e w, (m33_2 R w) → Q (.exit 0) e w) (e : Env) (w : World) (h : m33_6 R K1 (e 0) (e 1) (e 7) (e 8) (e 9) w) : W33 k33_6 Q e w := by
  unfold m33_6 at h
  refine seq_ok' (by kernel_rfl) ?_
  have hN' : ∀ e w, (m33_7 R K1 (e 0) (e 1) (e 7) (e 8) w) → (thenE (W33 k33_7 Q) Q) .normal e w := fun e w h => then_N (s33_7 (R := R) (Q := Q) (K1 := K1) hN hR e w h)
  have hX0 : ∀ e w, (m33_2 R w) → (thenE (W33 k33_7 Q) Q) (.exit 0) e w := fun e w h => then_X (hX0 e w h)
  have hN := hN'
  refine cond_ok (Operand.tmp 9) (by kernel_rfl) h (fun h1 => ?_) (fun h1 => ?_)
  · exact skip_ok (by kernel_rfl) (hN _ _ h1)
  · exact exit_ok 0 (by kernel_rfl) (hX0 _ _ h1)
theorem s33_5 {R : Value → World → Prop} {K1 : Value → World → Prop} {Q : Exit → Env → World → Prop} (hN : ∀ e w, (K1 (e 8) w) → Q .normal e w) (hR : ∀ e w, (R (e 4) w) → Q .ret e w) (hX0 : ∀ e w, (m33_2 R w) → Q (.exit 0) e w) (e : Env) (w : World) (h : m33_5 R K1 (e 0) (e 1) (e 7) (e 8) w) : W33 k33_5 Q e w := by
  unfold m33_5 at h
  refine seq_ok' (by kernel_rfl) ?_
  have hN' : ∀ e w, (m33_6 R K1 (e 0) (e 1) (e 7) (e 8) (e 9) w) → (thenE (W33 k33_6 Q) Q) .normal e w := fun e w h => then_N (s33_6 (R := R) (Q := Q) (K1 := K1) hN hR hX0 e w h)
  have hN := hN'
  exact region_ok 2 (fun e w => m33_6 R K1 (e 0) (e 1) (e 7) (e 8) (e 9) w) (by kernel_rfl) (kcast (by kernel_rfl) h) hN (by kernel_rfl)
theorem s33_4 {R : Value → World → Prop} {Q : Exit → Env → World → Prop} (hN : ∀ e w, (m33_2 R w) → Q .normal e w) (hR : ∀ e w, (R (e 4) w) → Q .ret e w) (e : Env) (w : World) (h : m33_4 R (e 0) (e 1) (e 7) (e 8) w) : W33 k33_4 Q e w := by
  unfold m33_4 at h
  refine block_ok 0 (by kernel_rfl) ?_
  have hX0 : ∀ e w, (m33_2 R w) → (inBlockE 0 Q) (.exit 0) e w := fun e w h => inBlock_same (Q := Q) 0 (hN e w h)
  have hR : ∀ e w, (R (e 4) w) → (inBlockE 0 Q) .ret e w := fun e w h => block_R (hR e w h)
  refine loop_ok' (fun (e : Env) => e 8) [0, 1, 7] (by kernel_rfl) (by kernel_rfl) h (fun K e' w' hk h' => ?_)
  have r0 : e' 0 = e 0 := hk 0 (by decide)
  have r1 : e' 1 = e 1 := hk 1 (by decide)
  have r7 : e' 7 = e 7 := hk 7 (by decide)
  have hR : ∀ e w, (R (e 4) w) → (thenE (fun (e : Env) w => K (e 8) w) (inBlockE 0 Q)) .ret e w := fun e w h => then_R (hR e w h)
  have hX0 : ∀ e w, (m33_2 R w) → (thenE (fun (e : Env) w => K (e 8) w) (inBlockE 0 Q)) (.exit 0) e w := fun e w h => then_X (hX0 e w h)
  exact s33_5 (R := R) (Q := (thenE (fun (e : Env) w => K (e 8) w) (inBlockE 0 Q))) (K1 := K) (fun _ _ h => then_N h) hR hX0 e' w' (by rw [r0, r1, r7]; exact h')
theorem s33_1 {R : Value → World → Prop} {Q : Exit → Env → World → Prop} (hR : ∀ e w, (R (e 4) w) → Q .ret e w) (e : Env) (w : World) (h : m33_1 R (e 0) (e 1) w) : W33 k33_1 Q e w := by
  unfold m33_1 at h
  refine seq_ok' (by kernel_rfl) ?_
  have hN' : ∀ e w, (m33_2 R w) → (thenE (W33 k33_2 Q) Q) .normal e w := fun e w h => then_N (s33_2 (R := R) (Q := Q) hR e w h)
  have hR : ∀ e w, (R (e 4) w) → (thenE (W33 k33_2 Q) Q) .ret e w := fun e w h => then_R (hR e w h)
  have hN := hN'
  refine seq_ok' (by kernel_rfl) ?_
  have hN' : ∀ e w, (m33_4 R (e 0) (e 1) (e 7) (e 8) w) → (thenE (W33 k33_4 (thenE (W33 k33_2 Q) Q)) (thenE (W33 k33_2 Q) Q)) .normal e w := fun e w h => then_N (s33_4 (R := R) (Q := (thenE (W33 k33_2 Q) Q)) hN hR e w h)
  have hN := hN'
  exact region_ok 1 (fun e w => m33_4 R (e 0) (e 1) (e 7) (e 8) w) (by kernel_rfl) (kcast (by kernel_rfl) h) hN (by kernel_rfl)
theorem s33_0 {R : Value → World → Prop} {Q : Exit → Env → World → Prop} (hR : ∀ e w, (R (e 4) w) → Q .ret e w) (e : Env) (w : World) (h : m33_0 R (e 0) (e 1) w) : W33 k33_0 Q e w := by
  unfold m33_0 at h
  refine seq_ok' (by kernel_rfl) ?_
  have hN' : ∀ e w, (m33_1 R (e 0) (e 1) w) → (thenE (W33 k33_1 Q) Q) .normal e w := fun e w h => then_N (s33_1 (R := R) (Q := Q) hR e w h)
  have hN := hN'
  exact region_ok 0 (fun e w => m33_1 R (e 0) (e 1) w) (by kernel_rfl) (kcast (by kernel_rfl) h) hN (by kernel_rfl)
abbrev m33 (R : Value → World → Prop) (s0 : Value) (f1 : Value) (w : World) : Prop := m33_0 R s0 f1 w
theorem s33 (s0 : Value) (f1 : Value) {R : Value → World → Prop} {w : World} (h : m33 R s0 f1 w) :
    Calls Try.prog 33 #[s0, f1] w fun e w' => ∃ v, e = .returned v ∧ R v w' :=
  calls_of_cwp (st := (fun i => 0)) (c := k33_0) (by kernel_rfl) Try.func33 (by kernel_rfl) (Nat.le_of_ble_eq_true (by kernel_rfl)) (by kernel_rfl)
    (s33_0 (R := R) (Q := endE Try.prog Try.f33 R) (fun e w h => kcast (by kernel_rfl) h) (argsE #[s0, f1]) w (kcast (by kernel_rfl) h))
end Go.Proofs.Ytlgafiekogajfaa.M
