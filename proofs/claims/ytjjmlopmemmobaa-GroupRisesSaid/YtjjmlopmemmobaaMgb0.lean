/- What functions' texts ask of their ends, told over values that have names; printed by a program of this work. -/
import Derived.Test.YtjjmlopmemmobaaFw
import Derived.Test.YtjjmlopmemmobaaProg
namespace Go.Proofs.Ytjjmlopmemmobaa.M
open Go.Proofs.Ytjjmlopmemmobaa.F
set_option linter.unusedVariables false
set_option maxRecDepth 100000
/-! ### headgate/headgatelaw10.GroupRises -/
def m9_36 (R : VP) (t4 : Value) (w : World) : Prop :=
  R t4 w
def m9_33 (R : VP) (K1 : VP) (t4 : Value) (w : World) : Prop :=
  R t4 w
def m9_30 (R : VP) (K1 : VP) (K2 : VP) (t4 : Value) (w : World) : Prop :=
  R t4 w
def m9_27 (R : VP) (K1 : VP) (K2 : VP) (K3 : VP) (t4 : Value) (w : World) : Prop :=
  R t4 w
def m9_25 (R : VP) (K1 : VP) (K2 : VP) (K3 : VP) (l1 g5 i7 next9 was10 m11 k14 j15 : Value) (w : World) : Prop :=
  valP Try.prog (binS BinOp.add 3 (Operand.tmp 124) (Operand.const (Value.int IntKind.i64 1)) j15 (Value.int IntKind.i64 1)) w fun t125 w =>
  K3 t125 w
def m9_26 (R : VP) (K1 : VP) (K2 : VP) (K3 : VP) (l1 g5 i7 next9 was10 m11 k14 j15 t149 : Value) (w : World) : Prop :=
  condP t149
  (m9_27 R K1 K2 K3 (Value.bool false) w)
  (m9_25 R K1 K2 K3 l1 g5 i7 next9 was10 m11 k14 j15 w)
def m9_24 (R : VP) (K1 : VP) (K2 : VP) (K3 : VP) (l1 g5 i7 next9 was10 m11 k14 j15 : Value) (w : World) : Prop :=
  valQ Try.prog (Instr.indexAt 66 m11 j15) w fun t128 =>
  valQ Try.prog (Instr.fieldAt 69 t128 1) w fun t129 =>
  valQ Try.prog (Instr.loadAt 3 t129) w fun t130 =>
  valQ Try.prog (Instr.indexAt 66 m11 k14) w fun t133 =>
  valQ Try.prog (Instr.fieldAt 69 t133 1) w fun t134 =>
  valQ Try.prog (Instr.loadAt 3 t134) w fun t135 =>
  valQ Try.prog (binS BinOp.eql 3 (Operand.tmp 130) (Operand.tmp 135) t130 t135) w fun t136 =>
  condP t136
  (pickP t136 (Value.bool true) undef fun t149 =>
  anyDraw w fun w =>
  m9_26 R K1 K2 K3 l1 g5 i7 next9 was10 m11 k14 j15 t149 w)
  (valQ Try.prog (Instr.indexAt 66 m11 j15) w fun t140 =>
  valQ Try.prog (Instr.fieldAt 69 t140 0) w fun t141 =>
  valQ Try.prog (Instr.loadAt 3 t141) w fun t142 =>
  valQ Try.prog (Instr.indexAt 66 m11 k14) w fun t145 =>
  valQ Try.prog (Instr.fieldAt 69 t145 0) w fun t146 =>
  valQ Try.prog (Instr.loadAt 3 t146) w fun t147 =>
  valQ Try.prog (binS BinOp.geq 3 (Operand.tmp 142) (Operand.tmp 147) t142 t147) w fun t148 =>
  pickP t136 (Value.bool true) t148 fun t149 =>
  anyDraw w fun w =>
  m9_26 R K1 K2 K3 l1 g5 i7 next9 was10 m11 k14 j15 t149 w)
def m9_20 (R : VP) (K1 : VP) (K2 : VP) (l1 g5 i7 next9 was10 m11 k14 : Value) (w : World) : Prop :=
  valP Try.prog (binS BinOp.add 3 (Operand.tmp 92) (Operand.const (Value.int IntKind.i64 1)) k14 (Value.int IntKind.i64 1)) w fun t93 w =>
  K2 t93 w
def m9_28 (R : VP) (K1 : VP) (K2 : VP) (K3 : VP) (l1 g5 i7 next9 was10 m11 k14 j15 t123 : Value) (w : World) : Prop :=
  condP t123
  (m9_24 R K1 K2 K3 l1 g5 i7 next9 was10 m11 k14 j15 w)
  (m9_20 R K1 K2 l1 g5 i7 next9 was10 m11 k14 w)
def m9_23 (R : VP) (K1 : VP) (K2 : VP) (K3 : VP) (l1 g5 i7 next9 was10 m11 k14 j15 : Value) (w : World) : Prop :=
  valP Try.prog (binS BinOp.lss 3 (Operand.tmp 121) (Operand.tmp 122) j15 k14) w fun t123 w =>
  m9_28 R K1 K2 K3 l1 g5 i7 next9 was10 m11 k14 j15 t123 w
def m9_22 (R : VP) (K1 : VP) (K2 : VP) (l1 g5 i7 next9 was10 m11 k14 j15 : Value) (w : World) : Prop :=
  loopP (fun (K3 : VP) (s : Value) w => m9_23 R K1 K2 K3 l1 g5 i7 next9 was10 m11 k14 s w) j15 w
def m9_21 (R : VP) (K1 : VP) (K2 : VP) (l1 g5 i7 next9 was10 m11 k14 : Value) (w : World) : Prop :=
  m9_22 R K1 K2 l1 g5 i7 next9 was10 m11 k14 (Value.int IntKind.i64 0) w
def m9_29 (R : VP) (K1 : VP) (K2 : VP) (l1 g5 i7 next9 was10 m11 k14 t120 : Value) (w : World) : Prop :=
  condP t120
  (m9_30 R K1 K2 (Value.bool false) w)
  (m9_21 R K1 K2 l1 g5 i7 next9 was10 m11 k14 w)
def m9_19 (R : VP) (K1 : VP) (K2 : VP) (l1 g5 i7 next9 was10 m11 k14 : Value) (w : World) : Prop :=
  anyDraw w fun w =>
  heldP w fun J =>
  valJ Try.prog J (Instr.indexAt 66 m11 k14) fun t96 =>
  valJ Try.prog J (Instr.fieldAt 69 t96 0) fun t97 =>
  valJ Try.prog J (Instr.loadAt 3 t97) fun t98 =>
  callP Try.prog (fnV 45) #[g5] w fun t100 w =>
  stayP J w
  (valJ Try.prog J (binS BinOp.geq 3 (Operand.tmp 98) (Operand.tmp 100) t98 t100) fun t101 =>
  condP t101
  (pickP t101 (Value.bool true) undef fun t120 =>
  m9_29 R K1 K2 l1 g5 i7 next9 was10 m11 k14 t120 w)
  (valJ Try.prog J (Instr.indexAt 66 m11 k14) fun t105 =>
  valJ Try.prog J (Instr.fieldAt 69 t105 0) fun t106 =>
  valJ Try.prog J (Instr.loadAt 3 t106) fun t107 =>
  valJ Try.prog J (binS BinOp.geq 3 (Operand.tmp 107) (Operand.tmp 108) t107 next9) fun t109 =>
  condP t109
  (valJ Try.prog J (Instr.indexAt 66 m11 k14) fun t114 =>
  valJ Try.prog J (Instr.fieldAt 69 t114 0) fun t115 =>
  valJ Try.prog J (Instr.loadAt 3 t115) fun t116 =>
  callP Try.prog (fnV 21) #[was10, t116] w fun t117 w =>
  stayP J w
  (valJ Try.prog J (binS BinOp.gtr 3 (Operand.tmp 117) (Operand.const (Value.int IntKind.i64 0)) t117 (Value.int IntKind.i64 0)) fun t118 =>
  pickP t109 t118 (Value.bool false) fun t119 =>
  pickP t101 (Value.bool true) t119 fun t120 =>
  m9_29 R K1 K2 l1 g5 i7 next9 was10 m11 k14 t120 w))
  (pickP t109 undef (Value.bool false) fun t119 =>
  pickP t101 (Value.bool true) t119 fun t120 =>
  m9_29 R K1 K2 l1 g5 i7 next9 was10 m11 k14 t120 w)))
def m9_10 (R : VP) (K1 : VP) (l1 g5 i7 : Value) (w : World) : Prop :=
  valP Try.prog (binS BinOp.add 3 (Operand.tmp 33) (Operand.const (Value.int IntKind.i64 1)) i7 (Value.int IntKind.i64 1)) w fun t34 w =>
  K1 t34 w
def m9_31 (R : VP) (K1 : VP) (K2 : VP) (l1 g5 i7 next9 was10 m11 k14 t91 : Value) (w : World) : Prop :=
  condP t91
  (m9_19 R K1 K2 l1 g5 i7 next9 was10 m11 k14 w)
  (m9_10 R K1 l1 g5 i7 w)
def m9_18 (R : VP) (K1 : VP) (K2 : VP) (l1 g5 i7 next9 was10 m11 k14 : Value) (w : World) : Prop :=
  builtinP Try.prog Builtin.len #[66] 3 #[false] #[m11] w fun t90 w =>
  valP Try.prog (binS BinOp.lss 3 (Operand.tmp 88) (Operand.tmp 90) k14 t90) w fun t91 w =>
  m9_31 R K1 K2 l1 g5 i7 next9 was10 m11 k14 t91 w
def m9_17 (R : VP) (K1 : VP) (l1 g5 i7 next9 was10 m11 k14 : Value) (w : World) : Prop :=
  loopP (fun (K2 : VP) (s : Value) w => m9_18 R K1 K2 l1 g5 i7 next9 was10 m11 s w) k14 w
def m9_16 (R : VP) (K1 : VP) (l1 g5 i7 next9 was10 m11 : Value) (w : World) : Prop :=
  m9_17 R K1 l1 g5 i7 next9 was10 m11 (Value.int IntKind.i64 0) w
def m9_32 (R : VP) (K1 : VP) (l1 g5 i7 next9 was10 m11 t87 : Value) (w : World) : Prop :=
  condP t87
  (m9_33 R K1 (Value.bool false) w)
  (m9_16 R K1 l1 g5 i7 next9 was10 m11 w)
def m9_15 (R : VP) (K1 : VP) (l1 g5 i7 gen8 next9 was10 m11 turned13 : Value) (w : World) : Prop :=
  callP Try.prog (fnV 44) #[g5] w fun t57 w =>
  valP Try.prog (binS BinOp.lss 3 (Operand.tmp 57) (Operand.tmp 58) t57 gen8) w fun t59 w =>
  condP t59
  (pickP t59 (Value.bool true) undef fun t67 =>
  pickP t67 (Value.bool true) undef fun t74 =>
  pickP t74 (Value.bool true) undef fun t80 =>
  pickP t80 (Value.bool true) undef fun t87 =>
  m9_32 R K1 l1 g5 i7 next9 was10 m11 t87 w)
  (callP Try.prog (fnV 44) #[g5] w fun t62 w =>
  valP Try.prog (binS BinOp.gtr 3 (Operand.tmp 62) (Operand.tmp 63) t62 gen8) w fun t64 w =>
  valP Try.prog (binS BinOp.neq 4 (Operand.tmp 64) (Operand.tmp 65) t64 turned13) w fun t66 w =>
  pickP t59 (Value.bool true) t66 fun t67 =>
  condP t67
  (pickP t67 (Value.bool true) undef fun t74 =>
  pickP t74 (Value.bool true) undef fun t80 =>
  pickP t80 (Value.bool true) undef fun t87 =>
  m9_32 R K1 l1 g5 i7 next9 was10 m11 t87 w)
  (callP Try.prog (fnV 44) #[g5] w fun t70 w =>
  valP Try.prog (binS BinOp.add 3 (Operand.tmp 71) (Operand.const (Value.int IntKind.i64 1)) gen8 (Value.int IntKind.i64 1)) w fun t72 w =>
  valP Try.prog (binS BinOp.gtr 3 (Operand.tmp 70) (Operand.tmp 72) t70 t72) w fun t73 w =>
  pickP t67 (Value.bool true) t73 fun t74 =>
  condP t74
  (pickP t74 (Value.bool true) undef fun t80 =>
  pickP t80 (Value.bool true) undef fun t87 =>
  m9_32 R K1 l1 g5 i7 next9 was10 m11 t87 w)
  (callP Try.prog (fnV 45) #[g5] w fun t77 w =>
  valP Try.prog (binS BinOp.lss 3 (Operand.tmp 77) (Operand.tmp 78) t77 next9) w fun t79 w =>
  pickP t74 (Value.bool true) t79 fun t80 =>
  condP t80
  (pickP t80 (Value.bool true) undef fun t87 =>
  m9_32 R K1 l1 g5 i7 next9 was10 m11 t87 w)
  (callP Try.prog (fnV 45) #[g5] w fun t83 w =>
  valP Try.prog (binS BinOp.add 3 (Operand.tmp 84) (Operand.const (Value.int IntKind.i64 1)) next9 (Value.int IntKind.i64 1)) w fun t85 w =>
  valP Try.prog (binS BinOp.gtr 3 (Operand.tmp 83) (Operand.tmp 85) t83 t85) w fun t86 w =>
  pickP t80 (Value.bool true) t86 fun t87 =>
  m9_32 R K1 l1 g5 i7 next9 was10 m11 t87 w))))
def m9_14 (R : VP) (K1 : VP) (l1 g5 i7 gen8 next9 was10 m11 now12 : Value) (w : World) : Prop :=
  callP Try.prog (fnV 32) #[was10, now12] w fun t54 w =>
  valP Try.prog (Op.unary UnOp.not t54) w fun t55 w =>
  m9_15 R K1 l1 g5 i7 gen8 next9 was10 m11 t55 w
def m9_13 (R : VP) (K1 : VP) (l1 g5 i7 gen8 next9 was10 m11 : Value) (w : World) : Prop :=
  callP Try.prog (fnV 43) #[m11] w fun t51 w =>
  m9_14 R K1 l1 g5 i7 gen8 next9 was10 m11 t51 w
def m9_12 (R : VP) (K1 : VP) (l1 g5 i7 gen8 next9 was10 : Value) (w : World) : Prop :=
  callP Try.prog (fnV 39) #[g5] w fun t49 w =>
  m9_13 R K1 l1 g5 i7 gen8 next9 was10 t49 w
def m9_11 (R : VP) (K1 : VP) (l1 g5 i7 gen8 next9 was10 : Value) (w : World) : Prop :=
  valP Try.prog (Instr.indexAt 58 l1 i7) w fun t45 w =>
  valP Try.prog (Instr.loadAt 65 t45) w fun t46 w =>
  callP Try.prog (fnV 38) #[g5, t46] w fun t47 w =>
  m9_12 R K1 l1 g5 i7 gen8 next9 was10 w
def m9_9 (R : VP) (K1 : VP) (l1 g5 i7 : Value) (w : World) : Prop :=
  callP Try.prog (fnV 44) #[g5] w fun t36 w =>
  callP Try.prog (fnV 45) #[g5] w fun t38 w =>
  callP Try.prog (fnV 39) #[g5] w fun t40 w =>
  callP Try.prog (fnV 43) #[t40] w fun t41 w =>
  m9_11 R K1 l1 g5 i7 t36 t38 t41 w
def m9_6 (R : VP) (t4 : Value) (w : World) : Prop :=
  R t4 w
def m9_5 (R : VP) (w : World) : Prop :=
  callP Try.prog (fnV 40) #[] w fun t150 w =>
  m9_6 R t150 w
def m9_34 (R : VP) (K1 : VP) (l1 g5 i7 t32 : Value) (w : World) : Prop :=
  condP t32
  (m9_9 R K1 l1 g5 i7 w)
  (m9_5 R w)
def m9_8 (R : VP) (K1 : VP) (l1 g5 i7 : Value) (w : World) : Prop :=
  builtinP Try.prog Builtin.len #[58] 3 #[false] #[l1] w fun t31 w =>
  valP Try.prog (binS BinOp.lss 3 (Operand.tmp 29) (Operand.tmp 31) i7 t31) w fun t32 w =>
  m9_34 R K1 l1 g5 i7 t32 w
def m9_7 (R : VP) (l1 g5 i7 : Value) (w : World) : Prop :=
  loopP (fun (K1 : VP) (s : Value) w => m9_8 R K1 l1 g5 s w) i7 w
def m9_4 (R : VP) (l1 g5 : Value) (w : World) : Prop :=
  m9_7 R l1 g5 (Value.int IntKind.i64 0) w
def m9_3 (R : VP) (l1 g5 : Value) (w : World) : Prop :=
  callP Try.prog (fnV 37) #[l1] w fun t28 w =>
  m9_4 R t28 g5 w
def m9_35 (R : VP) (l1 g5 t26 : Value) (w : World) : Prop :=
  condP t26
  (m9_36 R (Value.bool false) w)
  (m9_3 R l1 g5 w)
def m9_2 (R : VP) (l1 g5 e6 : Value) (w : World) : Prop :=
  valP Try.prog (binS BinOp.neq 26 (Operand.tmp 21) (Operand.const (Value.int IntKind.i64 0)) e6 (Value.int IntKind.i64 0)) w fun t22 w =>
  condP t22
  (pickP t22 (Value.bool true) undef fun t26 =>
  m9_35 R l1 g5 t26 w)
  (valP Try.prog (binS BinOp.eql 59 (Operand.tmp 24) (Operand.const (Value.pointer none)) g5 (Value.pointer none)) w fun t25 w =>
  pickP t22 (Value.bool true) t25 fun t26 =>
  m9_35 R l1 g5 t26 w)
def m9_1 (R : VP) (sticky0 l1 : Value) (w : World) : Prop :=
  callP Try.prog (fnV 36) #[(Value.int IntKind.i64 3), sticky0, (Value.int IntKind.i64 5), (Value.int IntKind.i64 7)] w fun t18 w =>
  valP Try.prog (Instr.extract t18 0) w fun t19 w =>
  valP Try.prog (Instr.extract t18 1) w fun t20 w =>
  m9_2 R l1 t19 t20 w
def m9_0 (R : VP) (sticky0 l1 : Value) (w : World) : Prop :=
  m9_1 R sticky0 l1 w
abbrev W9 := cwp Try.prog (fun i => cond (Nat.beq i 23) 1 (0))
noncomputable def k9_0 : Code := (bodyOf Try.f9)
noncomputable def k9_1 : Code := (c2 k9_0)
noncomputable def k9_2 : Code := (c2 k9_1)
noncomputable def k9_3 : Code := (c2 k9_2)
noncomputable def k9_4 : Code := (c2 k9_3)
noncomputable def k9_5 : Code := (c2 k9_4)
noncomputable def k9_6 : Code := (c2 k9_5)
noncomputable def k9_7 : Code := (c2 (c1 k9_4))
noncomputable def k9_8 : Code := (c1 (c1 k9_7))
noncomputable def k9_9 : Code := (c2 k9_8)
noncomputable def k9_10 : Code := (c2 k9_9)
noncomputable def k9_11 : Code := (c2 (c1 (c1 k9_9)))
noncomputable def k9_12 : Code := (c2 k9_11)
noncomputable def k9_13 : Code := (c2 k9_12)
noncomputable def k9_14 : Code := (c2 k9_13)
noncomputable def k9_15 : Code := (c2 k9_14)
noncomputable def k9_16 : Code := (c2 k9_15)
noncomputable def k9_17 : Code := (c2 k9_16)
noncomputable def k9_18 : Code := (c1 (c1 k9_17))
noncomputable def k9_19 : Code := (c2 k9_18)
noncomputable def k9_20 : Code := (c2 k9_19)
noncomputable def k9_21 : Code := (c2 (c1 (c1 k9_19)))
noncomputable def k9_22 : Code := (c2 k9_21)
noncomputable def k9_23 : Code := (c1 (c1 k9_22))
noncomputable def k9_24 : Code := (c2 k9_23)
noncomputable def k9_25 : Code := (c2 k9_24)
noncomputable def k9_26 : Code := (c2 (c1 (c1 k9_24)))
noncomputable def k9_27 : Code := (c2 (c1 k9_26))
noncomputable def k9_28 : Code := (c2 (c1 k9_23))
noncomputable def k9_29 : Code := (c2 (c1 (c1 (c1 k9_19))))
noncomputable def k9_30 : Code := (c2 (c1 k9_29))
noncomputable def k9_31 : Code := (c2 (c1 k9_18))
noncomputable def k9_32 : Code := (c2 (c1 k9_15))
noncomputable def k9_33 : Code := (c2 (c1 k9_32))
noncomputable def k9_34 : Code := (c2 (c1 k9_8))
noncomputable def k9_35 : Code := (c2 (c1 k9_2))
noncomputable def k9_36 : Code := (c2 (c1 k9_35))
theorem s9_36 {R : VP} {Q : EQ} (hR : ∀ e w, (R (e 4) w) → Q .ret e w) (e : Env) (w : World) (h : m9_36 R (e 4) w) : W9 k9_36 Q e w := by
  unfold m9_36 at h
  exact reA (hR _ _ h)
theorem s9_33 {R : VP} {K1 : VP} {Q : EQ} (hR : ∀ e w, (R (e 4) w) → Q .ret e w) (e : Env) (w : World) (h : m9_33 R K1 (e 4) w) : W9 k9_33 Q e w := by
  unfold m9_33 at h
  exact reA (hR _ _ h)
theorem s9_30 {R : VP} {K1 : VP} {K2 : VP} {Q : EQ} (hR : ∀ e w, (R (e 4) w) → Q .ret e w) (e : Env) (w : World) (h : m9_30 R K1 K2 (e 4) w) : W9 k9_30 Q e w := by
  unfold m9_30 at h
  exact reA (hR _ _ h)
theorem s9_27 {R : VP} {K1 : VP} {K2 : VP} {K3 : VP} {Q : EQ} (hR : ∀ e w, (R (e 4) w) → Q .ret e w) (e : Env) (w : World) (h : m9_27 R K1 K2 K3 (e 4) w) : W9 k9_27 Q e w := by
  unfold m9_27 at h
  exact reA (hR _ _ h)
theorem s9_25 {R : VP} {K1 : VP} {K2 : VP} {K3 : VP} {Q : EQ} (hN : ∀ e w, (K3 (e 15) w) → Q .normal e w) (e : Env) (w : World) (h : m9_25 R K1 K2 K3 (e 1) (e 5) (e 7) (e 9) (e 10) (e 11) (e 14) (e 15) w) : W9 k9_25 Q e w := by
  unfold m9_25 at h
  exact rgA 22 (fun e w => K3 (e 15) w) h hN
theorem s9_26 {R : VP} {K1 : VP} {K2 : VP} {K3 : VP} {Q : EQ} (hN : ∀ e w, (m9_25 R K1 K2 K3 (e 1) (e 5) (e 7) (e 9) (e 10) (e 11) (e 14) (e 15) w) → Q .normal e w) (hR : ∀ e w, (R (e 4) w) → Q .ret e w) (e : Env) (w : World) (h : m9_26 R K1 K2 K3 (e 1) (e 5) (e 7) (e 9) (e 10) (e 11) (e 14) (e 15) (e 149) w) : W9 k9_26 Q e w := by
  unfold m9_26 at h
  refine coA (Operand.tmp 149) h (fun h1 => ?_) (fun h1 => ?_)
  · refine seA ?_
    have hN : ∀ e w, (m9_27 R K1 K2 K3 (e 4) w) → (thenE (W9 k9_27 Q) Q) .normal e w := fun e w h => then_N (s9_27 (R := R) (Q := Q) (K1 := K1) (K2 := K2) (K3 := K3) hR e w h)
    exact rgA 24 (fun e w => m9_27 R K1 K2 K3 (e 4) w) h1 hN
  · exact skA (hN _ _ h1)
theorem s9_24 {R : VP} {K1 : VP} {K2 : VP} {K3 : VP} {Q : EQ} (hN : ∀ e w, (K3 (e 15) w) → Q .normal e w) (hR : ∀ e w, (R (e 4) w) → Q .ret e w) (e : Env) (w : World) (h : m9_24 R K1 K2 K3 (e 1) (e 5) (e 7) (e 9) (e 10) (e 11) (e 14) (e 15) w) : W9 k9_24 Q e w := by
  unfold m9_24 at h
  refine seA ?_
  have hN : ∀ e w, (m9_25 R K1 K2 K3 (e 1) (e 5) (e 7) (e 9) (e 10) (e 11) (e 14) (e 15) w) → (thenE (W9 k9_25 Q) Q) .normal e w := fun e w h => then_N (s9_25 (R := R) (Q := Q) (K1 := K1) (K2 := K2) (K3 := K3) hN e w h)
  have hR : ∀ e w, (R (e 4) w) → (thenE (W9 k9_25 Q) Q) .ret e w := fun e w h => then_R (hR e w h)
  refine block_ok 5 (by kernel_rfl) ?_
  have hN : ∀ e w, (m9_25 R K1 K2 K3 (e 1) (e 5) (e 7) (e 9) (e 10) (e 11) (e 14) (e 15) w) → (inBlockE 5 (thenE (W9 k9_25 Q) Q)) .normal e w := fun e w h => block_N (hN e w h)
  have hR : ∀ e w, (R (e 4) w) → (inBlockE 5 (thenE (W9 k9_25 Q) Q)) .ret e w := fun e w h => block_R (hR e w h)
  refine seA ?_
  have hN : ∀ e w, (m9_26 R K1 K2 K3 (e 1) (e 5) (e 7) (e 9) (e 10) (e 11) (e 14) (e 15) (e 149) w) → (thenE (W9 k9_26 (inBlockE 5 (thenE (W9 k9_25 Q) Q))) (inBlockE 5 (thenE (W9 k9_25 Q) Q))) .normal e w := fun e w h => then_N (s9_26 (R := R) (Q := (inBlockE 5 (thenE (W9 k9_25 Q) Q))) (K1 := K1) (K2 := K2) (K3 := K3) hN hR e w h)
  exact quA 23 (fun e w => m9_26 R K1 K2 K3 (e 1) (e 5) (e 7) (e 9) (e 10) (e 11) (e 14) (e 15) (e 149) w) h hN
theorem s9_20 {R : VP} {K1 : VP} {K2 : VP} {Q : EQ} (hN : ∀ e w, (K2 (e 14) w) → Q .normal e w) (e : Env) (w : World) (h : m9_20 R K1 K2 (e 1) (e 5) (e 7) (e 9) (e 10) (e 11) (e 14) w) : W9 k9_20 Q e w := by
  unfold m9_20 at h
  exact rgA 17 (fun e w => K2 (e 14) w) h hN
theorem s9_28 {R : VP} {K1 : VP} {K2 : VP} {K3 : VP} {Q : EQ} (hN : ∀ e w, (m9_24 R K1 K2 K3 (e 1) (e 5) (e 7) (e 9) (e 10) (e 11) (e 14) (e 15) w) → Q .normal e w) (hX4 : ∀ e w, (m9_20 R K1 K2 (e 1) (e 5) (e 7) (e 9) (e 10) (e 11) (e 14) w) → Q (.exit 4) e w) (e : Env) (w : World) (h : m9_28 R K1 K2 K3 (e 1) (e 5) (e 7) (e 9) (e 10) (e 11) (e 14) (e 15) (e 123) w) : W9 k9_28 Q e w := by
  unfold m9_28 at h
  refine coA (Operand.tmp 123) h (fun h1 => ?_) (fun h1 => ?_)
  · exact skA (hN _ _ h1)
  · exact exA 4 (hX4 _ _ h1)
theorem s9_23 {R : VP} {K1 : VP} {K2 : VP} {K3 : VP} {Q : EQ} (hN : ∀ e w, (K3 (e 15) w) → Q .normal e w) (hR : ∀ e w, (R (e 4) w) → Q .ret e w) (hX4 : ∀ e w, (m9_20 R K1 K2 (e 1) (e 5) (e 7) (e 9) (e 10) (e 11) (e 14) w) → Q (.exit 4) e w) (e : Env) (w : World) (h : m9_23 R K1 K2 K3 (e 1) (e 5) (e 7) (e 9) (e 10) (e 11) (e 14) (e 15) w) : W9 k9_23 Q e w := by
  unfold m9_23 at h
  refine seA ?_
  have hN : ∀ e w, (m9_24 R K1 K2 K3 (e 1) (e 5) (e 7) (e 9) (e 10) (e 11) (e 14) (e 15) w) → (thenE (W9 k9_24 Q) Q) .normal e w := fun e w h => then_N (s9_24 (R := R) (Q := Q) (K1 := K1) (K2 := K2) (K3 := K3) hN hR e w h)
  have hX4 : ∀ e w, (m9_20 R K1 K2 (e 1) (e 5) (e 7) (e 9) (e 10) (e 11) (e 14) w) → (thenE (W9 k9_24 Q) Q) (.exit 4) e w := fun e w h => then_X (hX4 e w h)
  refine seA ?_
  have hN : ∀ e w, (m9_28 R K1 K2 K3 (e 1) (e 5) (e 7) (e 9) (e 10) (e 11) (e 14) (e 15) (e 123) w) → (thenE (W9 k9_28 (thenE (W9 k9_24 Q) Q)) (thenE (W9 k9_24 Q) Q)) .normal e w := fun e w h => then_N (s9_28 (R := R) (Q := (thenE (W9 k9_24 Q) Q)) (K1 := K1) (K2 := K2) (K3 := K3) hN hX4 e w h)
  exact rgA 21 (fun e w => m9_28 R K1 K2 K3 (e 1) (e 5) (e 7) (e 9) (e 10) (e 11) (e 14) (e 15) (e 123) w) h hN
theorem s9_22 {R : VP} {K1 : VP} {K2 : VP} {Q : EQ} (hN : ∀ e w, (m9_20 R K1 K2 (e 1) (e 5) (e 7) (e 9) (e 10) (e 11) (e 14) w) → Q .normal e w) (hR : ∀ e w, (R (e 4) w) → Q .ret e w) (e : Env) (w : World) (h : m9_22 R K1 K2 (e 1) (e 5) (e 7) (e 9) (e 10) (e 11) (e 14) (e 15) w) : W9 k9_22 Q e w := by
  unfold m9_22 at h
  refine block_ok 4 (by kernel_rfl) ?_
  have hX4 : ∀ e w, (m9_20 R K1 K2 (e 1) (e 5) (e 7) (e 9) (e 10) (e 11) (e 14) w) → (inBlockE 4 Q) (.exit 4) e w := fun e w h => inBlock_same (Q := Q) 4 (hN e w h)
  have hR : ∀ e w, (R (e 4) w) → (inBlockE 4 Q) .ret e w := fun e w h => block_R (hR e w h)
  refine loop_ok' (fun (e : Env) => e 15) [1, 5, 7, 9, 10, 11, 14] (by kernel_rfl) (by kernel_rfl) h (fun K e' w' hk h' => ?_)
  have r1 : e' 1 = e 1 := hk 1 (by decide)
  have r5 : e' 5 = e 5 := hk 5 (by decide)
  have r7 : e' 7 = e 7 := hk 7 (by decide)
  have r9 : e' 9 = e 9 := hk 9 (by decide)
  have r10 : e' 10 = e 10 := hk 10 (by decide)
  have r11 : e' 11 = e 11 := hk 11 (by decide)
  have r14 : e' 14 = e 14 := hk 14 (by decide)
  have hR : ∀ e w, (R (e 4) w) → (thenE (fun (e : Env) w => K (e 15) w) (inBlockE 4 Q)) .ret e w := fun e w h => then_R (hR e w h)
  have hX4 : ∀ e w, (m9_20 R K1 K2 (e 1) (e 5) (e 7) (e 9) (e 10) (e 11) (e 14) w) → (thenE (fun (e : Env) w => K (e 15) w) (inBlockE 4 Q)) (.exit 4) e w := fun e w h => then_X (hX4 e w h)
  exact s9_23 (R := R) (Q := (thenE (fun (e : Env) w => K (e 15) w) (inBlockE 4 Q))) (K1 := K1) (K2 := K2) (K3 := K) (fun _ _ h => then_N h) hR hX4 e' w' (by rw [r1, r5, r7, r9, r10, r11, r14]; exact h')
theorem s9_21 {R : VP} {K1 : VP} {K2 : VP} {Q : EQ} (hN : ∀ e w, (m9_20 R K1 K2 (e 1) (e 5) (e 7) (e 9) (e 10) (e 11) (e 14) w) → Q .normal e w) (hR : ∀ e w, (R (e 4) w) → Q .ret e w) (e : Env) (w : World) (h : m9_21 R K1 K2 (e 1) (e 5) (e 7) (e 9) (e 10) (e 11) (e 14) w) : W9 k9_21 Q e w := by
  unfold m9_21 at h
  refine seA ?_
  have hN : ∀ e w, (m9_22 R K1 K2 (e 1) (e 5) (e 7) (e 9) (e 10) (e 11) (e 14) (e 15) w) → (thenE (W9 k9_22 Q) Q) .normal e w := fun e w h => then_N (s9_22 (R := R) (Q := Q) (K1 := K1) (K2 := K2) hN hR e w h)
  exact rgA 20 (fun e w => m9_22 R K1 K2 (e 1) (e 5) (e 7) (e 9) (e 10) (e 11) (e 14) (e 15) w) h hN
theorem s9_29 {R : VP} {K1 : VP} {K2 : VP} {Q : EQ} (hN : ∀ e w, (m9_21 R K1 K2 (e 1) (e 5) (e 7) (e 9) (e 10) (e 11) (e 14) w) → Q .normal e w) (hR : ∀ e w, (R (e 4) w) → Q .ret e w) (e : Env) (w : World) (h : m9_29 R K1 K2 (e 1) (e 5) (e 7) (e 9) (e 10) (e 11) (e 14) (e 120) w) : W9 k9_29 Q e w := by
  unfold m9_29 at h
  refine coA (Operand.tmp 120) h (fun h1 => ?_) (fun h1 => ?_)
  · refine seA ?_
    have hN : ∀ e w, (m9_30 R K1 K2 (e 4) w) → (thenE (W9 k9_30 Q) Q) .normal e w := fun e w h => then_N (s9_30 (R := R) (Q := Q) (K1 := K1) (K2 := K2) hR e w h)
    exact rgA 19 (fun e w => m9_30 R K1 K2 (e 4) w) h1 hN
  · exact skA (hN _ _ h1)
theorem s9_19 {R : VP} {K1 : VP} {K2 : VP} {Q : EQ} (hN : ∀ e w, (K2 (e 14) w) → Q .normal e w) (hR : ∀ e w, (R (e 4) w) → Q .ret e w) (e : Env) (w : World) (h : m9_19 R K1 K2 (e 1) (e 5) (e 7) (e 9) (e 10) (e 11) (e 14) w) : W9 k9_19 Q e w := by
  unfold m9_19 at h
  refine seA ?_
  have hN : ∀ e w, (m9_20 R K1 K2 (e 1) (e 5) (e 7) (e 9) (e 10) (e 11) (e 14) w) → (thenE (W9 k9_20 Q) Q) .normal e w := fun e w h => then_N (s9_20 (R := R) (Q := Q) (K1 := K1) (K2 := K2) hN e w h)
  have hR : ∀ e w, (R (e 4) w) → (thenE (W9 k9_20 Q) Q) .ret e w := fun e w h => then_R (hR e w h)
  refine block_ok 3 (by kernel_rfl) ?_
  have hN : ∀ e w, (m9_20 R K1 K2 (e 1) (e 5) (e 7) (e 9) (e 10) (e 11) (e 14) w) → (inBlockE 3 (thenE (W9 k9_20 Q) Q)) .normal e w := fun e w h => block_N (hN e w h)
  have hR : ∀ e w, (R (e 4) w) → (inBlockE 3 (thenE (W9 k9_20 Q) Q)) .ret e w := fun e w h => block_R (hR e w h)
  refine seA ?_
  have hN : ∀ e w, (m9_21 R K1 K2 (e 1) (e 5) (e 7) (e 9) (e 10) (e 11) (e 14) w) → (thenE (W9 k9_21 (inBlockE 3 (thenE (W9 k9_20 Q) Q))) (inBlockE 3 (thenE (W9 k9_20 Q) Q))) .normal e w := fun e w h => then_N (s9_21 (R := R) (Q := (inBlockE 3 (thenE (W9 k9_20 Q) Q))) (K1 := K1) (K2 := K2) hN hR e w h)
  have hR : ∀ e w, (R (e 4) w) → (thenE (W9 k9_21 (inBlockE 3 (thenE (W9 k9_20 Q) Q))) (inBlockE 3 (thenE (W9 k9_20 Q) Q))) .ret e w := fun e w h => then_R (hR e w h)
  refine seA ?_
  have hN : ∀ e w, (m9_29 R K1 K2 (e 1) (e 5) (e 7) (e 9) (e 10) (e 11) (e 14) (e 120) w) → (thenE (W9 k9_29 (thenE (W9 k9_21 (inBlockE 3 (thenE (W9 k9_20 Q) Q))) (inBlockE 3 (thenE (W9 k9_20 Q) Q)))) (thenE (W9 k9_21 (inBlockE 3 (thenE (W9 k9_20 Q) Q))) (inBlockE 3 (thenE (W9 k9_20 Q) Q)))) .normal e w := fun e w h => then_N (s9_29 (R := R) (Q := (thenE (W9 k9_21 (inBlockE 3 (thenE (W9 k9_20 Q) Q))) (inBlockE 3 (thenE (W9 k9_20 Q) Q)))) (K1 := K1) (K2 := K2) hN hR e w h)
  exact treeJ_ok 18 27 [false, false, false, false, false, false, false, false, false, false, false, false, false, false, false, false, false, false, false, false, false, false, false, false, false, false, false] (.take 0 [true, false, false, false, false, false, false, false, false, false, false, false, false, false, false, false, false, false, false, false, false, false, false, false, false, false, false] (.take 1 [true, true, false, false, false, false, false, false, false, false, false, false, false, false, false, false, false, false, false, false, false, false, false, false, false, false, false] (.take 2 [true, true, true, false, false, false, false, false, false, false, false, false, false, false, false, false, false, false, false, false, false, false, false, false, false, false, false] (.take 3 [true, true, true, true, false, false, false, false, false, false, false, false, false, false, false, false, false, false, false, false, false, false, false, false, false, false, false] (.take 4 [true, true, true, true, true, false, false, false, false, false, false, false, false, false, false, false, false, false, false, false, false, false, false, false, false, false, false] (.take 5 [true, true, true, true, true, true, false, false, false, false, false, false, false, false, false, false, false, false, false, false, false, false, false, false, false, false, false] (.alt 6 [true, true, true, true, true, true, true, false, false, false, false, false, false, false, false, false, false, false, false, false, false, false, false, false, false, false, false] (.take 7 [true, true, true, true, true, true, true, true, false, false, false, false, false, false, false, false, false, false, false, false, false, false, false, false, false, false, false] (.take 8 [true, true, true, true, true, true, true, true, true, false, false, false, false, false, false, false, false, false, false, false, false, false, false, false, false, false, false] (.take 9 [true, true, true, true, true, true, true, true, true, true, false, false, false, false, false, false, false, false, false, false, false, false, false, false, false, false, false] (.take 10 [true, true, true, true, true, true, true, true, true, true, true, false, false, false, false, false, false, false, false, false, false, false, false, false, false, false, false] (.take 11 [true, true, true, true, true, true, true, true, true, true, true, true, false, false, false, false, false, false, false, false, false, false, false, false, false, false, false] (.take 12 [true, true, true, true, true, true, true, true, true, true, true, true, true, false, false, false, false, false, false, false, false, false, false, false, false, false, false] (.take 13 [true, true, true, true, true, true, true, true, true, true, true, true, true, true, false, false, false, false, false, false, false, false, false, false, false, false, false] (.take 14 [true, true, true, true, true, true, true, true, true, true, true, true, true, true, true, false, false, false, false, false, false, false, false, false, false, false, false] (.take 15 [true, true, true, true, true, true, true, true, true, true, true, true, true, true, true, true, false, false, false, false, false, false, false, false, false, false, false] (.take 16 [true, true, true, true, true, true, true, true, true, true, true, true, true, true, true, true, true, false, false, false, false, false, false, false, false, false, false] (.take 17 [true, true, true, true, true, true, true, true, true, true, true, true, true, true, true, true, true, true, false, false, false, false, false, false, false, false, false] (.take 18 [true, true, true, true, true, true, true, true, true, true, true, true, true, true, true, true, true, true, true, false, false, false, false, false, false, false, false] (.take 19 [true, true, true, true, true, true, true, true, true, true, true, true, true, true, true, true, true, true, true, true, false, false, false, false, false, false, false] (.take 20 [true, true, true, true, true, true, true, true, true, true, true, true, true, true, true, true, true, true, true, true, true, false, false, false, false, false, false] (.take 21 [true, true, true, true, true, true, true, true, true, true, true, true, true, true, true, true, true, true, true, true, true, true, false, false, false, false, false] (.take 22 [true, true, true, true, true, true, true, true, true, true, true, true, true, true, true, true, true, true, true, true, true, true, true, false, false, false, false] (.alt 23 [true, true, true, true, true, true, true, true, true, true, true, true, true, true, true, true, true, true, true, true, true, true, true, true, false, false, false] (.take 24 [true, true, true, true, true, true, true, true, true, true, true, true, true, true, true, true, true, true, true, true, true, true, true, true, true, false, false] (.take 25 [true, true, true, true, true, true, true, true, true, true, true, true, true, true, true, true, true, true, true, true, true, true, true, true, true, true, false] (.take 26 [true, true, true, true, true, true, true, true, true, true, true, true, true, true, true, true, true, true, true, true, true, true, true, true, true, true, true] .done))) .stop))))))))))))))))) .stop))))))) (fun e w => m9_29 R K1 K2 (e 1) (e 5) (e 7) (e 9) (e 10) (e 11) (e 14) (e 120) w) (by kernel_rfl) (by kernel_rfl) (by kernel_rfl) (by kernel_rfl) (by kernel_rfl) (by kernel_rfl) (kcast (by kernel_rfl) h) hN (by kernel_rfl)
theorem s9_10 {R : VP} {K1 : VP} {Q : EQ} (hN : ∀ e w, (K1 (e 7) w) → Q .normal e w) (e : Env) (w : World) (h : m9_10 R K1 (e 1) (e 5) (e 7) w) : W9 k9_10 Q e w := by
  unfold m9_10 at h
  exact rgA 7 (fun e w => K1 (e 7) w) h hN
theorem s9_31 {R : VP} {K1 : VP} {K2 : VP} {Q : EQ} (hN : ∀ e w, (m9_19 R K1 K2 (e 1) (e 5) (e 7) (e 9) (e 10) (e 11) (e 14) w) → Q .normal e w) (hX2 : ∀ e w, (m9_10 R K1 (e 1) (e 5) (e 7) w) → Q (.exit 2) e w) (e : Env) (w : World) (h : m9_31 R K1 K2 (e 1) (e 5) (e 7) (e 9) (e 10) (e 11) (e 14) (e 91) w) : W9 k9_31 Q e w := by
  unfold m9_31 at h
  refine coA (Operand.tmp 91) h (fun h1 => ?_) (fun h1 => ?_)
  · exact skA (hN _ _ h1)
  · exact exA 2 (hX2 _ _ h1)
theorem s9_18 {R : VP} {K1 : VP} {K2 : VP} {Q : EQ} (hN : ∀ e w, (K2 (e 14) w) → Q .normal e w) (hR : ∀ e w, (R (e 4) w) → Q .ret e w) (hX2 : ∀ e w, (m9_10 R K1 (e 1) (e 5) (e 7) w) → Q (.exit 2) e w) (e : Env) (w : World) (h : m9_18 R K1 K2 (e 1) (e 5) (e 7) (e 9) (e 10) (e 11) (e 14) w) : W9 k9_18 Q e w := by
  unfold m9_18 at h
  refine seA ?_
  have hN : ∀ e w, (m9_19 R K1 K2 (e 1) (e 5) (e 7) (e 9) (e 10) (e 11) (e 14) w) → (thenE (W9 k9_19 Q) Q) .normal e w := fun e w h => then_N (s9_19 (R := R) (Q := Q) (K1 := K1) (K2 := K2) hN hR e w h)
  have hX2 : ∀ e w, (m9_10 R K1 (e 1) (e 5) (e 7) w) → (thenE (W9 k9_19 Q) Q) (.exit 2) e w := fun e w h => then_X (hX2 e w h)
  refine seA ?_
  have hN : ∀ e w, (m9_31 R K1 K2 (e 1) (e 5) (e 7) (e 9) (e 10) (e 11) (e 14) (e 91) w) → (thenE (W9 k9_31 (thenE (W9 k9_19 Q) Q)) (thenE (W9 k9_19 Q) Q)) .normal e w := fun e w h => then_N (s9_31 (R := R) (Q := (thenE (W9 k9_19 Q) Q)) (K1 := K1) (K2 := K2) hN hX2 e w h)
  exact rgA 16 (fun e w => m9_31 R K1 K2 (e 1) (e 5) (e 7) (e 9) (e 10) (e 11) (e 14) (e 91) w) h hN
theorem s9_17 {R : VP} {K1 : VP} {Q : EQ} (hN : ∀ e w, (m9_10 R K1 (e 1) (e 5) (e 7) w) → Q .normal e w) (hR : ∀ e w, (R (e 4) w) → Q .ret e w) (e : Env) (w : World) (h : m9_17 R K1 (e 1) (e 5) (e 7) (e 9) (e 10) (e 11) (e 14) w) : W9 k9_17 Q e w := by
  unfold m9_17 at h
  refine block_ok 2 (by kernel_rfl) ?_
  have hX2 : ∀ e w, (m9_10 R K1 (e 1) (e 5) (e 7) w) → (inBlockE 2 Q) (.exit 2) e w := fun e w h => inBlock_same (Q := Q) 2 (hN e w h)
  have hR : ∀ e w, (R (e 4) w) → (inBlockE 2 Q) .ret e w := fun e w h => block_R (hR e w h)
  refine loop_ok' (fun (e : Env) => e 14) [1, 5, 7, 9, 10, 11] (by kernel_rfl) (by kernel_rfl) h (fun K e' w' hk h' => ?_)
  have r1 : e' 1 = e 1 := hk 1 (by decide)
  have r5 : e' 5 = e 5 := hk 5 (by decide)
  have r7 : e' 7 = e 7 := hk 7 (by decide)
  have r9 : e' 9 = e 9 := hk 9 (by decide)
  have r10 : e' 10 = e 10 := hk 10 (by decide)
  have r11 : e' 11 = e 11 := hk 11 (by decide)
  have hR : ∀ e w, (R (e 4) w) → (thenE (fun (e : Env) w => K (e 14) w) (inBlockE 2 Q)) .ret e w := fun e w h => then_R (hR e w h)
  have hX2 : ∀ e w, (m9_10 R K1 (e 1) (e 5) (e 7) w) → (thenE (fun (e : Env) w => K (e 14) w) (inBlockE 2 Q)) (.exit 2) e w := fun e w h => then_X (hX2 e w h)
  exact s9_18 (R := R) (Q := (thenE (fun (e : Env) w => K (e 14) w) (inBlockE 2 Q))) (K1 := K1) (K2 := K) (fun _ _ h => then_N h) hR hX2 e' w' (by rw [r1, r5, r7, r9, r10, r11]; exact h')
theorem s9_16 {R : VP} {K1 : VP} {Q : EQ} (hN : ∀ e w, (m9_10 R K1 (e 1) (e 5) (e 7) w) → Q .normal e w) (hR : ∀ e w, (R (e 4) w) → Q .ret e w) (e : Env) (w : World) (h : m9_16 R K1 (e 1) (e 5) (e 7) (e 9) (e 10) (e 11) w) : W9 k9_16 Q e w := by
  unfold m9_16 at h
  refine seA ?_
  have hN : ∀ e w, (m9_17 R K1 (e 1) (e 5) (e 7) (e 9) (e 10) (e 11) (e 14) w) → (thenE (W9 k9_17 Q) Q) .normal e w := fun e w h => then_N (s9_17 (R := R) (Q := Q) (K1 := K1) hN hR e w h)
  exact rgA 15 (fun e w => m9_17 R K1 (e 1) (e 5) (e 7) (e 9) (e 10) (e 11) (e 14) w) h hN
theorem s9_32 {R : VP} {K1 : VP} {Q : EQ} (hN : ∀ e w, (m9_16 R K1 (e 1) (e 5) (e 7) (e 9) (e 10) (e 11) w) → Q .normal e w) (hR : ∀ e w, (R (e 4) w) → Q .ret e w) (e : Env) (w : World) (h : m9_32 R K1 (e 1) (e 5) (e 7) (e 9) (e 10) (e 11) (e 87) w) : W9 k9_32 Q e w := by
  unfold m9_32 at h
  refine coA (Operand.tmp 87) h (fun h1 => ?_) (fun h1 => ?_)
  · refine seA ?_
    have hN : ∀ e w, (m9_33 R K1 (e 4) w) → (thenE (W9 k9_33 Q) Q) .normal e w := fun e w h => then_N (s9_33 (R := R) (Q := Q) (K1 := K1) hR e w h)
    exact rgA 14 (fun e w => m9_33 R K1 (e 4) w) h1 hN
  · exact skA (hN _ _ h1)
theorem s9_15 {R : VP} {K1 : VP} {Q : EQ} (hN : ∀ e w, (m9_10 R K1 (e 1) (e 5) (e 7) w) → Q .normal e w) (hR : ∀ e w, (R (e 4) w) → Q .ret e w) (e : Env) (w : World) (h : m9_15 R K1 (e 1) (e 5) (e 7) (e 8) (e 9) (e 10) (e 11) (e 13) w) : W9 k9_15 Q e w := by
  unfold m9_15 at h
  refine seA ?_
  have hN : ∀ e w, (m9_16 R K1 (e 1) (e 5) (e 7) (e 9) (e 10) (e 11) w) → (thenE (W9 k9_16 Q) Q) .normal e w := fun e w h => then_N (s9_16 (R := R) (Q := Q) (K1 := K1) hN hR e w h)
  have hR : ∀ e w, (R (e 4) w) → (thenE (W9 k9_16 Q) Q) .ret e w := fun e w h => then_R (hR e w h)
  refine seA ?_
  have hN : ∀ e w, (m9_32 R K1 (e 1) (e 5) (e 7) (e 9) (e 10) (e 11) (e 87) w) → (thenE (W9 k9_32 (thenE (W9 k9_16 Q) Q)) (thenE (W9 k9_16 Q) Q)) .normal e w := fun e w h => then_N (s9_32 (R := R) (Q := (thenE (W9 k9_16 Q) Q)) (K1 := K1) hN hR e w h)
  exact rgK 13 (fun e w => m9_32 R K1 (e 1) (e 5) (e 7) (e 9) (e 10) (e 11) (e 87) w) h hN
theorem s9_14 {R : VP} {K1 : VP} {Q : EQ} (hN : ∀ e w, (m9_10 R K1 (e 1) (e 5) (e 7) w) → Q .normal e w) (hR : ∀ e w, (R (e 4) w) → Q .ret e w) (e : Env) (w : World) (h : m9_14 R K1 (e 1) (e 5) (e 7) (e 8) (e 9) (e 10) (e 11) (e 12) w) : W9 k9_14 Q e w := by
  unfold m9_14 at h
  refine seA ?_
  have hN : ∀ e w, (m9_15 R K1 (e 1) (e 5) (e 7) (e 8) (e 9) (e 10) (e 11) (e 13) w) → (thenE (W9 k9_15 Q) Q) .normal e w := fun e w h => then_N (s9_15 (R := R) (Q := Q) (K1 := K1) hN hR e w h)
  exact rgA 12 (fun e w => m9_15 R K1 (e 1) (e 5) (e 7) (e 8) (e 9) (e 10) (e 11) (e 13) w) h hN
theorem s9_13 {R : VP} {K1 : VP} {Q : EQ} (hN : ∀ e w, (m9_10 R K1 (e 1) (e 5) (e 7) w) → Q .normal e w) (hR : ∀ e w, (R (e 4) w) → Q .ret e w) (e : Env) (w : World) (h : m9_13 R K1 (e 1) (e 5) (e 7) (e 8) (e 9) (e 10) (e 11) w) : W9 k9_13 Q e w := by
  unfold m9_13 at h
  refine seA ?_
  have hN : ∀ e w, (m9_14 R K1 (e 1) (e 5) (e 7) (e 8) (e 9) (e 10) (e 11) (e 12) w) → (thenE (W9 k9_14 Q) Q) .normal e w := fun e w h => then_N (s9_14 (R := R) (Q := Q) (K1 := K1) hN hR e w h)
  exact rgA 11 (fun e w => m9_14 R K1 (e 1) (e 5) (e 7) (e 8) (e 9) (e 10) (e 11) (e 12) w) h hN
theorem s9_12 {R : VP} {K1 : VP} {Q : EQ} (hN : ∀ e w, (m9_10 R K1 (e 1) (e 5) (e 7) w) → Q .normal e w) (hR : ∀ e w, (R (e 4) w) → Q .ret e w) (e : Env) (w : World) (h : m9_12 R K1 (e 1) (e 5) (e 7) (e 8) (e 9) (e 10) w) : W9 k9_12 Q e w := by
  unfold m9_12 at h
  refine seA ?_
  have hN : ∀ e w, (m9_13 R K1 (e 1) (e 5) (e 7) (e 8) (e 9) (e 10) (e 11) w) → (thenE (W9 k9_13 Q) Q) .normal e w := fun e w h => then_N (s9_13 (R := R) (Q := Q) (K1 := K1) hN hR e w h)
  exact rgA 10 (fun e w => m9_13 R K1 (e 1) (e 5) (e 7) (e 8) (e 9) (e 10) (e 11) w) h hN
theorem s9_11 {R : VP} {K1 : VP} {Q : EQ} (hN : ∀ e w, (m9_10 R K1 (e 1) (e 5) (e 7) w) → Q .normal e w) (hR : ∀ e w, (R (e 4) w) → Q .ret e w) (e : Env) (w : World) (h : m9_11 R K1 (e 1) (e 5) (e 7) (e 8) (e 9) (e 10) w) : W9 k9_11 Q e w := by
  unfold m9_11 at h
  refine seA ?_
  have hN : ∀ e w, (m9_12 R K1 (e 1) (e 5) (e 7) (e 8) (e 9) (e 10) w) → (thenE (W9 k9_12 Q) Q) .normal e w := fun e w h => then_N (s9_12 (R := R) (Q := Q) (K1 := K1) hN hR e w h)
  exact rgA 9 (fun e w => m9_12 R K1 (e 1) (e 5) (e 7) (e 8) (e 9) (e 10) w) h hN
theorem s9_9 {R : VP} {K1 : VP} {Q : EQ} (hN : ∀ e w, (K1 (e 7) w) → Q .normal e w) (hR : ∀ e w, (R (e 4) w) → Q .ret e w) (e : Env) (w : World) (h : m9_9 R K1 (e 1) (e 5) (e 7) w) : W9 k9_9 Q e w := by
  unfold m9_9 at h
  refine seA ?_
  have hN : ∀ e w, (m9_10 R K1 (e 1) (e 5) (e 7) w) → (thenE (W9 k9_10 Q) Q) .normal e w := fun e w h => then_N (s9_10 (R := R) (Q := Q) (K1 := K1) hN e w h)
  have hR : ∀ e w, (R (e 4) w) → (thenE (W9 k9_10 Q) Q) .ret e w := fun e w h => then_R (hR e w h)
  refine block_ok 1 (by kernel_rfl) ?_
  have hN : ∀ e w, (m9_10 R K1 (e 1) (e 5) (e 7) w) → (inBlockE 1 (thenE (W9 k9_10 Q) Q)) .normal e w := fun e w h => block_N (hN e w h)
  have hR : ∀ e w, (R (e 4) w) → (inBlockE 1 (thenE (W9 k9_10 Q) Q)) .ret e w := fun e w h => block_R (hR e w h)
  refine seA ?_
  have hN : ∀ e w, (m9_11 R K1 (e 1) (e 5) (e 7) (e 8) (e 9) (e 10) w) → (thenE (W9 k9_11 (inBlockE 1 (thenE (W9 k9_10 Q) Q))) (inBlockE 1 (thenE (W9 k9_10 Q) Q))) .normal e w := fun e w h => then_N (s9_11 (R := R) (Q := (inBlockE 1 (thenE (W9 k9_10 Q) Q))) (K1 := K1) hN hR e w h)
  exact rgA 8 (fun e w => m9_11 R K1 (e 1) (e 5) (e 7) (e 8) (e 9) (e 10) w) h hN
theorem s9_6 {R : VP} {Q : EQ} (hR : ∀ e w, (R (e 4) w) → Q .ret e w) (e : Env) (w : World) (h : m9_6 R (e 4) w) : W9 k9_6 Q e w := by
  unfold m9_6 at h
  exact reA (hR _ _ h)
theorem s9_5 {R : VP} {Q : EQ} (hR : ∀ e w, (R (e 4) w) → Q .ret e w) (e : Env) (w : World) (h : m9_5 R w) : W9 k9_5 Q e w := by
  unfold m9_5 at h
  refine seA ?_
  have hN : ∀ e w, (m9_6 R (e 4) w) → (thenE (W9 k9_6 Q) Q) .normal e w := fun e w h => then_N (s9_6 (R := R) (Q := Q) hR e w h)
  exact rgA 25 (fun e w => m9_6 R (e 4) w) h hN
theorem s9_34 {R : VP} {K1 : VP} {Q : EQ} (hN : ∀ e w, (m9_9 R K1 (e 1) (e 5) (e 7) w) → Q .normal e w) (hX0 : ∀ e w, (m9_5 R w) → Q (.exit 0) e w) (e : Env) (w : World) (h : m9_34 R K1 (e 1) (e 5) (e 7) (e 32) w) : W9 k9_34 Q e w := by
  unfold m9_34 at h
  refine coA (Operand.tmp 32) h (fun h1 => ?_) (fun h1 => ?_)
  · exact skA (hN _ _ h1)
  · exact exA 0 (hX0 _ _ h1)
theorem s9_8 {R : VP} {K1 : VP} {Q : EQ} (hN : ∀ e w, (K1 (e 7) w) → Q .normal e w) (hR : ∀ e w, (R (e 4) w) → Q .ret e w) (hX0 : ∀ e w, (m9_5 R w) → Q (.exit 0) e w) (e : Env) (w : World) (h : m9_8 R K1 (e 1) (e 5) (e 7) w) : W9 k9_8 Q e w := by
  unfold m9_8 at h
  refine seA ?_
  have hN : ∀ e w, (m9_9 R K1 (e 1) (e 5) (e 7) w) → (thenE (W9 k9_9 Q) Q) .normal e w := fun e w h => then_N (s9_9 (R := R) (Q := Q) (K1 := K1) hN hR e w h)
  have hX0 : ∀ e w, (m9_5 R w) → (thenE (W9 k9_9 Q) Q) (.exit 0) e w := fun e w h => then_X (hX0 e w h)
  refine seA ?_
  have hN : ∀ e w, (m9_34 R K1 (e 1) (e 5) (e 7) (e 32) w) → (thenE (W9 k9_34 (thenE (W9 k9_9 Q) Q)) (thenE (W9 k9_9 Q) Q)) .normal e w := fun e w h => then_N (s9_34 (R := R) (Q := (thenE (W9 k9_9 Q) Q)) (K1 := K1) hN hX0 e w h)
  exact rgA 6 (fun e w => m9_34 R K1 (e 1) (e 5) (e 7) (e 32) w) h hN
theorem s9_7 {R : VP} {Q : EQ} (hN : ∀ e w, (m9_5 R w) → Q .normal e w) (hR : ∀ e w, (R (e 4) w) → Q .ret e w) (e : Env) (w : World) (h : m9_7 R (e 1) (e 5) (e 7) w) : W9 k9_7 Q e w := by
  unfold m9_7 at h
  refine block_ok 0 (by kernel_rfl) ?_
  have hX0 : ∀ e w, (m9_5 R w) → (inBlockE 0 Q) (.exit 0) e w := fun e w h => inBlock_same (Q := Q) 0 (hN e w h)
  have hR : ∀ e w, (R (e 4) w) → (inBlockE 0 Q) .ret e w := fun e w h => block_R (hR e w h)
  refine loop_ok' (fun (e : Env) => e 7) [1, 5] (by kernel_rfl) (by kernel_rfl) h (fun K e' w' hk h' => ?_)
  have r1 : e' 1 = e 1 := hk 1 (by decide)
  have r5 : e' 5 = e 5 := hk 5 (by decide)
  have hR : ∀ e w, (R (e 4) w) → (thenE (fun (e : Env) w => K (e 7) w) (inBlockE 0 Q)) .ret e w := fun e w h => then_R (hR e w h)
  have hX0 : ∀ e w, (m9_5 R w) → (thenE (fun (e : Env) w => K (e 7) w) (inBlockE 0 Q)) (.exit 0) e w := fun e w h => then_X (hX0 e w h)
  exact s9_8 (R := R) (Q := (thenE (fun (e : Env) w => K (e 7) w) (inBlockE 0 Q))) (K1 := K) (fun _ _ h => then_N h) hR hX0 e' w' (by rw [r1, r5]; exact h')
theorem s9_4 {R : VP} {Q : EQ} (hR : ∀ e w, (R (e 4) w) → Q .ret e w) (e : Env) (w : World) (h : m9_4 R (e 1) (e 5) w) : W9 k9_4 Q e w := by
  unfold m9_4 at h
  refine seA ?_
  have hN : ∀ e w, (m9_5 R w) → (thenE (W9 k9_5 Q) Q) .normal e w := fun e w h => then_N (s9_5 (R := R) (Q := Q) hR e w h)
  have hR : ∀ e w, (R (e 4) w) → (thenE (W9 k9_5 Q) Q) .ret e w := fun e w h => then_R (hR e w h)
  refine seA ?_
  have hN : ∀ e w, (m9_7 R (e 1) (e 5) (e 7) w) → (thenE (W9 k9_7 (thenE (W9 k9_5 Q) Q)) (thenE (W9 k9_5 Q) Q)) .normal e w := fun e w h => then_N (s9_7 (R := R) (Q := (thenE (W9 k9_5 Q) Q)) hN hR e w h)
  exact rgA 5 (fun e w => m9_7 R (e 1) (e 5) (e 7) w) h hN
theorem s9_3 {R : VP} {Q : EQ} (hR : ∀ e w, (R (e 4) w) → Q .ret e w) (e : Env) (w : World) (h : m9_3 R (e 1) (e 5) w) : W9 k9_3 Q e w := by
  unfold m9_3 at h
  refine seA ?_
  have hN : ∀ e w, (m9_4 R (e 1) (e 5) w) → (thenE (W9 k9_4 Q) Q) .normal e w := fun e w h => then_N (s9_4 (R := R) (Q := Q) hR e w h)
  exact rgA 4 (fun e w => m9_4 R (e 1) (e 5) w) h hN
theorem s9_35 {R : VP} {Q : EQ} (hN : ∀ e w, (m9_3 R (e 1) (e 5) w) → Q .normal e w) (hR : ∀ e w, (R (e 4) w) → Q .ret e w) (e : Env) (w : World) (h : m9_35 R (e 1) (e 5) (e 26) w) : W9 k9_35 Q e w := by
  unfold m9_35 at h
  refine coA (Operand.tmp 26) h (fun h1 => ?_) (fun h1 => ?_)
  · refine seA ?_
    have hN : ∀ e w, (m9_36 R (e 4) w) → (thenE (W9 k9_36 Q) Q) .normal e w := fun e w h => then_N (s9_36 (R := R) (Q := Q) hR e w h)
    exact rgA 3 (fun e w => m9_36 R (e 4) w) h1 hN
  · exact skA (hN _ _ h1)
theorem s9_2 {R : VP} {Q : EQ} (hR : ∀ e w, (R (e 4) w) → Q .ret e w) (e : Env) (w : World) (h : m9_2 R (e 1) (e 5) (e 6) w) : W9 k9_2 Q e w := by
  unfold m9_2 at h
  refine seA ?_
  have hN : ∀ e w, (m9_3 R (e 1) (e 5) w) → (thenE (W9 k9_3 Q) Q) .normal e w := fun e w h => then_N (s9_3 (R := R) (Q := Q) hR e w h)
  have hR : ∀ e w, (R (e 4) w) → (thenE (W9 k9_3 Q) Q) .ret e w := fun e w h => then_R (hR e w h)
  refine seA ?_
  have hN : ∀ e w, (m9_35 R (e 1) (e 5) (e 26) w) → (thenE (W9 k9_35 (thenE (W9 k9_3 Q) Q)) (thenE (W9 k9_3 Q) Q)) .normal e w := fun e w h => then_N (s9_35 (R := R) (Q := (thenE (W9 k9_3 Q) Q)) hN hR e w h)
  exact rgA 2 (fun e w => m9_35 R (e 1) (e 5) (e 26) w) h hN
theorem s9_1 {R : VP} {Q : EQ} (hR : ∀ e w, (R (e 4) w) → Q .ret e w) (e : Env) (w : World) (h : m9_1 R (e 0) (e 1) w) : W9 k9_1 Q e w := by
  unfold m9_1 at h
  refine seA ?_
  have hN : ∀ e w, (m9_2 R (e 1) (e 5) (e 6) w) → (thenE (W9 k9_2 Q) Q) .normal e w := fun e w h => then_N (s9_2 (R := R) (Q := Q) hR e w h)
  exact rgA 1 (fun e w => m9_2 R (e 1) (e 5) (e 6) w) h hN
theorem s9_0 {R : VP} {Q : EQ} (hR : ∀ e w, (R (e 4) w) → Q .ret e w) (e : Env) (w : World) (h : m9_0 R (e 0) (e 1) w) : W9 k9_0 Q e w := by
  unfold m9_0 at h
  refine seA ?_
  have hN : ∀ e w, (m9_1 R (e 0) (e 1) w) → (thenE (W9 k9_1 Q) Q) .normal e w := fun e w h => then_N (s9_1 (R := R) (Q := Q) hR e w h)
  exact rgA 0 (fun e w => m9_1 R (e 0) (e 1) w) h hN
abbrev m9 (R : VP) (sticky0 l1 : Value) (w : World) : Prop := m9_0 R sticky0 l1 w
theorem s9 (sticky0 l1 : Value) {R : VP} {w : World} (h : m9 R sticky0 l1 w) :
    Calls Try.prog 9 #[sticky0, l1] w fun e w' => ∃ v, e = .returned v ∧ R v w' :=
  calls_of_cwp (st := (fun i => cond (Nat.beq i 23) 1 (0))) (c := k9_0) (by kernel_rfl) Try.func9 (by kernel_rfl) (Nat.le_of_ble_eq_true (by kernel_rfl)) (by kernel_rfl)
    (s9_0 (R := R) (Q := endE Try.prog Try.f9 R) (fun e w h => kcast (by kernel_rfl) h) (argsE #[sticky0, l1]) w (kcast (by kernel_rfl) h))
end Go.Proofs.Ytjjmlopmemmobaa.M
