/- What functions' texts ask of their ends, told over values that have names; printed by a program of this work. -/
import Derived.Test.YtjjmlopmemmobaaFw
import Derived.Test.YtjjmlopmemmobaaProg
namespace Go.Proofs.Ytjjmlopmemmobaa.M
open Go.Proofs.Ytjjmlopmemmobaa.F
set_option linter.unusedVariables false
set_option maxRecDepth 100000
/-! ### headgate/headgatelaw35.CoopPlays -/
def m5_36 (R : VP) (t4 : Value) (w : World) : Prop :=
  R t4 w
def m5_34 (R : VP) (t4 : Value) (w : World) : Prop :=
  R t4 w
def m5_20 (R : VP) (K1 : VP) (t4 : Value) (w : World) : Prop :=
  R t4 w
def m5_16 (R : VP) (K1 : VP) (t4 : Value) (w : World) : Prop :=
  R t4 w
def m5_12 (R : VP) (K1 : VP) (l1 c5 r7 i9 : Value) (w : World) : Prop :=
  valP Try.prog (binS BinOp.add 3 (Operand.tmp 44) (Operand.const (Value.int IntKind.i64 1)) i9 (Value.int IntKind.i64 1)) w fun t45 w =>
  K1 t45 w
def m5_15 (R : VP) (K1 : VP) (l1 c5 r7 i9 t165 : Value) (w : World) : Prop :=
  condP t165
  (m5_16 R K1 (Value.bool false) w)
  (m5_12 R K1 l1 c5 r7 i9 w)
def m5_14 (R : VP) (K1 : VP) (l1 c5 r7 i9 : Value) (w : World) : Prop :=
  anyDraw w fun w =>
  heldP w fun J =>
  nilCheckP r7 fun t118 =>
  valJ Try.prog J (Instr.fieldAt 55 t118 0) fun t119 =>
  valJ Try.prog J (Instr.loadAt 3 t119) fun t120 =>
  callP Try.prog (fnV 35) #[c5] w fun t116 w =>
  stayP J w
  (valJ Try.prog J (binS BinOp.neq 3 (Operand.tmp 116) (Operand.tmp 120) t116 t120) fun t121 =>
  condP t121
  (pickP t121 (Value.bool true) undef fun t131 =>
  pickP t131 (Value.bool true) undef fun t141 =>
  pickP t141 (Value.bool true) undef fun t151 =>
  pickP t151 (Value.bool true) undef fun t165 =>
  m5_15 R K1 l1 c5 r7 i9 t165 w)
  (nilCheckP r7 fun t126 =>
  valJ Try.prog J (Instr.fieldAt 55 t126 1) fun t127 =>
  valJ Try.prog J (Instr.loadAt 28 t127) fun t128 =>
  callP Try.prog (fnV 18) #[c5] w fun t124 w =>
  stayP J w
  (callP Try.prog (fnV 32) #[t124, t128] w fun t129 w =>
  stayP J w
  (valJ Try.prog J (Op.unary UnOp.not t129) fun t130 =>
  pickP t121 (Value.bool true) t130 fun t131 =>
  condP t131
  (pickP t131 (Value.bool true) undef fun t141 =>
  pickP t141 (Value.bool true) undef fun t151 =>
  pickP t151 (Value.bool true) undef fun t165 =>
  m5_15 R K1 l1 c5 r7 i9 t165 w)
  (nilCheckP r7 fun t136 =>
  valJ Try.prog J (Instr.fieldAt 55 t136 2) fun t137 =>
  valJ Try.prog J (Instr.loadAt 28 t137) fun t138 =>
  callP Try.prog (fnV 19) #[c5] w fun t134 w =>
  stayP J w
  (callP Try.prog (fnV 32) #[t134, t138] w fun t139 w =>
  stayP J w
  (valJ Try.prog J (Op.unary UnOp.not t139) fun t140 =>
  pickP t131 (Value.bool true) t140 fun t141 =>
  condP t141
  (pickP t141 (Value.bool true) undef fun t151 =>
  pickP t151 (Value.bool true) undef fun t165 =>
  m5_15 R K1 l1 c5 r7 i9 t165 w)
  (nilCheckP r7 fun t146 =>
  valJ Try.prog J (Instr.fieldAt 55 t146 3) fun t147 =>
  valJ Try.prog J (Instr.loadAt 28 t147) fun t148 =>
  callP Try.prog (fnV 20) #[c5] w fun t144 w =>
  stayP J w
  (callP Try.prog (fnV 32) #[t144, t148] w fun t149 w =>
  stayP J w
  (valJ Try.prog J (Op.unary UnOp.not t149) fun t150 =>
  pickP t141 (Value.bool true) t150 fun t151 =>
  condP t151
  (pickP t151 (Value.bool true) undef fun t165 =>
  m5_15 R K1 l1 c5 r7 i9 t165 w)
  (nilCheckP r7 fun t156 =>
  valJ Try.prog J (Instr.fieldAt 55 t156 2) fun t157 =>
  valJ Try.prog J (Instr.loadAt 28 t157) fun t158 =>
  nilCheckP r7 fun t160 =>
  valJ Try.prog J (Instr.fieldAt 55 t160 3) fun t161 =>
  valJ Try.prog J (Instr.loadAt 28 t161) fun t162 =>
  callP Try.prog (fnV 23) #[c5] w fun t154 w =>
  stayP J w
  (callP Try.prog (fnV 32) #[t158, t162] w fun t163 w =>
  stayP J w
  (valJ Try.prog J (binS BinOp.neq 4 (Operand.tmp 154) (Operand.tmp 163) t154 t163) fun t164 =>
  pickP t151 (Value.bool true) t164 fun t165 =>
  m5_15 R K1 l1 c5 r7 i9 t165 w)))))))))))))
def m5_19 (R : VP) (K1 : VP) (l1 c5 r7 i9 t78 : Value) (w : World) : Prop :=
  condP t78
  (m5_20 R K1 (Value.bool false) w)
  (m5_14 R K1 l1 c5 r7 i9 w)
def m5_23 (R : VP) (K1 : VP) (t4 : Value) (w : World) : Prop :=
  R t4 w
def m5_22 (R : VP) (K1 : VP) (l1 c5 r7 i9 t89 : Value) (w : World) : Prop :=
  condP t89
  (m5_23 R K1 (Value.bool false) w)
  (m5_14 R K1 l1 c5 r7 i9 w)
def m5_28 (R : VP) (K1 : VP) (t4 : Value) (w : World) : Prop :=
  R t4 w
def m5_27 (R : VP) (K1 : VP) (l1 c5 r7 i9 t114 : Value) (w : World) : Prop :=
  condP t114
  (m5_28 R K1 (Value.bool false) w)
  (m5_14 R K1 l1 c5 r7 i9 w)
def m5_26 (R : VP) (K1 : VP) (l1 c5 r7 i9 a11 g12 b13 h14 : Value) (w : World) : Prop :=
  callP Try.prog (fnV 32) #[a11, b13] w fun t108 w =>
  valP Try.prog (Op.unary UnOp.not t108) w fun t109 w =>
  condP t109
  (pickP t109 (Value.bool true) undef fun t114 =>
  m5_27 R K1 l1 c5 r7 i9 t114 w)
  (valP Try.prog (binS BinOp.neq 3 (Operand.tmp 111) (Operand.tmp 112) g12 h14) w fun t113 w =>
  pickP t109 (Value.bool true) t113 fun t114 =>
  m5_27 R K1 l1 c5 r7 i9 t114 w)
def m5_25 (R : VP) (K1 : VP) (l1 c5 r7 i9 x10 a11 g12 : Value) (w : World) : Prop :=
  valP Try.prog (Instr.fieldAt 30 x10 1) w fun t101 w =>
  valP Try.prog (Instr.loadAt 3 t101) w fun t102 w =>
  callP Try.prog (fnV 31) #[r7, t102] w fun t103 w =>
  valP Try.prog (Instr.extract t103 0) w fun t104 w =>
  valP Try.prog (Instr.extract t103 1) w fun t105 w =>
  m5_26 R K1 l1 c5 r7 i9 a11 g12 t104 t105 w
def m5_30 (R : VP) (K1 : VP) (t4 : Value) (w : World) : Prop :=
  R t4 w
def m5_29 (R : VP) (K1 : VP) (l1 c5 r7 i9 t66 : Value) (w : World) : Prop :=
  condP t66
  (m5_30 R K1 (Value.bool false) w)
  (m5_14 R K1 l1 c5 r7 i9 w)
def m5_24 (R : VP) (K1 : VP) (l1 c5 r7 i9 x10 t90 : Value) (w : World) : Prop :=
  condP t90
  (valP Try.prog (Instr.fieldAt 30 x10 1) w fun t94 w =>
  valP Try.prog (Instr.loadAt 3 t94) w fun t95 w =>
  callP Try.prog (fnV 25) #[c5, t95] w fun t96 w =>
  valP Try.prog (Instr.extract t96 0) w fun t97 w =>
  valP Try.prog (Instr.extract t96 1) w fun t98 w =>
  m5_25 R K1 l1 c5 r7 i9 x10 t97 t98 w)
  (anyDraw w fun w =>
  heldP w fun J =>
  valJ Try.prog J (Instr.fieldAt 30 x10 1) fun t55 =>
  valJ Try.prog J (Instr.loadAt 3 t55) fun t56 =>
  valJ Try.prog J (Instr.fieldAt 30 x10 2) fun t57 =>
  valJ Try.prog J (Instr.loadAt 3 t57) fun t58 =>
  valJ Try.prog J (Instr.fieldAt 30 x10 1) fun t61 =>
  valJ Try.prog J (Instr.loadAt 3 t61) fun t62 =>
  valJ Try.prog J (Instr.fieldAt 30 x10 2) fun t63 =>
  valJ Try.prog J (Instr.loadAt 3 t63) fun t64 =>
  callP Try.prog (fnV 33) #[c5, t56, t58] w fun t59 w =>
  stayP J w
  (callP Try.prog (fnV 34) #[r7, t62, t64] w fun t65 w =>
  stayP J w
  (valJ Try.prog J (binS BinOp.neq 3 (Operand.tmp 59) (Operand.tmp 65) t59 t65) fun t66 =>
  m5_29 R K1 l1 c5 r7 i9 t66 w)))
def m5_21 (R : VP) (K1 : VP) (l1 c5 r7 i9 x10 t53 t79 : Value) (w : World) : Prop :=
  condP t79
  (anyDraw w fun w =>
  heldP w fun J =>
  valJ Try.prog J (Instr.fieldAt 30 x10 1) fun t82 =>
  valJ Try.prog J (Instr.loadAt 3 t82) fun t83 =>
  valJ Try.prog J (Instr.fieldAt 30 x10 1) fun t86 =>
  valJ Try.prog J (Instr.loadAt 3 t86) fun t87 =>
  callP Try.prog (fnV 29) #[c5, t83] w fun t84 w =>
  stayP J w
  (callP Try.prog (fnV 30) #[r7, t87] w fun t88 w =>
  stayP J w
  (valJ Try.prog J (binS BinOp.neq 3 (Operand.tmp 84) (Operand.tmp 88) t84 t88) fun t89 =>
  m5_22 R K1 l1 c5 r7 i9 t89 w)))
  (valP Try.prog (binS BinOp.eql 3 (Operand.tmp 53) (Operand.const (Value.int IntKind.i64 3)) t53 (Value.int IntKind.i64 3)) w fun t91 w =>
  m5_24 R K1 l1 c5 r7 i9 x10 t91 w)
def m5_18 (R : VP) (K1 : VP) (l1 c5 r7 i9 x10 t53 t67 : Value) (w : World) : Prop :=
  condP t67
  (anyDraw w fun w =>
  heldP w fun J =>
  valJ Try.prog J (Instr.fieldAt 30 x10 4) fun t71 =>
  valJ Try.prog J (Instr.loadAt 28 t71) fun t72 =>
  valJ Try.prog J (Instr.fieldAt 30 x10 4) fun t75 =>
  valJ Try.prog J (Instr.loadAt 28 t75) fun t76 =>
  callP Try.prog (fnV 24) #[c5, t72] w fun t73 w =>
  stayP J w
  (callP Try.prog (fnV 28) #[r7, t76] w fun t77 w =>
  stayP J w
  (valJ Try.prog J (binS BinOp.neq 3 (Operand.tmp 73) (Operand.tmp 77) t73 t77) fun t78 =>
  m5_19 R K1 l1 c5 r7 i9 t78 w)))
  (valP Try.prog (binS BinOp.eql 3 (Operand.tmp 53) (Operand.const (Value.int IntKind.i64 2)) t53 (Value.int IntKind.i64 2)) w fun t80 w =>
  m5_21 R K1 l1 c5 r7 i9 x10 t53 t80 w)
def m5_31 (R : VP) (K1 : VP) (l1 c5 r7 i9 x10 t53 t67 : Value) (w : World) : Prop :=
  condP t67
  (m5_18 R K1 l1 c5 r7 i9 x10 t53 t67 w)
  (valP Try.prog (binS BinOp.eql 3 (Operand.tmp 53) (Operand.const (Value.int IntKind.i64 1)) t53 (Value.int IntKind.i64 1)) w fun t69 w =>
  m5_18 R K1 l1 c5 r7 i9 x10 t53 t69 w)
def m5_17 (R : VP) (K1 : VP) (l1 c5 r7 i9 x10 t53 : Value) (w : World) : Prop :=
  valP Try.prog (binS BinOp.eql 3 (Operand.tmp 53) (Operand.const (Value.int IntKind.i64 0)) t53 (Value.int IntKind.i64 0)) w fun t68 w =>
  m5_31 R K1 l1 c5 r7 i9 x10 t53 t68 w
def m5_13 (R : VP) (K1 : VP) (l1 c5 r7 i9 x10 : Value) (w : World) : Prop :=
  valP Try.prog (Instr.fieldAt 30 x10 0) w fun t52 w =>
  valP Try.prog (Instr.loadAt 3 t52) w fun t53 w =>
  m5_17 R K1 l1 c5 r7 i9 x10 t53 w
def m5_11 (R : VP) (K1 : VP) (l1 c5 r7 i9 : Value) (w : World) : Prop :=
  valP Try.prog (Instr.indexAt 22 l1 i9) w fun t48 w =>
  valP Try.prog (Instr.loadAt 30 t48) w fun t49 w =>
  callP Try.prog (fnV 17) #[t49, c5] w fun t51 w =>
  valP Try.prog (Instr.alloc 30 true (.tuple #[])) w fun x10 w =>
  unitP Try.prog (Instr.storeAt 30 x10 t51) w fun _ w =>
  m5_13 R K1 l1 c5 r7 i9 x10 w
def m5_8 (R : VP) (t4 : Value) (w : World) : Prop :=
  R t4 w
def m5_7 (R : VP) (w : World) : Prop :=
  callP Try.prog (fnV 22) #[] w fun t166 w =>
  m5_8 R t166 w
def m5_32 (R : VP) (K1 : VP) (l1 c5 r7 i9 t43 : Value) (w : World) : Prop :=
  condP t43
  (m5_11 R K1 l1 c5 r7 i9 w)
  (m5_7 R w)
def m5_10 (R : VP) (K1 : VP) (l1 c5 r7 i9 : Value) (w : World) : Prop :=
  builtinP Try.prog Builtin.len #[22] 3 #[false] #[l1] w fun t42 w =>
  valP Try.prog (binS BinOp.lss 3 (Operand.tmp 40) (Operand.tmp 42) i9 t42) w fun t43 w =>
  m5_32 R K1 l1 c5 r7 i9 t43 w
def m5_9 (R : VP) (l1 c5 r7 i9 : Value) (w : World) : Prop :=
  loopP (fun (K1 : VP) (s : Value) w => m5_10 R K1 l1 c5 r7 s w) i9 w
def m5_6 (R : VP) (l1 c5 r7 : Value) (w : World) : Prop :=
  m5_9 R l1 c5 r7 (Value.int IntKind.i64 0) w
def m5_5 (R : VP) (l1 c5 r7 : Value) (w : World) : Prop :=
  callP Try.prog (fnV 15) #[l1] w fun t39 w =>
  m5_6 R t39 c5 r7 w
def m5_33 (R : VP) (l1 c5 r7 t36 : Value) (w : World) : Prop :=
  condP t36
  (callP Try.prog (fnV 22) #[] w fun t37 w =>
  m5_34 R t37 w)
  (m5_5 R l1 c5 r7 w)
def m5_4 (R : VP) (l1 c5 r7 : Value) (w : World) : Prop :=
  valP Try.prog (binS BinOp.eql 23 (Operand.tmp 35) (Operand.const (Value.pointer none)) c5 (Value.pointer none)) w fun t36 w =>
  m5_33 R l1 c5 r7 t36 w
def m5_35 (R : VP) (l1 c5 r7 t34 : Value) (w : World) : Prop :=
  condP t34
  (m5_36 R (Value.bool false) w)
  (m5_4 R l1 c5 r7 w)
def m5_3 (R : VP) (l1 c5 e6 r7 f8 : Value) (w : World) : Prop :=
  valP Try.prog (binS BinOp.neq 3 (Operand.tmp 25) (Operand.tmp 26) e6 f8) w fun t27 w =>
  condP t27
  (pickP t27 (Value.bool true) undef fun t34 =>
  m5_35 R l1 c5 r7 t34 w)
  (valP Try.prog (binS BinOp.eql 23 (Operand.tmp 29) (Operand.const (Value.pointer none)) c5 (Value.pointer none)) w fun t30 w =>
  valP Try.prog (binS BinOp.neq 3 (Operand.tmp 31) (Operand.const (Value.int IntKind.i64 0)) f8 (Value.int IntKind.i64 0)) w fun t32 w =>
  valP Try.prog (binS BinOp.neq 4 (Operand.tmp 30) (Operand.tmp 32) t30 t32) w fun t33 w =>
  pickP t27 (Value.bool true) t33 fun t34 =>
  m5_35 R l1 c5 r7 t34 w)
def m5_2 (R : VP) (parts0 l1 c5 e6 : Value) (w : World) : Prop :=
  callP Try.prog (fnV 27) #[parts0] w fun t22 w =>
  valP Try.prog (Instr.extract t22 0) w fun t23 w =>
  valP Try.prog (Instr.extract t22 1) w fun t24 w =>
  m5_3 R l1 c5 e6 t23 t24 w
def m5_1 (R : VP) (parts0 l1 : Value) (w : World) : Prop :=
  callP Try.prog (fnV 26) #[parts0] w fun t17 w =>
  valP Try.prog (Instr.extract t17 0) w fun t18 w =>
  valP Try.prog (Instr.extract t17 1) w fun t19 w =>
  m5_2 R parts0 l1 t18 t19 w
def m5_0 (R : VP) (parts0 l1 : Value) (w : World) : Prop :=
  m5_1 R parts0 l1 w
abbrev W5 := cwp Try.prog (fun i => 0)
noncomputable def k5_0 : Code := (bodyOf Try.f5)
noncomputable def k5_1 : Code := (c2 k5_0)
noncomputable def k5_2 : Code := (c2 k5_1)
noncomputable def k5_3 : Code := (c2 k5_2)
noncomputable def k5_4 : Code := (c2 k5_3)
noncomputable def k5_5 : Code := (c2 k5_4)
noncomputable def k5_6 : Code := (c2 k5_5)
noncomputable def k5_7 : Code := (c2 k5_6)
noncomputable def k5_8 : Code := (c2 k5_7)
noncomputable def k5_9 : Code := (c2 (c1 k5_6))
noncomputable def k5_10 : Code := (c1 (c1 k5_9))
noncomputable def k5_11 : Code := (c2 k5_10)
noncomputable def k5_12 : Code := (c2 k5_11)
noncomputable def k5_13 : Code := (c2 (c1 (c1 k5_11)))
noncomputable def k5_14 : Code := (c2 k5_13)
noncomputable def k5_15 : Code := (c2 k5_14)
noncomputable def k5_16 : Code := (c2 (c1 k5_15))
noncomputable def k5_17 : Code := (c2 (c1 k5_13))
noncomputable def k5_18 : Code := (c2 (c1 k5_17))
noncomputable def k5_19 : Code := (c2 (c1 k5_18))
noncomputable def k5_20 : Code := (c2 (c1 k5_19))
noncomputable def k5_21 : Code := (c2 (c2 k5_18))
noncomputable def k5_22 : Code := (c2 (c1 k5_21))
noncomputable def k5_23 : Code := (c2 (c1 k5_22))
noncomputable def k5_24 : Code := (c2 (c2 k5_21))
noncomputable def k5_25 : Code := (c2 (c1 k5_24))
noncomputable def k5_26 : Code := (c2 k5_25)
noncomputable def k5_27 : Code := (c2 k5_26)
noncomputable def k5_28 : Code := (c2 (c1 k5_27))
noncomputable def k5_29 : Code := (c2 (c2 k5_24))
noncomputable def k5_30 : Code := (c2 (c1 k5_29))
noncomputable def k5_31 : Code := (c2 (c1 (c1 k5_17)))
noncomputable def k5_32 : Code := (c2 (c1 k5_10))
noncomputable def k5_33 : Code := (c2 (c1 k5_4))
noncomputable def k5_34 : Code := (c2 (c1 k5_33))
noncomputable def k5_35 : Code := (c2 (c1 k5_3))
noncomputable def k5_36 : Code := (c2 (c1 k5_35))
theorem s5_36 {R : VP} {Q : EQ} (hR : ∀ e w, (R (e 4) w) → Q .ret e w) (e : Env) (w : World) (h : m5_36 R (e 4) w) : W5 k5_36 Q e w := by
  unfold m5_36 at h
  exact reA (hR _ _ h)
theorem s5_34 {R : VP} {Q : EQ} (hR : ∀ e w, (R (e 4) w) → Q .ret e w) (e : Env) (w : World) (h : m5_34 R (e 4) w) : W5 k5_34 Q e w := by
  unfold m5_34 at h
  exact reA (hR _ _ h)
theorem s5_20 {R : VP} {K1 : VP} {Q : EQ} (hR : ∀ e w, (R (e 4) w) → Q .ret e w) (e : Env) (w : World) (h : m5_20 R K1 (e 4) w) : W5 k5_20 Q e w := by
  unfold m5_20 at h
  exact reA (hR _ _ h)
theorem s5_16 {R : VP} {K1 : VP} {Q : EQ} (hR : ∀ e w, (R (e 4) w) → Q .ret e w) (e : Env) (w : World) (h : m5_16 R K1 (e 4) w) : W5 k5_16 Q e w := by
  unfold m5_16 at h
  exact reA (hR _ _ h)
theorem s5_12 {R : VP} {K1 : VP} {Q : EQ} (hN : ∀ e w, (K1 (e 9) w) → Q .normal e w) (e : Env) (w : World) (h : m5_12 R K1 (e 1) (e 5) (e 7) (e 9) w) : W5 k5_12 Q e w := by
  unfold m5_12 at h
  exact rgA 10 (fun e w => K1 (e 9) w) h hN
theorem s5_15 {R : VP} {K1 : VP} {Q : EQ} (hN : ∀ e w, (m5_12 R K1 (e 1) (e 5) (e 7) (e 9) w) → Q .normal e w) (hR : ∀ e w, (R (e 4) w) → Q .ret e w) (e : Env) (w : World) (h : m5_15 R K1 (e 1) (e 5) (e 7) (e 9) (e 165) w) : W5 k5_15 Q e w := by
  unfold m5_15 at h
  refine coA (Operand.tmp 165) h (fun h1 => ?_) (fun h1 => ?_)
  · refine seA ?_
    have hN : ∀ e w, (m5_16 R K1 (e 4) w) → (thenE (W5 k5_16 Q) Q) .normal e w := fun e w h => then_N (s5_16 (R := R) (Q := Q) (K1 := K1) hR e w h)
    exact rgA 28 (fun e w => m5_16 R K1 (e 4) w) h1 hN
  · exact skA (hN _ _ h1)
theorem s5_14 {R : VP} {K1 : VP} {Q : EQ} (hN : ∀ e w, (m5_12 R K1 (e 1) (e 5) (e 7) (e 9) w) → Q .normal e w) (hR : ∀ e w, (R (e 4) w) → Q .ret e w) (e : Env) (w : World) (h : m5_14 R K1 (e 1) (e 5) (e 7) (e 9) w) : W5 k5_14 Q e w := by
  unfold m5_14 at h
  refine seA ?_
  have hN : ∀ e w, (m5_15 R K1 (e 1) (e 5) (e 7) (e 9) (e 165) w) → (thenE (W5 k5_15 Q) Q) .normal e w := fun e w h => then_N (s5_15 (R := R) (Q := Q) (K1 := K1) hN hR e w h)
  exact treeJ_ok 27 51 [false, false, false, false, false, false, false, false, false, false, false, false, false, false, false, false, false, false, false, false, false, false, false, false, false, false, false, false, false, false, false, false, false, false, false, false, false, false, false, false, false, false, false, false, false, false, false, false, false, false, false] (.take 0 [true, false, false, false, false, false, false, false, false, false, false, false, false, false, false, false, false, false, false, false, false, false, false, false, false, false, false, false, false, false, false, false, false, false, false, false, false, false, false, false, false, false, false, false, false, false, false, false, false, false, false] (.take 2 [true, false, true, false, false, false, false, false, false, false, false, false, false, false, false, false, false, false, false, false, false, false, false, false, false, false, false, false, false, false, false, false, false, false, false, false, false, false, false, false, false, false, false, false, false, false, false, false, false, false, false] (.take 3 [true, false, true, true, false, false, false, false, false, false, false, false, false, false, false, false, false, false, false, false, false, false, false, false, false, false, false, false, false, false, false, false, false, false, false, false, false, false, false, false, false, false, false, false, false, false, false, false, false, false, false] (.take 4 [true, false, true, true, true, false, false, false, false, false, false, false, false, false, false, false, false, false, false, false, false, false, false, false, false, false, false, false, false, false, false, false, false, false, false, false, false, false, false, false, false, false, false, false, false, false, false, false, false, false, false] (.take 5 [true, false, true, true, true, true, false, false, false, false, false, false, false, false, false, false, false, false, false, false, false, false, false, false, false, false, false, false, false, false, false, false, false, false, false, false, false, false, false, false, false, false, false, false, false, false, false, false, false, false, false] (.alt 1 [true, true, true, true, true, true, false, false, false, false, false, false, false, false, false, false, false, false, false, false, false, false, false, false, false, false, false, false, false, false, false, false, false, false, false, false, false, false, false, false, false, false, false, false, false, false, false, false, false, false, false] (.take 6 [true, true, true, true, true, true, true, false, false, false, false, false, false, false, false, false, false, false, false, false, false, false, false, false, false, false, false, false, false, false, false, false, false, false, false, false, false, false, false, false, false, false, false, false, false, false, false, false, false, false, false] (.take 7 [true, true, true, true, true, true, true, true, false, false, false, false, false, false, false, false, false, false, false, false, false, false, false, false, false, false, false, false, false, false, false, false, false, false, false, false, false, false, false, false, false, false, false, false, false, false, false, false, false, false, false] (.take 8 [true, true, true, true, true, true, true, true, true, false, false, false, false, false, false, false, false, false, false, false, false, false, false, false, false, false, false, false, false, false, false, false, false, false, false, false, false, false, false, false, false, false, false, false, false, false, false, false, false, false, false] (.take 10 [true, true, true, true, true, true, true, true, true, false, true, false, false, false, false, false, false, false, false, false, false, false, false, false, false, false, false, false, false, false, false, false, false, false, false, false, false, false, false, false, false, false, false, false, false, false, false, false, false, false, false] (.take 11 [true, true, true, true, true, true, true, true, true, false, true, true, false, false, false, false, false, false, false, false, false, false, false, false, false, false, false, false, false, false, false, false, false, false, false, false, false, false, false, false, false, false, false, false, false, false, false, false, false, false, false] (.take 12 [true, true, true, true, true, true, true, true, true, false, true, true, true, false, false, false, false, false, false, false, false, false, false, false, false, false, false, false, false, false, false, false, false, false, false, false, false, false, false, false, false, false, false, false, false, false, false, false, false, false, false] (.take 13 [true, true, true, true, true, true, true, true, true, false, true, true, true, true, false, false, false, false, false, false, false, false, false, false, false, false, false, false, false, false, false, false, false, false, false, false, false, false, false, false, false, false, false, false, false, false, false, false, false, false, false] (.alt 9 [true, true, true, true, true, true, true, true, true, true, true, true, true, true, false, false, false, false, false, false, false, false, false, false, false, false, false, false, false, false, false, false, false, false, false, false, false, false, false, false, false, false, false, false, false, false, false, false, false, false, false] (.alt 14 [true, true, true, true, true, true, true, true, true, true, true, true, true, true, true, false, false, false, false, false, false, false, false, false, false, false, false, false, false, false, false, false, false, false, false, false, false, false, false, false, false, false, false, false, false, false, false, false, false, false, false] (.take 15 [true, true, true, true, true, true, true, true, true, true, true, true, true, true, true, true, false, false, false, false, false, false, false, false, false, false, false, false, false, false, false, false, false, false, false, false, false, false, false, false, false, false, false, false, false, false, false, false, false, false, false] (.take 16 [true, true, true, true, true, true, true, true, true, true, true, true, true, true, true, true, true, false, false, false, false, false, false, false, false, false, false, false, false, false, false, false, false, false, false, false, false, false, false, false, false, false, false, false, false, false, false, false, false, false, false] (.take 17 [true, true, true, true, true, true, true, true, true, true, true, true, true, true, true, true, true, true, false, false, false, false, false, false, false, false, false, false, false, false, false, false, false, false, false, false, false, false, false, false, false, false, false, false, false, false, false, false, false, false, false] (.take 18 [true, true, true, true, true, true, true, true, true, true, true, true, true, true, true, true, true, true, true, false, false, false, false, false, false, false, false, false, false, false, false, false, false, false, false, false, false, false, false, false, false, false, false, false, false, false, false, false, false, false, false] (.take 20 [true, true, true, true, true, true, true, true, true, true, true, true, true, true, true, true, true, true, true, false, true, false, false, false, false, false, false, false, false, false, false, false, false, false, false, false, false, false, false, false, false, false, false, false, false, false, false, false, false, false, false] (.take 21 [true, true, true, true, true, true, true, true, true, true, true, true, true, true, true, true, true, true, true, false, true, true, false, false, false, false, false, false, false, false, false, false, false, false, false, false, false, false, false, false, false, false, false, false, false, false, false, false, false, false, false] (.take 22 [true, true, true, true, true, true, true, true, true, true, true, true, true, true, true, true, true, true, true, false, true, true, true, false, false, false, false, false, false, false, false, false, false, false, false, false, false, false, false, false, false, false, false, false, false, false, false, false, false, false, false] (.take 23 [true, true, true, true, true, true, true, true, true, true, true, true, true, true, true, true, true, true, true, false, true, true, true, true, false, false, false, false, false, false, false, false, false, false, false, false, false, false, false, false, false, false, false, false, false, false, false, false, false, false, false] (.alt 19 [true, true, true, true, true, true, true, true, true, true, true, true, true, true, true, true, true, true, true, true, true, true, true, true, false, false, false, false, false, false, false, false, false, false, false, false, false, false, false, false, false, false, false, false, false, false, false, false, false, false, false] (.alt 24 [true, true, true, true, true, true, true, true, true, true, true, true, true, true, true, true, true, true, true, true, true, true, true, true, true, false, false, false, false, false, false, false, false, false, false, false, false, false, false, false, false, false, false, false, false, false, false, false, false, false, false] (.take 25 [true, true, true, true, true, true, true, true, true, true, true, true, true, true, true, true, true, true, true, true, true, true, true, true, true, true, false, false, false, false, false, false, false, false, false, false, false, false, false, false, false, false, false, false, false, false, false, false, false, false, false] (.take 26 [true, true, true, true, true, true, true, true, true, true, true, true, true, true, true, true, true, true, true, true, true, true, true, true, true, true, true, false, false, false, false, false, false, false, false, false, false, false, false, false, false, false, false, false, false, false, false, false, false, false, false] (.take 27 [true, true, true, true, true, true, true, true, true, true, true, true, true, true, true, true, true, true, true, true, true, true, true, true, true, true, true, true, false, false, false, false, false, false, false, false, false, false, false, false, false, false, false, false, false, false, false, false, false, false, false] (.take 28 [true, true, true, true, true, true, true, true, true, true, true, true, true, true, true, true, true, true, true, true, true, true, true, true, true, true, true, true, true, false, false, false, false, false, false, false, false, false, false, false, false, false, false, false, false, false, false, false, false, false, false] (.take 30 [true, true, true, true, true, true, true, true, true, true, true, true, true, true, true, true, true, true, true, true, true, true, true, true, true, true, true, true, true, false, true, false, false, false, false, false, false, false, false, false, false, false, false, false, false, false, false, false, false, false, false] (.take 31 [true, true, true, true, true, true, true, true, true, true, true, true, true, true, true, true, true, true, true, true, true, true, true, true, true, true, true, true, true, false, true, true, false, false, false, false, false, false, false, false, false, false, false, false, false, false, false, false, false, false, false] (.take 32 [true, true, true, true, true, true, true, true, true, true, true, true, true, true, true, true, true, true, true, true, true, true, true, true, true, true, true, true, true, false, true, true, true, false, false, false, false, false, false, false, false, false, false, false, false, false, false, false, false, false, false] (.take 33 [true, true, true, true, true, true, true, true, true, true, true, true, true, true, true, true, true, true, true, true, true, true, true, true, true, true, true, true, true, false, true, true, true, true, false, false, false, false, false, false, false, false, false, false, false, false, false, false, false, false, false] (.alt 29 [true, true, true, true, true, true, true, true, true, true, true, true, true, true, true, true, true, true, true, true, true, true, true, true, true, true, true, true, true, true, true, true, true, true, false, false, false, false, false, false, false, false, false, false, false, false, false, false, false, false, false] (.alt 34 [true, true, true, true, true, true, true, true, true, true, true, true, true, true, true, true, true, true, true, true, true, true, true, true, true, true, true, true, true, true, true, true, true, true, true, false, false, false, false, false, false, false, false, false, false, false, false, false, false, false, false] (.take 35 [true, true, true, true, true, true, true, true, true, true, true, true, true, true, true, true, true, true, true, true, true, true, true, true, true, true, true, true, true, true, true, true, true, true, true, true, false, false, false, false, false, false, false, false, false, false, false, false, false, false, false] (.take 36 [true, true, true, true, true, true, true, true, true, true, true, true, true, true, true, true, true, true, true, true, true, true, true, true, true, true, true, true, true, true, true, true, true, true, true, true, true, false, false, false, false, false, false, false, false, false, false, false, false, false, false] (.take 37 [true, true, true, true, true, true, true, true, true, true, true, true, true, true, true, true, true, true, true, true, true, true, true, true, true, true, true, true, true, true, true, true, true, true, true, true, true, true, false, false, false, false, false, false, false, false, false, false, false, false, false] (.take 38 [true, true, true, true, true, true, true, true, true, true, true, true, true, true, true, true, true, true, true, true, true, true, true, true, true, true, true, true, true, true, true, true, true, true, true, true, true, true, true, false, false, false, false, false, false, false, false, false, false, false, false] (.take 40 [true, true, true, true, true, true, true, true, true, true, true, true, true, true, true, true, true, true, true, true, true, true, true, true, true, true, true, true, true, true, true, true, true, true, true, true, true, true, true, false, true, false, false, false, false, false, false, false, false, false, false] (.take 41 [true, true, true, true, true, true, true, true, true, true, true, true, true, true, true, true, true, true, true, true, true, true, true, true, true, true, true, true, true, true, true, true, true, true, true, true, true, true, true, false, true, true, false, false, false, false, false, false, false, false, false] (.take 42 [true, true, true, true, true, true, true, true, true, true, true, true, true, true, true, true, true, true, true, true, true, true, true, true, true, true, true, true, true, true, true, true, true, true, true, true, true, true, true, false, true, true, true, false, false, false, false, false, false, false, false] (.take 43 [true, true, true, true, true, true, true, true, true, true, true, true, true, true, true, true, true, true, true, true, true, true, true, true, true, true, true, true, true, true, true, true, true, true, true, true, true, true, true, false, true, true, true, true, false, false, false, false, false, false, false] (.take 44 [true, true, true, true, true, true, true, true, true, true, true, true, true, true, true, true, true, true, true, true, true, true, true, true, true, true, true, true, true, true, true, true, true, true, true, true, true, true, true, false, true, true, true, true, true, false, false, false, false, false, false] (.take 45 [true, true, true, true, true, true, true, true, true, true, true, true, true, true, true, true, true, true, true, true, true, true, true, true, true, true, true, true, true, true, true, true, true, true, true, true, true, true, true, false, true, true, true, true, true, true, false, false, false, false, false] (.take 46 [true, true, true, true, true, true, true, true, true, true, true, true, true, true, true, true, true, true, true, true, true, true, true, true, true, true, true, true, true, true, true, true, true, true, true, true, true, true, true, false, true, true, true, true, true, true, true, false, false, false, false] (.take 47 [true, true, true, true, true, true, true, true, true, true, true, true, true, true, true, true, true, true, true, true, true, true, true, true, true, true, true, true, true, true, true, true, true, true, true, true, true, true, true, false, true, true, true, true, true, true, true, true, false, false, false] (.alt 39 [true, true, true, true, true, true, true, true, true, true, true, true, true, true, true, true, true, true, true, true, true, true, true, true, true, true, true, true, true, true, true, true, true, true, true, true, true, true, true, true, true, true, true, true, true, true, true, true, false, false, false] (.alt 48 [true, true, true, true, true, true, true, true, true, true, true, true, true, true, true, true, true, true, true, true, true, true, true, true, true, true, true, true, true, true, true, true, true, true, true, true, true, true, true, true, true, true, true, true, true, true, true, true, true, false, false] (.take 49 [true, true, true, true, true, true, true, true, true, true, true, true, true, true, true, true, true, true, true, true, true, true, true, true, true, true, true, true, true, true, true, true, true, true, true, true, true, true, true, true, true, true, true, true, true, true, true, true, true, true, false] (.take 50 [true, true, true, true, true, true, true, true, true, true, true, true, true, true, true, true, true, true, true, true, true, true, true, true, true, true, true, true, true, true, true, true, true, true, true, true, true, true, true, true, true, true, true, true, true, true, true, true, true, true, true] .done)) .stop) .stop))))))))))))) .stop) .stop))))))))) .stop) .stop))))))))) .stop) .stop)))))))) .stop)))))) (fun e w => m5_15 R K1 (e 1) (e 5) (e 7) (e 9) (e 165) w) (by kernel_rfl) (by kernel_rfl) (by kernel_rfl) (by kernel_rfl) (by kernel_rfl) (by kernel_rfl) (kcast (by kernel_rfl) h) hN (by kernel_rfl)
theorem s5_19 {R : VP} {K1 : VP} {Q : EQ} (hN : ∀ e w, (m5_14 R K1 (e 1) (e 5) (e 7) (e 9) w) → Q .normal e w) (hR : ∀ e w, (R (e 4) w) → Q .ret e w) (e : Env) (w : World) (h : m5_19 R K1 (e 1) (e 5) (e 7) (e 9) (e 78) w) : W5 k5_19 Q e w := by
  unfold m5_19 at h
  refine coA (Operand.tmp 78) h (fun h1 => ?_) (fun h1 => ?_)
  · refine seA ?_
    have hN : ∀ e w, (m5_20 R K1 (e 4) w) → (thenE (W5 k5_20 Q) Q) .normal e w := fun e w h => then_N (s5_20 (R := R) (Q := Q) (K1 := K1) hR e w h)
    exact rgA 18 (fun e w => m5_20 R K1 (e 4) w) h1 hN
  · exact skA (hN _ _ h1)
theorem s5_23 {R : VP} {K1 : VP} {Q : EQ} (hR : ∀ e w, (R (e 4) w) → Q .ret e w) (e : Env) (w : World) (h : m5_23 R K1 (e 4) w) : W5 k5_23 Q e w := by
  unfold m5_23 at h
  exact reA (hR _ _ h)
theorem s5_22 {R : VP} {K1 : VP} {Q : EQ} (hN : ∀ e w, (m5_14 R K1 (e 1) (e 5) (e 7) (e 9) w) → Q .normal e w) (hR : ∀ e w, (R (e 4) w) → Q .ret e w) (e : Env) (w : World) (h : m5_22 R K1 (e 1) (e 5) (e 7) (e 9) (e 89) w) : W5 k5_22 Q e w := by
  unfold m5_22 at h
  refine coA (Operand.tmp 89) h (fun h1 => ?_) (fun h1 => ?_)
  · refine seA ?_
    have hN : ∀ e w, (m5_23 R K1 (e 4) w) → (thenE (W5 k5_23 Q) Q) .normal e w := fun e w h => then_N (s5_23 (R := R) (Q := Q) (K1 := K1) hR e w h)
    exact rgA 21 (fun e w => m5_23 R K1 (e 4) w) h1 hN
  · exact skA (hN _ _ h1)
theorem s5_28 {R : VP} {K1 : VP} {Q : EQ} (hR : ∀ e w, (R (e 4) w) → Q .ret e w) (e : Env) (w : World) (h : m5_28 R K1 (e 4) w) : W5 k5_28 Q e w := by
  unfold m5_28 at h
  exact reA (hR _ _ h)
theorem s5_27 {R : VP} {K1 : VP} {Q : EQ} (hN : ∀ e w, (m5_14 R K1 (e 1) (e 5) (e 7) (e 9) w) → Q .normal e w) (hR : ∀ e w, (R (e 4) w) → Q .ret e w) (e : Env) (w : World) (h : m5_27 R K1 (e 1) (e 5) (e 7) (e 9) (e 114) w) : W5 k5_27 Q e w := by
  unfold m5_27 at h
  refine coA (Operand.tmp 114) h (fun h1 => ?_) (fun h1 => ?_)
  · refine seA ?_
    have hN : ∀ e w, (m5_28 R K1 (e 4) w) → (thenE (W5 k5_28 Q) Q) .normal e w := fun e w h => then_N (s5_28 (R := R) (Q := Q) (K1 := K1) hR e w h)
    exact rgA 26 (fun e w => m5_28 R K1 (e 4) w) h1 hN
  · exact skA (hN _ _ h1)
theorem s5_26 {R : VP} {K1 : VP} {Q : EQ} (hN : ∀ e w, (m5_14 R K1 (e 1) (e 5) (e 7) (e 9) w) → Q .normal e w) (hR : ∀ e w, (R (e 4) w) → Q .ret e w) (e : Env) (w : World) (h : m5_26 R K1 (e 1) (e 5) (e 7) (e 9) (e 11) (e 12) (e 13) (e 14) w) : W5 k5_26 Q e w := by
  unfold m5_26 at h
  refine seA ?_
  have hN : ∀ e w, (m5_27 R K1 (e 1) (e 5) (e 7) (e 9) (e 114) w) → (thenE (W5 k5_27 Q) Q) .normal e w := fun e w h => then_N (s5_27 (R := R) (Q := Q) (K1 := K1) hN hR e w h)
  exact rgA 25 (fun e w => m5_27 R K1 (e 1) (e 5) (e 7) (e 9) (e 114) w) h hN
theorem s5_25 {R : VP} {K1 : VP} {Q : EQ} (hN : ∀ e w, (m5_14 R K1 (e 1) (e 5) (e 7) (e 9) w) → Q .normal e w) (hR : ∀ e w, (R (e 4) w) → Q .ret e w) (e : Env) (w : World) (h : m5_25 R K1 (e 1) (e 5) (e 7) (e 9) (e 10) (e 11) (e 12) w) : W5 k5_25 Q e w := by
  unfold m5_25 at h
  refine seA ?_
  have hN : ∀ e w, (m5_26 R K1 (e 1) (e 5) (e 7) (e 9) (e 11) (e 12) (e 13) (e 14) w) → (thenE (W5 k5_26 Q) Q) .normal e w := fun e w h => then_N (s5_26 (R := R) (Q := Q) (K1 := K1) hN hR e w h)
  exact rgA 24 (fun e w => m5_26 R K1 (e 1) (e 5) (e 7) (e 9) (e 11) (e 12) (e 13) (e 14) w) h hN
theorem s5_30 {R : VP} {K1 : VP} {Q : EQ} (hR : ∀ e w, (R (e 4) w) → Q .ret e w) (e : Env) (w : World) (h : m5_30 R K1 (e 4) w) : W5 k5_30 Q e w := by
  unfold m5_30 at h
  exact reA (hR _ _ h)
theorem s5_29 {R : VP} {K1 : VP} {Q : EQ} (hN : ∀ e w, (m5_14 R K1 (e 1) (e 5) (e 7) (e 9) w) → Q .normal e w) (hR : ∀ e w, (R (e 4) w) → Q .ret e w) (e : Env) (w : World) (h : m5_29 R K1 (e 1) (e 5) (e 7) (e 9) (e 66) w) : W5 k5_29 Q e w := by
  unfold m5_29 at h
  refine coA (Operand.tmp 66) h (fun h1 => ?_) (fun h1 => ?_)
  · refine seA ?_
    have hN : ∀ e w, (m5_30 R K1 (e 4) w) → (thenE (W5 k5_30 Q) Q) .normal e w := fun e w h => then_N (s5_30 (R := R) (Q := Q) (K1 := K1) hR e w h)
    exact rgA 14 (fun e w => m5_30 R K1 (e 4) w) h1 hN
  · exact skA (hN _ _ h1)
theorem s5_24 {R : VP} {K1 : VP} {Q : EQ} (hN : ∀ e w, (m5_14 R K1 (e 1) (e 5) (e 7) (e 9) w) → Q .normal e w) (hR : ∀ e w, (R (e 4) w) → Q .ret e w) (e : Env) (w : World) (h : m5_24 R K1 (e 1) (e 5) (e 7) (e 9) (e 10) (e 90) w) : W5 k5_24 Q e w := by
  unfold m5_24 at h
  refine coA (Operand.tmp 90) h (fun h1 => ?_) (fun h1 => ?_)
  · refine seA ?_
    have hN : ∀ e w, (m5_25 R K1 (e 1) (e 5) (e 7) (e 9) (e 10) (e 11) (e 12) w) → (thenE (W5 k5_25 Q) Q) .normal e w := fun e w h => then_N (s5_25 (R := R) (Q := Q) (K1 := K1) hN hR e w h)
    exact rgA 23 (fun e w => m5_25 R K1 (e 1) (e 5) (e 7) (e 9) (e 10) (e 11) (e 12) w) h1 hN
  · refine seA ?_
    have hN : ∀ e w, (m5_29 R K1 (e 1) (e 5) (e 7) (e 9) (e 66) w) → (thenE (W5 k5_29 Q) Q) .normal e w := fun e w h => then_N (s5_29 (R := R) (Q := Q) (K1 := K1) hN hR e w h)
    exact treeJ_ok 13 13 [false, false, false, false, false, false, false, false, false, false, false, false, false] (.take 0 [true, false, false, false, false, false, false, false, false, false, false, false, false] (.take 1 [true, true, false, false, false, false, false, false, false, false, false, false, false] (.take 2 [true, true, true, false, false, false, false, false, false, false, false, false, false] (.take 3 [true, true, true, true, false, false, false, false, false, false, false, false, false] (.take 4 [true, true, true, true, true, false, false, false, false, false, false, false, false] (.take 6 [true, true, true, true, true, false, true, false, false, false, false, false, false] (.take 7 [true, true, true, true, true, false, true, true, false, false, false, false, false] (.take 8 [true, true, true, true, true, false, true, true, true, false, false, false, false] (.take 9 [true, true, true, true, true, false, true, true, true, true, false, false, false] (.take 10 [true, true, true, true, true, false, true, true, true, true, true, false, false] (.alt 5 [true, true, true, true, true, true, true, true, true, true, true, false, false] (.alt 11 [true, true, true, true, true, true, true, true, true, true, true, true, false] (.take 12 [true, true, true, true, true, true, true, true, true, true, true, true, true] .done) .stop) .stop))))))))))) (fun e w => m5_29 R K1 (e 1) (e 5) (e 7) (e 9) (e 66) w) (by kernel_rfl) (by kernel_rfl) (by kernel_rfl) (by kernel_rfl) (by kernel_rfl) (by kernel_rfl) (kcast (by kernel_rfl) h1) hN (by kernel_rfl)
theorem s5_21 {R : VP} {K1 : VP} {Q : EQ} (hN : ∀ e w, (m5_14 R K1 (e 1) (e 5) (e 7) (e 9) w) → Q .normal e w) (hR : ∀ e w, (R (e 4) w) → Q .ret e w) (e : Env) (w : World) (h : m5_21 R K1 (e 1) (e 5) (e 7) (e 9) (e 10) (e 53) (e 79) w) : W5 k5_21 Q e w := by
  unfold m5_21 at h
  refine coA (Operand.tmp 79) h (fun h1 => ?_) (fun h1 => ?_)
  · refine seA ?_
    have hN : ∀ e w, (m5_22 R K1 (e 1) (e 5) (e 7) (e 9) (e 89) w) → (thenE (W5 k5_22 Q) Q) .normal e w := fun e w h => then_N (s5_22 (R := R) (Q := Q) (K1 := K1) hN hR e w h)
    exact treeJ_ok 20 9 [false, false, false, false, false, false, false, false, false] (.take 0 [true, false, false, false, false, false, false, false, false] (.take 1 [true, true, false, false, false, false, false, false, false] (.take 2 [true, true, true, false, false, false, false, false, false] (.take 4 [true, true, true, false, true, false, false, false, false] (.take 5 [true, true, true, false, true, true, false, false, false] (.take 6 [true, true, true, false, true, true, true, false, false] (.alt 3 [true, true, true, true, true, true, true, false, false] (.alt 7 [true, true, true, true, true, true, true, true, false] (.take 8 [true, true, true, true, true, true, true, true, true] .done) .stop) .stop))))))) (fun e w => m5_22 R K1 (e 1) (e 5) (e 7) (e 9) (e 89) w) (by kernel_rfl) (by kernel_rfl) (by kernel_rfl) (by kernel_rfl) (by kernel_rfl) (by kernel_rfl) (kcast (by kernel_rfl) h1) hN (by kernel_rfl)
  · refine seA ?_
    have hN : ∀ e w, (m5_24 R K1 (e 1) (e 5) (e 7) (e 9) (e 10) (e 90) w) → (thenE (W5 k5_24 Q) Q) .normal e w := fun e w h => then_N (s5_24 (R := R) (Q := Q) (K1 := K1) hN hR e w h)
    exact rgA 22 (fun e w => m5_24 R K1 (e 1) (e 5) (e 7) (e 9) (e 10) (e 90) w) h1 hN
theorem s5_18 {R : VP} {K1 : VP} {Q : EQ} (hN : ∀ e w, (m5_14 R K1 (e 1) (e 5) (e 7) (e 9) w) → Q .normal e w) (hR : ∀ e w, (R (e 4) w) → Q .ret e w) (e : Env) (w : World) (h : m5_18 R K1 (e 1) (e 5) (e 7) (e 9) (e 10) (e 53) (e 67) w) : W5 k5_18 Q e w := by
  unfold m5_18 at h
  refine coA (Operand.tmp 67) h (fun h1 => ?_) (fun h1 => ?_)
  · refine seA ?_
    have hN : ∀ e w, (m5_19 R K1 (e 1) (e 5) (e 7) (e 9) (e 78) w) → (thenE (W5 k5_19 Q) Q) .normal e w := fun e w h => then_N (s5_19 (R := R) (Q := Q) (K1 := K1) hN hR e w h)
    exact treeJ_ok 17 9 [false, false, false, false, false, false, false, false, false] (.take 0 [true, false, false, false, false, false, false, false, false] (.take 1 [true, true, false, false, false, false, false, false, false] (.take 2 [true, true, true, false, false, false, false, false, false] (.take 4 [true, true, true, false, true, false, false, false, false] (.take 5 [true, true, true, false, true, true, false, false, false] (.take 6 [true, true, true, false, true, true, true, false, false] (.alt 3 [true, true, true, true, true, true, true, false, false] (.alt 7 [true, true, true, true, true, true, true, true, false] (.take 8 [true, true, true, true, true, true, true, true, true] .done) .stop) .stop))))))) (fun e w => m5_19 R K1 (e 1) (e 5) (e 7) (e 9) (e 78) w) (by kernel_rfl) (by kernel_rfl) (by kernel_rfl) (by kernel_rfl) (by kernel_rfl) (by kernel_rfl) (kcast (by kernel_rfl) h1) hN (by kernel_rfl)
  · refine seA ?_
    have hN : ∀ e w, (m5_21 R K1 (e 1) (e 5) (e 7) (e 9) (e 10) (e 53) (e 79) w) → (thenE (W5 k5_21 Q) Q) .normal e w := fun e w h => then_N (s5_21 (R := R) (Q := Q) (K1 := K1) hN hR e w h)
    exact rgA 19 (fun e w => m5_21 R K1 (e 1) (e 5) (e 7) (e 9) (e 10) (e 53) (e 79) w) h1 hN
theorem s5_31 {R : VP} {K1 : VP} {Q : EQ} (hN : ∀ e w, (m5_18 R K1 (e 1) (e 5) (e 7) (e 9) (e 10) (e 53) (e 67) w) → Q .normal e w) (e : Env) (w : World) (h : m5_31 R K1 (e 1) (e 5) (e 7) (e 9) (e 10) (e 53) (e 67) w) : W5 k5_31 Q e w := by
  unfold m5_31 at h
  refine coA (Operand.tmp 67) h (fun h1 => ?_) (fun h1 => ?_)
  · exact skA (hN _ _ h1)
  · exact rgA 16 (fun e w => m5_18 R K1 (e 1) (e 5) (e 7) (e 9) (e 10) (e 53) (e 67) w) h1 hN
theorem s5_17 {R : VP} {K1 : VP} {Q : EQ} (hN : ∀ e w, (m5_14 R K1 (e 1) (e 5) (e 7) (e 9) w) → Q .normal e w) (hR : ∀ e w, (R (e 4) w) → Q .ret e w) (e : Env) (w : World) (h : m5_17 R K1 (e 1) (e 5) (e 7) (e 9) (e 10) (e 53) w) : W5 k5_17 Q e w := by
  unfold m5_17 at h
  refine block_ok 2 (by kernel_rfl) ?_
  have hN : ∀ e w, (m5_14 R K1 (e 1) (e 5) (e 7) (e 9) w) → (inBlockE 2 Q) .normal e w := fun e w h => block_N (hN e w h)
  have hR : ∀ e w, (R (e 4) w) → (inBlockE 2 Q) .ret e w := fun e w h => block_R (hR e w h)
  refine seA ?_
  have hN : ∀ e w, (m5_18 R K1 (e 1) (e 5) (e 7) (e 9) (e 10) (e 53) (e 67) w) → (thenE (W5 k5_18 (inBlockE 2 Q)) (inBlockE 2 Q)) .normal e w := fun e w h => then_N (s5_18 (R := R) (Q := (inBlockE 2 Q)) (K1 := K1) hN hR e w h)
  refine seA ?_
  have hN : ∀ e w, (m5_31 R K1 (e 1) (e 5) (e 7) (e 9) (e 10) (e 53) (e 67) w) → (thenE (W5 k5_31 (thenE (W5 k5_18 (inBlockE 2 Q)) (inBlockE 2 Q))) (thenE (W5 k5_18 (inBlockE 2 Q)) (inBlockE 2 Q))) .normal e w := fun e w h => then_N (s5_31 (R := R) (Q := (thenE (W5 k5_18 (inBlockE 2 Q)) (inBlockE 2 Q))) (K1 := K1) hN e w h)
  exact rgA 15 (fun e w => m5_31 R K1 (e 1) (e 5) (e 7) (e 9) (e 10) (e 53) (e 67) w) h hN
theorem s5_13 {R : VP} {K1 : VP} {Q : EQ} (hN : ∀ e w, (m5_12 R K1 (e 1) (e 5) (e 7) (e 9) w) → Q .normal e w) (hR : ∀ e w, (R (e 4) w) → Q .ret e w) (e : Env) (w : World) (h : m5_13 R K1 (e 1) (e 5) (e 7) (e 9) (e 10) w) : W5 k5_13 Q e w := by
  unfold m5_13 at h
  refine seA ?_
  have hN : ∀ e w, (m5_14 R K1 (e 1) (e 5) (e 7) (e 9) w) → (thenE (W5 k5_14 Q) Q) .normal e w := fun e w h => then_N (s5_14 (R := R) (Q := Q) (K1 := K1) hN hR e w h)
  have hR : ∀ e w, (R (e 4) w) → (thenE (W5 k5_14 Q) Q) .ret e w := fun e w h => then_R (hR e w h)
  refine seA ?_
  have hN : ∀ e w, (m5_17 R K1 (e 1) (e 5) (e 7) (e 9) (e 10) (e 53) w) → (thenE (W5 k5_17 (thenE (W5 k5_14 Q) Q)) (thenE (W5 k5_14 Q) Q)) .normal e w := fun e w h => then_N (s5_17 (R := R) (Q := (thenE (W5 k5_14 Q) Q)) (K1 := K1) hN hR e w h)
  exact rgA 12 (fun e w => m5_17 R K1 (e 1) (e 5) (e 7) (e 9) (e 10) (e 53) w) h hN
theorem s5_11 {R : VP} {K1 : VP} {Q : EQ} (hN : ∀ e w, (K1 (e 9) w) → Q .normal e w) (hR : ∀ e w, (R (e 4) w) → Q .ret e w) (e : Env) (w : World) (h : m5_11 R K1 (e 1) (e 5) (e 7) (e 9) w) : W5 k5_11 Q e w := by
  unfold m5_11 at h
  refine seA ?_
  have hN : ∀ e w, (m5_12 R K1 (e 1) (e 5) (e 7) (e 9) w) → (thenE (W5 k5_12 Q) Q) .normal e w := fun e w h => then_N (s5_12 (R := R) (Q := Q) (K1 := K1) hN e w h)
  have hR : ∀ e w, (R (e 4) w) → (thenE (W5 k5_12 Q) Q) .ret e w := fun e w h => then_R (hR e w h)
  refine block_ok 1 (by kernel_rfl) ?_
  have hN : ∀ e w, (m5_12 R K1 (e 1) (e 5) (e 7) (e 9) w) → (inBlockE 1 (thenE (W5 k5_12 Q) Q)) .normal e w := fun e w h => block_N (hN e w h)
  have hR : ∀ e w, (R (e 4) w) → (inBlockE 1 (thenE (W5 k5_12 Q) Q)) .ret e w := fun e w h => block_R (hR e w h)
  refine seA ?_
  have hN : ∀ e w, (m5_13 R K1 (e 1) (e 5) (e 7) (e 9) (e 10) w) → (thenE (W5 k5_13 (inBlockE 1 (thenE (W5 k5_12 Q) Q))) (inBlockE 1 (thenE (W5 k5_12 Q) Q))) .normal e w := fun e w h => then_N (s5_13 (R := R) (Q := (inBlockE 1 (thenE (W5 k5_12 Q) Q))) (K1 := K1) hN hR e w h)
  exact rgA 11 (fun e w => m5_13 R K1 (e 1) (e 5) (e 7) (e 9) (e 10) w) h hN
theorem s5_8 {R : VP} {Q : EQ} (hR : ∀ e w, (R (e 4) w) → Q .ret e w) (e : Env) (w : World) (h : m5_8 R (e 4) w) : W5 k5_8 Q e w := by
  unfold m5_8 at h
  exact reA (hR _ _ h)
theorem s5_7 {R : VP} {Q : EQ} (hR : ∀ e w, (R (e 4) w) → Q .ret e w) (e : Env) (w : World) (h : m5_7 R w) : W5 k5_7 Q e w := by
  unfold m5_7 at h
  refine seA ?_
  have hN : ∀ e w, (m5_8 R (e 4) w) → (thenE (W5 k5_8 Q) Q) .normal e w := fun e w h => then_N (s5_8 (R := R) (Q := Q) hR e w h)
  exact rgA 29 (fun e w => m5_8 R (e 4) w) h hN
theorem s5_32 {R : VP} {K1 : VP} {Q : EQ} (hN : ∀ e w, (m5_11 R K1 (e 1) (e 5) (e 7) (e 9) w) → Q .normal e w) (hX0 : ∀ e w, (m5_7 R w) → Q (.exit 0) e w) (e : Env) (w : World) (h : m5_32 R K1 (e 1) (e 5) (e 7) (e 9) (e 43) w) : W5 k5_32 Q e w := by
  unfold m5_32 at h
  refine coA (Operand.tmp 43) h (fun h1 => ?_) (fun h1 => ?_)
  · exact skA (hN _ _ h1)
  · exact exA 0 (hX0 _ _ h1)
theorem s5_10 {R : VP} {K1 : VP} {Q : EQ} (hN : ∀ e w, (K1 (e 9) w) → Q .normal e w) (hR : ∀ e w, (R (e 4) w) → Q .ret e w) (hX0 : ∀ e w, (m5_7 R w) → Q (.exit 0) e w) (e : Env) (w : World) (h : m5_10 R K1 (e 1) (e 5) (e 7) (e 9) w) : W5 k5_10 Q e w := by
  unfold m5_10 at h
  refine seA ?_
  have hN : ∀ e w, (m5_11 R K1 (e 1) (e 5) (e 7) (e 9) w) → (thenE (W5 k5_11 Q) Q) .normal e w := fun e w h => then_N (s5_11 (R := R) (Q := Q) (K1 := K1) hN hR e w h)
  have hX0 : ∀ e w, (m5_7 R w) → (thenE (W5 k5_11 Q) Q) (.exit 0) e w := fun e w h => then_X (hX0 e w h)
  refine seA ?_
  have hN : ∀ e w, (m5_32 R K1 (e 1) (e 5) (e 7) (e 9) (e 43) w) → (thenE (W5 k5_32 (thenE (W5 k5_11 Q) Q)) (thenE (W5 k5_11 Q) Q)) .normal e w := fun e w h => then_N (s5_32 (R := R) (Q := (thenE (W5 k5_11 Q) Q)) (K1 := K1) hN hX0 e w h)
  exact rgA 9 (fun e w => m5_32 R K1 (e 1) (e 5) (e 7) (e 9) (e 43) w) h hN
theorem s5_9 {R : VP} {Q : EQ} (hN : ∀ e w, (m5_7 R w) → Q .normal e w) (hR : ∀ e w, (R (e 4) w) → Q .ret e w) (e : Env) (w : World) (h : m5_9 R (e 1) (e 5) (e 7) (e 9) w) : W5 k5_9 Q e w := by
  unfold m5_9 at h
  refine block_ok 0 (by kernel_rfl) ?_
  have hX0 : ∀ e w, (m5_7 R w) → (inBlockE 0 Q) (.exit 0) e w := fun e w h => inBlock_same (Q := Q) 0 (hN e w h)
  have hR : ∀ e w, (R (e 4) w) → (inBlockE 0 Q) .ret e w := fun e w h => block_R (hR e w h)
  refine loop_ok' (fun (e : Env) => e 9) [1, 5, 7] (by kernel_rfl) (by kernel_rfl) h (fun K e' w' hk h' => ?_)
  have r1 : e' 1 = e 1 := hk 1 (by decide)
  have r5 : e' 5 = e 5 := hk 5 (by decide)
  have r7 : e' 7 = e 7 := hk 7 (by decide)
  have hR : ∀ e w, (R (e 4) w) → (thenE (fun (e : Env) w => K (e 9) w) (inBlockE 0 Q)) .ret e w := fun e w h => then_R (hR e w h)
  have hX0 : ∀ e w, (m5_7 R w) → (thenE (fun (e : Env) w => K (e 9) w) (inBlockE 0 Q)) (.exit 0) e w := fun e w h => then_X (hX0 e w h)
  exact s5_10 (R := R) (Q := (thenE (fun (e : Env) w => K (e 9) w) (inBlockE 0 Q))) (K1 := K) (fun _ _ h => then_N h) hR hX0 e' w' (by rw [r1, r5, r7]; exact h')
theorem s5_6 {R : VP} {Q : EQ} (hR : ∀ e w, (R (e 4) w) → Q .ret e w) (e : Env) (w : World) (h : m5_6 R (e 1) (e 5) (e 7) w) : W5 k5_6 Q e w := by
  unfold m5_6 at h
  refine seA ?_
  have hN : ∀ e w, (m5_7 R w) → (thenE (W5 k5_7 Q) Q) .normal e w := fun e w h => then_N (s5_7 (R := R) (Q := Q) hR e w h)
  have hR : ∀ e w, (R (e 4) w) → (thenE (W5 k5_7 Q) Q) .ret e w := fun e w h => then_R (hR e w h)
  refine seA ?_
  have hN : ∀ e w, (m5_9 R (e 1) (e 5) (e 7) (e 9) w) → (thenE (W5 k5_9 (thenE (W5 k5_7 Q) Q)) (thenE (W5 k5_7 Q) Q)) .normal e w := fun e w h => then_N (s5_9 (R := R) (Q := (thenE (W5 k5_7 Q) Q)) hN hR e w h)
  exact rgA 8 (fun e w => m5_9 R (e 1) (e 5) (e 7) (e 9) w) h hN
theorem s5_5 {R : VP} {Q : EQ} (hR : ∀ e w, (R (e 4) w) → Q .ret e w) (e : Env) (w : World) (h : m5_5 R (e 1) (e 5) (e 7) w) : W5 k5_5 Q e w := by
  unfold m5_5 at h
  refine seA ?_
  have hN : ∀ e w, (m5_6 R (e 1) (e 5) (e 7) w) → (thenE (W5 k5_6 Q) Q) .normal e w := fun e w h => then_N (s5_6 (R := R) (Q := Q) hR e w h)
  exact rgA 7 (fun e w => m5_6 R (e 1) (e 5) (e 7) w) h hN
theorem s5_33 {R : VP} {Q : EQ} (hN : ∀ e w, (m5_5 R (e 1) (e 5) (e 7) w) → Q .normal e w) (hR : ∀ e w, (R (e 4) w) → Q .ret e w) (e : Env) (w : World) (h : m5_33 R (e 1) (e 5) (e 7) (e 36) w) : W5 k5_33 Q e w := by
  unfold m5_33 at h
  refine coA (Operand.tmp 36) h (fun h1 => ?_) (fun h1 => ?_)
  · refine seA ?_
    have hN : ∀ e w, (m5_34 R (e 4) w) → (thenE (W5 k5_34 Q) Q) .normal e w := fun e w h => then_N (s5_34 (R := R) (Q := Q) hR e w h)
    exact rgA 6 (fun e w => m5_34 R (e 4) w) h1 hN
  · exact skA (hN _ _ h1)
theorem s5_4 {R : VP} {Q : EQ} (hR : ∀ e w, (R (e 4) w) → Q .ret e w) (e : Env) (w : World) (h : m5_4 R (e 1) (e 5) (e 7) w) : W5 k5_4 Q e w := by
  unfold m5_4 at h
  refine seA ?_
  have hN : ∀ e w, (m5_5 R (e 1) (e 5) (e 7) w) → (thenE (W5 k5_5 Q) Q) .normal e w := fun e w h => then_N (s5_5 (R := R) (Q := Q) hR e w h)
  have hR : ∀ e w, (R (e 4) w) → (thenE (W5 k5_5 Q) Q) .ret e w := fun e w h => then_R (hR e w h)
  refine seA ?_
  have hN : ∀ e w, (m5_33 R (e 1) (e 5) (e 7) (e 36) w) → (thenE (W5 k5_33 (thenE (W5 k5_5 Q) Q)) (thenE (W5 k5_5 Q) Q)) .normal e w := fun e w h => then_N (s5_33 (R := R) (Q := (thenE (W5 k5_5 Q) Q)) hN hR e w h)
  exact rgA 5 (fun e w => m5_33 R (e 1) (e 5) (e 7) (e 36) w) h hN
theorem s5_35 {R : VP} {Q : EQ} (hN : ∀ e w, (m5_4 R (e 1) (e 5) (e 7) w) → Q .normal e w) (hR : ∀ e w, (R (e 4) w) → Q .ret e w) (e : Env) (w : World) (h : m5_35 R (e 1) (e 5) (e 7) (e 34) w) : W5 k5_35 Q e w := by
  unfold m5_35 at h
  refine coA (Operand.tmp 34) h (fun h1 => ?_) (fun h1 => ?_)
  · refine seA ?_
    have hN : ∀ e w, (m5_36 R (e 4) w) → (thenE (W5 k5_36 Q) Q) .normal e w := fun e w h => then_N (s5_36 (R := R) (Q := Q) hR e w h)
    exact rgA 4 (fun e w => m5_36 R (e 4) w) h1 hN
  · exact skA (hN _ _ h1)
theorem s5_3 {R : VP} {Q : EQ} (hR : ∀ e w, (R (e 4) w) → Q .ret e w) (e : Env) (w : World) (h : m5_3 R (e 1) (e 5) (e 6) (e 7) (e 8) w) : W5 k5_3 Q e w := by
  unfold m5_3 at h
  refine seA ?_
  have hN : ∀ e w, (m5_4 R (e 1) (e 5) (e 7) w) → (thenE (W5 k5_4 Q) Q) .normal e w := fun e w h => then_N (s5_4 (R := R) (Q := Q) hR e w h)
  have hR : ∀ e w, (R (e 4) w) → (thenE (W5 k5_4 Q) Q) .ret e w := fun e w h => then_R (hR e w h)
  refine seA ?_
  have hN : ∀ e w, (m5_35 R (e 1) (e 5) (e 7) (e 34) w) → (thenE (W5 k5_35 (thenE (W5 k5_4 Q) Q)) (thenE (W5 k5_4 Q) Q)) .normal e w := fun e w h => then_N (s5_35 (R := R) (Q := (thenE (W5 k5_4 Q) Q)) hN hR e w h)
  exact rgA 3 (fun e w => m5_35 R (e 1) (e 5) (e 7) (e 34) w) h hN
theorem s5_2 {R : VP} {Q : EQ} (hR : ∀ e w, (R (e 4) w) → Q .ret e w) (e : Env) (w : World) (h : m5_2 R (e 0) (e 1) (e 5) (e 6) w) : W5 k5_2 Q e w := by
  unfold m5_2 at h
  refine seA ?_
  have hN : ∀ e w, (m5_3 R (e 1) (e 5) (e 6) (e 7) (e 8) w) → (thenE (W5 k5_3 Q) Q) .normal e w := fun e w h => then_N (s5_3 (R := R) (Q := Q) hR e w h)
  exact rgA 2 (fun e w => m5_3 R (e 1) (e 5) (e 6) (e 7) (e 8) w) h hN
theorem s5_1 {R : VP} {Q : EQ} (hR : ∀ e w, (R (e 4) w) → Q .ret e w) (e : Env) (w : World) (h : m5_1 R (e 0) (e 1) w) : W5 k5_1 Q e w := by
  unfold m5_1 at h
  refine seA ?_
  have hN : ∀ e w, (m5_2 R (e 0) (e 1) (e 5) (e 6) w) → (thenE (W5 k5_2 Q) Q) .normal e w := fun e w h => then_N (s5_2 (R := R) (Q := Q) hR e w h)
  exact rgA 1 (fun e w => m5_2 R (e 0) (e 1) (e 5) (e 6) w) h hN
theorem s5_0 {R : VP} {Q : EQ} (hR : ∀ e w, (R (e 4) w) → Q .ret e w) (e : Env) (w : World) (h : m5_0 R (e 0) (e 1) w) : W5 k5_0 Q e w := by
  unfold m5_0 at h
  refine seA ?_
  have hN : ∀ e w, (m5_1 R (e 0) (e 1) w) → (thenE (W5 k5_1 Q) Q) .normal e w := fun e w h => then_N (s5_1 (R := R) (Q := Q) hR e w h)
  exact rgA 0 (fun e w => m5_1 R (e 0) (e 1) w) h hN
abbrev m5 (R : VP) (parts0 l1 : Value) (w : World) : Prop := m5_0 R parts0 l1 w
theorem s5 (parts0 l1 : Value) {R : VP} {w : World} (h : m5 R parts0 l1 w) :
    Calls Try.prog 5 #[parts0, l1] w fun e w' => ∃ v, e = .returned v ∧ R v w' :=
  calls_of_cwp (st := (fun i => 0)) (c := k5_0) (by kernel_rfl) Try.func5 (by kernel_rfl) (Nat.le_of_ble_eq_true (by kernel_rfl)) (by kernel_rfl)
    (s5_0 (R := R) (Q := endE Try.prog Try.f5 R) (fun e w h => kcast (by kernel_rfl) h) (argsE #[parts0, l1]) w (kcast (by kernel_rfl) h))
end Go.Proofs.Ytjjmlopmemmobaa.M
