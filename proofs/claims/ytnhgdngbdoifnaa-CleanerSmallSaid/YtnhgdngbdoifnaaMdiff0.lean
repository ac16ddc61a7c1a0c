/- What functions' texts ask of their ends, told over values that have names; printed by a program of this work. -/
import Derived.Test.YtnhgdngbdoifnaaFw
import Derived.Test.YtnhgdngbdoifnaaProg
namespace Go.Proofs.Ytnhgdngbdoifnaa.M
open Go.Proofs.Ytnhgdngbdoifnaa.F
set_option linter.unusedVariables false
set_option maxRecDepth 100000
/-! ### headgate/headgateref17.there -/
def m26_3 (R : VP) (t2 : Value) (w : World) : Prop :=
  valS Try.prog (loadC 46 t2) w fun r0 =>
  R r0 w
def m26_2 (R : VP) (c1 t2 s3 : Value) (w : World) : Prop :=
  anyDraw w fun w =>
  heldP w fun J =>
  valJ Try.prog J (Instr.fieldAt 67 c1 0) fun t11 =>
  valJ Try.prog J (Instr.loadAt 3 t11) fun t12 =>
  valJ Try.prog J (Instr.fieldAt 67 c1 1) fun t13 =>
  valJ Try.prog J (Instr.loadAt 3 t13) fun t14 =>
  callP Try.prog (fnV 17) #[(Value.int IntKind.i64 1)] w fun t15 w =>
  stayP J w
  (valJ Try.prog J (binS BinOp.add 9 (Operand.tmp 15) (Operand.tmp 16) t15 s3) fun t17 =>
  valJ Try.prog J (Instr.build 46 #[(0, t12), (1, t14), (2, t17)]) fun t18 =>
  unitP Try.prog (Instr.storeAt 46 t2 t18) w fun _ w =>
  stayP J w
  (m26_3 R t2 w))
def m26_1 (R : VP) (c1 t2 : Value) (w : World) : Prop :=
  valP Try.prog (Instr.fieldAt 67 c1 2) w fun t6 w =>
  valP Try.prog (Instr.loadAt 65 t6) w fun t7 w =>
  callP Try.prog (fnV 47) #[t7] w fun t8 w =>
  valP Try.prog (Instr.extract t8 0) w fun t9 w =>
  valP Try.prog (Instr.extract t8 1) w fun t10 w =>
  m26_2 R c1 t2 t9 w
def m26_0 (R : VP) (c0 : Value) (w : World) : Prop :=
  valP Try.prog (Instr.box 67 c0) w fun c1 w =>
  valP Try.prog (Instr.alloc 46 true (.tuple #[])) w fun t2 w =>
  m26_1 R c1 t2 w
abbrev W26 := cwp Try.prog (fun i => 0)
noncomputable def k26_0 : Code := (bodyOf Try.f26)
noncomputable def k26_1 : Code := (c2 k26_0)
noncomputable def k26_2 : Code := (c2 k26_1)
noncomputable def k26_3 : Code := (c2 k26_2)
theorem s26_3 {R : VP} {Q : EQ} (hR : ∀ e w, (valS Try.prog (loadC 46 (e 2)) w fun r0 =>
R r0 w) → Q .ret e w) (e : Env) (w : World) (h : m26_3 R (e 2) w) : W26 k26_3 Q e w := by
  unfold m26_3 at h
  exact reA (hR _ _ h)
theorem s26_2 {R : VP} {Q : EQ} (hR : ∀ e w, (valS Try.prog (loadC 46 (e 2)) w fun r0 =>
R r0 w) → Q .ret e w) (e : Env) (w : World) (h : m26_2 R (e 1) (e 2) (e 3) w) : W26 k26_2 Q e w := by
  unfold m26_2 at h
  refine seA ?_
  have hN : ∀ e w, (m26_3 R (e 2) w) → (thenE (W26 k26_3 Q) Q) .normal e w := fun e w h => then_N (s26_3 (R := R) (Q := Q) hR e w h)
  exact treeJ_ok 2 9 [false, false, false, false, false, false, false, false, false] (.take 0 [true, false, false, false, false, false, false, false, false] (.take 1 [true, true, false, false, false, false, false, false, false] (.take 2 [true, true, true, false, false, false, false, false, false] (.take 3 [true, true, true, true, false, false, false, false, false] (.take 5 [true, true, true, true, false, true, false, false, false] (.alt 4 [true, true, true, true, true, true, false, false, false] (.take 6 [true, true, true, true, true, true, true, false, false] (.take 7 [true, true, true, true, true, true, true, true, false] (.alt 8 [true, true, true, true, true, true, true, true, true] .done .stop))) .stop)))))) (fun e w => m26_3 R (e 2) w) (by kernel_rfl) (by kernel_rfl) (by kernel_rfl) (by kernel_rfl) (by kernel_rfl) (by kernel_rfl) (kcast (by kernel_rfl) h) hN (by kernel_rfl)
theorem s26_1 {R : VP} {Q : EQ} (hR : ∀ e w, (valS Try.prog (loadC 46 (e 2)) w fun r0 =>
R r0 w) → Q .ret e w) (e : Env) (w : World) (h : m26_1 R (e 1) (e 2) w) : W26 k26_1 Q e w := by
  unfold m26_1 at h
  refine seA ?_
  have hN : ∀ e w, (m26_2 R (e 1) (e 2) (e 3) w) → (thenE (W26 k26_2 Q) Q) .normal e w := fun e w h => then_N (s26_2 (R := R) (Q := Q) hR e w h)
  exact rgA 1 (fun e w => m26_2 R (e 1) (e 2) (e 3) w) h hN
theorem s26_0 {R : VP} {Q : EQ} (hR : ∀ e w, (valS Try.prog (loadC 46 (e 2)) w fun r0 =>
R r0 w) → Q .ret e w) (e : Env) (w : World) (h : m26_0 R (e 0) w) : W26 k26_0 Q e w := by
  unfold m26_0 at h
  refine seA ?_
  have hN : ∀ e w, (m26_1 R (e 1) (e 2) w) → (thenE (W26 k26_1 Q) Q) .normal e w := fun e w h => then_N (s26_1 (R := R) (Q := Q) hR e w h)
  exact rgA 0 (fun e w => m26_1 R (e 1) (e 2) w) h hN
abbrev m26 (R : VP) (c0 : Value) (w : World) : Prop := m26_0 R c0 w
theorem s26 (c0 : Value) {R : VP} {w : World} (h : m26 R c0 w) :
    Calls Try.prog 26 #[c0] w fun e w' => ∃ v, e = .returned v ∧ R v w' :=
  calls_of_cwp (st := (fun i => 0)) (c := k26_0) (by kernel_rfl) Try.func26 (by kernel_rfl) (Nat.le_of_ble_eq_true (by kernel_rfl)) (by kernel_rfl)
    (s26_0 (R := R) (Q := endE Try.prog Try.f26 R) (fun e w h => kcast (by kernel_rfl) h) (argsE #[c0]) w (kcast (by kernel_rfl) h))
/-! ### headgate/headgateref17.Diff -/
def m14_19 (R : VP) (K1 : (Value × Value × Value) → World → Prop) (old2 now3 out5 i6 k7 : Value) (w : World) : Prop :=
  K1 (out5, i6, k7) w
def m14_18 (R : VP) (K1 : (Value × Value × Value) → World → Prop) (old2 now3 out5 i6 k7 : Value) (w : World) : Prop :=
  valP Try.prog (binS BinOp.add 3 (Operand.tmp 102) (Operand.const (Value.int IntKind.i64 1)) i6 (Value.int IntKind.i64 1)) w fun t103 w =>
  m14_19 R K1 old2 now3 out5 t103 k7 w
def m14_16 (R : VP) (K1 : (Value × Value × Value) → World → Prop) (old2 now3 out5 i6 k7 : Value) (w : World) : Prop :=
  K1 (out5, i6, k7) w
def m14_15 (R : VP) (K1 : (Value × Value × Value) → World → Prop) (old2 now3 out5 i6 k7 : Value) (w : World) : Prop :=
  valP Try.prog (binS BinOp.add 3 (Operand.tmp 131) (Operand.const (Value.int IntKind.i64 1)) k7 (Value.int IntKind.i64 1)) w fun t132 w =>
  m14_16 R K1 old2 now3 out5 i6 t132 w
def m14_12 (R : VP) (K1 : (Value × Value × Value) → World → Prop) (old2 now3 out5 i6 k7 : Value) (w : World) : Prop :=
  valP Try.prog (binS BinOp.add 3 (Operand.tmp 155) (Operand.const (Value.int IntKind.i64 1)) k7 (Value.int IntKind.i64 1)) w fun t156 w =>
  K1 (out5, i6, t156) w
def m14_11 (R : VP) (K1 : (Value × Value × Value) → World → Prop) (old2 now3 out5 i6 k7 : Value) (w : World) : Prop :=
  valP Try.prog (binS BinOp.add 3 (Operand.tmp 153) (Operand.const (Value.int IntKind.i64 1)) i6 (Value.int IntKind.i64 1)) w fun t154 w =>
  m14_12 R K1 old2 now3 out5 t154 k7 w
def m14_13 (R : VP) (K1 : (Value × Value × Value) → World → Prop) (old2 now3 out5 i6 k7 t143 : Value) (w : World) : Prop :=
  condP t143
  (valP Try.prog (Instr.fieldAt 28 now3 4) w fun t145 w =>
  valP Try.prog (Instr.loadAt 26 t145) w fun t146 w =>
  valP Try.prog (Instr.indexAt 26 t146 k7) w fun t148 w =>
  valP Try.prog (Instr.loadAt 67 t148) w fun t149 w =>
  callP Try.prog (fnV 26) #[t149] w fun t150 w =>
  valP Try.prog (Instr.buildSlice 24 1 #[(0, t150)]) w fun t151 w =>
  builtinP Try.prog Builtin.append #[24, 24] 24 #[false, false] #[out5, t151] w fun t152 w =>
  m14_11 R K1 old2 now3 t152 i6 k7 w)
  (m14_11 R K1 old2 now3 out5 i6 k7 w)
def m14_10 (R : VP) (K1 : (Value × Value × Value) → World → Prop) (old2 now3 out5 i6 k7 : Value) (w : World) : Prop :=
  valQ Try.prog (Instr.fieldAt 28 old2 4) w fun t133 =>
  valQ Try.prog (Instr.loadAt 26 t133) w fun t134 =>
  valQ Try.prog (Instr.indexAt 26 t134 i6) w fun t136 =>
  valQ Try.prog (Instr.loadAt 67 t136) w fun t137 =>
  valQ Try.prog (Instr.fieldAt 28 now3 4) w fun t138 =>
  valQ Try.prog (Instr.loadAt 26 t138) w fun t139 =>
  valQ Try.prog (Instr.indexAt 26 t139 k7) w fun t141 =>
  valQ Try.prog (Instr.loadAt 67 t141) w fun t142 =>
  valQ Try.prog (binS BinOp.neq 67 (Operand.tmp 137) (Operand.tmp 142) t137 t142) w fun t143 =>
  anyDraw w fun w =>
  m14_13 R K1 old2 now3 out5 i6 k7 t143 w
def m14_14 (R : VP) (K1 : (Value × Value × Value) → World → Prop) (old2 now3 out5 i6 k7 t121 : Value) (w : World) : Prop :=
  condP t121
  (valP Try.prog (Instr.fieldAt 28 now3 4) w fun t123 w =>
  valP Try.prog (Instr.loadAt 26 t123) w fun t124 w =>
  valP Try.prog (Instr.indexAt 26 t124 k7) w fun t126 w =>
  valP Try.prog (Instr.loadAt 67 t126) w fun t127 w =>
  callP Try.prog (fnV 26) #[t127] w fun t128 w =>
  valP Try.prog (Instr.buildSlice 24 1 #[(0, t128)]) w fun t129 w =>
  builtinP Try.prog Builtin.append #[24, 24] 24 #[false, false] #[out5, t129] w fun t130 w =>
  m14_15 R K1 old2 now3 t130 i6 k7 w)
  (m14_10 R K1 old2 now3 out5 i6 k7 w)
def m14_9 (R : VP) (K1 : (Value × Value × Value) → World → Prop) (old2 now3 out5 i6 k7 : Value) (w : World) : Prop :=
  anyDraw w fun w =>
  valS Try.prog (Instr.fieldAt 28 old2 4) w fun t105 =>
  valS Try.prog (Instr.loadAt 26 t105) w fun t106 =>
  builtinS Try.prog Builtin.len #[26] 3 #[false] #[t106] w fun t107 =>
  valS Try.prog (binS BinOp.eql 3 (Operand.tmp 104) (Operand.tmp 107) i6 t107) w fun t108 =>
  condP t108
  (pickP t108 (Value.bool true) undef fun t121 =>
  m14_14 R K1 old2 now3 out5 i6 k7 t121 w)
  (valS Try.prog (Instr.fieldAt 28 now3 4) w fun t110 =>
  valS Try.prog (Instr.loadAt 26 t110) w fun t111 =>
  valS Try.prog (Instr.indexAt 26 t111 k7) w fun t113 =>
  valS Try.prog (Instr.loadAt 67 t113) w fun t114 =>
  valS Try.prog (Instr.fieldAt 28 old2 4) w fun t115 =>
  valS Try.prog (Instr.loadAt 26 t115) w fun t116 =>
  valS Try.prog (Instr.indexAt 26 t116 i6) w fun t118 =>
  valS Try.prog (Instr.loadAt 67 t118) w fun t119 =>
  callP Try.prog (fnV 25) #[t114, t119] w fun t120 w =>
  pickP t108 (Value.bool true) t120 fun t121 =>
  m14_14 R K1 old2 now3 out5 i6 k7 t121 w)
def m14_17 (R : VP) (K1 : (Value × Value × Value) → World → Prop) (old2 now3 out5 i6 k7 t84 : Value) (w : World) : Prop :=
  condP t84
  (anyDraw w fun w =>
  heldP w fun J =>
  valJ Try.prog J (Instr.fieldAt 28 old2 4) fun t86 =>
  valJ Try.prog J (Instr.loadAt 26 t86) fun t87 =>
  valJ Try.prog J (Instr.indexAt 26 t87 i6) fun t89 =>
  valJ Try.prog J (Instr.fieldAt 67 t89 0) fun t90 =>
  valJ Try.prog J (Instr.loadAt 3 t90) fun t91 =>
  valJ Try.prog J (Instr.fieldAt 28 old2 4) fun t92 =>
  valJ Try.prog J (Instr.loadAt 26 t92) fun t93 =>
  valJ Try.prog J (Instr.indexAt 26 t93 i6) fun t95 =>
  valJ Try.prog J (Instr.fieldAt 67 t95 1) fun t96 =>
  valJ Try.prog J (Instr.loadAt 3 t96) fun t97 =>
  callP Try.prog (fnV 17) #[(Value.int IntKind.i64 2)] w fun t98 w =>
  stayP J w
  (valJ Try.prog J (Instr.build 46 #[(0, t91), (1, t97), (2, t98)]) fun t99 =>
  valP Try.prog (Instr.buildSlice 24 1 #[(0, t99)]) w fun t100 w =>
  stayP J w
  (builtinP Try.prog Builtin.append #[24, 24] 24 #[false, false] #[out5, t100] w fun t101 w =>
  stayP J w
  (m14_18 R K1 old2 now3 t101 i6 k7 w))))
  (m14_9 R K1 old2 now3 out5 i6 k7 w)
def m14_8 (R : VP) (K1 : (Value × Value × Value) → World → Prop) (old2 now3 out5 i6 k7 : Value) (w : World) : Prop :=
  anyDraw w fun w =>
  valS Try.prog (Instr.fieldAt 28 now3 4) w fun t61 =>
  valS Try.prog (Instr.loadAt 26 t61) w fun t62 =>
  builtinS Try.prog Builtin.len #[26] 3 #[false] #[t62] w fun t63 =>
  valS Try.prog (binS BinOp.eql 3 (Operand.tmp 60) (Operand.tmp 63) k7 t63) w fun t64 =>
  condP t64
  (pickP t64 (Value.bool true) undef fun t84 =>
  m14_17 R K1 old2 now3 out5 i6 k7 t84 w)
  (valS Try.prog (Instr.fieldAt 28 old2 4) w fun t67 =>
  valS Try.prog (Instr.loadAt 26 t67) w fun t68 =>
  builtinS Try.prog Builtin.len #[26] 3 #[false] #[t68] w fun t69 =>
  valS Try.prog (binS BinOp.lss 3 (Operand.tmp 66) (Operand.tmp 69) i6 t69) w fun t70 =>
  condP t70
  (valS Try.prog (Instr.fieldAt 28 old2 4) w fun t72 =>
  valS Try.prog (Instr.loadAt 26 t72) w fun t73 =>
  valS Try.prog (Instr.indexAt 26 t73 i6) w fun t75 =>
  valS Try.prog (Instr.loadAt 67 t75) w fun t76 =>
  valS Try.prog (Instr.fieldAt 28 now3 4) w fun t77 =>
  valS Try.prog (Instr.loadAt 26 t77) w fun t78 =>
  valS Try.prog (Instr.indexAt 26 t78 k7) w fun t80 =>
  valS Try.prog (Instr.loadAt 67 t80) w fun t81 =>
  callP Try.prog (fnV 25) #[t76, t81] w fun t82 w =>
  pickP t70 t82 (Value.bool false) fun t83 =>
  pickP t64 (Value.bool true) t83 fun t84 =>
  m14_17 R K1 old2 now3 out5 i6 k7 t84 w)
  (pickP t70 undef (Value.bool false) fun t83 =>
  pickP t64 (Value.bool true) t83 fun t84 =>
  m14_17 R K1 old2 now3 out5 i6 k7 t84 w))
def m14_6 (R : VP) (t4 : Value) (w : World) : Prop :=
  R t4 w
def m14_5 (R : VP) (out5 : Value) (w : World) : Prop :=
  m14_6 R out5 w
def m14_20 (R : VP) (K1 : (Value × Value × Value) → World → Prop) (old2 now3 out5 i6 k7 t59 : Value) (w : World) : Prop :=
  condP t59
  (m14_8 R K1 old2 now3 out5 i6 k7 w)
  (m14_5 R out5 w)
def m14_7 (R : VP) (K1 : (Value × Value × Value) → World → Prop) (old2 now3 out5 i6 k7 : Value) (w : World) : Prop :=
  valP Try.prog (Instr.fieldAt 28 old2 4) w fun t49 w =>
  valP Try.prog (Instr.loadAt 26 t49) w fun t50 w =>
  builtinP Try.prog Builtin.len #[26] 3 #[false] #[t50] w fun t51 w =>
  valP Try.prog (binS BinOp.lss 3 (Operand.tmp 48) (Operand.tmp 51) i6 t51) w fun t52 w =>
  condP t52
  (pickP t52 (Value.bool true) undef fun t59 =>
  m14_20 R K1 old2 now3 out5 i6 k7 t59 w)
  (valP Try.prog (Instr.fieldAt 28 now3 4) w fun t55 w =>
  valP Try.prog (Instr.loadAt 26 t55) w fun t56 w =>
  builtinP Try.prog Builtin.len #[26] 3 #[false] #[t56] w fun t57 w =>
  valP Try.prog (binS BinOp.lss 3 (Operand.tmp 54) (Operand.tmp 57) k7 t57) w fun t58 w =>
  pickP t52 (Value.bool true) t58 fun t59 =>
  m14_20 R K1 old2 now3 out5 i6 k7 t59 w)
def m14_4 (R : VP) (old2 now3 out5 i6 k7 : Value) (w : World) : Prop :=
  loopP (fun (K1 : (Value × Value × Value) → World → Prop) (s : Value × Value × Value) w => m14_7 R K1 old2 now3 s.1 s.2.1 s.2.2 w) (out5, i6, k7) w
def m14_3 (R : VP) (old2 now3 out5 : Value) (w : World) : Prop :=
  m14_4 R old2 now3 out5 (Value.int IntKind.i64 0) (Value.int IntKind.i64 0) w
def m14_21 (R : VP) (old2 now3 out5 t33 : Value) (w : World) : Prop :=
  condP t33
  (valP Try.prog (Instr.fieldAt 28 now3 0) w fun t35 w =>
  valP Try.prog (Instr.loadAt 3 t35) w fun t36 w =>
  valP Try.prog (Instr.fieldAt 28 now3 1) w fun t37 w =>
  valP Try.prog (Instr.loadAt 3 t37) w fun t38 w =>
  valP Try.prog (Instr.fieldAt 28 now3 2) w fun t39 w =>
  valP Try.prog (Instr.loadAt 3 t39) w fun t40 w =>
  valP Try.prog (Instr.fieldAt 28 now3 3) w fun t41 w =>
  valP Try.prog (Instr.loadAt 3 t41) w fun t42 w =>
  valP Try.prog (Instr.buildSlice 51 5 #[(0, (Value.int IntKind.i64 0)), (1, t36), (2, t38), (3, t40), (4, t42)]) w fun t43 w =>
  callP Try.prog (fnV 16) #[t43] w fun t44 w =>
  valP Try.prog (Instr.build 46 #[(2, t44)]) w fun t45 w =>
  valP Try.prog (Instr.buildSlice 24 1 #[(0, t45)]) w fun t46 w =>
  builtinP Try.prog Builtin.append #[24, 24] 24 #[false, false] #[out5, t46] w fun t47 w =>
  m14_3 R old2 now3 t47 w)
  (m14_3 R old2 now3 out5 w)
def m14_2 (R : VP) (old2 now3 out5 : Value) (w : World) : Prop :=
  valP Try.prog (Instr.fieldAt 28 old2 0) w fun t8 w =>
  valP Try.prog (Instr.loadAt 3 t8) w fun t9 w =>
  valP Try.prog (Instr.fieldAt 28 now3 0) w fun t10 w =>
  valP Try.prog (Instr.loadAt 3 t10) w fun t11 w =>
  valP Try.prog (binS BinOp.neq 3 (Operand.tmp 9) (Operand.tmp 11) t9 t11) w fun t12 w =>
  condP t12
  (pickP t12 (Value.bool true) undef fun t19 =>
  condP t19
  (pickP t19 (Value.bool true) undef fun t26 =>
  condP t26
  (pickP t26 (Value.bool true) undef fun t33 =>
  m14_21 R old2 now3 out5 t33 w)
  (valP Try.prog (Instr.fieldAt 28 old2 3) w fun t28 w =>
  valP Try.prog (Instr.loadAt 3 t28) w fun t29 w =>
  valP Try.prog (Instr.fieldAt 28 now3 3) w fun t30 w =>
  valP Try.prog (Instr.loadAt 3 t30) w fun t31 w =>
  valP Try.prog (binS BinOp.neq 3 (Operand.tmp 29) (Operand.tmp 31) t29 t31) w fun t32 w =>
  pickP t26 (Value.bool true) t32 fun t33 =>
  m14_21 R old2 now3 out5 t33 w))
  (valP Try.prog (Instr.fieldAt 28 old2 2) w fun t21 w =>
  valP Try.prog (Instr.loadAt 3 t21) w fun t22 w =>
  valP Try.prog (Instr.fieldAt 28 now3 2) w fun t23 w =>
  valP Try.prog (Instr.loadAt 3 t23) w fun t24 w =>
  valP Try.prog (binS BinOp.neq 3 (Operand.tmp 22) (Operand.tmp 24) t22 t24) w fun t25 w =>
  pickP t19 (Value.bool true) t25 fun t26 =>
  condP t26
  (pickP t26 (Value.bool true) undef fun t33 =>
  m14_21 R old2 now3 out5 t33 w)
  (valP Try.prog (Instr.fieldAt 28 old2 3) w fun t28 w =>
  valP Try.prog (Instr.loadAt 3 t28) w fun t29 w =>
  valP Try.prog (Instr.fieldAt 28 now3 3) w fun t30 w =>
  valP Try.prog (Instr.loadAt 3 t30) w fun t31 w =>
  valP Try.prog (binS BinOp.neq 3 (Operand.tmp 29) (Operand.tmp 31) t29 t31) w fun t32 w =>
  pickP t26 (Value.bool true) t32 fun t33 =>
  m14_21 R old2 now3 out5 t33 w)))
  (valP Try.prog (Instr.fieldAt 28 old2 1) w fun t14 w =>
  valP Try.prog (Instr.loadAt 3 t14) w fun t15 w =>
  valP Try.prog (Instr.fieldAt 28 now3 1) w fun t16 w =>
  valP Try.prog (Instr.loadAt 3 t16) w fun t17 w =>
  valP Try.prog (binS BinOp.neq 3 (Operand.tmp 15) (Operand.tmp 17) t15 t17) w fun t18 w =>
  pickP t12 (Value.bool true) t18 fun t19 =>
  condP t19
  (pickP t19 (Value.bool true) undef fun t26 =>
  condP t26
  (pickP t26 (Value.bool true) undef fun t33 =>
  m14_21 R old2 now3 out5 t33 w)
  (valP Try.prog (Instr.fieldAt 28 old2 3) w fun t28 w =>
  valP Try.prog (Instr.loadAt 3 t28) w fun t29 w =>
  valP Try.prog (Instr.fieldAt 28 now3 3) w fun t30 w =>
  valP Try.prog (Instr.loadAt 3 t30) w fun t31 w =>
  valP Try.prog (binS BinOp.neq 3 (Operand.tmp 29) (Operand.tmp 31) t29 t31) w fun t32 w =>
  pickP t26 (Value.bool true) t32 fun t33 =>
  m14_21 R old2 now3 out5 t33 w))
  (valP Try.prog (Instr.fieldAt 28 old2 2) w fun t21 w =>
  valP Try.prog (Instr.loadAt 3 t21) w fun t22 w =>
  valP Try.prog (Instr.fieldAt 28 now3 2) w fun t23 w =>
  valP Try.prog (Instr.loadAt 3 t23) w fun t24 w =>
  valP Try.prog (binS BinOp.neq 3 (Operand.tmp 22) (Operand.tmp 24) t22 t24) w fun t25 w =>
  pickP t19 (Value.bool true) t25 fun t26 =>
  condP t26
  (pickP t26 (Value.bool true) undef fun t33 =>
  m14_21 R old2 now3 out5 t33 w)
  (valP Try.prog (Instr.fieldAt 28 old2 3) w fun t28 w =>
  valP Try.prog (Instr.loadAt 3 t28) w fun t29 w =>
  valP Try.prog (Instr.fieldAt 28 now3 3) w fun t30 w =>
  valP Try.prog (Instr.loadAt 3 t30) w fun t31 w =>
  valP Try.prog (binS BinOp.neq 3 (Operand.tmp 29) (Operand.tmp 31) t29 t31) w fun t32 w =>
  pickP t26 (Value.bool true) t32 fun t33 =>
  m14_21 R old2 now3 out5 t33 w)))
def m14_1 (R : VP) (old2 now3 : Value) (w : World) : Prop :=
  m14_2 R old2 now3 (Value.slice none 0 0) w
def m14_0 (R : VP) (old0 now1 : Value) (w : World) : Prop :=
  valP Try.prog (Instr.box 28 old0) w fun old2 w =>
  valP Try.prog (Instr.box 28 now1) w fun now3 w =>
  m14_1 R old2 now3 w
abbrev W14 := cwp Try.prog (fun i => cond (Nat.beq i 12) 1 (cond (Nat.beq i 9) 18 (cond (Nat.beq i 6) 24 (0))))
noncomputable def k14_0 : Code := (bodyOf Try.f14)
noncomputable def k14_1 : Code := (c2 k14_0)
noncomputable def k14_2 : Code := (c2 k14_1)
noncomputable def k14_3 : Code := (c2 k14_2)
noncomputable def k14_4 : Code := (c2 k14_3)
noncomputable def k14_5 : Code := (c2 k14_4)
noncomputable def k14_6 : Code := (c2 k14_5)
noncomputable def k14_7 : Code := (c1 (c1 (c1 k14_4)))
noncomputable def k14_8 : Code := (c2 k14_7)
noncomputable def k14_9 : Code := (c2 (c1 k14_8))
noncomputable def k14_10 : Code := (c2 k14_9)
noncomputable def k14_11 : Code := (c2 k14_10)
noncomputable def k14_12 : Code := (c2 k14_11)
noncomputable def k14_13 : Code := (c2 (c1 k14_10))
noncomputable def k14_14 : Code := (c2 (c1 k14_9))
noncomputable def k14_15 : Code := (c2 (c1 k14_14))
noncomputable def k14_16 : Code := (c2 k14_15)
noncomputable def k14_17 : Code := (c2 (c1 (c1 k14_8)))
noncomputable def k14_18 : Code := (c2 (c1 k14_17))
noncomputable def k14_19 : Code := (c2 k14_18)
noncomputable def k14_20 : Code := (c2 (c1 k14_7))
noncomputable def k14_21 : Code := (c2 (c1 k14_2))
theorem s14_19 {R : VP} {K1 : (Value × Value × Value) → World → Prop} {Q : EQ} (hX1 : ∀ e w, (K1 ((e 5), (e 6), (e 7)) w) → Q (.exit 1) e w) (e : Env) (w : World) (h : m14_19 R K1 (e 2) (e 3) (e 5) (e 6) (e 7) w) : W14 k14_19 Q e w := by
  unfold m14_19 at h
  exact exA 1 (hX1 _ _ h)
theorem s14_18 {R : VP} {K1 : (Value × Value × Value) → World → Prop} {Q : EQ} (hX1 : ∀ e w, (K1 ((e 5), (e 6), (e 7)) w) → Q (.exit 1) e w) (e : Env) (w : World) (h : m14_18 R K1 (e 2) (e 3) (e 5) (e 6) (e 7) w) : W14 k14_18 Q e w := by
  unfold m14_18 at h
  refine seA ?_
  have hN : ∀ e w, (m14_19 R K1 (e 2) (e 3) (e 5) (e 6) (e 7) w) → (thenE (W14 k14_19 Q) Q) .normal e w := fun e w h => then_N (s14_19 (R := R) (Q := Q) (K1 := K1) hX1 e w h)
  exact rgA 8 (fun e w => m14_19 R K1 (e 2) (e 3) (e 5) (e 6) (e 7) w) h hN
theorem s14_16 {R : VP} {K1 : (Value × Value × Value) → World → Prop} {Q : EQ} (hX1 : ∀ e w, (K1 ((e 5), (e 6), (e 7)) w) → Q (.exit 1) e w) (e : Env) (w : World) (h : m14_16 R K1 (e 2) (e 3) (e 5) (e 6) (e 7) w) : W14 k14_16 Q e w := by
  unfold m14_16 at h
  exact exA 1 (hX1 _ _ h)
theorem s14_15 {R : VP} {K1 : (Value × Value × Value) → World → Prop} {Q : EQ} (hX1 : ∀ e w, (K1 ((e 5), (e 6), (e 7)) w) → Q (.exit 1) e w) (e : Env) (w : World) (h : m14_15 R K1 (e 2) (e 3) (e 5) (e 6) (e 7) w) : W14 k14_15 Q e w := by
  unfold m14_15 at h
  refine seA ?_
  have hN : ∀ e w, (m14_16 R K1 (e 2) (e 3) (e 5) (e 6) (e 7) w) → (thenE (W14 k14_16 Q) Q) .normal e w := fun e w h => then_N (s14_16 (R := R) (Q := Q) (K1 := K1) hX1 e w h)
  exact rgA 11 (fun e w => m14_16 R K1 (e 2) (e 3) (e 5) (e 6) (e 7) w) h hN
theorem s14_12 {R : VP} {K1 : (Value × Value × Value) → World → Prop} {Q : EQ} (hN : ∀ e w, (K1 ((e 5), (e 6), (e 7)) w) → Q .normal e w) (e : Env) (w : World) (h : m14_12 R K1 (e 2) (e 3) (e 5) (e 6) (e 7) w) : W14 k14_12 Q e w := by
  unfold m14_12 at h
  exact rgA 15 (fun e w => K1 ((e 5), (e 6), (e 7)) w) h hN
theorem s14_11 {R : VP} {K1 : (Value × Value × Value) → World → Prop} {Q : EQ} (hN : ∀ e w, (K1 ((e 5), (e 6), (e 7)) w) → Q .normal e w) (e : Env) (w : World) (h : m14_11 R K1 (e 2) (e 3) (e 5) (e 6) (e 7) w) : W14 k14_11 Q e w := by
  unfold m14_11 at h
  refine seA ?_
  have hN : ∀ e w, (m14_12 R K1 (e 2) (e 3) (e 5) (e 6) (e 7) w) → (thenE (W14 k14_12 Q) Q) .normal e w := fun e w h => then_N (s14_12 (R := R) (Q := Q) (K1 := K1) hN e w h)
  exact rgA 14 (fun e w => m14_12 R K1 (e 2) (e 3) (e 5) (e 6) (e 7) w) h hN
theorem s14_13 {R : VP} {K1 : (Value × Value × Value) → World → Prop} {Q : EQ} (hN : ∀ e w, (m14_11 R K1 (e 2) (e 3) (e 5) (e 6) (e 7) w) → Q .normal e w) (e : Env) (w : World) (h : m14_13 R K1 (e 2) (e 3) (e 5) (e 6) (e 7) (e 143) w) : W14 k14_13 Q e w := by
  unfold m14_13 at h
  refine coA (Operand.tmp 143) h (fun h1 => ?_) (fun h1 => ?_)
  · exact rgA 13 (fun e w => m14_11 R K1 (e 2) (e 3) (e 5) (e 6) (e 7) w) h1 hN
  · exact skA (hN _ _ h1)
theorem s14_10 {R : VP} {K1 : (Value × Value × Value) → World → Prop} {Q : EQ} (hN : ∀ e w, (K1 ((e 5), (e 6), (e 7)) w) → Q .normal e w) (e : Env) (w : World) (h : m14_10 R K1 (e 2) (e 3) (e 5) (e 6) (e 7) w) : W14 k14_10 Q e w := by
  unfold m14_10 at h
  refine seA ?_
  have hN : ∀ e w, (m14_11 R K1 (e 2) (e 3) (e 5) (e 6) (e 7) w) → (thenE (W14 k14_11 Q) Q) .normal e w := fun e w h => then_N (s14_11 (R := R) (Q := Q) (K1 := K1) hN e w h)
  refine seA ?_
  have hN : ∀ e w, (m14_13 R K1 (e 2) (e 3) (e 5) (e 6) (e 7) (e 143) w) → (thenE (W14 k14_13 (thenE (W14 k14_11 Q) Q)) (thenE (W14 k14_11 Q) Q)) .normal e w := fun e w h => then_N (s14_13 (R := R) (Q := (thenE (W14 k14_11 Q) Q)) (K1 := K1) hN e w h)
  exact quA 12 (fun e w => m14_13 R K1 (e 2) (e 3) (e 5) (e 6) (e 7) (e 143) w) h hN
theorem s14_14 {R : VP} {K1 : (Value × Value × Value) → World → Prop} {Q : EQ} (hN : ∀ e w, (m14_10 R K1 (e 2) (e 3) (e 5) (e 6) (e 7) w) → Q .normal e w) (hX1 : ∀ e w, (K1 ((e 5), (e 6), (e 7)) w) → Q (.exit 1) e w) (e : Env) (w : World) (h : m14_14 R K1 (e 2) (e 3) (e 5) (e 6) (e 7) (e 121) w) : W14 k14_14 Q e w := by
  unfold m14_14 at h
  refine coA (Operand.tmp 121) h (fun h1 => ?_) (fun h1 => ?_)
  · refine seA ?_
    have hN : ∀ e w, (m14_15 R K1 (e 2) (e 3) (e 5) (e 6) (e 7) w) → (thenE (W14 k14_15 Q) Q) .normal e w := fun e w h => then_N (s14_15 (R := R) (Q := Q) (K1 := K1) hX1 e w h)
    exact rgA 10 (fun e w => m14_15 R K1 (e 2) (e 3) (e 5) (e 6) (e 7) w) h1 hN
  · exact skA (hN _ _ h1)
theorem s14_9 {R : VP} {K1 : (Value × Value × Value) → World → Prop} {Q : EQ} (hN : ∀ e w, (K1 ((e 5), (e 6), (e 7)) w) → Q .normal e w) (hX1 : ∀ e w, (K1 ((e 5), (e 6), (e 7)) w) → Q (.exit 1) e w) (e : Env) (w : World) (h : m14_9 R K1 (e 2) (e 3) (e 5) (e 6) (e 7) w) : W14 k14_9 Q e w := by
  unfold m14_9 at h
  refine seA ?_
  have hN : ∀ e w, (m14_10 R K1 (e 2) (e 3) (e 5) (e 6) (e 7) w) → (thenE (W14 k14_10 Q) Q) .normal e w := fun e w h => then_N (s14_10 (R := R) (Q := Q) (K1 := K1) hN e w h)
  have hX1 : ∀ e w, (K1 ((e 5), (e 6), (e 7)) w) → (thenE (W14 k14_10 Q) Q) (.exit 1) e w := fun e w h => then_X (hX1 e w h)
  refine seA ?_
  have hN : ∀ e w, (m14_14 R K1 (e 2) (e 3) (e 5) (e 6) (e 7) (e 121) w) → (thenE (W14 k14_14 (thenE (W14 k14_10 Q) Q)) (thenE (W14 k14_10 Q) Q)) .normal e w := fun e w h => then_N (s14_14 (R := R) (Q := (thenE (W14 k14_10 Q) Q)) (K1 := K1) hN hX1 e w h)
  exact taA 9 16 (fun e w => m14_14 R K1 (e 2) (e 3) (e 5) (e 6) (e 7) (e 121) w) h hN
theorem s14_17 {R : VP} {K1 : (Value × Value × Value) → World → Prop} {Q : EQ} (hN : ∀ e w, (m14_9 R K1 (e 2) (e 3) (e 5) (e 6) (e 7) w) → Q .normal e w) (hX1 : ∀ e w, (K1 ((e 5), (e 6), (e 7)) w) → Q (.exit 1) e w) (e : Env) (w : World) (h : m14_17 R K1 (e 2) (e 3) (e 5) (e 6) (e 7) (e 84) w) : W14 k14_17 Q e w := by
  unfold m14_17 at h
  refine coA (Operand.tmp 84) h (fun h1 => ?_) (fun h1 => ?_)
  · refine seA ?_
    have hN : ∀ e w, (m14_18 R K1 (e 2) (e 3) (e 5) (e 6) (e 7) w) → (thenE (W14 k14_18 Q) Q) .normal e w := fun e w h => then_N (s14_18 (R := R) (Q := Q) (K1 := K1) hX1 e w h)
    exact treeJ_ok 7 18 [false, false, false, false, false, false, false, false, false, false, false, false, false, false, false, false, false, false] (.take 0 [true, false, false, false, false, false, false, false, false, false, false, false, false, false, false, false, false, false] (.take 1 [true, true, false, false, false, false, false, false, false, false, false, false, false, false, false, false, false, false] (.take 2 [true, true, true, false, false, false, false, false, false, false, false, false, false, false, false, false, false, false] (.take 3 [true, true, true, true, false, false, false, false, false, false, false, false, false, false, false, false, false, false] (.take 4 [true, true, true, true, true, false, false, false, false, false, false, false, false, false, false, false, false, false] (.take 5 [true, true, true, true, true, true, false, false, false, false, false, false, false, false, false, false, false, false] (.take 6 [true, true, true, true, true, true, true, false, false, false, false, false, false, false, false, false, false, false] (.take 7 [true, true, true, true, true, true, true, true, false, false, false, false, false, false, false, false, false, false] (.take 8 [true, true, true, true, true, true, true, true, true, false, false, false, false, false, false, false, false, false] (.take 9 [true, true, true, true, true, true, true, true, true, true, false, false, false, false, false, false, false, false] (.take 10 [true, true, true, true, true, true, true, true, true, true, true, false, false, false, false, false, false, false] (.take 11 [true, true, true, true, true, true, true, true, true, true, true, true, false, false, false, false, false, false] (.take 12 [true, true, true, true, true, true, true, true, true, true, true, true, true, false, false, false, false, false] (.alt 13 [true, true, true, true, true, true, true, true, true, true, true, true, true, true, false, false, false, false] (.take 14 [true, true, true, true, true, true, true, true, true, true, true, true, true, true, true, false, false, false] (.alt 15 [true, true, true, true, true, true, true, true, true, true, true, true, true, true, true, true, false, false] (.alt 16 [true, true, true, true, true, true, true, true, true, true, true, true, true, true, true, true, true, false] (.take 17 [true, true, true, true, true, true, true, true, true, true, true, true, true, true, true, true, true, true] .done) .stop) .stop)) .stop)))))))))))))) (fun e w => m14_18 R K1 (e 2) (e 3) (e 5) (e 6) (e 7) w) (by kernel_rfl) (by kernel_rfl) (by kernel_rfl) (by kernel_rfl) (by kernel_rfl) (by kernel_rfl) (kcast (by kernel_rfl) h1) hN (by kernel_rfl)
  · exact skA (hN _ _ h1)
theorem s14_8 {R : VP} {K1 : (Value × Value × Value) → World → Prop} {Q : EQ} (hN : ∀ e w, (K1 ((e 5), (e 6), (e 7)) w) → Q .normal e w) (e : Env) (w : World) (h : m14_8 R K1 (e 2) (e 3) (e 5) (e 6) (e 7) w) : W14 k14_8 Q e w := by
  unfold m14_8 at h
  refine block_ok 1 (by kernel_rfl) ?_
  have hX1 : ∀ e w, (K1 ((e 5), (e 6), (e 7)) w) → (inBlockE 1 Q) (.exit 1) e w := fun e w h => inBlock_same (Q := Q) 1 (hN e w h)
  have hN : ∀ e w, (K1 ((e 5), (e 6), (e 7)) w) → (inBlockE 1 Q) .normal e w := fun e w h => block_N (hN e w h)
  refine seA ?_
  have hN : ∀ e w, (m14_9 R K1 (e 2) (e 3) (e 5) (e 6) (e 7) w) → (thenE (W14 k14_9 (inBlockE 1 Q)) (inBlockE 1 Q)) .normal e w := fun e w h => then_N (s14_9 (R := R) (Q := (inBlockE 1 Q)) (K1 := K1) hN hX1 e w h)
  have hX1 : ∀ e w, (K1 ((e 5), (e 6), (e 7)) w) → (thenE (W14 k14_9 (inBlockE 1 Q)) (inBlockE 1 Q)) (.exit 1) e w := fun e w h => then_X (hX1 e w h)
  refine seA ?_
  have hN : ∀ e w, (m14_17 R K1 (e 2) (e 3) (e 5) (e 6) (e 7) (e 84) w) → (thenE (W14 k14_17 (thenE (W14 k14_9 (inBlockE 1 Q)) (inBlockE 1 Q))) (thenE (W14 k14_9 (inBlockE 1 Q)) (inBlockE 1 Q))) .normal e w := fun e w h => then_N (s14_17 (R := R) (Q := (thenE (W14 k14_9 (inBlockE 1 Q)) (inBlockE 1 Q))) (K1 := K1) hN hX1 e w h)
  exact taA 6 22 (fun e w => m14_17 R K1 (e 2) (e 3) (e 5) (e 6) (e 7) (e 84) w) h hN
theorem s14_6 {R : VP} {Q : EQ} (hR : ∀ e w, (R (e 4) w) → Q .ret e w) (e : Env) (w : World) (h : m14_6 R (e 4) w) : W14 k14_6 Q e w := by
  unfold m14_6 at h
  exact reA (hR _ _ h)
theorem s14_5 {R : VP} {Q : EQ} (hR : ∀ e w, (R (e 4) w) → Q .ret e w) (e : Env) (w : World) (h : m14_5 R (e 5) w) : W14 k14_5 Q e w := by
  unfold m14_5 at h
  refine seA ?_
  have hN : ∀ e w, (m14_6 R (e 4) w) → (thenE (W14 k14_6 Q) Q) .normal e w := fun e w h => then_N (s14_6 (R := R) (Q := Q) hR e w h)
  exact rgA 16 (fun e w => m14_6 R (e 4) w) h hN
theorem s14_20 {R : VP} {K1 : (Value × Value × Value) → World → Prop} {Q : EQ} (hN : ∀ e w, (m14_8 R K1 (e 2) (e 3) (e 5) (e 6) (e 7) w) → Q .normal e w) (hX0 : ∀ e w, (m14_5 R (e 5) w) → Q (.exit 0) e w) (e : Env) (w : World) (h : m14_20 R K1 (e 2) (e 3) (e 5) (e 6) (e 7) (e 59) w) : W14 k14_20 Q e w := by
  unfold m14_20 at h
  refine coA (Operand.tmp 59) h (fun h1 => ?_) (fun h1 => ?_)
  · exact skA (hN _ _ h1)
  · exact exA 0 (hX0 _ _ h1)
theorem s14_7 {R : VP} {K1 : (Value × Value × Value) → World → Prop} {Q : EQ} (hN : ∀ e w, (K1 ((e 5), (e 6), (e 7)) w) → Q .normal e w) (hX0 : ∀ e w, (m14_5 R (e 5) w) → Q (.exit 0) e w) (e : Env) (w : World) (h : m14_7 R K1 (e 2) (e 3) (e 5) (e 6) (e 7) w) : W14 k14_7 Q e w := by
  unfold m14_7 at h
  refine seA ?_
  have hN : ∀ e w, (m14_8 R K1 (e 2) (e 3) (e 5) (e 6) (e 7) w) → (thenE (W14 k14_8 Q) Q) .normal e w := fun e w h => then_N (s14_8 (R := R) (Q := Q) (K1 := K1) hN e w h)
  have hX0 : ∀ e w, (m14_5 R (e 5) w) → (thenE (W14 k14_8 Q) Q) (.exit 0) e w := fun e w h => then_X (hX0 e w h)
  refine seA ?_
  have hN : ∀ e w, (m14_20 R K1 (e 2) (e 3) (e 5) (e 6) (e 7) (e 59) w) → (thenE (W14 k14_20 (thenE (W14 k14_8 Q) Q)) (thenE (W14 k14_8 Q) Q)) .normal e w := fun e w h => then_N (s14_20 (R := R) (Q := (thenE (W14 k14_8 Q) Q)) (K1 := K1) hN hX0 e w h)
  exact rgA 5 (fun e w => m14_20 R K1 (e 2) (e 3) (e 5) (e 6) (e 7) (e 59) w) h hN
theorem s14_4 {R : VP} {Q : EQ} (hR : ∀ e w, (R (e 4) w) → Q .ret e w) (e : Env) (w : World) (h : m14_4 R (e 2) (e 3) (e 5) (e 6) (e 7) w) : W14 k14_4 Q e w := by
  unfold m14_4 at h
  refine seA ?_
  have hN : ∀ e w, (m14_5 R (e 5) w) → (thenE (W14 k14_5 Q) Q) .normal e w := fun e w h => then_N (s14_5 (R := R) (Q := Q) hR e w h)
  refine block_ok 0 (by kernel_rfl) ?_
  have hX0 : ∀ e w, (m14_5 R (e 5) w) → (inBlockE 0 (thenE (W14 k14_5 Q) Q)) (.exit 0) e w := fun e w h => inBlock_same (Q := (thenE (W14 k14_5 Q) Q)) 0 (hN e w h)
  refine loop_ok' (fun (e : Env) => (e 5, e 6, e 7)) [2, 3] (by kernel_rfl) (by kernel_rfl) h (fun K e' w' hk h' => ?_)
  have r2 : e' 2 = e 2 := hk 2 (by decide)
  have r3 : e' 3 = e 3 := hk 3 (by decide)
  have hX0 : ∀ e w, (m14_5 R (e 5) w) → (thenE (fun (e : Env) w => K ((e 5), (e 6), (e 7)) w) (inBlockE 0 (thenE (W14 k14_5 Q) Q))) (.exit 0) e w := fun e w h => then_X (hX0 e w h)
  exact s14_7 (R := R) (Q := (thenE (fun (e : Env) w => K ((e 5), (e 6), (e 7)) w) (inBlockE 0 (thenE (W14 k14_5 Q) Q)))) (K1 := K) (fun _ _ h => then_N h) hX0 e' w' (by rw [r2, r3]; exact h')
theorem s14_3 {R : VP} {Q : EQ} (hR : ∀ e w, (R (e 4) w) → Q .ret e w) (e : Env) (w : World) (h : m14_3 R (e 2) (e 3) (e 5) w) : W14 k14_3 Q e w := by
  unfold m14_3 at h
  refine seA ?_
  have hN : ∀ e w, (m14_4 R (e 2) (e 3) (e 5) (e 6) (e 7) w) → (thenE (W14 k14_4 Q) Q) .normal e w := fun e w h => then_N (s14_4 (R := R) (Q := Q) hR e w h)
  exact rgA 4 (fun e w => m14_4 R (e 2) (e 3) (e 5) (e 6) (e 7) w) h hN
theorem s14_21 {R : VP} {Q : EQ} (hN : ∀ e w, (m14_3 R (e 2) (e 3) (e 5) w) → Q .normal e w) (e : Env) (w : World) (h : m14_21 R (e 2) (e 3) (e 5) (e 33) w) : W14 k14_21 Q e w := by
  unfold m14_21 at h
  refine coA (Operand.tmp 33) h (fun h1 => ?_) (fun h1 => ?_)
  · exact rgA 3 (fun e w => m14_3 R (e 2) (e 3) (e 5) w) h1 hN
  · exact skA (hN _ _ h1)
theorem s14_2 {R : VP} {Q : EQ} (hR : ∀ e w, (R (e 4) w) → Q .ret e w) (e : Env) (w : World) (h : m14_2 R (e 2) (e 3) (e 5) w) : W14 k14_2 Q e w := by
  unfold m14_2 at h
  refine seA ?_
  have hN : ∀ e w, (m14_3 R (e 2) (e 3) (e 5) w) → (thenE (W14 k14_3 Q) Q) .normal e w := fun e w h => then_N (s14_3 (R := R) (Q := Q) hR e w h)
  refine seA ?_
  have hN : ∀ e w, (m14_21 R (e 2) (e 3) (e 5) (e 33) w) → (thenE (W14 k14_21 (thenE (W14 k14_3 Q) Q)) (thenE (W14 k14_3 Q) Q)) .normal e w := fun e w h => then_N (s14_21 (R := R) (Q := (thenE (W14 k14_3 Q) Q)) hN e w h)
  exact rgA 2 (fun e w => m14_21 R (e 2) (e 3) (e 5) (e 33) w) h hN
theorem s14_1 {R : VP} {Q : EQ} (hR : ∀ e w, (R (e 4) w) → Q .ret e w) (e : Env) (w : World) (h : m14_1 R (e 2) (e 3) w) : W14 k14_1 Q e w := by
  unfold m14_1 at h
  refine seA ?_
  have hN : ∀ e w, (m14_2 R (e 2) (e 3) (e 5) w) → (thenE (W14 k14_2 Q) Q) .normal e w := fun e w h => then_N (s14_2 (R := R) (Q := Q) hR e w h)
  exact rgA 1 (fun e w => m14_2 R (e 2) (e 3) (e 5) w) h hN
theorem s14_0 {R : VP} {Q : EQ} (hR : ∀ e w, (R (e 4) w) → Q .ret e w) (e : Env) (w : World) (h : m14_0 R (e 0) (e 1) w) : W14 k14_0 Q e w := by
  unfold m14_0 at h
  refine seA ?_
  have hN : ∀ e w, (m14_1 R (e 2) (e 3) w) → (thenE (W14 k14_1 Q) Q) .normal e w := fun e w h => then_N (s14_1 (R := R) (Q := Q) hR e w h)
  exact rgA 0 (fun e w => m14_1 R (e 2) (e 3) w) h hN
abbrev m14 (R : VP) (old0 now1 : Value) (w : World) : Prop := m14_0 R old0 now1 w
theorem s14 (old0 now1 : Value) {R : VP} {w : World} (h : m14 R old0 now1 w) :
    Calls Try.prog 14 #[old0, now1] w fun e w' => ∃ v, e = .returned v ∧ R v w' :=
  calls_of_cwp (st := (fun i => cond (Nat.beq i 12) 1 (cond (Nat.beq i 9) 18 (cond (Nat.beq i 6) 24 (0))))) (c := k14_0) (by kernel_rfl) Try.func14 (by kernel_rfl) (Nat.le_of_ble_eq_true (by kernel_rfl)) (by kernel_rfl)
    (s14_0 (R := R) (Q := endE Try.prog Try.f14 R) (fun e w h => kcast (by kernel_rfl) h) (argsE #[old0, now1]) w (kcast (by kernel_rfl) h))
end Go.Proofs.Ytnhgdngbdoifnaa.M
