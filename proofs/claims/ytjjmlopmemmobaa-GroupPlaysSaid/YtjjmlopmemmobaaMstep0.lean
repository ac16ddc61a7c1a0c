/- What functions' texts ask of their ends, told over values that have names; printed by a program of this work. -/
import Derived.Test.YtjjmlopmemmobaaFw
import Derived.Test.YtjjmlopmemmobaaProg
namespace Go.Proofs.Ytjjmlopmemmobaa.M
open Go.Proofs.Ytjjmlopmemmobaa.F
set_option linter.unusedVariables false
set_option maxRecDepth 100000
/-! ### headgate/headgatelaw10.step -/
def m51_8 (R : VP) (t6 : Value) (w : World) : Prop :=
  R t6 w
def m51_7 (R : VP) (a7 b8 e9 c10 d11 f12 : Value) (w : World) : Prop :=
  valP Try.prog (binS BinOp.eql 3 (Operand.tmp 40) (Operand.tmp 41) a7 c10) w fun t42 w =>
  condP t42
  (valP Try.prog (binS BinOp.eql 3 (Operand.tmp 44) (Operand.tmp 45) b8 d11) w fun t46 w =>
  pickP t42 t46 (Value.bool false) fun t47 =>
  condP t47
  (valP Try.prog (binS BinOp.eql 3 (Operand.tmp 49) (Operand.tmp 50) e9 f12) w fun t51 w =>
  pickP t47 t51 (Value.bool false) fun t52 =>
  m51_8 R t52 w)
  (pickP t47 undef (Value.bool false) fun t52 =>
  m51_8 R t52 w))
  (pickP t42 undef (Value.bool false) fun t47 =>
  condP t47
  (valP Try.prog (binS BinOp.eql 3 (Operand.tmp 49) (Operand.tmp 50) e9 f12) w fun t51 w =>
  pickP t47 t51 (Value.bool false) fun t52 =>
  m51_8 R t52 w)
  (pickP t47 undef (Value.bool false) fun t52 =>
  m51_8 R t52 w))
def m51_6 (R : VP) (r1 x5 a7 b8 e9 : Value) (w : World) : Prop :=
  valP Try.prog (Instr.fieldAt 65 x5 1) w fun t34 w =>
  valP Try.prog (Instr.loadAt 3 t34) w fun t35 w =>
  callP Try.prog (fnV 76) #[r1, t35] w fun t36 w =>
  valP Try.prog (Instr.extract t36 0) w fun t37 w =>
  valP Try.prog (Instr.extract t36 1) w fun t38 w =>
  valP Try.prog (Instr.extract t36 2) w fun t39 w =>
  m51_7 R a7 b8 e9 t37 t38 t39 w
def m51_12 (R : VP) (t6 : Value) (w : World) : Prop :=
  R t6 w
def m51_11 (R : VP) (a13 l14 e15 b16 m17 f18 : Value) (w : World) : Prop :=
  valP Try.prog (binS BinOp.eql 3 (Operand.tmp 71) (Operand.tmp 72) a13 b16) w fun t73 w =>
  condP t73
  (callP Try.prog (fnV 32) #[l14, m17] w fun t77 w =>
  pickP t73 t77 (Value.bool false) fun t78 =>
  condP t78
  (valP Try.prog (binS BinOp.eql 3 (Operand.tmp 80) (Operand.tmp 81) e15 f18) w fun t82 w =>
  pickP t78 t82 (Value.bool false) fun t83 =>
  m51_12 R t83 w)
  (pickP t78 undef (Value.bool false) fun t83 =>
  m51_12 R t83 w))
  (pickP t73 undef (Value.bool false) fun t78 =>
  condP t78
  (valP Try.prog (binS BinOp.eql 3 (Operand.tmp 80) (Operand.tmp 81) e15 f18) w fun t82 w =>
  pickP t78 t82 (Value.bool false) fun t83 =>
  m51_12 R t83 w)
  (pickP t78 undef (Value.bool false) fun t83 =>
  m51_12 R t83 w))
def m51_10 (R : VP) (r1 x5 a13 l14 e15 : Value) (w : World) : Prop :=
  valP Try.prog (Instr.fieldAt 65 x5 1) w fun t65 w =>
  valP Try.prog (Instr.loadAt 3 t65) w fun t66 w =>
  callP Try.prog (fnV 77) #[r1, t66] w fun t67 w =>
  valP Try.prog (Instr.extract t67 0) w fun t68 w =>
  valP Try.prog (Instr.extract t67 1) w fun t69 w =>
  valP Try.prog (Instr.extract t67 2) w fun t70 w =>
  m51_11 R a13 l14 e15 t68 t69 t70 w
def m51_14 (R : VP) (t6 : Value) (w : World) : Prop :=
  R t6 w
def m51_16 (R : VP) (t6 : Value) (w : World) : Prop :=
  R t6 w
def m51_18 (R : VP) (t6 : Value) (w : World) : Prop :=
  R t6 w
def m51_3 (R : VP) (t6 : Value) (w : World) : Prop :=
  R t6 w
def m51_2 (R : VP) (g0 r1 x5 : Value) (w : World) : Prop :=
  anyDraw w fun w =>
  heldP w fun J =>
  valJ Try.prog J (Instr.fieldAt 65 x5 1) fun t121 =>
  valJ Try.prog J (Instr.loadAt 3 t121) fun t122 =>
  valJ Try.prog J (Instr.fieldAt 65 x5 2) fun t123 =>
  valJ Try.prog J (Instr.loadAt 3 t123) fun t124 =>
  valJ Try.prog J (Instr.fieldAt 65 x5 3) fun t125 =>
  valJ Try.prog J (Instr.loadAt 3 t125) fun t126 =>
  valJ Try.prog J (Instr.fieldAt 65 x5 1) fun t129 =>
  valJ Try.prog J (Instr.loadAt 3 t129) fun t130 =>
  valJ Try.prog J (Instr.fieldAt 65 x5 2) fun t131 =>
  valJ Try.prog J (Instr.loadAt 3 t131) fun t132 =>
  valJ Try.prog J (Instr.fieldAt 65 x5 3) fun t133 =>
  valJ Try.prog J (Instr.loadAt 3 t133) fun t134 =>
  callP Try.prog (fnV 47) #[g0, t122, t124, t126] w fun t127 w =>
  stayP J w
  (callP Try.prog (fnV 81) #[r1, t130, t132, t134] w fun t135 w =>
  stayP J w
  (valJ Try.prog J (binS BinOp.eql 3 (Operand.tmp 127) (Operand.tmp 135) t127 t135) fun t136 =>
  m51_3 R t136 w))
def m51_17 (R : VP) (g0 r1 x5 t111 : Value) (w : World) : Prop :=
  condP t111
  (callP Try.prog (fnV 42) #[g0] w fun t116 w =>
  callP Try.prog (fnV 80) #[r1] w fun t118 w =>
  valP Try.prog (binS BinOp.eql 4 (Operand.tmp 116) (Operand.tmp 118) t116 t118) w fun t119 w =>
  m51_18 R t119 w)
  (m51_2 R g0 r1 x5 w)
def m51_20 (R : VP) (g0 r1 x5 t20 t111 : Value) (w : World) : Prop :=
  condP t111
  (m51_17 R g0 r1 x5 t111 w)
  (valP Try.prog (binS BinOp.eql 3 (Operand.tmp 20) (Operand.const (Value.int IntKind.i64 8)) t20 (Value.int IntKind.i64 8)) w fun t114 w =>
  m51_17 R g0 r1 x5 t114 w)
def m51_19 (R : VP) (g0 r1 x5 t20 t111 : Value) (w : World) : Prop :=
  condP t111
  (m51_17 R g0 r1 x5 t111 w)
  (valP Try.prog (binS BinOp.eql 3 (Operand.tmp 20) (Operand.const (Value.int IntKind.i64 7)) t20 (Value.int IntKind.i64 7)) w fun t113 w =>
  m51_20 R g0 r1 x5 t20 t113 w)
def m51_15 (R : VP) (g0 r1 x5 t20 t100 : Value) (w : World) : Prop :=
  condP t100
  (anyDraw w fun w =>
  heldP w fun J =>
  valJ Try.prog J (Instr.fieldAt 65 x5 1) fun t103 =>
  valJ Try.prog J (Instr.loadAt 3 t103) fun t104 =>
  valJ Try.prog J (Instr.fieldAt 65 x5 1) fun t107 =>
  valJ Try.prog J (Instr.loadAt 3 t107) fun t108 =>
  callP Try.prog (fnV 49) #[g0, t104] w fun t105 w =>
  stayP J w
  (callP Try.prog (fnV 79) #[r1, t108] w fun t109 w =>
  stayP J w
  (valJ Try.prog J (binS BinOp.eql 3 (Operand.tmp 105) (Operand.tmp 109) t105 t109) fun t110 =>
  m51_16 R t110 w)))
  (valP Try.prog (binS BinOp.eql 3 (Operand.tmp 20) (Operand.const (Value.int IntKind.i64 6)) t20 (Value.int IntKind.i64 6)) w fun t112 w =>
  m51_19 R g0 r1 x5 t20 t112 w)
def m51_13 (R : VP) (g0 r1 x5 t20 t84 : Value) (w : World) : Prop :=
  condP t84
  (anyDraw w fun w =>
  heldP w fun J =>
  valJ Try.prog J (Instr.fieldAt 65 x5 1) fun t88 =>
  valJ Try.prog J (Instr.loadAt 3 t88) fun t89 =>
  valJ Try.prog J (Instr.fieldAt 65 x5 2) fun t90 =>
  valJ Try.prog J (Instr.loadAt 3 t90) fun t91 =>
  valJ Try.prog J (Instr.fieldAt 65 x5 1) fun t94 =>
  valJ Try.prog J (Instr.loadAt 3 t94) fun t95 =>
  valJ Try.prog J (Instr.fieldAt 65 x5 2) fun t96 =>
  valJ Try.prog J (Instr.loadAt 3 t96) fun t97 =>
  callP Try.prog (fnV 48) #[g0, t89, t91] w fun t92 w =>
  stayP J w
  (callP Try.prog (fnV 78) #[r1, t95, t97] w fun t98 w =>
  stayP J w
  (valJ Try.prog J (binS BinOp.eql 3 (Operand.tmp 92) (Operand.tmp 98) t92 t98) fun t99 =>
  m51_14 R t99 w)))
  (valP Try.prog (binS BinOp.eql 3 (Operand.tmp 20) (Operand.const (Value.int IntKind.i64 5)) t20 (Value.int IntKind.i64 5)) w fun t101 w =>
  m51_15 R g0 r1 x5 t20 t101 w)
def m51_21 (R : VP) (g0 r1 x5 t20 t84 : Value) (w : World) : Prop :=
  condP t84
  (m51_13 R g0 r1 x5 t20 t84 w)
  (valP Try.prog (binS BinOp.eql 3 (Operand.tmp 20) (Operand.const (Value.int IntKind.i64 4)) t20 (Value.int IntKind.i64 4)) w fun t86 w =>
  m51_13 R g0 r1 x5 t20 t86 w)
def m51_9 (R : VP) (g0 r1 x5 t20 t53 : Value) (w : World) : Prop :=
  condP t53
  (valP Try.prog (Instr.fieldAt 65 x5 1) w fun t57 w =>
  valP Try.prog (Instr.loadAt 3 t57) w fun t58 w =>
  callP Try.prog (fnV 41) #[g0, t58] w fun t59 w =>
  valP Try.prog (Instr.extract t59 0) w fun t60 w =>
  valP Try.prog (Instr.extract t59 1) w fun t61 w =>
  valP Try.prog (Instr.extract t59 2) w fun t62 w =>
  m51_10 R r1 x5 t60 t61 t62 w)
  (valP Try.prog (binS BinOp.eql 3 (Operand.tmp 20) (Operand.const (Value.int IntKind.i64 3)) t20 (Value.int IntKind.i64 3)) w fun t85 w =>
  m51_21 R g0 r1 x5 t20 t85 w)
def m51_5 (R : VP) (g0 r1 x5 t20 t21 : Value) (w : World) : Prop :=
  condP t21
  (valP Try.prog (Instr.fieldAt 65 x5 1) w fun t26 w =>
  valP Try.prog (Instr.loadAt 3 t26) w fun t27 w =>
  callP Try.prog (fnV 54) #[g0, t27] w fun t28 w =>
  valP Try.prog (Instr.extract t28 0) w fun t29 w =>
  valP Try.prog (Instr.extract t28 1) w fun t30 w =>
  valP Try.prog (Instr.extract t28 2) w fun t31 w =>
  m51_6 R r1 x5 t29 t30 t31 w)
  (valP Try.prog (binS BinOp.eql 3 (Operand.tmp 20) (Operand.const (Value.int IntKind.i64 2)) t20 (Value.int IntKind.i64 2)) w fun t54 w =>
  m51_9 R g0 r1 x5 t20 t54 w)
def m51_22 (R : VP) (g0 r1 x5 t20 t21 : Value) (w : World) : Prop :=
  condP t21
  (m51_5 R g0 r1 x5 t20 t21 w)
  (valP Try.prog (binS BinOp.eql 3 (Operand.tmp 20) (Operand.const (Value.int IntKind.i64 1)) t20 (Value.int IntKind.i64 1)) w fun t23 w =>
  m51_5 R g0 r1 x5 t20 t23 w)
def m51_4 (R : VP) (g0 r1 x5 t20 : Value) (w : World) : Prop :=
  valP Try.prog (binS BinOp.eql 3 (Operand.tmp 20) (Operand.const (Value.int IntKind.i64 0)) t20 (Value.int IntKind.i64 0)) w fun t22 w =>
  m51_22 R g0 r1 x5 t20 t22 w
def m51_1 (R : VP) (g0 r1 x5 : Value) (w : World) : Prop :=
  valP Try.prog (Instr.fieldAt 65 x5 0) w fun t19 w =>
  valP Try.prog (Instr.loadAt 3 t19) w fun t20 w =>
  m51_4 R g0 r1 x5 t20 w
def m51_0 (R : VP) (g0 r1 x2 : Value) (w : World) : Prop :=
  valP Try.prog (Instr.box 65 x2) w fun x5 w =>
  m51_1 R g0 r1 x5 w
abbrev W51 := cwp Try.prog (fun i => 0)
noncomputable def k51_0 : Code := (bodyOf Try.f51)
noncomputable def k51_1 : Code := (c2 k51_0)
noncomputable def k51_2 : Code := (c2 k51_1)
noncomputable def k51_3 : Code := (c2 k51_2)
noncomputable def k51_4 : Code := (c2 (c1 k51_1))
noncomputable def k51_5 : Code := (c2 (c1 k51_4))
noncomputable def k51_6 : Code := (c2 (c1 k51_5))
noncomputable def k51_7 : Code := (c2 k51_6)
noncomputable def k51_8 : Code := (c2 k51_7)
noncomputable def k51_9 : Code := (c2 (c2 k51_5))
noncomputable def k51_10 : Code := (c2 (c1 k51_9))
noncomputable def k51_11 : Code := (c2 k51_10)
noncomputable def k51_12 : Code := (c2 k51_11)
noncomputable def k51_13 : Code := (c2 (c2 k51_9))
noncomputable def k51_14 : Code := (c2 (c1 k51_13))
noncomputable def k51_15 : Code := (c2 (c2 k51_13))
noncomputable def k51_16 : Code := (c2 (c1 k51_15))
noncomputable def k51_17 : Code := (c2 (c2 k51_15))
noncomputable def k51_18 : Code := (c2 (c1 k51_17))
noncomputable def k51_19 : Code := (c2 (c1 (c2 k51_15)))
noncomputable def k51_20 : Code := (c2 (c2 k51_19))
noncomputable def k51_21 : Code := (c2 (c1 (c2 k51_9)))
noncomputable def k51_22 : Code := (c2 (c1 (c1 k51_4)))
theorem s51_8 {R : VP} {Q : EQ} (hR : ∀ e w, (R (e 6) w) → Q .ret e w) (e : Env) (w : World) (h : m51_8 R (e 6) w) : W51 k51_8 Q e w := by
  unfold m51_8 at h
  exact reA (hR _ _ h)
theorem s51_7 {R : VP} {Q : EQ} (hR : ∀ e w, (R (e 6) w) → Q .ret e w) (e : Env) (w : World) (h : m51_7 R (e 7) (e 8) (e 9) (e 10) (e 11) (e 12) w) : W51 k51_7 Q e w := by
  unfold m51_7 at h
  refine seA ?_
  have hN : ∀ e w, (m51_8 R (e 6) w) → (thenE (W51 k51_8 Q) Q) .normal e w := fun e w h => then_N (s51_8 (R := R) (Q := Q) hR e w h)
  exact rgA 6 (fun e w => m51_8 R (e 6) w) h hN
theorem s51_6 {R : VP} {Q : EQ} (hR : ∀ e w, (R (e 6) w) → Q .ret e w) (e : Env) (w : World) (h : m51_6 R (e 1) (e 5) (e 7) (e 8) (e 9) w) : W51 k51_6 Q e w := by
  unfold m51_6 at h
  refine seA ?_
  have hN : ∀ e w, (m51_7 R (e 7) (e 8) (e 9) (e 10) (e 11) (e 12) w) → (thenE (W51 k51_7 Q) Q) .normal e w := fun e w h => then_N (s51_7 (R := R) (Q := Q) hR e w h)
  exact rgA 5 (fun e w => m51_7 R (e 7) (e 8) (e 9) (e 10) (e 11) (e 12) w) h hN
theorem s51_12 {R : VP} {Q : EQ} (hR : ∀ e w, (R (e 6) w) → Q .ret e w) (e : Env) (w : World) (h : m51_12 R (e 6) w) : W51 k51_12 Q e w := by
  unfold m51_12 at h
  exact reA (hR _ _ h)
theorem s51_11 {R : VP} {Q : EQ} (hR : ∀ e w, (R (e 6) w) → Q .ret e w) (e : Env) (w : World) (h : m51_11 R (e 13) (e 14) (e 15) (e 16) (e 17) (e 18) w) : W51 k51_11 Q e w := by
  unfold m51_11 at h
  refine seA ?_
  have hN : ∀ e w, (m51_12 R (e 6) w) → (thenE (W51 k51_12 Q) Q) .normal e w := fun e w h => then_N (s51_12 (R := R) (Q := Q) hR e w h)
  exact rgA 10 (fun e w => m51_12 R (e 6) w) h hN
theorem s51_10 {R : VP} {Q : EQ} (hR : ∀ e w, (R (e 6) w) → Q .ret e w) (e : Env) (w : World) (h : m51_10 R (e 1) (e 5) (e 13) (e 14) (e 15) w) : W51 k51_10 Q e w := by
  unfold m51_10 at h
  refine seA ?_
  have hN : ∀ e w, (m51_11 R (e 13) (e 14) (e 15) (e 16) (e 17) (e 18) w) → (thenE (W51 k51_11 Q) Q) .normal e w := fun e w h => then_N (s51_11 (R := R) (Q := Q) hR e w h)
  exact rgA 9 (fun e w => m51_11 R (e 13) (e 14) (e 15) (e 16) (e 17) (e 18) w) h hN
theorem s51_14 {R : VP} {Q : EQ} (hR : ∀ e w, (R (e 6) w) → Q .ret e w) (e : Env) (w : World) (h : m51_14 R (e 6) w) : W51 k51_14 Q e w := by
  unfold m51_14 at h
  exact reA (hR _ _ h)
theorem s51_16 {R : VP} {Q : EQ} (hR : ∀ e w, (R (e 6) w) → Q .ret e w) (e : Env) (w : World) (h : m51_16 R (e 6) w) : W51 k51_16 Q e w := by
  unfold m51_16 at h
  exact reA (hR _ _ h)
theorem s51_18 {R : VP} {Q : EQ} (hR : ∀ e w, (R (e 6) w) → Q .ret e w) (e : Env) (w : World) (h : m51_18 R (e 6) w) : W51 k51_18 Q e w := by
  unfold m51_18 at h
  exact reA (hR _ _ h)
theorem s51_3 {R : VP} {Q : EQ} (hR : ∀ e w, (R (e 6) w) → Q .ret e w) (e : Env) (w : World) (h : m51_3 R (e 6) w) : W51 k51_3 Q e w := by
  unfold m51_3 at h
  exact reA (hR _ _ h)
theorem s51_2 {R : VP} {Q : EQ} (hR : ∀ e w, (R (e 6) w) → Q .ret e w) (e : Env) (w : World) (h : m51_2 R (e 0) (e 1) (e 5) w) : W51 k51_2 Q e w := by
  unfold m51_2 at h
  refine seA ?_
  have hN : ∀ e w, (m51_3 R (e 6) w) → (thenE (W51 k51_3 Q) Q) .normal e w := fun e w h => then_N (s51_3 (R := R) (Q := Q) hR e w h)
  exact treeJ_ok 20 18 [false, false, false, false, false, false, false, false, false, false, false, false, false, false, false, false, false, false] (.take 0 [true, false, false, false, false, false, false, false, false, false, false, false, false, false, false, false, false, false] (.take 1 [true, true, false, false, false, false, false, false, false, false, false, false, false, false, false, false, false, false] (.take 2 [true, true, true, false, false, false, false, false, false, false, false, false, false, false, false, false, false, false] (.take 3 [true, true, true, true, false, false, false, false, false, false, false, false, false, false, false, false, false, false] (.take 4 [true, true, true, true, true, false, false, false, false, false, false, false, false, false, false, false, false, false] (.take 5 [true, true, true, true, true, true, false, false, false, false, false, false, false, false, false, false, false, false] (.take 6 [true, true, true, true, true, true, true, false, false, false, false, false, false, false, false, false, false, false] (.take 8 [true, true, true, true, true, true, true, false, true, false, false, false, false, false, false, false, false, false] (.take 9 [true, true, true, true, true, true, true, false, true, true, false, false, false, false, false, false, false, false] (.take 10 [true, true, true, true, true, true, true, false, true, true, true, false, false, false, false, false, false, false] (.take 11 [true, true, true, true, true, true, true, false, true, true, true, true, false, false, false, false, false, false] (.take 12 [true, true, true, true, true, true, true, false, true, true, true, true, true, false, false, false, false, false] (.take 13 [true, true, true, true, true, true, true, false, true, true, true, true, true, true, false, false, false, false] (.take 14 [true, true, true, true, true, true, true, false, true, true, true, true, true, true, true, false, false, false] (.alt 7 [true, true, true, true, true, true, true, true, true, true, true, true, true, true, true, false, false, false] (.alt 15 [true, true, true, true, true, true, true, true, true, true, true, true, true, true, true, true, false, false] (.take 16 [true, true, true, true, true, true, true, true, true, true, true, true, true, true, true, true, true, false] (.take 17 [true, true, true, true, true, true, true, true, true, true, true, true, true, true, true, true, true, true] .done)) .stop) .stop))))))))))))))) (fun e w => m51_3 R (e 6) w) (by kernel_rfl) (by kernel_rfl) (by kernel_rfl) (by kernel_rfl) (by kernel_rfl) (by kernel_rfl) (kcast (by kernel_rfl) h) hN (by kernel_rfl)
theorem s51_17 {R : VP} {Q : EQ} (hN : ∀ e w, (m51_2 R (e 0) (e 1) (e 5) w) → Q .normal e w) (hR : ∀ e w, (R (e 6) w) → Q .ret e w) (e : Env) (w : World) (h : m51_17 R (e 0) (e 1) (e 5) (e 111) w) : W51 k51_17 Q e w := by
  unfold m51_17 at h
  refine coA (Operand.tmp 111) h (fun h1 => ?_) (fun h1 => ?_)
  · refine seA ?_
    have hN : ∀ e w, (m51_18 R (e 6) w) → (thenE (W51 k51_18 Q) Q) .normal e w := fun e w h => then_N (s51_18 (R := R) (Q := Q) hR e w h)
    exact rgA 19 (fun e w => m51_18 R (e 6) w) h1 hN
  · exact skA (hN _ _ h1)
theorem s51_20 {R : VP} {Q : EQ} (hN : ∀ e w, (m51_17 R (e 0) (e 1) (e 5) (e 111) w) → Q .normal e w) (e : Env) (w : World) (h : m51_20 R (e 0) (e 1) (e 5) (e 20) (e 111) w) : W51 k51_20 Q e w := by
  unfold m51_20 at h
  refine coA (Operand.tmp 111) h (fun h1 => ?_) (fun h1 => ?_)
  · exact skA (hN _ _ h1)
  · exact rgA 18 (fun e w => m51_17 R (e 0) (e 1) (e 5) (e 111) w) h1 hN
theorem s51_19 {R : VP} {Q : EQ} (hN : ∀ e w, (m51_17 R (e 0) (e 1) (e 5) (e 111) w) → Q .normal e w) (e : Env) (w : World) (h : m51_19 R (e 0) (e 1) (e 5) (e 20) (e 111) w) : W51 k51_19 Q e w := by
  unfold m51_19 at h
  refine coA (Operand.tmp 111) h (fun h1 => ?_) (fun h1 => ?_)
  · exact skA (hN _ _ h1)
  · refine seA ?_
    have hN : ∀ e w, (m51_20 R (e 0) (e 1) (e 5) (e 20) (e 111) w) → (thenE (W51 k51_20 Q) Q) .normal e w := fun e w h => then_N (s51_20 (R := R) (Q := Q) hN e w h)
    exact rgA 17 (fun e w => m51_20 R (e 0) (e 1) (e 5) (e 20) (e 111) w) h1 hN
theorem s51_15 {R : VP} {Q : EQ} (hN : ∀ e w, (m51_2 R (e 0) (e 1) (e 5) w) → Q .normal e w) (hR : ∀ e w, (R (e 6) w) → Q .ret e w) (e : Env) (w : World) (h : m51_15 R (e 0) (e 1) (e 5) (e 20) (e 100) w) : W51 k51_15 Q e w := by
  unfold m51_15 at h
  refine coA (Operand.tmp 100) h (fun h1 => ?_) (fun h1 => ?_)
  · refine seA ?_
    have hN : ∀ e w, (m51_16 R (e 6) w) → (thenE (W51 k51_16 Q) Q) .normal e w := fun e w h => then_N (s51_16 (R := R) (Q := Q) hR e w h)
    exact treeJ_ok 15 10 [false, false, false, false, false, false, false, false, false, false] (.take 0 [true, false, false, false, false, false, false, false, false, false] (.take 1 [true, true, false, false, false, false, false, false, false, false] (.take 2 [true, true, true, false, false, false, false, false, false, false] (.take 4 [true, true, true, false, true, false, false, false, false, false] (.take 5 [true, true, true, false, true, true, false, false, false, false] (.take 6 [true, true, true, false, true, true, true, false, false, false] (.alt 3 [true, true, true, true, true, true, true, false, false, false] (.alt 7 [true, true, true, true, true, true, true, true, false, false] (.take 8 [true, true, true, true, true, true, true, true, true, false] (.take 9 [true, true, true, true, true, true, true, true, true, true] .done)) .stop) .stop))))))) (fun e w => m51_16 R (e 6) w) (by kernel_rfl) (by kernel_rfl) (by kernel_rfl) (by kernel_rfl) (by kernel_rfl) (by kernel_rfl) (kcast (by kernel_rfl) h1) hN (by kernel_rfl)
  · refine seA ?_
    have hN : ∀ e w, (m51_17 R (e 0) (e 1) (e 5) (e 111) w) → (thenE (W51 k51_17 Q) Q) .normal e w := fun e w h => then_N (s51_17 (R := R) (Q := Q) hN hR e w h)
    refine seA ?_
    have hN : ∀ e w, (m51_19 R (e 0) (e 1) (e 5) (e 20) (e 111) w) → (thenE (W51 k51_19 (thenE (W51 k51_17 Q) Q)) (thenE (W51 k51_17 Q) Q)) .normal e w := fun e w h => then_N (s51_19 (R := R) (Q := (thenE (W51 k51_17 Q) Q)) hN e w h)
    exact rgA 16 (fun e w => m51_19 R (e 0) (e 1) (e 5) (e 20) (e 111) w) h1 hN
theorem s51_13 {R : VP} {Q : EQ} (hN : ∀ e w, (m51_2 R (e 0) (e 1) (e 5) w) → Q .normal e w) (hR : ∀ e w, (R (e 6) w) → Q .ret e w) (e : Env) (w : World) (h : m51_13 R (e 0) (e 1) (e 5) (e 20) (e 84) w) : W51 k51_13 Q e w := by
  unfold m51_13 at h
  refine coA (Operand.tmp 84) h (fun h1 => ?_) (fun h1 => ?_)
  · refine seA ?_
    have hN : ∀ e w, (m51_14 R (e 6) w) → (thenE (W51 k51_14 Q) Q) .normal e w := fun e w h => then_N (s51_14 (R := R) (Q := Q) hR e w h)
    exact treeJ_ok 13 14 [false, false, false, false, false, false, false, false, false, false, false, false, false, false] (.take 0 [true, false, false, false, false, false, false, false, false, false, false, false, false, false] (.take 1 [true, true, false, false, false, false, false, false, false, false, false, false, false, false] (.take 2 [true, true, true, false, false, false, false, false, false, false, false, false, false, false] (.take 3 [true, true, true, true, false, false, false, false, false, false, false, false, false, false] (.take 4 [true, true, true, true, true, false, false, false, false, false, false, false, false, false] (.take 6 [true, true, true, true, true, false, true, false, false, false, false, false, false, false] (.take 7 [true, true, true, true, true, false, true, true, false, false, false, false, false, false] (.take 8 [true, true, true, true, true, false, true, true, true, false, false, false, false, false] (.take 9 [true, true, true, true, true, false, true, true, true, true, false, false, false, false] (.take 10 [true, true, true, true, true, false, true, true, true, true, true, false, false, false] (.alt 5 [true, true, true, true, true, true, true, true, true, true, true, false, false, false] (.alt 11 [true, true, true, true, true, true, true, true, true, true, true, true, false, false] (.take 12 [true, true, true, true, true, true, true, true, true, true, true, true, true, false] (.take 13 [true, true, true, true, true, true, true, true, true, true, true, true, true, true] .done)) .stop) .stop))))))))))) (fun e w => m51_14 R (e 6) w) (by kernel_rfl) (by kernel_rfl) (by kernel_rfl) (by kernel_rfl) (by kernel_rfl) (by kernel_rfl) (kcast (by kernel_rfl) h1) hN (by kernel_rfl)
  · refine seA ?_
    have hN : ∀ e w, (m51_15 R (e 0) (e 1) (e 5) (e 20) (e 100) w) → (thenE (W51 k51_15 Q) Q) .normal e w := fun e w h => then_N (s51_15 (R := R) (Q := Q) hN hR e w h)
    exact rgA 14 (fun e w => m51_15 R (e 0) (e 1) (e 5) (e 20) (e 100) w) h1 hN
theorem s51_21 {R : VP} {Q : EQ} (hN : ∀ e w, (m51_13 R (e 0) (e 1) (e 5) (e 20) (e 84) w) → Q .normal e w) (e : Env) (w : World) (h : m51_21 R (e 0) (e 1) (e 5) (e 20) (e 84) w) : W51 k51_21 Q e w := by
  unfold m51_21 at h
  refine coA (Operand.tmp 84) h (fun h1 => ?_) (fun h1 => ?_)
  · exact skA (hN _ _ h1)
  · exact rgA 12 (fun e w => m51_13 R (e 0) (e 1) (e 5) (e 20) (e 84) w) h1 hN
theorem s51_9 {R : VP} {Q : EQ} (hN : ∀ e w, (m51_2 R (e 0) (e 1) (e 5) w) → Q .normal e w) (hR : ∀ e w, (R (e 6) w) → Q .ret e w) (e : Env) (w : World) (h : m51_9 R (e 0) (e 1) (e 5) (e 20) (e 53) w) : W51 k51_9 Q e w := by
  unfold m51_9 at h
  refine coA (Operand.tmp 53) h (fun h1 => ?_) (fun h1 => ?_)
  · refine seA ?_
    have hN : ∀ e w, (m51_10 R (e 1) (e 5) (e 13) (e 14) (e 15) w) → (thenE (W51 k51_10 Q) Q) .normal e w := fun e w h => then_N (s51_10 (R := R) (Q := Q) hR e w h)
    exact rgA 8 (fun e w => m51_10 R (e 1) (e 5) (e 13) (e 14) (e 15) w) h1 hN
  · refine seA ?_
    have hN : ∀ e w, (m51_13 R (e 0) (e 1) (e 5) (e 20) (e 84) w) → (thenE (W51 k51_13 Q) Q) .normal e w := fun e w h => then_N (s51_13 (R := R) (Q := Q) hN hR e w h)
    refine seA ?_
    have hN : ∀ e w, (m51_21 R (e 0) (e 1) (e 5) (e 20) (e 84) w) → (thenE (W51 k51_21 (thenE (W51 k51_13 Q) Q)) (thenE (W51 k51_13 Q) Q)) .normal e w := fun e w h => then_N (s51_21 (R := R) (Q := (thenE (W51 k51_13 Q) Q)) hN e w h)
    exact rgA 11 (fun e w => m51_21 R (e 0) (e 1) (e 5) (e 20) (e 84) w) h1 hN
theorem s51_5 {R : VP} {Q : EQ} (hN : ∀ e w, (m51_2 R (e 0) (e 1) (e 5) w) → Q .normal e w) (hR : ∀ e w, (R (e 6) w) → Q .ret e w) (e : Env) (w : World) (h : m51_5 R (e 0) (e 1) (e 5) (e 20) (e 21) w) : W51 k51_5 Q e w := by
  unfold m51_5 at h
  refine coA (Operand.tmp 21) h (fun h1 => ?_) (fun h1 => ?_)
  · refine seA ?_
    have hN : ∀ e w, (m51_6 R (e 1) (e 5) (e 7) (e 8) (e 9) w) → (thenE (W51 k51_6 Q) Q) .normal e w := fun e w h => then_N (s51_6 (R := R) (Q := Q) hR e w h)
    exact rgA 4 (fun e w => m51_6 R (e 1) (e 5) (e 7) (e 8) (e 9) w) h1 hN
  · refine seA ?_
    have hN : ∀ e w, (m51_9 R (e 0) (e 1) (e 5) (e 20) (e 53) w) → (thenE (W51 k51_9 Q) Q) .normal e w := fun e w h => then_N (s51_9 (R := R) (Q := Q) hN hR e w h)
    exact rgA 7 (fun e w => m51_9 R (e 0) (e 1) (e 5) (e 20) (e 53) w) h1 hN
theorem s51_22 {R : VP} {Q : EQ} (hN : ∀ e w, (m51_5 R (e 0) (e 1) (e 5) (e 20) (e 21) w) → Q .normal e w) (e : Env) (w : World) (h : m51_22 R (e 0) (e 1) (e 5) (e 20) (e 21) w) : W51 k51_22 Q e w := by
  unfold m51_22 at h
  refine coA (Operand.tmp 21) h (fun h1 => ?_) (fun h1 => ?_)
  · exact skA (hN _ _ h1)
  · exact rgA 3 (fun e w => m51_5 R (e 0) (e 1) (e 5) (e 20) (e 21) w) h1 hN
theorem s51_4 {R : VP} {Q : EQ} (hN : ∀ e w, (m51_2 R (e 0) (e 1) (e 5) w) → Q .normal e w) (hR : ∀ e w, (R (e 6) w) → Q .ret e w) (e : Env) (w : World) (h : m51_4 R (e 0) (e 1) (e 5) (e 20) w) : W51 k51_4 Q e w := by
  unfold m51_4 at h
  refine block_ok 0 (by kernel_rfl) ?_
  have hN : ∀ e w, (m51_2 R (e 0) (e 1) (e 5) w) → (inBlockE 0 Q) .normal e w := fun e w h => block_N (hN e w h)
  have hR : ∀ e w, (R (e 6) w) → (inBlockE 0 Q) .ret e w := fun e w h => block_R (hR e w h)
  refine seA ?_
  have hN : ∀ e w, (m51_5 R (e 0) (e 1) (e 5) (e 20) (e 21) w) → (thenE (W51 k51_5 (inBlockE 0 Q)) (inBlockE 0 Q)) .normal e w := fun e w h => then_N (s51_5 (R := R) (Q := (inBlockE 0 Q)) hN hR e w h)
  refine seA ?_
  have hN : ∀ e w, (m51_22 R (e 0) (e 1) (e 5) (e 20) (e 21) w) → (thenE (W51 k51_22 (thenE (W51 k51_5 (inBlockE 0 Q)) (inBlockE 0 Q))) (thenE (W51 k51_5 (inBlockE 0 Q)) (inBlockE 0 Q))) .normal e w := fun e w h => then_N (s51_22 (R := R) (Q := (thenE (W51 k51_5 (inBlockE 0 Q)) (inBlockE 0 Q))) hN e w h)
  exact rgA 2 (fun e w => m51_22 R (e 0) (e 1) (e 5) (e 20) (e 21) w) h hN
theorem s51_1 {R : VP} {Q : EQ} (hR : ∀ e w, (R (e 6) w) → Q .ret e w) (e : Env) (w : World) (h : m51_1 R (e 0) (e 1) (e 5) w) : W51 k51_1 Q e w := by
  unfold m51_1 at h
  refine seA ?_
  have hN : ∀ e w, (m51_2 R (e 0) (e 1) (e 5) w) → (thenE (W51 k51_2 Q) Q) .normal e w := fun e w h => then_N (s51_2 (R := R) (Q := Q) hR e w h)
  have hR : ∀ e w, (R (e 6) w) → (thenE (W51 k51_2 Q) Q) .ret e w := fun e w h => then_R (hR e w h)
  refine seA ?_
  have hN : ∀ e w, (m51_4 R (e 0) (e 1) (e 5) (e 20) w) → (thenE (W51 k51_4 (thenE (W51 k51_2 Q) Q)) (thenE (W51 k51_2 Q) Q)) .normal e w := fun e w h => then_N (s51_4 (R := R) (Q := (thenE (W51 k51_2 Q) Q)) hN hR e w h)
  exact rgA 1 (fun e w => m51_4 R (e 0) (e 1) (e 5) (e 20) w) h hN
theorem s51_0 {R : VP} {Q : EQ} (hR : ∀ e w, (R (e 6) w) → Q .ret e w) (e : Env) (w : World) (h : m51_0 R (e 0) (e 1) (e 2) w) : W51 k51_0 Q e w := by
  unfold m51_0 at h
  refine seA ?_
  have hN : ∀ e w, (m51_1 R (e 0) (e 1) (e 5) w) → (thenE (W51 k51_1 Q) Q) .normal e w := fun e w h => then_N (s51_1 (R := R) (Q := Q) hR e w h)
  exact rgA 0 (fun e w => m51_1 R (e 0) (e 1) (e 5) w) h hN
abbrev m51 (R : VP) (g0 r1 x2 : Value) (w : World) : Prop := m51_0 R g0 r1 x2 w
theorem s51 (g0 r1 x2 : Value) {R : VP} {w : World} (h : m51 R g0 r1 x2 w) :
    Calls Try.prog 51 #[g0, r1, x2] w fun e w' => ∃ v, e = .returned v ∧ R v w' :=
  calls_of_cwp (st := (fun i => 0)) (c := k51_0) (by kernel_rfl) Try.func51 (by kernel_rfl) (Nat.le_of_ble_eq_true (by kernel_rfl)) (by kernel_rfl)
    (s51_0 (R := R) (Q := endE Try.prog Try.f51 R) (fun e w h => kcast (by kernel_rfl) h) (argsE #[g0, r1, x2]) w (kcast (by kernel_rfl) h))
end Go.Proofs.Ytjjmlopmemmobaa.M
