/- What functions' texts ask of their ends, told over values that have names; printed by a program of this work. -/
import Derived.Test.YtjjmlopmemmobaaFw
import Derived.Test.YtjjmlopmemmobaaProg
namespace Go.Proofs.Ytjjmlopmemmobaa.M
open Go.Proofs.Ytjjmlopmemmobaa.F
set_option linter.unusedVariables false
set_option maxRecDepth 100000
/-! ### headgate/headgatelaw10.GroupFences -/
def m11_21 (R : VP) (t10 : Value) (w : World) : Prop :=
  R t10 w
def m11_18 (R : VP) (K1 : VP) (l1 id2 gen3 part4 g11 i13 : Value) (w : World) : Prop :=
  valP Try.prog (binS BinOp.add 3 (Operand.tmp 33) (Operand.const (Value.int IntKind.i64 1)) i13 (Value.int IntKind.i64 1)) w fun t34 w =>
  K1 t34 w
def m11_17 (R : VP) (K1 : VP) (l1 id2 gen3 part4 g11 i13 : Value) (w : World) : Prop :=
  valP Try.prog (Instr.indexAt 58 l1 i13) w fun t38 w =>
  valP Try.prog (Instr.loadAt 65 t38) w fun t39 w =>
  callP Try.prog (fnV 38) #[g11, t39] w fun t40 w =>
  m11_18 R K1 l1 id2 gen3 part4 g11 i13 w
def m11_14 (R : VP) (t10 : Value) (w : World) : Prop :=
  R t10 w
def m11_12 (R : VP) (t10 : Value) (w : World) : Prop :=
  R t10 w
def m11_10 (R : VP) (t10 : Value) (w : World) : Prop :=
  R t10 w
def m11_9 (R : VP) (id2 gen3 part4 g11 own15 : Value) (w : World) : Prop :=
  callP Try.prog (fnV 47) #[g11, id2, gen3, part4] w fun t111 w =>
  valP Try.prog (binS BinOp.eql 26 (Operand.tmp 111) (Operand.const (Value.int IntKind.i64 0)) t111 (Value.int IntKind.i64 0)) w fun t112 w =>
  valP Try.prog (binS BinOp.eql 4 (Operand.tmp 112) (Operand.tmp 113) t112 own15) w fun t114 w =>
  condP t114
  (condP own15
  (pickP own15 (Value.bool true) undef fun t124 =>
  pickP t114 t124 (Value.bool false) fun t125 =>
  callP Try.prog (fnV 48) #[g11, id2, gen3] w fun t130 w =>
  valP Try.prog (binS BinOp.eql 26 (Operand.tmp 130) (Operand.const (Value.int IntKind.i64 0)) t130 (Value.int IntKind.i64 0)) w fun t131 w =>
  pickP t125 t131 (Value.bool false) fun t132 =>
  condP t132
  (callP Try.prog (fnV 40) #[] w fun t134 w =>
  pickP t132 t134 (Value.bool false) fun t135 =>
  m11_10 R t135 w)
  (pickP t132 undef (Value.bool false) fun t135 =>
  m11_10 R t135 w))
  (callP Try.prog (fnV 47) #[g11, id2, gen3, part4] w fun t122 w =>
  valP Try.prog (binS BinOp.eql 26 (Operand.tmp 122) (Operand.const (Value.int IntKind.i64 13)) t122 (Value.int IntKind.i64 13)) w fun t123 w =>
  pickP own15 (Value.bool true) t123 fun t124 =>
  pickP t114 t124 (Value.bool false) fun t125 =>
  condP t125
  (callP Try.prog (fnV 48) #[g11, id2, gen3] w fun t130 w =>
  valP Try.prog (binS BinOp.eql 26 (Operand.tmp 130) (Operand.const (Value.int IntKind.i64 0)) t130 (Value.int IntKind.i64 0)) w fun t131 w =>
  pickP t125 t131 (Value.bool false) fun t132 =>
  condP t132
  (callP Try.prog (fnV 40) #[] w fun t134 w =>
  pickP t132 t134 (Value.bool false) fun t135 =>
  m11_10 R t135 w)
  (pickP t132 undef (Value.bool false) fun t135 =>
  m11_10 R t135 w))
  (pickP t125 undef (Value.bool false) fun t132 =>
  pickP t132 undef (Value.bool false) fun t135 =>
  m11_10 R t135 w)))
  (pickP t114 undef (Value.bool false) fun t125 =>
  pickP t125 undef (Value.bool false) fun t132 =>
  pickP t132 undef (Value.bool false) fun t135 =>
  m11_10 R t135 w)
def m11_8 (R : VP) (id2 gen3 part4 g11 o14 : Value) (w : World) : Prop :=
  valP Try.prog (binS BinOp.geq 3 (Operand.tmp 91) (Operand.const (Value.int IntKind.i64 0)) part4 (Value.int IntKind.i64 0)) w fun t92 w =>
  condP t92
  (builtinP Try.prog Builtin.len #[28] 3 #[false] #[o14] w fun t96 w =>
  valP Try.prog (binS BinOp.lss 3 (Operand.tmp 94) (Operand.tmp 96) part4 t96) w fun t97 w =>
  pickP t92 t97 (Value.bool false) fun t98 =>
  condP t98
  (valP Try.prog (Instr.indexAt 28 o14 part4) w fun t102 w =>
  valP Try.prog (Instr.loadAt 3 t102) w fun t103 w =>
  valP Try.prog (binS BinOp.eql 3 (Operand.tmp 103) (Operand.tmp 104) t103 id2) w fun t105 w =>
  pickP t98 t105 (Value.bool false) fun t106 =>
  m11_9 R id2 gen3 part4 g11 t106 w)
  (pickP t98 undef (Value.bool false) fun t106 =>
  m11_9 R id2 gen3 part4 g11 t106 w))
  (pickP t92 undef (Value.bool false) fun t98 =>
  condP t98
  (valP Try.prog (Instr.indexAt 28 o14 part4) w fun t102 w =>
  valP Try.prog (Instr.loadAt 3 t102) w fun t103 w =>
  valP Try.prog (binS BinOp.eql 3 (Operand.tmp 103) (Operand.tmp 104) t103 id2) w fun t105 w =>
  pickP t98 t105 (Value.bool false) fun t106 =>
  m11_9 R id2 gen3 part4 g11 t106 w)
  (pickP t98 undef (Value.bool false) fun t106 =>
  m11_9 R id2 gen3 part4 g11 t106 w))
def m11_7 (R : VP) (id2 gen3 part4 g11 : Value) (w : World) : Prop :=
  callP Try.prog (fnV 46) #[g11] w fun t90 w =>
  m11_8 R id2 gen3 part4 g11 t90 w
def m11_11 (R : VP) (id2 gen3 part4 g11 t72 : Value) (w : World) : Prop :=
  condP t72
  (callP Try.prog (fnV 47) #[g11, id2, gen3, part4] w fun t77 w =>
  valP Try.prog (binS BinOp.eql 26 (Operand.tmp 77) (Operand.const (Value.int IntKind.i64 12)) t77 (Value.int IntKind.i64 12)) w fun t78 w =>
  condP t78
  (callP Try.prog (fnV 48) #[g11, id2, gen3] w fun t83 w =>
  valP Try.prog (binS BinOp.eql 26 (Operand.tmp 83) (Operand.const (Value.int IntKind.i64 12)) t83 (Value.int IntKind.i64 12)) w fun t84 w =>
  pickP t78 t84 (Value.bool false) fun t85 =>
  condP t85
  (callP Try.prog (fnV 40) #[] w fun t87 w =>
  pickP t85 t87 (Value.bool false) fun t88 =>
  m11_12 R t88 w)
  (pickP t85 undef (Value.bool false) fun t88 =>
  m11_12 R t88 w))
  (pickP t78 undef (Value.bool false) fun t85 =>
  condP t85
  (callP Try.prog (fnV 40) #[] w fun t87 w =>
  pickP t85 t87 (Value.bool false) fun t88 =>
  m11_12 R t88 w)
  (pickP t85 undef (Value.bool false) fun t88 =>
  m11_12 R t88 w)))
  (m11_7 R id2 gen3 part4 g11 w)
def m11_6 (R : VP) (id2 gen3 part4 g11 : Value) (w : World) : Prop :=
  callP Try.prog (fnV 44) #[g11] w fun t71 w =>
  valP Try.prog (binS BinOp.neq 3 (Operand.tmp 69) (Operand.tmp 71) gen3 t71) w fun t72 w =>
  m11_11 R id2 gen3 part4 g11 t72 w
def m11_13 (R : VP) (id2 gen3 part4 g11 t46 : Value) (w : World) : Prop :=
  condP t46
  (callP Try.prog (fnV 47) #[g11, id2, gen3, part4] w fun t51 w =>
  valP Try.prog (binS BinOp.eql 26 (Operand.tmp 51) (Operand.const (Value.int IntKind.i64 11)) t51 (Value.int IntKind.i64 11)) w fun t52 w =>
  condP t52
  (callP Try.prog (fnV 48) #[g11, id2, gen3] w fun t57 w =>
  valP Try.prog (binS BinOp.eql 26 (Operand.tmp 57) (Operand.const (Value.int IntKind.i64 11)) t57 (Value.int IntKind.i64 11)) w fun t58 w =>
  pickP t52 t58 (Value.bool false) fun t59 =>
  condP t59
  (callP Try.prog (fnV 49) #[g11, id2] w fun t63 w =>
  valP Try.prog (binS BinOp.eql 26 (Operand.tmp 63) (Operand.const (Value.int IntKind.i64 11)) t63 (Value.int IntKind.i64 11)) w fun t64 w =>
  pickP t59 t64 (Value.bool false) fun t65 =>
  condP t65
  (callP Try.prog (fnV 40) #[] w fun t67 w =>
  pickP t65 t67 (Value.bool false) fun t68 =>
  m11_14 R t68 w)
  (pickP t65 undef (Value.bool false) fun t68 =>
  m11_14 R t68 w))
  (pickP t59 undef (Value.bool false) fun t65 =>
  condP t65
  (callP Try.prog (fnV 40) #[] w fun t67 w =>
  pickP t65 t67 (Value.bool false) fun t68 =>
  m11_14 R t68 w)
  (pickP t65 undef (Value.bool false) fun t68 =>
  m11_14 R t68 w)))
  (pickP t52 undef (Value.bool false) fun t59 =>
  condP t59
  (callP Try.prog (fnV 49) #[g11, id2] w fun t63 w =>
  valP Try.prog (binS BinOp.eql 26 (Operand.tmp 63) (Operand.const (Value.int IntKind.i64 11)) t63 (Value.int IntKind.i64 11)) w fun t64 w =>
  pickP t59 t64 (Value.bool false) fun t65 =>
  condP t65
  (callP Try.prog (fnV 40) #[] w fun t67 w =>
  pickP t65 t67 (Value.bool false) fun t68 =>
  m11_14 R t68 w)
  (pickP t65 undef (Value.bool false) fun t68 =>
  m11_14 R t68 w))
  (pickP t59 undef (Value.bool false) fun t65 =>
  condP t65
  (callP Try.prog (fnV 40) #[] w fun t67 w =>
  pickP t65 t67 (Value.bool false) fun t68 =>
  m11_14 R t68 w)
  (pickP t65 undef (Value.bool false) fun t68 =>
  m11_14 R t68 w))))
  (m11_6 R id2 gen3 part4 g11 w)
def m11_5 (R : VP) (id2 gen3 part4 g11 : Value) (w : World) : Prop :=
  callP Try.prog (fnV 39) #[g11] w fun t42 w =>
  callP Try.prog (fnV 43) #[t42] w fun t43 w =>
  callP Try.prog (fnV 21) #[t43, id2] w fun t45 w =>
  valP Try.prog (binS BinOp.eql 3 (Operand.tmp 45) (Operand.const (Value.int IntKind.i64 0)) t45 (Value.int IntKind.i64 0)) w fun t46 w =>
  m11_13 R id2 gen3 part4 g11 t46 w
def m11_19 (R : VP) (K1 : VP) (l1 id2 gen3 part4 g11 i13 t32 : Value) (w : World) : Prop :=
  condP t32
  (m11_17 R K1 l1 id2 gen3 part4 g11 i13 w)
  (m11_5 R id2 gen3 part4 g11 w)
def m11_16 (R : VP) (K1 : VP) (l1 id2 gen3 part4 g11 i13 : Value) (w : World) : Prop :=
  builtinP Try.prog Builtin.len #[58] 3 #[false] #[l1] w fun t31 w =>
  valP Try.prog (binS BinOp.lss 3 (Operand.tmp 29) (Operand.tmp 31) i13 t31) w fun t32 w =>
  m11_19 R K1 l1 id2 gen3 part4 g11 i13 t32 w
def m11_15 (R : VP) (l1 id2 gen3 part4 g11 i13 : Value) (w : World) : Prop :=
  loopP (fun (K1 : VP) (s : Value) w => m11_16 R K1 l1 id2 gen3 part4 g11 s w) i13 w
def m11_4 (R : VP) (l1 id2 gen3 part4 g11 : Value) (w : World) : Prop :=
  m11_15 R l1 id2 gen3 part4 g11 (Value.int IntKind.i64 0) w
def m11_3 (R : VP) (l1 id2 gen3 part4 g11 : Value) (w : World) : Prop :=
  callP Try.prog (fnV 37) #[l1] w fun t28 w =>
  m11_4 R t28 id2 gen3 part4 g11 w
def m11_20 (R : VP) (l1 id2 gen3 part4 g11 t26 : Value) (w : World) : Prop :=
  condP t26
  (m11_21 R (Value.bool false) w)
  (m11_3 R l1 id2 gen3 part4 g11 w)
def m11_2 (R : VP) (l1 id2 gen3 part4 g11 e12 : Value) (w : World) : Prop :=
  valP Try.prog (binS BinOp.neq 26 (Operand.tmp 21) (Operand.const (Value.int IntKind.i64 0)) e12 (Value.int IntKind.i64 0)) w fun t22 w =>
  condP t22
  (pickP t22 (Value.bool true) undef fun t26 =>
  m11_20 R l1 id2 gen3 part4 g11 t26 w)
  (valP Try.prog (binS BinOp.eql 59 (Operand.tmp 24) (Operand.const (Value.pointer none)) g11 (Value.pointer none)) w fun t25 w =>
  pickP t22 (Value.bool true) t25 fun t26 =>
  m11_20 R l1 id2 gen3 part4 g11 t26 w)
def m11_1 (R : VP) (sticky0 l1 id2 gen3 part4 : Value) (w : World) : Prop :=
  callP Try.prog (fnV 36) #[(Value.int IntKind.i64 4), sticky0, (Value.int IntKind.i64 0), (Value.int IntKind.i64 1)] w fun t18 w =>
  valP Try.prog (Instr.extract t18 0) w fun t19 w =>
  valP Try.prog (Instr.extract t18 1) w fun t20 w =>
  m11_2 R l1 id2 gen3 part4 t19 t20 w
def m11_0 (R : VP) (sticky0 l1 id2 gen3 part4 : Value) (w : World) : Prop :=
  m11_1 R sticky0 l1 id2 gen3 part4 w
abbrev W11 := cwp Try.prog (fun i => 0)
noncomputable def k11_0 : Code := (bodyOf Try.f11)
noncomputable def k11_1 : Code := (c2 k11_0)
noncomputable def k11_2 : Code := (c2 k11_1)
noncomputable def k11_3 : Code := (c2 k11_2)
noncomputable def k11_4 : Code := (c2 k11_3)
noncomputable def k11_5 : Code := (c2 k11_4)
noncomputable def k11_6 : Code := (c2 k11_5)
noncomputable def k11_7 : Code := (c2 k11_6)
noncomputable def k11_8 : Code := (c2 k11_7)
noncomputable def k11_9 : Code := (c2 k11_8)
noncomputable def k11_10 : Code := (c2 k11_9)
noncomputable def k11_11 : Code := (c2 (c1 k11_6))
noncomputable def k11_12 : Code := (c2 (c1 k11_11))
noncomputable def k11_13 : Code := (c2 (c1 k11_5))
noncomputable def k11_14 : Code := (c2 (c1 k11_13))
noncomputable def k11_15 : Code := (c2 (c1 k11_4))
noncomputable def k11_16 : Code := (c1 (c1 k11_15))
noncomputable def k11_17 : Code := (c2 k11_16)
noncomputable def k11_18 : Code := (c2 k11_17)
noncomputable def k11_19 : Code := (c2 (c1 k11_16))
noncomputable def k11_20 : Code := (c2 (c1 k11_2))
noncomputable def k11_21 : Code := (c2 (c1 k11_20))
theorem s11_21 {R : VP} {Q : EQ} (hR : ∀ e w, (R (e 10) w) → Q .ret e w) (e : Env) (w : World) (h : m11_21 R (e 10) w) : W11 k11_21 Q e w := by
  unfold m11_21 at h
  exact reA (hR _ _ h)
theorem s11_18 {R : VP} {K1 : VP} {Q : EQ} (hN : ∀ e w, (K1 (e 13) w) → Q .normal e w) (e : Env) (w : World) (h : m11_18 R K1 (e 1) (e 2) (e 3) (e 4) (e 11) (e 13) w) : W11 k11_18 Q e w := by
  unfold m11_18 at h
  exact rgA 7 (fun e w => K1 (e 13) w) h hN
theorem s11_17 {R : VP} {K1 : VP} {Q : EQ} (hN : ∀ e w, (K1 (e 13) w) → Q .normal e w) (e : Env) (w : World) (h : m11_17 R K1 (e 1) (e 2) (e 3) (e 4) (e 11) (e 13) w) : W11 k11_17 Q e w := by
  unfold m11_17 at h
  refine seA ?_
  have hN : ∀ e w, (m11_18 R K1 (e 1) (e 2) (e 3) (e 4) (e 11) (e 13) w) → (thenE (W11 k11_18 Q) Q) .normal e w := fun e w h => then_N (s11_18 (R := R) (Q := Q) (K1 := K1) hN e w h)
  refine block_ok 1 (by kernel_rfl) ?_
  have hN : ∀ e w, (m11_18 R K1 (e 1) (e 2) (e 3) (e 4) (e 11) (e 13) w) → (inBlockE 1 (thenE (W11 k11_18 Q) Q)) .normal e w := fun e w h => block_N (hN e w h)
  exact rgA 8 (fun e w => m11_18 R K1 (e 1) (e 2) (e 3) (e 4) (e 11) (e 13) w) h hN
theorem s11_14 {R : VP} {Q : EQ} (hR : ∀ e w, (R (e 10) w) → Q .ret e w) (e : Env) (w : World) (h : m11_14 R (e 10) w) : W11 k11_14 Q e w := by
  unfold m11_14 at h
  exact reA (hR _ _ h)
theorem s11_12 {R : VP} {Q : EQ} (hR : ∀ e w, (R (e 10) w) → Q .ret e w) (e : Env) (w : World) (h : m11_12 R (e 10) w) : W11 k11_12 Q e w := by
  unfold m11_12 at h
  exact reA (hR _ _ h)
theorem s11_10 {R : VP} {Q : EQ} (hR : ∀ e w, (R (e 10) w) → Q .ret e w) (e : Env) (w : World) (h : m11_10 R (e 10) w) : W11 k11_10 Q e w := by
  unfold m11_10 at h
  exact reA (hR _ _ h)
theorem s11_9 {R : VP} {Q : EQ} (hR : ∀ e w, (R (e 10) w) → Q .ret e w) (e : Env) (w : World) (h : m11_9 R (e 2) (e 3) (e 4) (e 11) (e 15) w) : W11 k11_9 Q e w := by
  unfold m11_9 at h
  refine seA ?_
  have hN : ∀ e w, (m11_10 R (e 10) w) → (thenE (W11 k11_10 Q) Q) .normal e w := fun e w h => then_N (s11_10 (R := R) (Q := Q) hR e w h)
  exact rgK 15 (fun e w => m11_10 R (e 10) w) h hN
theorem s11_8 {R : VP} {Q : EQ} (hR : ∀ e w, (R (e 10) w) → Q .ret e w) (e : Env) (w : World) (h : m11_8 R (e 2) (e 3) (e 4) (e 11) (e 14) w) : W11 k11_8 Q e w := by
  unfold m11_8 at h
  refine seA ?_
  have hN : ∀ e w, (m11_9 R (e 2) (e 3) (e 4) (e 11) (e 15) w) → (thenE (W11 k11_9 Q) Q) .normal e w := fun e w h => then_N (s11_9 (R := R) (Q := Q) hR e w h)
  exact rgA 14 (fun e w => m11_9 R (e 2) (e 3) (e 4) (e 11) (e 15) w) h hN
theorem s11_7 {R : VP} {Q : EQ} (hR : ∀ e w, (R (e 10) w) → Q .ret e w) (e : Env) (w : World) (h : m11_7 R (e 2) (e 3) (e 4) (e 11) w) : W11 k11_7 Q e w := by
  unfold m11_7 at h
  refine seA ?_
  have hN : ∀ e w, (m11_8 R (e 2) (e 3) (e 4) (e 11) (e 14) w) → (thenE (W11 k11_8 Q) Q) .normal e w := fun e w h => then_N (s11_8 (R := R) (Q := Q) hR e w h)
  exact rgA 13 (fun e w => m11_8 R (e 2) (e 3) (e 4) (e 11) (e 14) w) h hN
theorem s11_11 {R : VP} {Q : EQ} (hN : ∀ e w, (m11_7 R (e 2) (e 3) (e 4) (e 11) w) → Q .normal e w) (hR : ∀ e w, (R (e 10) w) → Q .ret e w) (e : Env) (w : World) (h : m11_11 R (e 2) (e 3) (e 4) (e 11) (e 72) w) : W11 k11_11 Q e w := by
  unfold m11_11 at h
  refine coA (Operand.tmp 72) h (fun h1 => ?_) (fun h1 => ?_)
  · refine seA ?_
    have hN : ∀ e w, (m11_12 R (e 10) w) → (thenE (W11 k11_12 Q) Q) .normal e w := fun e w h => then_N (s11_12 (R := R) (Q := Q) hR e w h)
    exact rgA 12 (fun e w => m11_12 R (e 10) w) h1 hN
  · exact skA (hN _ _ h1)
theorem s11_6 {R : VP} {Q : EQ} (hR : ∀ e w, (R (e 10) w) → Q .ret e w) (e : Env) (w : World) (h : m11_6 R (e 2) (e 3) (e 4) (e 11) w) : W11 k11_6 Q e w := by
  unfold m11_6 at h
  refine seA ?_
  have hN : ∀ e w, (m11_7 R (e 2) (e 3) (e 4) (e 11) w) → (thenE (W11 k11_7 Q) Q) .normal e w := fun e w h => then_N (s11_7 (R := R) (Q := Q) hR e w h)
  have hR : ∀ e w, (R (e 10) w) → (thenE (W11 k11_7 Q) Q) .ret e w := fun e w h => then_R (hR e w h)
  refine seA ?_
  have hN : ∀ e w, (m11_11 R (e 2) (e 3) (e 4) (e 11) (e 72) w) → (thenE (W11 k11_11 (thenE (W11 k11_7 Q) Q)) (thenE (W11 k11_7 Q) Q)) .normal e w := fun e w h => then_N (s11_11 (R := R) (Q := (thenE (W11 k11_7 Q) Q)) hN hR e w h)
  exact rgA 11 (fun e w => m11_11 R (e 2) (e 3) (e 4) (e 11) (e 72) w) h hN
theorem s11_13 {R : VP} {Q : EQ} (hN : ∀ e w, (m11_6 R (e 2) (e 3) (e 4) (e 11) w) → Q .normal e w) (hR : ∀ e w, (R (e 10) w) → Q .ret e w) (e : Env) (w : World) (h : m11_13 R (e 2) (e 3) (e 4) (e 11) (e 46) w) : W11 k11_13 Q e w := by
  unfold m11_13 at h
  refine coA (Operand.tmp 46) h (fun h1 => ?_) (fun h1 => ?_)
  · refine seA ?_
    have hN : ∀ e w, (m11_14 R (e 10) w) → (thenE (W11 k11_14 Q) Q) .normal e w := fun e w h => then_N (s11_14 (R := R) (Q := Q) hR e w h)
    exact rgA 10 (fun e w => m11_14 R (e 10) w) h1 hN
  · exact skA (hN _ _ h1)
theorem s11_5 {R : VP} {Q : EQ} (hR : ∀ e w, (R (e 10) w) → Q .ret e w) (e : Env) (w : World) (h : m11_5 R (e 2) (e 3) (e 4) (e 11) w) : W11 k11_5 Q e w := by
  unfold m11_5 at h
  refine seA ?_
  have hN : ∀ e w, (m11_6 R (e 2) (e 3) (e 4) (e 11) w) → (thenE (W11 k11_6 Q) Q) .normal e w := fun e w h => then_N (s11_6 (R := R) (Q := Q) hR e w h)
  have hR : ∀ e w, (R (e 10) w) → (thenE (W11 k11_6 Q) Q) .ret e w := fun e w h => then_R (hR e w h)
  refine seA ?_
  have hN : ∀ e w, (m11_13 R (e 2) (e 3) (e 4) (e 11) (e 46) w) → (thenE (W11 k11_13 (thenE (W11 k11_6 Q) Q)) (thenE (W11 k11_6 Q) Q)) .normal e w := fun e w h => then_N (s11_13 (R := R) (Q := (thenE (W11 k11_6 Q) Q)) hN hR e w h)
  exact rgA 9 (fun e w => m11_13 R (e 2) (e 3) (e 4) (e 11) (e 46) w) h hN
theorem s11_19 {R : VP} {K1 : VP} {Q : EQ} (hN : ∀ e w, (m11_17 R K1 (e 1) (e 2) (e 3) (e 4) (e 11) (e 13) w) → Q .normal e w) (hX0 : ∀ e w, (m11_5 R (e 2) (e 3) (e 4) (e 11) w) → Q (.exit 0) e w) (e : Env) (w : World) (h : m11_19 R K1 (e 1) (e 2) (e 3) (e 4) (e 11) (e 13) (e 32) w) : W11 k11_19 Q e w := by
  unfold m11_19 at h
  refine coA (Operand.tmp 32) h (fun h1 => ?_) (fun h1 => ?_)
  · exact skA (hN _ _ h1)
  · exact exA 0 (hX0 _ _ h1)
theorem s11_16 {R : VP} {K1 : VP} {Q : EQ} (hN : ∀ e w, (K1 (e 13) w) → Q .normal e w) (hX0 : ∀ e w, (m11_5 R (e 2) (e 3) (e 4) (e 11) w) → Q (.exit 0) e w) (e : Env) (w : World) (h : m11_16 R K1 (e 1) (e 2) (e 3) (e 4) (e 11) (e 13) w) : W11 k11_16 Q e w := by
  unfold m11_16 at h
  refine seA ?_
  have hN : ∀ e w, (m11_17 R K1 (e 1) (e 2) (e 3) (e 4) (e 11) (e 13) w) → (thenE (W11 k11_17 Q) Q) .normal e w := fun e w h => then_N (s11_17 (R := R) (Q := Q) (K1 := K1) hN e w h)
  have hX0 : ∀ e w, (m11_5 R (e 2) (e 3) (e 4) (e 11) w) → (thenE (W11 k11_17 Q) Q) (.exit 0) e w := fun e w h => then_X (hX0 e w h)
  refine seA ?_
  have hN : ∀ e w, (m11_19 R K1 (e 1) (e 2) (e 3) (e 4) (e 11) (e 13) (e 32) w) → (thenE (W11 k11_19 (thenE (W11 k11_17 Q) Q)) (thenE (W11 k11_17 Q) Q)) .normal e w := fun e w h => then_N (s11_19 (R := R) (Q := (thenE (W11 k11_17 Q) Q)) (K1 := K1) hN hX0 e w h)
  exact rgA 6 (fun e w => m11_19 R K1 (e 1) (e 2) (e 3) (e 4) (e 11) (e 13) (e 32) w) h hN
theorem s11_15 {R : VP} {Q : EQ} (hN : ∀ e w, (m11_5 R (e 2) (e 3) (e 4) (e 11) w) → Q .normal e w) (e : Env) (w : World) (h : m11_15 R (e 1) (e 2) (e 3) (e 4) (e 11) (e 13) w) : W11 k11_15 Q e w := by
  unfold m11_15 at h
  refine block_ok 0 (by kernel_rfl) ?_
  have hX0 : ∀ e w, (m11_5 R (e 2) (e 3) (e 4) (e 11) w) → (inBlockE 0 Q) (.exit 0) e w := fun e w h => inBlock_same (Q := Q) 0 (hN e w h)
  refine loop_ok' (fun (e : Env) => e 13) [1, 2, 3, 4, 11] (by kernel_rfl) (by kernel_rfl) h (fun K e' w' hk h' => ?_)
  have r1 : e' 1 = e 1 := hk 1 (by decide)
  have r2 : e' 2 = e 2 := hk 2 (by decide)
  have r3 : e' 3 = e 3 := hk 3 (by decide)
  have r4 : e' 4 = e 4 := hk 4 (by decide)
  have r11 : e' 11 = e 11 := hk 11 (by decide)
  have hX0 : ∀ e w, (m11_5 R (e 2) (e 3) (e 4) (e 11) w) → (thenE (fun (e : Env) w => K (e 13) w) (inBlockE 0 Q)) (.exit 0) e w := fun e w h => then_X (hX0 e w h)
  exact s11_16 (R := R) (Q := (thenE (fun (e : Env) w => K (e 13) w) (inBlockE 0 Q))) (K1 := K) (fun _ _ h => then_N h) hX0 e' w' (by rw [r1, r2, r3, r4, r11]; exact h')
theorem s11_4 {R : VP} {Q : EQ} (hR : ∀ e w, (R (e 10) w) → Q .ret e w) (e : Env) (w : World) (h : m11_4 R (e 1) (e 2) (e 3) (e 4) (e 11) w) : W11 k11_4 Q e w := by
  unfold m11_4 at h
  refine seA ?_
  have hN : ∀ e w, (m11_5 R (e 2) (e 3) (e 4) (e 11) w) → (thenE (W11 k11_5 Q) Q) .normal e w := fun e w h => then_N (s11_5 (R := R) (Q := Q) hR e w h)
  refine seA ?_
  have hN : ∀ e w, (m11_15 R (e 1) (e 2) (e 3) (e 4) (e 11) (e 13) w) → (thenE (W11 k11_15 (thenE (W11 k11_5 Q) Q)) (thenE (W11 k11_5 Q) Q)) .normal e w := fun e w h => then_N (s11_15 (R := R) (Q := (thenE (W11 k11_5 Q) Q)) hN e w h)
  exact rgA 5 (fun e w => m11_15 R (e 1) (e 2) (e 3) (e 4) (e 11) (e 13) w) h hN
theorem s11_3 {R : VP} {Q : EQ} (hR : ∀ e w, (R (e 10) w) → Q .ret e w) (e : Env) (w : World) (h : m11_3 R (e 1) (e 2) (e 3) (e 4) (e 11) w) : W11 k11_3 Q e w := by
  unfold m11_3 at h
  refine seA ?_
  have hN : ∀ e w, (m11_4 R (e 1) (e 2) (e 3) (e 4) (e 11) w) → (thenE (W11 k11_4 Q) Q) .normal e w := fun e w h => then_N (s11_4 (R := R) (Q := Q) hR e w h)
  exact rgA 4 (fun e w => m11_4 R (e 1) (e 2) (e 3) (e 4) (e 11) w) h hN
theorem s11_20 {R : VP} {Q : EQ} (hN : ∀ e w, (m11_3 R (e 1) (e 2) (e 3) (e 4) (e 11) w) → Q .normal e w) (hR : ∀ e w, (R (e 10) w) → Q .ret e w) (e : Env) (w : World) (h : m11_20 R (e 1) (e 2) (e 3) (e 4) (e 11) (e 26) w) : W11 k11_20 Q e w := by
  unfold m11_20 at h
  refine coA (Operand.tmp 26) h (fun h1 => ?_) (fun h1 => ?_)
  · refine seA ?_
    have hN : ∀ e w, (m11_21 R (e 10) w) → (thenE (W11 k11_21 Q) Q) .normal e w := fun e w h => then_N (s11_21 (R := R) (Q := Q) hR e w h)
    exact rgA 3 (fun e w => m11_21 R (e 10) w) h1 hN
  · exact skA (hN _ _ h1)
theorem s11_2 {R : VP} {Q : EQ} (hR : ∀ e w, (R (e 10) w) → Q .ret e w) (e : Env) (w : World) (h : m11_2 R (e 1) (e 2) (e 3) (e 4) (e 11) (e 12) w) : W11 k11_2 Q e w := by
  unfold m11_2 at h
  refine seA ?_
  have hN : ∀ e w, (m11_3 R (e 1) (e 2) (e 3) (e 4) (e 11) w) → (thenE (W11 k11_3 Q) Q) .normal e w := fun e w h => then_N (s11_3 (R := R) (Q := Q) hR e w h)
  have hR : ∀ e w, (R (e 10) w) → (thenE (W11 k11_3 Q) Q) .ret e w := fun e w h => then_R (hR e w h)
  refine seA ?_
  have hN : ∀ e w, (m11_20 R (e 1) (e 2) (e 3) (e 4) (e 11) (e 26) w) → (thenE (W11 k11_20 (thenE (W11 k11_3 Q) Q)) (thenE (W11 k11_3 Q) Q)) .normal e w := fun e w h => then_N (s11_20 (R := R) (Q := (thenE (W11 k11_3 Q) Q)) hN hR e w h)
  exact rgA 2 (fun e w => m11_20 R (e 1) (e 2) (e 3) (e 4) (e 11) (e 26) w) h hN
theorem s11_1 {R : VP} {Q : EQ} (hR : ∀ e w, (R (e 10) w) → Q .ret e w) (e : Env) (w : World) (h : m11_1 R (e 0) (e 1) (e 2) (e 3) (e 4) w) : W11 k11_1 Q e w := by
  unfold m11_1 at h
  refine seA ?_
  have hN : ∀ e w, (m11_2 R (e 1) (e 2) (e 3) (e 4) (e 11) (e 12) w) → (thenE (W11 k11_2 Q) Q) .normal e w := fun e w h => then_N (s11_2 (R := R) (Q := Q) hR e w h)
  exact rgA 1 (fun e w => m11_2 R (e 1) (e 2) (e 3) (e 4) (e 11) (e 12) w) h hN
theorem s11_0 {R : VP} {Q : EQ} (hR : ∀ e w, (R (e 10) w) → Q .ret e w) (e : Env) (w : World) (h : m11_0 R (e 0) (e 1) (e 2) (e 3) (e 4) w) : W11 k11_0 Q e w := by
  unfold m11_0 at h
  refine seA ?_
  have hN : ∀ e w, (m11_1 R (e 0) (e 1) (e 2) (e 3) (e 4) w) → (thenE (W11 k11_1 Q) Q) .normal e w := fun e w h => then_N (s11_1 (R := R) (Q := Q) hR e w h)
  exact rgA 0 (fun e w => m11_1 R (e 0) (e 1) (e 2) (e 3) (e 4) w) h hN
abbrev m11 (R : VP) (sticky0 l1 id2 gen3 part4 : Value) (w : World) : Prop := m11_0 R sticky0 l1 id2 gen3 part4 w
theorem s11 (sticky0 l1 id2 gen3 part4 : Value) {R : VP} {w : World} (h : m11 R sticky0 l1 id2 gen3 part4 w) :
    Calls Try.prog 11 #[sticky0, l1, id2, gen3, part4] w fun e w' => ∃ v, e = .returned v ∧ R v w' :=
  calls_of_cwp (st := (fun i => 0)) (c := k11_0) (by kernel_rfl) Try.func11 (by kernel_rfl) (Nat.le_of_ble_eq_true (by kernel_rfl)) (by kernel_rfl)
    (s11_0 (R := R) (Q := endE Try.prog Try.f11 R) (fun e w h => kcast (by kernel_rfl) h) (argsE #[sticky0, l1, id2, gen3, part4]) w (kcast (by kernel_rfl) h))
end Go.Proofs.Ytjjmlopmemmobaa.M
