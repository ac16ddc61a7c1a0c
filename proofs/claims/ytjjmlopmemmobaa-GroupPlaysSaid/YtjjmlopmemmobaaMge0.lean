/- What functions' texts ask of their ends, told over values that have names; printed by a program of this work. -/
import Derived.Test.YtjjmlopmemmobaaFw
import Derived.Test.YtjjmlopmemmobaaProg
namespace Go.Proofs.Ytjjmlopmemmobaa.M
open Go.Proofs.Ytjjmlopmemmobaa.F
set_option linter.unusedVariables false
set_option maxRecDepth 100000
/-! ### headgate/headgatelaw10.GroupPlays -/
def m12_19 (R : VP) (t4 : Value) (w : World) : Prop :=
  R t4 w
def m12_17 (R : VP) (t4 : Value) (w : World) : Prop :=
  R t4 w
def m12_14 (R : VP) (K1 : VP) (t4 : Value) (w : World) : Prop :=
  R t4 w
def m12_12 (R : VP) (K1 : VP) (l1 g5 r7 i9 : Value) (w : World) : Prop :=
  valP Try.prog (binS BinOp.add 3 (Operand.tmp 53) (Operand.const (Value.int IntKind.i64 1)) i9 (Value.int IntKind.i64 1)) w fun t54 w =>
  K1 t54 w
def m12_13 (R : VP) (K1 : VP) (l1 g5 r7 i9 t77 : Value) (w : World) : Prop :=
  condP t77
  (m12_14 R K1 (Value.bool false) w)
  (m12_12 R K1 l1 g5 r7 i9 w)
def m12_11 (R : VP) (K1 : VP) (l1 g5 r7 i9 : Value) (w : World) : Prop :=
  anyDraw w fun w =>
  pureP Try.prog (Instr.indexAt 58 l1 i9) fun t59 =>
  nilCheckP r7 fun t62 =>
  pureP Try.prog (Instr.fieldAt 86 t62 5) fun t63 =>
  nilCheckP r7 fun t66 =>
  pureP Try.prog (Instr.fieldAt 86 t66 2) fun t67 =>
  (valP Try.prog (Instr.loadAt 65 t59) w fun t60 w =>
  (valP Try.prog (Instr.loadAt 66 t63) w fun t64 w =>
  valP Try.prog (Instr.loadAt 3 t67) w fun t68 w =>
  callP Try.prog (fnV 52) #[t60, t64, t68] w fun t69 w =>
  callP Try.prog (fnV 51) #[g5, r7, t69] w fun t70 w =>
  pureP Try.prog (Op.unary UnOp.not t70) fun t71 =>
  condP t71
  (pickP t71 (Value.bool true) undef fun t77 =>
  m12_13 R K1 l1 g5 r7 i9 t77 w)
  (callP Try.prog (fnV 53) #[g5, r7] w fun t75 w =>
  pureP Try.prog (Op.unary UnOp.not t75) fun t76 =>
  pickP t71 (Value.bool true) t76 fun t77 =>
  m12_13 R K1 l1 g5 r7 i9 t77 w)) ∧ (valP Try.prog (Instr.loadAt 3 t67) w fun t68 w =>
  valP Try.prog (Instr.loadAt 66 t63) w fun t64 w =>
  callP Try.prog (fnV 52) #[t60, t64, t68] w fun t69 w =>
  callP Try.prog (fnV 51) #[g5, r7, t69] w fun t70 w =>
  pureP Try.prog (Op.unary UnOp.not t70) fun t71 =>
  condP t71
  (pickP t71 (Value.bool true) undef fun t77 =>
  m12_13 R K1 l1 g5 r7 i9 t77 w)
  (callP Try.prog (fnV 53) #[g5, r7] w fun t75 w =>
  pureP Try.prog (Op.unary UnOp.not t75) fun t76 =>
  pickP t71 (Value.bool true) t76 fun t77 =>
  m12_13 R K1 l1 g5 r7 i9 t77 w))) ∧ (valP Try.prog (Instr.loadAt 66 t63) w fun t64 w =>
  (valP Try.prog (Instr.loadAt 65 t59) w fun t60 w =>
  valP Try.prog (Instr.loadAt 3 t67) w fun t68 w =>
  callP Try.prog (fnV 52) #[t60, t64, t68] w fun t69 w =>
  callP Try.prog (fnV 51) #[g5, r7, t69] w fun t70 w =>
  pureP Try.prog (Op.unary UnOp.not t70) fun t71 =>
  condP t71
  (pickP t71 (Value.bool true) undef fun t77 =>
  m12_13 R K1 l1 g5 r7 i9 t77 w)
  (callP Try.prog (fnV 53) #[g5, r7] w fun t75 w =>
  pureP Try.prog (Op.unary UnOp.not t75) fun t76 =>
  pickP t71 (Value.bool true) t76 fun t77 =>
  m12_13 R K1 l1 g5 r7 i9 t77 w)) ∧ (valP Try.prog (Instr.loadAt 3 t67) w fun t68 w =>
  valP Try.prog (Instr.loadAt 65 t59) w fun t60 w =>
  callP Try.prog (fnV 52) #[t60, t64, t68] w fun t69 w =>
  callP Try.prog (fnV 51) #[g5, r7, t69] w fun t70 w =>
  pureP Try.prog (Op.unary UnOp.not t70) fun t71 =>
  condP t71
  (pickP t71 (Value.bool true) undef fun t77 =>
  m12_13 R K1 l1 g5 r7 i9 t77 w)
  (callP Try.prog (fnV 53) #[g5, r7] w fun t75 w =>
  pureP Try.prog (Op.unary UnOp.not t75) fun t76 =>
  pickP t71 (Value.bool true) t76 fun t77 =>
  m12_13 R K1 l1 g5 r7 i9 t77 w))) ∧ (valP Try.prog (Instr.loadAt 3 t67) w fun t68 w =>
  (valP Try.prog (Instr.loadAt 65 t59) w fun t60 w =>
  valP Try.prog (Instr.loadAt 66 t63) w fun t64 w =>
  callP Try.prog (fnV 52) #[t60, t64, t68] w fun t69 w =>
  callP Try.prog (fnV 51) #[g5, r7, t69] w fun t70 w =>
  pureP Try.prog (Op.unary UnOp.not t70) fun t71 =>
  condP t71
  (pickP t71 (Value.bool true) undef fun t77 =>
  m12_13 R K1 l1 g5 r7 i9 t77 w)
  (callP Try.prog (fnV 53) #[g5, r7] w fun t75 w =>
  pureP Try.prog (Op.unary UnOp.not t75) fun t76 =>
  pickP t71 (Value.bool true) t76 fun t77 =>
  m12_13 R K1 l1 g5 r7 i9 t77 w)) ∧ (valP Try.prog (Instr.loadAt 66 t63) w fun t64 w =>
  valP Try.prog (Instr.loadAt 65 t59) w fun t60 w =>
  callP Try.prog (fnV 52) #[t60, t64, t68] w fun t69 w =>
  callP Try.prog (fnV 51) #[g5, r7, t69] w fun t70 w =>
  pureP Try.prog (Op.unary UnOp.not t70) fun t71 =>
  condP t71
  (pickP t71 (Value.bool true) undef fun t77 =>
  m12_13 R K1 l1 g5 r7 i9 t77 w)
  (callP Try.prog (fnV 53) #[g5, r7] w fun t75 w =>
  pureP Try.prog (Op.unary UnOp.not t75) fun t76 =>
  pickP t71 (Value.bool true) t76 fun t77 =>
  m12_13 R K1 l1 g5 r7 i9 t77 w)))
def m12_8 (R : VP) (t4 : Value) (w : World) : Prop :=
  R t4 w
def m12_7 (R : VP) (w : World) : Prop :=
  callP Try.prog (fnV 40) #[] w fun t78 w =>
  m12_8 R t78 w
def m12_15 (R : VP) (K1 : VP) (l1 g5 r7 i9 t52 : Value) (w : World) : Prop :=
  condP t52
  (m12_11 R K1 l1 g5 r7 i9 w)
  (m12_7 R w)
def m12_10 (R : VP) (K1 : VP) (l1 g5 r7 i9 : Value) (w : World) : Prop :=
  builtinP Try.prog Builtin.len #[58] 3 #[false] #[l1] w fun t51 w =>
  valP Try.prog (binS BinOp.lss 3 (Operand.tmp 49) (Operand.tmp 51) i9 t51) w fun t52 w =>
  m12_15 R K1 l1 g5 r7 i9 t52 w
def m12_9 (R : VP) (l1 g5 r7 i9 : Value) (w : World) : Prop :=
  loopP (fun (K1 : VP) (s : Value) w => m12_10 R K1 l1 g5 r7 s w) i9 w
def m12_6 (R : VP) (l1 g5 r7 : Value) (w : World) : Prop :=
  m12_9 R l1 g5 r7 (Value.int IntKind.i64 0) w
def m12_5 (R : VP) (l1 g5 r7 : Value) (w : World) : Prop :=
  callP Try.prog (fnV 37) #[l1] w fun t48 w =>
  m12_6 R t48 g5 r7 w
def m12_16 (R : VP) (l1 g5 r7 t45 : Value) (w : World) : Prop :=
  condP t45
  (callP Try.prog (fnV 40) #[] w fun t46 w =>
  m12_17 R t46 w)
  (m12_5 R l1 g5 r7 w)
def m12_4 (R : VP) (l1 g5 r7 : Value) (w : World) : Prop :=
  valP Try.prog (binS BinOp.eql 59 (Operand.tmp 44) (Operand.const (Value.pointer none)) g5 (Value.pointer none)) w fun t45 w =>
  m12_16 R l1 g5 r7 t45 w
def m12_18 (R : VP) (l1 g5 r7 t43 : Value) (w : World) : Prop :=
  condP t43
  (m12_19 R (Value.bool false) w)
  (m12_4 R l1 g5 r7 w)
def m12_3 (R : VP) (l1 g5 e6 r7 f8 : Value) (w : World) : Prop :=
  valP Try.prog (binS BinOp.neq 3 (Operand.tmp 34) (Operand.tmp 35) e6 f8) w fun t36 w =>
  condP t36
  (pickP t36 (Value.bool true) undef fun t43 =>
  m12_18 R l1 g5 r7 t43 w)
  (valP Try.prog (binS BinOp.eql 59 (Operand.tmp 38) (Operand.const (Value.pointer none)) g5 (Value.pointer none)) w fun t39 w =>
  valP Try.prog (binS BinOp.neq 3 (Operand.tmp 40) (Operand.const (Value.int IntKind.i64 0)) f8 (Value.int IntKind.i64 0)) w fun t41 w =>
  valP Try.prog (binS BinOp.neq 4 (Operand.tmp 39) (Operand.tmp 41) t39 t41) w fun t42 w =>
  pickP t36 (Value.bool true) t42 fun t43 =>
  m12_18 R l1 g5 r7 t43 w)
def m12_2 (R : VP) (l1 x2 g5 e6 : Value) (w : World) : Prop :=
  valP Try.prog (Instr.fieldAt 79 x2 0) w fun t23 w =>
  valP Try.prog (Instr.loadAt 3 t23) w fun t24 w =>
  valP Try.prog (Instr.fieldAt 79 x2 3) w fun t25 w =>
  valP Try.prog (Instr.loadAt 4 t25) w fun t26 w =>
  valP Try.prog (Instr.fieldAt 79 x2 1) w fun t27 w =>
  valP Try.prog (Instr.loadAt 3 t27) w fun t28 w =>
  valP Try.prog (Instr.fieldAt 79 x2 2) w fun t29 w =>
  valP Try.prog (Instr.loadAt 3 t29) w fun t30 w =>
  callP Try.prog (fnV 50) #[t24, t26, t28, t30] w fun t31 w =>
  valP Try.prog (Instr.extract t31 0) w fun t32 w =>
  valP Try.prog (Instr.extract t31 1) w fun t33 w =>
  m12_3 R l1 g5 e6 t32 t33 w
def m12_1 (R : VP) (l1 x2 : Value) (w : World) : Prop :=
  valP Try.prog (Instr.fieldAt 79 x2 0) w fun t11 w =>
  valP Try.prog (Instr.loadAt 3 t11) w fun t12 w =>
  valP Try.prog (Instr.fieldAt 79 x2 3) w fun t13 w =>
  valP Try.prog (Instr.loadAt 4 t13) w fun t14 w =>
  valP Try.prog (Instr.fieldAt 79 x2 1) w fun t15 w =>
  valP Try.prog (Instr.loadAt 3 t15) w fun t16 w =>
  valP Try.prog (Instr.fieldAt 79 x2 2) w fun t17 w =>
  valP Try.prog (Instr.loadAt 3 t17) w fun t18 w =>
  callP Try.prog (fnV 36) #[t12, t14, t16, t18] w fun t19 w =>
  valP Try.prog (Instr.extract t19 0) w fun t20 w =>
  valP Try.prog (Instr.extract t19 1) w fun t21 w =>
  m12_2 R l1 x2 t20 t21 w
def m12_0 (R : VP) (x0 l1 : Value) (w : World) : Prop :=
  valP Try.prog (Instr.box 79 x0) w fun x2 w =>
  m12_1 R l1 x2 w
abbrev W12 := cwp Try.prog (fun i => 0)
noncomputable def k12_0 : Code := (bodyOf Try.f12)
noncomputable def k12_1 : Code := (c2 k12_0)
noncomputable def k12_2 : Code := (c2 k12_1)
noncomputable def k12_3 : Code := (c2 k12_2)
noncomputable def k12_4 : Code := (c2 k12_3)
noncomputable def k12_5 : Code := (c2 k12_4)
noncomputable def k12_6 : Code := (c2 k12_5)
noncomputable def k12_7 : Code := (c2 k12_6)
noncomputable def k12_8 : Code := (c2 k12_7)
noncomputable def k12_9 : Code := (c2 (c1 k12_6))
noncomputable def k12_10 : Code := (c1 (c1 k12_9))
noncomputable def k12_11 : Code := (c2 k12_10)
noncomputable def k12_12 : Code := (c2 k12_11)
noncomputable def k12_13 : Code := (c2 (c1 (c1 k12_11)))
noncomputable def k12_14 : Code := (c2 (c1 k12_13))
noncomputable def k12_15 : Code := (c2 (c1 k12_10))
noncomputable def k12_16 : Code := (c2 (c1 k12_4))
noncomputable def k12_17 : Code := (c2 (c1 k12_16))
noncomputable def k12_18 : Code := (c2 (c1 k12_3))
noncomputable def k12_19 : Code := (c2 (c1 k12_18))
theorem s12_19 {R : VP} {Q : EQ} (hR : ∀ e w, (R (e 4) w) → Q .ret e w) (e : Env) (w : World) (h : m12_19 R (e 4) w) : W12 k12_19 Q e w := by
  unfold m12_19 at h
  exact reA (hR _ _ h)
theorem s12_17 {R : VP} {Q : EQ} (hR : ∀ e w, (R (e 4) w) → Q .ret e w) (e : Env) (w : World) (h : m12_17 R (e 4) w) : W12 k12_17 Q e w := by
  unfold m12_17 at h
  exact reA (hR _ _ h)
theorem s12_14 {R : VP} {K1 : VP} {Q : EQ} (hR : ∀ e w, (R (e 4) w) → Q .ret e w) (e : Env) (w : World) (h : m12_14 R K1 (e 4) w) : W12 k12_14 Q e w := by
  unfold m12_14 at h
  exact reA (hR _ _ h)
theorem s12_12 {R : VP} {K1 : VP} {Q : EQ} (hN : ∀ e w, (K1 (e 9) w) → Q .normal e w) (e : Env) (w : World) (h : m12_12 R K1 (e 1) (e 5) (e 7) (e 9) w) : W12 k12_12 Q e w := by
  unfold m12_12 at h
  exact rgA 10 (fun e w => K1 (e 9) w) h hN
theorem s12_13 {R : VP} {K1 : VP} {Q : EQ} (hN : ∀ e w, (m12_12 R K1 (e 1) (e 5) (e 7) (e 9) w) → Q .normal e w) (hR : ∀ e w, (R (e 4) w) → Q .ret e w) (e : Env) (w : World) (h : m12_13 R K1 (e 1) (e 5) (e 7) (e 9) (e 77) w) : W12 k12_13 Q e w := by
  unfold m12_13 at h
  refine coA (Operand.tmp 77) h (fun h1 => ?_) (fun h1 => ?_)
  · refine seA ?_
    have hN : ∀ e w, (m12_14 R K1 (e 4) w) → (thenE (W12 k12_14 Q) Q) .normal e w := fun e w h => then_N (s12_14 (R := R) (Q := Q) (K1 := K1) hR e w h)
    exact rgA 12 (fun e w => m12_14 R K1 (e 4) w) h1 hN
  · exact skA (hN _ _ h1)
theorem s12_11 {R : VP} {K1 : VP} {Q : EQ} (hN : ∀ e w, (K1 (e 9) w) → Q .normal e w) (hR : ∀ e w, (R (e 4) w) → Q .ret e w) (e : Env) (w : World) (h : m12_11 R K1 (e 1) (e 5) (e 7) (e 9) w) : W12 k12_11 Q e w := by
  unfold m12_11 at h
  refine seA ?_
  have hN : ∀ e w, (m12_12 R K1 (e 1) (e 5) (e 7) (e 9) w) → (thenE (W12 k12_12 Q) Q) .normal e w := fun e w h => then_N (s12_12 (R := R) (Q := Q) (K1 := K1) hN e w h)
  have hR : ∀ e w, (R (e 4) w) → (thenE (W12 k12_12 Q) Q) .ret e w := fun e w h => then_R (hR e w h)
  refine block_ok 1 (by kernel_rfl) ?_
  have hN : ∀ e w, (m12_12 R K1 (e 1) (e 5) (e 7) (e 9) w) → (inBlockE 1 (thenE (W12 k12_12 Q) Q)) .normal e w := fun e w h => block_N (hN e w h)
  have hR : ∀ e w, (R (e 4) w) → (inBlockE 1 (thenE (W12 k12_12 Q) Q)) .ret e w := fun e w h => block_R (hR e w h)
  refine seA ?_
  have hN : ∀ e w, (m12_13 R K1 (e 1) (e 5) (e 7) (e 9) (e 77) w) → (thenE (W12 k12_13 (inBlockE 1 (thenE (W12 k12_12 Q) Q))) (inBlockE 1 (thenE (W12 k12_12 Q) Q))) .normal e w := fun e w h => then_N (s12_13 (R := R) (Q := (inBlockE 1 (thenE (W12 k12_12 Q) Q))) (K1 := K1) hN hR e w h)
  exact tree_ok 11 23 [false, false, false, false, false, false, false, false, false, false, false, false, false, false, false, false, false, false, false, false, false, false, false] (.take 0 [true, false, false, false, false, false, false, false, false, false, false, false, false, false, false, false, false, false, false, false, false, false, false] (.take 1 [true, true, false, false, false, false, false, false, false, false, false, false, false, false, false, false, false, false, false, false, false, false, false] (.take 2 [true, true, true, false, false, false, false, false, false, false, false, false, false, false, false, false, false, false, false, false, false, false, false] (.take 3 [true, true, true, true, false, false, false, false, false, false, false, false, false, false, false, false, false, false, false, false, false, false, false] (.take 4 [true, true, true, true, true, false, false, false, false, false, false, false, false, false, false, false, false, false, false, false, false, false, false] (.take 6 [true, true, true, true, true, false, true, false, false, false, false, false, false, false, false, false, false, false, false, false, false, false, false] (.take 7 [true, true, true, true, true, false, true, true, false, false, false, false, false, false, false, false, false, false, false, false, false, false, false] (.take 8 [true, true, true, true, true, false, true, true, true, false, false, false, false, false, false, false, false, false, false, false, false, false, false] (.take 10 [true, true, true, true, true, false, true, true, true, false, true, false, false, false, false, false, false, false, false, false, false, false, false] (.take 11 [true, true, true, true, true, false, true, true, true, false, true, true, false, false, false, false, false, false, false, false, false, false, false] (.take 12 [true, true, true, true, true, false, true, true, true, false, true, true, true, false, false, false, false, false, false, false, false, false, false] (.alt 5 [true, true, true, true, true, true, true, true, true, false, true, true, true, false, false, false, false, false, false, false, false, false, false] (.alt 9 [true, true, true, true, true, true, true, true, true, true, true, true, true, false, false, false, false, false, false, false, false, false, false] (.alt 13 [true, true, true, true, true, true, true, true, true, true, true, true, true, true, false, false, false, false, false, false, false, false, false] (.alt 14 [true, true, true, true, true, true, true, true, true, true, true, true, true, true, true, false, false, false, false, false, false, false, false] (.alt 15 [true, true, true, true, true, true, true, true, true, true, true, true, true, true, true, true, false, false, false, false, false, false, false] (.take 16 [true, true, true, true, true, true, true, true, true, true, true, true, true, true, true, true, true, false, false, false, false, false, false] (.take 17 [true, true, true, true, true, true, true, true, true, true, true, true, true, true, true, true, true, true, false, false, false, false, false] (.take 18 [true, true, true, true, true, true, true, true, true, true, true, true, true, true, true, true, true, true, true, false, false, false, false] (.take 19 [true, true, true, true, true, true, true, true, true, true, true, true, true, true, true, true, true, true, true, true, false, false, false] (.alt 20 [true, true, true, true, true, true, true, true, true, true, true, true, true, true, true, true, true, true, true, true, true, false, false] (.take 21 [true, true, true, true, true, true, true, true, true, true, true, true, true, true, true, true, true, true, true, true, true, true, false] (.take 22 [true, true, true, true, true, true, true, true, true, true, true, true, true, true, true, true, true, true, true, true, true, true, true] .done)) .stop))))) .stop) .stop) .stop) (.alt 13 [true, true, true, true, true, true, true, true, true, false, true, true, true, true, false, false, false, false, false, false, false, false, false] (.alt 9 [true, true, true, true, true, true, true, true, true, true, true, true, true, true, false, false, false, false, false, false, false, false, false] (.alt 14 [true, true, true, true, true, true, true, true, true, true, true, true, true, true, true, false, false, false, false, false, false, false, false] (.alt 15 [true, true, true, true, true, true, true, true, true, true, true, true, true, true, true, true, false, false, false, false, false, false, false] (.take 16 [true, true, true, true, true, true, true, true, true, true, true, true, true, true, true, true, true, false, false, false, false, false, false] (.take 17 [true, true, true, true, true, true, true, true, true, true, true, true, true, true, true, true, true, true, false, false, false, false, false] (.take 18 [true, true, true, true, true, true, true, true, true, true, true, true, true, true, true, true, true, true, true, false, false, false, false] (.take 19 [true, true, true, true, true, true, true, true, true, true, true, true, true, true, true, true, true, true, true, true, false, false, false] (.alt 20 [true, true, true, true, true, true, true, true, true, true, true, true, true, true, true, true, true, true, true, true, true, false, false] (.take 21 [true, true, true, true, true, true, true, true, true, true, true, true, true, true, true, true, true, true, true, true, true, true, false] (.take 22 [true, true, true, true, true, true, true, true, true, true, true, true, true, true, true, true, true, true, true, true, true, true, true] .done)) .stop))))) .stop) .stop) .stop) .stop)) (.alt 9 [true, true, true, true, true, false, true, true, true, true, true, true, true, false, false, false, false, false, false, false, false, false, false] (.alt 5 [true, true, true, true, true, true, true, true, true, true, true, true, true, false, false, false, false, false, false, false, false, false, false] (.alt 13 [true, true, true, true, true, true, true, true, true, true, true, true, true, true, false, false, false, false, false, false, false, false, false] (.alt 14 [true, true, true, true, true, true, true, true, true, true, true, true, true, true, true, false, false, false, false, false, false, false, false] (.alt 15 [true, true, true, true, true, true, true, true, true, true, true, true, true, true, true, true, false, false, false, false, false, false, false] (.take 16 [true, true, true, true, true, true, true, true, true, true, true, true, true, true, true, true, true, false, false, false, false, false, false] (.take 17 [true, true, true, true, true, true, true, true, true, true, true, true, true, true, true, true, true, true, false, false, false, false, false] (.take 18 [true, true, true, true, true, true, true, true, true, true, true, true, true, true, true, true, true, true, true, false, false, false, false] (.take 19 [true, true, true, true, true, true, true, true, true, true, true, true, true, true, true, true, true, true, true, true, false, false, false] (.alt 20 [true, true, true, true, true, true, true, true, true, true, true, true, true, true, true, true, true, true, true, true, true, false, false] (.take 21 [true, true, true, true, true, true, true, true, true, true, true, true, true, true, true, true, true, true, true, true, true, true, false] (.take 22 [true, true, true, true, true, true, true, true, true, true, true, true, true, true, true, true, true, true, true, true, true, true, true] .done)) .stop))))) .stop) .stop) .stop) (.alt 13 [true, true, true, true, true, false, true, true, true, true, true, true, true, true, false, false, false, false, false, false, false, false, false] (.alt 5 [true, true, true, true, true, true, true, true, true, true, true, true, true, true, false, false, false, false, false, false, false, false, false] (.alt 14 [true, true, true, true, true, true, true, true, true, true, true, true, true, true, true, false, false, false, false, false, false, false, false] (.alt 15 [true, true, true, true, true, true, true, true, true, true, true, true, true, true, true, true, false, false, false, false, false, false, false] (.take 16 [true, true, true, true, true, true, true, true, true, true, true, true, true, true, true, true, true, false, false, false, false, false, false] (.take 17 [true, true, true, true, true, true, true, true, true, true, true, true, true, true, true, true, true, true, false, false, false, false, false] (.take 18 [true, true, true, true, true, true, true, true, true, true, true, true, true, true, true, true, true, true, true, false, false, false, false] (.take 19 [true, true, true, true, true, true, true, true, true, true, true, true, true, true, true, true, true, true, true, true, false, false, false] (.alt 20 [true, true, true, true, true, true, true, true, true, true, true, true, true, true, true, true, true, true, true, true, true, false, false] (.take 21 [true, true, true, true, true, true, true, true, true, true, true, true, true, true, true, true, true, true, true, true, true, true, false] (.take 22 [true, true, true, true, true, true, true, true, true, true, true, true, true, true, true, true, true, true, true, true, true, true, true] .done)) .stop))))) .stop) .stop) .stop) .stop)) (.alt 13 [true, true, true, true, true, false, true, true, true, false, true, true, true, true, false, false, false, false, false, false, false, false, false] (.alt 5 [true, true, true, true, true, true, true, true, true, false, true, true, true, true, false, false, false, false, false, false, false, false, false] (.alt 9 [true, true, true, true, true, true, true, true, true, true, true, true, true, true, false, false, false, false, false, false, false, false, false] (.alt 14 [true, true, true, true, true, true, true, true, true, true, true, true, true, true, true, false, false, false, false, false, false, false, false] (.alt 15 [true, true, true, true, true, true, true, true, true, true, true, true, true, true, true, true, false, false, false, false, false, false, false] (.take 16 [true, true, true, true, true, true, true, true, true, true, true, true, true, true, true, true, true, false, false, false, false, false, false] (.take 17 [true, true, true, true, true, true, true, true, true, true, true, true, true, true, true, true, true, true, false, false, false, false, false] (.take 18 [true, true, true, true, true, true, true, true, true, true, true, true, true, true, true, true, true, true, true, false, false, false, false] (.take 19 [true, true, true, true, true, true, true, true, true, true, true, true, true, true, true, true, true, true, true, true, false, false, false] (.alt 20 [true, true, true, true, true, true, true, true, true, true, true, true, true, true, true, true, true, true, true, true, true, false, false] (.take 21 [true, true, true, true, true, true, true, true, true, true, true, true, true, true, true, true, true, true, true, true, true, true, false] (.take 22 [true, true, true, true, true, true, true, true, true, true, true, true, true, true, true, true, true, true, true, true, true, true, true] .done)) .stop))))) .stop) .stop) .stop) (.alt 9 [true, true, true, true, true, false, true, true, true, true, true, true, true, true, false, false, false, false, false, false, false, false, false] (.alt 5 [true, true, true, true, true, true, true, true, true, true, true, true, true, true, false, false, false, false, false, false, false, false, false] (.alt 14 [true, true, true, true, true, true, true, true, true, true, true, true, true, true, true, false, false, false, false, false, false, false, false] (.alt 15 [true, true, true, true, true, true, true, true, true, true, true, true, true, true, true, true, false, false, false, false, false, false, false] (.take 16 [true, true, true, true, true, true, true, true, true, true, true, true, true, true, true, true, true, false, false, false, false, false, false] (.take 17 [true, true, true, true, true, true, true, true, true, true, true, true, true, true, true, true, true, true, false, false, false, false, false] (.take 18 [true, true, true, true, true, true, true, true, true, true, true, true, true, true, true, true, true, true, true, false, false, false, false] (.take 19 [true, true, true, true, true, true, true, true, true, true, true, true, true, true, true, true, true, true, true, true, false, false, false] (.alt 20 [true, true, true, true, true, true, true, true, true, true, true, true, true, true, true, true, true, true, true, true, true, false, false] (.take 21 [true, true, true, true, true, true, true, true, true, true, true, true, true, true, true, true, true, true, true, true, true, true, false] (.take 22 [true, true, true, true, true, true, true, true, true, true, true, true, true, true, true, true, true, true, true, true, true, true, true] .done)) .stop))))) .stop) .stop) .stop) .stop)) .stop)))))))))))))) (fun e w => m12_13 R K1 (e 1) (e 5) (e 7) (e 9) (e 77) w) (by kernel_rfl) (by kernel_rfl) (by kernel_rfl) (by kernel_rfl) (by kernel_rfl) (by kernel_rfl) (kcast (by kernel_rfl) h) hN (by kernel_rfl)
theorem s12_8 {R : VP} {Q : EQ} (hR : ∀ e w, (R (e 4) w) → Q .ret e w) (e : Env) (w : World) (h : m12_8 R (e 4) w) : W12 k12_8 Q e w := by
  unfold m12_8 at h
  exact reA (hR _ _ h)
theorem s12_7 {R : VP} {Q : EQ} (hR : ∀ e w, (R (e 4) w) → Q .ret e w) (e : Env) (w : World) (h : m12_7 R w) : W12 k12_7 Q e w := by
  unfold m12_7 at h
  refine seA ?_
  have hN : ∀ e w, (m12_8 R (e 4) w) → (thenE (W12 k12_8 Q) Q) .normal e w := fun e w h => then_N (s12_8 (R := R) (Q := Q) hR e w h)
  exact rgA 13 (fun e w => m12_8 R (e 4) w) h hN
theorem s12_15 {R : VP} {K1 : VP} {Q : EQ} (hN : ∀ e w, (m12_11 R K1 (e 1) (e 5) (e 7) (e 9) w) → Q .normal e w) (hX0 : ∀ e w, (m12_7 R w) → Q (.exit 0) e w) (e : Env) (w : World) (h : m12_15 R K1 (e 1) (e 5) (e 7) (e 9) (e 52) w) : W12 k12_15 Q e w := by
  unfold m12_15 at h
  refine coA (Operand.tmp 52) h (fun h1 => ?_) (fun h1 => ?_)
  · exact skA (hN _ _ h1)
  · exact exA 0 (hX0 _ _ h1)
theorem s12_10 {R : VP} {K1 : VP} {Q : EQ} (hN : ∀ e w, (K1 (e 9) w) → Q .normal e w) (hR : ∀ e w, (R (e 4) w) → Q .ret e w) (hX0 : ∀ e w, (m12_7 R w) → Q (.exit 0) e w) (e : Env) (w : World) (h : m12_10 R K1 (e 1) (e 5) (e 7) (e 9) w) : W12 k12_10 Q e w := by
  unfold m12_10 at h
  refine seA ?_
  have hN : ∀ e w, (m12_11 R K1 (e 1) (e 5) (e 7) (e 9) w) → (thenE (W12 k12_11 Q) Q) .normal e w := fun e w h => then_N (s12_11 (R := R) (Q := Q) (K1 := K1) hN hR e w h)
  have hX0 : ∀ e w, (m12_7 R w) → (thenE (W12 k12_11 Q) Q) (.exit 0) e w := fun e w h => then_X (hX0 e w h)
  refine seA ?_
  have hN : ∀ e w, (m12_15 R K1 (e 1) (e 5) (e 7) (e 9) (e 52) w) → (thenE (W12 k12_15 (thenE (W12 k12_11 Q) Q)) (thenE (W12 k12_11 Q) Q)) .normal e w := fun e w h => then_N (s12_15 (R := R) (Q := (thenE (W12 k12_11 Q) Q)) (K1 := K1) hN hX0 e w h)
  exact rgA 9 (fun e w => m12_15 R K1 (e 1) (e 5) (e 7) (e 9) (e 52) w) h hN
theorem s12_9 {R : VP} {Q : EQ} (hN : ∀ e w, (m12_7 R w) → Q .normal e w) (hR : ∀ e w, (R (e 4) w) → Q .ret e w) (e : Env) (w : World) (h : m12_9 R (e 1) (e 5) (e 7) (e 9) w) : W12 k12_9 Q e w := by
  unfold m12_9 at h
  refine block_ok 0 (by kernel_rfl) ?_
  have hX0 : ∀ e w, (m12_7 R w) → (inBlockE 0 Q) (.exit 0) e w := fun e w h => inBlock_same (Q := Q) 0 (hN e w h)
  have hR : ∀ e w, (R (e 4) w) → (inBlockE 0 Q) .ret e w := fun e w h => block_R (hR e w h)
  refine loop_ok' (fun (e : Env) => e 9) [1, 5, 7] (by kernel_rfl) (by kernel_rfl) h (fun K e' w' hk h' => ?_)
  have r1 : e' 1 = e 1 := hk 1 (by decide)
  have r5 : e' 5 = e 5 := hk 5 (by decide)
  have r7 : e' 7 = e 7 := hk 7 (by decide)
  have hR : ∀ e w, (R (e 4) w) → (thenE (fun (e : Env) w => K (e 9) w) (inBlockE 0 Q)) .ret e w := fun e w h => then_R (hR e w h)
  have hX0 : ∀ e w, (m12_7 R w) → (thenE (fun (e : Env) w => K (e 9) w) (inBlockE 0 Q)) (.exit 0) e w := fun e w h => then_X (hX0 e w h)
  exact s12_10 (R := R) (Q := (thenE (fun (e : Env) w => K (e 9) w) (inBlockE 0 Q))) (K1 := K) (fun _ _ h => then_N h) hR hX0 e' w' (by rw [r1, r5, r7]; exact h')
theorem s12_6 {R : VP} {Q : EQ} (hR : ∀ e w, (R (e 4) w) → Q .ret e w) (e : Env) (w : World) (h : m12_6 R (e 1) (e 5) (e 7) w) : W12 k12_6 Q e w := by
  unfold m12_6 at h
  refine seA ?_
  have hN : ∀ e w, (m12_7 R w) → (thenE (W12 k12_7 Q) Q) .normal e w := fun e w h => then_N (s12_7 (R := R) (Q := Q) hR e w h)
  have hR : ∀ e w, (R (e 4) w) → (thenE (W12 k12_7 Q) Q) .ret e w := fun e w h => then_R (hR e w h)
  refine seA ?_
  have hN : ∀ e w, (m12_9 R (e 1) (e 5) (e 7) (e 9) w) → (thenE (W12 k12_9 (thenE (W12 k12_7 Q) Q)) (thenE (W12 k12_7 Q) Q)) .normal e w := fun e w h => then_N (s12_9 (R := R) (Q := (thenE (W12 k12_7 Q) Q)) hN hR e w h)
  exact rgA 8 (fun e w => m12_9 R (e 1) (e 5) (e 7) (e 9) w) h hN
theorem s12_5 {R : VP} {Q : EQ} (hR : ∀ e w, (R (e 4) w) → Q .ret e w) (e : Env) (w : World) (h : m12_5 R (e 1) (e 5) (e 7) w) : W12 k12_5 Q e w := by
  unfold m12_5 at h
  refine seA ?_
  have hN : ∀ e w, (m12_6 R (e 1) (e 5) (e 7) w) → (thenE (W12 k12_6 Q) Q) .normal e w := fun e w h => then_N (s12_6 (R := R) (Q := Q) hR e w h)
  exact rgA 7 (fun e w => m12_6 R (e 1) (e 5) (e 7) w) h hN
theorem s12_16 {R : VP} {Q : EQ} (hN : ∀ e w, (m12_5 R (e 1) (e 5) (e 7) w) → Q .normal e w) (hR : ∀ e w, (R (e 4) w) → Q .ret e w) (e : Env) (w : World) (h : m12_16 R (e 1) (e 5) (e 7) (e 45) w) : W12 k12_16 Q e w := by
  unfold m12_16 at h
  refine coA (Operand.tmp 45) h (fun h1 => ?_) (fun h1 => ?_)
  · refine seA ?_
    have hN : ∀ e w, (m12_17 R (e 4) w) → (thenE (W12 k12_17 Q) Q) .normal e w := fun e w h => then_N (s12_17 (R := R) (Q := Q) hR e w h)
    exact rgA 6 (fun e w => m12_17 R (e 4) w) h1 hN
  · exact skA (hN _ _ h1)
theorem s12_4 {R : VP} {Q : EQ} (hR : ∀ e w, (R (e 4) w) → Q .ret e w) (e : Env) (w : World) (h : m12_4 R (e 1) (e 5) (e 7) w) : W12 k12_4 Q e w := by
  unfold m12_4 at h
  refine seA ?_
  have hN : ∀ e w, (m12_5 R (e 1) (e 5) (e 7) w) → (thenE (W12 k12_5 Q) Q) .normal e w := fun e w h => then_N (s12_5 (R := R) (Q := Q) hR e w h)
  have hR : ∀ e w, (R (e 4) w) → (thenE (W12 k12_5 Q) Q) .ret e w := fun e w h => then_R (hR e w h)
  refine seA ?_
  have hN : ∀ e w, (m12_16 R (e 1) (e 5) (e 7) (e 45) w) → (thenE (W12 k12_16 (thenE (W12 k12_5 Q) Q)) (thenE (W12 k12_5 Q) Q)) .normal e w := fun e w h => then_N (s12_16 (R := R) (Q := (thenE (W12 k12_5 Q) Q)) hN hR e w h)
  exact rgA 5 (fun e w => m12_16 R (e 1) (e 5) (e 7) (e 45) w) h hN
theorem s12_18 {R : VP} {Q : EQ} (hN : ∀ e w, (m12_4 R (e 1) (e 5) (e 7) w) → Q .normal e w) (hR : ∀ e w, (R (e 4) w) → Q .ret e w) (e : Env) (w : World) (h : m12_18 R (e 1) (e 5) (e 7) (e 43) w) : W12 k12_18 Q e w := by
  unfold m12_18 at h
  refine coA (Operand.tmp 43) h (fun h1 => ?_) (fun h1 => ?_)
  · refine seA ?_
    have hN : ∀ e w, (m12_19 R (e 4) w) → (thenE (W12 k12_19 Q) Q) .normal e w := fun e w h => then_N (s12_19 (R := R) (Q := Q) hR e w h)
    exact rgA 4 (fun e w => m12_19 R (e 4) w) h1 hN
  · exact skA (hN _ _ h1)
theorem s12_3 {R : VP} {Q : EQ} (hR : ∀ e w, (R (e 4) w) → Q .ret e w) (e : Env) (w : World) (h : m12_3 R (e 1) (e 5) (e 6) (e 7) (e 8) w) : W12 k12_3 Q e w := by
  unfold m12_3 at h
  refine seA ?_
  have hN : ∀ e w, (m12_4 R (e 1) (e 5) (e 7) w) → (thenE (W12 k12_4 Q) Q) .normal e w := fun e w h => then_N (s12_4 (R := R) (Q := Q) hR e w h)
  have hR : ∀ e w, (R (e 4) w) → (thenE (W12 k12_4 Q) Q) .ret e w := fun e w h => then_R (hR e w h)
  refine seA ?_
  have hN : ∀ e w, (m12_18 R (e 1) (e 5) (e 7) (e 43) w) → (thenE (W12 k12_18 (thenE (W12 k12_4 Q) Q)) (thenE (W12 k12_4 Q) Q)) .normal e w := fun e w h => then_N (s12_18 (R := R) (Q := (thenE (W12 k12_4 Q) Q)) hN hR e w h)
  exact rgA 3 (fun e w => m12_18 R (e 1) (e 5) (e 7) (e 43) w) h hN
theorem s12_2 {R : VP} {Q : EQ} (hR : ∀ e w, (R (e 4) w) → Q .ret e w) (e : Env) (w : World) (h : m12_2 R (e 1) (e 2) (e 5) (e 6) w) : W12 k12_2 Q e w := by
  unfold m12_2 at h
  refine seA ?_
  have hN : ∀ e w, (m12_3 R (e 1) (e 5) (e 6) (e 7) (e 8) w) → (thenE (W12 k12_3 Q) Q) .normal e w := fun e w h => then_N (s12_3 (R := R) (Q := Q) hR e w h)
  exact rgA 2 (fun e w => m12_3 R (e 1) (e 5) (e 6) (e 7) (e 8) w) h hN
theorem s12_1 {R : VP} {Q : EQ} (hR : ∀ e w, (R (e 4) w) → Q .ret e w) (e : Env) (w : World) (h : m12_1 R (e 1) (e 2) w) : W12 k12_1 Q e w := by
  unfold m12_1 at h
  refine seA ?_
  have hN : ∀ e w, (m12_2 R (e 1) (e 2) (e 5) (e 6) w) → (thenE (W12 k12_2 Q) Q) .normal e w := fun e w h => then_N (s12_2 (R := R) (Q := Q) hR e w h)
  exact rgA 1 (fun e w => m12_2 R (e 1) (e 2) (e 5) (e 6) w) h hN
theorem s12_0 {R : VP} {Q : EQ} (hR : ∀ e w, (R (e 4) w) → Q .ret e w) (e : Env) (w : World) (h : m12_0 R (e 0) (e 1) w) : W12 k12_0 Q e w := by
  unfold m12_0 at h
  refine seA ?_
  have hN : ∀ e w, (m12_1 R (e 1) (e 2) w) → (thenE (W12 k12_1 Q) Q) .normal e w := fun e w h => then_N (s12_1 (R := R) (Q := Q) hR e w h)
  exact rgA 0 (fun e w => m12_1 R (e 1) (e 2) w) h hN
abbrev m12 (R : VP) (x0 l1 : Value) (w : World) : Prop := m12_0 R x0 l1 w
theorem s12 (x0 l1 : Value) {R : VP} {w : World} (h : m12 R x0 l1 w) :
    Calls Try.prog 12 #[x0, l1] w fun e w' => ∃ v, e = .returned v ∧ R v w' :=
  calls_of_cwp (st := (fun i => 0)) (c := k12_0) (by kernel_rfl) Try.func12 (by kernel_rfl) (Nat.le_of_ble_eq_true (by kernel_rfl)) (by kernel_rfl)
    (s12_0 (R := R) (Q := endE Try.prog Try.f12 R) (fun e w h => kcast (by kernel_rfl) h) (argsE #[x0, l1]) w (kcast (by kernel_rfl) h))
end Go.Proofs.Ytjjmlopmemmobaa.M
