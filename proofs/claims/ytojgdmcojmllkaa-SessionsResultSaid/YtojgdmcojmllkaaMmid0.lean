/- What functions' texts ask of their ends, told over values that have names; printed by a program of this work. -/
import Derived.Test.YtojgdmcojmllkaaFw
import Derived.Test.YtojgdmcojmllkaaProg
namespace Go.Proofs.Ytojgdmcojmllkaa.M
open Go.Proofs.Ytojgdmcojmllkaa.F
set_option linter.unusedVariables false
set_option maxRecDepth 100000
/-! ### headgate/sessions.Check -/
def m15_12 (R : VP) (K1 : (Value × Value) → World → Prop) (g2 f3 ok5 i6 : Value) (w : World) : Prop :=
  valP Try.prog (Instr.loadAt 3 i6) w fun t43 w =>
  valP Try.prog (binS BinOp.add 3 (Operand.tmp 43) (Operand.const (Value.int IntKind.i64 1)) t43 (Value.int IntKind.i64 1)) w fun t44 w =>
  unitP Try.prog (Instr.storeAt 3 i6 t44) w fun _ w =>
  K1 (ok5, i6) w
def m15_13 (R : VP) (K1 : (Value × Value) → World → Prop) (g2 f3 ok5 t83 : Value) (w : World) : Prop :=
  valP Try.prog (Instr.alloc 3 true (.tuple #[])) w fun i6 w =>
  unitP Try.prog (Instr.storeAt 3 i6 t83) w fun _ w =>
  m15_12 R K1 g2 f3 ok5 i6 w
def m15_11 (R : VP) (K1 : (Value × Value) → World → Prop) (g2 f3 ok5 i6 : Value) (w : World) : Prop :=
  valP Try.prog (Instr.loadAt 3 i6) w fun t83 w =>
  m15_13 R K1 g2 f3 ok5 t83 w
def m15_14 (R : VP) (K1 : (Value × Value) → World → Prop) (g2 f3 ok5 i6 : Value) (w : World) : Prop :=
  condP ok5
  (valP Try.prog (Instr.fieldAt 26 f3 2) w fun t75 w =>
  valP Try.prog (Instr.loadAt 24 t75) w fun t76 w =>
  valP Try.prog (Instr.loadAt 3 i6) w fun t77 w =>
  valP Try.prog (Instr.sliceAt 24 t76 none (some t77) none) w fun t78 w =>
  valP Try.prog (Instr.makeFunc (Fn.func 36) #[] #[g2, f3, i6]) w fun t79 w =>
  callP Try.prog (fnV 35) #[t78, t79] w fun t80 w =>
  valP Try.prog (Op.unary UnOp.not t80) w fun t81 w =>
  pickP ok5 t81 (Value.bool false) fun t82 =>
  m15_11 R K1 g2 f3 t82 i6 w)
  (pickP ok5 undef (Value.bool false) fun t82 =>
  m15_11 R K1 g2 f3 t82 i6 w)
def m15_10 (R : VP) (K1 : (Value × Value) → World → Prop) (g2 f3 i6 : Value) (w : World) : Prop :=
  anyDraw w fun w =>
  heldP w fun J =>
  valJ Try.prog J (Instr.loadAt 23 g2) fun t45 =>
  valJ Try.prog J (Instr.fieldAt 26 f3 2) fun t46 =>
  valJ Try.prog J (Instr.loadAt 24 t46) fun t47 =>
  valJ Try.prog J (Instr.loadAt 3 i6) fun t48 =>
  valJ Try.prog J (Instr.indexAt 24 t47 t48) fun t49 =>
  valJ Try.prog J (Instr.loadAt 33 t49) fun t50 =>
  valJ Try.prog J (Instr.fieldAt 26 f3 0) fun t51 =>
  valJ Try.prog J (Instr.loadAt 3 t51) fun t52 =>
  callP Try.prog (fnV 33) #[t45, t50, t52] w fun t53 w =>
  stayP J w
  (condP t53
  (valJ Try.prog J (Instr.loadAt 3 i6) fun t55 =>
  valJ Try.prog J (binS BinOp.eql 3 (Operand.tmp 55) (Operand.const (Value.int IntKind.i64 0)) t55 (Value.int IntKind.i64 0)) fun t56 =>
  condP t56
  (pickP t56 (Value.bool true) undef fun t71 =>
  pickP t53 t71 (Value.bool false) fun t72 =>
  m15_14 R K1 g2 f3 t72 i6 w)
  (valJ Try.prog J (Instr.fieldAt 26 f3 2) fun t58 =>
  valJ Try.prog J (Instr.loadAt 24 t58) fun t59 =>
  valJ Try.prog J (Instr.loadAt 3 i6) fun t60 =>
  valJ Try.prog J (binS BinOp.sub 3 (Operand.tmp 60) (Operand.const (Value.int IntKind.i64 1)) t60 (Value.int IntKind.i64 1)) fun t61 =>
  valJ Try.prog J (Instr.indexAt 24 t59 t61) fun t62 =>
  valJ Try.prog J (Instr.loadAt 33 t62) fun t63 =>
  valJ Try.prog J (Instr.fieldAt 26 f3 2) fun t64 =>
  valJ Try.prog J (Instr.loadAt 24 t64) fun t65 =>
  valJ Try.prog J (Instr.loadAt 3 i6) fun t66 =>
  valJ Try.prog J (Instr.indexAt 24 t65 t66) fun t67 =>
  valJ Try.prog J (Instr.loadAt 33 t67) fun t68 =>
  callP Try.prog (fnV 34) #[t63, t68] w fun t69 w =>
  stayP J w
  (valJ Try.prog J (binS BinOp.lss 3 (Operand.tmp 69) (Operand.const (Value.int IntKind.i64 0)) t69 (Value.int IntKind.i64 0)) fun t70 =>
  pickP t56 (Value.bool true) t70 fun t71 =>
  pickP t53 t71 (Value.bool false) fun t72 =>
  m15_14 R K1 g2 f3 t72 i6 w)))
  (pickP t53 undef (Value.bool false) fun t72 =>
  m15_14 R K1 g2 f3 t72 i6 w))
def m15_7 (R : VP) (t4 : Value) (w : World) : Prop :=
  R t4 w
def m15_5 (R : VP) (t4 : Value) (w : World) : Prop :=
  R t4 w
def m15_4 (R : VP) (w : World) : Prop :=
  m15_5 R (Value.int IntKind.i64 0) w
def m15_6 (R : VP) (t85 : Value) (w : World) : Prop :=
  condP t85
  (m15_7 R (Value.int IntKind.i64 1) w)
  (m15_4 R w)
def m15_3 (R : VP) (ok5 : Value) (w : World) : Prop :=
  valP Try.prog (Op.unary UnOp.not ok5) w fun t85 w =>
  m15_6 R t85 w
def m15_15 (R : VP) (K1 : (Value × Value) → World → Prop) (g2 f3 ok5 i6 t42 : Value) (w : World) : Prop :=
  condP t42
  (m15_10 R K1 g2 f3 i6 w)
  (m15_3 R ok5 w)
def m15_9 (R : VP) (K1 : (Value × Value) → World → Prop) (g2 f3 ok5 i6 : Value) (w : World) : Prop :=
  condP ok5
  (valP Try.prog (Instr.loadAt 3 i6) w fun t37 w =>
  valP Try.prog (Instr.fieldAt 26 f3 2) w fun t38 w =>
  valP Try.prog (Instr.loadAt 24 t38) w fun t39 w =>
  builtinP Try.prog Builtin.len #[24] 3 #[false] #[t39] w fun t40 w =>
  valP Try.prog (binS BinOp.lss 3 (Operand.tmp 37) (Operand.tmp 40) t37 t40) w fun t41 w =>
  pickP ok5 t41 (Value.bool false) fun t42 =>
  m15_15 R K1 g2 f3 ok5 i6 t42 w)
  (pickP ok5 undef (Value.bool false) fun t42 =>
  m15_15 R K1 g2 f3 ok5 i6 t42 w)
def m15_8 (R : VP) (g2 f3 ok5 i6 : Value) (w : World) : Prop :=
  loopP (fun (K1 : (Value × Value) → World → Prop) (s : Value × Value) w => m15_9 R K1 g2 f3 s.1 s.2 w) (ok5, i6) w
def m15_2 (R : VP) (g2 f3 ok5 : Value) (w : World) : Prop :=
  valP Try.prog (Instr.alloc 3 true (.tuple #[])) w fun i6 w =>
  unitP Try.prog (Instr.storeAt 3 i6 (Value.int IntKind.i64 0)) w fun _ w =>
  m15_8 R g2 f3 ok5 i6 w
def m15_1 (R : VP) (g2 f3 : Value) (w : World) : Prop :=
  valP Try.prog (Instr.loadAt 23 g2) w fun t7 w =>
  callP Try.prog (fnV 32) #[t7] w fun t8 w =>
  condP t8
  (valP Try.prog (Instr.fieldAt 26 f3 0) w fun t10 w =>
  valP Try.prog (Instr.loadAt 3 t10) w fun t11 w =>
  valP Try.prog (binS BinOp.geq 3 (Operand.tmp 11) (Operand.const (Value.int IntKind.i64 (-1))) t11 (Value.int IntKind.i64 (-1))) w fun t12 w =>
  pickP t8 t12 (Value.bool false) fun t13 =>
  condP t13
  (valP Try.prog (Instr.fieldAt 26 f3 0) w fun t15 w =>
  valP Try.prog (Instr.loadAt 3 t15) w fun t16 w =>
  valP Try.prog (binS BinOp.leq 3 (Operand.tmp 16) (Operand.const (Value.int IntKind.i64 1099511627776)) t16 (Value.int IntKind.i64 1099511627776)) w fun t17 w =>
  pickP t13 t17 (Value.bool false) fun t18 =>
  condP t18
  (valP Try.prog (Instr.fieldAt 26 f3 1) w fun t20 w =>
  valP Try.prog (Instr.loadAt 3 t20) w fun t21 w =>
  valP Try.prog (binS BinOp.geq 3 (Operand.tmp 21) (Operand.const (Value.int IntKind.i64 0)) t21 (Value.int IntKind.i64 0)) w fun t22 w =>
  pickP t18 t22 (Value.bool false) fun t23 =>
  condP t23
  (valP Try.prog (Instr.fieldAt 26 f3 1) w fun t25 w =>
  valP Try.prog (Instr.loadAt 3 t25) w fun t26 w =>
  valP Try.prog (binS BinOp.leq 3 (Operand.tmp 26) (Operand.const (Value.int IntKind.i64 1099511627776)) t26 (Value.int IntKind.i64 1099511627776)) w fun t27 w =>
  pickP t23 t27 (Value.bool false) fun t28 =>
  condP t28
  (valP Try.prog (Instr.fieldAt 26 f3 2) w fun t30 w =>
  valP Try.prog (Instr.loadAt 24 t30) w fun t31 w =>
  builtinP Try.prog Builtin.len #[24] 3 #[false] #[t31] w fun t32 w =>
  valP Try.prog (binS BinOp.leq 3 (Operand.tmp 32) (Operand.const (Value.int IntKind.i64 64)) t32 (Value.int IntKind.i64 64)) w fun t33 w =>
  pickP t28 t33 (Value.bool false) fun t34 =>
  m15_2 R g2 f3 t34 w)
  (pickP t28 undef (Value.bool false) fun t34 =>
  m15_2 R g2 f3 t34 w))
  (pickP t23 undef (Value.bool false) fun t28 =>
  pickP t28 undef (Value.bool false) fun t34 =>
  m15_2 R g2 f3 t34 w))
  (pickP t18 undef (Value.bool false) fun t23 =>
  pickP t23 undef (Value.bool false) fun t28 =>
  pickP t28 undef (Value.bool false) fun t34 =>
  m15_2 R g2 f3 t34 w))
  (pickP t13 undef (Value.bool false) fun t18 =>
  pickP t18 undef (Value.bool false) fun t23 =>
  pickP t23 undef (Value.bool false) fun t28 =>
  pickP t28 undef (Value.bool false) fun t34 =>
  m15_2 R g2 f3 t34 w))
  (pickP t8 undef (Value.bool false) fun t13 =>
  pickP t13 undef (Value.bool false) fun t18 =>
  pickP t18 undef (Value.bool false) fun t23 =>
  pickP t23 undef (Value.bool false) fun t28 =>
  pickP t28 undef (Value.bool false) fun t34 =>
  m15_2 R g2 f3 t34 w)
def m15_0 (R : VP) (g0 f1 : Value) (w : World) : Prop :=
  valP Try.prog (Instr.box 23 g0) w fun g2 w =>
  valP Try.prog (Instr.box 26 f1) w fun f3 w =>
  m15_1 R g2 f3 w
abbrev W15 := cwp Try.prog (fun i => 0)
noncomputable def k15_0 : Code := (bodyOf Try.f15)
noncomputable def k15_1 : Code := (c2 k15_0)
noncomputable def k15_2 : Code := (c2 k15_1)
noncomputable def k15_3 : Code := (c2 k15_2)
noncomputable def k15_4 : Code := (c2 k15_3)
noncomputable def k15_5 : Code := (c2 k15_4)
noncomputable def k15_6 : Code := (c2 (c1 k15_3))
noncomputable def k15_7 : Code := (c2 (c1 k15_6))
noncomputable def k15_8 : Code := (c2 (c1 k15_2))
noncomputable def k15_9 : Code := (c1 (c1 k15_8))
noncomputable def k15_10 : Code := (c2 k15_9)
noncomputable def k15_11 : Code := (c2 k15_10)
noncomputable def k15_12 : Code := (c2 k15_11)
noncomputable def k15_13 : Code := (c2 (c1 k15_11))
noncomputable def k15_14 : Code := (c2 (c1 (c1 k15_10)))
noncomputable def k15_15 : Code := (c2 (c1 k15_9))
theorem s15_12 {R : VP} {K1 : (Value × Value) → World → Prop} {Q : EQ} (hN : ∀ e w, (K1 ((e 5), (e 6)) w) → Q .normal e w) (e : Env) (w : World) (h : m15_12 R K1 (e 2) (e 3) (e 5) (e 6) w) : W15 k15_12 Q e w := by
  unfold m15_12 at h
  exact rgA 4 (fun e w => K1 ((e 5), (e 6)) w) h hN
theorem s15_13 {R : VP} {K1 : (Value × Value) → World → Prop} {Q : EQ} (hN : ∀ e w, (m15_12 R K1 (e 2) (e 3) (e 5) (e 6) w) → Q .normal e w) (e : Env) (w : World) (h : m15_13 R K1 (e 2) (e 3) (e 5) (e 83) w) : W15 k15_13 Q e w := by
  unfold m15_13 at h
  exact rgA 8 (fun e w => m15_12 R K1 (e 2) (e 3) (e 5) (e 6) w) h hN
theorem s15_11 {R : VP} {K1 : (Value × Value) → World → Prop} {Q : EQ} (hN : ∀ e w, (K1 ((e 5), (e 6)) w) → Q .normal e w) (e : Env) (w : World) (h : m15_11 R K1 (e 2) (e 3) (e 5) (e 6) w) : W15 k15_11 Q e w := by
  unfold m15_11 at h
  refine seA ?_
  have hN : ∀ e w, (m15_12 R K1 (e 2) (e 3) (e 5) (e 6) w) → (thenE (W15 k15_12 Q) Q) .normal e w := fun e w h => then_N (s15_12 (R := R) (Q := Q) (K1 := K1) hN e w h)
  refine seA ?_
  have hN : ∀ e w, (m15_13 R K1 (e 2) (e 3) (e 5) (e 83) w) → (thenE (W15 k15_13 (thenE (W15 k15_12 Q) Q)) (thenE (W15 k15_12 Q) Q)) .normal e w := fun e w h => then_N (s15_13 (R := R) (Q := (thenE (W15 k15_12 Q) Q)) (K1 := K1) hN e w h)
  exact rgA 7 (fun e w => m15_13 R K1 (e 2) (e 3) (e 5) (e 83) w) h hN
theorem s15_14 {R : VP} {K1 : (Value × Value) → World → Prop} {Q : EQ} (hN : ∀ e w, (m15_11 R K1 (e 2) (e 3) (e 5) (e 6) w) → Q .normal e w) (e : Env) (w : World) (h : m15_14 R K1 (e 2) (e 3) (e 5) (e 6) w) : W15 k15_14 Q e w := by
  unfold m15_14 at h
  exact rgA 6 (fun e w => m15_11 R K1 (e 2) (e 3) (e 5) (e 6) w) h hN
theorem s15_10 {R : VP} {K1 : (Value × Value) → World → Prop} {Q : EQ} (hN : ∀ e w, (K1 ((e 5), (e 6)) w) → Q .normal e w) (e : Env) (w : World) (h : m15_10 R K1 (e 2) (e 3) (e 6) w) : W15 k15_10 Q e w := by
  unfold m15_10 at h
  refine seA ?_
  have hN : ∀ e w, (m15_11 R K1 (e 2) (e 3) (e 5) (e 6) w) → (thenE (W15 k15_11 Q) Q) .normal e w := fun e w h => then_N (s15_11 (R := R) (Q := Q) (K1 := K1) hN e w h)
  refine block_ok 1 (by kernel_rfl) ?_
  have hN : ∀ e w, (m15_11 R K1 (e 2) (e 3) (e 5) (e 6) w) → (inBlockE 1 (thenE (W15 k15_11 Q) Q)) .normal e w := fun e w h => block_N (hN e w h)
  refine seA ?_
  have hN : ∀ e w, (m15_14 R K1 (e 2) (e 3) (e 5) (e 6) w) → (thenE (W15 k15_14 (inBlockE 1 (thenE (W15 k15_11 Q) Q))) (inBlockE 1 (thenE (W15 k15_11 Q) Q))) .normal e w := fun e w h => then_N (s15_14 (R := R) (Q := (inBlockE 1 (thenE (W15 k15_11 Q) Q))) (K1 := K1) hN e w h)
  exact treeJ_ok 5 29 [false, false, false, false, false, false, false, false, false, false, false, false, false, false, false, false, false, false, false, false, false, false, false, false, false, false, false, false, false] (.take 0 [true, false, false, false, false, false, false, false, false, false, false, false, false, false, false, false, false, false, false, false, false, false, false, false, false, false, false, false, false] (.take 1 [true, true, false, false, false, false, false, false, false, false, false, false, false, false, false, false, false, false, false, false, false, false, false, false, false, false, false, false, false] (.take 2 [true, true, true, false, false, false, false, false, false, false, false, false, false, false, false, false, false, false, false, false, false, false, false, false, false, false, false, false, false] (.take 3 [true, true, true, true, false, false, false, false, false, false, false, false, false, false, false, false, false, false, false, false, false, false, false, false, false, false, false, false, false] (.take 4 [true, true, true, true, true, false, false, false, false, false, false, false, false, false, false, false, false, false, false, false, false, false, false, false, false, false, false, false, false] (.take 5 [true, true, true, true, true, true, false, false, false, false, false, false, false, false, false, false, false, false, false, false, false, false, false, false, false, false, false, false, false] (.take 6 [true, true, true, true, true, true, true, false, false, false, false, false, false, false, false, false, false, false, false, false, false, false, false, false, false, false, false, false, false] (.take 7 [true, true, true, true, true, true, true, true, false, false, false, false, false, false, false, false, false, false, false, false, false, false, false, false, false, false, false, false, false] (.alt 8 [true, true, true, true, true, true, true, true, true, false, false, false, false, false, false, false, false, false, false, false, false, false, false, false, false, false, false, false, false] (.take 9 [true, true, true, true, true, true, true, true, true, true, false, false, false, false, false, false, false, false, false, false, false, false, false, false, false, false, false, false, false] (.take 10 [true, true, true, true, true, true, true, true, true, true, true, false, false, false, false, false, false, false, false, false, false, false, false, false, false, false, false, false, false] (.take 11 [true, true, true, true, true, true, true, true, true, true, true, true, false, false, false, false, false, false, false, false, false, false, false, false, false, false, false, false, false] (.take 12 [true, true, true, true, true, true, true, true, true, true, true, true, true, false, false, false, false, false, false, false, false, false, false, false, false, false, false, false, false] (.take 13 [true, true, true, true, true, true, true, true, true, true, true, true, true, true, false, false, false, false, false, false, false, false, false, false, false, false, false, false, false] (.take 14 [true, true, true, true, true, true, true, true, true, true, true, true, true, true, true, false, false, false, false, false, false, false, false, false, false, false, false, false, false] (.take 15 [true, true, true, true, true, true, true, true, true, true, true, true, true, true, true, true, false, false, false, false, false, false, false, false, false, false, false, false, false] (.take 16 [true, true, true, true, true, true, true, true, true, true, true, true, true, true, true, true, true, false, false, false, false, false, false, false, false, false, false, false, false] (.take 17 [true, true, true, true, true, true, true, true, true, true, true, true, true, true, true, true, true, true, false, false, false, false, false, false, false, false, false, false, false] (.take 18 [true, true, true, true, true, true, true, true, true, true, true, true, true, true, true, true, true, true, true, false, false, false, false, false, false, false, false, false, false] (.take 19 [true, true, true, true, true, true, true, true, true, true, true, true, true, true, true, true, true, true, true, true, false, false, false, false, false, false, false, false, false] (.take 20 [true, true, true, true, true, true, true, true, true, true, true, true, true, true, true, true, true, true, true, true, true, false, false, false, false, false, false, false, false] (.take 21 [true, true, true, true, true, true, true, true, true, true, true, true, true, true, true, true, true, true, true, true, true, true, false, false, false, false, false, false, false] (.take 22 [true, true, true, true, true, true, true, true, true, true, true, true, true, true, true, true, true, true, true, true, true, true, true, false, false, false, false, false, false] (.take 23 [true, true, true, true, true, true, true, true, true, true, true, true, true, true, true, true, true, true, true, true, true, true, true, true, false, false, false, false, false] (.alt 24 [true, true, true, true, true, true, true, true, true, true, true, true, true, true, true, true, true, true, true, true, true, true, true, true, true, false, false, false, false] (.take 25 [true, true, true, true, true, true, true, true, true, true, true, true, true, true, true, true, true, true, true, true, true, true, true, true, true, true, false, false, false] (.take 26 [true, true, true, true, true, true, true, true, true, true, true, true, true, true, true, true, true, true, true, true, true, true, true, true, true, true, true, false, false] (.take 27 [true, true, true, true, true, true, true, true, true, true, true, true, true, true, true, true, true, true, true, true, true, true, true, true, true, true, true, true, false] (.take 28 [true, true, true, true, true, true, true, true, true, true, true, true, true, true, true, true, true, true, true, true, true, true, true, true, true, true, true, true, true] .done)))) .stop)))))))))))))))) .stop))))))))) (fun e w => m15_14 R K1 (e 2) (e 3) (e 5) (e 6) w) (by kernel_rfl) (by kernel_rfl) (by kernel_rfl) (by kernel_rfl) (by kernel_rfl) (by kernel_rfl) (kcast (by kernel_rfl) h) hN (by kernel_rfl)
theorem s15_7 {R : VP} {Q : EQ} (hR : ∀ e w, (R (e 4) w) → Q .ret e w) (e : Env) (w : World) (h : m15_7 R (e 4) w) : W15 k15_7 Q e w := by
  unfold m15_7 at h
  exact reA (hR _ _ h)
theorem s15_5 {R : VP} {Q : EQ} (hR : ∀ e w, (R (e 4) w) → Q .ret e w) (e : Env) (w : World) (h : m15_5 R (e 4) w) : W15 k15_5 Q e w := by
  unfold m15_5 at h
  exact reA (hR _ _ h)
theorem s15_4 {R : VP} {Q : EQ} (hR : ∀ e w, (R (e 4) w) → Q .ret e w) (e : Env) (w : World) (h : m15_4 R w) : W15 k15_4 Q e w := by
  unfold m15_4 at h
  refine seA ?_
  have hN : ∀ e w, (m15_5 R (e 4) w) → (thenE (W15 k15_5 Q) Q) .normal e w := fun e w h => then_N (s15_5 (R := R) (Q := Q) hR e w h)
  exact rgA 11 (fun e w => m15_5 R (e 4) w) h hN
theorem s15_6 {R : VP} {Q : EQ} (hN : ∀ e w, (m15_4 R w) → Q .normal e w) (hR : ∀ e w, (R (e 4) w) → Q .ret e w) (e : Env) (w : World) (h : m15_6 R (e 85) w) : W15 k15_6 Q e w := by
  unfold m15_6 at h
  refine coA (Operand.tmp 85) h (fun h1 => ?_) (fun h1 => ?_)
  · refine seA ?_
    have hN : ∀ e w, (m15_7 R (e 4) w) → (thenE (W15 k15_7 Q) Q) .normal e w := fun e w h => then_N (s15_7 (R := R) (Q := Q) hR e w h)
    exact rgA 10 (fun e w => m15_7 R (e 4) w) h1 hN
  · exact skA (hN _ _ h1)
theorem s15_3 {R : VP} {Q : EQ} (hR : ∀ e w, (R (e 4) w) → Q .ret e w) (e : Env) (w : World) (h : m15_3 R (e 5) w) : W15 k15_3 Q e w := by
  unfold m15_3 at h
  refine seA ?_
  have hN : ∀ e w, (m15_4 R w) → (thenE (W15 k15_4 Q) Q) .normal e w := fun e w h => then_N (s15_4 (R := R) (Q := Q) hR e w h)
  have hR : ∀ e w, (R (e 4) w) → (thenE (W15 k15_4 Q) Q) .ret e w := fun e w h => then_R (hR e w h)
  refine seA ?_
  have hN : ∀ e w, (m15_6 R (e 85) w) → (thenE (W15 k15_6 (thenE (W15 k15_4 Q) Q)) (thenE (W15 k15_4 Q) Q)) .normal e w := fun e w h => then_N (s15_6 (R := R) (Q := (thenE (W15 k15_4 Q) Q)) hN hR e w h)
  exact rgA 9 (fun e w => m15_6 R (e 85) w) h hN
theorem s15_15 {R : VP} {K1 : (Value × Value) → World → Prop} {Q : EQ} (hN : ∀ e w, (m15_10 R K1 (e 2) (e 3) (e 6) w) → Q .normal e w) (hX0 : ∀ e w, (m15_3 R (e 5) w) → Q (.exit 0) e w) (e : Env) (w : World) (h : m15_15 R K1 (e 2) (e 3) (e 5) (e 6) (e 42) w) : W15 k15_15 Q e w := by
  unfold m15_15 at h
  refine coA (Operand.tmp 42) h (fun h1 => ?_) (fun h1 => ?_)
  · exact skA (hN _ _ h1)
  · exact exA 0 (hX0 _ _ h1)
theorem s15_9 {R : VP} {K1 : (Value × Value) → World → Prop} {Q : EQ} (hN : ∀ e w, (K1 ((e 5), (e 6)) w) → Q .normal e w) (hX0 : ∀ e w, (m15_3 R (e 5) w) → Q (.exit 0) e w) (e : Env) (w : World) (h : m15_9 R K1 (e 2) (e 3) (e 5) (e 6) w) : W15 k15_9 Q e w := by
  unfold m15_9 at h
  refine seA ?_
  have hN : ∀ e w, (m15_10 R K1 (e 2) (e 3) (e 6) w) → (thenE (W15 k15_10 Q) Q) .normal e w := fun e w h => then_N (s15_10 (R := R) (Q := Q) (K1 := K1) hN e w h)
  have hX0 : ∀ e w, (m15_3 R (e 5) w) → (thenE (W15 k15_10 Q) Q) (.exit 0) e w := fun e w h => then_X (hX0 e w h)
  refine seA ?_
  have hN : ∀ e w, (m15_15 R K1 (e 2) (e 3) (e 5) (e 6) (e 42) w) → (thenE (W15 k15_15 (thenE (W15 k15_10 Q) Q)) (thenE (W15 k15_10 Q) Q)) .normal e w := fun e w h => then_N (s15_15 (R := R) (Q := (thenE (W15 k15_10 Q) Q)) (K1 := K1) hN hX0 e w h)
  exact rgA 3 (fun e w => m15_15 R K1 (e 2) (e 3) (e 5) (e 6) (e 42) w) h hN
theorem s15_8 {R : VP} {Q : EQ} (hN : ∀ e w, (m15_3 R (e 5) w) → Q .normal e w) (e : Env) (w : World) (h : m15_8 R (e 2) (e 3) (e 5) (e 6) w) : W15 k15_8 Q e w := by
  unfold m15_8 at h
  refine block_ok 0 (by kernel_rfl) ?_
  have hX0 : ∀ e w, (m15_3 R (e 5) w) → (inBlockE 0 Q) (.exit 0) e w := fun e w h => inBlock_same (Q := Q) 0 (hN e w h)
  refine loop_ok' (fun (e : Env) => (e 5, e 6)) [2, 3] (by kernel_rfl) (by kernel_rfl) h (fun K e' w' hk h' => ?_)
  have r2 : e' 2 = e 2 := hk 2 (by decide)
  have r3 : e' 3 = e 3 := hk 3 (by decide)
  have hX0 : ∀ e w, (m15_3 R (e 5) w) → (thenE (fun (e : Env) w => K ((e 5), (e 6)) w) (inBlockE 0 Q)) (.exit 0) e w := fun e w h => then_X (hX0 e w h)
  exact s15_9 (R := R) (Q := (thenE (fun (e : Env) w => K ((e 5), (e 6)) w) (inBlockE 0 Q))) (K1 := K) (fun _ _ h => then_N h) hX0 e' w' (by rw [r2, r3]; exact h')
theorem s15_2 {R : VP} {Q : EQ} (hR : ∀ e w, (R (e 4) w) → Q .ret e w) (e : Env) (w : World) (h : m15_2 R (e 2) (e 3) (e 5) w) : W15 k15_2 Q e w := by
  unfold m15_2 at h
  refine seA ?_
  have hN : ∀ e w, (m15_3 R (e 5) w) → (thenE (W15 k15_3 Q) Q) .normal e w := fun e w h => then_N (s15_3 (R := R) (Q := Q) hR e w h)
  refine seA ?_
  have hN : ∀ e w, (m15_8 R (e 2) (e 3) (e 5) (e 6) w) → (thenE (W15 k15_8 (thenE (W15 k15_3 Q) Q)) (thenE (W15 k15_3 Q) Q)) .normal e w := fun e w h => then_N (s15_8 (R := R) (Q := (thenE (W15 k15_3 Q) Q)) hN e w h)
  exact rgA 2 (fun e w => m15_8 R (e 2) (e 3) (e 5) (e 6) w) h hN
theorem s15_1 {R : VP} {Q : EQ} (hR : ∀ e w, (R (e 4) w) → Q .ret e w) (e : Env) (w : World) (h : m15_1 R (e 2) (e 3) w) : W15 k15_1 Q e w := by
  unfold m15_1 at h
  refine seA ?_
  have hN : ∀ e w, (m15_2 R (e 2) (e 3) (e 5) w) → (thenE (W15 k15_2 Q) Q) .normal e w := fun e w h => then_N (s15_2 (R := R) (Q := Q) hR e w h)
  exact rgK 1 (fun e w => m15_2 R (e 2) (e 3) (e 5) w) h hN
theorem s15_0 {R : VP} {Q : EQ} (hR : ∀ e w, (R (e 4) w) → Q .ret e w) (e : Env) (w : World) (h : m15_0 R (e 0) (e 1) w) : W15 k15_0 Q e w := by
  unfold m15_0 at h
  refine seA ?_
  have hN : ∀ e w, (m15_1 R (e 2) (e 3) w) → (thenE (W15 k15_1 Q) Q) .normal e w := fun e w h => then_N (s15_1 (R := R) (Q := Q) hR e w h)
  exact rgA 0 (fun e w => m15_1 R (e 2) (e 3) w) h hN
abbrev m15 (R : VP) (g0 f1 : Value) (w : World) : Prop := m15_0 R g0 f1 w
theorem s15 (g0 f1 : Value) {R : VP} {w : World} (h : m15 R g0 f1 w) :
    Calls Try.prog 15 #[g0, f1] w fun e w' => ∃ v, e = .returned v ∧ R v w' :=
  calls_of_cwp (st := (fun i => 0)) (c := k15_0) (by kernel_rfl) Try.func15 (by kernel_rfl) (Nat.le_of_ble_eq_true (by kernel_rfl)) (by kernel_rfl)
    (s15_0 (R := R) (Q := endE Try.prog Try.f15 R) (fun e w h => kcast (by kernel_rfl) h) (argsE #[g0, f1]) w (kcast (by kernel_rfl) h))
/-! ### headgate/sessions.join -/
def m25_13 (R : VP) (K1 : (Value × Value) → World → Prop) (key2 g4 e7 one10 rest11 t18 t19 t20 : Value) (w : World) : Prop :=
  valP Try.prog (binS BinOp.add 3 (Operand.tmp 20) (Operand.const (Value.int IntKind.i64 1)) t20 (Value.int IntKind.i64 1)) w fun t41 w =>
  K1 (rest11, t41) w
def m25_15 (R : VP) (K1 : (Value × Value) → World → Prop) (key2 g4 e7 one10 rest11 s13 t18 t19 t20 t30 : Value) (w : World) : Prop :=
  condP t30
  (valP Try.prog (Instr.fieldAt 33 one10 1) w fun t31 w =>
  valP Try.prog (Instr.loadAt 31 t31) w fun t32 w =>
  valP Try.prog (Instr.fieldAt 33 s13 1) w fun t33 w =>
  valP Try.prog (Instr.loadAt 31 t33) w fun t34 w =>
  builtinP Try.prog Builtin.append #[31, 31] 31 #[false, false] #[t32, t34] w fun t35 w =>
  valP Try.prog (Instr.fieldAt 33 one10 1) w fun t36 w =>
  unitP Try.prog (Instr.storeAt 31 t36 t35) w fun _ w =>
  m25_13 R K1 key2 g4 e7 one10 rest11 t18 t19 t20 w)
  (valP Try.prog (Instr.loadAt 33 s13) w fun t38 w =>
  valP Try.prog (Instr.buildSlice 24 1 #[(0, t38)]) w fun t39 w =>
  builtinP Try.prog Builtin.append #[24, 24] 24 #[false, false] #[rest11, t39] w fun t40 w =>
  m25_13 R K1 key2 g4 e7 one10 t40 t18 t19 t20 w)
def m25_14 (R : VP) (K1 : (Value × Value) → World → Prop) (key2 g4 e7 one10 rest11 s13 t18 t19 t20 : Value) (w : World) : Prop :=
  valP Try.prog (Instr.loadAt 23 g4) w fun t24 w =>
  valP Try.prog (Instr.loadAt 33 s13) w fun t25 w =>
  valP Try.prog (Instr.loadAt 28 e7) w fun t27 w =>
  valP Try.prog (Instr.buildSlice 31 1 #[(0, t27)]) w fun t28 w =>
  valP Try.prog (Instr.build 33 #[(0, key2), (1, t28)]) w fun t29 w =>
  callP Try.prog (fnV 37) #[t24, t25, t29] w fun t30 w =>
  m25_15 R K1 key2 g4 e7 one10 rest11 s13 t18 t19 t20 t30 w
def m25_12 (R : VP) (K1 : (Value × Value) → World → Prop) (key2 g4 e7 one10 rest11 t18 t19 t20 : Value) (w : World) : Prop :=
  valP Try.prog (Instr.indexAt 24 t18 t20) w fun t22 w =>
  valP Try.prog (Instr.loadAt 33 t22) w fun t23 w =>
  valP Try.prog (Instr.alloc 33 true (.tuple #[])) w fun s13 w =>
  unitP Try.prog (Instr.storeAt 33 s13 t23) w fun _ w =>
  m25_14 R K1 key2 g4 e7 one10 rest11 s13 t18 t19 t20 w
def m25_8 (R : VP) (t8 t9 : Value) (w : World) : Prop :=
  R (Value.tuple #[t8, t9]) w
def m25_7 (R : VP) (one10 rest11 : Value) (w : World) : Prop :=
  valP Try.prog (Instr.fieldAt 33 one10 1) w fun t52 w =>
  valP Try.prog (Instr.loadAt 31 t52) w fun t53 w =>
  builtinP Try.prog Builtin.len #[31] 3 #[false] #[t53] w fun t54 w =>
  valP Try.prog (binS BinOp.leq 3 (Operand.tmp 54) (Operand.const (Value.int IntKind.i64 64)) t54 (Value.int IntKind.i64 64)) w fun t55 w =>
  condP t55
  (builtinP Try.prog Builtin.len #[24] 3 #[false] #[rest11] w fun t58 w =>
  valP Try.prog (binS BinOp.leq 3 (Operand.tmp 58) (Operand.const (Value.int IntKind.i64 64)) t58 (Value.int IntKind.i64 64)) w fun t59 w =>
  pickP t55 t59 (Value.bool false) fun t60 =>
  m25_8 R rest11 t60 w)
  (pickP t55 undef (Value.bool false) fun t60 =>
  m25_8 R rest11 t60 w)
def m25_6 (R : VP) (one10 rest11 : Value) (w : World) : Prop :=
  callP Try.prog (fnV 46) #[rest11, (fnV 34)] w fun t50 w =>
  m25_7 R one10 rest11 w
def m25_5 (R : VP) (one10 rest11 : Value) (w : World) : Prop :=
  valP Try.prog (Instr.loadAt 33 one10) w fun t46 w =>
  valP Try.prog (Instr.buildSlice 24 1 #[(0, t46)]) w fun t47 w =>
  builtinP Try.prog Builtin.append #[24, 24] 24 #[false, false] #[rest11, t47] w fun t48 w =>
  m25_6 R one10 t48 w
def m25_4 (R : VP) (one10 rest11 : Value) (w : World) : Prop :=
  valP Try.prog (Instr.fieldAt 33 one10 1) w fun t42 w =>
  valP Try.prog (Instr.loadAt 31 t42) w fun t43 w =>
  callP Try.prog (fnV 44) #[t43, (fnV 45)] w fun t44 w =>
  m25_5 R one10 rest11 w
def m25_11 (R : VP) (K1 : (Value × Value) → World → Prop) (key2 g4 e7 one10 rest11 t18 t19 t20 t21 : Value) (w : World) : Prop :=
  condP t21
  (m25_12 R K1 key2 g4 e7 one10 rest11 t18 t19 t20 w)
  (m25_4 R one10 rest11 w)
def m25_10 (R : VP) (K1 : (Value × Value) → World → Prop) (key2 g4 e7 one10 rest11 t18 t19 t20 : Value) (w : World) : Prop :=
  valP Try.prog (binS BinOp.lss 3 (Operand.tmp 20) (Operand.tmp 19) t20 t19) w fun t21 w =>
  m25_11 R K1 key2 g4 e7 one10 rest11 t18 t19 t20 t21 w
def m25_9 (R : VP) (key2 g4 e7 one10 rest11 t18 t19 t20 : Value) (w : World) : Prop :=
  loopP (fun (K1 : (Value × Value) → World → Prop) (s : Value × Value) w => m25_10 R K1 key2 g4 e7 one10 s.1 t18 t19 s.2 w) (rest11, t20) w
def m25_3 (R : VP) (l1 key2 g4 e7 one10 rest11 : Value) (w : World) : Prop :=
  builtinP Try.prog Builtin.len #[24] 3 #[false] #[l1] w fun t19 w =>
  m25_9 R key2 g4 e7 one10 rest11 l1 t19 (Value.int IntKind.i64 0) w
def m25_2 (R : VP) (l1 key2 g4 e7 one10 : Value) (w : World) : Prop :=
  m25_3 R l1 key2 g4 e7 one10 (Value.slice none 0 0) w
def m25_1 (R : VP) (l1 key2 g4 e7 : Value) (w : World) : Prop :=
  valP Try.prog (Instr.loadAt 28 e7) w fun t15 w =>
  valP Try.prog (Instr.buildSlice 31 1 #[(0, t15)]) w fun t16 w =>
  valP Try.prog (Instr.build 33 #[(0, key2), (1, t16)]) w fun t17 w =>
  valP Try.prog (Instr.alloc 33 true (.tuple #[])) w fun one10 w =>
  unitP Try.prog (Instr.storeAt 33 one10 t17) w fun _ w =>
  m25_2 R l1 key2 g4 e7 one10 w
def m25_0 (R : VP) (g0 l1 key2 e3 : Value) (w : World) : Prop :=
  valP Try.prog (Instr.box 23 g0) w fun g4 w =>
  valP Try.prog (Instr.box 28 e3) w fun e7 w =>
  m25_1 R l1 key2 g4 e7 w
abbrev W25 := cwp Try.prog (fun i => 0)
noncomputable def k25_0 : Code := (bodyOf Try.f25)
noncomputable def k25_1 : Code := (c2 k25_0)
noncomputable def k25_2 : Code := (c2 k25_1)
noncomputable def k25_3 : Code := (c2 k25_2)
noncomputable def k25_4 : Code := (c2 k25_3)
noncomputable def k25_5 : Code := (c2 k25_4)
noncomputable def k25_6 : Code := (c2 k25_5)
noncomputable def k25_7 : Code := (c2 k25_6)
noncomputable def k25_8 : Code := (c2 k25_7)
noncomputable def k25_9 : Code := (c2 (c1 k25_3))
noncomputable def k25_10 : Code := (c1 (c1 k25_9))
noncomputable def k25_11 : Code := (c2 k25_10)
noncomputable def k25_12 : Code := (c2 k25_11)
noncomputable def k25_13 : Code := (c2 k25_12)
noncomputable def k25_14 : Code := (c2 (c1 (c1 k25_12)))
noncomputable def k25_15 : Code := (c2 k25_14)
theorem s25_13 {R : VP} {K1 : (Value × Value) → World → Prop} {Q : EQ} (hN : ∀ e w, (K1 ((e 11), (e 20)) w) → Q .normal e w) (e : Env) (w : World) (h : m25_13 R K1 (e 2) (e 4) (e 7) (e 10) (e 11) (e 18) (e 19) (e 20) w) : W25 k25_13 Q e w := by
  unfold m25_13 at h
  exact rgA 9 (fun e w => K1 ((e 11), (e 20)) w) h hN
theorem s25_15 {R : VP} {K1 : (Value × Value) → World → Prop} {Q : EQ} (hN : ∀ e w, (m25_13 R K1 (e 2) (e 4) (e 7) (e 10) (e 11) (e 18) (e 19) (e 20) w) → Q .normal e w) (e : Env) (w : World) (h : m25_15 R K1 (e 2) (e 4) (e 7) (e 10) (e 11) (e 13) (e 18) (e 19) (e 20) (e 30) w) : W25 k25_15 Q e w := by
  unfold m25_15 at h
  refine coA (Operand.tmp 30) h (fun h1 => ?_) (fun h1 => ?_)
  · exact rgA 7 (fun e w => m25_13 R K1 (e 2) (e 4) (e 7) (e 10) (e 11) (e 18) (e 19) (e 20) w) h1 hN
  · exact rgA 8 (fun e w => m25_13 R K1 (e 2) (e 4) (e 7) (e 10) (e 11) (e 18) (e 19) (e 20) w) h1 hN
theorem s25_14 {R : VP} {K1 : (Value × Value) → World → Prop} {Q : EQ} (hN : ∀ e w, (m25_13 R K1 (e 2) (e 4) (e 7) (e 10) (e 11) (e 18) (e 19) (e 20) w) → Q .normal e w) (e : Env) (w : World) (h : m25_14 R K1 (e 2) (e 4) (e 7) (e 10) (e 11) (e 13) (e 18) (e 19) (e 20) w) : W25 k25_14 Q e w := by
  unfold m25_14 at h
  refine seA ?_
  have hN : ∀ e w, (m25_15 R K1 (e 2) (e 4) (e 7) (e 10) (e 11) (e 13) (e 18) (e 19) (e 20) (e 30) w) → (thenE (W25 k25_15 Q) Q) .normal e w := fun e w h => then_N (s25_15 (R := R) (Q := Q) (K1 := K1) hN e w h)
  exact rgA 6 (fun e w => m25_15 R K1 (e 2) (e 4) (e 7) (e 10) (e 11) (e 13) (e 18) (e 19) (e 20) (e 30) w) h hN
theorem s25_12 {R : VP} {K1 : (Value × Value) → World → Prop} {Q : EQ} (hN : ∀ e w, (K1 ((e 11), (e 20)) w) → Q .normal e w) (e : Env) (w : World) (h : m25_12 R K1 (e 2) (e 4) (e 7) (e 10) (e 11) (e 18) (e 19) (e 20) w) : W25 k25_12 Q e w := by
  unfold m25_12 at h
  refine seA ?_
  have hN : ∀ e w, (m25_13 R K1 (e 2) (e 4) (e 7) (e 10) (e 11) (e 18) (e 19) (e 20) w) → (thenE (W25 k25_13 Q) Q) .normal e w := fun e w h => then_N (s25_13 (R := R) (Q := Q) (K1 := K1) hN e w h)
  refine block_ok 1 (by kernel_rfl) ?_
  have hN : ∀ e w, (m25_13 R K1 (e 2) (e 4) (e 7) (e 10) (e 11) (e 18) (e 19) (e 20) w) → (inBlockE 1 (thenE (W25 k25_13 Q) Q)) .normal e w := fun e w h => block_N (hN e w h)
  refine seA ?_
  have hN : ∀ e w, (m25_14 R K1 (e 2) (e 4) (e 7) (e 10) (e 11) (e 13) (e 18) (e 19) (e 20) w) → (thenE (W25 k25_14 (inBlockE 1 (thenE (W25 k25_13 Q) Q))) (inBlockE 1 (thenE (W25 k25_13 Q) Q))) .normal e w := fun e w h => then_N (s25_14 (R := R) (Q := (inBlockE 1 (thenE (W25 k25_13 Q) Q))) (K1 := K1) hN e w h)
  exact rgA 5 (fun e w => m25_14 R K1 (e 2) (e 4) (e 7) (e 10) (e 11) (e 13) (e 18) (e 19) (e 20) w) h hN
theorem s25_8 {R : VP} {Q : EQ} (hR : ∀ e w, (R (Value.tuple #[(e 8), (e 9)]) w) → Q .ret e w) (e : Env) (w : World) (h : m25_8 R (e 8) (e 9) w) : W25 k25_8 Q e w := by
  unfold m25_8 at h
  exact reA (hR _ _ h)
theorem s25_7 {R : VP} {Q : EQ} (hR : ∀ e w, (R (Value.tuple #[(e 8), (e 9)]) w) → Q .ret e w) (e : Env) (w : World) (h : m25_7 R (e 10) (e 11) w) : W25 k25_7 Q e w := by
  unfold m25_7 at h
  refine seA ?_
  have hN : ∀ e w, (m25_8 R (e 8) (e 9) w) → (thenE (W25 k25_8 Q) Q) .normal e w := fun e w h => then_N (s25_8 (R := R) (Q := Q) hR e w h)
  exact rgA 13 (fun e w => m25_8 R (e 8) (e 9) w) h hN
theorem s25_6 {R : VP} {Q : EQ} (hR : ∀ e w, (R (Value.tuple #[(e 8), (e 9)]) w) → Q .ret e w) (e : Env) (w : World) (h : m25_6 R (e 10) (e 11) w) : W25 k25_6 Q e w := by
  unfold m25_6 at h
  refine seA ?_
  have hN : ∀ e w, (m25_7 R (e 10) (e 11) w) → (thenE (W25 k25_7 Q) Q) .normal e w := fun e w h => then_N (s25_7 (R := R) (Q := Q) hR e w h)
  exact rgA 12 (fun e w => m25_7 R (e 10) (e 11) w) h hN
theorem s25_5 {R : VP} {Q : EQ} (hR : ∀ e w, (R (Value.tuple #[(e 8), (e 9)]) w) → Q .ret e w) (e : Env) (w : World) (h : m25_5 R (e 10) (e 11) w) : W25 k25_5 Q e w := by
  unfold m25_5 at h
  refine seA ?_
  have hN : ∀ e w, (m25_6 R (e 10) (e 11) w) → (thenE (W25 k25_6 Q) Q) .normal e w := fun e w h => then_N (s25_6 (R := R) (Q := Q) hR e w h)
  exact rgA 11 (fun e w => m25_6 R (e 10) (e 11) w) h hN
theorem s25_4 {R : VP} {Q : EQ} (hR : ∀ e w, (R (Value.tuple #[(e 8), (e 9)]) w) → Q .ret e w) (e : Env) (w : World) (h : m25_4 R (e 10) (e 11) w) : W25 k25_4 Q e w := by
  unfold m25_4 at h
  refine seA ?_
  have hN : ∀ e w, (m25_5 R (e 10) (e 11) w) → (thenE (W25 k25_5 Q) Q) .normal e w := fun e w h => then_N (s25_5 (R := R) (Q := Q) hR e w h)
  exact rgA 10 (fun e w => m25_5 R (e 10) (e 11) w) h hN
theorem s25_11 {R : VP} {K1 : (Value × Value) → World → Prop} {Q : EQ} (hN : ∀ e w, (K1 ((e 11), (e 20)) w) → Q .normal e w) (hX0 : ∀ e w, (m25_4 R (e 10) (e 11) w) → Q (.exit 0) e w) (e : Env) (w : World) (h : m25_11 R K1 (e 2) (e 4) (e 7) (e 10) (e 11) (e 18) (e 19) (e 20) (e 21) w) : W25 k25_11 Q e w := by
  unfold m25_11 at h
  refine seA ?_
  have hN : ∀ e w, (m25_12 R K1 (e 2) (e 4) (e 7) (e 10) (e 11) (e 18) (e 19) (e 20) w) → (thenE (W25 k25_12 Q) Q) .normal e w := fun e w h => then_N (s25_12 (R := R) (Q := Q) (K1 := K1) hN e w h)
  have hX0 : ∀ e w, (m25_4 R (e 10) (e 11) w) → (thenE (W25 k25_12 Q) Q) (.exit 0) e w := fun e w h => then_X (hX0 e w h)
  refine coA (Operand.tmp 21) h (fun h1 => ?_) (fun h1 => ?_)
  · exact skA (hN _ _ h1)
  · exact exA 0 (hX0 _ _ h1)
theorem s25_10 {R : VP} {K1 : (Value × Value) → World → Prop} {Q : EQ} (hN : ∀ e w, (K1 ((e 11), (e 20)) w) → Q .normal e w) (hX0 : ∀ e w, (m25_4 R (e 10) (e 11) w) → Q (.exit 0) e w) (e : Env) (w : World) (h : m25_10 R K1 (e 2) (e 4) (e 7) (e 10) (e 11) (e 18) (e 19) (e 20) w) : W25 k25_10 Q e w := by
  unfold m25_10 at h
  refine seA ?_
  have hN : ∀ e w, (m25_11 R K1 (e 2) (e 4) (e 7) (e 10) (e 11) (e 18) (e 19) (e 20) (e 21) w) → (thenE (W25 k25_11 Q) Q) .normal e w := fun e w h => then_N (s25_11 (R := R) (Q := Q) (K1 := K1) hN hX0 e w h)
  exact rgA 4 (fun e w => m25_11 R K1 (e 2) (e 4) (e 7) (e 10) (e 11) (e 18) (e 19) (e 20) (e 21) w) h hN
theorem s25_9 {R : VP} {Q : EQ} (hN : ∀ e w, (m25_4 R (e 10) (e 11) w) → Q .normal e w) (e : Env) (w : World) (h : m25_9 R (e 2) (e 4) (e 7) (e 10) (e 11) (e 18) (e 19) (e 20) w) : W25 k25_9 Q e w := by
  unfold m25_9 at h
  refine block_ok 0 (by kernel_rfl) ?_
  have hX0 : ∀ e w, (m25_4 R (e 10) (e 11) w) → (inBlockE 0 Q) (.exit 0) e w := fun e w h => inBlock_same (Q := Q) 0 (hN e w h)
  refine loop_ok' (fun (e : Env) => (e 11, e 20)) [2, 4, 7, 10, 18, 19] (by kernel_rfl) (by kernel_rfl) h (fun K e' w' hk h' => ?_)
  have r2 : e' 2 = e 2 := hk 2 (by decide)
  have r4 : e' 4 = e 4 := hk 4 (by decide)
  have r7 : e' 7 = e 7 := hk 7 (by decide)
  have r10 : e' 10 = e 10 := hk 10 (by decide)
  have r18 : e' 18 = e 18 := hk 18 (by decide)
  have r19 : e' 19 = e 19 := hk 19 (by decide)
  have hX0 : ∀ e w, (m25_4 R (e 10) (e 11) w) → (thenE (fun (e : Env) w => K ((e 11), (e 20)) w) (inBlockE 0 Q)) (.exit 0) e w := fun e w h => then_X (hX0 e w h)
  exact s25_10 (R := R) (Q := (thenE (fun (e : Env) w => K ((e 11), (e 20)) w) (inBlockE 0 Q))) (K1 := K) (fun _ _ h => then_N h) hX0 e' w' (by rw [r2, r4, r7, r10, r18, r19]; exact h')
theorem s25_3 {R : VP} {Q : EQ} (hR : ∀ e w, (R (Value.tuple #[(e 8), (e 9)]) w) → Q .ret e w) (e : Env) (w : World) (h : m25_3 R (e 1) (e 2) (e 4) (e 7) (e 10) (e 11) w) : W25 k25_3 Q e w := by
  unfold m25_3 at h
  refine seA ?_
  have hN : ∀ e w, (m25_4 R (e 10) (e 11) w) → (thenE (W25 k25_4 Q) Q) .normal e w := fun e w h => then_N (s25_4 (R := R) (Q := Q) hR e w h)
  refine seA ?_
  have hN : ∀ e w, (m25_9 R (e 2) (e 4) (e 7) (e 10) (e 11) (e 18) (e 19) (e 20) w) → (thenE (W25 k25_9 (thenE (W25 k25_4 Q) Q)) (thenE (W25 k25_4 Q) Q)) .normal e w := fun e w h => then_N (s25_9 (R := R) (Q := (thenE (W25 k25_4 Q) Q)) hN e w h)
  exact rgA 3 (fun e w => m25_9 R (e 2) (e 4) (e 7) (e 10) (e 11) (e 18) (e 19) (e 20) w) h hN
theorem s25_2 {R : VP} {Q : EQ} (hR : ∀ e w, (R (Value.tuple #[(e 8), (e 9)]) w) → Q .ret e w) (e : Env) (w : World) (h : m25_2 R (e 1) (e 2) (e 4) (e 7) (e 10) w) : W25 k25_2 Q e w := by
  unfold m25_2 at h
  refine seA ?_
  have hN : ∀ e w, (m25_3 R (e 1) (e 2) (e 4) (e 7) (e 10) (e 11) w) → (thenE (W25 k25_3 Q) Q) .normal e w := fun e w h => then_N (s25_3 (R := R) (Q := Q) hR e w h)
  exact rgA 2 (fun e w => m25_3 R (e 1) (e 2) (e 4) (e 7) (e 10) (e 11) w) h hN
theorem s25_1 {R : VP} {Q : EQ} (hR : ∀ e w, (R (Value.tuple #[(e 8), (e 9)]) w) → Q .ret e w) (e : Env) (w : World) (h : m25_1 R (e 1) (e 2) (e 4) (e 7) w) : W25 k25_1 Q e w := by
  unfold m25_1 at h
  refine seA ?_
  have hN : ∀ e w, (m25_2 R (e 1) (e 2) (e 4) (e 7) (e 10) w) → (thenE (W25 k25_2 Q) Q) .normal e w := fun e w h => then_N (s25_2 (R := R) (Q := Q) hR e w h)
  exact rgA 1 (fun e w => m25_2 R (e 1) (e 2) (e 4) (e 7) (e 10) w) h hN
theorem s25_0 {R : VP} {Q : EQ} (hR : ∀ e w, (R (Value.tuple #[(e 8), (e 9)]) w) → Q .ret e w) (e : Env) (w : World) (h : m25_0 R (e 0) (e 1) (e 2) (e 3) w) : W25 k25_0 Q e w := by
  unfold m25_0 at h
  refine seA ?_
  have hN : ∀ e w, (m25_1 R (e 1) (e 2) (e 4) (e 7) w) → (thenE (W25 k25_1 Q) Q) .normal e w := fun e w h => then_N (s25_1 (R := R) (Q := Q) hR e w h)
  exact rgA 0 (fun e w => m25_1 R (e 1) (e 2) (e 4) (e 7) w) h hN
abbrev m25 (R : VP) (g0 l1 key2 e3 : Value) (w : World) : Prop := m25_0 R g0 l1 key2 e3 w
theorem s25 (g0 l1 key2 e3 : Value) {R : VP} {w : World} (h : m25 R g0 l1 key2 e3 w) :
    Calls Try.prog 25 #[g0, l1, key2, e3] w fun e w' => ∃ v, e = .returned v ∧ R v w' :=
  calls_of_cwp (st := (fun i => 0)) (c := k25_0) (by kernel_rfl) Try.func25 (by kernel_rfl) (Nat.le_of_ble_eq_true (by kernel_rfl)) (by kernel_rfl)
    (s25_0 (R := R) (Q := endE Try.prog Try.f25 R) (fun e w h => kcast (by kernel_rfl) h) (argsE #[g0, l1, key2, e3]) w (kcast (by kernel_rfl) h))
/-! ### headgate/sessions.Add -/
def m11_25 (R : VP) (t8 t9 t10 : Value) (w : World) : Prop :=
  valS Try.prog (loadC 26 t8) w fun r0 =>
  R (Value.tuple #[r0, t9, t10]) w
def m11_23 (R : VP) (t8 t9 t10 : Value) (w : World) : Prop :=
  valS Try.prog (loadC 26 t8) w fun r0 =>
  R (Value.tuple #[r0, t9, t10]) w
def m11_15 (R : VP) (K1 : (Value × Value) → World → Prop) (g4 f5 t8 closed13 t77 t78 t79 : Value) (w : World) : Prop :=
  valP Try.prog (binS BinOp.add 3 (Operand.tmp 79) (Operand.const (Value.int IntKind.i64 1)) t79 (Value.int IntKind.i64 1)) w fun t107 w =>
  K1 (closed13, t107) w
def m11_19 (R : VP) (K1 : (Value × Value) → World → Prop) (g4 f5 t8 closed13 s15 t77 t78 t79 t96 : Value) (w : World) : Prop :=
  condP t96
  (valP Try.prog (Instr.loadAt 33 s15) w fun t98 w =>
  valP Try.prog (Instr.buildSlice 24 1 #[(0, t98)]) w fun t99 w =>
  builtinP Try.prog Builtin.append #[24, 24] 24 #[false, false] #[closed13, t99] w fun t100 w =>
  m11_15 R K1 g4 f5 t8 t100 t77 t78 t79 w)
  (valP Try.prog (Instr.fieldAt 26 f5 2) w fun t101 w =>
  valP Try.prog (Instr.loadAt 24 t101) w fun t102 w =>
  valP Try.prog (Instr.loadAt 33 s15) w fun t103 w =>
  valP Try.prog (Instr.buildSlice 24 1 #[(0, t103)]) w fun t104 w =>
  builtinP Try.prog Builtin.append #[24, 24] 24 #[false, false] #[t102, t104] w fun t105 w =>
  valP Try.prog (Instr.fieldAt 26 f5 2) w fun t106 w =>
  unitP Try.prog (Instr.storeAt 24 t106 t105) w fun _ w =>
  m11_15 R K1 g4 f5 t8 closed13 t77 t78 t79 w)
def m11_18 (R : VP) (K1 : (Value × Value) → World → Prop) (g4 f5 t8 closed13 s15 last17 t77 t78 t79 : Value) (w : World) : Prop :=
  valP Try.prog (Instr.loadAt 23 g4) w fun t92 w =>
  valP Try.prog (Instr.fieldAt 26 f5 0) w fun t94 w =>
  valP Try.prog (Instr.loadAt 3 t94) w fun t95 w =>
  callP Try.prog (fnV 26) #[t92, last17, t95] w fun t96 w =>
  m11_19 R K1 g4 f5 t8 closed13 s15 t77 t78 t79 t96 w
def m11_17 (R : VP) (K1 : (Value × Value) → World → Prop) (g4 f5 t8 closed13 s15 t77 t78 t79 : Value) (w : World) : Prop :=
  valP Try.prog (Instr.loadAt 33 s15) w fun t88 w =>
  callP Try.prog (fnV 28) #[t88] w fun t89 w =>
  valP Try.prog (Instr.extract t89 0) w fun t90 w =>
  valP Try.prog (Instr.extract t89 1) w fun t91 w =>
  m11_18 R K1 g4 f5 t8 closed13 s15 t91 t77 t78 t79 w
def m11_16 (R : VP) (K1 : (Value × Value) → World → Prop) (g4 f5 t8 closed13 s15 t77 t78 t79 : Value) (w : World) : Prop :=
  valP Try.prog (Instr.fieldAt 33 s15 1) w fun t83 w =>
  valP Try.prog (Instr.loadAt 31 t83) w fun t84 w =>
  callP Try.prog (fnV 27) #[t84] w fun t85 w =>
  valP Try.prog (Instr.fieldAt 33 s15 1) w fun t86 w =>
  unitP Try.prog (Instr.storeAt 31 t86 t85) w fun _ w =>
  m11_17 R K1 g4 f5 t8 closed13 s15 t77 t78 t79 w
def m11_14 (R : VP) (K1 : (Value × Value) → World → Prop) (g4 f5 t8 closed13 t77 t78 t79 : Value) (w : World) : Prop :=
  valP Try.prog (Instr.indexAt 24 t77 t79) w fun t81 w =>
  valP Try.prog (Instr.loadAt 33 t81) w fun t82 w =>
  valP Try.prog (Instr.alloc 33 true (.tuple #[])) w fun s15 w =>
  unitP Try.prog (Instr.storeAt 33 s15 t82) w fun _ w =>
  m11_16 R K1 g4 f5 t8 closed13 s15 t77 t78 t79 w
def m11_10 (R : VP) (t8 t9 t10 : Value) (w : World) : Prop :=
  valS Try.prog (loadC 26 t8) w fun r0 =>
  R (Value.tuple #[r0, t9, t10]) w
def m11_9 (R : VP) (f5 t8 closed13 : Value) (w : World) : Prop :=
  valP Try.prog (Instr.loadAt 26 f5) w fun t108 w =>
  unitP Try.prog (Instr.storeAt 26 t8 t108) w fun _ w =>
  m11_10 R t8 closed13 (Value.int IntKind.i64 0) w
def m11_13 (R : VP) (K1 : (Value × Value) → World → Prop) (g4 f5 t8 closed13 t77 t78 t79 t80 : Value) (w : World) : Prop :=
  condP t80
  (m11_14 R K1 g4 f5 t8 closed13 t77 t78 t79 w)
  (m11_9 R f5 t8 closed13 w)
def m11_12 (R : VP) (K1 : (Value × Value) → World → Prop) (g4 f5 t8 closed13 t77 t78 t79 : Value) (w : World) : Prop :=
  valP Try.prog (binS BinOp.lss 3 (Operand.tmp 79) (Operand.tmp 78) t79 t78) w fun t80 w =>
  m11_13 R K1 g4 f5 t8 closed13 t77 t78 t79 t80 w
def m11_11 (R : VP) (g4 f5 t8 closed13 t77 t78 t79 : Value) (w : World) : Prop :=
  loopP (fun (K1 : (Value × Value) → World → Prop) (s : Value × Value) w => m11_12 R K1 g4 f5 t8 s.1 t77 t78 s.2 w) (closed13, t79) w
def m11_8 (R : VP) (g4 f5 t8 l11 closed13 : Value) (w : World) : Prop :=
  builtinP Try.prog Builtin.len #[24] 3 #[false] #[l11] w fun t78 w =>
  m11_11 R g4 f5 t8 closed13 l11 t78 (Value.int IntKind.i64 0) w
def m11_7 (R : VP) (g4 f5 t8 l11 : Value) (w : World) : Prop :=
  m11_8 R g4 f5 t8 l11 (Value.slice none 0 0) w
def m11_6 (R : VP) (g4 f5 t8 l11 : Value) (w : World) : Prop :=
  valP Try.prog (Instr.fieldAt 26 f5 2) w fun t76 w =>
  unitP Try.prog (Instr.storeAt 24 t76 (Value.slice none 0 0)) w fun _ w =>
  m11_7 R g4 f5 t8 l11 w
def m11_5 (R : VP) (g4 f5 e7 t8 l11 : Value) (w : World) : Prop :=
  valP Try.prog (Instr.fieldAt 26 f5 0) w fun t70 w =>
  valP Try.prog (Instr.loadAt 3 t70) w fun t71 w =>
  valP Try.prog (Instr.fieldAt 28 e7 0) w fun t72 w =>
  valP Try.prog (Instr.loadAt 3 t72) w fun t73 w =>
  builtinP Try.prog Builtin.max #[3, 3] 3 #[false, false] #[t71, t73] w fun t74 w =>
  valP Try.prog (Instr.fieldAt 26 f5 0) w fun t75 w =>
  unitP Try.prog (Instr.storeAt 3 t75 t74) w fun _ w =>
  m11_6 R g4 f5 t8 l11 w
def m11_21 (R : VP) (g4 f5 e7 t8 : Value) (w : World) : Prop :=
  valP Try.prog (Instr.fieldAt 26 f5 2) w fun t68 w =>
  valP Try.prog (Instr.loadAt 24 t68) w fun t69 w =>
  m11_5 R g4 f5 e7 t8 t69 w
def m11_20 (R : VP) (g4 f5 e7 t8 l11 t63 : Value) (w : World) : Prop :=
  condP t63
  (valP Try.prog (Instr.fieldAt 26 f5 1) w fun t64 w =>
  valP Try.prog (Instr.loadAt 3 t64) w fun t65 w =>
  valP Try.prog (binS BinOp.add 3 (Operand.tmp 65) (Operand.const (Value.int IntKind.i64 1)) t65 (Value.int IntKind.i64 1)) w fun t66 w =>
  valP Try.prog (Instr.fieldAt 26 f5 1) w fun t67 w =>
  unitP Try.prog (Instr.storeAt 3 t67 t66) w fun _ w =>
  m11_21 R g4 f5 e7 t8 w)
  (m11_5 R g4 f5 e7 t8 l11 w)
def m11_4 (R : VP) (g4 f5 e7 t8 l11 ok12 : Value) (w : World) : Prop :=
  valP Try.prog (Instr.loadAt 23 g4) w fun t54 w =>
  valP Try.prog (Instr.fieldAt 28 e7 0) w fun t55 w =>
  valP Try.prog (Instr.loadAt 3 t55) w fun t56 w =>
  valP Try.prog (Instr.fieldAt 26 f5 0) w fun t57 w =>
  valP Try.prog (Instr.loadAt 3 t57) w fun t58 w =>
  callP Try.prog (fnV 26) #[t54, t56, t58] w fun t59 w =>
  condP t59
  (pickP t59 (Value.bool true) undef fun t63 =>
  m11_20 R g4 f5 e7 t8 l11 t63 w)
  (valP Try.prog (Op.unary UnOp.not ok12) w fun t62 w =>
  pickP t59 (Value.bool true) t62 fun t63 =>
  m11_20 R g4 f5 e7 t8 l11 t63 w)
def m11_3 (R : VP) (key2 g4 f5 e7 t8 : Value) (w : World) : Prop :=
  valP Try.prog (Instr.loadAt 23 g4) w fun t46 w =>
  valP Try.prog (Instr.fieldAt 26 f5 2) w fun t47 w =>
  valP Try.prog (Instr.loadAt 24 t47) w fun t48 w =>
  valP Try.prog (Instr.loadAt 28 e7) w fun t50 w =>
  callP Try.prog (fnV 25) #[t46, t48, key2, t50] w fun t51 w =>
  valP Try.prog (Instr.extract t51 0) w fun t52 w =>
  valP Try.prog (Instr.extract t51 1) w fun t53 w =>
  m11_4 R g4 f5 e7 t8 t52 t53 w
def m11_22 (R : VP) (key2 g4 f5 e7 t8 t43 : Value) (w : World) : Prop :=
  condP t43
  (valP Try.prog (Instr.build 26 #[]) w fun t44 w =>
  unitP Try.prog (Instr.storeAt 26 t8 t44) w fun _ w =>
  m11_23 R t8 (Value.slice none 0 0) (Value.int IntKind.i64 6) w)
  (m11_3 R key2 g4 f5 e7 t8 w)
def m11_2 (R : VP) (key2 g4 f5 e7 t8 : Value) (w : World) : Prop :=
  valP Try.prog (Instr.fieldAt 26 f5 1) w fun t41 w =>
  valP Try.prog (Instr.loadAt 3 t41) w fun t42 w =>
  valP Try.prog (binS BinOp.eql 3 (Operand.tmp 42) (Operand.const (Value.int IntKind.i64 1099511627776)) t42 (Value.int IntKind.i64 1099511627776)) w fun t43 w =>
  m11_22 R key2 g4 f5 e7 t8 t43 w
def m11_24 (R : VP) (key2 g4 f5 e7 t8 t39 : Value) (w : World) : Prop :=
  condP t39
  (valP Try.prog (Instr.build 26 #[]) w fun t40 w =>
  unitP Try.prog (Instr.storeAt 26 t8 t40) w fun _ w =>
  m11_25 R t8 (Value.slice none 0 0) (Value.int IntKind.i64 1) w)
  (m11_2 R key2 g4 f5 e7 t8 w)
def m11_1 (R : VP) (key2 g4 f5 e7 t8 : Value) (w : World) : Prop :=
  valP Try.prog (Instr.loadAt 23 g4) w fun t18 w =>
  valP Try.prog (Instr.loadAt 26 f5) w fun t19 w =>
  callP Try.prog (fnV 15) #[t18, t19] w fun t20 w =>
  valP Try.prog (binS BinOp.neq 34 (Operand.tmp 20) (Operand.const (Value.int IntKind.i64 0)) t20 (Value.int IntKind.i64 0)) w fun t21 w =>
  condP t21
  (pickP t21 (Value.bool true) undef fun t25 =>
  pickP t25 (Value.bool true) undef fun t29 =>
  pickP t29 (Value.bool true) undef fun t34 =>
  pickP t34 (Value.bool true) undef fun t39 =>
  m11_24 R key2 g4 f5 e7 t8 t39 w)
  (valP Try.prog (binS BinOp.lss 3 (Operand.tmp 23) (Operand.const (Value.int IntKind.i64 0)) key2 (Value.int IntKind.i64 0)) w fun t24 w =>
  pickP t21 (Value.bool true) t24 fun t25 =>
  condP t25
  (pickP t25 (Value.bool true) undef fun t29 =>
  pickP t29 (Value.bool true) undef fun t34 =>
  pickP t34 (Value.bool true) undef fun t39 =>
  m11_24 R key2 g4 f5 e7 t8 t39 w)
  (valP Try.prog (binS BinOp.gtr 3 (Operand.tmp 27) (Operand.const (Value.int IntKind.i64 1048576)) key2 (Value.int IntKind.i64 1048576)) w fun t28 w =>
  pickP t25 (Value.bool true) t28 fun t29 =>
  condP t29
  (pickP t29 (Value.bool true) undef fun t34 =>
  pickP t34 (Value.bool true) undef fun t39 =>
  m11_24 R key2 g4 f5 e7 t8 t39 w)
  (valP Try.prog (Instr.fieldAt 28 e7 0) w fun t31 w =>
  valP Try.prog (Instr.loadAt 3 t31) w fun t32 w =>
  valP Try.prog (binS BinOp.lss 3 (Operand.tmp 32) (Operand.const (Value.int IntKind.i64 0)) t32 (Value.int IntKind.i64 0)) w fun t33 w =>
  pickP t29 (Value.bool true) t33 fun t34 =>
  condP t34
  (pickP t34 (Value.bool true) undef fun t39 =>
  m11_24 R key2 g4 f5 e7 t8 t39 w)
  (valP Try.prog (Instr.fieldAt 28 e7 0) w fun t36 w =>
  valP Try.prog (Instr.loadAt 3 t36) w fun t37 w =>
  valP Try.prog (binS BinOp.gtr 3 (Operand.tmp 37) (Operand.const (Value.int IntKind.i64 1099511627776)) t37 (Value.int IntKind.i64 1099511627776)) w fun t38 w =>
  pickP t34 (Value.bool true) t38 fun t39 =>
  m11_24 R key2 g4 f5 e7 t8 t39 w))))
def m11_0 (R : VP) (g0 f1 key2 e3 : Value) (w : World) : Prop :=
  valP Try.prog (Instr.box 23 g0) w fun g4 w =>
  valP Try.prog (Instr.box 26 f1) w fun f5 w =>
  valP Try.prog (Instr.box 28 e3) w fun e7 w =>
  valP Try.prog (Instr.alloc 26 true (.tuple #[])) w fun t8 w =>
  m11_1 R key2 g4 f5 e7 t8 w
abbrev W11 := cwp Try.prog (fun i => 0)
noncomputable def k11_0 : Code := (bodyOf Try.f11)
noncomputable def k11_1 : Code := (c2 k11_0)
noncomputable def k11_2 : Code := (c2 k11_1)
noncomputable def k11_3 : Code := (c2 k11_2)
noncomputable def k11_4 : Code := (c2 k11_3)
noncomputable def k11_5 : Code := (c2 k11_4)
noncomputable def k11_6 : Code := (c2 k11_5)
noncomputable def k11_7 : Code := (c2 k11_6)
noncomputable def k11_8 : Code := (c2 k11_7)
noncomputable def k11_9 : Code := (c2 k11_8)
noncomputable def k11_10 : Code := (c2 k11_9)
noncomputable def k11_11 : Code := (c2 (c1 k11_8))
noncomputable def k11_12 : Code := (c1 (c1 k11_11))
noncomputable def k11_13 : Code := (c2 k11_12)
noncomputable def k11_14 : Code := (c2 k11_13)
noncomputable def k11_15 : Code := (c2 k11_14)
noncomputable def k11_16 : Code := (c2 (c1 (c1 k11_14)))
noncomputable def k11_17 : Code := (c2 k11_16)
noncomputable def k11_18 : Code := (c2 k11_17)
noncomputable def k11_19 : Code := (c2 k11_18)
noncomputable def k11_20 : Code := (c2 (c1 k11_4))
noncomputable def k11_21 : Code := (c2 (c1 k11_20))
noncomputable def k11_22 : Code := (c2 (c1 k11_2))
noncomputable def k11_23 : Code := (c2 (c1 k11_22))
noncomputable def k11_24 : Code := (c2 (c1 k11_1))
noncomputable def k11_25 : Code := (c2 (c1 k11_24))
theorem s11_25 {R : VP} {Q : EQ} (hR : ∀ e w, (valS Try.prog (loadC 26 (e 8)) w fun r0 =>
R (Value.tuple #[r0, (e 9), (e 10)]) w) → Q .ret e w) (e : Env) (w : World) (h : m11_25 R (e 8) (e 9) (e 10) w) : W11 k11_25 Q e w := by
  unfold m11_25 at h
  exact reA (hR _ _ h)
theorem s11_23 {R : VP} {Q : EQ} (hR : ∀ e w, (valS Try.prog (loadC 26 (e 8)) w fun r0 =>
R (Value.tuple #[r0, (e 9), (e 10)]) w) → Q .ret e w) (e : Env) (w : World) (h : m11_23 R (e 8) (e 9) (e 10) w) : W11 k11_23 Q e w := by
  unfold m11_23 at h
  exact reA (hR _ _ h)
theorem s11_15 {R : VP} {K1 : (Value × Value) → World → Prop} {Q : EQ} (hN : ∀ e w, (K1 ((e 13), (e 79)) w) → Q .normal e w) (e : Env) (w : World) (h : m11_15 R K1 (e 4) (e 5) (e 8) (e 13) (e 77) (e 78) (e 79) w) : W11 k11_15 Q e w := by
  unfold m11_15 at h
  exact rgA 20 (fun e w => K1 ((e 13), (e 79)) w) h hN
theorem s11_19 {R : VP} {K1 : (Value × Value) → World → Prop} {Q : EQ} (hN : ∀ e w, (m11_15 R K1 (e 4) (e 5) (e 8) (e 13) (e 77) (e 78) (e 79) w) → Q .normal e w) (e : Env) (w : World) (h : m11_19 R K1 (e 4) (e 5) (e 8) (e 13) (e 15) (e 77) (e 78) (e 79) (e 96) w) : W11 k11_19 Q e w := by
  unfold m11_19 at h
  refine coA (Operand.tmp 96) h (fun h1 => ?_) (fun h1 => ?_)
  · exact rgA 18 (fun e w => m11_15 R K1 (e 4) (e 5) (e 8) (e 13) (e 77) (e 78) (e 79) w) h1 hN
  · exact rgA 19 (fun e w => m11_15 R K1 (e 4) (e 5) (e 8) (e 13) (e 77) (e 78) (e 79) w) h1 hN
theorem s11_18 {R : VP} {K1 : (Value × Value) → World → Prop} {Q : EQ} (hN : ∀ e w, (m11_15 R K1 (e 4) (e 5) (e 8) (e 13) (e 77) (e 78) (e 79) w) → Q .normal e w) (e : Env) (w : World) (h : m11_18 R K1 (e 4) (e 5) (e 8) (e 13) (e 15) (e 17) (e 77) (e 78) (e 79) w) : W11 k11_18 Q e w := by
  unfold m11_18 at h
  refine seA ?_
  have hN : ∀ e w, (m11_19 R K1 (e 4) (e 5) (e 8) (e 13) (e 15) (e 77) (e 78) (e 79) (e 96) w) → (thenE (W11 k11_19 Q) Q) .normal e w := fun e w h => then_N (s11_19 (R := R) (Q := Q) (K1 := K1) hN e w h)
  exact rgA 17 (fun e w => m11_19 R K1 (e 4) (e 5) (e 8) (e 13) (e 15) (e 77) (e 78) (e 79) (e 96) w) h hN
theorem s11_17 {R : VP} {K1 : (Value × Value) → World → Prop} {Q : EQ} (hN : ∀ e w, (m11_15 R K1 (e 4) (e 5) (e 8) (e 13) (e 77) (e 78) (e 79) w) → Q .normal e w) (e : Env) (w : World) (h : m11_17 R K1 (e 4) (e 5) (e 8) (e 13) (e 15) (e 77) (e 78) (e 79) w) : W11 k11_17 Q e w := by
  unfold m11_17 at h
  refine seA ?_
  have hN : ∀ e w, (m11_18 R K1 (e 4) (e 5) (e 8) (e 13) (e 15) (e 17) (e 77) (e 78) (e 79) w) → (thenE (W11 k11_18 Q) Q) .normal e w := fun e w h => then_N (s11_18 (R := R) (Q := Q) (K1 := K1) hN e w h)
  exact rgA 16 (fun e w => m11_18 R K1 (e 4) (e 5) (e 8) (e 13) (e 15) (e 17) (e 77) (e 78) (e 79) w) h hN
theorem s11_16 {R : VP} {K1 : (Value × Value) → World → Prop} {Q : EQ} (hN : ∀ e w, (m11_15 R K1 (e 4) (e 5) (e 8) (e 13) (e 77) (e 78) (e 79) w) → Q .normal e w) (e : Env) (w : World) (h : m11_16 R K1 (e 4) (e 5) (e 8) (e 13) (e 15) (e 77) (e 78) (e 79) w) : W11 k11_16 Q e w := by
  unfold m11_16 at h
  refine seA ?_
  have hN : ∀ e w, (m11_17 R K1 (e 4) (e 5) (e 8) (e 13) (e 15) (e 77) (e 78) (e 79) w) → (thenE (W11 k11_17 Q) Q) .normal e w := fun e w h => then_N (s11_17 (R := R) (Q := Q) (K1 := K1) hN e w h)
  exact rgA 15 (fun e w => m11_17 R K1 (e 4) (e 5) (e 8) (e 13) (e 15) (e 77) (e 78) (e 79) w) h hN
theorem s11_14 {R : VP} {K1 : (Value × Value) → World → Prop} {Q : EQ} (hN : ∀ e w, (K1 ((e 13), (e 79)) w) → Q .normal e w) (e : Env) (w : World) (h : m11_14 R K1 (e 4) (e 5) (e 8) (e 13) (e 77) (e 78) (e 79) w) : W11 k11_14 Q e w := by
  unfold m11_14 at h
  refine seA ?_
  have hN : ∀ e w, (m11_15 R K1 (e 4) (e 5) (e 8) (e 13) (e 77) (e 78) (e 79) w) → (thenE (W11 k11_15 Q) Q) .normal e w := fun e w h => then_N (s11_15 (R := R) (Q := Q) (K1 := K1) hN e w h)
  refine block_ok 1 (by kernel_rfl) ?_
  have hN : ∀ e w, (m11_15 R K1 (e 4) (e 5) (e 8) (e 13) (e 77) (e 78) (e 79) w) → (inBlockE 1 (thenE (W11 k11_15 Q) Q)) .normal e w := fun e w h => block_N (hN e w h)
  refine seA ?_
  have hN : ∀ e w, (m11_16 R K1 (e 4) (e 5) (e 8) (e 13) (e 15) (e 77) (e 78) (e 79) w) → (thenE (W11 k11_16 (inBlockE 1 (thenE (W11 k11_15 Q) Q))) (inBlockE 1 (thenE (W11 k11_15 Q) Q))) .normal e w := fun e w h => then_N (s11_16 (R := R) (Q := (inBlockE 1 (thenE (W11 k11_15 Q) Q))) (K1 := K1) hN e w h)
  exact rgA 14 (fun e w => m11_16 R K1 (e 4) (e 5) (e 8) (e 13) (e 15) (e 77) (e 78) (e 79) w) h hN
theorem s11_10 {R : VP} {Q : EQ} (hR : ∀ e w, (valS Try.prog (loadC 26 (e 8)) w fun r0 =>
R (Value.tuple #[r0, (e 9), (e 10)]) w) → Q .ret e w) (e : Env) (w : World) (h : m11_10 R (e 8) (e 9) (e 10) w) : W11 k11_10 Q e w := by
  unfold m11_10 at h
  exact reA (hR _ _ h)
theorem s11_9 {R : VP} {Q : EQ} (hR : ∀ e w, (valS Try.prog (loadC 26 (e 8)) w fun r0 =>
R (Value.tuple #[r0, (e 9), (e 10)]) w) → Q .ret e w) (e : Env) (w : World) (h : m11_9 R (e 5) (e 8) (e 13) w) : W11 k11_9 Q e w := by
  unfold m11_9 at h
  refine seA ?_
  have hN : ∀ e w, (m11_10 R (e 8) (e 9) (e 10) w) → (thenE (W11 k11_10 Q) Q) .normal e w := fun e w h => then_N (s11_10 (R := R) (Q := Q) hR e w h)
  exact rgA 21 (fun e w => m11_10 R (e 8) (e 9) (e 10) w) h hN
theorem s11_13 {R : VP} {K1 : (Value × Value) → World → Prop} {Q : EQ} (hN : ∀ e w, (K1 ((e 13), (e 79)) w) → Q .normal e w) (hX0 : ∀ e w, (m11_9 R (e 5) (e 8) (e 13) w) → Q (.exit 0) e w) (e : Env) (w : World) (h : m11_13 R K1 (e 4) (e 5) (e 8) (e 13) (e 77) (e 78) (e 79) (e 80) w) : W11 k11_13 Q e w := by
  unfold m11_13 at h
  refine seA ?_
  have hN : ∀ e w, (m11_14 R K1 (e 4) (e 5) (e 8) (e 13) (e 77) (e 78) (e 79) w) → (thenE (W11 k11_14 Q) Q) .normal e w := fun e w h => then_N (s11_14 (R := R) (Q := Q) (K1 := K1) hN e w h)
  have hX0 : ∀ e w, (m11_9 R (e 5) (e 8) (e 13) w) → (thenE (W11 k11_14 Q) Q) (.exit 0) e w := fun e w h => then_X (hX0 e w h)
  refine coA (Operand.tmp 80) h (fun h1 => ?_) (fun h1 => ?_)
  · exact skA (hN _ _ h1)
  · exact exA 0 (hX0 _ _ h1)
theorem s11_12 {R : VP} {K1 : (Value × Value) → World → Prop} {Q : EQ} (hN : ∀ e w, (K1 ((e 13), (e 79)) w) → Q .normal e w) (hX0 : ∀ e w, (m11_9 R (e 5) (e 8) (e 13) w) → Q (.exit 0) e w) (e : Env) (w : World) (h : m11_12 R K1 (e 4) (e 5) (e 8) (e 13) (e 77) (e 78) (e 79) w) : W11 k11_12 Q e w := by
  unfold m11_12 at h
  refine seA ?_
  have hN : ∀ e w, (m11_13 R K1 (e 4) (e 5) (e 8) (e 13) (e 77) (e 78) (e 79) (e 80) w) → (thenE (W11 k11_13 Q) Q) .normal e w := fun e w h => then_N (s11_13 (R := R) (Q := Q) (K1 := K1) hN hX0 e w h)
  exact rgA 13 (fun e w => m11_13 R K1 (e 4) (e 5) (e 8) (e 13) (e 77) (e 78) (e 79) (e 80) w) h hN
theorem s11_11 {R : VP} {Q : EQ} (hN : ∀ e w, (m11_9 R (e 5) (e 8) (e 13) w) → Q .normal e w) (e : Env) (w : World) (h : m11_11 R (e 4) (e 5) (e 8) (e 13) (e 77) (e 78) (e 79) w) : W11 k11_11 Q e w := by
  unfold m11_11 at h
  refine block_ok 0 (by kernel_rfl) ?_
  have hX0 : ∀ e w, (m11_9 R (e 5) (e 8) (e 13) w) → (inBlockE 0 Q) (.exit 0) e w := fun e w h => inBlock_same (Q := Q) 0 (hN e w h)
  refine loop_ok' (fun (e : Env) => (e 13, e 79)) [4, 5, 8, 77, 78] (by kernel_rfl) (by kernel_rfl) h (fun K e' w' hk h' => ?_)
  have r4 : e' 4 = e 4 := hk 4 (by decide)
  have r5 : e' 5 = e 5 := hk 5 (by decide)
  have r8 : e' 8 = e 8 := hk 8 (by decide)
  have r77 : e' 77 = e 77 := hk 77 (by decide)
  have r78 : e' 78 = e 78 := hk 78 (by decide)
  have hX0 : ∀ e w, (m11_9 R (e 5) (e 8) (e 13) w) → (thenE (fun (e : Env) w => K ((e 13), (e 79)) w) (inBlockE 0 Q)) (.exit 0) e w := fun e w h => then_X (hX0 e w h)
  exact s11_12 (R := R) (Q := (thenE (fun (e : Env) w => K ((e 13), (e 79)) w) (inBlockE 0 Q))) (K1 := K) (fun _ _ h => then_N h) hX0 e' w' (by rw [r4, r5, r8, r77, r78]; exact h')
theorem s11_8 {R : VP} {Q : EQ} (hR : ∀ e w, (valS Try.prog (loadC 26 (e 8)) w fun r0 =>
R (Value.tuple #[r0, (e 9), (e 10)]) w) → Q .ret e w) (e : Env) (w : World) (h : m11_8 R (e 4) (e 5) (e 8) (e 11) (e 13) w) : W11 k11_8 Q e w := by
  unfold m11_8 at h
  refine seA ?_
  have hN : ∀ e w, (m11_9 R (e 5) (e 8) (e 13) w) → (thenE (W11 k11_9 Q) Q) .normal e w := fun e w h => then_N (s11_9 (R := R) (Q := Q) hR e w h)
  refine seA ?_
  have hN : ∀ e w, (m11_11 R (e 4) (e 5) (e 8) (e 13) (e 77) (e 78) (e 79) w) → (thenE (W11 k11_11 (thenE (W11 k11_9 Q) Q)) (thenE (W11 k11_9 Q) Q)) .normal e w := fun e w h => then_N (s11_11 (R := R) (Q := (thenE (W11 k11_9 Q) Q)) hN e w h)
  exact rgA 12 (fun e w => m11_11 R (e 4) (e 5) (e 8) (e 13) (e 77) (e 78) (e 79) w) h hN
theorem s11_7 {R : VP} {Q : EQ} (hR : ∀ e w, (valS Try.prog (loadC 26 (e 8)) w fun r0 =>
R (Value.tuple #[r0, (e 9), (e 10)]) w) → Q .ret e w) (e : Env) (w : World) (h : m11_7 R (e 4) (e 5) (e 8) (e 11) w) : W11 k11_7 Q e w := by
  unfold m11_7 at h
  refine seA ?_
  have hN : ∀ e w, (m11_8 R (e 4) (e 5) (e 8) (e 11) (e 13) w) → (thenE (W11 k11_8 Q) Q) .normal e w := fun e w h => then_N (s11_8 (R := R) (Q := Q) hR e w h)
  exact rgA 11 (fun e w => m11_8 R (e 4) (e 5) (e 8) (e 11) (e 13) w) h hN
theorem s11_6 {R : VP} {Q : EQ} (hR : ∀ e w, (valS Try.prog (loadC 26 (e 8)) w fun r0 =>
R (Value.tuple #[r0, (e 9), (e 10)]) w) → Q .ret e w) (e : Env) (w : World) (h : m11_6 R (e 4) (e 5) (e 8) (e 11) w) : W11 k11_6 Q e w := by
  unfold m11_6 at h
  refine seA ?_
  have hN : ∀ e w, (m11_7 R (e 4) (e 5) (e 8) (e 11) w) → (thenE (W11 k11_7 Q) Q) .normal e w := fun e w h => then_N (s11_7 (R := R) (Q := Q) hR e w h)
  exact rgA 10 (fun e w => m11_7 R (e 4) (e 5) (e 8) (e 11) w) h hN
theorem s11_5 {R : VP} {Q : EQ} (hR : ∀ e w, (valS Try.prog (loadC 26 (e 8)) w fun r0 =>
R (Value.tuple #[r0, (e 9), (e 10)]) w) → Q .ret e w) (e : Env) (w : World) (h : m11_5 R (e 4) (e 5) (e 7) (e 8) (e 11) w) : W11 k11_5 Q e w := by
  unfold m11_5 at h
  refine seA ?_
  have hN : ∀ e w, (m11_6 R (e 4) (e 5) (e 8) (e 11) w) → (thenE (W11 k11_6 Q) Q) .normal e w := fun e w h => then_N (s11_6 (R := R) (Q := Q) hR e w h)
  exact rgA 9 (fun e w => m11_6 R (e 4) (e 5) (e 8) (e 11) w) h hN
theorem s11_21 {R : VP} {Q : EQ} (hN : ∀ e w, (m11_5 R (e 4) (e 5) (e 7) (e 8) (e 11) w) → Q .normal e w) (e : Env) (w : World) (h : m11_21 R (e 4) (e 5) (e 7) (e 8) w) : W11 k11_21 Q e w := by
  unfold m11_21 at h
  exact rgA 8 (fun e w => m11_5 R (e 4) (e 5) (e 7) (e 8) (e 11) w) h hN
theorem s11_20 {R : VP} {Q : EQ} (hN : ∀ e w, (m11_5 R (e 4) (e 5) (e 7) (e 8) (e 11) w) → Q .normal e w) (e : Env) (w : World) (h : m11_20 R (e 4) (e 5) (e 7) (e 8) (e 11) (e 63) w) : W11 k11_20 Q e w := by
  unfold m11_20 at h
  refine coA (Operand.tmp 63) h (fun h1 => ?_) (fun h1 => ?_)
  · refine seA ?_
    have hN : ∀ e w, (m11_21 R (e 4) (e 5) (e 7) (e 8) w) → (thenE (W11 k11_21 Q) Q) .normal e w := fun e w h => then_N (s11_21 (R := R) (Q := Q) hN e w h)
    exact rgA 7 (fun e w => m11_21 R (e 4) (e 5) (e 7) (e 8) w) h1 hN
  · exact skA (hN _ _ h1)
theorem s11_4 {R : VP} {Q : EQ} (hR : ∀ e w, (valS Try.prog (loadC 26 (e 8)) w fun r0 =>
R (Value.tuple #[r0, (e 9), (e 10)]) w) → Q .ret e w) (e : Env) (w : World) (h : m11_4 R (e 4) (e 5) (e 7) (e 8) (e 11) (e 12) w) : W11 k11_4 Q e w := by
  unfold m11_4 at h
  refine seA ?_
  have hN : ∀ e w, (m11_5 R (e 4) (e 5) (e 7) (e 8) (e 11) w) → (thenE (W11 k11_5 Q) Q) .normal e w := fun e w h => then_N (s11_5 (R := R) (Q := Q) hR e w h)
  refine seA ?_
  have hN : ∀ e w, (m11_20 R (e 4) (e 5) (e 7) (e 8) (e 11) (e 63) w) → (thenE (W11 k11_20 (thenE (W11 k11_5 Q) Q)) (thenE (W11 k11_5 Q) Q)) .normal e w := fun e w h => then_N (s11_20 (R := R) (Q := (thenE (W11 k11_5 Q) Q)) hN e w h)
  exact rgA 6 (fun e w => m11_20 R (e 4) (e 5) (e 7) (e 8) (e 11) (e 63) w) h hN
theorem s11_3 {R : VP} {Q : EQ} (hR : ∀ e w, (valS Try.prog (loadC 26 (e 8)) w fun r0 =>
R (Value.tuple #[r0, (e 9), (e 10)]) w) → Q .ret e w) (e : Env) (w : World) (h : m11_3 R (e 2) (e 4) (e 5) (e 7) (e 8) w) : W11 k11_3 Q e w := by
  unfold m11_3 at h
  refine seA ?_
  have hN : ∀ e w, (m11_4 R (e 4) (e 5) (e 7) (e 8) (e 11) (e 12) w) → (thenE (W11 k11_4 Q) Q) .normal e w := fun e w h => then_N (s11_4 (R := R) (Q := Q) hR e w h)
  exact rgA 5 (fun e w => m11_4 R (e 4) (e 5) (e 7) (e 8) (e 11) (e 12) w) h hN
theorem s11_22 {R : VP} {Q : EQ} (hN : ∀ e w, (m11_3 R (e 2) (e 4) (e 5) (e 7) (e 8) w) → Q .normal e w) (hR : ∀ e w, (valS Try.prog (loadC 26 (e 8)) w fun r0 =>
R (Value.tuple #[r0, (e 9), (e 10)]) w) → Q .ret e w) (e : Env) (w : World) (h : m11_22 R (e 2) (e 4) (e 5) (e 7) (e 8) (e 43) w) : W11 k11_22 Q e w := by
  unfold m11_22 at h
  refine coA (Operand.tmp 43) h (fun h1 => ?_) (fun h1 => ?_)
  · refine seA ?_
    have hN : ∀ e w, (m11_23 R (e 8) (e 9) (e 10) w) → (thenE (W11 k11_23 Q) Q) .normal e w := fun e w h => then_N (s11_23 (R := R) (Q := Q) hR e w h)
    exact rgA 4 (fun e w => m11_23 R (e 8) (e 9) (e 10) w) h1 hN
  · exact skA (hN _ _ h1)
theorem s11_2 {R : VP} {Q : EQ} (hR : ∀ e w, (valS Try.prog (loadC 26 (e 8)) w fun r0 =>
R (Value.tuple #[r0, (e 9), (e 10)]) w) → Q .ret e w) (e : Env) (w : World) (h : m11_2 R (e 2) (e 4) (e 5) (e 7) (e 8) w) : W11 k11_2 Q e w := by
  unfold m11_2 at h
  refine seA ?_
  have hN : ∀ e w, (m11_3 R (e 2) (e 4) (e 5) (e 7) (e 8) w) → (thenE (W11 k11_3 Q) Q) .normal e w := fun e w h => then_N (s11_3 (R := R) (Q := Q) hR e w h)
  have hR : ∀ e w, (valS Try.prog (loadC 26 (e 8)) w fun r0 =>
  R (Value.tuple #[r0, (e 9), (e 10)]) w) → (thenE (W11 k11_3 Q) Q) .ret e w := fun e w h => then_R (hR e w h)
  refine seA ?_
  have hN : ∀ e w, (m11_22 R (e 2) (e 4) (e 5) (e 7) (e 8) (e 43) w) → (thenE (W11 k11_22 (thenE (W11 k11_3 Q) Q)) (thenE (W11 k11_3 Q) Q)) .normal e w := fun e w h => then_N (s11_22 (R := R) (Q := (thenE (W11 k11_3 Q) Q)) hN hR e w h)
  exact rgA 3 (fun e w => m11_22 R (e 2) (e 4) (e 5) (e 7) (e 8) (e 43) w) h hN
theorem s11_24 {R : VP} {Q : EQ} (hN : ∀ e w, (m11_2 R (e 2) (e 4) (e 5) (e 7) (e 8) w) → Q .normal e w) (hR : ∀ e w, (valS Try.prog (loadC 26 (e 8)) w fun r0 =>
R (Value.tuple #[r0, (e 9), (e 10)]) w) → Q .ret e w) (e : Env) (w : World) (h : m11_24 R (e 2) (e 4) (e 5) (e 7) (e 8) (e 39) w) : W11 k11_24 Q e w := by
  unfold m11_24 at h
  refine coA (Operand.tmp 39) h (fun h1 => ?_) (fun h1 => ?_)
  · refine seA ?_
    have hN : ∀ e w, (m11_25 R (e 8) (e 9) (e 10) w) → (thenE (W11 k11_25 Q) Q) .normal e w := fun e w h => then_N (s11_25 (R := R) (Q := Q) hR e w h)
    exact rgA 2 (fun e w => m11_25 R (e 8) (e 9) (e 10) w) h1 hN
  · exact skA (hN _ _ h1)
theorem s11_1 {R : VP} {Q : EQ} (hR : ∀ e w, (valS Try.prog (loadC 26 (e 8)) w fun r0 =>
R (Value.tuple #[r0, (e 9), (e 10)]) w) → Q .ret e w) (e : Env) (w : World) (h : m11_1 R (e 2) (e 4) (e 5) (e 7) (e 8) w) : W11 k11_1 Q e w := by
  unfold m11_1 at h
  refine seA ?_
  have hN : ∀ e w, (m11_2 R (e 2) (e 4) (e 5) (e 7) (e 8) w) → (thenE (W11 k11_2 Q) Q) .normal e w := fun e w h => then_N (s11_2 (R := R) (Q := Q) hR e w h)
  have hR : ∀ e w, (valS Try.prog (loadC 26 (e 8)) w fun r0 =>
  R (Value.tuple #[r0, (e 9), (e 10)]) w) → (thenE (W11 k11_2 Q) Q) .ret e w := fun e w h => then_R (hR e w h)
  refine seA ?_
  have hN : ∀ e w, (m11_24 R (e 2) (e 4) (e 5) (e 7) (e 8) (e 39) w) → (thenE (W11 k11_24 (thenE (W11 k11_2 Q) Q)) (thenE (W11 k11_2 Q) Q)) .normal e w := fun e w h => then_N (s11_24 (R := R) (Q := (thenE (W11 k11_2 Q) Q)) hN hR e w h)
  exact rgK 1 (fun e w => m11_24 R (e 2) (e 4) (e 5) (e 7) (e 8) (e 39) w) h hN
theorem s11_0 {R : VP} {Q : EQ} (hR : ∀ e w, (valS Try.prog (loadC 26 (e 8)) w fun r0 =>
R (Value.tuple #[r0, (e 9), (e 10)]) w) → Q .ret e w) (e : Env) (w : World) (h : m11_0 R (e 0) (e 1) (e 2) (e 3) w) : W11 k11_0 Q e w := by
  unfold m11_0 at h
  refine seA ?_
  have hN : ∀ e w, (m11_1 R (e 2) (e 4) (e 5) (e 7) (e 8) w) → (thenE (W11 k11_1 Q) Q) .normal e w := fun e w h => then_N (s11_1 (R := R) (Q := Q) hR e w h)
  exact rgA 0 (fun e w => m11_1 R (e 2) (e 4) (e 5) (e 7) (e 8) w) h hN
abbrev m11 (R : VP) (g0 f1 key2 e3 : Value) (w : World) : Prop := m11_0 R g0 f1 key2 e3 w
theorem s11 (g0 f1 key2 e3 : Value) {R : VP} {w : World} (h : m11 R g0 f1 key2 e3 w) :
    Calls Try.prog 11 #[g0, f1, key2, e3] w fun e w' => ∃ v, e = .returned v ∧ R v w' :=
  calls_of_cwp (st := (fun i => 0)) (c := k11_0) (by kernel_rfl) Try.func11 (by kernel_rfl) (Nat.le_of_ble_eq_true (by kernel_rfl)) (by kernel_rfl)
    (s11_0 (R := R) (Q := endE Try.prog Try.f11 R) (fun e w h => kcast (by kernel_rfl) h) (argsE #[g0, f1, key2, e3]) w (kcast (by kernel_rfl) h))
/-! ### headgate/headgateref28.Same -/
def m13_2 (R : VP) (t4 : Value) (w : World) : Prop :=
  R t4 w
def m13_1 (R : VP) (a2 b3 : Value) (w : World) : Prop :=
  valP Try.prog (Instr.fieldAt 26 a2 0) w fun t5 w =>
  valP Try.prog (Instr.loadAt 3 t5) w fun t6 w =>
  valP Try.prog (Instr.fieldAt 26 b3 0) w fun t7 w =>
  valP Try.prog (Instr.loadAt 3 t7) w fun t8 w =>
  valP Try.prog (binS BinOp.eql 3 (Operand.tmp 6) (Operand.tmp 8) t6 t8) w fun t9 w =>
  condP t9
  (valP Try.prog (Instr.fieldAt 26 a2 1) w fun t11 w =>
  valP Try.prog (Instr.loadAt 3 t11) w fun t12 w =>
  valP Try.prog (Instr.fieldAt 26 b3 1) w fun t13 w =>
  valP Try.prog (Instr.loadAt 3 t13) w fun t14 w =>
  valP Try.prog (binS BinOp.eql 3 (Operand.tmp 12) (Operand.tmp 14) t12 t14) w fun t15 w =>
  pickP t9 t15 (Value.bool false) fun t16 =>
  condP t16
  (valP Try.prog (Instr.fieldAt 26 a2 2) w fun t18 w =>
  valP Try.prog (Instr.loadAt 24 t18) w fun t19 w =>
  valP Try.prog (Instr.fieldAt 26 b3 2) w fun t20 w =>
  valP Try.prog (Instr.loadAt 24 t20) w fun t21 w =>
  callP Try.prog (fnV 14) #[t19, t21] w fun t22 w =>
  pickP t16 t22 (Value.bool false) fun t23 =>
  m13_2 R t23 w)
  (pickP t16 undef (Value.bool false) fun t23 =>
  m13_2 R t23 w))
  (pickP t9 undef (Value.bool false) fun t16 =>
  condP t16
  (valP Try.prog (Instr.fieldAt 26 a2 2) w fun t18 w =>
  valP Try.prog (Instr.loadAt 24 t18) w fun t19 w =>
  valP Try.prog (Instr.fieldAt 26 b3 2) w fun t20 w =>
  valP Try.prog (Instr.loadAt 24 t20) w fun t21 w =>
  callP Try.prog (fnV 14) #[t19, t21] w fun t22 w =>
  pickP t16 t22 (Value.bool false) fun t23 =>
  m13_2 R t23 w)
  (pickP t16 undef (Value.bool false) fun t23 =>
  m13_2 R t23 w))
def m13_0 (R : VP) (a0 b1 : Value) (w : World) : Prop :=
  valP Try.prog (Instr.box 26 a0) w fun a2 w =>
  valP Try.prog (Instr.box 26 b1) w fun b3 w =>
  m13_1 R a2 b3 w
abbrev W13 := cwp Try.prog (fun i => 0)
noncomputable def k13_0 : Code := (bodyOf Try.f13)
noncomputable def k13_1 : Code := (c2 k13_0)
noncomputable def k13_2 : Code := (c2 k13_1)
theorem s13_2 {R : VP} {Q : EQ} (hR : ∀ e w, (R (e 4) w) → Q .ret e w) (e : Env) (w : World) (h : m13_2 R (e 4) w) : W13 k13_2 Q e w := by
  unfold m13_2 at h
  exact reA (hR _ _ h)
theorem s13_1 {R : VP} {Q : EQ} (hR : ∀ e w, (R (e 4) w) → Q .ret e w) (e : Env) (w : World) (h : m13_1 R (e 2) (e 3) w) : W13 k13_1 Q e w := by
  unfold m13_1 at h
  refine seA ?_
  have hN : ∀ e w, (m13_2 R (e 4) w) → (thenE (W13 k13_2 Q) Q) .normal e w := fun e w h => then_N (s13_2 (R := R) (Q := Q) hR e w h)
  exact rgA 1 (fun e w => m13_2 R (e 4) w) h hN
theorem s13_0 {R : VP} {Q : EQ} (hR : ∀ e w, (R (e 4) w) → Q .ret e w) (e : Env) (w : World) (h : m13_0 R (e 0) (e 1) w) : W13 k13_0 Q e w := by
  unfold m13_0 at h
  refine seA ?_
  have hN : ∀ e w, (m13_1 R (e 2) (e 3) w) → (thenE (W13 k13_1 Q) Q) .normal e w := fun e w h => then_N (s13_1 (R := R) (Q := Q) hR e w h)
  exact rgA 0 (fun e w => m13_1 R (e 2) (e 3) w) h hN
abbrev m13 (R : VP) (a0 b1 : Value) (w : World) : Prop := m13_0 R a0 b1 w
theorem s13 (a0 b1 : Value) {R : VP} {w : World} (h : m13 R a0 b1 w) :
    Calls Try.prog 13 #[a0, b1] w fun e w' => ∃ v, e = .returned v ∧ R v w' :=
  calls_of_cwp (st := (fun i => 0)) (c := k13_0) (by kernel_rfl) Try.func13 (by kernel_rfl) (Nat.le_of_ble_eq_true (by kernel_rfl)) (by kernel_rfl)
    (s13_0 (R := R) (Q := endE Try.prog Try.f13 R) (fun e w h => kcast (by kernel_rfl) h) (argsE #[a0, b1]) w (kcast (by kernel_rfl) h))
/-! ### headgate/headgateref28.SameSpans -/
def m14_21 (R : VP) (t4 : Value) (w : World) : Prop :=
  R t4 w
def m14_18 (R : VP) (K1 : VP) (t4 : Value) (w : World) : Prop :=
  R t4 w
def m14_15 (R : VP) (K1 : VP) (K2 : VP) (t4 : Value) (w : World) : Prop :=
  R t4 w
def m14_13 (R : VP) (K1 : VP) (K2 : VP) (a0 b1 i5 k6 : Value) (w : World) : Prop :=
  valP Try.prog (binS BinOp.add 3 (Operand.tmp 52) (Operand.const (Value.int IntKind.i64 1)) k6 (Value.int IntKind.i64 1)) w fun t53 w =>
  K2 t53 w
def m14_14 (R : VP) (K1 : VP) (K2 : VP) (a0 b1 i5 k6 t70 : Value) (w : World) : Prop :=
  condP t70
  (m14_15 R K1 K2 (Value.bool false) w)
  (m14_13 R K1 K2 a0 b1 i5 k6 w)
def m14_12 (R : VP) (K1 : VP) (K2 : VP) (a0 b1 i5 k6 : Value) (w : World) : Prop :=
  valQ Try.prog (Instr.indexAt 24 a0 i5) w fun t56 =>
  valQ Try.prog (Instr.fieldAt 33 t56 1) w fun t57 =>
  valQ Try.prog (Instr.loadAt 31 t57) w fun t58 =>
  valQ Try.prog (Instr.indexAt 31 t58 k6) w fun t60 =>
  valQ Try.prog (Instr.loadAt 28 t60) w fun t61 =>
  valQ Try.prog (Instr.indexAt 24 b1 i5) w fun t64 =>
  valQ Try.prog (Instr.fieldAt 33 t64 1) w fun t65 =>
  valQ Try.prog (Instr.loadAt 31 t65) w fun t66 =>
  valQ Try.prog (Instr.indexAt 31 t66 k6) w fun t68 =>
  valQ Try.prog (Instr.loadAt 28 t68) w fun t69 =>
  valQ Try.prog (binS BinOp.neq 28 (Operand.tmp 61) (Operand.tmp 69) t61 t69) w fun t70 =>
  anyDraw w fun w =>
  m14_14 R K1 K2 a0 b1 i5 k6 t70 w
def m14_8 (R : VP) (K1 : VP) (a0 b1 i5 : Value) (w : World) : Prop :=
  valP Try.prog (binS BinOp.add 3 (Operand.tmp 16) (Operand.const (Value.int IntKind.i64 1)) i5 (Value.int IntKind.i64 1)) w fun t17 w =>
  K1 t17 w
def m14_16 (R : VP) (K1 : VP) (K2 : VP) (a0 b1 i5 k6 t51 : Value) (w : World) : Prop :=
  condP t51
  (m14_12 R K1 K2 a0 b1 i5 k6 w)
  (m14_8 R K1 a0 b1 i5 w)
def m14_11 (R : VP) (K1 : VP) (K2 : VP) (a0 b1 i5 k6 : Value) (w : World) : Prop :=
  valP Try.prog (Instr.indexAt 24 a0 i5) w fun t47 w =>
  valP Try.prog (Instr.fieldAt 33 t47 1) w fun t48 w =>
  valP Try.prog (Instr.loadAt 31 t48) w fun t49 w =>
  builtinP Try.prog Builtin.len #[31] 3 #[false] #[t49] w fun t50 w =>
  valP Try.prog (binS BinOp.lss 3 (Operand.tmp 44) (Operand.tmp 50) k6 t50) w fun t51 w =>
  m14_16 R K1 K2 a0 b1 i5 k6 t51 w
def m14_10 (R : VP) (K1 : VP) (a0 b1 i5 k6 : Value) (w : World) : Prop :=
  loopP (fun (K2 : VP) (s : Value) w => m14_11 R K1 K2 a0 b1 i5 s w) k6 w
def m14_9 (R : VP) (K1 : VP) (a0 b1 i5 : Value) (w : World) : Prop :=
  m14_10 R K1 a0 b1 i5 (Value.int IntKind.i64 0) w
def m14_17 (R : VP) (K1 : VP) (a0 b1 i5 t43 : Value) (w : World) : Prop :=
  condP t43
  (m14_18 R K1 (Value.bool false) w)
  (m14_9 R K1 a0 b1 i5 w)
def m14_7 (R : VP) (K1 : VP) (a0 b1 i5 : Value) (w : World) : Prop :=
  valQ Try.prog (Instr.indexAt 24 a0 i5) w fun t20 =>
  valQ Try.prog (Instr.fieldAt 33 t20 0) w fun t21 =>
  valQ Try.prog (Instr.loadAt 3 t21) w fun t22 =>
  valQ Try.prog (Instr.indexAt 24 b1 i5) w fun t25 =>
  valQ Try.prog (Instr.fieldAt 33 t25 0) w fun t26 =>
  valQ Try.prog (Instr.loadAt 3 t26) w fun t27 =>
  valQ Try.prog (binS BinOp.neq 3 (Operand.tmp 22) (Operand.tmp 27) t22 t27) w fun t28 =>
  condP t28
  (pickP t28 (Value.bool true) undef fun t43 =>
  anyDraw w fun w =>
  m14_17 R K1 a0 b1 i5 t43 w)
  (valQ Try.prog (Instr.indexAt 24 a0 i5) w fun t32 =>
  valQ Try.prog (Instr.fieldAt 33 t32 1) w fun t33 =>
  valQ Try.prog (Instr.loadAt 31 t33) w fun t34 =>
  builtinQ Try.prog Builtin.len #[31] 3 #[false] #[t34] w fun t35 =>
  valQ Try.prog (Instr.indexAt 24 b1 i5) w fun t38 =>
  valQ Try.prog (Instr.fieldAt 33 t38 1) w fun t39 =>
  valQ Try.prog (Instr.loadAt 31 t39) w fun t40 =>
  builtinQ Try.prog Builtin.len #[31] 3 #[false] #[t40] w fun t41 =>
  valQ Try.prog (binS BinOp.neq 3 (Operand.tmp 35) (Operand.tmp 41) t35 t41) w fun t42 =>
  pickP t28 (Value.bool true) t42 fun t43 =>
  anyDraw w fun w =>
  m14_17 R K1 a0 b1 i5 t43 w)
def m14_4 (R : VP) (t4 : Value) (w : World) : Prop :=
  R t4 w
def m14_3 (R : VP) (w : World) : Prop :=
  m14_4 R (Value.bool true) w
def m14_19 (R : VP) (K1 : VP) (a0 b1 i5 t15 : Value) (w : World) : Prop :=
  condP t15
  (m14_7 R K1 a0 b1 i5 w)
  (m14_3 R w)
def m14_6 (R : VP) (K1 : VP) (a0 b1 i5 : Value) (w : World) : Prop :=
  builtinP Try.prog Builtin.len #[24] 3 #[false] #[a0] w fun t14 w =>
  valP Try.prog (binS BinOp.lss 3 (Operand.tmp 12) (Operand.tmp 14) i5 t14) w fun t15 w =>
  m14_19 R K1 a0 b1 i5 t15 w
def m14_5 (R : VP) (a0 b1 i5 : Value) (w : World) : Prop :=
  loopP (fun (K1 : VP) (s : Value) w => m14_6 R K1 a0 b1 s w) i5 w
def m14_2 (R : VP) (a0 b1 : Value) (w : World) : Prop :=
  m14_5 R a0 b1 (Value.int IntKind.i64 0) w
def m14_20 (R : VP) (a0 b1 t11 : Value) (w : World) : Prop :=
  condP t11
  (m14_21 R (Value.bool false) w)
  (m14_2 R a0 b1 w)
def m14_1 (R : VP) (a0 b1 : Value) (w : World) : Prop :=
  builtinP Try.prog Builtin.len #[24] 3 #[false] #[a0] w fun t8 w =>
  builtinP Try.prog Builtin.len #[24] 3 #[false] #[b1] w fun t10 w =>
  valP Try.prog (binS BinOp.neq 3 (Operand.tmp 8) (Operand.tmp 10) t8 t10) w fun t11 w =>
  m14_20 R a0 b1 t11 w
def m14_0 (R : VP) (a0 b1 : Value) (w : World) : Prop :=
  m14_1 R a0 b1 w
abbrev W14 := cwp Try.prog (fun i => cond (Nat.beq i 11) 1 (cond (Nat.beq i 6) 1 (0)))
noncomputable def k14_0 : Code := (bodyOf Try.f14)
noncomputable def k14_1 : Code := (c2 k14_0)
noncomputable def k14_2 : Code := (c2 k14_1)
noncomputable def k14_3 : Code := (c2 k14_2)
noncomputable def k14_4 : Code := (c2 k14_3)
noncomputable def k14_5 : Code := (c2 (c1 k14_2))
noncomputable def k14_6 : Code := (c1 (c1 k14_5))
noncomputable def k14_7 : Code := (c2 k14_6)
noncomputable def k14_8 : Code := (c2 k14_7)
noncomputable def k14_9 : Code := (c2 (c1 (c1 k14_7)))
noncomputable def k14_10 : Code := (c2 k14_9)
noncomputable def k14_11 : Code := (c1 (c1 k14_10))
noncomputable def k14_12 : Code := (c2 k14_11)
noncomputable def k14_13 : Code := (c2 k14_12)
noncomputable def k14_14 : Code := (c2 (c1 (c1 k14_12)))
noncomputable def k14_15 : Code := (c2 (c1 k14_14))
noncomputable def k14_16 : Code := (c2 (c1 k14_11))
noncomputable def k14_17 : Code := (c2 (c1 (c1 (c1 k14_7))))
noncomputable def k14_18 : Code := (c2 (c1 k14_17))
noncomputable def k14_19 : Code := (c2 (c1 k14_6))
noncomputable def k14_20 : Code := (c2 (c1 k14_1))
noncomputable def k14_21 : Code := (c2 (c1 k14_20))
theorem s14_21 {R : VP} {Q : EQ} (hR : ∀ e w, (R (e 4) w) → Q .ret e w) (e : Env) (w : World) (h : m14_21 R (e 4) w) : W14 k14_21 Q e w := by
  unfold m14_21 at h
  exact reA (hR _ _ h)
theorem s14_18 {R : VP} {K1 : VP} {Q : EQ} (hR : ∀ e w, (R (e 4) w) → Q .ret e w) (e : Env) (w : World) (h : m14_18 R K1 (e 4) w) : W14 k14_18 Q e w := by
  unfold m14_18 at h
  exact reA (hR _ _ h)
theorem s14_15 {R : VP} {K1 : VP} {K2 : VP} {Q : EQ} (hR : ∀ e w, (R (e 4) w) → Q .ret e w) (e : Env) (w : World) (h : m14_15 R K1 K2 (e 4) w) : W14 k14_15 Q e w := by
  unfold m14_15 at h
  exact reA (hR _ _ h)
theorem s14_13 {R : VP} {K1 : VP} {K2 : VP} {Q : EQ} (hN : ∀ e w, (K2 (e 6) w) → Q .normal e w) (e : Env) (w : World) (h : m14_13 R K1 K2 (e 0) (e 1) (e 5) (e 6) w) : W14 k14_13 Q e w := by
  unfold m14_13 at h
  exact rgA 10 (fun e w => K2 (e 6) w) h hN
theorem s14_14 {R : VP} {K1 : VP} {K2 : VP} {Q : EQ} (hN : ∀ e w, (m14_13 R K1 K2 (e 0) (e 1) (e 5) (e 6) w) → Q .normal e w) (hR : ∀ e w, (R (e 4) w) → Q .ret e w) (e : Env) (w : World) (h : m14_14 R K1 K2 (e 0) (e 1) (e 5) (e 6) (e 70) w) : W14 k14_14 Q e w := by
  unfold m14_14 at h
  refine coA (Operand.tmp 70) h (fun h1 => ?_) (fun h1 => ?_)
  · refine seA ?_
    have hN : ∀ e w, (m14_15 R K1 K2 (e 4) w) → (thenE (W14 k14_15 Q) Q) .normal e w := fun e w h => then_N (s14_15 (R := R) (Q := Q) (K1 := K1) (K2 := K2) hR e w h)
    exact rgA 12 (fun e w => m14_15 R K1 K2 (e 4) w) h1 hN
  · exact skA (hN _ _ h1)
theorem s14_12 {R : VP} {K1 : VP} {K2 : VP} {Q : EQ} (hN : ∀ e w, (K2 (e 6) w) → Q .normal e w) (hR : ∀ e w, (R (e 4) w) → Q .ret e w) (e : Env) (w : World) (h : m14_12 R K1 K2 (e 0) (e 1) (e 5) (e 6) w) : W14 k14_12 Q e w := by
  unfold m14_12 at h
  refine seA ?_
  have hN : ∀ e w, (m14_13 R K1 K2 (e 0) (e 1) (e 5) (e 6) w) → (thenE (W14 k14_13 Q) Q) .normal e w := fun e w h => then_N (s14_13 (R := R) (Q := Q) (K1 := K1) (K2 := K2) hN e w h)
  have hR : ∀ e w, (R (e 4) w) → (thenE (W14 k14_13 Q) Q) .ret e w := fun e w h => then_R (hR e w h)
  refine block_ok 3 (by kernel_rfl) ?_
  have hN : ∀ e w, (m14_13 R K1 K2 (e 0) (e 1) (e 5) (e 6) w) → (inBlockE 3 (thenE (W14 k14_13 Q) Q)) .normal e w := fun e w h => block_N (hN e w h)
  have hR : ∀ e w, (R (e 4) w) → (inBlockE 3 (thenE (W14 k14_13 Q) Q)) .ret e w := fun e w h => block_R (hR e w h)
  refine seA ?_
  have hN : ∀ e w, (m14_14 R K1 K2 (e 0) (e 1) (e 5) (e 6) (e 70) w) → (thenE (W14 k14_14 (inBlockE 3 (thenE (W14 k14_13 Q) Q))) (inBlockE 3 (thenE (W14 k14_13 Q) Q))) .normal e w := fun e w h => then_N (s14_14 (R := R) (Q := (inBlockE 3 (thenE (W14 k14_13 Q) Q))) (K1 := K1) (K2 := K2) hN hR e w h)
  exact quA 11 (fun e w => m14_14 R K1 K2 (e 0) (e 1) (e 5) (e 6) (e 70) w) h hN
theorem s14_8 {R : VP} {K1 : VP} {Q : EQ} (hN : ∀ e w, (K1 (e 5) w) → Q .normal e w) (e : Env) (w : World) (h : m14_8 R K1 (e 0) (e 1) (e 5) w) : W14 k14_8 Q e w := by
  unfold m14_8 at h
  exact rgA 5 (fun e w => K1 (e 5) w) h hN
theorem s14_16 {R : VP} {K1 : VP} {K2 : VP} {Q : EQ} (hN : ∀ e w, (m14_12 R K1 K2 (e 0) (e 1) (e 5) (e 6) w) → Q .normal e w) (hX2 : ∀ e w, (m14_8 R K1 (e 0) (e 1) (e 5) w) → Q (.exit 2) e w) (e : Env) (w : World) (h : m14_16 R K1 K2 (e 0) (e 1) (e 5) (e 6) (e 51) w) : W14 k14_16 Q e w := by
  unfold m14_16 at h
  refine coA (Operand.tmp 51) h (fun h1 => ?_) (fun h1 => ?_)
  · exact skA (hN _ _ h1)
  · exact exA 2 (hX2 _ _ h1)
theorem s14_11 {R : VP} {K1 : VP} {K2 : VP} {Q : EQ} (hN : ∀ e w, (K2 (e 6) w) → Q .normal e w) (hR : ∀ e w, (R (e 4) w) → Q .ret e w) (hX2 : ∀ e w, (m14_8 R K1 (e 0) (e 1) (e 5) w) → Q (.exit 2) e w) (e : Env) (w : World) (h : m14_11 R K1 K2 (e 0) (e 1) (e 5) (e 6) w) : W14 k14_11 Q e w := by
  unfold m14_11 at h
  refine seA ?_
  have hN : ∀ e w, (m14_12 R K1 K2 (e 0) (e 1) (e 5) (e 6) w) → (thenE (W14 k14_12 Q) Q) .normal e w := fun e w h => then_N (s14_12 (R := R) (Q := Q) (K1 := K1) (K2 := K2) hN hR e w h)
  have hX2 : ∀ e w, (m14_8 R K1 (e 0) (e 1) (e 5) w) → (thenE (W14 k14_12 Q) Q) (.exit 2) e w := fun e w h => then_X (hX2 e w h)
  refine seA ?_
  have hN : ∀ e w, (m14_16 R K1 K2 (e 0) (e 1) (e 5) (e 6) (e 51) w) → (thenE (W14 k14_16 (thenE (W14 k14_12 Q) Q)) (thenE (W14 k14_12 Q) Q)) .normal e w := fun e w h => then_N (s14_16 (R := R) (Q := (thenE (W14 k14_12 Q) Q)) (K1 := K1) (K2 := K2) hN hX2 e w h)
  exact rgA 9 (fun e w => m14_16 R K1 K2 (e 0) (e 1) (e 5) (e 6) (e 51) w) h hN
theorem s14_10 {R : VP} {K1 : VP} {Q : EQ} (hN : ∀ e w, (m14_8 R K1 (e 0) (e 1) (e 5) w) → Q .normal e w) (hR : ∀ e w, (R (e 4) w) → Q .ret e w) (e : Env) (w : World) (h : m14_10 R K1 (e 0) (e 1) (e 5) (e 6) w) : W14 k14_10 Q e w := by
  unfold m14_10 at h
  refine block_ok 2 (by kernel_rfl) ?_
  have hX2 : ∀ e w, (m14_8 R K1 (e 0) (e 1) (e 5) w) → (inBlockE 2 Q) (.exit 2) e w := fun e w h => inBlock_same (Q := Q) 2 (hN e w h)
  have hR : ∀ e w, (R (e 4) w) → (inBlockE 2 Q) .ret e w := fun e w h => block_R (hR e w h)
  refine loop_ok' (fun (e : Env) => e 6) [0, 1, 5] (by kernel_rfl) (by kernel_rfl) h (fun K e' w' hk h' => ?_)
  have r0 : e' 0 = e 0 := hk 0 (by decide)
  have r1 : e' 1 = e 1 := hk 1 (by decide)
  have r5 : e' 5 = e 5 := hk 5 (by decide)
  have hR : ∀ e w, (R (e 4) w) → (thenE (fun (e : Env) w => K (e 6) w) (inBlockE 2 Q)) .ret e w := fun e w h => then_R (hR e w h)
  have hX2 : ∀ e w, (m14_8 R K1 (e 0) (e 1) (e 5) w) → (thenE (fun (e : Env) w => K (e 6) w) (inBlockE 2 Q)) (.exit 2) e w := fun e w h => then_X (hX2 e w h)
  exact s14_11 (R := R) (Q := (thenE (fun (e : Env) w => K (e 6) w) (inBlockE 2 Q))) (K1 := K1) (K2 := K) (fun _ _ h => then_N h) hR hX2 e' w' (by rw [r0, r1, r5]; exact h')
theorem s14_9 {R : VP} {K1 : VP} {Q : EQ} (hN : ∀ e w, (m14_8 R K1 (e 0) (e 1) (e 5) w) → Q .normal e w) (hR : ∀ e w, (R (e 4) w) → Q .ret e w) (e : Env) (w : World) (h : m14_9 R K1 (e 0) (e 1) (e 5) w) : W14 k14_9 Q e w := by
  unfold m14_9 at h
  refine seA ?_
  have hN : ∀ e w, (m14_10 R K1 (e 0) (e 1) (e 5) (e 6) w) → (thenE (W14 k14_10 Q) Q) .normal e w := fun e w h => then_N (s14_10 (R := R) (Q := Q) (K1 := K1) hN hR e w h)
  exact rgA 8 (fun e w => m14_10 R K1 (e 0) (e 1) (e 5) (e 6) w) h hN
theorem s14_17 {R : VP} {K1 : VP} {Q : EQ} (hN : ∀ e w, (m14_9 R K1 (e 0) (e 1) (e 5) w) → Q .normal e w) (hR : ∀ e w, (R (e 4) w) → Q .ret e w) (e : Env) (w : World) (h : m14_17 R K1 (e 0) (e 1) (e 5) (e 43) w) : W14 k14_17 Q e w := by
  unfold m14_17 at h
  refine coA (Operand.tmp 43) h (fun h1 => ?_) (fun h1 => ?_)
  · refine seA ?_
    have hN : ∀ e w, (m14_18 R K1 (e 4) w) → (thenE (W14 k14_18 Q) Q) .normal e w := fun e w h => then_N (s14_18 (R := R) (Q := Q) (K1 := K1) hR e w h)
    exact rgA 7 (fun e w => m14_18 R K1 (e 4) w) h1 hN
  · exact skA (hN _ _ h1)
theorem s14_7 {R : VP} {K1 : VP} {Q : EQ} (hN : ∀ e w, (K1 (e 5) w) → Q .normal e w) (hR : ∀ e w, (R (e 4) w) → Q .ret e w) (e : Env) (w : World) (h : m14_7 R K1 (e 0) (e 1) (e 5) w) : W14 k14_7 Q e w := by
  unfold m14_7 at h
  refine seA ?_
  have hN : ∀ e w, (m14_8 R K1 (e 0) (e 1) (e 5) w) → (thenE (W14 k14_8 Q) Q) .normal e w := fun e w h => then_N (s14_8 (R := R) (Q := Q) (K1 := K1) hN e w h)
  have hR : ∀ e w, (R (e 4) w) → (thenE (W14 k14_8 Q) Q) .ret e w := fun e w h => then_R (hR e w h)
  refine block_ok 1 (by kernel_rfl) ?_
  have hN : ∀ e w, (m14_8 R K1 (e 0) (e 1) (e 5) w) → (inBlockE 1 (thenE (W14 k14_8 Q) Q)) .normal e w := fun e w h => block_N (hN e w h)
  have hR : ∀ e w, (R (e 4) w) → (inBlockE 1 (thenE (W14 k14_8 Q) Q)) .ret e w := fun e w h => block_R (hR e w h)
  refine seA ?_
  have hN : ∀ e w, (m14_9 R K1 (e 0) (e 1) (e 5) w) → (thenE (W14 k14_9 (inBlockE 1 (thenE (W14 k14_8 Q) Q))) (inBlockE 1 (thenE (W14 k14_8 Q) Q))) .normal e w := fun e w h => then_N (s14_9 (R := R) (Q := (inBlockE 1 (thenE (W14 k14_8 Q) Q))) (K1 := K1) hN hR e w h)
  have hR : ∀ e w, (R (e 4) w) → (thenE (W14 k14_9 (inBlockE 1 (thenE (W14 k14_8 Q) Q))) (inBlockE 1 (thenE (W14 k14_8 Q) Q))) .ret e w := fun e w h => then_R (hR e w h)
  refine seA ?_
  have hN : ∀ e w, (m14_17 R K1 (e 0) (e 1) (e 5) (e 43) w) → (thenE (W14 k14_17 (thenE (W14 k14_9 (inBlockE 1 (thenE (W14 k14_8 Q) Q))) (inBlockE 1 (thenE (W14 k14_8 Q) Q)))) (thenE (W14 k14_9 (inBlockE 1 (thenE (W14 k14_8 Q) Q))) (inBlockE 1 (thenE (W14 k14_8 Q) Q)))) .normal e w := fun e w h => then_N (s14_17 (R := R) (Q := (thenE (W14 k14_9 (inBlockE 1 (thenE (W14 k14_8 Q) Q))) (inBlockE 1 (thenE (W14 k14_8 Q) Q)))) (K1 := K1) hN hR e w h)
  exact quA 6 (fun e w => m14_17 R K1 (e 0) (e 1) (e 5) (e 43) w) h hN
theorem s14_4 {R : VP} {Q : EQ} (hR : ∀ e w, (R (e 4) w) → Q .ret e w) (e : Env) (w : World) (h : m14_4 R (e 4) w) : W14 k14_4 Q e w := by
  unfold m14_4 at h
  exact reA (hR _ _ h)
theorem s14_3 {R : VP} {Q : EQ} (hR : ∀ e w, (R (e 4) w) → Q .ret e w) (e : Env) (w : World) (h : m14_3 R w) : W14 k14_3 Q e w := by
  unfold m14_3 at h
  refine seA ?_
  have hN : ∀ e w, (m14_4 R (e 4) w) → (thenE (W14 k14_4 Q) Q) .normal e w := fun e w h => then_N (s14_4 (R := R) (Q := Q) hR e w h)
  exact rgA 13 (fun e w => m14_4 R (e 4) w) h hN
theorem s14_19 {R : VP} {K1 : VP} {Q : EQ} (hN : ∀ e w, (m14_7 R K1 (e 0) (e 1) (e 5) w) → Q .normal e w) (hX0 : ∀ e w, (m14_3 R w) → Q (.exit 0) e w) (e : Env) (w : World) (h : m14_19 R K1 (e 0) (e 1) (e 5) (e 15) w) : W14 k14_19 Q e w := by
  unfold m14_19 at h
  refine coA (Operand.tmp 15) h (fun h1 => ?_) (fun h1 => ?_)
  · exact skA (hN _ _ h1)
  · exact exA 0 (hX0 _ _ h1)
theorem s14_6 {R : VP} {K1 : VP} {Q : EQ} (hN : ∀ e w, (K1 (e 5) w) → Q .normal e w) (hR : ∀ e w, (R (e 4) w) → Q .ret e w) (hX0 : ∀ e w, (m14_3 R w) → Q (.exit 0) e w) (e : Env) (w : World) (h : m14_6 R K1 (e 0) (e 1) (e 5) w) : W14 k14_6 Q e w := by
  unfold m14_6 at h
  refine seA ?_
  have hN : ∀ e w, (m14_7 R K1 (e 0) (e 1) (e 5) w) → (thenE (W14 k14_7 Q) Q) .normal e w := fun e w h => then_N (s14_7 (R := R) (Q := Q) (K1 := K1) hN hR e w h)
  have hX0 : ∀ e w, (m14_3 R w) → (thenE (W14 k14_7 Q) Q) (.exit 0) e w := fun e w h => then_X (hX0 e w h)
  refine seA ?_
  have hN : ∀ e w, (m14_19 R K1 (e 0) (e 1) (e 5) (e 15) w) → (thenE (W14 k14_19 (thenE (W14 k14_7 Q) Q)) (thenE (W14 k14_7 Q) Q)) .normal e w := fun e w h => then_N (s14_19 (R := R) (Q := (thenE (W14 k14_7 Q) Q)) (K1 := K1) hN hX0 e w h)
  exact rgA 4 (fun e w => m14_19 R K1 (e 0) (e 1) (e 5) (e 15) w) h hN
theorem s14_5 {R : VP} {Q : EQ} (hN : ∀ e w, (m14_3 R w) → Q .normal e w) (hR : ∀ e w, (R (e 4) w) → Q .ret e w) (e : Env) (w : World) (h : m14_5 R (e 0) (e 1) (e 5) w) : W14 k14_5 Q e w := by
  unfold m14_5 at h
  refine block_ok 0 (by kernel_rfl) ?_
  have hX0 : ∀ e w, (m14_3 R w) → (inBlockE 0 Q) (.exit 0) e w := fun e w h => inBlock_same (Q := Q) 0 (hN e w h)
  have hR : ∀ e w, (R (e 4) w) → (inBlockE 0 Q) .ret e w := fun e w h => block_R (hR e w h)
  refine loop_ok' (fun (e : Env) => e 5) [0, 1] (by kernel_rfl) (by kernel_rfl) h (fun K e' w' hk h' => ?_)
  have r0 : e' 0 = e 0 := hk 0 (by decide)
  have r1 : e' 1 = e 1 := hk 1 (by decide)
  have hR : ∀ e w, (R (e 4) w) → (thenE (fun (e : Env) w => K (e 5) w) (inBlockE 0 Q)) .ret e w := fun e w h => then_R (hR e w h)
  have hX0 : ∀ e w, (m14_3 R w) → (thenE (fun (e : Env) w => K (e 5) w) (inBlockE 0 Q)) (.exit 0) e w := fun e w h => then_X (hX0 e w h)
  exact s14_6 (R := R) (Q := (thenE (fun (e : Env) w => K (e 5) w) (inBlockE 0 Q))) (K1 := K) (fun _ _ h => then_N h) hR hX0 e' w' (by rw [r0, r1]; exact h')
theorem s14_2 {R : VP} {Q : EQ} (hR : ∀ e w, (R (e 4) w) → Q .ret e w) (e : Env) (w : World) (h : m14_2 R (e 0) (e 1) w) : W14 k14_2 Q e w := by
  unfold m14_2 at h
  refine seA ?_
  have hN : ∀ e w, (m14_3 R w) → (thenE (W14 k14_3 Q) Q) .normal e w := fun e w h => then_N (s14_3 (R := R) (Q := Q) hR e w h)
  have hR : ∀ e w, (R (e 4) w) → (thenE (W14 k14_3 Q) Q) .ret e w := fun e w h => then_R (hR e w h)
  refine seA ?_
  have hN : ∀ e w, (m14_5 R (e 0) (e 1) (e 5) w) → (thenE (W14 k14_5 (thenE (W14 k14_3 Q) Q)) (thenE (W14 k14_3 Q) Q)) .normal e w := fun e w h => then_N (s14_5 (R := R) (Q := (thenE (W14 k14_3 Q) Q)) hN hR e w h)
  exact rgA 3 (fun e w => m14_5 R (e 0) (e 1) (e 5) w) h hN
theorem s14_20 {R : VP} {Q : EQ} (hN : ∀ e w, (m14_2 R (e 0) (e 1) w) → Q .normal e w) (hR : ∀ e w, (R (e 4) w) → Q .ret e w) (e : Env) (w : World) (h : m14_20 R (e 0) (e 1) (e 11) w) : W14 k14_20 Q e w := by
  unfold m14_20 at h
  refine coA (Operand.tmp 11) h (fun h1 => ?_) (fun h1 => ?_)
  · refine seA ?_
    have hN : ∀ e w, (m14_21 R (e 4) w) → (thenE (W14 k14_21 Q) Q) .normal e w := fun e w h => then_N (s14_21 (R := R) (Q := Q) hR e w h)
    exact rgA 2 (fun e w => m14_21 R (e 4) w) h1 hN
  · exact skA (hN _ _ h1)
theorem s14_1 {R : VP} {Q : EQ} (hR : ∀ e w, (R (e 4) w) → Q .ret e w) (e : Env) (w : World) (h : m14_1 R (e 0) (e 1) w) : W14 k14_1 Q e w := by
  unfold m14_1 at h
  refine seA ?_
  have hN : ∀ e w, (m14_2 R (e 0) (e 1) w) → (thenE (W14 k14_2 Q) Q) .normal e w := fun e w h => then_N (s14_2 (R := R) (Q := Q) hR e w h)
  have hR : ∀ e w, (R (e 4) w) → (thenE (W14 k14_2 Q) Q) .ret e w := fun e w h => then_R (hR e w h)
  refine seA ?_
  have hN : ∀ e w, (m14_20 R (e 0) (e 1) (e 11) w) → (thenE (W14 k14_20 (thenE (W14 k14_2 Q) Q)) (thenE (W14 k14_2 Q) Q)) .normal e w := fun e w h => then_N (s14_20 (R := R) (Q := (thenE (W14 k14_2 Q) Q)) hN hR e w h)
  exact rgA 1 (fun e w => m14_20 R (e 0) (e 1) (e 11) w) h hN
theorem s14_0 {R : VP} {Q : EQ} (hR : ∀ e w, (R (e 4) w) → Q .ret e w) (e : Env) (w : World) (h : m14_0 R (e 0) (e 1) w) : W14 k14_0 Q e w := by
  unfold m14_0 at h
  refine seA ?_
  have hN : ∀ e w, (m14_1 R (e 0) (e 1) w) → (thenE (W14 k14_1 Q) Q) .normal e w := fun e w h => then_N (s14_1 (R := R) (Q := Q) hR e w h)
  exact rgA 0 (fun e w => m14_1 R (e 0) (e 1) w) h hN
abbrev m14 (R : VP) (a0 b1 : Value) (w : World) : Prop := m14_0 R a0 b1 w
theorem s14 (a0 b1 : Value) {R : VP} {w : World} (h : m14 R a0 b1 w) :
    Calls Try.prog 14 #[a0, b1] w fun e w' => ∃ v, e = .returned v ∧ R v w' :=
  calls_of_cwp (st := (fun i => cond (Nat.beq i 11) 1 (cond (Nat.beq i 6) 1 (0)))) (c := k14_0) (by kernel_rfl) Try.func14 (by kernel_rfl) (Nat.le_of_ble_eq_true (by kernel_rfl)) (by kernel_rfl)
    (s14_0 (R := R) (Q := endE Try.prog Try.f14 R) (fun e w h => kcast (by kernel_rfl) h) (argsE #[a0, b1]) w (kcast (by kernel_rfl) h))
/-! ### headgate/headgateref28.MayFlow -/
def m16_21 (R : VP) (t4 : Value) (w : World) : Prop :=
  R t4 w
def m16_18 (R : VP) (K1 : VP) (t4 : Value) (w : World) : Prop :=
  R t4 w
def m16_15 (R : VP) (K1 : VP) (K2 : VP) (t4 : Value) (w : World) : Prop :=
  R t4 w
def m16_13 (R : VP) (K1 : VP) (K2 : VP) (g2 f3 i5 k6 : Value) (w : World) : Prop :=
  valP Try.prog (binS BinOp.add 3 (Operand.tmp 56) (Operand.const (Value.int IntKind.i64 1)) k6 (Value.int IntKind.i64 1)) w fun t57 w =>
  K2 t57 w
def m16_14 (R : VP) (K1 : VP) (K2 : VP) (g2 f3 i5 k6 t83 : Value) (w : World) : Prop :=
  condP t83
  (m16_15 R K1 K2 (Value.bool false) w)
  (m16_13 R K1 K2 g2 f3 i5 k6 w)
def m16_12 (R : VP) (K1 : VP) (K2 : VP) (g2 f3 i5 k6 : Value) (w : World) : Prop :=
  anyDraw w fun w =>
  heldP w fun J =>
  valJ Try.prog J (Instr.fieldAt 26 f3 2) fun t58 =>
  valJ Try.prog J (Instr.loadAt 24 t58) fun t59 =>
  valJ Try.prog J (Instr.indexAt 24 t59 k6) fun t61 =>
  valJ Try.prog J (Instr.loadAt 33 t61) fun t62 =>
  valJ Try.prog J (Instr.fieldAt 26 f3 2) fun t63 =>
  valJ Try.prog J (Instr.loadAt 24 t63) fun t64 =>
  valJ Try.prog J (Instr.indexAt 24 t64 i5) fun t66 =>
  valJ Try.prog J (Instr.loadAt 33 t66) fun t67 =>
  callP Try.prog (fnV 38) #[t62, t67] w fun t68 w =>
  stayP J w
  (valJ Try.prog J (Op.unary UnOp.not t68) fun t69 =>
  condP t69
  (pickP t69 (Value.bool true) undef fun t83 =>
  m16_14 R K1 K2 g2 f3 i5 k6 t83 w)
  (valJ Try.prog J (Instr.loadAt 23 g2) fun t71 =>
  valJ Try.prog J (Instr.fieldAt 26 f3 2) fun t72 =>
  valJ Try.prog J (Instr.loadAt 24 t72) fun t73 =>
  valJ Try.prog J (Instr.indexAt 24 t73 k6) fun t75 =>
  valJ Try.prog J (Instr.loadAt 33 t75) fun t76 =>
  valJ Try.prog J (Instr.fieldAt 26 f3 2) fun t77 =>
  valJ Try.prog J (Instr.loadAt 24 t77) fun t78 =>
  valJ Try.prog J (Instr.indexAt 24 t78 i5) fun t80 =>
  valJ Try.prog J (Instr.loadAt 33 t80) fun t81 =>
  callP Try.prog (fnV 29) #[t71, t76, t81] w fun t82 w =>
  stayP J w
  (pickP t69 (Value.bool true) t82 fun t83 =>
  m16_14 R K1 K2 g2 f3 i5 k6 t83 w)))
def m16_8 (R : VP) (K1 : VP) (g2 f3 i5 : Value) (w : World) : Prop :=
  valP Try.prog (binS BinOp.add 3 (Operand.tmp 41) (Operand.const (Value.int IntKind.i64 1)) i5 (Value.int IntKind.i64 1)) w fun t42 w =>
  K1 t42 w
def m16_16 (R : VP) (K1 : VP) (K2 : VP) (g2 f3 i5 k6 t55 : Value) (w : World) : Prop :=
  condP t55
  (m16_12 R K1 K2 g2 f3 i5 k6 w)
  (m16_8 R K1 g2 f3 i5 w)
def m16_11 (R : VP) (K1 : VP) (K2 : VP) (g2 f3 i5 k6 : Value) (w : World) : Prop :=
  valP Try.prog (binS BinOp.lss 3 (Operand.tmp 53) (Operand.tmp 54) k6 i5) w fun t55 w =>
  m16_16 R K1 K2 g2 f3 i5 k6 t55 w
def m16_10 (R : VP) (K1 : VP) (g2 f3 i5 k6 : Value) (w : World) : Prop :=
  loopP (fun (K2 : VP) (s : Value) w => m16_11 R K1 K2 g2 f3 i5 s w) k6 w
def m16_9 (R : VP) (K1 : VP) (g2 f3 i5 : Value) (w : World) : Prop :=
  m16_10 R K1 g2 f3 i5 (Value.int IntKind.i64 0) w
def m16_17 (R : VP) (K1 : VP) (g2 f3 i5 t52 : Value) (w : World) : Prop :=
  condP t52
  (m16_18 R K1 (Value.bool false) w)
  (m16_9 R K1 g2 f3 i5 w)
def m16_7 (R : VP) (K1 : VP) (g2 f3 i5 : Value) (w : World) : Prop :=
  anyDraw w fun w =>
  valS Try.prog (Instr.loadAt 23 g2) w fun t43 =>
  valS Try.prog (Instr.fieldAt 26 f3 2) w fun t44 =>
  valS Try.prog (Instr.loadAt 24 t44) w fun t45 =>
  valS Try.prog (Instr.indexAt 24 t45 i5) w fun t47 =>
  valS Try.prog (Instr.loadAt 33 t47) w fun t48 =>
  valS Try.prog (Instr.fieldAt 26 f3 0) w fun t49 =>
  valS Try.prog (Instr.loadAt 3 t49) w fun t50 =>
  callP Try.prog (fnV 22) #[t43, t48, t50] w fun t51 w =>
  valP Try.prog (Op.unary UnOp.not t51) w fun t52 w =>
  m16_17 R K1 g2 f3 i5 t52 w
def m16_4 (R : VP) (t4 : Value) (w : World) : Prop :=
  R t4 w
def m16_3 (R : VP) (w : World) : Prop :=
  m16_4 R (Value.bool true) w
def m16_19 (R : VP) (K1 : VP) (g2 f3 i5 t40 : Value) (w : World) : Prop :=
  condP t40
  (m16_7 R K1 g2 f3 i5 w)
  (m16_3 R w)
def m16_6 (R : VP) (K1 : VP) (g2 f3 i5 : Value) (w : World) : Prop :=
  valP Try.prog (Instr.fieldAt 26 f3 2) w fun t37 w =>
  valP Try.prog (Instr.loadAt 24 t37) w fun t38 w =>
  builtinP Try.prog Builtin.len #[24] 3 #[false] #[t38] w fun t39 w =>
  valP Try.prog (binS BinOp.lss 3 (Operand.tmp 36) (Operand.tmp 39) i5 t39) w fun t40 w =>
  m16_19 R K1 g2 f3 i5 t40 w
def m16_5 (R : VP) (g2 f3 i5 : Value) (w : World) : Prop :=
  loopP (fun (K1 : VP) (s : Value) w => m16_6 R K1 g2 f3 s w) i5 w
def m16_2 (R : VP) (g2 f3 : Value) (w : World) : Prop :=
  m16_5 R g2 f3 (Value.int IntKind.i64 0) w
def m16_20 (R : VP) (g2 f3 t35 : Value) (w : World) : Prop :=
  condP t35
  (m16_21 R (Value.bool false) w)
  (m16_2 R g2 f3 w)
def m16_1 (R : VP) (g2 f3 : Value) (w : World) : Prop :=
  valP Try.prog (Instr.loadAt 23 g2) w fun t7 w =>
  callP Try.prog (fnV 19) #[t7] w fun t8 w =>
  valP Try.prog (Op.unary UnOp.not t8) w fun t9 w =>
  condP t9
  (pickP t9 (Value.bool true) undef fun t14 =>
  pickP t14 (Value.bool true) undef fun t19 =>
  pickP t19 (Value.bool true) undef fun t24 =>
  pickP t24 (Value.bool true) undef fun t29 =>
  pickP t29 (Value.bool true) undef fun t35 =>
  m16_20 R g2 f3 t35 w)
  (valP Try.prog (Instr.fieldAt 26 f3 0) w fun t11 w =>
  valP Try.prog (Instr.loadAt 3 t11) w fun t12 w =>
  valP Try.prog (binS BinOp.lss 3 (Operand.tmp 12) (Operand.const (Value.int IntKind.i64 (-1))) t12 (Value.int IntKind.i64 (-1))) w fun t13 w =>
  pickP t9 (Value.bool true) t13 fun t14 =>
  condP t14
  (pickP t14 (Value.bool true) undef fun t19 =>
  pickP t19 (Value.bool true) undef fun t24 =>
  pickP t24 (Value.bool true) undef fun t29 =>
  pickP t29 (Value.bool true) undef fun t35 =>
  m16_20 R g2 f3 t35 w)
  (valP Try.prog (Instr.fieldAt 26 f3 0) w fun t16 w =>
  valP Try.prog (Instr.loadAt 3 t16) w fun t17 w =>
  valP Try.prog (binS BinOp.gtr 3 (Operand.tmp 17) (Operand.const (Value.int IntKind.i64 1099511627776)) t17 (Value.int IntKind.i64 1099511627776)) w fun t18 w =>
  pickP t14 (Value.bool true) t18 fun t19 =>
  condP t19
  (pickP t19 (Value.bool true) undef fun t24 =>
  pickP t24 (Value.bool true) undef fun t29 =>
  pickP t29 (Value.bool true) undef fun t35 =>
  m16_20 R g2 f3 t35 w)
  (valP Try.prog (Instr.fieldAt 26 f3 1) w fun t21 w =>
  valP Try.prog (Instr.loadAt 3 t21) w fun t22 w =>
  valP Try.prog (binS BinOp.lss 3 (Operand.tmp 22) (Operand.const (Value.int IntKind.i64 0)) t22 (Value.int IntKind.i64 0)) w fun t23 w =>
  pickP t19 (Value.bool true) t23 fun t24 =>
  condP t24
  (pickP t24 (Value.bool true) undef fun t29 =>
  pickP t29 (Value.bool true) undef fun t35 =>
  m16_20 R g2 f3 t35 w)
  (valP Try.prog (Instr.fieldAt 26 f3 1) w fun t26 w =>
  valP Try.prog (Instr.loadAt 3 t26) w fun t27 w =>
  valP Try.prog (binS BinOp.gtr 3 (Operand.tmp 27) (Operand.const (Value.int IntKind.i64 1099511627776)) t27 (Value.int IntKind.i64 1099511627776)) w fun t28 w =>
  pickP t24 (Value.bool true) t28 fun t29 =>
  condP t29
  (pickP t29 (Value.bool true) undef fun t35 =>
  m16_20 R g2 f3 t35 w)
  (valP Try.prog (Instr.fieldAt 26 f3 2) w fun t31 w =>
  valP Try.prog (Instr.loadAt 24 t31) w fun t32 w =>
  builtinP Try.prog Builtin.len #[24] 3 #[false] #[t32] w fun t33 w =>
  valP Try.prog (binS BinOp.gtr 3 (Operand.tmp 33) (Operand.const (Value.int IntKind.i64 64)) t33 (Value.int IntKind.i64 64)) w fun t34 w =>
  pickP t29 (Value.bool true) t34 fun t35 =>
  m16_20 R g2 f3 t35 w)))))
def m16_0 (R : VP) (g0 f1 : Value) (w : World) : Prop :=
  valP Try.prog (Instr.box 23 g0) w fun g2 w =>
  valP Try.prog (Instr.box 26 f1) w fun f3 w =>
  m16_1 R g2 f3 w
abbrev W16 := cwp Try.prog (fun i => cond (Nat.beq i 6) 10 (0))
noncomputable def k16_0 : Code := (bodyOf Try.f16)
noncomputable def k16_1 : Code := (c2 k16_0)
noncomputable def k16_2 : Code := (c2 k16_1)
noncomputable def k16_3 : Code := (c2 k16_2)
noncomputable def k16_4 : Code := (c2 k16_3)
noncomputable def k16_5 : Code := (c2 (c1 k16_2))
noncomputable def k16_6 : Code := (c1 (c1 k16_5))
noncomputable def k16_7 : Code := (c2 k16_6)
noncomputable def k16_8 : Code := (c2 k16_7)
noncomputable def k16_9 : Code := (c2 (c1 (c1 k16_7)))
noncomputable def k16_10 : Code := (c2 k16_9)
noncomputable def k16_11 : Code := (c1 (c1 k16_10))
noncomputable def k16_12 : Code := (c2 k16_11)
noncomputable def k16_13 : Code := (c2 k16_12)
noncomputable def k16_14 : Code := (c2 (c1 (c1 k16_12)))
noncomputable def k16_15 : Code := (c2 (c1 k16_14))
noncomputable def k16_16 : Code := (c2 (c1 k16_11))
noncomputable def k16_17 : Code := (c2 (c1 (c1 (c1 k16_7))))
noncomputable def k16_18 : Code := (c2 (c1 k16_17))
noncomputable def k16_19 : Code := (c2 (c1 k16_6))
noncomputable def k16_20 : Code := (c2 (c1 k16_1))
noncomputable def k16_21 : Code := (c2 (c1 k16_20))
theorem s16_21 {R : VP} {Q : EQ} (hR : ∀ e w, (R (e 4) w) → Q .ret e w) (e : Env) (w : World) (h : m16_21 R (e 4) w) : W16 k16_21 Q e w := by
  unfold m16_21 at h
  exact reA (hR _ _ h)
theorem s16_18 {R : VP} {K1 : VP} {Q : EQ} (hR : ∀ e w, (R (e 4) w) → Q .ret e w) (e : Env) (w : World) (h : m16_18 R K1 (e 4) w) : W16 k16_18 Q e w := by
  unfold m16_18 at h
  exact reA (hR _ _ h)
theorem s16_15 {R : VP} {K1 : VP} {K2 : VP} {Q : EQ} (hR : ∀ e w, (R (e 4) w) → Q .ret e w) (e : Env) (w : World) (h : m16_15 R K1 K2 (e 4) w) : W16 k16_15 Q e w := by
  unfold m16_15 at h
  exact reA (hR _ _ h)
theorem s16_13 {R : VP} {K1 : VP} {K2 : VP} {Q : EQ} (hN : ∀ e w, (K2 (e 6) w) → Q .normal e w) (e : Env) (w : World) (h : m16_13 R K1 K2 (e 2) (e 3) (e 5) (e 6) w) : W16 k16_13 Q e w := by
  unfold m16_13 at h
  exact rgA 10 (fun e w => K2 (e 6) w) h hN
theorem s16_14 {R : VP} {K1 : VP} {K2 : VP} {Q : EQ} (hN : ∀ e w, (m16_13 R K1 K2 (e 2) (e 3) (e 5) (e 6) w) → Q .normal e w) (hR : ∀ e w, (R (e 4) w) → Q .ret e w) (e : Env) (w : World) (h : m16_14 R K1 K2 (e 2) (e 3) (e 5) (e 6) (e 83) w) : W16 k16_14 Q e w := by
  unfold m16_14 at h
  refine coA (Operand.tmp 83) h (fun h1 => ?_) (fun h1 => ?_)
  · refine seA ?_
    have hN : ∀ e w, (m16_15 R K1 K2 (e 4) w) → (thenE (W16 k16_15 Q) Q) .normal e w := fun e w h => then_N (s16_15 (R := R) (Q := Q) (K1 := K1) (K2 := K2) hR e w h)
    exact rgA 12 (fun e w => m16_15 R K1 K2 (e 4) w) h1 hN
  · exact skA (hN _ _ h1)
theorem s16_12 {R : VP} {K1 : VP} {K2 : VP} {Q : EQ} (hN : ∀ e w, (K2 (e 6) w) → Q .normal e w) (hR : ∀ e w, (R (e 4) w) → Q .ret e w) (e : Env) (w : World) (h : m16_12 R K1 K2 (e 2) (e 3) (e 5) (e 6) w) : W16 k16_12 Q e w := by
  unfold m16_12 at h
  refine seA ?_
  have hN : ∀ e w, (m16_13 R K1 K2 (e 2) (e 3) (e 5) (e 6) w) → (thenE (W16 k16_13 Q) Q) .normal e w := fun e w h => then_N (s16_13 (R := R) (Q := Q) (K1 := K1) (K2 := K2) hN e w h)
  have hR : ∀ e w, (R (e 4) w) → (thenE (W16 k16_13 Q) Q) .ret e w := fun e w h => then_R (hR e w h)
  refine block_ok 3 (by kernel_rfl) ?_
  have hN : ∀ e w, (m16_13 R K1 K2 (e 2) (e 3) (e 5) (e 6) w) → (inBlockE 3 (thenE (W16 k16_13 Q) Q)) .normal e w := fun e w h => block_N (hN e w h)
  have hR : ∀ e w, (R (e 4) w) → (inBlockE 3 (thenE (W16 k16_13 Q) Q)) .ret e w := fun e w h => block_R (hR e w h)
  refine seA ?_
  have hN : ∀ e w, (m16_14 R K1 K2 (e 2) (e 3) (e 5) (e 6) (e 83) w) → (thenE (W16 k16_14 (inBlockE 3 (thenE (W16 k16_13 Q) Q))) (inBlockE 3 (thenE (W16 k16_13 Q) Q))) .normal e w := fun e w h => then_N (s16_14 (R := R) (Q := (inBlockE 3 (thenE (W16 k16_13 Q) Q))) (K1 := K1) (K2 := K2) hN hR e w h)
  exact treeJ_ok 11 26 [false, false, false, false, false, false, false, false, false, false, false, false, false, false, false, false, false, false, false, false, false, false, false, false, false, false] (.take 0 [true, false, false, false, false, false, false, false, false, false, false, false, false, false, false, false, false, false, false, false, false, false, false, false, false, false] (.take 1 [true, true, false, false, false, false, false, false, false, false, false, false, false, false, false, false, false, false, false, false, false, false, false, false, false, false] (.take 2 [true, true, true, false, false, false, false, false, false, false, false, false, false, false, false, false, false, false, false, false, false, false, false, false, false, false] (.take 3 [true, true, true, true, false, false, false, false, false, false, false, false, false, false, false, false, false, false, false, false, false, false, false, false, false, false] (.take 4 [true, true, true, true, true, false, false, false, false, false, false, false, false, false, false, false, false, false, false, false, false, false, false, false, false, false] (.take 5 [true, true, true, true, true, true, false, false, false, false, false, false, false, false, false, false, false, false, false, false, false, false, false, false, false, false] (.take 6 [true, true, true, true, true, true, true, false, false, false, false, false, false, false, false, false, false, false, false, false, false, false, false, false, false, false] (.take 7 [true, true, true, true, true, true, true, true, false, false, false, false, false, false, false, false, false, false, false, false, false, false, false, false, false, false] (.take 8 [true, true, true, true, true, true, true, true, true, false, false, false, false, false, false, false, false, false, false, false, false, false, false, false, false, false] (.take 9 [true, true, true, true, true, true, true, true, true, true, false, false, false, false, false, false, false, false, false, false, false, false, false, false, false, false] (.alt 10 [true, true, true, true, true, true, true, true, true, true, true, false, false, false, false, false, false, false, false, false, false, false, false, false, false, false] (.take 11 [true, true, true, true, true, true, true, true, true, true, true, true, false, false, false, false, false, false, false, false, false, false, false, false, false, false] (.take 12 [true, true, true, true, true, true, true, true, true, true, true, true, true, false, false, false, false, false, false, false, false, false, false, false, false, false] (.take 13 [true, true, true, true, true, true, true, true, true, true, true, true, true, true, false, false, false, false, false, false, false, false, false, false, false, false] (.take 14 [true, true, true, true, true, true, true, true, true, true, true, true, true, true, true, false, false, false, false, false, false, false, false, false, false, false] (.take 15 [true, true, true, true, true, true, true, true, true, true, true, true, true, true, true, true, false, false, false, false, false, false, false, false, false, false] (.take 16 [true, true, true, true, true, true, true, true, true, true, true, true, true, true, true, true, true, false, false, false, false, false, false, false, false, false] (.take 17 [true, true, true, true, true, true, true, true, true, true, true, true, true, true, true, true, true, true, false, false, false, false, false, false, false, false] (.take 18 [true, true, true, true, true, true, true, true, true, true, true, true, true, true, true, true, true, true, true, false, false, false, false, false, false, false] (.take 19 [true, true, true, true, true, true, true, true, true, true, true, true, true, true, true, true, true, true, true, true, false, false, false, false, false, false] (.take 20 [true, true, true, true, true, true, true, true, true, true, true, true, true, true, true, true, true, true, true, true, true, false, false, false, false, false] (.take 21 [true, true, true, true, true, true, true, true, true, true, true, true, true, true, true, true, true, true, true, true, true, true, false, false, false, false] (.take 22 [true, true, true, true, true, true, true, true, true, true, true, true, true, true, true, true, true, true, true, true, true, true, true, false, false, false] (.take 23 [true, true, true, true, true, true, true, true, true, true, true, true, true, true, true, true, true, true, true, true, true, true, true, true, false, false] (.alt 24 [true, true, true, true, true, true, true, true, true, true, true, true, true, true, true, true, true, true, true, true, true, true, true, true, true, false] (.take 25 [true, true, true, true, true, true, true, true, true, true, true, true, true, true, true, true, true, true, true, true, true, true, true, true, true, true] .done) .stop)))))))))))))) .stop))))))))))) (fun e w => m16_14 R K1 K2 (e 2) (e 3) (e 5) (e 6) (e 83) w) (by kernel_rfl) (by kernel_rfl) (by kernel_rfl) (by kernel_rfl) (by kernel_rfl) (by kernel_rfl) (kcast (by kernel_rfl) h) hN (by kernel_rfl)
theorem s16_8 {R : VP} {K1 : VP} {Q : EQ} (hN : ∀ e w, (K1 (e 5) w) → Q .normal e w) (e : Env) (w : World) (h : m16_8 R K1 (e 2) (e 3) (e 5) w) : W16 k16_8 Q e w := by
  unfold m16_8 at h
  exact rgA 5 (fun e w => K1 (e 5) w) h hN
theorem s16_16 {R : VP} {K1 : VP} {K2 : VP} {Q : EQ} (hN : ∀ e w, (m16_12 R K1 K2 (e 2) (e 3) (e 5) (e 6) w) → Q .normal e w) (hX2 : ∀ e w, (m16_8 R K1 (e 2) (e 3) (e 5) w) → Q (.exit 2) e w) (e : Env) (w : World) (h : m16_16 R K1 K2 (e 2) (e 3) (e 5) (e 6) (e 55) w) : W16 k16_16 Q e w := by
  unfold m16_16 at h
  refine coA (Operand.tmp 55) h (fun h1 => ?_) (fun h1 => ?_)
  · exact skA (hN _ _ h1)
  · exact exA 2 (hX2 _ _ h1)
theorem s16_11 {R : VP} {K1 : VP} {K2 : VP} {Q : EQ} (hN : ∀ e w, (K2 (e 6) w) → Q .normal e w) (hR : ∀ e w, (R (e 4) w) → Q .ret e w) (hX2 : ∀ e w, (m16_8 R K1 (e 2) (e 3) (e 5) w) → Q (.exit 2) e w) (e : Env) (w : World) (h : m16_11 R K1 K2 (e 2) (e 3) (e 5) (e 6) w) : W16 k16_11 Q e w := by
  unfold m16_11 at h
  refine seA ?_
  have hN : ∀ e w, (m16_12 R K1 K2 (e 2) (e 3) (e 5) (e 6) w) → (thenE (W16 k16_12 Q) Q) .normal e w := fun e w h => then_N (s16_12 (R := R) (Q := Q) (K1 := K1) (K2 := K2) hN hR e w h)
  have hX2 : ∀ e w, (m16_8 R K1 (e 2) (e 3) (e 5) w) → (thenE (W16 k16_12 Q) Q) (.exit 2) e w := fun e w h => then_X (hX2 e w h)
  refine seA ?_
  have hN : ∀ e w, (m16_16 R K1 K2 (e 2) (e 3) (e 5) (e 6) (e 55) w) → (thenE (W16 k16_16 (thenE (W16 k16_12 Q) Q)) (thenE (W16 k16_12 Q) Q)) .normal e w := fun e w h => then_N (s16_16 (R := R) (Q := (thenE (W16 k16_12 Q) Q)) (K1 := K1) (K2 := K2) hN hX2 e w h)
  exact rgA 9 (fun e w => m16_16 R K1 K2 (e 2) (e 3) (e 5) (e 6) (e 55) w) h hN
theorem s16_10 {R : VP} {K1 : VP} {Q : EQ} (hN : ∀ e w, (m16_8 R K1 (e 2) (e 3) (e 5) w) → Q .normal e w) (hR : ∀ e w, (R (e 4) w) → Q .ret e w) (e : Env) (w : World) (h : m16_10 R K1 (e 2) (e 3) (e 5) (e 6) w) : W16 k16_10 Q e w := by
  unfold m16_10 at h
  refine block_ok 2 (by kernel_rfl) ?_
  have hX2 : ∀ e w, (m16_8 R K1 (e 2) (e 3) (e 5) w) → (inBlockE 2 Q) (.exit 2) e w := fun e w h => inBlock_same (Q := Q) 2 (hN e w h)
  have hR : ∀ e w, (R (e 4) w) → (inBlockE 2 Q) .ret e w := fun e w h => block_R (hR e w h)
  refine loop_ok' (fun (e : Env) => e 6) [2, 3, 5] (by kernel_rfl) (by kernel_rfl) h (fun K e' w' hk h' => ?_)
  have r2 : e' 2 = e 2 := hk 2 (by decide)
  have r3 : e' 3 = e 3 := hk 3 (by decide)
  have r5 : e' 5 = e 5 := hk 5 (by decide)
  have hR : ∀ e w, (R (e 4) w) → (thenE (fun (e : Env) w => K (e 6) w) (inBlockE 2 Q)) .ret e w := fun e w h => then_R (hR e w h)
  have hX2 : ∀ e w, (m16_8 R K1 (e 2) (e 3) (e 5) w) → (thenE (fun (e : Env) w => K (e 6) w) (inBlockE 2 Q)) (.exit 2) e w := fun e w h => then_X (hX2 e w h)
  exact s16_11 (R := R) (Q := (thenE (fun (e : Env) w => K (e 6) w) (inBlockE 2 Q))) (K1 := K1) (K2 := K) (fun _ _ h => then_N h) hR hX2 e' w' (by rw [r2, r3, r5]; exact h')
theorem s16_9 {R : VP} {K1 : VP} {Q : EQ} (hN : ∀ e w, (m16_8 R K1 (e 2) (e 3) (e 5) w) → Q .normal e w) (hR : ∀ e w, (R (e 4) w) → Q .ret e w) (e : Env) (w : World) (h : m16_9 R K1 (e 2) (e 3) (e 5) w) : W16 k16_9 Q e w := by
  unfold m16_9 at h
  refine seA ?_
  have hN : ∀ e w, (m16_10 R K1 (e 2) (e 3) (e 5) (e 6) w) → (thenE (W16 k16_10 Q) Q) .normal e w := fun e w h => then_N (s16_10 (R := R) (Q := Q) (K1 := K1) hN hR e w h)
  exact rgA 8 (fun e w => m16_10 R K1 (e 2) (e 3) (e 5) (e 6) w) h hN
theorem s16_17 {R : VP} {K1 : VP} {Q : EQ} (hN : ∀ e w, (m16_9 R K1 (e 2) (e 3) (e 5) w) → Q .normal e w) (hR : ∀ e w, (R (e 4) w) → Q .ret e w) (e : Env) (w : World) (h : m16_17 R K1 (e 2) (e 3) (e 5) (e 52) w) : W16 k16_17 Q e w := by
  unfold m16_17 at h
  refine coA (Operand.tmp 52) h (fun h1 => ?_) (fun h1 => ?_)
  · refine seA ?_
    have hN : ∀ e w, (m16_18 R K1 (e 4) w) → (thenE (W16 k16_18 Q) Q) .normal e w := fun e w h => then_N (s16_18 (R := R) (Q := Q) (K1 := K1) hR e w h)
    exact rgA 7 (fun e w => m16_18 R K1 (e 4) w) h1 hN
  · exact skA (hN _ _ h1)
theorem s16_7 {R : VP} {K1 : VP} {Q : EQ} (hN : ∀ e w, (K1 (e 5) w) → Q .normal e w) (hR : ∀ e w, (R (e 4) w) → Q .ret e w) (e : Env) (w : World) (h : m16_7 R K1 (e 2) (e 3) (e 5) w) : W16 k16_7 Q e w := by
  unfold m16_7 at h
  refine seA ?_
  have hN : ∀ e w, (m16_8 R K1 (e 2) (e 3) (e 5) w) → (thenE (W16 k16_8 Q) Q) .normal e w := fun e w h => then_N (s16_8 (R := R) (Q := Q) (K1 := K1) hN e w h)
  have hR : ∀ e w, (R (e 4) w) → (thenE (W16 k16_8 Q) Q) .ret e w := fun e w h => then_R (hR e w h)
  refine block_ok 1 (by kernel_rfl) ?_
  have hN : ∀ e w, (m16_8 R K1 (e 2) (e 3) (e 5) w) → (inBlockE 1 (thenE (W16 k16_8 Q) Q)) .normal e w := fun e w h => block_N (hN e w h)
  have hR : ∀ e w, (R (e 4) w) → (inBlockE 1 (thenE (W16 k16_8 Q) Q)) .ret e w := fun e w h => block_R (hR e w h)
  refine seA ?_
  have hN : ∀ e w, (m16_9 R K1 (e 2) (e 3) (e 5) w) → (thenE (W16 k16_9 (inBlockE 1 (thenE (W16 k16_8 Q) Q))) (inBlockE 1 (thenE (W16 k16_8 Q) Q))) .normal e w := fun e w h => then_N (s16_9 (R := R) (Q := (inBlockE 1 (thenE (W16 k16_8 Q) Q))) (K1 := K1) hN hR e w h)
  have hR : ∀ e w, (R (e 4) w) → (thenE (W16 k16_9 (inBlockE 1 (thenE (W16 k16_8 Q) Q))) (inBlockE 1 (thenE (W16 k16_8 Q) Q))) .ret e w := fun e w h => then_R (hR e w h)
  refine seA ?_
  have hN : ∀ e w, (m16_17 R K1 (e 2) (e 3) (e 5) (e 52) w) → (thenE (W16 k16_17 (thenE (W16 k16_9 (inBlockE 1 (thenE (W16 k16_8 Q) Q))) (inBlockE 1 (thenE (W16 k16_8 Q) Q)))) (thenE (W16 k16_9 (inBlockE 1 (thenE (W16 k16_8 Q) Q))) (inBlockE 1 (thenE (W16 k16_8 Q) Q)))) .normal e w := fun e w h => then_N (s16_17 (R := R) (Q := (thenE (W16 k16_9 (inBlockE 1 (thenE (W16 k16_8 Q) Q))) (inBlockE 1 (thenE (W16 k16_8 Q) Q)))) (K1 := K1) hN hR e w h)
  exact taA 6 8 (fun e w => m16_17 R K1 (e 2) (e 3) (e 5) (e 52) w) h hN
theorem s16_4 {R : VP} {Q : EQ} (hR : ∀ e w, (R (e 4) w) → Q .ret e w) (e : Env) (w : World) (h : m16_4 R (e 4) w) : W16 k16_4 Q e w := by
  unfold m16_4 at h
  exact reA (hR _ _ h)
theorem s16_3 {R : VP} {Q : EQ} (hR : ∀ e w, (R (e 4) w) → Q .ret e w) (e : Env) (w : World) (h : m16_3 R w) : W16 k16_3 Q e w := by
  unfold m16_3 at h
  refine seA ?_
  have hN : ∀ e w, (m16_4 R (e 4) w) → (thenE (W16 k16_4 Q) Q) .normal e w := fun e w h => then_N (s16_4 (R := R) (Q := Q) hR e w h)
  exact rgA 13 (fun e w => m16_4 R (e 4) w) h hN
theorem s16_19 {R : VP} {K1 : VP} {Q : EQ} (hN : ∀ e w, (m16_7 R K1 (e 2) (e 3) (e 5) w) → Q .normal e w) (hX0 : ∀ e w, (m16_3 R w) → Q (.exit 0) e w) (e : Env) (w : World) (h : m16_19 R K1 (e 2) (e 3) (e 5) (e 40) w) : W16 k16_19 Q e w := by
  unfold m16_19 at h
  refine coA (Operand.tmp 40) h (fun h1 => ?_) (fun h1 => ?_)
  · exact skA (hN _ _ h1)
  · exact exA 0 (hX0 _ _ h1)
theorem s16_6 {R : VP} {K1 : VP} {Q : EQ} (hN : ∀ e w, (K1 (e 5) w) → Q .normal e w) (hR : ∀ e w, (R (e 4) w) → Q .ret e w) (hX0 : ∀ e w, (m16_3 R w) → Q (.exit 0) e w) (e : Env) (w : World) (h : m16_6 R K1 (e 2) (e 3) (e 5) w) : W16 k16_6 Q e w := by
  unfold m16_6 at h
  refine seA ?_
  have hN : ∀ e w, (m16_7 R K1 (e 2) (e 3) (e 5) w) → (thenE (W16 k16_7 Q) Q) .normal e w := fun e w h => then_N (s16_7 (R := R) (Q := Q) (K1 := K1) hN hR e w h)
  have hX0 : ∀ e w, (m16_3 R w) → (thenE (W16 k16_7 Q) Q) (.exit 0) e w := fun e w h => then_X (hX0 e w h)
  refine seA ?_
  have hN : ∀ e w, (m16_19 R K1 (e 2) (e 3) (e 5) (e 40) w) → (thenE (W16 k16_19 (thenE (W16 k16_7 Q) Q)) (thenE (W16 k16_7 Q) Q)) .normal e w := fun e w h => then_N (s16_19 (R := R) (Q := (thenE (W16 k16_7 Q) Q)) (K1 := K1) hN hX0 e w h)
  exact rgA 4 (fun e w => m16_19 R K1 (e 2) (e 3) (e 5) (e 40) w) h hN
theorem s16_5 {R : VP} {Q : EQ} (hN : ∀ e w, (m16_3 R w) → Q .normal e w) (hR : ∀ e w, (R (e 4) w) → Q .ret e w) (e : Env) (w : World) (h : m16_5 R (e 2) (e 3) (e 5) w) : W16 k16_5 Q e w := by
  unfold m16_5 at h
  refine block_ok 0 (by kernel_rfl) ?_
  have hX0 : ∀ e w, (m16_3 R w) → (inBlockE 0 Q) (.exit 0) e w := fun e w h => inBlock_same (Q := Q) 0 (hN e w h)
  have hR : ∀ e w, (R (e 4) w) → (inBlockE 0 Q) .ret e w := fun e w h => block_R (hR e w h)
  refine loop_ok' (fun (e : Env) => e 5) [2, 3] (by kernel_rfl) (by kernel_rfl) h (fun K e' w' hk h' => ?_)
  have r2 : e' 2 = e 2 := hk 2 (by decide)
  have r3 : e' 3 = e 3 := hk 3 (by decide)
  have hR : ∀ e w, (R (e 4) w) → (thenE (fun (e : Env) w => K (e 5) w) (inBlockE 0 Q)) .ret e w := fun e w h => then_R (hR e w h)
  have hX0 : ∀ e w, (m16_3 R w) → (thenE (fun (e : Env) w => K (e 5) w) (inBlockE 0 Q)) (.exit 0) e w := fun e w h => then_X (hX0 e w h)
  exact s16_6 (R := R) (Q := (thenE (fun (e : Env) w => K (e 5) w) (inBlockE 0 Q))) (K1 := K) (fun _ _ h => then_N h) hR hX0 e' w' (by rw [r2, r3]; exact h')
theorem s16_2 {R : VP} {Q : EQ} (hR : ∀ e w, (R (e 4) w) → Q .ret e w) (e : Env) (w : World) (h : m16_2 R (e 2) (e 3) w) : W16 k16_2 Q e w := by
  unfold m16_2 at h
  refine seA ?_
  have hN : ∀ e w, (m16_3 R w) → (thenE (W16 k16_3 Q) Q) .normal e w := fun e w h => then_N (s16_3 (R := R) (Q := Q) hR e w h)
  have hR : ∀ e w, (R (e 4) w) → (thenE (W16 k16_3 Q) Q) .ret e w := fun e w h => then_R (hR e w h)
  refine seA ?_
  have hN : ∀ e w, (m16_5 R (e 2) (e 3) (e 5) w) → (thenE (W16 k16_5 (thenE (W16 k16_3 Q) Q)) (thenE (W16 k16_3 Q) Q)) .normal e w := fun e w h => then_N (s16_5 (R := R) (Q := (thenE (W16 k16_3 Q) Q)) hN hR e w h)
  exact rgA 3 (fun e w => m16_5 R (e 2) (e 3) (e 5) w) h hN
theorem s16_20 {R : VP} {Q : EQ} (hN : ∀ e w, (m16_2 R (e 2) (e 3) w) → Q .normal e w) (hR : ∀ e w, (R (e 4) w) → Q .ret e w) (e : Env) (w : World) (h : m16_20 R (e 2) (e 3) (e 35) w) : W16 k16_20 Q e w := by
  unfold m16_20 at h
  refine coA (Operand.tmp 35) h (fun h1 => ?_) (fun h1 => ?_)
  · refine seA ?_
    have hN : ∀ e w, (m16_21 R (e 4) w) → (thenE (W16 k16_21 Q) Q) .normal e w := fun e w h => then_N (s16_21 (R := R) (Q := Q) hR e w h)
    exact rgA 2 (fun e w => m16_21 R (e 4) w) h1 hN
  · exact skA (hN _ _ h1)
theorem s16_1 {R : VP} {Q : EQ} (hR : ∀ e w, (R (e 4) w) → Q .ret e w) (e : Env) (w : World) (h : m16_1 R (e 2) (e 3) w) : W16 k16_1 Q e w := by
  unfold m16_1 at h
  refine seA ?_
  have hN : ∀ e w, (m16_2 R (e 2) (e 3) w) → (thenE (W16 k16_2 Q) Q) .normal e w := fun e w h => then_N (s16_2 (R := R) (Q := Q) hR e w h)
  have hR : ∀ e w, (R (e 4) w) → (thenE (W16 k16_2 Q) Q) .ret e w := fun e w h => then_R (hR e w h)
  refine seA ?_
  have hN : ∀ e w, (m16_20 R (e 2) (e 3) (e 35) w) → (thenE (W16 k16_20 (thenE (W16 k16_2 Q) Q)) (thenE (W16 k16_2 Q) Q)) .normal e w := fun e w h => then_N (s16_20 (R := R) (Q := (thenE (W16 k16_2 Q) Q)) hN hR e w h)
  exact rgK 1 (fun e w => m16_20 R (e 2) (e 3) (e 35) w) h hN
theorem s16_0 {R : VP} {Q : EQ} (hR : ∀ e w, (R (e 4) w) → Q .ret e w) (e : Env) (w : World) (h : m16_0 R (e 0) (e 1) w) : W16 k16_0 Q e w := by
  unfold m16_0 at h
  refine seA ?_
  have hN : ∀ e w, (m16_1 R (e 2) (e 3) w) → (thenE (W16 k16_1 Q) Q) .normal e w := fun e w h => then_N (s16_1 (R := R) (Q := Q) hR e w h)
  exact rgA 0 (fun e w => m16_1 R (e 2) (e 3) w) h hN
abbrev m16 (R : VP) (g0 f1 : Value) (w : World) : Prop := m16_0 R g0 f1 w
theorem s16 (g0 f1 : Value) {R : VP} {w : World} (h : m16 R g0 f1 w) :
    Calls Try.prog 16 #[g0, f1] w fun e w' => ∃ v, e = .returned v ∧ R v w' :=
  calls_of_cwp (st := (fun i => cond (Nat.beq i 6) 10 (0))) (c := k16_0) (by kernel_rfl) Try.func16 (by kernel_rfl) (Nat.le_of_ble_eq_true (by kernel_rfl)) (by kernel_rfl)
    (s16_0 (R := R) (Q := endE Try.prog Try.f16 R) (fun e w h => kcast (by kernel_rfl) h) (argsE #[g0, f1]) w (kcast (by kernel_rfl) h))
/-! ### headgate/headgateref28.MaySpan -/
def m22_16 (R : VP) (t6 : Value) (w : World) : Prop :=
  R t6 w
def m22_13 (R : VP) (K1 : VP) (t6 : Value) (w : World) : Prop :=
  R t6 w
def m22_11 (R : VP) (K1 : VP) (t6 : Value) (w : World) : Prop :=
  R t6 w
def m22_8 (R : VP) (K1 : VP) (mark2 g3 s4 i7 : Value) (w : World) : Prop :=
  valP Try.prog (binS BinOp.add 3 (Operand.tmp 33) (Operand.const (Value.int IntKind.i64 1)) i7 (Value.int IntKind.i64 1)) w fun t34 w =>
  K1 t34 w
def m22_10 (R : VP) (K1 : VP) (mark2 g3 s4 i7 t86 : Value) (w : World) : Prop :=
  condP t86
  (m22_11 R K1 (Value.bool false) w)
  (m22_8 R K1 mark2 g3 s4 i7 w)
def m22_9 (R : VP) (K1 : VP) (mark2 g3 s4 i7 : Value) (w : World) : Prop :=
  anyDraw w fun w =>
  heldP w fun J =>
  valJ Try.prog J (binS BinOp.gtr 3 (Operand.tmp 52) (Operand.const (Value.int IntKind.i64 0)) i7 (Value.int IntKind.i64 0)) fun t53 =>
  condP t53
  (valJ Try.prog J (Instr.fieldAt 33 s4 1) fun t55 =>
  valJ Try.prog J (Instr.loadAt 31 t55) fun t56 =>
  valJ Try.prog J (Instr.indexAt 31 t56 i7) fun t58 =>
  valJ Try.prog J (Instr.loadAt 28 t58) fun t59 =>
  valJ Try.prog J (Instr.fieldAt 33 s4 1) fun t60 =>
  valJ Try.prog J (Instr.loadAt 31 t60) fun t61 =>
  valJ Try.prog J (binS BinOp.sub 3 (Operand.tmp 62) (Operand.const (Value.int IntKind.i64 1)) i7 (Value.int IntKind.i64 1)) fun t63 =>
  valJ Try.prog J (Instr.indexAt 31 t61 t63) fun t64 =>
  valJ Try.prog J (Instr.loadAt 28 t64) fun t65 =>
  callP Try.prog (fnV 40) #[t59, t65] w fun t66 w =>
  stayP J w
  (condP t66
  (pickP t66 (Value.bool true) undef fun t85 =>
  pickP t53 t85 (Value.bool false) fun t86 =>
  m22_10 R K1 mark2 g3 s4 i7 t86 w)
  (valJ Try.prog J (Instr.fieldAt 33 s4 1) fun t68 =>
  valJ Try.prog J (Instr.loadAt 31 t68) fun t69 =>
  valJ Try.prog J (Instr.indexAt 31 t69 i7) fun t71 =>
  valJ Try.prog J (Instr.fieldAt 28 t71 0) fun t72 =>
  valJ Try.prog J (Instr.loadAt 3 t72) fun t73 =>
  valJ Try.prog J (Instr.fieldAt 33 s4 1) fun t74 =>
  valJ Try.prog J (Instr.loadAt 31 t74) fun t75 =>
  valJ Try.prog J (binS BinOp.sub 3 (Operand.tmp 76) (Operand.const (Value.int IntKind.i64 1)) i7 (Value.int IntKind.i64 1)) fun t77 =>
  valJ Try.prog J (Instr.indexAt 31 t75 t77) fun t78 =>
  valJ Try.prog J (Instr.fieldAt 28 t78 0) fun t79 =>
  valJ Try.prog J (Instr.loadAt 3 t79) fun t80 =>
  valJ Try.prog J (binS BinOp.sub 3 (Operand.tmp 73) (Operand.tmp 80) t73 t80) fun t81 =>
  valJ Try.prog J (Instr.fieldAt 23 g3 0) fun t82 =>
  valJ Try.prog J (Instr.loadAt 3 t82) fun t83 =>
  valJ Try.prog J (binS BinOp.gtr 3 (Operand.tmp 81) (Operand.tmp 83) t81 t83) fun t84 =>
  pickP t66 (Value.bool true) t84 fun t85 =>
  pickP t53 t85 (Value.bool false) fun t86 =>
  m22_10 R K1 mark2 g3 s4 i7 t86 w)))
  (pickP t53 undef (Value.bool false) fun t86 =>
  m22_10 R K1 mark2 g3 s4 i7 t86 w)
def m22_12 (R : VP) (K1 : VP) (mark2 g3 s4 i7 t51 : Value) (w : World) : Prop :=
  condP t51
  (m22_13 R K1 (Value.bool false) w)
  (m22_9 R K1 mark2 g3 s4 i7 w)
def m22_7 (R : VP) (K1 : VP) (mark2 g3 s4 i7 : Value) (w : World) : Prop :=
  valP Try.prog (Instr.fieldAt 33 s4 1) w fun t35 w =>
  valP Try.prog (Instr.loadAt 31 t35) w fun t36 w =>
  valP Try.prog (Instr.indexAt 31 t36 i7) w fun t38 w =>
  valP Try.prog (Instr.fieldAt 28 t38 0) w fun t39 w =>
  valP Try.prog (Instr.loadAt 3 t39) w fun t40 w =>
  valP Try.prog (binS BinOp.lss 3 (Operand.tmp 40) (Operand.const (Value.int IntKind.i64 0)) t40 (Value.int IntKind.i64 0)) w fun t41 w =>
  condP t41
  (pickP t41 (Value.bool true) undef fun t51 =>
  m22_12 R K1 mark2 g3 s4 i7 t51 w)
  (valP Try.prog (Instr.fieldAt 33 s4 1) w fun t43 w =>
  valP Try.prog (Instr.loadAt 31 t43) w fun t44 w =>
  valP Try.prog (Instr.indexAt 31 t44 i7) w fun t46 w =>
  valP Try.prog (Instr.fieldAt 28 t46 0) w fun t47 w =>
  valP Try.prog (Instr.loadAt 3 t47) w fun t48 w =>
  valP Try.prog (binS BinOp.gtr 3 (Operand.tmp 48) (Operand.tmp 49) t48 mark2) w fun t50 w =>
  pickP t41 (Value.bool true) t50 fun t51 =>
  m22_12 R K1 mark2 g3 s4 i7 t51 w)
def m22_4 (R : VP) (t6 : Value) (w : World) : Prop :=
  R t6 w
def m22_3 (R : VP) (mark2 g3 s4 : Value) (w : World) : Prop :=
  anyDraw w fun w =>
  heldP w fun J =>
  valJ Try.prog J (Instr.loadAt 23 g3) fun t87 =>
  valJ Try.prog J (Instr.loadAt 33 s4) fun t88 =>
  callP Try.prog (fnV 21) #[t88] w fun t89 w =>
  stayP J w
  (callP Try.prog (fnV 20) #[t87, t89, mark2] w fun t91 w =>
  stayP J w
  (valJ Try.prog J (Op.unary UnOp.not t91) fun t92 =>
  m22_4 R t92 w))
def m22_14 (R : VP) (K1 : VP) (mark2 g3 s4 i7 t32 : Value) (w : World) : Prop :=
  condP t32
  (m22_7 R K1 mark2 g3 s4 i7 w)
  (m22_3 R mark2 g3 s4 w)
def m22_6 (R : VP) (K1 : VP) (mark2 g3 s4 i7 : Value) (w : World) : Prop :=
  valP Try.prog (Instr.fieldAt 33 s4 1) w fun t29 w =>
  valP Try.prog (Instr.loadAt 31 t29) w fun t30 w =>
  builtinP Try.prog Builtin.len #[31] 3 #[false] #[t30] w fun t31 w =>
  valP Try.prog (binS BinOp.lss 3 (Operand.tmp 28) (Operand.tmp 31) i7 t31) w fun t32 w =>
  m22_14 R K1 mark2 g3 s4 i7 t32 w
def m22_5 (R : VP) (mark2 g3 s4 i7 : Value) (w : World) : Prop :=
  loopP (fun (K1 : VP) (s : Value) w => m22_6 R K1 mark2 g3 s4 s w) i7 w
def m22_2 (R : VP) (mark2 g3 s4 : Value) (w : World) : Prop :=
  m22_5 R mark2 g3 s4 (Value.int IntKind.i64 0) w
def m22_15 (R : VP) (mark2 g3 s4 t27 : Value) (w : World) : Prop :=
  condP t27
  (m22_16 R (Value.bool false) w)
  (m22_2 R mark2 g3 s4 w)
def m22_1 (R : VP) (mark2 g3 s4 : Value) (w : World) : Prop :=
  valP Try.prog (Instr.fieldAt 33 s4 0) w fun t8 w =>
  valP Try.prog (Instr.loadAt 3 t8) w fun t9 w =>
  valP Try.prog (binS BinOp.lss 3 (Operand.tmp 9) (Operand.const (Value.int IntKind.i64 0)) t9 (Value.int IntKind.i64 0)) w fun t10 w =>
  condP t10
  (pickP t10 (Value.bool true) undef fun t15 =>
  condP t15
  (pickP t15 (Value.bool true) undef fun t21 =>
  condP t21
  (pickP t21 (Value.bool true) undef fun t27 =>
  m22_15 R mark2 g3 s4 t27 w)
  (valP Try.prog (Instr.fieldAt 33 s4 1) w fun t23 w =>
  valP Try.prog (Instr.loadAt 31 t23) w fun t24 w =>
  builtinP Try.prog Builtin.len #[31] 3 #[false] #[t24] w fun t25 w =>
  valP Try.prog (binS BinOp.gtr 3 (Operand.tmp 25) (Operand.const (Value.int IntKind.i64 64)) t25 (Value.int IntKind.i64 64)) w fun t26 w =>
  pickP t21 (Value.bool true) t26 fun t27 =>
  m22_15 R mark2 g3 s4 t27 w))
  (valP Try.prog (Instr.fieldAt 33 s4 1) w fun t17 w =>
  valP Try.prog (Instr.loadAt 31 t17) w fun t18 w =>
  builtinP Try.prog Builtin.len #[31] 3 #[false] #[t18] w fun t19 w =>
  valP Try.prog (binS BinOp.lss 3 (Operand.tmp 19) (Operand.const (Value.int IntKind.i64 1)) t19 (Value.int IntKind.i64 1)) w fun t20 w =>
  pickP t15 (Value.bool true) t20 fun t21 =>
  condP t21
  (pickP t21 (Value.bool true) undef fun t27 =>
  m22_15 R mark2 g3 s4 t27 w)
  (valP Try.prog (Instr.fieldAt 33 s4 1) w fun t23 w =>
  valP Try.prog (Instr.loadAt 31 t23) w fun t24 w =>
  builtinP Try.prog Builtin.len #[31] 3 #[false] #[t24] w fun t25 w =>
  valP Try.prog (binS BinOp.gtr 3 (Operand.tmp 25) (Operand.const (Value.int IntKind.i64 64)) t25 (Value.int IntKind.i64 64)) w fun t26 w =>
  pickP t21 (Value.bool true) t26 fun t27 =>
  m22_15 R mark2 g3 s4 t27 w)))
  (valP Try.prog (Instr.fieldAt 33 s4 0) w fun t12 w =>
  valP Try.prog (Instr.loadAt 3 t12) w fun t13 w =>
  valP Try.prog (binS BinOp.gtr 3 (Operand.tmp 13) (Operand.const (Value.int IntKind.i64 1048576)) t13 (Value.int IntKind.i64 1048576)) w fun t14 w =>
  pickP t10 (Value.bool true) t14 fun t15 =>
  condP t15
  (pickP t15 (Value.bool true) undef fun t21 =>
  condP t21
  (pickP t21 (Value.bool true) undef fun t27 =>
  m22_15 R mark2 g3 s4 t27 w)
  (valP Try.prog (Instr.fieldAt 33 s4 1) w fun t23 w =>
  valP Try.prog (Instr.loadAt 31 t23) w fun t24 w =>
  builtinP Try.prog Builtin.len #[31] 3 #[false] #[t24] w fun t25 w =>
  valP Try.prog (binS BinOp.gtr 3 (Operand.tmp 25) (Operand.const (Value.int IntKind.i64 64)) t25 (Value.int IntKind.i64 64)) w fun t26 w =>
  pickP t21 (Value.bool true) t26 fun t27 =>
  m22_15 R mark2 g3 s4 t27 w))
  (valP Try.prog (Instr.fieldAt 33 s4 1) w fun t17 w =>
  valP Try.prog (Instr.loadAt 31 t17) w fun t18 w =>
  builtinP Try.prog Builtin.len #[31] 3 #[false] #[t18] w fun t19 w =>
  valP Try.prog (binS BinOp.lss 3 (Operand.tmp 19) (Operand.const (Value.int IntKind.i64 1)) t19 (Value.int IntKind.i64 1)) w fun t20 w =>
  pickP t15 (Value.bool true) t20 fun t21 =>
  condP t21
  (pickP t21 (Value.bool true) undef fun t27 =>
  m22_15 R mark2 g3 s4 t27 w)
  (valP Try.prog (Instr.fieldAt 33 s4 1) w fun t23 w =>
  valP Try.prog (Instr.loadAt 31 t23) w fun t24 w =>
  builtinP Try.prog Builtin.len #[31] 3 #[false] #[t24] w fun t25 w =>
  valP Try.prog (binS BinOp.gtr 3 (Operand.tmp 25) (Operand.const (Value.int IntKind.i64 64)) t25 (Value.int IntKind.i64 64)) w fun t26 w =>
  pickP t21 (Value.bool true) t26 fun t27 =>
  m22_15 R mark2 g3 s4 t27 w)))
def m22_0 (R : VP) (g0 s1 mark2 : Value) (w : World) : Prop :=
  valP Try.prog (Instr.box 23 g0) w fun g3 w =>
  valP Try.prog (Instr.box 33 s1) w fun s4 w =>
  m22_1 R mark2 g3 s4 w
abbrev W22 := cwp Try.prog (fun i => 0)
noncomputable def k22_0 : Code := (bodyOf Try.f22)
noncomputable def k22_1 : Code := (c2 k22_0)
noncomputable def k22_2 : Code := (c2 k22_1)
noncomputable def k22_3 : Code := (c2 k22_2)
noncomputable def k22_4 : Code := (c2 k22_3)
noncomputable def k22_5 : Code := (c2 (c1 k22_2))
noncomputable def k22_6 : Code := (c1 (c1 k22_5))
noncomputable def k22_7 : Code := (c2 k22_6)
noncomputable def k22_8 : Code := (c2 k22_7)
noncomputable def k22_9 : Code := (c2 (c1 (c1 k22_7)))
noncomputable def k22_10 : Code := (c2 k22_9)
noncomputable def k22_11 : Code := (c2 (c1 k22_10))
noncomputable def k22_12 : Code := (c2 (c1 (c1 (c1 k22_7))))
noncomputable def k22_13 : Code := (c2 (c1 k22_12))
noncomputable def k22_14 : Code := (c2 (c1 k22_6))
noncomputable def k22_15 : Code := (c2 (c1 k22_1))
noncomputable def k22_16 : Code := (c2 (c1 k22_15))
theorem s22_16 {R : VP} {Q : EQ} (hR : ∀ e w, (R (e 6) w) → Q .ret e w) (e : Env) (w : World) (h : m22_16 R (e 6) w) : W22 k22_16 Q e w := by
  unfold m22_16 at h
  exact reA (hR _ _ h)
theorem s22_13 {R : VP} {K1 : VP} {Q : EQ} (hR : ∀ e w, (R (e 6) w) → Q .ret e w) (e : Env) (w : World) (h : m22_13 R K1 (e 6) w) : W22 k22_13 Q e w := by
  unfold m22_13 at h
  exact reA (hR _ _ h)
theorem s22_11 {R : VP} {K1 : VP} {Q : EQ} (hR : ∀ e w, (R (e 6) w) → Q .ret e w) (e : Env) (w : World) (h : m22_11 R K1 (e 6) w) : W22 k22_11 Q e w := by
  unfold m22_11 at h
  exact reA (hR _ _ h)
theorem s22_8 {R : VP} {K1 : VP} {Q : EQ} (hN : ∀ e w, (K1 (e 7) w) → Q .normal e w) (e : Env) (w : World) (h : m22_8 R K1 (e 2) (e 3) (e 4) (e 7) w) : W22 k22_8 Q e w := by
  unfold m22_8 at h
  exact rgA 5 (fun e w => K1 (e 7) w) h hN
theorem s22_10 {R : VP} {K1 : VP} {Q : EQ} (hN : ∀ e w, (m22_8 R K1 (e 2) (e 3) (e 4) (e 7) w) → Q .normal e w) (hR : ∀ e w, (R (e 6) w) → Q .ret e w) (e : Env) (w : World) (h : m22_10 R K1 (e 2) (e 3) (e 4) (e 7) (e 86) w) : W22 k22_10 Q e w := by
  unfold m22_10 at h
  refine coA (Operand.tmp 86) h (fun h1 => ?_) (fun h1 => ?_)
  · refine seA ?_
    have hN : ∀ e w, (m22_11 R K1 (e 6) w) → (thenE (W22 k22_11 Q) Q) .normal e w := fun e w h => then_N (s22_11 (R := R) (Q := Q) (K1 := K1) hR e w h)
    exact rgA 9 (fun e w => m22_11 R K1 (e 6) w) h1 hN
  · exact skA (hN _ _ h1)
theorem s22_9 {R : VP} {K1 : VP} {Q : EQ} (hN : ∀ e w, (m22_8 R K1 (e 2) (e 3) (e 4) (e 7) w) → Q .normal e w) (hR : ∀ e w, (R (e 6) w) → Q .ret e w) (e : Env) (w : World) (h : m22_9 R K1 (e 2) (e 3) (e 4) (e 7) w) : W22 k22_9 Q e w := by
  unfold m22_9 at h
  refine seA ?_
  have hN : ∀ e w, (m22_10 R K1 (e 2) (e 3) (e 4) (e 7) (e 86) w) → (thenE (W22 k22_10 Q) Q) .normal e w := fun e w h => then_N (s22_10 (R := R) (Q := Q) (K1 := K1) hN hR e w h)
  exact treeJ_ok 8 35 [false, false, false, false, false, false, false, false, false, false, false, false, false, false, false, false, false, false, false, false, false, false, false, false, false, false, false, false, false, false, false, false, false, false, false] (.take 0 [true, false, false, false, false, false, false, false, false, false, false, false, false, false, false, false, false, false, false, false, false, false, false, false, false, false, false, false, false, false, false, false, false, false, false] (.take 1 [true, true, false, false, false, false, false, false, false, false, false, false, false, false, false, false, false, false, false, false, false, false, false, false, false, false, false, false, false, false, false, false, false, false, false] (.take 2 [true, true, true, false, false, false, false, false, false, false, false, false, false, false, false, false, false, false, false, false, false, false, false, false, false, false, false, false, false, false, false, false, false, false, false] (.take 3 [true, true, true, true, false, false, false, false, false, false, false, false, false, false, false, false, false, false, false, false, false, false, false, false, false, false, false, false, false, false, false, false, false, false, false] (.take 4 [true, true, true, true, true, false, false, false, false, false, false, false, false, false, false, false, false, false, false, false, false, false, false, false, false, false, false, false, false, false, false, false, false, false, false] (.take 5 [true, true, true, true, true, true, false, false, false, false, false, false, false, false, false, false, false, false, false, false, false, false, false, false, false, false, false, false, false, false, false, false, false, false, false] (.take 6 [true, true, true, true, true, true, true, false, false, false, false, false, false, false, false, false, false, false, false, false, false, false, false, false, false, false, false, false, false, false, false, false, false, false, false] (.take 7 [true, true, true, true, true, true, true, true, false, false, false, false, false, false, false, false, false, false, false, false, false, false, false, false, false, false, false, false, false, false, false, false, false, false, false] (.take 8 [true, true, true, true, true, true, true, true, true, false, false, false, false, false, false, false, false, false, false, false, false, false, false, false, false, false, false, false, false, false, false, false, false, false, false] (.take 9 [true, true, true, true, true, true, true, true, true, true, false, false, false, false, false, false, false, false, false, false, false, false, false, false, false, false, false, false, false, false, false, false, false, false, false] (.take 10 [true, true, true, true, true, true, true, true, true, true, true, false, false, false, false, false, false, false, false, false, false, false, false, false, false, false, false, false, false, false, false, false, false, false, false] (.take 11 [true, true, true, true, true, true, true, true, true, true, true, true, false, false, false, false, false, false, false, false, false, false, false, false, false, false, false, false, false, false, false, false, false, false, false] (.take 12 [true, true, true, true, true, true, true, true, true, true, true, true, true, false, false, false, false, false, false, false, false, false, false, false, false, false, false, false, false, false, false, false, false, false, false] (.take 13 [true, true, true, true, true, true, true, true, true, true, true, true, true, true, false, false, false, false, false, false, false, false, false, false, false, false, false, false, false, false, false, false, false, false, false] (.alt 14 [true, true, true, true, true, true, true, true, true, true, true, true, true, true, true, false, false, false, false, false, false, false, false, false, false, false, false, false, false, false, false, false, false, false, false] (.take 15 [true, true, true, true, true, true, true, true, true, true, true, true, true, true, true, true, false, false, false, false, false, false, false, false, false, false, false, false, false, false, false, false, false, false, false] (.take 16 [true, true, true, true, true, true, true, true, true, true, true, true, true, true, true, true, true, false, false, false, false, false, false, false, false, false, false, false, false, false, false, false, false, false, false] (.take 17 [true, true, true, true, true, true, true, true, true, true, true, true, true, true, true, true, true, true, false, false, false, false, false, false, false, false, false, false, false, false, false, false, false, false, false] (.take 18 [true, true, true, true, true, true, true, true, true, true, true, true, true, true, true, true, true, true, true, false, false, false, false, false, false, false, false, false, false, false, false, false, false, false, false] (.take 19 [true, true, true, true, true, true, true, true, true, true, true, true, true, true, true, true, true, true, true, true, false, false, false, false, false, false, false, false, false, false, false, false, false, false, false] (.take 20 [true, true, true, true, true, true, true, true, true, true, true, true, true, true, true, true, true, true, true, true, true, false, false, false, false, false, false, false, false, false, false, false, false, false, false] (.take 21 [true, true, true, true, true, true, true, true, true, true, true, true, true, true, true, true, true, true, true, true, true, true, false, false, false, false, false, false, false, false, false, false, false, false, false] (.take 22 [true, true, true, true, true, true, true, true, true, true, true, true, true, true, true, true, true, true, true, true, true, true, true, false, false, false, false, false, false, false, false, false, false, false, false] (.take 23 [true, true, true, true, true, true, true, true, true, true, true, true, true, true, true, true, true, true, true, true, true, true, true, true, false, false, false, false, false, false, false, false, false, false, false] (.take 24 [true, true, true, true, true, true, true, true, true, true, true, true, true, true, true, true, true, true, true, true, true, true, true, true, true, false, false, false, false, false, false, false, false, false, false] (.take 25 [true, true, true, true, true, true, true, true, true, true, true, true, true, true, true, true, true, true, true, true, true, true, true, true, true, true, false, false, false, false, false, false, false, false, false] (.take 26 [true, true, true, true, true, true, true, true, true, true, true, true, true, true, true, true, true, true, true, true, true, true, true, true, true, true, true, false, false, false, false, false, false, false, false] (.take 27 [true, true, true, true, true, true, true, true, true, true, true, true, true, true, true, true, true, true, true, true, true, true, true, true, true, true, true, true, false, false, false, false, false, false, false] (.take 28 [true, true, true, true, true, true, true, true, true, true, true, true, true, true, true, true, true, true, true, true, true, true, true, true, true, true, true, true, true, false, false, false, false, false, false] (.take 29 [true, true, true, true, true, true, true, true, true, true, true, true, true, true, true, true, true, true, true, true, true, true, true, true, true, true, true, true, true, true, false, false, false, false, false] (.take 30 [true, true, true, true, true, true, true, true, true, true, true, true, true, true, true, true, true, true, true, true, true, true, true, true, true, true, true, true, true, true, true, false, false, false, false] (.take 31 [true, true, true, true, true, true, true, true, true, true, true, true, true, true, true, true, true, true, true, true, true, true, true, true, true, true, true, true, true, true, true, true, false, false, false] (.take 32 [true, true, true, true, true, true, true, true, true, true, true, true, true, true, true, true, true, true, true, true, true, true, true, true, true, true, true, true, true, true, true, true, true, false, false] (.take 33 [true, true, true, true, true, true, true, true, true, true, true, true, true, true, true, true, true, true, true, true, true, true, true, true, true, true, true, true, true, true, true, true, true, true, false] (.take 34 [true, true, true, true, true, true, true, true, true, true, true, true, true, true, true, true, true, true, true, true, true, true, true, true, true, true, true, true, true, true, true, true, true, true, true] .done)))))))))))))))))))) .stop))))))))))))))) (fun e w => m22_10 R K1 (e 2) (e 3) (e 4) (e 7) (e 86) w) (by kernel_rfl) (by kernel_rfl) (by kernel_rfl) (by kernel_rfl) (by kernel_rfl) (by kernel_rfl) (kcast (by kernel_rfl) h) hN (by kernel_rfl)
theorem s22_12 {R : VP} {K1 : VP} {Q : EQ} (hN : ∀ e w, (m22_9 R K1 (e 2) (e 3) (e 4) (e 7) w) → Q .normal e w) (hR : ∀ e w, (R (e 6) w) → Q .ret e w) (e : Env) (w : World) (h : m22_12 R K1 (e 2) (e 3) (e 4) (e 7) (e 51) w) : W22 k22_12 Q e w := by
  unfold m22_12 at h
  refine coA (Operand.tmp 51) h (fun h1 => ?_) (fun h1 => ?_)
  · refine seA ?_
    have hN : ∀ e w, (m22_13 R K1 (e 6) w) → (thenE (W22 k22_13 Q) Q) .normal e w := fun e w h => then_N (s22_13 (R := R) (Q := Q) (K1 := K1) hR e w h)
    exact rgA 7 (fun e w => m22_13 R K1 (e 6) w) h1 hN
  · exact skA (hN _ _ h1)
theorem s22_7 {R : VP} {K1 : VP} {Q : EQ} (hN : ∀ e w, (K1 (e 7) w) → Q .normal e w) (hR : ∀ e w, (R (e 6) w) → Q .ret e w) (e : Env) (w : World) (h : m22_7 R K1 (e 2) (e 3) (e 4) (e 7) w) : W22 k22_7 Q e w := by
  unfold m22_7 at h
  refine seA ?_
  have hN : ∀ e w, (m22_8 R K1 (e 2) (e 3) (e 4) (e 7) w) → (thenE (W22 k22_8 Q) Q) .normal e w := fun e w h => then_N (s22_8 (R := R) (Q := Q) (K1 := K1) hN e w h)
  have hR : ∀ e w, (R (e 6) w) → (thenE (W22 k22_8 Q) Q) .ret e w := fun e w h => then_R (hR e w h)
  refine block_ok 1 (by kernel_rfl) ?_
  have hN : ∀ e w, (m22_8 R K1 (e 2) (e 3) (e 4) (e 7) w) → (inBlockE 1 (thenE (W22 k22_8 Q) Q)) .normal e w := fun e w h => block_N (hN e w h)
  have hR : ∀ e w, (R (e 6) w) → (inBlockE 1 (thenE (W22 k22_8 Q) Q)) .ret e w := fun e w h => block_R (hR e w h)
  refine seA ?_
  have hN : ∀ e w, (m22_9 R K1 (e 2) (e 3) (e 4) (e 7) w) → (thenE (W22 k22_9 (inBlockE 1 (thenE (W22 k22_8 Q) Q))) (inBlockE 1 (thenE (W22 k22_8 Q) Q))) .normal e w := fun e w h => then_N (s22_9 (R := R) (Q := (inBlockE 1 (thenE (W22 k22_8 Q) Q))) (K1 := K1) hN hR e w h)
  have hR : ∀ e w, (R (e 6) w) → (thenE (W22 k22_9 (inBlockE 1 (thenE (W22 k22_8 Q) Q))) (inBlockE 1 (thenE (W22 k22_8 Q) Q))) .ret e w := fun e w h => then_R (hR e w h)
  refine seA ?_
  have hN : ∀ e w, (m22_12 R K1 (e 2) (e 3) (e 4) (e 7) (e 51) w) → (thenE (W22 k22_12 (thenE (W22 k22_9 (inBlockE 1 (thenE (W22 k22_8 Q) Q))) (inBlockE 1 (thenE (W22 k22_8 Q) Q)))) (thenE (W22 k22_9 (inBlockE 1 (thenE (W22 k22_8 Q) Q))) (inBlockE 1 (thenE (W22 k22_8 Q) Q)))) .normal e w := fun e w h => then_N (s22_12 (R := R) (Q := (thenE (W22 k22_9 (inBlockE 1 (thenE (W22 k22_8 Q) Q))) (inBlockE 1 (thenE (W22 k22_8 Q) Q)))) (K1 := K1) hN hR e w h)
  exact rgA 6 (fun e w => m22_12 R K1 (e 2) (e 3) (e 4) (e 7) (e 51) w) h hN
theorem s22_4 {R : VP} {Q : EQ} (hR : ∀ e w, (R (e 6) w) → Q .ret e w) (e : Env) (w : World) (h : m22_4 R (e 6) w) : W22 k22_4 Q e w := by
  unfold m22_4 at h
  exact reA (hR _ _ h)
theorem s22_3 {R : VP} {Q : EQ} (hR : ∀ e w, (R (e 6) w) → Q .ret e w) (e : Env) (w : World) (h : m22_3 R (e 2) (e 3) (e 4) w) : W22 k22_3 Q e w := by
  unfold m22_3 at h
  refine seA ?_
  have hN : ∀ e w, (m22_4 R (e 6) w) → (thenE (W22 k22_4 Q) Q) .normal e w := fun e w h => then_N (s22_4 (R := R) (Q := Q) hR e w h)
  exact treeJ_ok 10 7 [false, false, false, false, false, false, false] (.take 0 [true, false, false, false, false, false, false] (.take 1 [true, true, false, false, false, false, false] (.take 3 [true, true, false, true, false, false, false] (.alt 2 [true, true, true, true, false, false, false] (.alt 4 [true, true, true, true, true, false, false] (.take 5 [true, true, true, true, true, true, false] (.take 6 [true, true, true, true, true, true, true] .done)) .stop) .stop)))) (fun e w => m22_4 R (e 6) w) (by kernel_rfl) (by kernel_rfl) (by kernel_rfl) (by kernel_rfl) (by kernel_rfl) (by kernel_rfl) (kcast (by kernel_rfl) h) hN (by kernel_rfl)
theorem s22_14 {R : VP} {K1 : VP} {Q : EQ} (hN : ∀ e w, (m22_7 R K1 (e 2) (e 3) (e 4) (e 7) w) → Q .normal e w) (hX0 : ∀ e w, (m22_3 R (e 2) (e 3) (e 4) w) → Q (.exit 0) e w) (e : Env) (w : World) (h : m22_14 R K1 (e 2) (e 3) (e 4) (e 7) (e 32) w) : W22 k22_14 Q e w := by
  unfold m22_14 at h
  refine coA (Operand.tmp 32) h (fun h1 => ?_) (fun h1 => ?_)
  · exact skA (hN _ _ h1)
  · exact exA 0 (hX0 _ _ h1)
theorem s22_6 {R : VP} {K1 : VP} {Q : EQ} (hN : ∀ e w, (K1 (e 7) w) → Q .normal e w) (hR : ∀ e w, (R (e 6) w) → Q .ret e w) (hX0 : ∀ e w, (m22_3 R (e 2) (e 3) (e 4) w) → Q (.exit 0) e w) (e : Env) (w : World) (h : m22_6 R K1 (e 2) (e 3) (e 4) (e 7) w) : W22 k22_6 Q e w := by
  unfold m22_6 at h
  refine seA ?_
  have hN : ∀ e w, (m22_7 R K1 (e 2) (e 3) (e 4) (e 7) w) → (thenE (W22 k22_7 Q) Q) .normal e w := fun e w h => then_N (s22_7 (R := R) (Q := Q) (K1 := K1) hN hR e w h)
  have hX0 : ∀ e w, (m22_3 R (e 2) (e 3) (e 4) w) → (thenE (W22 k22_7 Q) Q) (.exit 0) e w := fun e w h => then_X (hX0 e w h)
  refine seA ?_
  have hN : ∀ e w, (m22_14 R K1 (e 2) (e 3) (e 4) (e 7) (e 32) w) → (thenE (W22 k22_14 (thenE (W22 k22_7 Q) Q)) (thenE (W22 k22_7 Q) Q)) .normal e w := fun e w h => then_N (s22_14 (R := R) (Q := (thenE (W22 k22_7 Q) Q)) (K1 := K1) hN hX0 e w h)
  exact rgA 4 (fun e w => m22_14 R K1 (e 2) (e 3) (e 4) (e 7) (e 32) w) h hN
theorem s22_5 {R : VP} {Q : EQ} (hN : ∀ e w, (m22_3 R (e 2) (e 3) (e 4) w) → Q .normal e w) (hR : ∀ e w, (R (e 6) w) → Q .ret e w) (e : Env) (w : World) (h : m22_5 R (e 2) (e 3) (e 4) (e 7) w) : W22 k22_5 Q e w := by
  unfold m22_5 at h
  refine block_ok 0 (by kernel_rfl) ?_
  have hX0 : ∀ e w, (m22_3 R (e 2) (e 3) (e 4) w) → (inBlockE 0 Q) (.exit 0) e w := fun e w h => inBlock_same (Q := Q) 0 (hN e w h)
  have hR : ∀ e w, (R (e 6) w) → (inBlockE 0 Q) .ret e w := fun e w h => block_R (hR e w h)
  refine loop_ok' (fun (e : Env) => e 7) [2, 3, 4] (by kernel_rfl) (by kernel_rfl) h (fun K e' w' hk h' => ?_)
  have r2 : e' 2 = e 2 := hk 2 (by decide)
  have r3 : e' 3 = e 3 := hk 3 (by decide)
  have r4 : e' 4 = e 4 := hk 4 (by decide)
  have hR : ∀ e w, (R (e 6) w) → (thenE (fun (e : Env) w => K (e 7) w) (inBlockE 0 Q)) .ret e w := fun e w h => then_R (hR e w h)
  have hX0 : ∀ e w, (m22_3 R (e 2) (e 3) (e 4) w) → (thenE (fun (e : Env) w => K (e 7) w) (inBlockE 0 Q)) (.exit 0) e w := fun e w h => then_X (hX0 e w h)
  exact s22_6 (R := R) (Q := (thenE (fun (e : Env) w => K (e 7) w) (inBlockE 0 Q))) (K1 := K) (fun _ _ h => then_N h) hR hX0 e' w' (by rw [r2, r3, r4]; exact h')
theorem s22_2 {R : VP} {Q : EQ} (hR : ∀ e w, (R (e 6) w) → Q .ret e w) (e : Env) (w : World) (h : m22_2 R (e 2) (e 3) (e 4) w) : W22 k22_2 Q e w := by
  unfold m22_2 at h
  refine seA ?_
  have hN : ∀ e w, (m22_3 R (e 2) (e 3) (e 4) w) → (thenE (W22 k22_3 Q) Q) .normal e w := fun e w h => then_N (s22_3 (R := R) (Q := Q) hR e w h)
  have hR : ∀ e w, (R (e 6) w) → (thenE (W22 k22_3 Q) Q) .ret e w := fun e w h => then_R (hR e w h)
  refine seA ?_
  have hN : ∀ e w, (m22_5 R (e 2) (e 3) (e 4) (e 7) w) → (thenE (W22 k22_5 (thenE (W22 k22_3 Q) Q)) (thenE (W22 k22_3 Q) Q)) .normal e w := fun e w h => then_N (s22_5 (R := R) (Q := (thenE (W22 k22_3 Q) Q)) hN hR e w h)
  exact rgA 3 (fun e w => m22_5 R (e 2) (e 3) (e 4) (e 7) w) h hN
theorem s22_15 {R : VP} {Q : EQ} (hN : ∀ e w, (m22_2 R (e 2) (e 3) (e 4) w) → Q .normal e w) (hR : ∀ e w, (R (e 6) w) → Q .ret e w) (e : Env) (w : World) (h : m22_15 R (e 2) (e 3) (e 4) (e 27) w) : W22 k22_15 Q e w := by
  unfold m22_15 at h
  refine coA (Operand.tmp 27) h (fun h1 => ?_) (fun h1 => ?_)
  · refine seA ?_
    have hN : ∀ e w, (m22_16 R (e 6) w) → (thenE (W22 k22_16 Q) Q) .normal e w := fun e w h => then_N (s22_16 (R := R) (Q := Q) hR e w h)
    exact rgA 2 (fun e w => m22_16 R (e 6) w) h1 hN
  · exact skA (hN _ _ h1)
theorem s22_1 {R : VP} {Q : EQ} (hR : ∀ e w, (R (e 6) w) → Q .ret e w) (e : Env) (w : World) (h : m22_1 R (e 2) (e 3) (e 4) w) : W22 k22_1 Q e w := by
  unfold m22_1 at h
  refine seA ?_
  have hN : ∀ e w, (m22_2 R (e 2) (e 3) (e 4) w) → (thenE (W22 k22_2 Q) Q) .normal e w := fun e w h => then_N (s22_2 (R := R) (Q := Q) hR e w h)
  have hR : ∀ e w, (R (e 6) w) → (thenE (W22 k22_2 Q) Q) .ret e w := fun e w h => then_R (hR e w h)
  refine seA ?_
  have hN : ∀ e w, (m22_15 R (e 2) (e 3) (e 4) (e 27) w) → (thenE (W22 k22_15 (thenE (W22 k22_2 Q) Q)) (thenE (W22 k22_2 Q) Q)) .normal e w := fun e w h => then_N (s22_15 (R := R) (Q := (thenE (W22 k22_2 Q) Q)) hN hR e w h)
  exact rgA 1 (fun e w => m22_15 R (e 2) (e 3) (e 4) (e 27) w) h hN
theorem s22_0 {R : VP} {Q : EQ} (hR : ∀ e w, (R (e 6) w) → Q .ret e w) (e : Env) (w : World) (h : m22_0 R (e 0) (e 1) (e 2) w) : W22 k22_0 Q e w := by
  unfold m22_0 at h
  refine seA ?_
  have hN : ∀ e w, (m22_1 R (e 2) (e 3) (e 4) w) → (thenE (W22 k22_1 Q) Q) .normal e w := fun e w h => then_N (s22_1 (R := R) (Q := Q) hR e w h)
  exact rgA 0 (fun e w => m22_1 R (e 2) (e 3) (e 4) w) h hN
abbrev m22 (R : VP) (g0 s1 mark2 : Value) (w : World) : Prop := m22_0 R g0 s1 mark2 w
theorem s22 (g0 s1 mark2 : Value) {R : VP} {w : World} (h : m22 R g0 s1 mark2 w) :
    Calls Try.prog 22 #[g0, s1, mark2] w fun e w' => ∃ v, e = .returned v ∧ R v w' :=
  calls_of_cwp (st := (fun i => 0)) (c := k22_0) (by kernel_rfl) Try.func22 (by kernel_rfl) (Nat.le_of_ble_eq_true (by kernel_rfl)) (by kernel_rfl)
    (s22_0 (R := R) (Q := endE Try.prog Try.f22 R) (fun e w h => kcast (by kernel_rfl) h) (argsE #[g0, s1, mark2]) w (kcast (by kernel_rfl) h))
end Go.Proofs.Ytojgdmcojmllkaa.M
