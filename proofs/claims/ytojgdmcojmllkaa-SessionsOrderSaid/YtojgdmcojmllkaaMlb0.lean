/- What functions' texts ask of their ends, told over values that have names; printed by a program of this work. -/
import Derived.Test.YtojgdmcojmllkaaFw
import Derived.Test.YtojgdmcojmllkaaProg
namespace Go.Proofs.Ytojgdmcojmllkaa.M
open Go.Proofs.Ytojgdmcojmllkaa.F
set_option linter.unusedVariables false
set_option maxRecDepth 100000
/-! ### headgate/headgatelaw28.SessionsRun -/
def m4_15 (R : VP) (t4 : Value) (w : World) : Prop :=
  R t4 w
def m4_12 (R : VP) (K1 : VP) (t4 : Value) (w : World) : Prop :=
  R t4 w
def m4_10 (R : VP) (K1 : VP) (g2 f5 all6 i8 : Value) (w : World) : Prop :=
  valP Try.prog (binS BinOp.add 3 (Operand.tmp 44) (Operand.const (Value.int IntKind.i64 1)) i8 (Value.int IntKind.i64 1)) w fun t45 w =>
  K1 t45 w
def m4_11 (R : VP) (K1 : VP) (g2 f5 all6 i8 t69 : Value) (w : World) : Prop :=
  condP t69
  (m4_12 R K1 (Value.bool false) w)
  (m4_10 R K1 g2 f5 all6 i8 w)
def m4_9 (R : VP) (K1 : VP) (g2 f5 all6 i8 : Value) (w : World) : Prop :=
  anyDraw w fun w =>
  heldP w fun J =>
  valJ Try.prog J (Instr.loadAt 23 g2) fun t46 =>
  valJ Try.prog J (Instr.indexAt 24 all6 i8) fun t49 =>
  valJ Try.prog J (Instr.loadAt 33 t49) fun t50 =>
  valJ Try.prog J (Instr.fieldAt 26 f5 0) fun t52 =>
  valJ Try.prog J (Instr.loadAt 3 t52) fun t53 =>
  callP Try.prog (fnV 21) #[t50] w fun t51 w =>
  stayP J w
  (callP Try.prog (fnV 20) #[t46, t51, t53] w fun t54 w =>
  stayP J w
  (valJ Try.prog J (Op.unary UnOp.not t54) fun t55 =>
  condP t55
  (pickP t55 (Value.bool true) undef fun t69 =>
  m4_11 R K1 g2 f5 all6 i8 t69 w)
  (valJ Try.prog J (Instr.loadAt 23 g2) fun t57 =>
  valJ Try.prog J (Instr.indexAt 24 all6 i8) fun t60 =>
  valJ Try.prog J (Instr.loadAt 33 t60) fun t61 =>
  valJ Try.prog J (Instr.indexAt 24 all6 i8) fun t64 =>
  valJ Try.prog J (Instr.loadAt 33 t64) fun t65 =>
  callP Try.prog (fnV 21) #[t65] w fun t66 w =>
  stayP J w
  (callP Try.prog (fnV 22) #[t57, t61, t66] w fun t67 w =>
  stayP J w
  (valJ Try.prog J (Op.unary UnOp.not t67) fun t68 =>
  pickP t55 (Value.bool true) t68 fun t69 =>
  m4_11 R K1 g2 f5 all6 i8 t69 w)))))
def m4_6 (R : VP) (t4 : Value) (w : World) : Prop :=
  R t4 w
def m4_5 (R : VP) (g2 f5 : Value) (w : World) : Prop :=
  valP Try.prog (Instr.loadAt 23 g2) w fun t70 w =>
  valP Try.prog (Instr.loadAt 26 f5) w fun t71 w =>
  callP Try.prog (fnV 15) #[t70, t71] w fun t72 w =>
  valP Try.prog (binS BinOp.eql 34 (Operand.tmp 72) (Operand.const (Value.int IntKind.i64 0)) t72 (Value.int IntKind.i64 0)) w fun t73 w =>
  condP t73
  (valP Try.prog (Instr.loadAt 23 g2) w fun t75 w =>
  valP Try.prog (Instr.loadAt 26 f5) w fun t76 w =>
  callP Try.prog (fnV 16) #[t75, t76] w fun t77 w =>
  pickP t73 t77 (Value.bool false) fun t78 =>
  condP t78
  (callP Try.prog (fnV 10) #[] w fun t80 w =>
  pickP t78 t80 (Value.bool false) fun t81 =>
  m4_6 R t81 w)
  (pickP t78 undef (Value.bool false) fun t81 =>
  m4_6 R t81 w))
  (pickP t73 undef (Value.bool false) fun t78 =>
  condP t78
  (callP Try.prog (fnV 10) #[] w fun t80 w =>
  pickP t78 t80 (Value.bool false) fun t81 =>
  m4_6 R t81 w)
  (pickP t78 undef (Value.bool false) fun t81 =>
  m4_6 R t81 w))
def m4_13 (R : VP) (K1 : VP) (g2 f5 all6 i8 t43 : Value) (w : World) : Prop :=
  condP t43
  (m4_9 R K1 g2 f5 all6 i8 w)
  (m4_5 R g2 f5 w)
def m4_8 (R : VP) (K1 : VP) (g2 f5 all6 i8 : Value) (w : World) : Prop :=
  builtinP Try.prog Builtin.len #[24] 3 #[false] #[all6] w fun t42 w =>
  valP Try.prog (binS BinOp.lss 3 (Operand.tmp 40) (Operand.tmp 42) i8 t42) w fun t43 w =>
  m4_13 R K1 g2 f5 all6 i8 t43 w
def m4_7 (R : VP) (g2 f5 all6 i8 : Value) (w : World) : Prop :=
  loopP (fun (K1 : VP) (s : Value) w => m4_8 R K1 g2 f5 all6 s w) i8 w
def m4_4 (R : VP) (g2 f5 all6 : Value) (w : World) : Prop :=
  m4_7 R g2 f5 all6 (Value.int IntKind.i64 0) w
def m4_14 (R : VP) (l1 g2 f5 all6 e7 t24 : Value) (w : World) : Prop :=
  condP t24
  (builtinP Try.prog Builtin.len #[24] 3 #[false] #[all6] w fun t26 w =>
  valP Try.prog (binS BinOp.eql 3 (Operand.tmp 26) (Operand.const (Value.int IntKind.i64 0)) t26 (Value.int IntKind.i64 0)) w fun t27 w =>
  condP t27
  (builtinP Try.prog Builtin.len #[44] 3 #[false] #[l1] w fun t30 w =>
  valP Try.prog (binS BinOp.eql 3 (Operand.tmp 30) (Operand.const (Value.int IntKind.i64 0)) t30 (Value.int IntKind.i64 0)) w fun t31 w =>
  condP t31
  (pickP t31 (Value.bool true) undef fun t35 =>
  pickP t27 t35 (Value.bool false) fun t36 =>
  condP t36
  (callP Try.prog (fnV 10) #[] w fun t38 w =>
  pickP t36 t38 (Value.bool false) fun t39 =>
  m4_15 R t39 w)
  (pickP t36 undef (Value.bool false) fun t39 =>
  m4_15 R t39 w))
  (valP Try.prog (binS BinOp.neq 34 (Operand.tmp 33) (Operand.const (Value.int IntKind.i64 0)) e7 (Value.int IntKind.i64 0)) w fun t34 w =>
  pickP t31 (Value.bool true) t34 fun t35 =>
  pickP t27 t35 (Value.bool false) fun t36 =>
  condP t36
  (callP Try.prog (fnV 10) #[] w fun t38 w =>
  pickP t36 t38 (Value.bool false) fun t39 =>
  m4_15 R t39 w)
  (pickP t36 undef (Value.bool false) fun t39 =>
  m4_15 R t39 w)))
  (pickP t27 undef (Value.bool false) fun t36 =>
  condP t36
  (callP Try.prog (fnV 10) #[] w fun t38 w =>
  pickP t36 t38 (Value.bool false) fun t39 =>
  m4_15 R t39 w)
  (pickP t36 undef (Value.bool false) fun t39 =>
  m4_15 R t39 w)))
  (m4_4 R g2 f5 all6 w)
def m4_3 (R : VP) (l1 g2 f5 all6 e7 : Value) (w : World) : Prop :=
  valP Try.prog (binS BinOp.neq 34 (Operand.tmp 18) (Operand.const (Value.int IntKind.i64 0)) e7 (Value.int IntKind.i64 0)) w fun t19 w =>
  condP t19
  (pickP t19 (Value.bool true) undef fun t24 =>
  m4_14 R l1 g2 f5 all6 e7 t24 w)
  (valP Try.prog (Instr.loadAt 23 g2) w fun t21 w =>
  callP Try.prog (fnV 19) #[t21] w fun t22 w =>
  valP Try.prog (Op.unary UnOp.not t22) w fun t23 w =>
  pickP t19 (Value.bool true) t23 fun t24 =>
  m4_14 R l1 g2 f5 all6 e7 t24 w)
def m4_2 (R : VP) (l1 g2 : Value) (w : World) : Prop :=
  valP Try.prog (Instr.loadAt 23 g2) w fun t12 w =>
  callP Try.prog (fnV 18) #[t12, l1] w fun t14 w =>
  valP Try.prog (Instr.extract t14 0) w fun t15 w =>
  valP Try.prog (Instr.extract t14 1) w fun t16 w =>
  valP Try.prog (Instr.extract t14 2) w fun t17 w =>
  valP Try.prog (Instr.alloc 26 true (.tuple #[])) w fun f5 w =>
  unitP Try.prog (Instr.storeAt 26 f5 t15) w fun _ w =>
  m4_3 R l1 g2 f5 t16 t17 w
def m4_1 (R : VP) (l1 g2 : Value) (w : World) : Prop :=
  callP Try.prog (fnV 17) #[l1] w fun t10 w =>
  m4_2 R t10 g2 w
def m4_0 (R : VP) (g0 l1 : Value) (w : World) : Prop :=
  valP Try.prog (Instr.box 23 g0) w fun g2 w =>
  m4_1 R l1 g2 w
abbrev W4 := cwp Try.prog (fun i => 0)
noncomputable def k4_0 : Code := (bodyOf Try.f4)
noncomputable def k4_1 : Code := (c2 k4_0)
noncomputable def k4_2 : Code := (c2 k4_1)
noncomputable def k4_3 : Code := (c2 k4_2)
noncomputable def k4_4 : Code := (c2 k4_3)
noncomputable def k4_5 : Code := (c2 k4_4)
noncomputable def k4_6 : Code := (c2 k4_5)
noncomputable def k4_7 : Code := (c2 (c1 k4_4))
noncomputable def k4_8 : Code := (c1 (c1 k4_7))
noncomputable def k4_9 : Code := (c2 k4_8)
noncomputable def k4_10 : Code := (c2 k4_9)
noncomputable def k4_11 : Code := (c2 (c1 (c1 k4_9)))
noncomputable def k4_12 : Code := (c2 (c1 k4_11))
noncomputable def k4_13 : Code := (c2 (c1 k4_8))
noncomputable def k4_14 : Code := (c2 (c1 k4_3))
noncomputable def k4_15 : Code := (c2 (c1 k4_14))
theorem s4_15 {R : VP} {Q : EQ} (hR : ∀ e w, (R (e 4) w) → Q .ret e w) (e : Env) (w : World) (h : m4_15 R (e 4) w) : W4 k4_15 Q e w := by
  unfold m4_15 at h
  exact reA (hR _ _ h)
theorem s4_12 {R : VP} {K1 : VP} {Q : EQ} (hR : ∀ e w, (R (e 4) w) → Q .ret e w) (e : Env) (w : World) (h : m4_12 R K1 (e 4) w) : W4 k4_12 Q e w := by
  unfold m4_12 at h
  exact reA (hR _ _ h)
theorem s4_10 {R : VP} {K1 : VP} {Q : EQ} (hN : ∀ e w, (K1 (e 8) w) → Q .normal e w) (e : Env) (w : World) (h : m4_10 R K1 (e 2) (e 5) (e 6) (e 8) w) : W4 k4_10 Q e w := by
  unfold m4_10 at h
  exact rgA 7 (fun e w => K1 (e 8) w) h hN
theorem s4_11 {R : VP} {K1 : VP} {Q : EQ} (hN : ∀ e w, (m4_10 R K1 (e 2) (e 5) (e 6) (e 8) w) → Q .normal e w) (hR : ∀ e w, (R (e 4) w) → Q .ret e w) (e : Env) (w : World) (h : m4_11 R K1 (e 2) (e 5) (e 6) (e 8) (e 69) w) : W4 k4_11 Q e w := by
  unfold m4_11 at h
  refine coA (Operand.tmp 69) h (fun h1 => ?_) (fun h1 => ?_)
  · refine seA ?_
    have hN : ∀ e w, (m4_12 R K1 (e 4) w) → (thenE (W4 k4_12 Q) Q) .normal e w := fun e w h => then_N (s4_12 (R := R) (Q := Q) (K1 := K1) hR e w h)
    exact rgA 9 (fun e w => m4_12 R K1 (e 4) w) h1 hN
  · exact skA (hN _ _ h1)
theorem s4_9 {R : VP} {K1 : VP} {Q : EQ} (hN : ∀ e w, (K1 (e 8) w) → Q .normal e w) (hR : ∀ e w, (R (e 4) w) → Q .ret e w) (e : Env) (w : World) (h : m4_9 R K1 (e 2) (e 5) (e 6) (e 8) w) : W4 k4_9 Q e w := by
  unfold m4_9 at h
  refine seA ?_
  have hN : ∀ e w, (m4_10 R K1 (e 2) (e 5) (e 6) (e 8) w) → (thenE (W4 k4_10 Q) Q) .normal e w := fun e w h => then_N (s4_10 (R := R) (Q := Q) (K1 := K1) hN e w h)
  have hR : ∀ e w, (R (e 4) w) → (thenE (W4 k4_10 Q) Q) .ret e w := fun e w h => then_R (hR e w h)
  refine block_ok 1 (by kernel_rfl) ?_
  have hN : ∀ e w, (m4_10 R K1 (e 2) (e 5) (e 6) (e 8) w) → (inBlockE 1 (thenE (W4 k4_10 Q) Q)) .normal e w := fun e w h => block_N (hN e w h)
  have hR : ∀ e w, (R (e 4) w) → (inBlockE 1 (thenE (W4 k4_10 Q) Q)) .ret e w := fun e w h => block_R (hR e w h)
  refine seA ?_
  have hN : ∀ e w, (m4_11 R K1 (e 2) (e 5) (e 6) (e 8) (e 69) w) → (thenE (W4 k4_11 (inBlockE 1 (thenE (W4 k4_10 Q) Q))) (inBlockE 1 (thenE (W4 k4_10 Q) Q))) .normal e w := fun e w h => then_N (s4_11 (R := R) (Q := (inBlockE 1 (thenE (W4 k4_10 Q) Q))) (K1 := K1) hN hR e w h)
  exact treeJ_ok 8 24 [false, false, false, false, false, false, false, false, false, false, false, false, false, false, false, false, false, false, false, false, false, false, false, false] (.take 0 [true, false, false, false, false, false, false, false, false, false, false, false, false, false, false, false, false, false, false, false, false, false, false, false] (.take 1 [true, true, false, false, false, false, false, false, false, false, false, false, false, false, false, false, false, false, false, false, false, false, false, false] (.take 2 [true, true, true, false, false, false, false, false, false, false, false, false, false, false, false, false, false, false, false, false, false, false, false, false] (.take 3 [true, true, true, true, false, false, false, false, false, false, false, false, false, false, false, false, false, false, false, false, false, false, false, false] (.take 4 [true, true, true, true, true, false, false, false, false, false, false, false, false, false, false, false, false, false, false, false, false, false, false, false] (.take 6 [true, true, true, true, true, false, true, false, false, false, false, false, false, false, false, false, false, false, false, false, false, false, false, false] (.take 7 [true, true, true, true, true, false, true, true, false, false, false, false, false, false, false, false, false, false, false, false, false, false, false, false] (.alt 5 [true, true, true, true, true, true, true, true, false, false, false, false, false, false, false, false, false, false, false, false, false, false, false, false] (.alt 8 [true, true, true, true, true, true, true, true, true, false, false, false, false, false, false, false, false, false, false, false, false, false, false, false] (.take 9 [true, true, true, true, true, true, true, true, true, true, false, false, false, false, false, false, false, false, false, false, false, false, false, false] (.take 10 [true, true, true, true, true, true, true, true, true, true, true, false, false, false, false, false, false, false, false, false, false, false, false, false] (.take 11 [true, true, true, true, true, true, true, true, true, true, true, true, false, false, false, false, false, false, false, false, false, false, false, false] (.take 12 [true, true, true, true, true, true, true, true, true, true, true, true, true, false, false, false, false, false, false, false, false, false, false, false] (.take 13 [true, true, true, true, true, true, true, true, true, true, true, true, true, true, false, false, false, false, false, false, false, false, false, false] (.take 14 [true, true, true, true, true, true, true, true, true, true, true, true, true, true, true, false, false, false, false, false, false, false, false, false] (.take 15 [true, true, true, true, true, true, true, true, true, true, true, true, true, true, true, true, false, false, false, false, false, false, false, false] (.take 16 [true, true, true, true, true, true, true, true, true, true, true, true, true, true, true, true, true, false, false, false, false, false, false, false] (.take 17 [true, true, true, true, true, true, true, true, true, true, true, true, true, true, true, true, true, true, false, false, false, false, false, false] (.take 18 [true, true, true, true, true, true, true, true, true, true, true, true, true, true, true, true, true, true, true, false, false, false, false, false] (.take 19 [true, true, true, true, true, true, true, true, true, true, true, true, true, true, true, true, true, true, true, true, false, false, false, false] (.alt 20 [true, true, true, true, true, true, true, true, true, true, true, true, true, true, true, true, true, true, true, true, true, false, false, false] (.alt 21 [true, true, true, true, true, true, true, true, true, true, true, true, true, true, true, true, true, true, true, true, true, true, false, false] (.take 22 [true, true, true, true, true, true, true, true, true, true, true, true, true, true, true, true, true, true, true, true, true, true, true, false] (.take 23 [true, true, true, true, true, true, true, true, true, true, true, true, true, true, true, true, true, true, true, true, true, true, true, true] .done)) .stop) .stop)))))))))))) .stop) .stop)))))))) (fun e w => m4_11 R K1 (e 2) (e 5) (e 6) (e 8) (e 69) w) (by kernel_rfl) (by kernel_rfl) (by kernel_rfl) (by kernel_rfl) (by kernel_rfl) (by kernel_rfl) (kcast (by kernel_rfl) h) hN (by kernel_rfl)
theorem s4_6 {R : VP} {Q : EQ} (hR : ∀ e w, (R (e 4) w) → Q .ret e w) (e : Env) (w : World) (h : m4_6 R (e 4) w) : W4 k4_6 Q e w := by
  unfold m4_6 at h
  exact reA (hR _ _ h)
theorem s4_5 {R : VP} {Q : EQ} (hR : ∀ e w, (R (e 4) w) → Q .ret e w) (e : Env) (w : World) (h : m4_5 R (e 2) (e 5) w) : W4 k4_5 Q e w := by
  unfold m4_5 at h
  refine seA ?_
  have hN : ∀ e w, (m4_6 R (e 4) w) → (thenE (W4 k4_6 Q) Q) .normal e w := fun e w h => then_N (s4_6 (R := R) (Q := Q) hR e w h)
  exact rgA 10 (fun e w => m4_6 R (e 4) w) h hN
theorem s4_13 {R : VP} {K1 : VP} {Q : EQ} (hN : ∀ e w, (m4_9 R K1 (e 2) (e 5) (e 6) (e 8) w) → Q .normal e w) (hX0 : ∀ e w, (m4_5 R (e 2) (e 5) w) → Q (.exit 0) e w) (e : Env) (w : World) (h : m4_13 R K1 (e 2) (e 5) (e 6) (e 8) (e 43) w) : W4 k4_13 Q e w := by
  unfold m4_13 at h
  refine coA (Operand.tmp 43) h (fun h1 => ?_) (fun h1 => ?_)
  · exact skA (hN _ _ h1)
  · exact exA 0 (hX0 _ _ h1)
theorem s4_8 {R : VP} {K1 : VP} {Q : EQ} (hN : ∀ e w, (K1 (e 8) w) → Q .normal e w) (hR : ∀ e w, (R (e 4) w) → Q .ret e w) (hX0 : ∀ e w, (m4_5 R (e 2) (e 5) w) → Q (.exit 0) e w) (e : Env) (w : World) (h : m4_8 R K1 (e 2) (e 5) (e 6) (e 8) w) : W4 k4_8 Q e w := by
  unfold m4_8 at h
  refine seA ?_
  have hN : ∀ e w, (m4_9 R K1 (e 2) (e 5) (e 6) (e 8) w) → (thenE (W4 k4_9 Q) Q) .normal e w := fun e w h => then_N (s4_9 (R := R) (Q := Q) (K1 := K1) hN hR e w h)
  have hX0 : ∀ e w, (m4_5 R (e 2) (e 5) w) → (thenE (W4 k4_9 Q) Q) (.exit 0) e w := fun e w h => then_X (hX0 e w h)
  refine seA ?_
  have hN : ∀ e w, (m4_13 R K1 (e 2) (e 5) (e 6) (e 8) (e 43) w) → (thenE (W4 k4_13 (thenE (W4 k4_9 Q) Q)) (thenE (W4 k4_9 Q) Q)) .normal e w := fun e w h => then_N (s4_13 (R := R) (Q := (thenE (W4 k4_9 Q) Q)) (K1 := K1) hN hX0 e w h)
  exact rgA 6 (fun e w => m4_13 R K1 (e 2) (e 5) (e 6) (e 8) (e 43) w) h hN
theorem s4_7 {R : VP} {Q : EQ} (hN : ∀ e w, (m4_5 R (e 2) (e 5) w) → Q .normal e w) (hR : ∀ e w, (R (e 4) w) → Q .ret e w) (e : Env) (w : World) (h : m4_7 R (e 2) (e 5) (e 6) (e 8) w) : W4 k4_7 Q e w := by
  unfold m4_7 at h
  refine block_ok 0 (by kernel_rfl) ?_
  have hX0 : ∀ e w, (m4_5 R (e 2) (e 5) w) → (inBlockE 0 Q) (.exit 0) e w := fun e w h => inBlock_same (Q := Q) 0 (hN e w h)
  have hR : ∀ e w, (R (e 4) w) → (inBlockE 0 Q) .ret e w := fun e w h => block_R (hR e w h)
  refine loop_ok' (fun (e : Env) => e 8) [2, 5, 6] (by kernel_rfl) (by kernel_rfl) h (fun K e' w' hk h' => ?_)
  have r2 : e' 2 = e 2 := hk 2 (by decide)
  have r5 : e' 5 = e 5 := hk 5 (by decide)
  have r6 : e' 6 = e 6 := hk 6 (by decide)
  have hR : ∀ e w, (R (e 4) w) → (thenE (fun (e : Env) w => K (e 8) w) (inBlockE 0 Q)) .ret e w := fun e w h => then_R (hR e w h)
  have hX0 : ∀ e w, (m4_5 R (e 2) (e 5) w) → (thenE (fun (e : Env) w => K (e 8) w) (inBlockE 0 Q)) (.exit 0) e w := fun e w h => then_X (hX0 e w h)
  exact s4_8 (R := R) (Q := (thenE (fun (e : Env) w => K (e 8) w) (inBlockE 0 Q))) (K1 := K) (fun _ _ h => then_N h) hR hX0 e' w' (by rw [r2, r5, r6]; exact h')
theorem s4_4 {R : VP} {Q : EQ} (hR : ∀ e w, (R (e 4) w) → Q .ret e w) (e : Env) (w : World) (h : m4_4 R (e 2) (e 5) (e 6) w) : W4 k4_4 Q e w := by
  unfold m4_4 at h
  refine seA ?_
  have hN : ∀ e w, (m4_5 R (e 2) (e 5) w) → (thenE (W4 k4_5 Q) Q) .normal e w := fun e w h => then_N (s4_5 (R := R) (Q := Q) hR e w h)
  have hR : ∀ e w, (R (e 4) w) → (thenE (W4 k4_5 Q) Q) .ret e w := fun e w h => then_R (hR e w h)
  refine seA ?_
  have hN : ∀ e w, (m4_7 R (e 2) (e 5) (e 6) (e 8) w) → (thenE (W4 k4_7 (thenE (W4 k4_5 Q) Q)) (thenE (W4 k4_5 Q) Q)) .normal e w := fun e w h => then_N (s4_7 (R := R) (Q := (thenE (W4 k4_5 Q) Q)) hN hR e w h)
  exact rgA 5 (fun e w => m4_7 R (e 2) (e 5) (e 6) (e 8) w) h hN
theorem s4_14 {R : VP} {Q : EQ} (hN : ∀ e w, (m4_4 R (e 2) (e 5) (e 6) w) → Q .normal e w) (hR : ∀ e w, (R (e 4) w) → Q .ret e w) (e : Env) (w : World) (h : m4_14 R (e 1) (e 2) (e 5) (e 6) (e 7) (e 24) w) : W4 k4_14 Q e w := by
  unfold m4_14 at h
  refine coA (Operand.tmp 24) h (fun h1 => ?_) (fun h1 => ?_)
  · refine seA ?_
    have hN : ∀ e w, (m4_15 R (e 4) w) → (thenE (W4 k4_15 Q) Q) .normal e w := fun e w h => then_N (s4_15 (R := R) (Q := Q) hR e w h)
    exact rgA 4 (fun e w => m4_15 R (e 4) w) h1 hN
  · exact skA (hN _ _ h1)
theorem s4_3 {R : VP} {Q : EQ} (hR : ∀ e w, (R (e 4) w) → Q .ret e w) (e : Env) (w : World) (h : m4_3 R (e 1) (e 2) (e 5) (e 6) (e 7) w) : W4 k4_3 Q e w := by
  unfold m4_3 at h
  refine seA ?_
  have hN : ∀ e w, (m4_4 R (e 2) (e 5) (e 6) w) → (thenE (W4 k4_4 Q) Q) .normal e w := fun e w h => then_N (s4_4 (R := R) (Q := Q) hR e w h)
  have hR : ∀ e w, (R (e 4) w) → (thenE (W4 k4_4 Q) Q) .ret e w := fun e w h => then_R (hR e w h)
  refine seA ?_
  have hN : ∀ e w, (m4_14 R (e 1) (e 2) (e 5) (e 6) (e 7) (e 24) w) → (thenE (W4 k4_14 (thenE (W4 k4_4 Q) Q)) (thenE (W4 k4_4 Q) Q)) .normal e w := fun e w h => then_N (s4_14 (R := R) (Q := (thenE (W4 k4_4 Q) Q)) hN hR e w h)
  exact rgA 3 (fun e w => m4_14 R (e 1) (e 2) (e 5) (e 6) (e 7) (e 24) w) h hN
theorem s4_2 {R : VP} {Q : EQ} (hR : ∀ e w, (R (e 4) w) → Q .ret e w) (e : Env) (w : World) (h : m4_2 R (e 1) (e 2) w) : W4 k4_2 Q e w := by
  unfold m4_2 at h
  refine seA ?_
  have hN : ∀ e w, (m4_3 R (e 1) (e 2) (e 5) (e 6) (e 7) w) → (thenE (W4 k4_3 Q) Q) .normal e w := fun e w h => then_N (s4_3 (R := R) (Q := Q) hR e w h)
  exact rgA 2 (fun e w => m4_3 R (e 1) (e 2) (e 5) (e 6) (e 7) w) h hN
theorem s4_1 {R : VP} {Q : EQ} (hR : ∀ e w, (R (e 4) w) → Q .ret e w) (e : Env) (w : World) (h : m4_1 R (e 1) (e 2) w) : W4 k4_1 Q e w := by
  unfold m4_1 at h
  refine seA ?_
  have hN : ∀ e w, (m4_2 R (e 1) (e 2) w) → (thenE (W4 k4_2 Q) Q) .normal e w := fun e w h => then_N (s4_2 (R := R) (Q := Q) hR e w h)
  exact rgA 1 (fun e w => m4_2 R (e 1) (e 2) w) h hN
theorem s4_0 {R : VP} {Q : EQ} (hR : ∀ e w, (R (e 4) w) → Q .ret e w) (e : Env) (w : World) (h : m4_0 R (e 0) (e 1) w) : W4 k4_0 Q e w := by
  unfold m4_0 at h
  refine seA ?_
  have hN : ∀ e w, (m4_1 R (e 1) (e 2) w) → (thenE (W4 k4_1 Q) Q) .normal e w := fun e w h => then_N (s4_1 (R := R) (Q := Q) hR e w h)
  exact rgA 0 (fun e w => m4_1 R (e 1) (e 2) w) h hN
abbrev m4 (R : VP) (g0 l1 : Value) (w : World) : Prop := m4_0 R g0 l1 w
theorem s4 (g0 l1 : Value) {R : VP} {w : World} (h : m4 R g0 l1 w) :
    Calls Try.prog 4 #[g0, l1] w fun e w' => ∃ v, e = .returned v ∧ R v w' :=
  calls_of_cwp (st := (fun i => 0)) (c := k4_0) (by kernel_rfl) Try.func4 (by kernel_rfl) (Nat.le_of_ble_eq_true (by kernel_rfl)) (by kernel_rfl)
    (s4_0 (R := R) (Q := endE Try.prog Try.f4 R) (fun e w h => kcast (by kernel_rfl) h) (argsE #[g0, l1]) w (kcast (by kernel_rfl) h))
end Go.Proofs.Ytojgdmcojmllkaa.M
