/- What functions' texts ask of their ends, told over values that have names; printed by a program of this work. -/
import Derived.Test.YtojgdmcojmllkaaFw
import Derived.Test.YtojgdmcojmllkaaProg
namespace Go.Proofs.Ytojgdmcojmllkaa.M
open Go.Proofs.Ytojgdmcojmllkaa.F
set_option linter.unusedVariables false
set_option maxRecDepth 100000
/-! ### headgate/headgatelaw28.SessionsWhole -/
def m7_33 (R : VP) (t4 : Value) (w : World) : Prop :=
  R t4 w
def m7_14 (R : VP) (K1 : VP) (K2 : VP) (g2 f5 i8 k9 : Value) (w : World) : Prop :=
  valP Try.prog (binS BinOp.add 3 (Operand.tmp 42) (Operand.const (Value.int IntKind.i64 1)) k9 (Value.int IntKind.i64 1)) w fun t43 w =>
  K2 t43 w
def m7_26 (R : VP) (K1 : VP) (K2 : VP) (K3 : VP) (K4 : VP) (t4 : Value) (w : World) : Prop :=
  R t4 w
def m7_23 (R : VP) (K1 : VP) (K2 : VP) (K3 : VP) (K4 : VP) (g2 f5 i8 k9 a10 b11 : Value) (w : World) : Prop :=
  valP Try.prog (binS BinOp.add 3 (Operand.tmp 82) (Operand.const (Value.int IntKind.i64 1)) b11 (Value.int IntKind.i64 1)) w fun t83 w =>
  K4 t83 w
def m7_25 (R : VP) (K1 : VP) (K2 : VP) (K3 : VP) (K4 : VP) (g2 f5 i8 k9 a10 b11 t115 : Value) (w : World) : Prop :=
  condP t115
  (m7_26 R K1 K2 K3 K4 (Value.bool false) w)
  (m7_23 R K1 K2 K3 K4 g2 f5 i8 k9 a10 b11 w)
def m7_24 (R : VP) (K1 : VP) (K2 : VP) (K3 : VP) (K4 : VP) (g2 f5 i8 k9 a10 b11 d12 : Value) (w : World) : Prop :=
  valP Try.prog (Instr.fieldAt 23 g2 0) w fun t106 w =>
  valP Try.prog (Instr.loadAt 3 t106) w fun t107 w =>
  valP Try.prog (binS BinOp.leq 3 (Operand.tmp 105) (Operand.tmp 107) d12 t107) w fun t108 w =>
  condP t108
  (valP Try.prog (Instr.fieldAt 23 g2 0) w fun t111 w =>
  valP Try.prog (Instr.loadAt 3 t111) w fun t112 w =>
  valP Try.prog (Op.unary UnOp.neg t112) w fun t113 w =>
  valP Try.prog (binS BinOp.geq 3 (Operand.tmp 110) (Operand.tmp 113) d12 t113) w fun t114 w =>
  pickP t108 t114 (Value.bool false) fun t115 =>
  m7_25 R K1 K2 K3 K4 g2 f5 i8 k9 a10 b11 t115 w)
  (pickP t108 undef (Value.bool false) fun t115 =>
  m7_25 R K1 K2 K3 K4 g2 f5 i8 k9 a10 b11 t115 w)
def m7_22 (R : VP) (K1 : VP) (K2 : VP) (K3 : VP) (K4 : VP) (g2 f5 i8 k9 a10 b11 : Value) (w : World) : Prop :=
  valQ Try.prog (Instr.fieldAt 26 f5 2) w fun t84 =>
  valQ Try.prog (Instr.loadAt 24 t84) w fun t85 =>
  valQ Try.prog (Instr.indexAt 24 t85 i8) w fun t87 =>
  valQ Try.prog (Instr.fieldAt 33 t87 1) w fun t88 =>
  valQ Try.prog (Instr.loadAt 31 t88) w fun t89 =>
  valQ Try.prog (Instr.indexAt 31 t89 a10) w fun t91 =>
  valQ Try.prog (Instr.fieldAt 28 t91 0) w fun t92 =>
  valQ Try.prog (Instr.loadAt 3 t92) w fun t93 =>
  valQ Try.prog (Instr.fieldAt 26 f5 2) w fun t94 =>
  valQ Try.prog (Instr.loadAt 24 t94) w fun t95 =>
  valQ Try.prog (Instr.indexAt 24 t95 k9) w fun t97 =>
  valQ Try.prog (Instr.fieldAt 33 t97 1) w fun t98 =>
  valQ Try.prog (Instr.loadAt 31 t98) w fun t99 =>
  valQ Try.prog (Instr.indexAt 31 t99 b11) w fun t101 =>
  valQ Try.prog (Instr.fieldAt 28 t101 0) w fun t102 =>
  valQ Try.prog (Instr.loadAt 3 t102) w fun t103 =>
  valQ Try.prog (binS BinOp.sub 3 (Operand.tmp 93) (Operand.tmp 103) t93 t103) w fun t104 =>
  anyDraw w fun w =>
  m7_24 R K1 K2 K3 K4 g2 f5 i8 k9 a10 b11 t104 w
def m7_19 (R : VP) (K1 : VP) (K2 : VP) (K3 : VP) (g2 f5 i8 k9 a10 : Value) (w : World) : Prop :=
  valP Try.prog (binS BinOp.add 3 (Operand.tmp 71) (Operand.const (Value.int IntKind.i64 1)) a10 (Value.int IntKind.i64 1)) w fun t72 w =>
  K3 t72 w
def m7_27 (R : VP) (K1 : VP) (K2 : VP) (K3 : VP) (K4 : VP) (g2 f5 i8 k9 a10 b11 t81 : Value) (w : World) : Prop :=
  condP t81
  (m7_22 R K1 K2 K3 K4 g2 f5 i8 k9 a10 b11 w)
  (m7_19 R K1 K2 K3 g2 f5 i8 k9 a10 w)
def m7_21 (R : VP) (K1 : VP) (K2 : VP) (K3 : VP) (K4 : VP) (g2 f5 i8 k9 a10 b11 : Value) (w : World) : Prop :=
  valP Try.prog (Instr.fieldAt 26 f5 2) w fun t74 w =>
  valP Try.prog (Instr.loadAt 24 t74) w fun t75 w =>
  valP Try.prog (Instr.indexAt 24 t75 k9) w fun t77 w =>
  valP Try.prog (Instr.fieldAt 33 t77 1) w fun t78 w =>
  valP Try.prog (Instr.loadAt 31 t78) w fun t79 w =>
  builtinP Try.prog Builtin.len #[31] 3 #[false] #[t79] w fun t80 w =>
  valP Try.prog (binS BinOp.lss 3 (Operand.tmp 73) (Operand.tmp 80) b11 t80) w fun t81 w =>
  m7_27 R K1 K2 K3 K4 g2 f5 i8 k9 a10 b11 t81 w
def m7_20 (R : VP) (K1 : VP) (K2 : VP) (K3 : VP) (g2 f5 i8 k9 a10 b11 : Value) (w : World) : Prop :=
  loopP (fun (K4 : VP) (s : Value) w => m7_21 R K1 K2 K3 K4 g2 f5 i8 k9 a10 s w) b11 w
def m7_18 (R : VP) (K1 : VP) (K2 : VP) (K3 : VP) (g2 f5 i8 k9 a10 : Value) (w : World) : Prop :=
  m7_20 R K1 K2 K3 g2 f5 i8 k9 a10 (Value.int IntKind.i64 0) w
def m7_28 (R : VP) (K1 : VP) (K2 : VP) (K3 : VP) (g2 f5 i8 k9 a10 t70 : Value) (w : World) : Prop :=
  condP t70
  (m7_18 R K1 K2 K3 g2 f5 i8 k9 a10 w)
  (m7_14 R K1 K2 g2 f5 i8 k9 w)
def m7_17 (R : VP) (K1 : VP) (K2 : VP) (K3 : VP) (g2 f5 i8 k9 a10 : Value) (w : World) : Prop :=
  valP Try.prog (Instr.fieldAt 26 f5 2) w fun t63 w =>
  valP Try.prog (Instr.loadAt 24 t63) w fun t64 w =>
  valP Try.prog (Instr.indexAt 24 t64 i8) w fun t66 w =>
  valP Try.prog (Instr.fieldAt 33 t66 1) w fun t67 w =>
  valP Try.prog (Instr.loadAt 31 t67) w fun t68 w =>
  builtinP Try.prog Builtin.len #[31] 3 #[false] #[t68] w fun t69 w =>
  valP Try.prog (binS BinOp.lss 3 (Operand.tmp 62) (Operand.tmp 69) a10 t69) w fun t70 w =>
  m7_28 R K1 K2 K3 g2 f5 i8 k9 a10 t70 w
def m7_16 (R : VP) (K1 : VP) (K2 : VP) (g2 f5 i8 k9 a10 : Value) (w : World) : Prop :=
  loopP (fun (K3 : VP) (s : Value) w => m7_17 R K1 K2 K3 g2 f5 i8 k9 s w) a10 w
def m7_15 (R : VP) (K1 : VP) (K2 : VP) (g2 f5 i8 k9 : Value) (w : World) : Prop :=
  m7_16 R K1 K2 g2 f5 i8 k9 (Value.int IntKind.i64 0) w
def m7_29 (R : VP) (K1 : VP) (K2 : VP) (g2 f5 i8 k9 t61 : Value) (w : World) : Prop :=
  condP t61
  (m7_14 R K1 K2 g2 f5 i8 k9 w)
  (m7_15 R K1 K2 g2 f5 i8 k9 w)
def m7_13 (R : VP) (K1 : VP) (K2 : VP) (g2 f5 i8 k9 : Value) (w : World) : Prop :=
  valQ Try.prog (binS BinOp.eql 3 (Operand.tmp 44) (Operand.tmp 45) i8 k9) w fun t46 =>
  condP t46
  (pickP t46 (Value.bool true) undef fun t61 =>
  anyDraw w fun w =>
  m7_29 R K1 K2 g2 f5 i8 k9 t61 w)
  (valQ Try.prog (Instr.fieldAt 26 f5 2) w fun t48 =>
  valQ Try.prog (Instr.loadAt 24 t48) w fun t49 =>
  valQ Try.prog (Instr.indexAt 24 t49 i8) w fun t51 =>
  valQ Try.prog (Instr.fieldAt 33 t51 0) w fun t52 =>
  valQ Try.prog (Instr.loadAt 3 t52) w fun t53 =>
  valQ Try.prog (Instr.fieldAt 26 f5 2) w fun t54 =>
  valQ Try.prog (Instr.loadAt 24 t54) w fun t55 =>
  valQ Try.prog (Instr.indexAt 24 t55 k9) w fun t57 =>
  valQ Try.prog (Instr.fieldAt 33 t57 0) w fun t58 =>
  valQ Try.prog (Instr.loadAt 3 t58) w fun t59 =>
  valQ Try.prog (binS BinOp.neq 3 (Operand.tmp 53) (Operand.tmp 59) t53 t59) w fun t60 =>
  pickP t46 (Value.bool true) t60 fun t61 =>
  anyDraw w fun w =>
  m7_29 R K1 K2 g2 f5 i8 k9 t61 w)
def m7_10 (R : VP) (K1 : VP) (g2 f5 i8 : Value) (w : World) : Prop :=
  valP Try.prog (binS BinOp.add 3 (Operand.tmp 35) (Operand.const (Value.int IntKind.i64 1)) i8 (Value.int IntKind.i64 1)) w fun t36 w =>
  K1 t36 w
def m7_30 (R : VP) (K1 : VP) (K2 : VP) (g2 f5 i8 k9 t41 : Value) (w : World) : Prop :=
  condP t41
  (m7_13 R K1 K2 g2 f5 i8 k9 w)
  (m7_10 R K1 g2 f5 i8 w)
def m7_12 (R : VP) (K1 : VP) (K2 : VP) (g2 f5 i8 k9 : Value) (w : World) : Prop :=
  valP Try.prog (Instr.fieldAt 26 f5 2) w fun t38 w =>
  valP Try.prog (Instr.loadAt 24 t38) w fun t39 w =>
  builtinP Try.prog Builtin.len #[24] 3 #[false] #[t39] w fun t40 w =>
  valP Try.prog (binS BinOp.lss 3 (Operand.tmp 37) (Operand.tmp 40) k9 t40) w fun t41 w =>
  m7_30 R K1 K2 g2 f5 i8 k9 t41 w
def m7_11 (R : VP) (K1 : VP) (g2 f5 i8 k9 : Value) (w : World) : Prop :=
  loopP (fun (K2 : VP) (s : Value) w => m7_12 R K1 K2 g2 f5 i8 s w) k9 w
def m7_9 (R : VP) (K1 : VP) (g2 f5 i8 : Value) (w : World) : Prop :=
  m7_11 R K1 g2 f5 i8 (Value.int IntKind.i64 0) w
def m7_6 (R : VP) (t4 : Value) (w : World) : Prop :=
  R t4 w
def m7_5 (R : VP) (w : World) : Prop :=
  callP Try.prog (fnV 10) #[] w fun t116 w =>
  m7_6 R t116 w
def m7_31 (R : VP) (K1 : VP) (g2 f5 i8 t34 : Value) (w : World) : Prop :=
  condP t34
  (m7_9 R K1 g2 f5 i8 w)
  (m7_5 R w)
def m7_8 (R : VP) (K1 : VP) (g2 f5 i8 : Value) (w : World) : Prop :=
  valP Try.prog (Instr.fieldAt 26 f5 2) w fun t31 w =>
  valP Try.prog (Instr.loadAt 24 t31) w fun t32 w =>
  builtinP Try.prog Builtin.len #[24] 3 #[false] #[t32] w fun t33 w =>
  valP Try.prog (binS BinOp.lss 3 (Operand.tmp 30) (Operand.tmp 33) i8 t33) w fun t34 w =>
  m7_31 R K1 g2 f5 i8 t34 w
def m7_7 (R : VP) (g2 f5 i8 : Value) (w : World) : Prop :=
  loopP (fun (K1 : VP) (s : Value) w => m7_8 R K1 g2 f5 s w) i8 w
def m7_4 (R : VP) (g2 f5 : Value) (w : World) : Prop :=
  m7_7 R g2 f5 (Value.int IntKind.i64 0) w
def m7_32 (R : VP) (g2 f5 all6 t23 : Value) (w : World) : Prop :=
  condP t23
  (builtinP Try.prog Builtin.len #[24] 3 #[false] #[all6] w fun t25 w =>
  valP Try.prog (binS BinOp.eql 3 (Operand.tmp 25) (Operand.const (Value.int IntKind.i64 0)) t25 (Value.int IntKind.i64 0)) w fun t26 w =>
  condP t26
  (callP Try.prog (fnV 10) #[] w fun t28 w =>
  pickP t26 t28 (Value.bool false) fun t29 =>
  m7_33 R t29 w)
  (pickP t26 undef (Value.bool false) fun t29 =>
  m7_33 R t29 w))
  (m7_4 R g2 f5 w)
def m7_3 (R : VP) (g2 f5 all6 e7 : Value) (w : World) : Prop :=
  valP Try.prog (binS BinOp.neq 34 (Operand.tmp 22) (Operand.const (Value.int IntKind.i64 0)) e7 (Value.int IntKind.i64 0)) w fun t23 w =>
  m7_32 R g2 f5 all6 t23 w
def m7_2 (R : VP) (l1 g2 : Value) (w : World) : Prop :=
  valP Try.prog (Instr.loadAt 23 g2) w fun t16 w =>
  callP Try.prog (fnV 18) #[t16, l1] w fun t18 w =>
  valP Try.prog (Instr.extract t18 0) w fun t19 w =>
  valP Try.prog (Instr.extract t18 1) w fun t20 w =>
  valP Try.prog (Instr.extract t18 2) w fun t21 w =>
  valP Try.prog (Instr.alloc 26 true (.tuple #[])) w fun f5 w =>
  unitP Try.prog (Instr.storeAt 26 f5 t19) w fun _ w =>
  m7_3 R g2 f5 t20 t21 w
def m7_1 (R : VP) (l1 g2 : Value) (w : World) : Prop :=
  callP Try.prog (fnV 17) #[l1] w fun t14 w =>
  m7_2 R t14 g2 w
def m7_0 (R : VP) (g0 l1 : Value) (w : World) : Prop :=
  valP Try.prog (Instr.box 23 g0) w fun g2 w =>
  m7_1 R l1 g2 w
abbrev W7 := cwp Try.prog (fun i => cond (Nat.beq i 18) 1 (cond (Nat.beq i 11) 1 (0)))
noncomputable def k7_0 : Code := (bodyOf Try.f7)
noncomputable def k7_1 : Code := (c2 k7_0)
noncomputable def k7_2 : Code := (c2 k7_1)
noncomputable def k7_3 : Code := (c2 k7_2)
noncomputable def k7_4 : Code := (c2 k7_3)
noncomputable def k7_5 : Code := (c2 k7_4)
noncomputable def k7_6 : Code := (c2 k7_5)
noncomputable def k7_7 : Code := (c2 (c1 k7_4))
noncomputable def k7_8 : Code := (c1 (c1 k7_7))
noncomputable def k7_9 : Code := (c2 k7_8)
noncomputable def k7_10 : Code := (c2 k7_9)
noncomputable def k7_11 : Code := (c2 (c1 (c1 k7_9)))
noncomputable def k7_12 : Code := (c1 (c1 k7_11))
noncomputable def k7_13 : Code := (c2 k7_12)
noncomputable def k7_14 : Code := (c2 k7_13)
noncomputable def k7_15 : Code := (c2 (c1 (c1 k7_13)))
noncomputable def k7_16 : Code := (c2 k7_15)
noncomputable def k7_17 : Code := (c1 (c1 k7_16))
noncomputable def k7_18 : Code := (c2 k7_17)
noncomputable def k7_19 : Code := (c2 k7_18)
noncomputable def k7_20 : Code := (c2 (c1 (c1 k7_18)))
noncomputable def k7_21 : Code := (c1 (c1 k7_20))
noncomputable def k7_22 : Code := (c2 k7_21)
noncomputable def k7_23 : Code := (c2 k7_22)
noncomputable def k7_24 : Code := (c2 (c1 (c1 k7_22)))
noncomputable def k7_25 : Code := (c2 k7_24)
noncomputable def k7_26 : Code := (c2 (c1 k7_25))
noncomputable def k7_27 : Code := (c2 (c1 k7_21))
noncomputable def k7_28 : Code := (c2 (c1 k7_17))
noncomputable def k7_29 : Code := (c2 (c1 (c1 (c1 k7_13))))
noncomputable def k7_30 : Code := (c2 (c1 k7_12))
noncomputable def k7_31 : Code := (c2 (c1 k7_8))
noncomputable def k7_32 : Code := (c2 (c1 k7_3))
noncomputable def k7_33 : Code := (c2 (c1 k7_32))
theorem s7_33 {R : VP} {Q : EQ} (hR : ∀ e w, (R (e 4) w) → Q .ret e w) (e : Env) (w : World) (h : m7_33 R (e 4) w) : W7 k7_33 Q e w := by
  unfold m7_33 at h
  exact reA (hR _ _ h)
theorem s7_14 {R : VP} {K1 : VP} {K2 : VP} {Q : EQ} (hN : ∀ e w, (K2 (e 9) w) → Q .normal e w) (e : Env) (w : World) (h : m7_14 R K1 K2 (e 2) (e 5) (e 8) (e 9) w) : W7 k7_14 Q e w := by
  unfold m7_14 at h
  exact rgA 10 (fun e w => K2 (e 9) w) h hN
theorem s7_26 {R : VP} {K1 : VP} {K2 : VP} {K3 : VP} {K4 : VP} {Q : EQ} (hR : ∀ e w, (R (e 4) w) → Q .ret e w) (e : Env) (w : World) (h : m7_26 R K1 K2 K3 K4 (e 4) w) : W7 k7_26 Q e w := by
  unfold m7_26 at h
  exact reA (hR _ _ h)
theorem s7_23 {R : VP} {K1 : VP} {K2 : VP} {K3 : VP} {K4 : VP} {Q : EQ} (hN : ∀ e w, (K4 (e 11) w) → Q .normal e w) (e : Env) (w : World) (h : m7_23 R K1 K2 K3 K4 (e 2) (e 5) (e 8) (e 9) (e 10) (e 11) w) : W7 k7_23 Q e w := by
  unfold m7_23 at h
  exact rgA 17 (fun e w => K4 (e 11) w) h hN
theorem s7_25 {R : VP} {K1 : VP} {K2 : VP} {K3 : VP} {K4 : VP} {Q : EQ} (hN : ∀ e w, (m7_23 R K1 K2 K3 K4 (e 2) (e 5) (e 8) (e 9) (e 10) (e 11) w) → Q .normal e w) (hR : ∀ e w, (R (e 4) w) → Q .ret e w) (e : Env) (w : World) (h : m7_25 R K1 K2 K3 K4 (e 2) (e 5) (e 8) (e 9) (e 10) (e 11) (e 115) w) : W7 k7_25 Q e w := by
  unfold m7_25 at h
  refine coA (Operand.tmp 115) h (fun h1 => ?_) (fun h1 => ?_)
  · refine seA ?_
    have hN : ∀ e w, (m7_26 R K1 K2 K3 K4 (e 4) w) → (thenE (W7 k7_26 Q) Q) .normal e w := fun e w h => then_N (s7_26 (R := R) (Q := Q) (K1 := K1) (K2 := K2) (K3 := K3) (K4 := K4) hR e w h)
    exact rgA 20 (fun e w => m7_26 R K1 K2 K3 K4 (e 4) w) h1 hN
  · exact skA (hN _ _ h1)
theorem s7_24 {R : VP} {K1 : VP} {K2 : VP} {K3 : VP} {K4 : VP} {Q : EQ} (hN : ∀ e w, (m7_23 R K1 K2 K3 K4 (e 2) (e 5) (e 8) (e 9) (e 10) (e 11) w) → Q .normal e w) (hR : ∀ e w, (R (e 4) w) → Q .ret e w) (e : Env) (w : World) (h : m7_24 R K1 K2 K3 K4 (e 2) (e 5) (e 8) (e 9) (e 10) (e 11) (e 12) w) : W7 k7_24 Q e w := by
  unfold m7_24 at h
  refine seA ?_
  have hN : ∀ e w, (m7_25 R K1 K2 K3 K4 (e 2) (e 5) (e 8) (e 9) (e 10) (e 11) (e 115) w) → (thenE (W7 k7_25 Q) Q) .normal e w := fun e w h => then_N (s7_25 (R := R) (Q := Q) (K1 := K1) (K2 := K2) (K3 := K3) (K4 := K4) hN hR e w h)
  exact rgA 19 (fun e w => m7_25 R K1 K2 K3 K4 (e 2) (e 5) (e 8) (e 9) (e 10) (e 11) (e 115) w) h hN
theorem s7_22 {R : VP} {K1 : VP} {K2 : VP} {K3 : VP} {K4 : VP} {Q : EQ} (hN : ∀ e w, (K4 (e 11) w) → Q .normal e w) (hR : ∀ e w, (R (e 4) w) → Q .ret e w) (e : Env) (w : World) (h : m7_22 R K1 K2 K3 K4 (e 2) (e 5) (e 8) (e 9) (e 10) (e 11) w) : W7 k7_22 Q e w := by
  unfold m7_22 at h
  refine seA ?_
  have hN : ∀ e w, (m7_23 R K1 K2 K3 K4 (e 2) (e 5) (e 8) (e 9) (e 10) (e 11) w) → (thenE (W7 k7_23 Q) Q) .normal e w := fun e w h => then_N (s7_23 (R := R) (Q := Q) (K1 := K1) (K2 := K2) (K3 := K3) (K4 := K4) hN e w h)
  have hR : ∀ e w, (R (e 4) w) → (thenE (W7 k7_23 Q) Q) .ret e w := fun e w h => then_R (hR e w h)
  refine block_ok 7 (by kernel_rfl) ?_
  have hN : ∀ e w, (m7_23 R K1 K2 K3 K4 (e 2) (e 5) (e 8) (e 9) (e 10) (e 11) w) → (inBlockE 7 (thenE (W7 k7_23 Q) Q)) .normal e w := fun e w h => block_N (hN e w h)
  have hR : ∀ e w, (R (e 4) w) → (inBlockE 7 (thenE (W7 k7_23 Q) Q)) .ret e w := fun e w h => block_R (hR e w h)
  refine seA ?_
  have hN : ∀ e w, (m7_24 R K1 K2 K3 K4 (e 2) (e 5) (e 8) (e 9) (e 10) (e 11) (e 12) w) → (thenE (W7 k7_24 (inBlockE 7 (thenE (W7 k7_23 Q) Q))) (inBlockE 7 (thenE (W7 k7_23 Q) Q))) .normal e w := fun e w h => then_N (s7_24 (R := R) (Q := (inBlockE 7 (thenE (W7 k7_23 Q) Q))) (K1 := K1) (K2 := K2) (K3 := K3) (K4 := K4) hN hR e w h)
  exact quA 18 (fun e w => m7_24 R K1 K2 K3 K4 (e 2) (e 5) (e 8) (e 9) (e 10) (e 11) (e 12) w) h hN
theorem s7_19 {R : VP} {K1 : VP} {K2 : VP} {K3 : VP} {Q : EQ} (hN : ∀ e w, (K3 (e 10) w) → Q .normal e w) (e : Env) (w : World) (h : m7_19 R K1 K2 K3 (e 2) (e 5) (e 8) (e 9) (e 10) w) : W7 k7_19 Q e w := by
  unfold m7_19 at h
  exact rgA 14 (fun e w => K3 (e 10) w) h hN
theorem s7_27 {R : VP} {K1 : VP} {K2 : VP} {K3 : VP} {K4 : VP} {Q : EQ} (hN : ∀ e w, (m7_22 R K1 K2 K3 K4 (e 2) (e 5) (e 8) (e 9) (e 10) (e 11) w) → Q .normal e w) (hX6 : ∀ e w, (m7_19 R K1 K2 K3 (e 2) (e 5) (e 8) (e 9) (e 10) w) → Q (.exit 6) e w) (e : Env) (w : World) (h : m7_27 R K1 K2 K3 K4 (e 2) (e 5) (e 8) (e 9) (e 10) (e 11) (e 81) w) : W7 k7_27 Q e w := by
  unfold m7_27 at h
  refine coA (Operand.tmp 81) h (fun h1 => ?_) (fun h1 => ?_)
  · exact skA (hN _ _ h1)
  · exact exA 6 (hX6 _ _ h1)
theorem s7_21 {R : VP} {K1 : VP} {K2 : VP} {K3 : VP} {K4 : VP} {Q : EQ} (hN : ∀ e w, (K4 (e 11) w) → Q .normal e w) (hR : ∀ e w, (R (e 4) w) → Q .ret e w) (hX6 : ∀ e w, (m7_19 R K1 K2 K3 (e 2) (e 5) (e 8) (e 9) (e 10) w) → Q (.exit 6) e w) (e : Env) (w : World) (h : m7_21 R K1 K2 K3 K4 (e 2) (e 5) (e 8) (e 9) (e 10) (e 11) w) : W7 k7_21 Q e w := by
  unfold m7_21 at h
  refine seA ?_
  have hN : ∀ e w, (m7_22 R K1 K2 K3 K4 (e 2) (e 5) (e 8) (e 9) (e 10) (e 11) w) → (thenE (W7 k7_22 Q) Q) .normal e w := fun e w h => then_N (s7_22 (R := R) (Q := Q) (K1 := K1) (K2 := K2) (K3 := K3) (K4 := K4) hN hR e w h)
  have hX6 : ∀ e w, (m7_19 R K1 K2 K3 (e 2) (e 5) (e 8) (e 9) (e 10) w) → (thenE (W7 k7_22 Q) Q) (.exit 6) e w := fun e w h => then_X (hX6 e w h)
  refine seA ?_
  have hN : ∀ e w, (m7_27 R K1 K2 K3 K4 (e 2) (e 5) (e 8) (e 9) (e 10) (e 11) (e 81) w) → (thenE (W7 k7_27 (thenE (W7 k7_22 Q) Q)) (thenE (W7 k7_22 Q) Q)) .normal e w := fun e w h => then_N (s7_27 (R := R) (Q := (thenE (W7 k7_22 Q) Q)) (K1 := K1) (K2 := K2) (K3 := K3) (K4 := K4) hN hX6 e w h)
  exact rgA 16 (fun e w => m7_27 R K1 K2 K3 K4 (e 2) (e 5) (e 8) (e 9) (e 10) (e 11) (e 81) w) h hN
theorem s7_20 {R : VP} {K1 : VP} {K2 : VP} {K3 : VP} {Q : EQ} (hN : ∀ e w, (m7_19 R K1 K2 K3 (e 2) (e 5) (e 8) (e 9) (e 10) w) → Q .normal e w) (hR : ∀ e w, (R (e 4) w) → Q .ret e w) (e : Env) (w : World) (h : m7_20 R K1 K2 K3 (e 2) (e 5) (e 8) (e 9) (e 10) (e 11) w) : W7 k7_20 Q e w := by
  unfold m7_20 at h
  refine block_ok 6 (by kernel_rfl) ?_
  have hX6 : ∀ e w, (m7_19 R K1 K2 K3 (e 2) (e 5) (e 8) (e 9) (e 10) w) → (inBlockE 6 Q) (.exit 6) e w := fun e w h => inBlock_same (Q := Q) 6 (hN e w h)
  have hR : ∀ e w, (R (e 4) w) → (inBlockE 6 Q) .ret e w := fun e w h => block_R (hR e w h)
  refine loop_ok' (fun (e : Env) => e 11) [2, 5, 8, 9, 10] (by kernel_rfl) (by kernel_rfl) h (fun K e' w' hk h' => ?_)
  have r2 : e' 2 = e 2 := hk 2 (by decide)
  have r5 : e' 5 = e 5 := hk 5 (by decide)
  have r8 : e' 8 = e 8 := hk 8 (by decide)
  have r9 : e' 9 = e 9 := hk 9 (by decide)
  have r10 : e' 10 = e 10 := hk 10 (by decide)
  have hR : ∀ e w, (R (e 4) w) → (thenE (fun (e : Env) w => K (e 11) w) (inBlockE 6 Q)) .ret e w := fun e w h => then_R (hR e w h)
  have hX6 : ∀ e w, (m7_19 R K1 K2 K3 (e 2) (e 5) (e 8) (e 9) (e 10) w) → (thenE (fun (e : Env) w => K (e 11) w) (inBlockE 6 Q)) (.exit 6) e w := fun e w h => then_X (hX6 e w h)
  exact s7_21 (R := R) (Q := (thenE (fun (e : Env) w => K (e 11) w) (inBlockE 6 Q))) (K1 := K1) (K2 := K2) (K3 := K3) (K4 := K) (fun _ _ h => then_N h) hR hX6 e' w' (by rw [r2, r5, r8, r9, r10]; exact h')
theorem s7_18 {R : VP} {K1 : VP} {K2 : VP} {K3 : VP} {Q : EQ} (hN : ∀ e w, (K3 (e 10) w) → Q .normal e w) (hR : ∀ e w, (R (e 4) w) → Q .ret e w) (e : Env) (w : World) (h : m7_18 R K1 K2 K3 (e 2) (e 5) (e 8) (e 9) (e 10) w) : W7 k7_18 Q e w := by
  unfold m7_18 at h
  refine seA ?_
  have hN : ∀ e w, (m7_19 R K1 K2 K3 (e 2) (e 5) (e 8) (e 9) (e 10) w) → (thenE (W7 k7_19 Q) Q) .normal e w := fun e w h => then_N (s7_19 (R := R) (Q := Q) (K1 := K1) (K2 := K2) (K3 := K3) hN e w h)
  have hR : ∀ e w, (R (e 4) w) → (thenE (W7 k7_19 Q) Q) .ret e w := fun e w h => then_R (hR e w h)
  refine block_ok 5 (by kernel_rfl) ?_
  have hN : ∀ e w, (m7_19 R K1 K2 K3 (e 2) (e 5) (e 8) (e 9) (e 10) w) → (inBlockE 5 (thenE (W7 k7_19 Q) Q)) .normal e w := fun e w h => block_N (hN e w h)
  have hR : ∀ e w, (R (e 4) w) → (inBlockE 5 (thenE (W7 k7_19 Q) Q)) .ret e w := fun e w h => block_R (hR e w h)
  refine seA ?_
  have hN : ∀ e w, (m7_20 R K1 K2 K3 (e 2) (e 5) (e 8) (e 9) (e 10) (e 11) w) → (thenE (W7 k7_20 (inBlockE 5 (thenE (W7 k7_19 Q) Q))) (inBlockE 5 (thenE (W7 k7_19 Q) Q))) .normal e w := fun e w h => then_N (s7_20 (R := R) (Q := (inBlockE 5 (thenE (W7 k7_19 Q) Q))) (K1 := K1) (K2 := K2) (K3 := K3) hN hR e w h)
  exact rgA 15 (fun e w => m7_20 R K1 K2 K3 (e 2) (e 5) (e 8) (e 9) (e 10) (e 11) w) h hN
theorem s7_28 {R : VP} {K1 : VP} {K2 : VP} {K3 : VP} {Q : EQ} (hN : ∀ e w, (m7_18 R K1 K2 K3 (e 2) (e 5) (e 8) (e 9) (e 10) w) → Q .normal e w) (hX4 : ∀ e w, (m7_14 R K1 K2 (e 2) (e 5) (e 8) (e 9) w) → Q (.exit 4) e w) (e : Env) (w : World) (h : m7_28 R K1 K2 K3 (e 2) (e 5) (e 8) (e 9) (e 10) (e 70) w) : W7 k7_28 Q e w := by
  unfold m7_28 at h
  refine coA (Operand.tmp 70) h (fun h1 => ?_) (fun h1 => ?_)
  · exact skA (hN _ _ h1)
  · exact exA 4 (hX4 _ _ h1)
theorem s7_17 {R : VP} {K1 : VP} {K2 : VP} {K3 : VP} {Q : EQ} (hN : ∀ e w, (K3 (e 10) w) → Q .normal e w) (hR : ∀ e w, (R (e 4) w) → Q .ret e w) (hX4 : ∀ e w, (m7_14 R K1 K2 (e 2) (e 5) (e 8) (e 9) w) → Q (.exit 4) e w) (e : Env) (w : World) (h : m7_17 R K1 K2 K3 (e 2) (e 5) (e 8) (e 9) (e 10) w) : W7 k7_17 Q e w := by
  unfold m7_17 at h
  refine seA ?_
  have hN : ∀ e w, (m7_18 R K1 K2 K3 (e 2) (e 5) (e 8) (e 9) (e 10) w) → (thenE (W7 k7_18 Q) Q) .normal e w := fun e w h => then_N (s7_18 (R := R) (Q := Q) (K1 := K1) (K2 := K2) (K3 := K3) hN hR e w h)
  have hX4 : ∀ e w, (m7_14 R K1 K2 (e 2) (e 5) (e 8) (e 9) w) → (thenE (W7 k7_18 Q) Q) (.exit 4) e w := fun e w h => then_X (hX4 e w h)
  refine seA ?_
  have hN : ∀ e w, (m7_28 R K1 K2 K3 (e 2) (e 5) (e 8) (e 9) (e 10) (e 70) w) → (thenE (W7 k7_28 (thenE (W7 k7_18 Q) Q)) (thenE (W7 k7_18 Q) Q)) .normal e w := fun e w h => then_N (s7_28 (R := R) (Q := (thenE (W7 k7_18 Q) Q)) (K1 := K1) (K2 := K2) (K3 := K3) hN hX4 e w h)
  exact rgA 13 (fun e w => m7_28 R K1 K2 K3 (e 2) (e 5) (e 8) (e 9) (e 10) (e 70) w) h hN
theorem s7_16 {R : VP} {K1 : VP} {K2 : VP} {Q : EQ} (hN : ∀ e w, (m7_14 R K1 K2 (e 2) (e 5) (e 8) (e 9) w) → Q .normal e w) (hR : ∀ e w, (R (e 4) w) → Q .ret e w) (e : Env) (w : World) (h : m7_16 R K1 K2 (e 2) (e 5) (e 8) (e 9) (e 10) w) : W7 k7_16 Q e w := by
  unfold m7_16 at h
  refine block_ok 4 (by kernel_rfl) ?_
  have hX4 : ∀ e w, (m7_14 R K1 K2 (e 2) (e 5) (e 8) (e 9) w) → (inBlockE 4 Q) (.exit 4) e w := fun e w h => inBlock_same (Q := Q) 4 (hN e w h)
  have hR : ∀ e w, (R (e 4) w) → (inBlockE 4 Q) .ret e w := fun e w h => block_R (hR e w h)
  refine loop_ok' (fun (e : Env) => e 10) [2, 5, 8, 9] (by kernel_rfl) (by kernel_rfl) h (fun K e' w' hk h' => ?_)
  have r2 : e' 2 = e 2 := hk 2 (by decide)
  have r5 : e' 5 = e 5 := hk 5 (by decide)
  have r8 : e' 8 = e 8 := hk 8 (by decide)
  have r9 : e' 9 = e 9 := hk 9 (by decide)
  have hR : ∀ e w, (R (e 4) w) → (thenE (fun (e : Env) w => K (e 10) w) (inBlockE 4 Q)) .ret e w := fun e w h => then_R (hR e w h)
  have hX4 : ∀ e w, (m7_14 R K1 K2 (e 2) (e 5) (e 8) (e 9) w) → (thenE (fun (e : Env) w => K (e 10) w) (inBlockE 4 Q)) (.exit 4) e w := fun e w h => then_X (hX4 e w h)
  exact s7_17 (R := R) (Q := (thenE (fun (e : Env) w => K (e 10) w) (inBlockE 4 Q))) (K1 := K1) (K2 := K2) (K3 := K) (fun _ _ h => then_N h) hR hX4 e' w' (by rw [r2, r5, r8, r9]; exact h')
theorem s7_15 {R : VP} {K1 : VP} {K2 : VP} {Q : EQ} (hN : ∀ e w, (m7_14 R K1 K2 (e 2) (e 5) (e 8) (e 9) w) → Q .normal e w) (hR : ∀ e w, (R (e 4) w) → Q .ret e w) (e : Env) (w : World) (h : m7_15 R K1 K2 (e 2) (e 5) (e 8) (e 9) w) : W7 k7_15 Q e w := by
  unfold m7_15 at h
  refine seA ?_
  have hN : ∀ e w, (m7_16 R K1 K2 (e 2) (e 5) (e 8) (e 9) (e 10) w) → (thenE (W7 k7_16 Q) Q) .normal e w := fun e w h => then_N (s7_16 (R := R) (Q := Q) (K1 := K1) (K2 := K2) hN hR e w h)
  exact rgA 12 (fun e w => m7_16 R K1 K2 (e 2) (e 5) (e 8) (e 9) (e 10) w) h hN
theorem s7_29 {R : VP} {K1 : VP} {K2 : VP} {Q : EQ} (hN : ∀ e w, (m7_15 R K1 K2 (e 2) (e 5) (e 8) (e 9) w) → Q .normal e w) (hX3 : ∀ e w, (m7_14 R K1 K2 (e 2) (e 5) (e 8) (e 9) w) → Q (.exit 3) e w) (e : Env) (w : World) (h : m7_29 R K1 K2 (e 2) (e 5) (e 8) (e 9) (e 61) w) : W7 k7_29 Q e w := by
  unfold m7_29 at h
  refine coA (Operand.tmp 61) h (fun h1 => ?_) (fun h1 => ?_)
  · exact exA 3 (hX3 _ _ h1)
  · exact skA (hN _ _ h1)
theorem s7_13 {R : VP} {K1 : VP} {K2 : VP} {Q : EQ} (hN : ∀ e w, (K2 (e 9) w) → Q .normal e w) (hR : ∀ e w, (R (e 4) w) → Q .ret e w) (e : Env) (w : World) (h : m7_13 R K1 K2 (e 2) (e 5) (e 8) (e 9) w) : W7 k7_13 Q e w := by
  unfold m7_13 at h
  refine seA ?_
  have hN : ∀ e w, (m7_14 R K1 K2 (e 2) (e 5) (e 8) (e 9) w) → (thenE (W7 k7_14 Q) Q) .normal e w := fun e w h => then_N (s7_14 (R := R) (Q := Q) (K1 := K1) (K2 := K2) hN e w h)
  have hR : ∀ e w, (R (e 4) w) → (thenE (W7 k7_14 Q) Q) .ret e w := fun e w h => then_R (hR e w h)
  refine block_ok 3 (by kernel_rfl) ?_
  have hX3 : ∀ e w, (m7_14 R K1 K2 (e 2) (e 5) (e 8) (e 9) w) → (inBlockE 3 (thenE (W7 k7_14 Q) Q)) (.exit 3) e w := fun e w h => inBlock_same (Q := (thenE (W7 k7_14 Q) Q)) 3 (hN e w h)
  have hN : ∀ e w, (m7_14 R K1 K2 (e 2) (e 5) (e 8) (e 9) w) → (inBlockE 3 (thenE (W7 k7_14 Q) Q)) .normal e w := fun e w h => block_N (hN e w h)
  have hR : ∀ e w, (R (e 4) w) → (inBlockE 3 (thenE (W7 k7_14 Q) Q)) .ret e w := fun e w h => block_R (hR e w h)
  refine seA ?_
  have hN : ∀ e w, (m7_15 R K1 K2 (e 2) (e 5) (e 8) (e 9) w) → (thenE (W7 k7_15 (inBlockE 3 (thenE (W7 k7_14 Q) Q))) (inBlockE 3 (thenE (W7 k7_14 Q) Q))) .normal e w := fun e w h => then_N (s7_15 (R := R) (Q := (inBlockE 3 (thenE (W7 k7_14 Q) Q))) (K1 := K1) (K2 := K2) hN hR e w h)
  have hX3 : ∀ e w, (m7_14 R K1 K2 (e 2) (e 5) (e 8) (e 9) w) → (thenE (W7 k7_15 (inBlockE 3 (thenE (W7 k7_14 Q) Q))) (inBlockE 3 (thenE (W7 k7_14 Q) Q))) (.exit 3) e w := fun e w h => then_X (hX3 e w h)
  refine seA ?_
  have hN : ∀ e w, (m7_29 R K1 K2 (e 2) (e 5) (e 8) (e 9) (e 61) w) → (thenE (W7 k7_29 (thenE (W7 k7_15 (inBlockE 3 (thenE (W7 k7_14 Q) Q))) (inBlockE 3 (thenE (W7 k7_14 Q) Q)))) (thenE (W7 k7_15 (inBlockE 3 (thenE (W7 k7_14 Q) Q))) (inBlockE 3 (thenE (W7 k7_14 Q) Q)))) .normal e w := fun e w h => then_N (s7_29 (R := R) (Q := (thenE (W7 k7_15 (inBlockE 3 (thenE (W7 k7_14 Q) Q))) (inBlockE 3 (thenE (W7 k7_14 Q) Q)))) (K1 := K1) (K2 := K2) hN hX3 e w h)
  exact quA 11 (fun e w => m7_29 R K1 K2 (e 2) (e 5) (e 8) (e 9) (e 61) w) h hN
theorem s7_10 {R : VP} {K1 : VP} {Q : EQ} (hN : ∀ e w, (K1 (e 8) w) → Q .normal e w) (e : Env) (w : World) (h : m7_10 R K1 (e 2) (e 5) (e 8) w) : W7 k7_10 Q e w := by
  unfold m7_10 at h
  exact rgA 7 (fun e w => K1 (e 8) w) h hN
theorem s7_30 {R : VP} {K1 : VP} {K2 : VP} {Q : EQ} (hN : ∀ e w, (m7_13 R K1 K2 (e 2) (e 5) (e 8) (e 9) w) → Q .normal e w) (hX2 : ∀ e w, (m7_10 R K1 (e 2) (e 5) (e 8) w) → Q (.exit 2) e w) (e : Env) (w : World) (h : m7_30 R K1 K2 (e 2) (e 5) (e 8) (e 9) (e 41) w) : W7 k7_30 Q e w := by
  unfold m7_30 at h
  refine coA (Operand.tmp 41) h (fun h1 => ?_) (fun h1 => ?_)
  · exact skA (hN _ _ h1)
  · exact exA 2 (hX2 _ _ h1)
theorem s7_12 {R : VP} {K1 : VP} {K2 : VP} {Q : EQ} (hN : ∀ e w, (K2 (e 9) w) → Q .normal e w) (hR : ∀ e w, (R (e 4) w) → Q .ret e w) (hX2 : ∀ e w, (m7_10 R K1 (e 2) (e 5) (e 8) w) → Q (.exit 2) e w) (e : Env) (w : World) (h : m7_12 R K1 K2 (e 2) (e 5) (e 8) (e 9) w) : W7 k7_12 Q e w := by
  unfold m7_12 at h
  refine seA ?_
  have hN : ∀ e w, (m7_13 R K1 K2 (e 2) (e 5) (e 8) (e 9) w) → (thenE (W7 k7_13 Q) Q) .normal e w := fun e w h => then_N (s7_13 (R := R) (Q := Q) (K1 := K1) (K2 := K2) hN hR e w h)
  have hX2 : ∀ e w, (m7_10 R K1 (e 2) (e 5) (e 8) w) → (thenE (W7 k7_13 Q) Q) (.exit 2) e w := fun e w h => then_X (hX2 e w h)
  refine seA ?_
  have hN : ∀ e w, (m7_30 R K1 K2 (e 2) (e 5) (e 8) (e 9) (e 41) w) → (thenE (W7 k7_30 (thenE (W7 k7_13 Q) Q)) (thenE (W7 k7_13 Q) Q)) .normal e w := fun e w h => then_N (s7_30 (R := R) (Q := (thenE (W7 k7_13 Q) Q)) (K1 := K1) (K2 := K2) hN hX2 e w h)
  exact rgA 9 (fun e w => m7_30 R K1 K2 (e 2) (e 5) (e 8) (e 9) (e 41) w) h hN
theorem s7_11 {R : VP} {K1 : VP} {Q : EQ} (hN : ∀ e w, (m7_10 R K1 (e 2) (e 5) (e 8) w) → Q .normal e w) (hR : ∀ e w, (R (e 4) w) → Q .ret e w) (e : Env) (w : World) (h : m7_11 R K1 (e 2) (e 5) (e 8) (e 9) w) : W7 k7_11 Q e w := by
  unfold m7_11 at h
  refine block_ok 2 (by kernel_rfl) ?_
  have hX2 : ∀ e w, (m7_10 R K1 (e 2) (e 5) (e 8) w) → (inBlockE 2 Q) (.exit 2) e w := fun e w h => inBlock_same (Q := Q) 2 (hN e w h)
  have hR : ∀ e w, (R (e 4) w) → (inBlockE 2 Q) .ret e w := fun e w h => block_R (hR e w h)
  refine loop_ok' (fun (e : Env) => e 9) [2, 5, 8] (by kernel_rfl) (by kernel_rfl) h (fun K e' w' hk h' => ?_)
  have r2 : e' 2 = e 2 := hk 2 (by decide)
  have r5 : e' 5 = e 5 := hk 5 (by decide)
  have r8 : e' 8 = e 8 := hk 8 (by decide)
  have hR : ∀ e w, (R (e 4) w) → (thenE (fun (e : Env) w => K (e 9) w) (inBlockE 2 Q)) .ret e w := fun e w h => then_R (hR e w h)
  have hX2 : ∀ e w, (m7_10 R K1 (e 2) (e 5) (e 8) w) → (thenE (fun (e : Env) w => K (e 9) w) (inBlockE 2 Q)) (.exit 2) e w := fun e w h => then_X (hX2 e w h)
  exact s7_12 (R := R) (Q := (thenE (fun (e : Env) w => K (e 9) w) (inBlockE 2 Q))) (K1 := K1) (K2 := K) (fun _ _ h => then_N h) hR hX2 e' w' (by rw [r2, r5, r8]; exact h')
theorem s7_9 {R : VP} {K1 : VP} {Q : EQ} (hN : ∀ e w, (K1 (e 8) w) → Q .normal e w) (hR : ∀ e w, (R (e 4) w) → Q .ret e w) (e : Env) (w : World) (h : m7_9 R K1 (e 2) (e 5) (e 8) w) : W7 k7_9 Q e w := by
  unfold m7_9 at h
  refine seA ?_
  have hN : ∀ e w, (m7_10 R K1 (e 2) (e 5) (e 8) w) → (thenE (W7 k7_10 Q) Q) .normal e w := fun e w h => then_N (s7_10 (R := R) (Q := Q) (K1 := K1) hN e w h)
  have hR : ∀ e w, (R (e 4) w) → (thenE (W7 k7_10 Q) Q) .ret e w := fun e w h => then_R (hR e w h)
  refine block_ok 1 (by kernel_rfl) ?_
  have hN : ∀ e w, (m7_10 R K1 (e 2) (e 5) (e 8) w) → (inBlockE 1 (thenE (W7 k7_10 Q) Q)) .normal e w := fun e w h => block_N (hN e w h)
  have hR : ∀ e w, (R (e 4) w) → (inBlockE 1 (thenE (W7 k7_10 Q) Q)) .ret e w := fun e w h => block_R (hR e w h)
  refine seA ?_
  have hN : ∀ e w, (m7_11 R K1 (e 2) (e 5) (e 8) (e 9) w) → (thenE (W7 k7_11 (inBlockE 1 (thenE (W7 k7_10 Q) Q))) (inBlockE 1 (thenE (W7 k7_10 Q) Q))) .normal e w := fun e w h => then_N (s7_11 (R := R) (Q := (inBlockE 1 (thenE (W7 k7_10 Q) Q))) (K1 := K1) hN hR e w h)
  exact rgA 8 (fun e w => m7_11 R K1 (e 2) (e 5) (e 8) (e 9) w) h hN
theorem s7_6 {R : VP} {Q : EQ} (hR : ∀ e w, (R (e 4) w) → Q .ret e w) (e : Env) (w : World) (h : m7_6 R (e 4) w) : W7 k7_6 Q e w := by
  unfold m7_6 at h
  exact reA (hR _ _ h)
theorem s7_5 {R : VP} {Q : EQ} (hR : ∀ e w, (R (e 4) w) → Q .ret e w) (e : Env) (w : World) (h : m7_5 R w) : W7 k7_5 Q e w := by
  unfold m7_5 at h
  refine seA ?_
  have hN : ∀ e w, (m7_6 R (e 4) w) → (thenE (W7 k7_6 Q) Q) .normal e w := fun e w h => then_N (s7_6 (R := R) (Q := Q) hR e w h)
  exact rgA 21 (fun e w => m7_6 R (e 4) w) h hN
theorem s7_31 {R : VP} {K1 : VP} {Q : EQ} (hN : ∀ e w, (m7_9 R K1 (e 2) (e 5) (e 8) w) → Q .normal e w) (hX0 : ∀ e w, (m7_5 R w) → Q (.exit 0) e w) (e : Env) (w : World) (h : m7_31 R K1 (e 2) (e 5) (e 8) (e 34) w) : W7 k7_31 Q e w := by
  unfold m7_31 at h
  refine coA (Operand.tmp 34) h (fun h1 => ?_) (fun h1 => ?_)
  · exact skA (hN _ _ h1)
  · exact exA 0 (hX0 _ _ h1)
theorem s7_8 {R : VP} {K1 : VP} {Q : EQ} (hN : ∀ e w, (K1 (e 8) w) → Q .normal e w) (hR : ∀ e w, (R (e 4) w) → Q .ret e w) (hX0 : ∀ e w, (m7_5 R w) → Q (.exit 0) e w) (e : Env) (w : World) (h : m7_8 R K1 (e 2) (e 5) (e 8) w) : W7 k7_8 Q e w := by
  unfold m7_8 at h
  refine seA ?_
  have hN : ∀ e w, (m7_9 R K1 (e 2) (e 5) (e 8) w) → (thenE (W7 k7_9 Q) Q) .normal e w := fun e w h => then_N (s7_9 (R := R) (Q := Q) (K1 := K1) hN hR e w h)
  have hX0 : ∀ e w, (m7_5 R w) → (thenE (W7 k7_9 Q) Q) (.exit 0) e w := fun e w h => then_X (hX0 e w h)
  refine seA ?_
  have hN : ∀ e w, (m7_31 R K1 (e 2) (e 5) (e 8) (e 34) w) → (thenE (W7 k7_31 (thenE (W7 k7_9 Q) Q)) (thenE (W7 k7_9 Q) Q)) .normal e w := fun e w h => then_N (s7_31 (R := R) (Q := (thenE (W7 k7_9 Q) Q)) (K1 := K1) hN hX0 e w h)
  exact rgA 6 (fun e w => m7_31 R K1 (e 2) (e 5) (e 8) (e 34) w) h hN
theorem s7_7 {R : VP} {Q : EQ} (hN : ∀ e w, (m7_5 R w) → Q .normal e w) (hR : ∀ e w, (R (e 4) w) → Q .ret e w) (e : Env) (w : World) (h : m7_7 R (e 2) (e 5) (e 8) w) : W7 k7_7 Q e w := by
  unfold m7_7 at h
  refine block_ok 0 (by kernel_rfl) ?_
  have hX0 : ∀ e w, (m7_5 R w) → (inBlockE 0 Q) (.exit 0) e w := fun e w h => inBlock_same (Q := Q) 0 (hN e w h)
  have hR : ∀ e w, (R (e 4) w) → (inBlockE 0 Q) .ret e w := fun e w h => block_R (hR e w h)
  refine loop_ok' (fun (e : Env) => e 8) [2, 5] (by kernel_rfl) (by kernel_rfl) h (fun K e' w' hk h' => ?_)
  have r2 : e' 2 = e 2 := hk 2 (by decide)
  have r5 : e' 5 = e 5 := hk 5 (by decide)
  have hR : ∀ e w, (R (e 4) w) → (thenE (fun (e : Env) w => K (e 8) w) (inBlockE 0 Q)) .ret e w := fun e w h => then_R (hR e w h)
  have hX0 : ∀ e w, (m7_5 R w) → (thenE (fun (e : Env) w => K (e 8) w) (inBlockE 0 Q)) (.exit 0) e w := fun e w h => then_X (hX0 e w h)
  exact s7_8 (R := R) (Q := (thenE (fun (e : Env) w => K (e 8) w) (inBlockE 0 Q))) (K1 := K) (fun _ _ h => then_N h) hR hX0 e' w' (by rw [r2, r5]; exact h')
theorem s7_4 {R : VP} {Q : EQ} (hR : ∀ e w, (R (e 4) w) → Q .ret e w) (e : Env) (w : World) (h : m7_4 R (e 2) (e 5) w) : W7 k7_4 Q e w := by
  unfold m7_4 at h
  refine seA ?_
  have hN : ∀ e w, (m7_5 R w) → (thenE (W7 k7_5 Q) Q) .normal e w := fun e w h => then_N (s7_5 (R := R) (Q := Q) hR e w h)
  have hR : ∀ e w, (R (e 4) w) → (thenE (W7 k7_5 Q) Q) .ret e w := fun e w h => then_R (hR e w h)
  refine seA ?_
  have hN : ∀ e w, (m7_7 R (e 2) (e 5) (e 8) w) → (thenE (W7 k7_7 (thenE (W7 k7_5 Q) Q)) (thenE (W7 k7_5 Q) Q)) .normal e w := fun e w h => then_N (s7_7 (R := R) (Q := (thenE (W7 k7_5 Q) Q)) hN hR e w h)
  exact rgA 5 (fun e w => m7_7 R (e 2) (e 5) (e 8) w) h hN
theorem s7_32 {R : VP} {Q : EQ} (hN : ∀ e w, (m7_4 R (e 2) (e 5) w) → Q .normal e w) (hR : ∀ e w, (R (e 4) w) → Q .ret e w) (e : Env) (w : World) (h : m7_32 R (e 2) (e 5) (e 6) (e 23) w) : W7 k7_32 Q e w := by
  unfold m7_32 at h
  refine coA (Operand.tmp 23) h (fun h1 => ?_) (fun h1 => ?_)
  · refine seA ?_
    have hN : ∀ e w, (m7_33 R (e 4) w) → (thenE (W7 k7_33 Q) Q) .normal e w := fun e w h => then_N (s7_33 (R := R) (Q := Q) hR e w h)
    exact rgA 4 (fun e w => m7_33 R (e 4) w) h1 hN
  · exact skA (hN _ _ h1)
theorem s7_3 {R : VP} {Q : EQ} (hR : ∀ e w, (R (e 4) w) → Q .ret e w) (e : Env) (w : World) (h : m7_3 R (e 2) (e 5) (e 6) (e 7) w) : W7 k7_3 Q e w := by
  unfold m7_3 at h
  refine seA ?_
  have hN : ∀ e w, (m7_4 R (e 2) (e 5) w) → (thenE (W7 k7_4 Q) Q) .normal e w := fun e w h => then_N (s7_4 (R := R) (Q := Q) hR e w h)
  have hR : ∀ e w, (R (e 4) w) → (thenE (W7 k7_4 Q) Q) .ret e w := fun e w h => then_R (hR e w h)
  refine seA ?_
  have hN : ∀ e w, (m7_32 R (e 2) (e 5) (e 6) (e 23) w) → (thenE (W7 k7_32 (thenE (W7 k7_4 Q) Q)) (thenE (W7 k7_4 Q) Q)) .normal e w := fun e w h => then_N (s7_32 (R := R) (Q := (thenE (W7 k7_4 Q) Q)) hN hR e w h)
  exact rgA 3 (fun e w => m7_32 R (e 2) (e 5) (e 6) (e 23) w) h hN
theorem s7_2 {R : VP} {Q : EQ} (hR : ∀ e w, (R (e 4) w) → Q .ret e w) (e : Env) (w : World) (h : m7_2 R (e 1) (e 2) w) : W7 k7_2 Q e w := by
  unfold m7_2 at h
  refine seA ?_
  have hN : ∀ e w, (m7_3 R (e 2) (e 5) (e 6) (e 7) w) → (thenE (W7 k7_3 Q) Q) .normal e w := fun e w h => then_N (s7_3 (R := R) (Q := Q) hR e w h)
  exact rgA 2 (fun e w => m7_3 R (e 2) (e 5) (e 6) (e 7) w) h hN
theorem s7_1 {R : VP} {Q : EQ} (hR : ∀ e w, (R (e 4) w) → Q .ret e w) (e : Env) (w : World) (h : m7_1 R (e 1) (e 2) w) : W7 k7_1 Q e w := by
  unfold m7_1 at h
  refine seA ?_
  have hN : ∀ e w, (m7_2 R (e 1) (e 2) w) → (thenE (W7 k7_2 Q) Q) .normal e w := fun e w h => then_N (s7_2 (R := R) (Q := Q) hR e w h)
  exact rgA 1 (fun e w => m7_2 R (e 1) (e 2) w) h hN
theorem s7_0 {R : VP} {Q : EQ} (hR : ∀ e w, (R (e 4) w) → Q .ret e w) (e : Env) (w : World) (h : m7_0 R (e 0) (e 1) w) : W7 k7_0 Q e w := by
  unfold m7_0 at h
  refine seA ?_
  have hN : ∀ e w, (m7_1 R (e 1) (e 2) w) → (thenE (W7 k7_1 Q) Q) .normal e w := fun e w h => then_N (s7_1 (R := R) (Q := Q) hR e w h)
  exact rgA 0 (fun e w => m7_1 R (e 1) (e 2) w) h hN
abbrev m7 (R : VP) (g0 l1 : Value) (w : World) : Prop := m7_0 R g0 l1 w
theorem s7 (g0 l1 : Value) {R : VP} {w : World} (h : m7 R g0 l1 w) :
    Calls Try.prog 7 #[g0, l1] w fun e w' => ∃ v, e = .returned v ∧ R v w' :=
  calls_of_cwp (st := (fun i => cond (Nat.beq i 18) 1 (cond (Nat.beq i 11) 1 (0)))) (c := k7_0) (by kernel_rfl) Try.func7 (by kernel_rfl) (Nat.le_of_ble_eq_true (by kernel_rfl)) (by kernel_rfl)
    (s7_0 (R := R) (Q := endE Try.prog Try.f7 R) (fun e w h => kcast (by kernel_rfl) h) (argsE #[g0, l1]) w (kcast (by kernel_rfl) h))
end Go.Proofs.Ytojgdmcojmllkaa.M
