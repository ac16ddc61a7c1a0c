/- What functions' texts ask of their ends, told over values that have names; printed by a program of this work. -/
import Derived.Test.YtcfdalmnhgiaeaaFw
import Derived.Test.YtcfdalmnhgiaeaaProg
namespace Go.Proofs.Ytcfdalmnhgiaeaa.M
open Go.Proofs.Ytcfdalmnhgiaeaa.F
set_option linter.unusedVariables false
set_option maxRecDepth 100000
/-! ### headgate/headgatelaw30.HeavyHas -/
def m6_34 (R : Value → World → Prop) (t4 : Value) (w : World) : Prop :=
  R t4 w
def m6_31 (R : Value → World → Prop) (K1 : Value → World → Prop) (t4 : Value) (w : World) : Prop :=
  R t4 w
def m6_29 (R : Value → World → Prop) (K1 : Value → World → Prop) (l1 : Value) (k6 : Value) (all7 : Value) (i8 : Value) (w : World) : Prop :=
  valP Try.prog (binS BinOp.add 3 (Operand.tmp 30) (Operand.const (Value.int IntKind.i64 1)) i8 (Value.int IntKind.i64 1)) w fun t31 w =>
  K1 t31 w
def m6_30 (R : Value → World → Prop) (K1 : Value → World → Prop) (l1 : Value) (k6 : Value) (all7 : Value) (i8 : Value) (t41 : Value) (w : World) : Prop :=
  condP t41
  (m6_31 R K1 (Value.bool false) w)
  (m6_29 R K1 l1 k6 all7 i8 w)
def m6_28 (R : Value → World → Prop) (K1 : Value → World → Prop) (l1 : Value) (k6 : Value) (all7 : Value) (i8 : Value) (w : World) : Prop :=
  valQ Try.prog (Instr.indexAt 28 all7 i8) w fun t34 =>
  valQ Try.prog (Instr.fieldAt 45 t34 2) w fun t35 =>
  valQ Try.prog (Instr.loadAt 3 t35) w fun t36 =>
  builtinQ Try.prog Builtin.len #[22] 3 #[false] #[l1] w fun t38 =>
  valQ Try.prog (binS BinOp.quo 3 (Operand.tmp 38) (Operand.tmp 39) t38 k6) w fun t40 =>
  valQ Try.prog (binS BinOp.gtr 3 (Operand.tmp 36) (Operand.tmp 40) t36 t40) w fun t41 =>
  anyDraw w fun w =>
  m6_30 R K1 l1 k6 all7 i8 t41 w
def m6_13 (R : Value → World → Prop) (K1 : Value → World → Prop) (l1 : Value) (k6 : Value) (all7 : Value) (i9 : Value) (w : World) : Prop :=
  valP Try.prog (binS BinOp.add 3 (Operand.tmp 46) (Operand.const (Value.int IntKind.i64 1)) i9 (Value.int IntKind.i64 1)) w fun t47 w =>
  K1 t47 w
def m6_22 (R : Value → World → Prop) (K1 : Value → World → Prop) (K2 : (Value × Value) → World → Prop) (l1 : Value) (k6 : Value) (all7 : Value) (i9 : Value) (is10 : Value) (j11 : Value) (w : World) : Prop :=
  valP Try.prog (binS BinOp.add 3 (Operand.tmp 63) (Operand.const (Value.int IntKind.i64 1)) j11 (Value.int IntKind.i64 1)) w fun t64 w =>
  K2 (is10, t64) w
def m6_21 (R : Value → World → Prop) (K1 : Value → World → Prop) (K2 : (Value × Value) → World → Prop) (l1 : Value) (k6 : Value) (all7 : Value) (i9 : Value) (is10 : Value) (j11 : Value) (w : World) : Prop :=
  condP is10
  (pickP is10 (Value.bool true) undef fun t77 =>
  anyDraw w fun w =>
  m6_22 R K1 K2 l1 k6 all7 i9 t77 j11 w)
  (valQ Try.prog (Instr.indexAt 28 all7 j11) w fun t69 =>
  valQ Try.prog (Instr.fieldAt 45 t69 0) w fun t70 =>
  valQ Try.prog (Instr.loadAt 3 t70) w fun t71 =>
  valQ Try.prog (Instr.indexAt 22 l1 i9) w fun t74 =>
  valQ Try.prog (Instr.loadAt 3 t74) w fun t75 =>
  valQ Try.prog (binS BinOp.eql 3 (Operand.tmp 71) (Operand.tmp 75) t71 t75) w fun t76 =>
  pickP is10 (Value.bool true) t76 fun t77 =>
  anyDraw w fun w =>
  m6_22 R K1 K2 l1 k6 all7 i9 t77 j11 w)
def m6_18 (R : Value → World → Prop) (K1 : Value → World → Prop) (t4 : Value) (w : World) : Prop :=
  R t4 w
def m6_17 (R : Value → World → Prop) (K1 : Value → World → Prop) (l1 : Value) (k6 : Value) (all7 : Value) (i9 : Value) (t79 : Value) (w : World) : Prop :=
  condP t79
  (m6_18 R K1 (Value.bool false) w)
  (m6_13 R K1 l1 k6 all7 i9 w)
def m6_16 (R : Value → World → Prop) (K1 : Value → World → Prop) (l1 : Value) (k6 : Value) (all7 : Value) (i9 : Value) (is10 : Value) (w : World) : Prop :=
  valP Try.prog (Op.unary UnOp.not is10) w fun t79 w =>
  m6_17 R K1 l1 k6 all7 i9 t79 w
def m6_23 (R : Value → World → Prop) (K1 : Value → World → Prop) (K2 : (Value × Value) → World → Prop) (l1 : Value) (k6 : Value) (all7 : Value) (i9 : Value) (is10 : Value) (j11 : Value) (t62 : Value) (w : World) : Prop :=
  condP t62
  (m6_21 R K1 K2 l1 k6 all7 i9 is10 j11 w)
  (m6_16 R K1 l1 k6 all7 i9 is10 w)
def m6_20 (R : Value → World → Prop) (K1 : Value → World → Prop) (K2 : (Value × Value) → World → Prop) (l1 : Value) (k6 : Value) (all7 : Value) (i9 : Value) (is10 : Value) (j11 : Value) (w : World) : Prop :=
  builtinP Try.prog Builtin.len #[28] 3 #[false] #[all7] w fun t61 w =>
  valP Try.prog (binS BinOp.lss 3 (Operand.tmp 59) (Operand.tmp 61) j11 t61) w fun t62 w =>
  m6_23 R K1 K2 l1 k6 all7 i9 is10 j11 t62 w
def m6_19 (R : Value → World → Prop) (K1 : Value → World → Prop) (l1 : Value) (k6 : Value) (all7 : Value) (i9 : Value) (is10 : Value) (j11 : Value) (w : World) : Prop :=
  loopP (fun (K2 : (Value × Value) → World → Prop) (s : Value × Value) w => m6_20 R K1 K2 l1 k6 all7 i9 s.1 s.2 w) (is10, j11) w
def m6_15 (R : Value → World → Prop) (K1 : Value → World → Prop) (l1 : Value) (k6 : Value) (all7 : Value) (i9 : Value) (is10 : Value) (w : World) : Prop :=
  m6_19 R K1 l1 k6 all7 i9 is10 (Value.int IntKind.i64 0) w
def m6_14 (R : Value → World → Prop) (K1 : Value → World → Prop) (l1 : Value) (k6 : Value) (all7 : Value) (i9 : Value) (w : World) : Prop :=
  m6_15 R K1 l1 k6 all7 i9 (Value.bool false) w
def m6_24 (R : Value → World → Prop) (K1 : Value → World → Prop) (l1 : Value) (k6 : Value) (all7 : Value) (i9 : Value) (t58 : Value) (w : World) : Prop :=
  condP t58
  (m6_13 R K1 l1 k6 all7 i9 w)
  (m6_14 R K1 l1 k6 all7 i9 w)
def m6_12 (R : Value → World → Prop) (K1 : Value → World → Prop) (l1 : Value) (k6 : Value) (all7 : Value) (i9 : Value) (w : World) : Prop :=
  anyDraw w fun w =>
  pureP Try.prog (Instr.indexAt 22 l1 i9) fun t51 =>
  (valP Try.prog (Instr.loadAt 3 t51) w fun t52 w =>
  (callP Try.prog (fnV 22) #[l1, t52] w fun t53 w =>
  builtinP Try.prog Builtin.len #[22] 3 #[false] #[l1] w fun t55 w =>
  pureP Try.prog (binS BinOp.quo 3 (Operand.tmp 55) (Operand.tmp 56) t55 k6) fun t57 =>
  pureP Try.prog (binS BinOp.leq 3 (Operand.tmp 53) (Operand.tmp 57) t53 t57) fun t58 =>
  m6_24 R K1 l1 k6 all7 i9 t58 w) ∧ (builtinP Try.prog Builtin.len #[22] 3 #[false] #[l1] w fun t55 w =>
  pureP Try.prog (binS BinOp.quo 3 (Operand.tmp 55) (Operand.tmp 56) t55 k6) fun t57 =>
  callP Try.prog (fnV 22) #[l1, t52] w fun t53 w =>
  pureP Try.prog (binS BinOp.leq 3 (Operand.tmp 53) (Operand.tmp 57) t53 t57) fun t58 =>
  m6_24 R K1 l1 k6 all7 i9 t58 w)) ∧ (builtinP Try.prog Builtin.len #[22] 3 #[false] #[l1] w fun t55 w =>
  pureP Try.prog (binS BinOp.quo 3 (Operand.tmp 55) (Operand.tmp 56) t55 k6) fun t57 =>
  valP Try.prog (Instr.loadAt 3 t51) w fun t52 w =>
  callP Try.prog (fnV 22) #[l1, t52] w fun t53 w =>
  pureP Try.prog (binS BinOp.leq 3 (Operand.tmp 53) (Operand.tmp 57) t53 t57) fun t58 =>
  m6_24 R K1 l1 k6 all7 i9 t58 w)
def m6_9 (R : Value → World → Prop) (t4 : Value) (w : World) : Prop :=
  R t4 w
def m6_8 (R : Value → World → Prop) (w : World) : Prop :=
  callP Try.prog (fnV 12) #[] w fun t80 w =>
  m6_9 R t80 w
def m6_25 (R : Value → World → Prop) (K1 : Value → World → Prop) (l1 : Value) (k6 : Value) (all7 : Value) (i9 : Value) (t45 : Value) (w : World) : Prop :=
  condP t45
  (m6_12 R K1 l1 k6 all7 i9 w)
  (m6_8 R w)
def m6_11 (R : Value → World → Prop) (K1 : Value → World → Prop) (l1 : Value) (k6 : Value) (all7 : Value) (i9 : Value) (w : World) : Prop :=
  builtinP Try.prog Builtin.len #[22] 3 #[false] #[l1] w fun t44 w =>
  valP Try.prog (binS BinOp.lss 3 (Operand.tmp 42) (Operand.tmp 44) i9 t44) w fun t45 w =>
  m6_25 R K1 l1 k6 all7 i9 t45 w
def m6_10 (R : Value → World → Prop) (l1 : Value) (k6 : Value) (all7 : Value) (i9 : Value) (w : World) : Prop :=
  loopP (fun (K1 : Value → World → Prop) (s : Value) w => m6_11 R K1 l1 k6 all7 s w) i9 w
def m6_7 (R : Value → World → Prop) (l1 : Value) (k6 : Value) (all7 : Value) (w : World) : Prop :=
  m6_10 R l1 k6 all7 (Value.int IntKind.i64 0) w
def m6_32 (R : Value → World → Prop) (K1 : Value → World → Prop) (l1 : Value) (k6 : Value) (all7 : Value) (i8 : Value) (t29 : Value) (w : World) : Prop :=
  condP t29
  (m6_28 R K1 l1 k6 all7 i8 w)
  (m6_7 R l1 k6 all7 w)
def m6_27 (R : Value → World → Prop) (K1 : Value → World → Prop) (l1 : Value) (k6 : Value) (all7 : Value) (i8 : Value) (w : World) : Prop :=
  builtinP Try.prog Builtin.len #[28] 3 #[false] #[all7] w fun t28 w =>
  valP Try.prog (binS BinOp.lss 3 (Operand.tmp 26) (Operand.tmp 28) i8 t28) w fun t29 w =>
  m6_32 R K1 l1 k6 all7 i8 t29 w
def m6_26 (R : Value → World → Prop) (l1 : Value) (k6 : Value) (all7 : Value) (i8 : Value) (w : World) : Prop :=
  loopP (fun (K1 : Value → World → Prop) (s : Value) w => m6_27 R K1 l1 k6 all7 s w) i8 w
def m6_6 (R : Value → World → Prop) (l1 : Value) (k6 : Value) (all7 : Value) (w : World) : Prop :=
  m6_26 R l1 k6 all7 (Value.int IntKind.i64 0) w
def m6_5 (R : Value → World → Prop) (l1 : Value) (h5 : Value) (k6 : Value) (w : World) : Prop :=
  callP Try.prog (fnV 19) #[h5, (Value.int IntKind.i64 64)] w fun t25 w =>
  m6_6 R l1 k6 t25 w
def m6_4 (R : Value → World → Prop) (most0 : Value) (l1 : Value) (h5 : Value) (w : World) : Prop :=
  valP Try.prog (binS BinOp.rem 3 (Operand.tmp 19) (Operand.const (Value.int IntKind.i64 16)) most0 (Value.int IntKind.i64 16)) w fun t20 w =>
  valP Try.prog (binS BinOp.add 3 (Operand.tmp 20) (Operand.const (Value.int IntKind.i64 16)) t20 (Value.int IntKind.i64 16)) w fun t21 w =>
  valP Try.prog (binS BinOp.rem 3 (Operand.tmp 21) (Operand.const (Value.int IntKind.i64 16)) t21 (Value.int IntKind.i64 16)) w fun t22 w =>
  valP Try.prog (binS BinOp.add 3 (Operand.const (Value.int IntKind.i64 1)) (Operand.tmp 22) (Value.int IntKind.i64 1) t22) w fun t23 w =>
  m6_5 R l1 h5 t23 w
def m6_33 (R : Value → World → Prop) (most0 : Value) (l1 : Value) (h5 : Value) (t18 : Value) (w : World) : Prop :=
  condP t18
  (m6_34 R (Value.bool false) w)
  (m6_4 R most0 l1 h5 w)
def m6_3 (R : Value → World → Prop) (most0 : Value) (l1 : Value) (h5 : Value) (w : World) : Prop :=
  valP Try.prog (binS BinOp.eql 24 (Operand.tmp 17) (Operand.const (Value.pointer none)) h5 (Value.pointer none)) w fun t18 w =>
  m6_33 R most0 l1 h5 t18 w
def m6_2 (R : Value → World → Prop) (most0 : Value) (l1 : Value) (w : World) : Prop :=
  callP Try.prog (fnV 21) #[most0, l1] w fun t16 w =>
  m6_3 R most0 l1 t16 w
def m6_1 (R : Value → World → Prop) (most0 : Value) (l1 : Value) (w : World) : Prop :=
  callP Try.prog (fnV 9) #[l1] w fun t13 w =>
  m6_2 R most0 t13 w
def m6_0 (R : Value → World → Prop) (most0 : Value) (l1 : Value) (w : World) : Prop :=
  m6_1 R most0 l1 w
abbrev W6 := cwp Try.prog (fun i => cond (Nat.beq i 20) 1 (cond (Nat.beq i 10) 1 (0)))
noncomputable def k6_0 : Code := (bodyOf Try.f6)
noncomputable def k6_1 : Code := (c2 k6_0)
noncomputable def k6_2 : Code := (c2 k6_1)
noncomputable def k6_3 : Code := (c2 k6_2)
noncomputable def k6_4 : Code := (c2 k6_3)
noncomputable def k6_5 : Code := (c2 k6_4)
noncomputable def k6_6 : Code := (c2 k6_5)
noncomputable def k6_7 : Code := (c2 k6_6)
noncomputable def k6_8 : Code := (c2 k6_7)
noncomputable def k6_9 : Code := (c2 k6_8)
noncomputable def k6_10 : Code := (c2 (c1 k6_7))
noncomputable def k6_11 : Code := (c1 (c1 k6_10))
noncomputable def k6_12 : Code := (c2 k6_11)
noncomputable def k6_13 : Code := (c2 k6_12)
noncomputable def k6_14 : Code := (c2 (c1 (c1 k6_12)))
noncomputable def k6_15 : Code := (c2 k6_14)
noncomputable def k6_16 : Code := (c2 k6_15)
noncomputable def k6_17 : Code := (c2 k6_16)
noncomputable def k6_18 : Code := (c2 (c1 k6_17))
noncomputable def k6_19 : Code := (c2 (c1 k6_15))
noncomputable def k6_20 : Code := (c1 (c1 k6_19))
noncomputable def k6_21 : Code := (c2 k6_20)
noncomputable def k6_22 : Code := (c2 k6_21)
noncomputable def k6_23 : Code := (c2 (c1 k6_20))
noncomputable def k6_24 : Code := (c2 (c1 (c1 (c1 k6_12))))
noncomputable def k6_25 : Code := (c2 (c1 k6_11))
noncomputable def k6_26 : Code := (c2 (c1 k6_6))
noncomputable def k6_27 : Code := (c1 (c1 k6_26))
noncomputable def k6_28 : Code := (c2 k6_27)
noncomputable def k6_29 : Code := (c2 k6_28)
noncomputable def k6_30 : Code := (c2 (c1 (c1 k6_28)))
noncomputable def k6_31 : Code := (c2 (c1 k6_30))
noncomputable def k6_32 : Code := (c2 (c1 k6_27))
noncomputable def k6_33 : Code := (c2 (c1 k6_3))
noncomputable def k6_34 : Code := (c2 (c1 k6_33))
theorem s6_34 {R : Value → World → Prop} {Q : Exit → Env → World → Prop} (hR : ∀ e w, (R (e 4) w) → Q .ret e w) (e : Env) (w : World) (h : m6_34 R (e 4) w) : W6 k6_34 Q e w := by
  unfold m6_34 at h
  exact ret_ok (by kernel_rfl) (hR _ _ h)
theorem s6_31 {R : Value → World → Prop} {K1 : Value → World → Prop} {Q : Exit → Env → World → Prop} (hR : ∀ e w, (R (e 4) w) → Q .ret e w) (e : Env) (w : World) (h : m6_31 R K1 (e 4) w) : W6 k6_31 Q e w := by
  unfold m6_31 at h
  exact ret_ok (by kernel_rfl) (hR _ _ h)
theorem s6_29 {R : Value → World → Prop} {K1 : Value → World → Prop} {Q : Exit → Env → World → Prop} (hN : ∀ e w, (K1 (e 8) w) → Q .normal e w) (e : Env) (w : World) (h : m6_29 R K1 (e 1) (e 6) (e 7) (e 8) w) : W6 k6_29 Q e w := by
  unfold m6_29 at h
  exact region_ok 9 (fun e w => K1 (e 8) w) (by kernel_rfl) (kcast (by kernel_rfl) h) hN (by kernel_rfl)
theorem s6_30 {R : Value → World → Prop} {K1 : Value → World → Prop} {Q : Exit → Env → World → Prop} (hN : ∀ e w, (m6_29 R K1 (e 1) (e 6) (e 7) (e 8) w) → Q .normal e w) (hR : ∀ e w, (R (e 4) w) → Q .ret e w) (e : Env) (w : World) (h : m6_30 R K1 (e 1) (e 6) (e 7) (e 8) (e 41) w) : W6 k6_30 Q e w := by
  unfold m6_30 at h
  refine cond_ok (Operand.tmp 41) (by kernel_rfl) h (fun h1 => ?_) (fun h1 => ?_)
  · refine seq_ok' (by kernel_rfl) ?_
    have hN' : ∀ e w, (m6_31 R K1 (e 4) w) → (thenE (W6 k6_31 Q) Q) .normal e w := fun e w h => then_N (s6_31 (R := R) (Q := Q) (K1 := K1) hR e w h)
    have hN := hN'
    exact region_ok 11 (fun e w => m6_31 R K1 (e 4) w) (by kernel_rfl) (kcast (by kernel_rfl) h1) hN (by kernel_rfl)
  · exact skip_ok (by kernel_rfl) (hN _ _ h1)
theorem s6_28 {R : Value → World → Prop} {K1 : Value → World → Prop} {Q : Exit → Env → World → Prop} (hN : ∀ e w, (K1 (e 8) w) → Q .normal e w) (hR : ∀ e w, (R (e 4) w) → Q .ret e w) (e : Env) (w : World) (h : m6_28 R K1 (e 1) (e 6) (e 7) (e 8) w) : W6 k6_28 Q e w := by
  unfold m6_28 at h
  refine seq_ok' (by kernel_rfl) ?_
  have hN' : ∀ e w, (m6_29 R K1 (e 1) (e 6) (e 7) (e 8) w) → (thenE (W6 k6_29 Q) Q) .normal e w := fun e w h => then_N (s6_29 (R := R) (Q := Q) (K1 := K1) hN e w h)
  have hR : ∀ e w, (R (e 4) w) → (thenE (W6 k6_29 Q) Q) .ret e w := fun e w h => then_R (hR e w h)
  have hN := hN'
  refine block_ok 1 (by kernel_rfl) ?_
  have hN : ∀ e w, (m6_29 R K1 (e 1) (e 6) (e 7) (e 8) w) → (inBlockE 1 (thenE (W6 k6_29 Q) Q)) .normal e w := fun e w h => block_N (hN e w h)
  have hR : ∀ e w, (R (e 4) w) → (inBlockE 1 (thenE (W6 k6_29 Q) Q)) .ret e w := fun e w h => block_R (hR e w h)
  refine seq_ok' (by kernel_rfl) ?_
  have hN' : ∀ e w, (m6_30 R K1 (e 1) (e 6) (e 7) (e 8) (e 41) w) → (thenE (W6 k6_30 (inBlockE 1 (thenE (W6 k6_29 Q) Q))) (inBlockE 1 (thenE (W6 k6_29 Q) Q))) .normal e w := fun e w h => then_N (s6_30 (R := R) (Q := (inBlockE 1 (thenE (W6 k6_29 Q) Q))) (K1 := K1) hN hR e w h)
  have hN := hN'
  exact quiet_ok 10 (fun e w => m6_30 R K1 (e 1) (e 6) (e 7) (e 8) (e 41) w) (by kernel_rfl) (by kernel_rfl) (by kernel_rfl) (kcast (by kernel_rfl) h) hN (by kernel_rfl)
theorem s6_13 {R : Value → World → Prop} {K1 : Value → World → Prop} {Q : Exit → Env → World → Prop} (hN : ∀ e w, (K1 (e 9) w) → Q .normal e w) (e : Env) (w : World) (h : m6_13 R K1 (e 1) (e 6) (e 7) (e 9) w) : W6 k6_13 Q e w := by
  unfold m6_13 at h
  exact region_ok 14 (fun e w => K1 (e 9) w) (by kernel_rfl) (kcast (by kernel_rfl) h) hN (by kernel_rfl)
theorem s6_22 {R : Value → World → Prop} {K1 : Value → World → Prop} {K2 : (Value × Value) → World → Prop} {Q : Exit → Env → World → Prop} (hN : ∀ e w, (K2 ((e 10), (e 11)) w) → Q .normal e w) (e : Env) (w : World) (h : m6_22 R K1 K2 (e 1) (e 6) (e 7) (e 9) (e 10) (e 11) w) : W6 k6_22 Q e w := by
  unfold m6_22 at h
  exact region_ok 19 (fun e w => K2 ((e 10), (e 11)) w) (by kernel_rfl) (kcast (by kernel_rfl) h) hN (by kernel_rfl)
theorem s6_21 {R : Value → World → Prop} {K1 : Value → World → Prop} {K2 : (Value × Value) → World → Prop} {Q : Exit → Env → World → Prop} (hN : ∀ e w, (K2 ((e 10), (e 11)) w) → Q .normal e w) (e : Env) (w : World) (h : m6_21 R K1 K2 (e 1) (e 6) (e 7) (e 9) (e 10) (e 11) w) : W6 k6_21 Q e w := by
  unfold m6_21 at h
  refine seq_ok' (by kernel_rfl) ?_
  have hN' : ∀ e w, (m6_22 R K1 K2 (e 1) (e 6) (e 7) (e 9) (e 10) (e 11) w) → (thenE (W6 k6_22 Q) Q) .normal e w := fun e w h => then_N (s6_22 (R := R) (Q := Q) (K1 := K1) (K2 := K2) hN e w h)
  have hN := hN'
  refine block_ok 5 (by kernel_rfl) ?_
  have hN : ∀ e w, (m6_22 R K1 K2 (e 1) (e 6) (e 7) (e 9) (e 10) (e 11) w) → (inBlockE 5 (thenE (W6 k6_22 Q) Q)) .normal e w := fun e w h => block_N (hN e w h)
  exact quiet_ok 20 (fun e w => m6_22 R K1 K2 (e 1) (e 6) (e 7) (e 9) (e 10) (e 11) w) (by kernel_rfl) (by kernel_rfl) (by kernel_rfl) (kcast (by kernel_rfl) h) hN (by kernel_rfl)
theorem s6_18 {R : Value → World → Prop} {K1 : Value → World → Prop} {Q : Exit → Env → World → Prop} (hR : ∀ e w, (R (e 4) w) → Q .ret e w) (e : Env) (w : World) (h : m6_18 R K1 (e 4) w) : W6 k6_18 Q e w := by
  unfold m6_18 at h
  exact ret_ok (by kernel_rfl) (hR _ _ h)
theorem s6_17 {R : Value → World → Prop} {K1 : Value → World → Prop} {Q : Exit → Env → World → Prop} (hN : ∀ e w, (m6_13 R K1 (e 1) (e 6) (e 7) (e 9) w) → Q .normal e w) (hR : ∀ e w, (R (e 4) w) → Q .ret e w) (e : Env) (w : World) (h : m6_17 R K1 (e 1) (e 6) (e 7) (e 9) (e 79) w) : W6 k6_17 Q e w := by
  unfold m6_17 at h
  refine cond_ok (Operand.tmp 79) (by kernel_rfl) h (fun h1 => ?_) (fun h1 => ?_)
  · refine seq_ok' (by kernel_rfl) ?_
    have hN' : ∀ e w, (m6_18 R K1 (e 4) w) → (thenE (W6 k6_18 Q) Q) .normal e w := fun e w h => then_N (s6_18 (R := R) (Q := Q) (K1 := K1) hR e w h)
    have hN := hN'
    exact region_ok 22 (fun e w => m6_18 R K1 (e 4) w) (by kernel_rfl) (kcast (by kernel_rfl) h1) hN (by kernel_rfl)
  · exact skip_ok (by kernel_rfl) (hN _ _ h1)
theorem s6_16 {R : Value → World → Prop} {K1 : Value → World → Prop} {Q : Exit → Env → World → Prop} (hN : ∀ e w, (m6_13 R K1 (e 1) (e 6) (e 7) (e 9) w) → Q .normal e w) (hR : ∀ e w, (R (e 4) w) → Q .ret e w) (e : Env) (w : World) (h : m6_16 R K1 (e 1) (e 6) (e 7) (e 9) (e 10) w) : W6 k6_16 Q e w := by
  unfold m6_16 at h
  refine seq_ok' (by kernel_rfl) ?_
  have hN' : ∀ e w, (m6_17 R K1 (e 1) (e 6) (e 7) (e 9) (e 79) w) → (thenE (W6 k6_17 Q) Q) .normal e w := fun e w h => then_N (s6_17 (R := R) (Q := Q) (K1 := K1) hN hR e w h)
  have hN := hN'
  exact region_ok 21 (fun e w => m6_17 R K1 (e 1) (e 6) (e 7) (e 9) (e 79) w) (by kernel_rfl) (kcast (by kernel_rfl) h) hN (by kernel_rfl)
theorem s6_23 {R : Value → World → Prop} {K1 : Value → World → Prop} {K2 : (Value × Value) → World → Prop} {Q : Exit → Env → World → Prop} (hN : ∀ e w, (m6_21 R K1 K2 (e 1) (e 6) (e 7) (e 9) (e 10) (e 11) w) → Q .normal e w) (hX4 : ∀ e w, (m6_16 R K1 (e 1) (e 6) (e 7) (e 9) (e 10) w) → Q (.exit 4) e w) (e : Env) (w : World) (h : m6_23 R K1 K2 (e 1) (e 6) (e 7) (e 9) (e 10) (e 11) (e 62) w) : W6 k6_23 Q e w := by
  unfold m6_23 at h
  refine cond_ok (Operand.tmp 62) (by kernel_rfl) h (fun h1 => ?_) (fun h1 => ?_)
  · exact skip_ok (by kernel_rfl) (hN _ _ h1)
  · exact exit_ok 4 (by kernel_rfl) (hX4 _ _ h1)
theorem s6_20 {R : Value → World → Prop} {K1 : Value → World → Prop} {K2 : (Value × Value) → World → Prop} {Q : Exit → Env → World → Prop} (hN : ∀ e w, (K2 ((e 10), (e 11)) w) → Q .normal e w) (hX4 : ∀ e w, (m6_16 R K1 (e 1) (e 6) (e 7) (e 9) (e 10) w) → Q (.exit 4) e w) (e : Env) (w : World) (h : m6_20 R K1 K2 (e 1) (e 6) (e 7) (e 9) (e 10) (e 11) w) : W6 k6_20 Q e w := by
  unfold m6_20 at h
  refine seq_ok' (by kernel_rfl) ?_
  have hN' : ∀ e w, (m6_21 R K1 K2 (e 1) (e 6) (e 7) (e 9) (e 10) (e 11) w) → (thenE (W6 k6_21 Q) Q) .normal e w := fun e w h => then_N (s6_21 (R := R) (Q := Q) (K1 := K1) (K2 := K2) hN e w h)
  have hX4 : ∀ e w, (m6_16 R K1 (e 1) (e 6) (e 7) (e 9) (e 10) w) → (thenE (W6 k6_21 Q) Q) (.exit 4) e w := fun e w h => then_X (hX4 e w h)
  have hN := hN'
  refine seq_ok' (by kernel_rfl) ?_
  have hN' : ∀ e w, (m6_23 R K1 K2 (e 1) (e 6) (e 7) (e 9) (e 10) (e 11) (e 62) w) → (thenE (W6 k6_23 (thenE (W6 k6_21 Q) Q)) (thenE (W6 k6_21 Q) Q)) .normal e w := fun e w h => then_N (s6_23 (R := R) (Q := (thenE (W6 k6_21 Q) Q)) (K1 := K1) (K2 := K2) hN hX4 e w h)
  have hN := hN'
  exact region_ok 18 (fun e w => m6_23 R K1 K2 (e 1) (e 6) (e 7) (e 9) (e 10) (e 11) (e 62) w) (by kernel_rfl) (kcast (by kernel_rfl) h) hN (by kernel_rfl)
theorem s6_19 {R : Value → World → Prop} {K1 : Value → World → Prop} {Q : Exit → Env → World → Prop} (hN : ∀ e w, (m6_16 R K1 (e 1) (e 6) (e 7) (e 9) (e 10) w) → Q .normal e w) (e : Env) (w : World) (h : m6_19 R K1 (e 1) (e 6) (e 7) (e 9) (e 10) (e 11) w) : W6 k6_19 Q e w := by
  unfold m6_19 at h
  refine block_ok 4 (by kernel_rfl) ?_
  have hX4 : ∀ e w, (m6_16 R K1 (e 1) (e 6) (e 7) (e 9) (e 10) w) → (inBlockE 4 Q) (.exit 4) e w := fun e w h => inBlock_same (Q := Q) 4 (hN e w h)
  refine loop_ok' (fun (e : Env) => (e 10, e 11)) [1, 6, 7, 9] (by kernel_rfl) (by kernel_rfl) h (fun K e' w' hk h' => ?_)
  have r1 : e' 1 = e 1 := hk 1 (by decide)
  have r6 : e' 6 = e 6 := hk 6 (by decide)
  have r7 : e' 7 = e 7 := hk 7 (by decide)
  have r9 : e' 9 = e 9 := hk 9 (by decide)
  have hX4 : ∀ e w, (m6_16 R K1 (e 1) (e 6) (e 7) (e 9) (e 10) w) → (thenE (fun (e : Env) w => K ((e 10), (e 11)) w) (inBlockE 4 Q)) (.exit 4) e w := fun e w h => then_X (hX4 e w h)
  exact s6_20 (R := R) (Q := (thenE (fun (e : Env) w => K ((e 10), (e 11)) w) (inBlockE 4 Q))) (K1 := K1) (K2 := K) (fun _ _ h => then_N h) hX4 e' w' (by rw [r1, r6, r7, r9]; exact h')
theorem s6_15 {R : Value → World → Prop} {K1 : Value → World → Prop} {Q : Exit → Env → World → Prop} (hN : ∀ e w, (m6_13 R K1 (e 1) (e 6) (e 7) (e 9) w) → Q .normal e w) (hR : ∀ e w, (R (e 4) w) → Q .ret e w) (e : Env) (w : World) (h : m6_15 R K1 (e 1) (e 6) (e 7) (e 9) (e 10) w) : W6 k6_15 Q e w := by
  unfold m6_15 at h
  refine seq_ok' (by kernel_rfl) ?_
  have hN' : ∀ e w, (m6_16 R K1 (e 1) (e 6) (e 7) (e 9) (e 10) w) → (thenE (W6 k6_16 Q) Q) .normal e w := fun e w h => then_N (s6_16 (R := R) (Q := Q) (K1 := K1) hN hR e w h)
  have hN := hN'
  refine seq_ok' (by kernel_rfl) ?_
  have hN' : ∀ e w, (m6_19 R K1 (e 1) (e 6) (e 7) (e 9) (e 10) (e 11) w) → (thenE (W6 k6_19 (thenE (W6 k6_16 Q) Q)) (thenE (W6 k6_16 Q) Q)) .normal e w := fun e w h => then_N (s6_19 (R := R) (Q := (thenE (W6 k6_16 Q) Q)) (K1 := K1) hN e w h)
  have hN := hN'
  exact region_ok 17 (fun e w => m6_19 R K1 (e 1) (e 6) (e 7) (e 9) (e 10) (e 11) w) (by kernel_rfl) (kcast (by kernel_rfl) h) hN (by kernel_rfl)
theorem s6_14 {R : Value → World → Prop} {K1 : Value → World → Prop} {Q : Exit → Env → World → Prop} (hN : ∀ e w, (m6_13 R K1 (e 1) (e 6) (e 7) (e 9) w) → Q .normal e w) (hR : ∀ e w, (R (e 4) w) → Q .ret e w) (e : Env) (w : World) (h : m6_14 R K1 (e 1) (e 6) (e 7) (e 9) w) : W6 k6_14 Q e w := by
  unfold m6_14 at h
  refine seq_ok' (by kernel_rfl) ?_
  have hN' : ∀ e w, (m6_15 R K1 (e 1) (e 6) (e 7) (e 9) (e 10) w) → (thenE (W6 k6_15 Q) Q) .normal e w := fun e w h => then_N (s6_15 (R := R) (Q := Q) (K1 := K1) hN hR e w h)
  have hN := hN'
  exact region_ok 16 (fun e w => m6_15 R K1 (e 1) (e 6) (e 7) (e 9) (e 10) w) (by kernel_rfl) (kcast (by kernel_rfl) h) hN (by kernel_rfl)
theorem s6_24 {R : Value → World → Prop} {K1 : Value → World → Prop} {Q : Exit → Env → World → Prop} (hN : ∀ e w, (m6_14 R K1 (e 1) (e 6) (e 7) (e 9) w) → Q .normal e w) (hX3 : ∀ e w, (m6_13 R K1 (e 1) (e 6) (e 7) (e 9) w) → Q (.exit 3) e w) (e : Env) (w : World) (h : m6_24 R K1 (e 1) (e 6) (e 7) (e 9) (e 58) w) : W6 k6_24 Q e w := by
  unfold m6_24 at h
  refine cond_ok (Operand.tmp 58) (by kernel_rfl) h (fun h1 => ?_) (fun h1 => ?_)
  · exact exit_ok 3 (by kernel_rfl) (hX3 _ _ h1)
  · exact skip_ok (by kernel_rfl) (hN _ _ h1)
theorem s6_12 {R : Value → World → Prop} {K1 : Value → World → Prop} {Q : Exit → Env → World → Prop} (hN : ∀ e w, (K1 (e 9) w) → Q .normal e w) (hR : ∀ e w, (R (e 4) w) → Q .ret e w) (e : Env) (w : World) (h : m6_12 R K1 (e 1) (e 6) (e 7) (e 9) w) : W6 k6_12 Q e w := by
  unfold m6_12 at h
  refine seq_ok' (by kernel_rfl) ?_
  have hN' : ∀ e w, (m6_13 R K1 (e 1) (e 6) (e 7) (e 9) w) → (thenE (W6 k6_13 Q) Q) .normal e w := fun e w h => then_N (s6_13 (R := R) (Q := Q) (K1 := K1) hN e w h)
  have hR : ∀ e w, (R (e 4) w) → (thenE (W6 k6_13 Q) Q) .ret e w := fun e w h => then_R (hR e w h)
  have hN := hN'
  refine block_ok 3 (by kernel_rfl) ?_
  have hX3 : ∀ e w, (m6_13 R K1 (e 1) (e 6) (e 7) (e 9) w) → (inBlockE 3 (thenE (W6 k6_13 Q) Q)) (.exit 3) e w := fun e w h => inBlock_same (Q := (thenE (W6 k6_13 Q) Q)) 3 (hN e w h)
  have hN : ∀ e w, (m6_13 R K1 (e 1) (e 6) (e 7) (e 9) w) → (inBlockE 3 (thenE (W6 k6_13 Q) Q)) .normal e w := fun e w h => block_N (hN e w h)
  have hR : ∀ e w, (R (e 4) w) → (inBlockE 3 (thenE (W6 k6_13 Q) Q)) .ret e w := fun e w h => block_R (hR e w h)
  refine seq_ok' (by kernel_rfl) ?_
  have hN' : ∀ e w, (m6_14 R K1 (e 1) (e 6) (e 7) (e 9) w) → (thenE (W6 k6_14 (inBlockE 3 (thenE (W6 k6_13 Q) Q))) (inBlockE 3 (thenE (W6 k6_13 Q) Q))) .normal e w := fun e w h => then_N (s6_14 (R := R) (Q := (inBlockE 3 (thenE (W6 k6_13 Q) Q))) (K1 := K1) hN hR e w h)
  have hX3 : ∀ e w, (m6_13 R K1 (e 1) (e 6) (e 7) (e 9) w) → (thenE (W6 k6_14 (inBlockE 3 (thenE (W6 k6_13 Q) Q))) (inBlockE 3 (thenE (W6 k6_13 Q) Q))) (.exit 3) e w := fun e w h => then_X (hX3 e w h)
  have hN := hN'
  refine seq_ok' (by kernel_rfl) ?_
  have hN' : ∀ e w, (m6_24 R K1 (e 1) (e 6) (e 7) (e 9) (e 58) w) → (thenE (W6 k6_24 (thenE (W6 k6_14 (inBlockE 3 (thenE (W6 k6_13 Q) Q))) (inBlockE 3 (thenE (W6 k6_13 Q) Q)))) (thenE (W6 k6_14 (inBlockE 3 (thenE (W6 k6_13 Q) Q))) (inBlockE 3 (thenE (W6 k6_13 Q) Q)))) .normal e w := fun e w h => then_N (s6_24 (R := R) (Q := (thenE (W6 k6_14 (inBlockE 3 (thenE (W6 k6_13 Q) Q))) (inBlockE 3 (thenE (W6 k6_13 Q) Q)))) (K1 := K1) hN hX3 e w h)
  have hN := hN'
  exact tree_ok 15 11 [false, false, false, false, false, false, false, false, false, false, false] (.take 0 [true, false, false, false, false, false, false, false, false, false, false] (.take 1 [true, true, false, false, false, false, false, false, false, false, false] (.take 2 [true, true, true, false, false, false, false, false, false, false, false] (.take 3 [true, true, true, true, false, false, false, false, false, false, false] (.take 6 [true, true, true, true, false, false, true, false, false, false, false] (.take 8 [true, true, true, true, false, false, true, false, true, false, false] (.alt 4 [true, true, true, true, true, false, true, false, true, false, false] (.alt 5 [true, true, true, true, true, true, true, false, true, false, false] (.alt 7 [true, true, true, true, true, true, true, true, true, false, false] (.take 9 [true, true, true, true, true, true, true, true, true, true, false] (.take 10 [true, true, true, true, true, true, true, true, true, true, true] .done)) .stop) (.alt 7 [true, true, true, true, true, false, true, true, true, false, false] (.take 9 [true, true, true, true, true, false, true, true, true, true, false] (.alt 5 [true, true, true, true, true, true, true, true, true, true, false] (.take 10 [true, true, true, true, true, true, true, true, true, true, true] .done) .stop)) .stop)) (.alt 7 [true, true, true, true, false, false, true, true, true, false, false] (.take 9 [true, true, true, true, false, false, true, true, true, true, false] (.alt 4 [true, true, true, true, true, false, true, true, true, true, false] (.alt 5 [true, true, true, true, true, true, true, true, true, true, false] (.take 10 [true, true, true, true, true, true, true, true, true, true, true] .done) .stop) .stop)) .stop)))))))) (fun e w => m6_24 R K1 (e 1) (e 6) (e 7) (e 9) (e 58) w) (by kernel_rfl) (by kernel_rfl) (by kernel_rfl) (by kernel_rfl) (by kernel_rfl) (by kernel_rfl) (kcast (by kernel_rfl) h) hN (by kernel_rfl)
theorem s6_9 {R : Value → World → Prop} {Q : Exit → Env → World → Prop} (hR : ∀ e w, (R (e 4) w) → Q .ret e w) (e : Env) (w : World) (h : m6_9 R (e 4) w) : W6 k6_9 Q e w := by
  unfold m6_9 at h
  exact ret_ok (by kernel_rfl) (hR _ _ h)
theorem s6_8 {R : Value → World → Prop} {Q : Exit → Env → World → Prop} (hR : ∀ e w, (R (e 4) w) → Q .ret e w) (e : Env) (w : World) (h : m6_8 R w) : W6 k6_8 Q e w := by
  unfold m6_8 at h
  refine seq_ok' (by kernel_rfl) ?_
  have hN' : ∀ e w, (m6_9 R (e 4) w) → (thenE (W6 k6_9 Q) Q) .normal e w := fun e w h => then_N (s6_9 (R := R) (Q := Q) hR e w h)
  have hN := hN'
  exact region_ok 23 (fun e w => m6_9 R (e 4) w) (by kernel_rfl) (kcast (by kernel_rfl) h) hN (by kernel_rfl)
theorem s6_25 {R : Value → World → Prop} {K1 : Value → World → Prop} {Q : Exit → Env → World → Prop} (hN : ∀ e w, (m6_12 R K1 (e 1) (e 6) (e 7) (e 9) w) → Q .normal e w) (hX2 : ∀ e w, (m6_8 R w) → Q (.exit 2) e w) (e : Env) (w : World) (h : m6_25 R K1 (e 1) (e 6) (e 7) (e 9) (e 45) w) : W6 k6_25 Q e w := by
  unfold m6_25 at h
  refine cond_ok (Operand.tmp 45) (by kernel_rfl) h (fun h1 => ?_) (fun h1 => ?_)
  · exact skip_ok (by kernel_rfl) (hN _ _ h1)
  · exact exit_ok 2 (by kernel_rfl) (hX2 _ _ h1)
theorem s6_11 {R : Value → World → Prop} {K1 : Value → World → Prop} {Q : Exit → Env → World → Prop} (hN : ∀ e w, (K1 (e 9) w) → Q .normal e w) (hR : ∀ e w, (R (e 4) w) → Q .ret e w) (hX2 : ∀ e w, (m6_8 R w) → Q (.exit 2) e w) (e : Env) (w : World) (h : m6_11 R K1 (e 1) (e 6) (e 7) (e 9) w) : W6 k6_11 Q e w := by
  unfold m6_11 at h
  refine seq_ok' (by kernel_rfl) ?_
  have hN' : ∀ e w, (m6_12 R K1 (e 1) (e 6) (e 7) (e 9) w) → (thenE (W6 k6_12 Q) Q) .normal e w := fun e w h => then_N (s6_12 (R := R) (Q := Q) (K1 := K1) hN hR e w h)
  have hX2 : ∀ e w, (m6_8 R w) → (thenE (W6 k6_12 Q) Q) (.exit 2) e w := fun e w h => then_X (hX2 e w h)
  have hN := hN'
  refine seq_ok' (by kernel_rfl) ?_
  have hN' : ∀ e w, (m6_25 R K1 (e 1) (e 6) (e 7) (e 9) (e 45) w) → (thenE (W6 k6_25 (thenE (W6 k6_12 Q) Q)) (thenE (W6 k6_12 Q) Q)) .normal e w := fun e w h => then_N (s6_25 (R := R) (Q := (thenE (W6 k6_12 Q) Q)) (K1 := K1) hN hX2 e w h)
  have hN := hN'
  exact region_ok 13 (fun e w => m6_25 R K1 (e 1) (e 6) (e 7) (e 9) (e 45) w) (by kernel_rfl) (kcast (by kernel_rfl) h) hN (by kernel_rfl)
theorem s6_10 {R : Value → World → Prop} {Q : Exit → Env → World → Prop} (hN : ∀ e w, (m6_8 R w) → Q .normal e w) (hR : ∀ e w, (R (e 4) w) → Q .ret e w) (e : Env) (w : World) (h : m6_10 R (e 1) (e 6) (e 7) (e 9) w) : W6 k6_10 Q e w := by
  unfold m6_10 at h
  refine block_ok 2 (by kernel_rfl) ?_
  have hX2 : ∀ e w, (m6_8 R w) → (inBlockE 2 Q) (.exit 2) e w := fun e w h => inBlock_same (Q := Q) 2 (hN e w h)
  have hR : ∀ e w, (R (e 4) w) → (inBlockE 2 Q) .ret e w := fun e w h => block_R (hR e w h)
  refine loop_ok' (fun (e : Env) => e 9) [1, 6, 7] (by kernel_rfl) (by kernel_rfl) h (fun K e' w' hk h' => ?_)
  have r1 : e' 1 = e 1 := hk 1 (by decide)
  have r6 : e' 6 = e 6 := hk 6 (by decide)
  have r7 : e' 7 = e 7 := hk 7 (by decide)
  have hR : ∀ e w, (R (e 4) w) → (thenE (fun (e : Env) w => K (e 9) w) (inBlockE 2 Q)) .ret e w := fun e w h => then_R (hR e w h)
  have hX2 : ∀ e w, (m6_8 R w) → (thenE (fun (e : Env) w => K (e 9) w) (inBlockE 2 Q)) (.exit 2) e w := fun e w h => then_X (hX2 e w h)
  exact s6_11 (R := R) (Q := (thenE (fun (e : Env) w => K (e 9) w) (inBlockE 2 Q))) (K1 := K) (fun _ _ h => then_N h) hR hX2 e' w' (by rw [r1, r6, r7]; exact h')
theorem s6_7 {R : Value → World → Prop} {Q : Exit → Env → World → Prop} (hR : ∀ e w, (R (e 4) w) → Q .ret e w) (e : Env) (w : World) (h : m6_7 R (e 1) (e 6) (e 7) w) : W6 k6_7 Q e w := by
  unfold m6_7 at h
  refine seq_ok' (by kernel_rfl) ?_
  have hN' : ∀ e w, (m6_8 R w) → (thenE (W6 k6_8 Q) Q) .normal e w := fun e w h => then_N (s6_8 (R := R) (Q := Q) hR e w h)
  have hR : ∀ e w, (R (e 4) w) → (thenE (W6 k6_8 Q) Q) .ret e w := fun e w h => then_R (hR e w h)
  have hN := hN'
  refine seq_ok' (by kernel_rfl) ?_
  have hN' : ∀ e w, (m6_10 R (e 1) (e 6) (e 7) (e 9) w) → (thenE (W6 k6_10 (thenE (W6 k6_8 Q) Q)) (thenE (W6 k6_8 Q) Q)) .normal e w := fun e w h => then_N (s6_10 (R := R) (Q := (thenE (W6 k6_8 Q) Q)) hN hR e w h)
  have hN := hN'
  exact region_ok 12 (fun e w => m6_10 R (e 1) (e 6) (e 7) (e 9) w) (by kernel_rfl) (kcast (by kernel_rfl) h) hN (by kernel_rfl)
theorem s6_32 {R : Value → World → Prop} {K1 : Value → World → Prop} {Q : Exit → Env → World → Prop} (hN : ∀ e w, (m6_28 R K1 (e 1) (e 6) (e 7) (e 8) w) → Q .normal e w) (hX0 : ∀ e w, (m6_7 R (e 1) (e 6) (e 7) w) → Q (.exit 0) e w) (e : Env) (w : World) (h : m6_32 R K1 (e 1) (e 6) (e 7) (e 8) (e 29) w) : W6 k6_32 Q e w := by
  unfold m6_32 at h
  refine cond_ok (Operand.tmp 29) (by kernel_rfl) h (fun h1 => ?_) (fun h1 => ?_)
  · exact skip_ok (by kernel_rfl) (hN _ _ h1)
  · exact exit_ok 0 (by kernel_rfl) (hX0 _ _ h1)
theorem s6_27 {R : Value → World → Prop} {K1 : Value → World → Prop} {Q : Exit → Env → World → Prop} (hN : ∀ e w, (K1 (e 8) w) → Q .normal e w) (hR : ∀ e w, (R (e 4) w) → Q .ret e w) (hX0 : ∀ e w, (m6_7 R (e 1) (e 6) (e 7) w) → Q (.exit 0) e w) (e : Env) (w : World) (h : m6_27 R K1 (e 1) (e 6) (e 7) (e 8) w) : W6 k6_27 Q e w := by
  unfold m6_27 at h
  refine seq_ok' (by kernel_rfl) ?_
  have hN' : ∀ e w, (m6_28 R K1 (e 1) (e 6) (e 7) (e 8) w) → (thenE (W6 k6_28 Q) Q) .normal e w := fun e w h => then_N (s6_28 (R := R) (Q := Q) (K1 := K1) hN hR e w h)
  have hX0 : ∀ e w, (m6_7 R (e 1) (e 6) (e 7) w) → (thenE (W6 k6_28 Q) Q) (.exit 0) e w := fun e w h => then_X (hX0 e w h)
  have hN := hN'
  refine seq_ok' (by kernel_rfl) ?_
  have hN' : ∀ e w, (m6_32 R K1 (e 1) (e 6) (e 7) (e 8) (e 29) w) → (thenE (W6 k6_32 (thenE (W6 k6_28 Q) Q)) (thenE (W6 k6_28 Q) Q)) .normal e w := fun e w h => then_N (s6_32 (R := R) (Q := (thenE (W6 k6_28 Q) Q)) (K1 := K1) hN hX0 e w h)
  have hN := hN'
  exact region_ok 8 (fun e w => m6_32 R K1 (e 1) (e 6) (e 7) (e 8) (e 29) w) (by kernel_rfl) (kcast (by kernel_rfl) h) hN (by kernel_rfl)
theorem s6_26 {R : Value → World → Prop} {Q : Exit → Env → World → Prop} (hN : ∀ e w, (m6_7 R (e 1) (e 6) (e 7) w) → Q .normal e w) (hR : ∀ e w, (R (e 4) w) → Q .ret e w) (e : Env) (w : World) (h : m6_26 R (e 1) (e 6) (e 7) (e 8) w) : W6 k6_26 Q e w := by
  unfold m6_26 at h
  refine block_ok 0 (by kernel_rfl) ?_
  have hX0 : ∀ e w, (m6_7 R (e 1) (e 6) (e 7) w) → (inBlockE 0 Q) (.exit 0) e w := fun e w h => inBlock_same (Q := Q) 0 (hN e w h)
  have hR : ∀ e w, (R (e 4) w) → (inBlockE 0 Q) .ret e w := fun e w h => block_R (hR e w h)
  refine loop_ok' (fun (e : Env) => e 8) [1, 6, 7] (by kernel_rfl) (by kernel_rfl) h (fun K e' w' hk h' => ?_)
  have r1 : e' 1 = e 1 := hk 1 (by decide)
  have r6 : e' 6 = e 6 := hk 6 (by decide)
  have r7 : e' 7 = e 7 := hk 7 (by decide)
  have hR : ∀ e w, (R (e 4) w) → (thenE (fun (e : Env) w => K (e 8) w) (inBlockE 0 Q)) .ret e w := fun e w h => then_R (hR e w h)
  have hX0 : ∀ e w, (m6_7 R (e 1) (e 6) (e 7) w) → (thenE (fun (e : Env) w => K (e 8) w) (inBlockE 0 Q)) (.exit 0) e w := fun e w h => then_X (hX0 e w h)
  exact s6_27 (R := R) (Q := (thenE (fun (e : Env) w => K (e 8) w) (inBlockE 0 Q))) (K1 := K) (fun _ _ h => then_N h) hR hX0 e' w' (by rw [r1, r6, r7]; exact h')
theorem s6_6 {R : Value → World → Prop} {Q : Exit → Env → World → Prop} (hR : ∀ e w, (R (e 4) w) → Q .ret e w) (e : Env) (w : World) (h : m6_6 R (e 1) (e 6) (e 7) w) : W6 k6_6 Q e w := by
  unfold m6_6 at h
  refine seq_ok' (by kernel_rfl) ?_
  have hN' : ∀ e w, (m6_7 R (e 1) (e 6) (e 7) w) → (thenE (W6 k6_7 Q) Q) .normal e w := fun e w h => then_N (s6_7 (R := R) (Q := Q) hR e w h)
  have hR : ∀ e w, (R (e 4) w) → (thenE (W6 k6_7 Q) Q) .ret e w := fun e w h => then_R (hR e w h)
  have hN := hN'
  refine seq_ok' (by kernel_rfl) ?_
  have hN' : ∀ e w, (m6_26 R (e 1) (e 6) (e 7) (e 8) w) → (thenE (W6 k6_26 (thenE (W6 k6_7 Q) Q)) (thenE (W6 k6_7 Q) Q)) .normal e w := fun e w h => then_N (s6_26 (R := R) (Q := (thenE (W6 k6_7 Q) Q)) hN hR e w h)
  have hN := hN'
  exact region_ok 7 (fun e w => m6_26 R (e 1) (e 6) (e 7) (e 8) w) (by kernel_rfl) (kcast (by kernel_rfl) h) hN (by kernel_rfl)
theorem s6_5 {R : Value → World → Prop} {Q : Exit → Env → World → Prop} (hR : ∀ e w, (R (e 4) w) → Q .ret e w) (e : Env) (w : World) (h : m6_5 R (e 1) (e 5) (e 6) w) : W6 k6_5 Q e w := by
  unfold m6_5 at h
  refine seq_ok' (by kernel_rfl) ?_
  have hN' : ∀ e w, (m6_6 R (e 1) (e 6) (e 7) w) → (thenE (W6 k6_6 Q) Q) .normal e w := fun e w h => then_N (s6_6 (R := R) (Q := Q) hR e w h)
  have hN := hN'
  exact region_ok 6 (fun e w => m6_6 R (e 1) (e 6) (e 7) w) (by kernel_rfl) (kcast (by kernel_rfl) h) hN (by kernel_rfl)
theorem s6_4 {R : Value → World → Prop} {Q : Exit → Env → World → Prop} (hR : ∀ e w, (R (e 4) w) → Q .ret e w) (e : Env) (w : World) (h : m6_4 R (e 0) (e 1) (e 5) w) : W6 k6_4 Q e w := by
  unfold m6_4 at h
  refine seq_ok' (by kernel_rfl) ?_
  have hN' : ∀ e w, (m6_5 R (e 1) (e 5) (e 6) w) → (thenE (W6 k6_5 Q) Q) .normal e w := fun e w h => then_N (s6_5 (R := R) (Q := Q) hR e w h)
  have hN := hN'
  exact region_ok 5 (fun e w => m6_5 R (e 1) (e 5) (e 6) w) (by kernel_rfl) (kcast (by kernel_rfl) h) hN (by kernel_rfl)
theorem s6_33 {R : Value → World → Prop} {Q : Exit → Env → World → Prop} (hN : ∀ e w, (m6_4 R (e 0) (e 1) (e 5) w) → Q .normal e w) (hR : ∀ e w, (R (e 4) w) → Q .ret e w) (e : Env) (w : World) (h : m6_33 R (e 0) (e 1) (e 5) (e 18) w) : W6 k6_33 Q e w := by
  unfold m6_33 at h
  refine cond_ok (Operand.tmp 18) (by kernel_rfl) h (fun h1 => ?_) (fun h1 => ?_)
  · refine seq_ok' (by kernel_rfl) ?_
    have hN' : ∀ e w, (m6_34 R (e 4) w) → (thenE (W6 k6_34 Q) Q) .normal e w := fun e w h => then_N (s6_34 (R := R) (Q := Q) hR e w h)
    have hN := hN'
    exact region_ok 4 (fun e w => m6_34 R (e 4) w) (by kernel_rfl) (kcast (by kernel_rfl) h1) hN (by kernel_rfl)
  · exact skip_ok (by kernel_rfl) (hN _ _ h1)
theorem s6_3 {R : Value → World → Prop} {Q : Exit → Env → World → Prop} (hR : ∀ e w, (R (e 4) w) → Q .ret e w) (e : Env) (w : World) (h : m6_3 R (e 0) (e 1) (e 5) w) : W6 k6_3 Q e w := by
  unfold m6_3 at h
  refine seq_ok' (by kernel_rfl) ?_
  have hN' : ∀ e w, (m6_4 R (e 0) (e 1) (e 5) w) → (thenE (W6 k6_4 Q) Q) .normal e w := fun e w h => then_N (s6_4 (R := R) (Q := Q) hR e w h)
  have hR : ∀ e w, (R (e 4) w) → (thenE (W6 k6_4 Q) Q) .ret e w := fun e w h => then_R (hR e w h)
  have hN := hN'
  refine seq_ok' (by kernel_rfl) ?_
  have hN' : ∀ e w, (m6_33 R (e 0) (e 1) (e 5) (e 18) w) → (thenE (W6 k6_33 (thenE (W6 k6_4 Q) Q)) (thenE (W6 k6_4 Q) Q)) .normal e w := fun e w h => then_N (s6_33 (R := R) (Q := (thenE (W6 k6_4 Q) Q)) hN hR e w h)
  have hN := hN'
  exact region_ok 3 (fun e w => m6_33 R (e 0) (e 1) (e 5) (e 18) w) (by kernel_rfl) (kcast (by kernel_rfl) h) hN (by kernel_rfl)
theorem s6_2 {R : Value → World → Prop} {Q : Exit → Env → World → Prop} (hR : ∀ e w, (R (e 4) w) → Q .ret e w) (e : Env) (w : World) (h : m6_2 R (e 0) (e 1) w) : W6 k6_2 Q e w := by
  unfold m6_2 at h
  refine seq_ok' (by kernel_rfl) ?_
  have hN' : ∀ e w, (m6_3 R (e 0) (e 1) (e 5) w) → (thenE (W6 k6_3 Q) Q) .normal e w := fun e w h => then_N (s6_3 (R := R) (Q := Q) hR e w h)
  have hN := hN'
  exact region_ok 2 (fun e w => m6_3 R (e 0) (e 1) (e 5) w) (by kernel_rfl) (kcast (by kernel_rfl) h) hN (by kernel_rfl)
theorem s6_1 {R : Value → World → Prop} {Q : Exit → Env → World → Prop} (hR : ∀ e w, (R (e 4) w) → Q .ret e w) (e : Env) (w : World) (h : m6_1 R (e 0) (e 1) w) : W6 k6_1 Q e w := by
  unfold m6_1 at h
  refine seq_ok' (by kernel_rfl) ?_
  have hN' : ∀ e w, (m6_2 R (e 0) (e 1) w) → (thenE (W6 k6_2 Q) Q) .normal e w := fun e w h => then_N (s6_2 (R := R) (Q := Q) hR e w h)
  have hN := hN'
  exact region_ok 1 (fun e w => m6_2 R (e 0) (e 1) w) (by kernel_rfl) (kcast (by kernel_rfl) h) hN (by kernel_rfl)
theorem s6_0 {R : Value → World → Prop} {Q : Exit → Env → World → Prop} (hR : ∀ e w, (R (e 4) w) → Q .ret e w) (e : Env) (w : World) (h : m6_0 R (e 0) (e 1) w) : W6 k6_0 Q e w := by
  unfold m6_0 at h
  refine seq_ok' (by kernel_rfl) ?_
  have hN' : ∀ e w, (m6_1 R (e 0) (e 1) w) → (thenE (W6 k6_1 Q) Q) .normal e w := fun e w h => then_N (s6_1 (R := R) (Q := Q) hR e w h)
  have hN := hN'
  exact region_ok 0 (fun e w => m6_1 R (e 0) (e 1) w) (by kernel_rfl) (kcast (by kernel_rfl) h) hN (by kernel_rfl)
abbrev m6 (R : Value → World → Prop) (most0 : Value) (l1 : Value) (w : World) : Prop := m6_0 R most0 l1 w
theorem s6 (most0 : Value) (l1 : Value) {R : Value → World → Prop} {w : World} (h : m6 R most0 l1 w) :
    Calls Try.prog 6 #[most0, l1] w fun e w' => ∃ v, e = .returned v ∧ R v w' :=
  calls_of_cwp (st := (fun i => cond (Nat.beq i 20) 1 (cond (Nat.beq i 10) 1 (0)))) (c := k6_0) (by kernel_rfl) Try.func6 (by kernel_rfl) (Nat.le_of_ble_eq_true (by kernel_rfl)) (by kernel_rfl)
    (s6_0 (R := R) (Q := endE Try.prog Try.f6 R) (fun e w h => kcast (by kernel_rfl) h) (argsE #[most0, l1]) w (kcast (by kernel_rfl) h))
/-! ### headgate/headgatelaw30.HeavyExact -/
def m7_25 (R : Value → World → Prop) (t2 : Value) (w : World) : Prop :=
  R t2 w
def m7_22 (R : Value → World → Prop) (K1 : (Value × Value) → World → Prop) (l0 : Value) (h3 : Value) (few5 : Value) (i6 : Value) (w : World) : Prop :=
  valP Try.prog (binS BinOp.add 3 (Operand.tmp 27) (Operand.const (Value.int IntKind.i64 1)) i6 (Value.int IntKind.i64 1)) w fun t28 w =>
  K1 (few5, t28) w
def m7_21 (R : Value → World → Prop) (K1 : (Value × Value) → World → Prop) (l0 : Value) (h3 : Value) (few5 : Value) (i6 : Value) (w : World) : Prop :=
  valP Try.prog (Instr.indexAt 22 l0 i6) w fun t32 w =>
  valP Try.prog (Instr.loadAt 3 t32) w fun t33 w =>
  valP Try.prog (binS BinOp.and 3 (Operand.tmp 33) (Operand.const (Value.int IntKind.i64 15)) t33 (Value.int IntKind.i64 15)) w fun t34 w =>
  valP Try.prog (Instr.buildSlice 22 1 #[(0, t34)]) w fun t35 w =>
  builtinP Try.prog Builtin.append #[22, 22] 22 #[false, false] #[few5, t35] w fun t36 w =>
  m7_22 R K1 l0 h3 t36 i6 w
def m7_17 (R : Value → World → Prop) (K1 : Value → World → Prop) (t2 : Value) (w : World) : Prop :=
  R t2 w
def m7_13 (R : Value → World → Prop) (K1 : Value → World → Prop) (h3 : Value) (few5 : Value) (key7 : Value) (w : World) : Prop :=
  valP Try.prog (binS BinOp.add 3 (Operand.tmp 42) (Operand.const (Value.int IntKind.i64 1)) key7 (Value.int IntKind.i64 1)) w fun t43 w =>
  K1 t43 w
def m7_16 (R : Value → World → Prop) (K1 : Value → World → Prop) (h3 : Value) (few5 : Value) (key7 : Value) (t71 : Value) (w : World) : Prop :=
  condP t71
  (m7_17 R K1 (Value.bool false) w)
  (m7_13 R K1 h3 few5 key7 w)
def m7_15 (R : Value → World → Prop) (K1 : Value → World → Prop) (h3 : Value) (few5 : Value) (key7 : Value) (a8 : Value) (b9 : Value) (n10 : Value) (w : World) : Prop :=
  valP Try.prog (binS BinOp.neq 3 (Operand.tmp 53) (Operand.tmp 54) a8 n10) w fun t55 w =>
  condP t55
  (pickP t55 (Value.bool true) undef fun t66 =>
  condP t66
  (pickP t66 (Value.bool true) undef fun t71 =>
  m7_16 R K1 h3 few5 key7 t71 w)
  (valP Try.prog (binS BinOp.lss 3 (Operand.tmp 68) (Operand.tmp 69) b9 n10) w fun t70 w =>
  pickP t66 (Value.bool true) t70 fun t71 =>
  m7_16 R K1 h3 few5 key7 t71 w))
  (valP Try.prog (binS BinOp.neq 3 (Operand.tmp 57) (Operand.tmp 58) b9 n10) w fun t59 w =>
  condP t59
  (callP Try.prog (fnV 19) #[h3, (Value.int IntKind.i64 16)] w fun t62 w =>
  builtinP Try.prog Builtin.len #[28] 3 #[false] #[t62] w fun t63 w =>
  valP Try.prog (binS BinOp.lss 3 (Operand.tmp 63) (Operand.const (Value.int IntKind.i64 16)) t63 (Value.int IntKind.i64 16)) w fun t64 w =>
  pickP t59 t64 (Value.bool false) fun t65 =>
  pickP t55 (Value.bool true) t65 fun t66 =>
  condP t66
  (pickP t66 (Value.bool true) undef fun t71 =>
  m7_16 R K1 h3 few5 key7 t71 w)
  (valP Try.prog (binS BinOp.lss 3 (Operand.tmp 68) (Operand.tmp 69) b9 n10) w fun t70 w =>
  pickP t66 (Value.bool true) t70 fun t71 =>
  m7_16 R K1 h3 few5 key7 t71 w))
  (pickP t59 undef (Value.bool false) fun t65 =>
  pickP t55 (Value.bool true) t65 fun t66 =>
  condP t66
  (pickP t66 (Value.bool true) undef fun t71 =>
  m7_16 R K1 h3 few5 key7 t71 w)
  (valP Try.prog (binS BinOp.lss 3 (Operand.tmp 68) (Operand.tmp 69) b9 n10) w fun t70 w =>
  pickP t66 (Value.bool true) t70 fun t71 =>
  m7_16 R K1 h3 few5 key7 t71 w)))
def m7_14 (R : Value → World → Prop) (K1 : Value → World → Prop) (h3 : Value) (few5 : Value) (key7 : Value) (a8 : Value) (b9 : Value) (w : World) : Prop :=
  callP Try.prog (fnV 22) #[few5, key7] w fun t52 w =>
  m7_15 R K1 h3 few5 key7 a8 b9 t52 w
def m7_12 (R : Value → World → Prop) (K1 : Value → World → Prop) (h3 : Value) (few5 : Value) (key7 : Value) (w : World) : Prop :=
  callP Try.prog (fnV 15) #[h3, key7] w fun t47 w =>
  valP Try.prog (Instr.extract t47 0) w fun t48 w =>
  valP Try.prog (Instr.extract t47 1) w fun t49 w =>
  m7_14 R K1 h3 few5 key7 t48 t49 w
def m7_9 (R : Value → World → Prop) (t2 : Value) (w : World) : Prop :=
  R t2 w
def m7_8 (R : Value → World → Prop) (w : World) : Prop :=
  callP Try.prog (fnV 12) #[] w fun t72 w =>
  m7_9 R t72 w
def m7_18 (R : Value → World → Prop) (K1 : Value → World → Prop) (h3 : Value) (few5 : Value) (key7 : Value) (t41 : Value) (w : World) : Prop :=
  condP t41
  (m7_12 R K1 h3 few5 key7 w)
  (m7_8 R w)
def m7_11 (R : Value → World → Prop) (K1 : Value → World → Prop) (h3 : Value) (few5 : Value) (key7 : Value) (w : World) : Prop :=
  valP Try.prog (binS BinOp.leq 3 (Operand.tmp 40) (Operand.const (Value.int IntKind.i64 16)) key7 (Value.int IntKind.i64 16)) w fun t41 w =>
  m7_18 R K1 h3 few5 key7 t41 w
def m7_10 (R : Value → World → Prop) (h3 : Value) (few5 : Value) (key7 : Value) (w : World) : Prop :=
  loopP (fun (K1 : Value → World → Prop) (s : Value) w => m7_11 R K1 h3 few5 s w) key7 w
def m7_7 (R : Value → World → Prop) (h3 : Value) (few5 : Value) (w : World) : Prop :=
  m7_10 R h3 few5 (Value.int IntKind.i64 (-1)) w
def m7_6 (R : Value → World → Prop) (h3 : Value) (few5 : Value) (w : World) : Prop :=
  callP Try.prog (fnV 13) #[h3, few5] w fun t39 w =>
  m7_7 R h3 few5 w
def m7_23 (R : Value → World → Prop) (K1 : (Value × Value) → World → Prop) (l0 : Value) (h3 : Value) (few5 : Value) (i6 : Value) (t26 : Value) (w : World) : Prop :=
  condP t26
  (m7_21 R K1 l0 h3 few5 i6 w)
  (m7_6 R h3 few5 w)
def m7_20 (R : Value → World → Prop) (K1 : (Value × Value) → World → Prop) (l0 : Value) (h3 : Value) (few5 : Value) (i6 : Value) (w : World) : Prop :=
  builtinP Try.prog Builtin.len #[22] 3 #[false] #[l0] w fun t25 w =>
  valP Try.prog (binS BinOp.lss 3 (Operand.tmp 23) (Operand.tmp 25) i6 t25) w fun t26 w =>
  m7_23 R K1 l0 h3 few5 i6 t26 w
def m7_19 (R : Value → World → Prop) (l0 : Value) (h3 : Value) (few5 : Value) (i6 : Value) (w : World) : Prop :=
  loopP (fun (K1 : (Value × Value) → World → Prop) (s : Value × Value) w => m7_20 R K1 l0 h3 s.1 s.2 w) (few5, i6) w
def m7_5 (R : Value → World → Prop) (l0 : Value) (h3 : Value) (few5 : Value) (w : World) : Prop :=
  m7_19 R l0 h3 few5 (Value.int IntKind.i64 0) w
def m7_4 (R : Value → World → Prop) (l0 : Value) (h3 : Value) (w : World) : Prop :=
  m7_5 R l0 h3 (Value.slice none 0 0) w
def m7_24 (R : Value → World → Prop) (l0 : Value) (h3 : Value) (t22 : Value) (w : World) : Prop :=
  condP t22
  (m7_25 R (Value.bool false) w)
  (m7_4 R l0 h3 w)
def m7_3 (R : Value → World → Prop) (l0 : Value) (h3 : Value) (e4 : Value) (w : World) : Prop :=
  valP Try.prog (binS BinOp.neq 25 (Operand.tmp 17) (Operand.const (Value.int IntKind.i64 0)) e4 (Value.int IntKind.i64 0)) w fun t18 w =>
  condP t18
  (pickP t18 (Value.bool true) undef fun t22 =>
  m7_24 R l0 h3 t22 w)
  (valP Try.prog (binS BinOp.eql 24 (Operand.tmp 20) (Operand.const (Value.pointer none)) h3 (Value.pointer none)) w fun t21 w =>
  pickP t18 (Value.bool true) t21 fun t22 =>
  m7_24 R l0 h3 t22 w)
def m7_2 (R : Value → World → Prop) (l0 : Value) (w : World) : Prop :=
  callP Try.prog (fnV 10) #[(Value.int IntKind.i64 16)] w fun t14 w =>
  valP Try.prog (Instr.extract t14 0) w fun t15 w =>
  valP Try.prog (Instr.extract t14 1) w fun t16 w =>
  m7_3 R l0 t15 t16 w
def m7_1 (R : Value → World → Prop) (l0 : Value) (w : World) : Prop :=
  callP Try.prog (fnV 9) #[l0] w fun t12 w =>
  m7_2 R t12 w
def m7_0 (R : Value → World → Prop) (l0 : Value) (w : World) : Prop :=
  m7_1 R l0 w
abbrev W7 := cwp Try.prog (fun i => 0)
noncomputable def k7_0 : Code := (bodyOf Try.f7)
noncomputable def k7_1 : Code := (c2 k7_0)
noncomputable def k7_2 : Code := (c2 k7_1)
noncomputable def k7_3 : Code := (c2 k7_2)
noncomputable def k7_4 : Code := (c2 k7_3)
noncomputable def k7_5 : Code := (c2 k7_4)
noncomputable def k7_6 : Code := (c2 k7_5)
noncomputable def k7_7 : Code := (c2 k7_6)
noncomputable def k7_8 : Code := (c2 k7_7)
noncomputable def k7_9 : Code := (c2 k7_8)
noncomputable def k7_10 : Code := (c2 (c1 k7_7))
noncomputable def k7_11 : Code := (c1 (c1 k7_10))
noncomputable def k7_12 : Code := (c2 k7_11)
noncomputable def k7_13 : Code := (c2 k7_12)
noncomputable def k7_14 : Code := (c2 (c1 (c1 k7_12)))
noncomputable def k7_15 : Code := (c2 k7_14)
noncomputable def k7_16 : Code := (c2 k7_15)
noncomputable def k7_17 : Code := (c2 (c1 k7_16))
noncomputable def k7_18 : Code := (c2 (c1 k7_11))
noncomputable def k7_19 : Code := (c2 (c1 k7_5))
noncomputable def k7_20 : Code := (c1 (c1 k7_19))
noncomputable def k7_21 : Code := (c2 k7_20)
noncomputable def k7_22 : Code := (c2 k7_21)
noncomputable def k7_23 : Code := (c2 (c1 k7_20))
noncomputable def k7_24 : Code := (c2 (c1 k7_3))
noncomputable def k7_25 : Code := (c2 (c1 k7_24))
theorem s7_25 {R : Value → World → Prop} {Q : Exit → Env → World → Prop} (hR : ∀ e w, (R (e 2) w) → Q .ret e w) (e : Env) (w : World) (h : m7_25 R (e 2) w) : W7 k7_25 Q e w := by
  unfold m7_25 at h
  exact ret_ok (by kernel_rfl) (hR _ _ h)
theorem s7_22 {R : Value → World → Prop} {K1 : (Value × Value) → World → Prop} {Q : Exit → Env → World → Prop} (hN : ∀ e w, (K1 ((e 5), (e 6)) w) → Q .normal e w) (e : Env) (w : World) (h : m7_22 R K1 (e 0) (e 3) (e 5) (e 6) w) : W7 k7_22 Q e w := by
  unfold m7_22 at h
  exact region_ok 8 (fun e w => K1 ((e 5), (e 6)) w) (by kernel_rfl) (kcast (by kernel_rfl) h) hN (by kernel_rfl)
theorem s7_21 {R : Value → World → Prop} {K1 : (Value × Value) → World → Prop} {Q : Exit → Env → World → Prop} (hN : ∀ e w, (K1 ((e 5), (e 6)) w) → Q .normal e w) (e : Env) (w : World) (h : m7_21 R K1 (e 0) (e 3) (e 5) (e 6) w) : W7 k7_21 Q e w := by
  unfold m7_21 at h
  refine seq_ok' (by kernel_rfl) ?_
  have hN' : ∀ e w, (m7_22 R K1 (e 0) (e 3) (e 5) (e 6) w) → (thenE (W7 k7_22 Q) Q) .normal e w := fun e w h => then_N (s7_22 (R := R) (Q := Q) (K1 := K1) hN e w h)
  have hN := hN'
  refine block_ok 1 (by kernel_rfl) ?_
  have hN : ∀ e w, (m7_22 R K1 (e 0) (e 3) (e 5) (e 6) w) → (inBlockE 1 (thenE (W7 k7_22 Q) Q)) .normal e w := fun e w h => block_N (hN e w h)
  exact region_ok 9 (fun e w => m7_22 R K1 (e 0) (e 3) (e 5) (e 6) w) (by kernel_rfl) (kcast (by kernel_rfl) h) hN (by kernel_rfl)
theorem s7_17 {R : Value → World → Prop} {K1 : Value → World → Prop} {Q : Exit → Env → World → Prop} (hR : ∀ e w, (R (e 2) w) → Q .ret e w) (e : Env) (w : World) (h : m7_17 R K1 (e 2) w) : W7 k7_17 Q e w := by
  unfold m7_17 at h
  exact ret_ok (by kernel_rfl) (hR _ _ h)
theorem s7_13 {R : Value → World → Prop} {K1 : Value → World → Prop} {Q : Exit → Env → World → Prop} (hN : ∀ e w, (K1 (e 7) w) → Q .normal e w) (e : Env) (w : World) (h : m7_13 R K1 (e 3) (e 5) (e 7) w) : W7 k7_13 Q e w := by
  unfold m7_13 at h
  exact region_ok 13 (fun e w => K1 (e 7) w) (by kernel_rfl) (kcast (by kernel_rfl) h) hN (by kernel_rfl)
theorem s7_16 {R : Value → World → Prop} {K1 : Value → World → Prop} {Q : Exit → Env → World → Prop} (hN : ∀ e w, (m7_13 R K1 (e 3) (e 5) (e 7) w) → Q .normal e w) (hR : ∀ e w, (R (e 2) w) → Q .ret e w) (e : Env) (w : World) (h : m7_16 R K1 (e 3) (e 5) (e 7) (e 71) w) : W7 k7_16 Q e w := by
  unfold m7_16 at h
  refine cond_ok (Operand.tmp 71) (by kernel_rfl) h (fun h1 => ?_) (fun h1 => ?_)
  · refine seq_ok' (by kernel_rfl) ?_
    have hN' : ∀ e w, (m7_17 R K1 (e 2) w) → (thenE (W7 k7_17 Q) Q) .normal e w := fun e w h => then_N (s7_17 (R := R) (Q := Q) (K1 := K1) hR e w h)
    have hN := hN'
    exact region_ok 17 (fun e w => m7_17 R K1 (e 2) w) (by kernel_rfl) (kcast (by kernel_rfl) h1) hN (by kernel_rfl)
  · exact skip_ok (by kernel_rfl) (hN _ _ h1)
theorem s7_15 {R : Value → World → Prop} {K1 : Value → World → Prop} {Q : Exit → Env → World → Prop} (hN : ∀ e w, (m7_13 R K1 (e 3) (e 5) (e 7) w) → Q .normal e w) (hR : ∀ e w, (R (e 2) w) → Q .ret e w) (e : Env) (w : World) (h : m7_15 R K1 (e 3) (e 5) (e 7) (e 8) (e 9) (e 10) w) : W7 k7_15 Q e w := by
  unfold m7_15 at h
  refine seq_ok' (by kernel_rfl) ?_
  have hN' : ∀ e w, (m7_16 R K1 (e 3) (e 5) (e 7) (e 71) w) → (thenE (W7 k7_16 Q) Q) .normal e w := fun e w h => then_N (s7_16 (R := R) (Q := Q) (K1 := K1) hN hR e w h)
  have hN := hN'
  exact region_ok 16 (fun e w => m7_16 R K1 (e 3) (e 5) (e 7) (e 71) w) (by kernel_rfl) (kcast (by kernel_rfl) h) hN (by kernel_rfl)
theorem s7_14 {R : Value → World → Prop} {K1 : Value → World → Prop} {Q : Exit → Env → World → Prop} (hN : ∀ e w, (m7_13 R K1 (e 3) (e 5) (e 7) w) → Q .normal e w) (hR : ∀ e w, (R (e 2) w) → Q .ret e w) (e : Env) (w : World) (h : m7_14 R K1 (e 3) (e 5) (e 7) (e 8) (e 9) w) : W7 k7_14 Q e w := by
  unfold m7_14 at h
  refine seq_ok' (by kernel_rfl) ?_
  have hN' : ∀ e w, (m7_15 R K1 (e 3) (e 5) (e 7) (e 8) (e 9) (e 10) w) → (thenE (W7 k7_15 Q) Q) .normal e w := fun e w h => then_N (s7_15 (R := R) (Q := Q) (K1 := K1) hN hR e w h)
  have hN := hN'
  exact region_ok 15 (fun e w => m7_15 R K1 (e 3) (e 5) (e 7) (e 8) (e 9) (e 10) w) (by kernel_rfl) (kcast (by kernel_rfl) h) hN (by kernel_rfl)
theorem s7_12 {R : Value → World → Prop} {K1 : Value → World → Prop} {Q : Exit → Env → World → Prop} (hN : ∀ e w, (K1 (e 7) w) → Q .normal e w) (hR : ∀ e w, (R (e 2) w) → Q .ret e w) (e : Env) (w : World) (h : m7_12 R K1 (e 3) (e 5) (e 7) w) : W7 k7_12 Q e w := by
  unfold m7_12 at h
  refine seq_ok' (by kernel_rfl) ?_
  have hN' : ∀ e w, (m7_13 R K1 (e 3) (e 5) (e 7) w) → (thenE (W7 k7_13 Q) Q) .normal e w := fun e w h => then_N (s7_13 (R := R) (Q := Q) (K1 := K1) hN e w h)
  have hR : ∀ e w, (R (e 2) w) → (thenE (W7 k7_13 Q) Q) .ret e w := fun e w h => then_R (hR e w h)
  have hN := hN'
  refine block_ok 3 (by kernel_rfl) ?_
  have hN : ∀ e w, (m7_13 R K1 (e 3) (e 5) (e 7) w) → (inBlockE 3 (thenE (W7 k7_13 Q) Q)) .normal e w := fun e w h => block_N (hN e w h)
  have hR : ∀ e w, (R (e 2) w) → (inBlockE 3 (thenE (W7 k7_13 Q) Q)) .ret e w := fun e w h => block_R (hR e w h)
  refine seq_ok' (by kernel_rfl) ?_
  have hN' : ∀ e w, (m7_14 R K1 (e 3) (e 5) (e 7) (e 8) (e 9) w) → (thenE (W7 k7_14 (inBlockE 3 (thenE (W7 k7_13 Q) Q))) (inBlockE 3 (thenE (W7 k7_13 Q) Q))) .normal e w := fun e w h => then_N (s7_14 (R := R) (Q := (inBlockE 3 (thenE (W7 k7_13 Q) Q))) (K1 := K1) hN hR e w h)
  have hN := hN'
  exact region_ok 14 (fun e w => m7_14 R K1 (e 3) (e 5) (e 7) (e 8) (e 9) w) (by kernel_rfl) (kcast (by kernel_rfl) h) hN (by kernel_rfl)
theorem s7_9 {R : Value → World → Prop} {Q : Exit → Env → World → Prop} (hR : ∀ e w, (R (e 2) w) → Q .ret e w) (e : Env) (w : World) (h : m7_9 R (e 2) w) : W7 k7_9 Q e w := by
  unfold m7_9 at h
  exact ret_ok (by kernel_rfl) (hR _ _ h)
theorem s7_8 {R : Value → World → Prop} {Q : Exit → Env → World → Prop} (hR : ∀ e w, (R (e 2) w) → Q .ret e w) (e : Env) (w : World) (h : m7_8 R w) : W7 k7_8 Q e w := by
  unfold m7_8 at h
  refine seq_ok' (by kernel_rfl) ?_
  have hN' : ∀ e w, (m7_9 R (e 2) w) → (thenE (W7 k7_9 Q) Q) .normal e w := fun e w h => then_N (s7_9 (R := R) (Q := Q) hR e w h)
  have hN := hN'
  exact region_ok 18 (fun e w => m7_9 R (e 2) w) (by kernel_rfl) (kcast (by kernel_rfl) h) hN (by kernel_rfl)
theorem s7_18 {R : Value → World → Prop} {K1 : Value → World → Prop} {Q : Exit → Env → World → Prop} (hN : ∀ e w, (m7_12 R K1 (e 3) (e 5) (e 7) w) → Q .normal e w) (hX2 : ∀ e w, (m7_8 R w) → Q (.exit 2) e w) (e : Env) (w : World) (h : m7_18 R K1 (e 3) (e 5) (e 7) (e 41) w) : W7 k7_18 Q e w := by
  unfold m7_18 at h
  refine cond_ok (Operand.tmp 41) (by kernel_rfl) h (fun h1 => ?_) (fun h1 => ?_)
  · exact skip_ok (by kernel_rfl) (hN _ _ h1)
  · exact exit_ok 2 (by kernel_rfl) (hX2 _ _ h1)
theorem s7_11 {R : Value → World → Prop} {K1 : Value → World → Prop} {Q : Exit → Env → World → Prop} (hN : ∀ e w, (K1 (e 7) w) → Q .normal e w) (hR : ∀ e w, (R (e 2) w) → Q .ret e w) (hX2 : ∀ e w, (m7_8 R w) → Q (.exit 2) e w) (e : Env) (w : World) (h : m7_11 R K1 (e 3) (e 5) (e 7) w) : W7 k7_11 Q e w := by
  unfold m7_11 at h
  refine seq_ok' (by kernel_rfl) ?_
  have hN' : ∀ e w, (m7_12 R K1 (e 3) (e 5) (e 7) w) → (thenE (W7 k7_12 Q) Q) .normal e w := fun e w h => then_N (s7_12 (R := R) (Q := Q) (K1 := K1) hN hR e w h)
  have hX2 : ∀ e w, (m7_8 R w) → (thenE (W7 k7_12 Q) Q) (.exit 2) e w := fun e w h => then_X (hX2 e w h)
  have hN := hN'
  refine seq_ok' (by kernel_rfl) ?_
  have hN' : ∀ e w, (m7_18 R K1 (e 3) (e 5) (e 7) (e 41) w) → (thenE (W7 k7_18 (thenE (W7 k7_12 Q) Q)) (thenE (W7 k7_12 Q) Q)) .normal e w := fun e w h => then_N (s7_18 (R := R) (Q := (thenE (W7 k7_12 Q) Q)) (K1 := K1) hN hX2 e w h)
  have hN := hN'
  exact region_ok 12 (fun e w => m7_18 R K1 (e 3) (e 5) (e 7) (e 41) w) (by kernel_rfl) (kcast (by kernel_rfl) h) hN (by kernel_rfl)
theorem s7_10 {R : Value → World → Prop} {Q : Exit → Env → World → Prop} (hN : ∀ e w, (m7_8 R w) → Q .normal e w) (hR : ∀ e w, (R (e 2) w) → Q .ret e w) (e : Env) (w : World) (h : m7_10 R (e 3) (e 5) (e 7) w) : W7 k7_10 Q e w := by
  unfold m7_10 at h
  refine block_ok 2 (by kernel_rfl) ?_
  have hX2 : ∀ e w, (m7_8 R w) → (inBlockE 2 Q) (.exit 2) e w := fun e w h => inBlock_same (Q := Q) 2 (hN e w h)
  have hR : ∀ e w, (R (e 2) w) → (inBlockE 2 Q) .ret e w := fun e w h => block_R (hR e w h)
  refine loop_ok' (fun (e : Env) => e 7) [3, 5] (by kernel_rfl) (by kernel_rfl) h (fun K e' w' hk h' => ?_)
  have r3 : e' 3 = e 3 := hk 3 (by decide)
  have r5 : e' 5 = e 5 := hk 5 (by decide)
  have hR : ∀ e w, (R (e 2) w) → (thenE (fun (e : Env) w => K (e 7) w) (inBlockE 2 Q)) .ret e w := fun e w h => then_R (hR e w h)
  have hX2 : ∀ e w, (m7_8 R w) → (thenE (fun (e : Env) w => K (e 7) w) (inBlockE 2 Q)) (.exit 2) e w := fun e w h => then_X (hX2 e w h)
  exact s7_11 (R := R) (Q := (thenE (fun (e : Env) w => K (e 7) w) (inBlockE 2 Q))) (K1 := K) (fun _ _ h => then_N h) hR hX2 e' w' (by rw [r3, r5]; exact h')
theorem s7_7 {R : Value → World → Prop} {Q : Exit → Env → World → Prop} (hR : ∀ e w, (R (e 2) w) → Q .ret e w) (e : Env) (w : World) (h : m7_7 R (e 3) (e 5) w) : W7 k7_7 Q e w := by
  unfold m7_7 at h
  refine seq_ok' (by kernel_rfl) ?_
  have hN' : ∀ e w, (m7_8 R w) → (thenE (W7 k7_8 Q) Q) .normal e w := fun e w h => then_N (s7_8 (R := R) (Q := Q) hR e w h)
  have hR : ∀ e w, (R (e 2) w) → (thenE (W7 k7_8 Q) Q) .ret e w := fun e w h => then_R (hR e w h)
  have hN := hN'
  refine seq_ok' (by kernel_rfl) ?_
  have hN' : ∀ e w, (m7_10 R (e 3) (e 5) (e 7) w) → (thenE (W7 k7_10 (thenE (W7 k7_8 Q) Q)) (thenE (W7 k7_8 Q) Q)) .normal e w := fun e w h => then_N (s7_10 (R := R) (Q := (thenE (W7 k7_8 Q) Q)) hN hR e w h)
  have hN := hN'
  exact region_ok 11 (fun e w => m7_10 R (e 3) (e 5) (e 7) w) (by kernel_rfl) (kcast (by kernel_rfl) h) hN (by kernel_rfl)
theorem s7_6 {R : Value → World → Prop} {Q : Exit → Env → World → Prop} (hR : ∀ e w, (R (e 2) w) → Q .ret e w) (e : Env) (w : World) (h : m7_6 R (e 3) (e 5) w) : W7 k7_6 Q e w := by
  unfold m7_6 at h
  refine seq_ok' (by kernel_rfl) ?_
  have hN' : ∀ e w, (m7_7 R (e 3) (e 5) w) → (thenE (W7 k7_7 Q) Q) .normal e w := fun e w h => then_N (s7_7 (R := R) (Q := Q) hR e w h)
  have hN := hN'
  exact region_ok 10 (fun e w => m7_7 R (e 3) (e 5) w) (by kernel_rfl) (kcast (by kernel_rfl) h) hN (by kernel_rfl)
theorem s7_23 {R : Value → World → Prop} {K1 : (Value × Value) → World → Prop} {Q : Exit → Env → World → Prop} (hN : ∀ e w, (m7_21 R K1 (e 0) (e 3) (e 5) (e 6) w) → Q .normal e w) (hX0 : ∀ e w, (m7_6 R (e 3) (e 5) w) → Q (.exit 0) e w) (e : Env) (w : World) (h : m7_23 R K1 (e 0) (e 3) (e 5) (e 6) (e 26) w) : W7 k7_23 Q e w := by
  unfold m7_23 at h
  refine cond_ok (Operand.tmp 26) (by kernel_rfl) h (fun h1 => ?_) (fun h1 => ?_)
  · exact skip_ok (by kernel_rfl) (hN _ _ h1)
  · exact exit_ok 0 (by kernel_rfl) (hX0 _ _ h1)
theorem s7_20 {R : Value → World → Prop} {K1 : (Value × Value) → World → Prop} {Q : Exit → Env → World → Prop} (hN : ∀ e w, (K1 ((e 5), (e 6)) w) → Q .normal e w) (hX0 : ∀ e w, (m7_6 R (e 3) (e 5) w) → Q (.exit 0) e w) (e : Env) (w : World) (h : m7_20 R K1 (e 0) (e 3) (e 5) (e 6) w) : W7 k7_20 Q e w := by
  unfold m7_20 at h
  refine seq_ok' (by kernel_rfl) ?_
  have hN' : ∀ e w, (m7_21 R K1 (e 0) (e 3) (e 5) (e 6) w) → (thenE (W7 k7_21 Q) Q) .normal e w := fun e w h => then_N (s7_21 (R := R) (Q := Q) (K1 := K1) hN e w h)
  have hX0 : ∀ e w, (m7_6 R (e 3) (e 5) w) → (thenE (W7 k7_21 Q) Q) (.exit 0) e w := fun e w h => then_X (hX0 e w h)
  have hN := hN'
  refine seq_ok' (by kernel_rfl) ?_
  have hN' : ∀ e w, (m7_23 R K1 (e 0) (e 3) (e 5) (e 6) (e 26) w) → (thenE (W7 k7_23 (thenE (W7 k7_21 Q) Q)) (thenE (W7 k7_21 Q) Q)) .normal e w := fun e w h => then_N (s7_23 (R := R) (Q := (thenE (W7 k7_21 Q) Q)) (K1 := K1) hN hX0 e w h)
  have hN := hN'
  exact region_ok 7 (fun e w => m7_23 R K1 (e 0) (e 3) (e 5) (e 6) (e 26) w) (by kernel_rfl) (kcast (by kernel_rfl) h) hN (by kernel_rfl)
theorem s7_19 {R : Value → World → Prop} {Q : Exit → Env → World → Prop} (hN : ∀ e w, (m7_6 R (e 3) (e 5) w) → Q .normal e w) (e : Env) (w : World) (h : m7_19 R (e 0) (e 3) (e 5) (e 6) w) : W7 k7_19 Q e w := by
  unfold m7_19 at h
  refine block_ok 0 (by kernel_rfl) ?_
  have hX0 : ∀ e w, (m7_6 R (e 3) (e 5) w) → (inBlockE 0 Q) (.exit 0) e w := fun e w h => inBlock_same (Q := Q) 0 (hN e w h)
  refine loop_ok' (fun (e : Env) => (e 5, e 6)) [0, 3] (by kernel_rfl) (by kernel_rfl) h (fun K e' w' hk h' => ?_)
  have r0 : e' 0 = e 0 := hk 0 (by decide)
  have r3 : e' 3 = e 3 := hk 3 (by decide)
  have hX0 : ∀ e w, (m7_6 R (e 3) (e 5) w) → (thenE (fun (e : Env) w => K ((e 5), (e 6)) w) (inBlockE 0 Q)) (.exit 0) e w := fun e w h => then_X (hX0 e w h)
  exact s7_20 (R := R) (Q := (thenE (fun (e : Env) w => K ((e 5), (e 6)) w) (inBlockE 0 Q))) (K1 := K) (fun _ _ h => then_N h) hX0 e' w' (by rw [r0, r3]; exact h')
theorem s7_5 {R : Value → World → Prop} {Q : Exit → Env → World → Prop} (hR : ∀ e w, (R (e 2) w) → Q .ret e w) (e : Env) (w : World) (h : m7_5 R (e 0) (e 3) (e 5) w) : W7 k7_5 Q e w := by
  unfold m7_5 at h
  refine seq_ok' (by kernel_rfl) ?_
  have hN' : ∀ e w, (m7_6 R (e 3) (e 5) w) → (thenE (W7 k7_6 Q) Q) .normal e w := fun e w h => then_N (s7_6 (R := R) (Q := Q) hR e w h)
  have hN := hN'
  refine seq_ok' (by kernel_rfl) ?_
  have hN' : ∀ e w, (m7_19 R (e 0) (e 3) (e 5) (e 6) w) → (thenE (W7 k7_19 (thenE (W7 k7_6 Q) Q)) (thenE (W7 k7_6 Q) Q)) .normal e w := fun e w h => then_N (s7_19 (R := R) (Q := (thenE (W7 k7_6 Q) Q)) hN e w h)
  have hN := hN'
  exact region_ok 6 (fun e w => m7_19 R (e 0) (e 3) (e 5) (e 6) w) (by kernel_rfl) (kcast (by kernel_rfl) h) hN (by kernel_rfl)
theorem s7_4 {R : Value → World → Prop} {Q : Exit → Env → World → Prop} (hR : ∀ e w, (R (e 2) w) → Q .ret e w) (e : Env) (w : World) (h : m7_4 R (e 0) (e 3) w) : W7 k7_4 Q e w := by
  unfold m7_4 at h
  refine seq_ok' (by kernel_rfl) ?_
  have hN' : ∀ e w, (m7_5 R (e 0) (e 3) (e 5) w) → (thenE (W7 k7_5 Q) Q) .normal e w := fun e w h => then_N (s7_5 (R := R) (Q := Q) hR e w h)
  have hN := hN'
  exact region_ok 5 (fun e w => m7_5 R (e 0) (e 3) (e 5) w) (by kernel_rfl) (kcast (by kernel_rfl) h) hN (by kernel_rfl)
theorem s7_24 {R : Value → World → Prop} {Q : Exit → Env → World → Prop} (hN : ∀ e w, (m7_4 R (e 0) (e 3) w) → Q .normal e w) (hR : ∀ e w, (R (e 2) w) → Q .ret e w) (e : Env) (w : World) (h : m7_24 R (e 0) (e 3) (e 22) w) : W7 k7_24 Q e w := by
  unfold m7_24 at h
  refine cond_ok (Operand.tmp 22) (by kernel_rfl) h (fun h1 => ?_) (fun h1 => ?_)
  · refine seq_ok' (by kernel_rfl) ?_
    have hN' : ∀ e w, (m7_25 R (e 2) w) → (thenE (W7 k7_25 Q) Q) .normal e w := fun e w h => then_N (s7_25 (R := R) (Q := Q) hR e w h)
    have hN := hN'
    exact region_ok 4 (fun e w => m7_25 R (e 2) w) (by kernel_rfl) (kcast (by kernel_rfl) h1) hN (by kernel_rfl)
  · exact skip_ok (by kernel_rfl) (hN _ _ h1)
theorem s7_3 {R : Value → World → Prop} {Q : Exit → Env → World → Prop} (hR : ∀ e w, (R (e 2) w) → Q .ret e w) (e : Env) (w : World) (h : m7_3 R (e 0) (e 3) (e 4) w) : W7 k7_3 Q e w := by
  unfold m7_3 at h
  refine seq_ok' (by kernel_rfl) ?_
  have hN' : ∀ e w, (m7_4 R (e 0) (e 3) w) → (thenE (W7 k7_4 Q) Q) .normal e w := fun e w h => then_N (s7_4 (R := R) (Q := Q) hR e w h)
  have hR : ∀ e w, (R (e 2) w) → (thenE (W7 k7_4 Q) Q) .ret e w := fun e w h => then_R (hR e w h)
  have hN := hN'
  refine seq_ok' (by kernel_rfl) ?_
  have hN' : ∀ e w, (m7_24 R (e 0) (e 3) (e 22) w) → (thenE (W7 k7_24 (thenE (W7 k7_4 Q) Q)) (thenE (W7 k7_4 Q) Q)) .normal e w := fun e w h => then_N (s7_24 (R := R) (Q := (thenE (W7 k7_4 Q) Q)) hN hR e w h)
  have hN := hN'
  exact region_ok 3 (fun e w => m7_24 R (e 0) (e 3) (e 22) w) (by kernel_rfl) (kcast (by kernel_rfl) h) hN (by kernel_rfl)
theorem s7_2 {R : Value → World → Prop} {Q : Exit → Env → World → Prop} (hR : ∀ e w, (R (e 2) w) → Q .ret e w) (e : Env) (w : World) (h : m7_2 R (e 0) w) : W7 k7_2 Q e w := by
  unfold m7_2 at h
  refine seq_ok' (by kernel_rfl) ?_
  have hN' : ∀ e w, (m7_3 R (e 0) (e 3) (e 4) w) → (thenE (W7 k7_3 Q) Q) .normal e w := fun e w h => then_N (s7_3 (R := R) (Q := Q) hR e w h)
  have hN := hN'
  exact region_ok 2 (fun e w => m7_3 R (e 0) (e 3) (e 4) w) (by kernel_rfl) (kcast (by kernel_rfl) h) hN (by kernel_rfl)
theorem s7_1 {R : Value → World → Prop} {Q : Exit → Env → World → Prop} (hR : ∀ e w, (R (e 2) w) → Q .ret e w) (e : Env) (w : World) (h : m7_1 R (e 0) w) : W7 k7_1 Q e w := by
  unfold m7_1 at h
  refine seq_ok' (by kernel_rfl) ?_
  have hN' : ∀ e w, (m7_2 R (e 0) w) → (thenE (W7 k7_2 Q) Q) .normal e w := fun e w h => then_N (s7_2 (R := R) (Q := Q) hR e w h)
  have hN := hN'
  exact region_ok 1 (fun e w => m7_2 R (e 0) w) (by kernel_rfl) (kcast (by kernel_rfl) h) hN (by kernel_rfl)
theorem s7_0 {R : Value → World → Prop} {Q : Exit → Env → World → Prop} (hR : ∀ e w, (R (e 2) w) → Q .ret e w) (e : Env) (w : World) (h : m7_0 R (e 0) w) : W7 k7_0 Q e w := by
  unfold m7_0 at h
  refine seq_ok' (by kernel_rfl) ?_
  have hN' : ∀ e w, (m7_1 R (e 0) w) → (thenE (W7 k7_1 Q) Q) .normal e w := fun e w h => then_N (s7_1 (R := R) (Q := Q) hR e w h)
  have hN := hN'
  exact region_ok 0 (fun e w => m7_1 R (e 0) w) (by kernel_rfl) (kcast (by kernel_rfl) h) hN (by kernel_rfl)
abbrev m7 (R : Value → World → Prop) (l0 : Value) (w : World) : Prop := m7_0 R l0 w
theorem s7 (l0 : Value) {R : Value → World → Prop} {w : World} (h : m7 R l0 w) :
    Calls Try.prog 7 #[l0] w fun e w' => ∃ v, e = .returned v ∧ R v w' :=
  calls_of_cwp (st := (fun i => 0)) (c := k7_0) (by kernel_rfl) Try.func7 (by kernel_rfl) (Nat.le_of_ble_eq_true (by kernel_rfl)) (by kernel_rfl)
    (s7_0 (R := R) (Q := endE Try.prog Try.f7 R) (fun e w h => kcast (by kernel_rfl) h) (argsE #[l0]) w (kcast (by kernel_rfl) h))
end Go.Proofs.Ytcfdalmnhgiaeaa.M
