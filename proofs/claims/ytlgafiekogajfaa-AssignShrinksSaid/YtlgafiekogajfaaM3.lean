/- What functions' texts ask of their ends, told over values that have names; printed by a program of this work. -/
import Derived.Test.YtlgafiekogajfaaFw
import Derived.Test.YtlgafiekogajfaaProg
namespace Go.Proofs.Ytlgafiekogajfaa.M
open Go.Proofs.Ytlgafiekogajfaa.F
set_option linter.unusedVariables false
set_option maxRecDepth 100000
/-! ### headgate/headgatelaw09.AssignKeeps -/
def m6_29 (R : Value → World → Prop) (t6 : Value) (w : World) : Prop :=
  R t6 w
def m6_27 (R : Value → World → Prop) (t6 : Value) (w : World) : Prop :=
  R t6 w
def m6_20 (R : Value → World → Prop) (K1 : Value → World → Prop) (K2 : (Value × Value × Value) → World → Prop) (parts0 : Value) (old2 : Value) (l7 : Value) (m9 : Value) (i10 : Value) (had11 : Value) (kept12 : Value) (p13 : Value) (w : World) : Prop :=
  valP Try.prog (binS BinOp.add 3 (Operand.tmp 63) (Operand.const (Value.int IntKind.i64 1)) p13 (Value.int IntKind.i64 1)) w fun t64 w =>
  K2 (had11, kept12, t64) w
def m6_23 (R : Value → World → Prop) (K1 : Value → World → Prop) (K2 : (Value × Value × Value) → World → Prop) (parts0 : Value) (old2 : Value) (l7 : Value) (m9 : Value) (i10 : Value) (had11 : Value) (kept12 : Value) (p13 : Value) (t84 : Value) (w : World) : Prop :=
  condP t84
  (valP Try.prog (binS BinOp.add 3 (Operand.tmp 85) (Operand.const (Value.int IntKind.i64 1)) kept12 (Value.int IntKind.i64 1)) w fun t86 w =>
  m6_20 R K1 K2 parts0 old2 l7 m9 i10 had11 t86 p13 w)
  (m6_20 R K1 K2 parts0 old2 l7 m9 i10 had11 kept12 p13 w)
def m6_22 (R : Value → World → Prop) (K1 : Value → World → Prop) (K2 : (Value × Value × Value) → World → Prop) (parts0 : Value) (old2 : Value) (l7 : Value) (m9 : Value) (i10 : Value) (had11 : Value) (kept12 : Value) (p13 : Value) (w : World) : Prop :=
  valQ Try.prog (Instr.indexAt 22 l7 p13) w fun t78 =>
  valQ Try.prog (Instr.loadAt 3 t78) w fun t79 =>
  valQ Try.prog (Instr.indexAt 22 m9 i10) w fun t82 =>
  valQ Try.prog (Instr.loadAt 3 t82) w fun t83 =>
  valQ Try.prog (binS BinOp.eql 3 (Operand.tmp 79) (Operand.tmp 83) t79 t83) w fun t84 =>
  anyDraw w fun w =>
  m6_23 R K1 K2 parts0 old2 l7 m9 i10 had11 kept12 p13 t84 w
def m6_21 (R : Value → World → Prop) (K1 : Value → World → Prop) (K2 : (Value × Value × Value) → World → Prop) (parts0 : Value) (old2 : Value) (l7 : Value) (m9 : Value) (i10 : Value) (had11 : Value) (kept12 : Value) (p13 : Value) (t73 : Value) (w : World) : Prop :=
  condP t73
  (valP Try.prog (binS BinOp.add 3 (Operand.tmp 74) (Operand.const (Value.int IntKind.i64 1)) had11 (Value.int IntKind.i64 1)) w fun t75 w =>
  m6_22 R K1 K2 parts0 old2 l7 m9 i10 t75 kept12 p13 w)
  (m6_20 R K1 K2 parts0 old2 l7 m9 i10 had11 kept12 p13 w)
def m6_19 (R : Value → World → Prop) (K1 : Value → World → Prop) (K2 : (Value × Value × Value) → World → Prop) (parts0 : Value) (old2 : Value) (l7 : Value) (m9 : Value) (i10 : Value) (had11 : Value) (kept12 : Value) (p13 : Value) (w : World) : Prop :=
  valQ Try.prog (Instr.indexAt 22 old2 p13) w fun t67 =>
  valQ Try.prog (Instr.loadAt 3 t67) w fun t68 =>
  valQ Try.prog (Instr.indexAt 22 m9 i10) w fun t71 =>
  valQ Try.prog (Instr.loadAt 3 t71) w fun t72 =>
  valQ Try.prog (binS BinOp.eql 3 (Operand.tmp 68) (Operand.tmp 72) t68 t72) w fun t73 =>
  anyDraw w fun w =>
  m6_21 R K1 K2 parts0 old2 l7 m9 i10 had11 kept12 p13 t73 w
def m6_16 (R : Value → World → Prop) (K1 : Value → World → Prop) (t6 : Value) (w : World) : Prop :=
  R t6 w
def m6_12 (R : Value → World → Prop) (K1 : Value → World → Prop) (parts0 : Value) (old2 : Value) (l7 : Value) (m9 : Value) (i10 : Value) (w : World) : Prop :=
  valP Try.prog (binS BinOp.add 3 (Operand.tmp 52) (Operand.const (Value.int IntKind.i64 1)) i10 (Value.int IntKind.i64 1)) w fun t53 w =>
  K1 t53 w
def m6_15 (R : Value → World → Prop) (K1 : Value → World → Prop) (parts0 : Value) (old2 : Value) (l7 : Value) (m9 : Value) (i10 : Value) (t94 : Value) (w : World) : Prop :=
  condP t94
  (m6_16 R K1 (Value.bool false) w)
  (m6_12 R K1 parts0 old2 l7 m9 i10 w)
def m6_14 (R : Value → World → Prop) (K1 : Value → World → Prop) (parts0 : Value) (old2 : Value) (l7 : Value) (m9 : Value) (i10 : Value) (had11 : Value) (kept12 : Value) (w : World) : Prop :=
  builtinP Try.prog Builtin.len #[22] 3 #[false] #[m9] w fun t91 w =>
  valP Try.prog (binS BinOp.quo 3 (Operand.tmp 89) (Operand.tmp 91) parts0 t91) w fun t92 w =>
  builtinP Try.prog Builtin.min #[3, 3] 3 #[false, false] #[had11, t92] w fun t93 w =>
  valP Try.prog (binS BinOp.lss 3 (Operand.tmp 87) (Operand.tmp 93) kept12 t93) w fun t94 w =>
  m6_15 R K1 parts0 old2 l7 m9 i10 t94 w
def m6_24 (R : Value → World → Prop) (K1 : Value → World → Prop) (K2 : (Value × Value × Value) → World → Prop) (parts0 : Value) (old2 : Value) (l7 : Value) (m9 : Value) (i10 : Value) (had11 : Value) (kept12 : Value) (p13 : Value) (t62 : Value) (w : World) : Prop :=
  condP t62
  (m6_19 R K1 K2 parts0 old2 l7 m9 i10 had11 kept12 p13 w)
  (m6_14 R K1 parts0 old2 l7 m9 i10 had11 kept12 w)
def m6_18 (R : Value → World → Prop) (K1 : Value → World → Prop) (K2 : (Value × Value × Value) → World → Prop) (parts0 : Value) (old2 : Value) (l7 : Value) (m9 : Value) (i10 : Value) (had11 : Value) (kept12 : Value) (p13 : Value) (w : World) : Prop :=
  valP Try.prog (binS BinOp.lss 3 (Operand.tmp 54) (Operand.tmp 55) p13 parts0) w fun t56 w =>
  condP t56
  (builtinP Try.prog Builtin.len #[22] 3 #[false] #[old2] w fun t60 w =>
  valP Try.prog (binS BinOp.lss 3 (Operand.tmp 58) (Operand.tmp 60) p13 t60) w fun t61 w =>
  pickP t56 t61 (Value.bool false) fun t62 =>
  m6_24 R K1 K2 parts0 old2 l7 m9 i10 had11 kept12 p13 t62 w)
  (pickP t56 undef (Value.bool false) fun t62 =>
  m6_24 R K1 K2 parts0 old2 l7 m9 i10 had11 kept12 p13 t62 w)
def m6_17 (R : Value → World → Prop) (K1 : Value → World → Prop) (parts0 : Value) (old2 : Value) (l7 : Value) (m9 : Value) (i10 : Value) (had11 : Value) (kept12 : Value) (p13 : Value) (w : World) : Prop :=
  loopP (fun (K2 : (Value × Value × Value) → World → Prop) (s : Value × Value × Value) w => m6_18 R K1 K2 parts0 old2 l7 m9 i10 s.1 s.2.1 s.2.2 w) (had11, kept12, p13) w
def m6_13 (R : Value → World → Prop) (K1 : Value → World → Prop) (parts0 : Value) (old2 : Value) (l7 : Value) (m9 : Value) (i10 : Value) (had11 : Value) (kept12 : Value) (w : World) : Prop :=
  m6_17 R K1 parts0 old2 l7 m9 i10 had11 kept12 (Value.int IntKind.i64 0) w
def m6_11 (R : Value → World → Prop) (K1 : Value → World → Prop) (parts0 : Value) (old2 : Value) (l7 : Value) (m9 : Value) (i10 : Value) (w : World) : Prop :=
  m6_13 R K1 parts0 old2 l7 m9 i10 (Value.int IntKind.i64 0) (Value.int IntKind.i64 0) w
def m6_8 (R : Value → World → Prop) (t6 : Value) (w : World) : Prop :=
  R t6 w
def m6_7 (R : Value → World → Prop) (w : World) : Prop :=
  callP Try.prog (fnV 14) #[] w fun t95 w =>
  m6_8 R t95 w
def m6_25 (R : Value → World → Prop) (K1 : Value → World → Prop) (parts0 : Value) (old2 : Value) (l7 : Value) (m9 : Value) (i10 : Value) (t51 : Value) (w : World) : Prop :=
  condP t51
  (m6_11 R K1 parts0 old2 l7 m9 i10 w)
  (m6_7 R w)
def m6_10 (R : Value → World → Prop) (K1 : Value → World → Prop) (parts0 : Value) (old2 : Value) (l7 : Value) (m9 : Value) (i10 : Value) (w : World) : Prop :=
  builtinP Try.prog Builtin.len #[22] 3 #[false] #[m9] w fun t50 w =>
  valP Try.prog (binS BinOp.lss 3 (Operand.tmp 48) (Operand.tmp 50) i10 t50) w fun t51 w =>
  m6_25 R K1 parts0 old2 l7 m9 i10 t51 w
def m6_9 (R : Value → World → Prop) (parts0 : Value) (old2 : Value) (l7 : Value) (m9 : Value) (i10 : Value) (w : World) : Prop :=
  loopP (fun (K1 : Value → World → Prop) (s : Value) w => m6_10 R K1 parts0 old2 l7 m9 s w) i10 w
def m6_6 (R : Value → World → Prop) (parts0 : Value) (old2 : Value) (l7 : Value) (m9 : Value) (w : World) : Prop :=
  m6_9 R parts0 old2 l7 m9 (Value.int IntKind.i64 0) w
def m6_26 (R : Value → World → Prop) (parts0 : Value) (old2 : Value) (l7 : Value) (m9 : Value) (t47 : Value) (w : World) : Prop :=
  condP t47
  (m6_27 R (Value.bool false) w)
  (m6_6 R parts0 old2 l7 m9 w)
def m6_5 (R : Value → World → Prop) (parts0 : Value) (old2 : Value) (l7 : Value) (m9 : Value) (w : World) : Prop :=
  builtinP Try.prog Builtin.len #[22] 3 #[false] #[l7] w fun t45 w =>
  valP Try.prog (binS BinOp.neq 3 (Operand.tmp 45) (Operand.tmp 46) t45 parts0) w fun t47 w =>
  m6_26 R parts0 old2 l7 m9 t47 w
def m6_28 (R : Value → World → Prop) (parts0 : Value) (old2 : Value) (l7 : Value) (e8 : Value) (m9 : Value) (t33 : Value) (w : World) : Prop :=
  condP t33
  (builtinP Try.prog Builtin.len #[22] 3 #[false] #[l7] w fun t35 w =>
  valP Try.prog (binS BinOp.eql 3 (Operand.tmp 35) (Operand.const (Value.int IntKind.i64 0)) t35 (Value.int IntKind.i64 0)) w fun t36 w =>
  condP t36
  (pickP t36 (Value.bool true) undef fun t43 =>
  m6_29 R t43 w)
  (valP Try.prog (binS BinOp.eql 24 (Operand.tmp 38) (Operand.const (Value.int IntKind.i64 0)) e8 (Value.int IntKind.i64 0)) w fun t39 w =>
  condP t39
  (callP Try.prog (fnV 14) #[] w fun t41 w =>
  pickP t39 t41 (Value.bool false) fun t42 =>
  pickP t36 (Value.bool true) t42 fun t43 =>
  m6_29 R t43 w)
  (pickP t39 undef (Value.bool false) fun t42 =>
  pickP t36 (Value.bool true) t42 fun t43 =>
  m6_29 R t43 w)))
  (m6_5 R parts0 old2 l7 m9 w)
def m6_4 (R : Value → World → Prop) (parts0 : Value) (old2 : Value) (l7 : Value) (e8 : Value) (m9 : Value) (w : World) : Prop :=
  valP Try.prog (binS BinOp.neq 24 (Operand.tmp 27) (Operand.const (Value.int IntKind.i64 0)) e8 (Value.int IntKind.i64 0)) w fun t28 w =>
  condP t28
  (pickP t28 (Value.bool true) undef fun t33 =>
  m6_28 R parts0 old2 l7 e8 m9 t33 w)
  (builtinP Try.prog Builtin.len #[22] 3 #[false] #[m9] w fun t31 w =>
  valP Try.prog (binS BinOp.eql 3 (Operand.tmp 31) (Operand.const (Value.int IntKind.i64 0)) t31 (Value.int IntKind.i64 0)) w fun t32 w =>
  pickP t28 (Value.bool true) t32 fun t33 =>
  m6_28 R parts0 old2 l7 e8 m9 t33 w)
def m6_3 (R : Value → World → Prop) (parts0 : Value) (members1 : Value) (old2 : Value) (l7 : Value) (e8 : Value) (w : World) : Prop :=
  callP Try.prog (fnV 18) #[members1] w fun t26 w =>
  m6_4 R parts0 old2 l7 e8 t26 w
def m6_2 (R : Value → World → Prop) (parts0 : Value) (members1 : Value) (old2 : Value) (w : World) : Prop :=
  callP Try.prog (fnV 15) #[parts0, members1, old2] w fun t22 w =>
  valP Try.prog (Instr.extract t22 0) w fun t23 w =>
  valP Try.prog (Instr.extract t22 1) w fun t24 w =>
  m6_3 R parts0 members1 old2 t23 t24 w
def m6_1 (R : Value → World → Prop) (parts0 : Value) (members1 : Value) (old2 : Value) (w : World) : Prop :=
  callP Try.prog (fnV 10) #[members1] w fun t15 w =>
  callP Try.prog (fnV 10) #[old2] w fun t17 w =>
  m6_2 R parts0 t15 t17 w
def m6_0 (R : Value → World → Prop) (parts0 : Value) (members1 : Value) (old2 : Value) (w : World) : Prop :=
  m6_1 R parts0 members1 old2 w
abbrev W6 := cwp Try.prog (fun i => cond (Nat.beq i 17) 1 (cond (Nat.beq i 15) 1 (0)))
noncomputable def k6_0 : Code := (bodyOf Try.f6)
noncomputable def k6_1 : Code := (c2 k6_0)
noncomputable def k6_2 : Code := (c2 k6_1)
noncomputable def k6_3 : Code := (c2 k6_2)
noncomputable def k6_4 : Code := (c2 k6_3)
noncomputable def k6_5 : Code := (c2 k6_4)
noncomputable def k6_6 : Code := (c2 k6_5)
noncomputable def k6_7 : Code := (c2 k6_6)
noncomputable def k6_8 : Code := (c2 k6_7)
noncomputable def k6_9 : Code := (c2 (c1 k6_6))
noncomputable def k6_10 : Code := (c1 (c1 k6_9))
noncomputable def k6_11 : Code := (c2 k6_10)
noncomputable def k6_12 : Code := (c2 k6_11)
noncomputable def k6_13 : Code := (c2 (c1 (c1 k6_11)))
noncomputable def k6_14 : Code := (c2 k6_13)
noncomputable def k6_15 : Code := (c2 k6_14)
noncomputable def k6_16 : Code := (c2 (c1 k6_15))
noncomputable def k6_17 : Code := (c2 (c1 k6_13))
noncomputable def k6_18 : Code := (c1 (c1 k6_17))
noncomputable def k6_19 : Code := (c2 k6_18)
noncomputable def k6_20 : Code := (c2 k6_19)
noncomputable def k6_21 : Code := (c2 (c1 (c1 k6_19)))
noncomputable def k6_22 : Code := (c2 (c1 k6_21))
noncomputable def k6_23 : Code := (c2 k6_22)
noncomputable def k6_24 : Code := (c2 (c1 k6_18))
noncomputable def k6_25 : Code := (c2 (c1 k6_10))
noncomputable def k6_26 : Code := (c2 (c1 k6_5))
noncomputable def k6_27 : Code := (c2 (c1 k6_26))
noncomputable def k6_28 : Code := (c2 (c1 k6_4))
noncomputable def k6_29 : Code := (c2 (c1 k6_28))
theorem s6_29 {R : Value → World → Prop} {Q : Exit → Env → World → Prop} (hR : ∀ e w, (R (e 6) w) → Q .ret e w) (e : Env) (w : World) (h : m6_29 R (e 6) w) : W6 k6_29 Q e w := by
  unfold m6_29 at h
  exact ret_ok (by kernel_rfl) (hR _ _ h)
theorem s6_27 {R : Value → World → Prop} {Q : Exit → Env → World → Prop} (hR : ∀ e w, (R (e 6) w) → Q .ret e w) (e : Env) (w : World) (h : m6_27 R (e 6) w) : W6 k6_27 Q e w := by
  unfold m6_27 at h
  exact ret_ok (by kernel_rfl) (hR _ _ h)
theorem s6_20 {R : Value → World → Prop} {K1 : Value → World → Prop} {K2 : (Value × Value × Value) → World → Prop} {Q : Exit → Env → World → Prop} (hN : ∀ e w, (K2 ((e 11), (e 12), (e 13)) w) → Q .normal e w) (e : Env) (w : World) (h : m6_20 R K1 K2 (e 0) (e 2) (e 7) (e 9) (e 10) (e 11) (e 12) (e 13) w) : W6 k6_20 Q e w := by
  unfold m6_20 at h
  exact region_ok 14 (fun e w => K2 ((e 11), (e 12), (e 13)) w) (by kernel_rfl) (kcast (by kernel_rfl) h) hN (by kernel_rfl)
theorem s6_23 {R : Value → World → Prop} {K1 : Value → World → Prop} {K2 : (Value × Value × Value) → World → Prop} {Q : Exit → Env → World → Prop} (hN : ∀ e w, (m6_20 R K1 K2 (e 0) (e 2) (e 7) (e 9) (e 10) (e 11) (e 12) (e 13) w) → Q .normal e w) (e : Env) (w : World) (h : m6_23 R K1 K2 (e 0) (e 2) (e 7) (e 9) (e 10) (e 11) (e 12) (e 13) (e 84) w) : W6 k6_23 Q e w := by
  unfold m6_23 at h
  refine cond_ok (Operand.tmp 84) (by kernel_rfl) h (fun h1 => ?_) (fun h1 => ?_)
  · exact region_ok 18 (fun e w => m6_20 R K1 K2 (e 0) (e 2) (e 7) (e 9) (e 10) (e 11) (e 12) (e 13) w) (by kernel_rfl) (kcast (by kernel_rfl) h1) hN (by kernel_rfl)
  · exact skip_ok (by kernel_rfl) (hN _ _ h1)
theorem s6_22 {R : Value → World → Prop} {K1 : Value → World → Prop} {K2 : (Value × Value × Value) → World → Prop} {Q : Exit → Env → World → Prop} (hN : ∀ e w, (m6_20 R K1 K2 (e 0) (e 2) (e 7) (e 9) (e 10) (e 11) (e 12) (e 13) w) → Q .normal e w) (e : Env) (w : World) (h : m6_22 R K1 K2 (e 0) (e 2) (e 7) (e 9) (e 10) (e 11) (e 12) (e 13) w) : W6 k6_22 Q e w := by
  unfold m6_22 at h
  refine seq_ok' (by kernel_rfl) ?_
  have hN' : ∀ e w, (m6_23 R K1 K2 (e 0) (e 2) (e 7) (e 9) (e 10) (e 11) (e 12) (e 13) (e 84) w) → (thenE (W6 k6_23 Q) Q) .normal e w := fun e w h => then_N (s6_23 (R := R) (Q := Q) (K1 := K1) (K2 := K2) hN e w h)
  have hN := hN'
  exact quiet_ok 17 (fun e w => m6_23 R K1 K2 (e 0) (e 2) (e 7) (e 9) (e 10) (e 11) (e 12) (e 13) (e 84) w) (by kernel_rfl) (by kernel_rfl) (by kernel_rfl) (kcast (by kernel_rfl) h) hN (by kernel_rfl)
theorem s6_21 {R : Value → World → Prop} {K1 : Value → World → Prop} {K2 : (Value × Value × Value) → World → Prop} {Q : Exit → Env → World → Prop} (hN : ∀ e w, (m6_20 R K1 K2 (e 0) (e 2) (e 7) (e 9) (e 10) (e 11) (e 12) (e 13) w) → Q .normal e w) (e : Env) (w : World) (h : m6_21 R K1 K2 (e 0) (e 2) (e 7) (e 9) (e 10) (e 11) (e 12) (e 13) (e 73) w) : W6 k6_21 Q e w := by
  unfold m6_21 at h
  refine cond_ok (Operand.tmp 73) (by kernel_rfl) h (fun h1 => ?_) (fun h1 => ?_)
  · refine seq_ok' (by kernel_rfl) ?_
    have hN' : ∀ e w, (m6_22 R K1 K2 (e 0) (e 2) (e 7) (e 9) (e 10) (e 11) (e 12) (e 13) w) → (thenE (W6 k6_22 Q) Q) .normal e w := fun e w h => then_N (s6_22 (R := R) (Q := Q) (K1 := K1) (K2 := K2) hN e w h)
    have hN := hN'
    exact region_ok 16 (fun e w => m6_22 R K1 K2 (e 0) (e 2) (e 7) (e 9) (e 10) (e 11) (e 12) (e 13) w) (by kernel_rfl) (kcast (by kernel_rfl) h1) hN (by kernel_rfl)
  · exact skip_ok (by kernel_rfl) (hN _ _ h1)
theorem s6_19 {R : Value → World → Prop} {K1 : Value → World → Prop} {K2 : (Value × Value × Value) → World → Prop} {Q : Exit → Env → World → Prop} (hN : ∀ e w, (K2 ((e 11), (e 12), (e 13)) w) → Q .normal e w) (e : Env) (w : World) (h : m6_19 R K1 K2 (e 0) (e 2) (e 7) (e 9) (e 10) (e 11) (e 12) (e 13) w) : W6 k6_19 Q e w := by
  unfold m6_19 at h
  refine seq_ok' (by kernel_rfl) ?_
  have hN' : ∀ e w, (m6_20 R K1 K2 (e 0) (e 2) (e 7) (e 9) (e 10) (e 11) (e 12) (e 13) w) → (thenE (W6 k6_20 Q) Q) .normal e w := fun e w h => then_N (s6_20 (R := R) (Q := Q) (K1 := K1) (K2 := K2) hN e w h)
  have hN := hN'
  refine block_ok 3 (by kernel_rfl) ?_
  have hN : ∀ e w, (m6_20 R K1 K2 (e 0) (e 2) (e 7) (e 9) (e 10) (e 11) (e 12) (e 13) w) → (inBlockE 3 (thenE (W6 k6_20 Q) Q)) .normal e w := fun e w h => block_N (hN e w h)
  refine seq_ok' (by kernel_rfl) ?_
  have hN' : ∀ e w, (m6_21 R K1 K2 (e 0) (e 2) (e 7) (e 9) (e 10) (e 11) (e 12) (e 13) (e 73) w) → (thenE (W6 k6_21 (inBlockE 3 (thenE (W6 k6_20 Q) Q))) (inBlockE 3 (thenE (W6 k6_20 Q) Q))) .normal e w := fun e w h => then_N (s6_21 (R := R) (Q := (inBlockE 3 (thenE (W6 k6_20 Q) Q))) (K1 := K1) (K2 := K2) hN e w h)
  have hN := hN'
  exact quiet_ok 15 (fun e w => m6_21 R K1 K2 (e 0) (e 2) (e 7) (e 9) (e 10) (e 11) (e 12) (e 13) (e 73) w) (by kernel_rfl) (by kernel_rfl) (by kernel_rfl) (kcast (by kernel_rfl) h) hN (by kernel_rfl)
theorem s6_16 {R : Value → World → Prop} {K1 : Value → World → Prop} {Q : Exit → Env → World → Prop} (hR : ∀ e w, (R (e 6) w) → Q .ret e w) (e : Env) (w : World) (h : m6_16 R K1 (e 6) w) : W6 k6_16 Q e w := by
  unfold m6_16 at h
  exact ret_ok (by kernel_rfl) (hR _ _ h)
theorem s6_12 {R : Value → World → Prop} {K1 : Value → World → Prop} {Q : Exit → Env → World → Prop} (hN : ∀ e w, (K1 (e 10) w) → Q .normal e w) (e : Env) (w : World) (h : m6_12 R K1 (e 0) (e 2) (e 7) (e 9) (e 10) w) : W6 k6_12 Q e w := by
  unfold m6_12 at h
  exact region_ok 10 (fun e w => K1 (e 10) w) (by kernel_rfl) (kcast (by kernel_rfl) h) hN (by kernel_rfl)
theorem s6_15 {R : Value → World → Prop} {K1 : Value → World → Prop} {Q : Exit → Env → World → Prop} (hN : ∀ e w, (m6_12 R K1 (e 0) (e 2) (e 7) (e 9) (e 10) w) → Q .normal e w) (hR : ∀ e w, (R (e 6) w) → Q .ret e w) (e : Env) (w : World) (h : m6_15 R K1 (e 0) (e 2) (e 7) (e 9) (e 10) (e 94) w) : W6 k6_15 Q e w := by
  unfold m6_15 at h
  refine cond_ok (Operand.tmp 94) (by kernel_rfl) h (fun h1 => ?_) (fun h1 => ?_)
  · refine seq_ok' (by kernel_rfl) ?_
    have hN' : ∀ e w, (m6_16 R K1 (e 6) w) → (thenE (W6 k6_16 Q) Q) .normal e w := fun e w h => then_N (s6_16 (R := R) (Q := Q) (K1 := K1) hR e w h)
    have hN := hN'
    exact region_ok 20 (fun e w => m6_16 R K1 (e 6) w) (by kernel_rfl) (kcast (by kernel_rfl) h1) hN (by kernel_rfl)
  · exact skip_ok (by kernel_rfl) (hN _ _ h1)
theorem s6_14 {R : Value → World → Prop} {K1 : Value → World → Prop} {Q : Exit → Env → World → Prop} (hN : ∀ e w, (m6_12 R K1 (e 0) (e 2) (e 7) (e 9) (e 10) w) → Q .normal e w) (hR : ∀ e w, (R (e 6) w) → Q .ret e w) (e : Env) (w : World) (h : m6_14 R K1 (e 0) (e 2) (e 7) (e 9) (e 10) (e 11) (e 12) w) : W6 k6_14 Q e w := by
  unfold m6_14 at h
  refine seq_ok' (by kernel_rfl) ?_
  have hN' : ∀ e w, (m6_15 R K1 (e 0) (e 2) (e 7) (e 9) (e 10) (e 94) w) → (thenE (W6 k6_15 Q) Q) .normal e w := fun e w h => then_N (s6_15 (R := R) (Q := Q) (K1 := K1) hN hR e w h)
  have hN := hN'
  exact region_ok 19 (fun e w => m6_15 R K1 (e 0) (e 2) (e 7) (e 9) (e 10) (e 94) w) (by kernel_rfl) (kcast (by kernel_rfl) h) hN (by kernel_rfl)
theorem s6_24 {R : Value → World → Prop} {K1 : Value → World → Prop} {K2 : (Value × Value × Value) → World → Prop} {Q : Exit → Env → World → Prop} (hN : ∀ e w, (m6_19 R K1 K2 (e 0) (e 2) (e 7) (e 9) (e 10) (e 11) (e 12) (e 13) w) → Q .normal e w) (hX2 : ∀ e w, (m6_14 R K1 (e 0) (e 2) (e 7) (e 9) (e 10) (e 11) (e 12) w) → Q (.exit 2) e w) (e : Env) (w : World) (h : m6_24 R K1 K2 (e 0) (e 2) (e 7) (e 9) (e 10) (e 11) (e 12) (e 13) (e 62) w) : W6 k6_24 Q e w := by
  unfold m6_24 at h
  refine cond_ok (Operand.tmp 62) (by kernel_rfl) h (fun h1 => ?_) (fun h1 => ?_)
  · exact skip_ok (by kernel_rfl) (hN _ _ h1)
  · exact exit_ok 2 (by kernel_rfl) (hX2 _ _ h1)
theorem s6_18 {R : Value → World → Prop} {K1 : Value → World → Prop} {K2 : (Value × Value × Value) → World → Prop} {Q : Exit → Env → World → Prop} (hN : ∀ e w, (K2 ((e 11), (e 12), (e 13)) w) → Q .normal e w) (hX2 : ∀ e w, (m6_14 R K1 (e 0) (e 2) (e 7) (e 9) (e 10) (e 11) (e 12) w) → Q (.exit 2) e w) (e : Env) (w : World) (h : m6_18 R K1 K2 (e 0) (e 2) (e 7) (e 9) (e 10) (e 11) (e 12) (e 13) w) : W6 k6_18 Q e w := by
  unfold m6_18 at h
  refine seq_ok' (by kernel_rfl) ?_
  have hN' : ∀ e w, (m6_19 R K1 K2 (e 0) (e 2) (e 7) (e 9) (e 10) (e 11) (e 12) (e 13) w) → (thenE (W6 k6_19 Q) Q) .normal e w := fun e w h => then_N (s6_19 (R := R) (Q := Q) (K1 := K1) (K2 := K2) hN e w h)
  have hX2 : ∀ e w, (m6_14 R K1 (e 0) (e 2) (e 7) (e 9) (e 10) (e 11) (e 12) w) → (thenE (W6 k6_19 Q) Q) (.exit 2) e w := fun e w h => then_X (hX2 e w h)
  have hN := hN'
  refine seq_ok' (by kernel_rfl) ?_
  have hN' : ∀ e w, (m6_24 R K1 K2 (e 0) (e 2) (e 7) (e 9) (e 10) (e 11) (e 12) (e 13) (e 62) w) → (thenE (W6 k6_24 (thenE (W6 k6_19 Q) Q)) (thenE (W6 k6_19 Q) Q)) .normal e w := fun e w h => then_N (s6_24 (R := R) (Q := (thenE (W6 k6_19 Q) Q)) (K1 := K1) (K2 := K2) hN hX2 e w h)
  have hN := hN'
  exact region_ok 13 (fun e w => m6_24 R K1 K2 (e 0) (e 2) (e 7) (e 9) (e 10) (e 11) (e 12) (e 13) (e 62) w) (by kernel_rfl) (kcast (by kernel_rfl) h) hN (by kernel_rfl)
theorem s6_17 {R : Value → World → Prop} {K1 : Value → World → Prop} {Q : Exit → Env → World → Prop} (hN : ∀ e w, (m6_14 R K1 (e 0) (e 2) (e 7) (e 9) (e 10) (e 11) (e 12) w) → Q .normal e w) (e : Env) (w : World) (h : m6_17 R K1 (e 0) (e 2) (e 7) (e 9) (e 10) (e 11) (e 12) (e 13) w) : W6 k6_17 Q e w := by
  unfold m6_17 at h
  refine block_ok 2 (by kernel_rfl) ?_
  have hX2 : ∀ e w, (m6_14 R K1 (e 0) (e 2) (e 7) (e 9) (e 10) (e 11) (e 12) w) → (inBlockE 2 Q) (.exit 2) e w := fun e w h => inBlock_same (Q := Q) 2 (hN e w h)
  refine loop_ok' (fun (e : Env) => (e 11, e 12, e 13)) [0, 2, 7, 9, 10] (by kernel_rfl) (by kernel_rfl) h (fun K e' w' hk h' => ?_)
  have r0 : e' 0 = e 0 := hk 0 (by decide)
  have r2 : e' 2 = e 2 := hk 2 (by decide)
  have r7 : e' 7 = e 7 := hk 7 (by decide)
  have r9 : e' 9 = e 9 := hk 9 (by decide)
  have r10 : e' 10 = e 10 := hk 10 (by decide)
  have hX2 : ∀ e w, (m6_14 R K1 (e 0) (e 2) (e 7) (e 9) (e 10) (e 11) (e 12) w) → (thenE (fun (e : Env) w => K ((e 11), (e 12), (e 13)) w) (inBlockE 2 Q)) (.exit 2) e w := fun e w h => then_X (hX2 e w h)
  exact s6_18 (R := R) (Q := (thenE (fun (e : Env) w => K ((e 11), (e 12), (e 13)) w) (inBlockE 2 Q))) (K1 := K1) (K2 := K) (fun _ _ h => then_N h) hX2 e' w' (by rw [r0, r2, r7, r9, r10]; exact h')
theorem s6_13 {R : Value → World → Prop} {K1 : Value → World → Prop} {Q : Exit → Env → World → Prop} (hN : ∀ e w, (m6_12 R K1 (e 0) (e 2) (e 7) (e 9) (e 10) w) → Q .normal e w) (hR : ∀ e w, (R (e 6) w) → Q .ret e w) (e : Env) (w : World) (h : m6_13 R K1 (e 0) (e 2) (e 7) (e 9) (e 10) (e 11) (e 12) w) : W6 k6_13 Q e w := by
  unfold m6_13 at h
  refine seq_ok' (by kernel_rfl) ?_
  have hN' : ∀ e w, (m6_14 R K1 (e 0) (e 2) (e 7) (e 9) (e 10) (e 11) (e 12) w) → (thenE (W6 k6_14 Q) Q) .normal e w := fun e w h => then_N (s6_14 (R := R) (Q := Q) (K1 := K1) hN hR e w h)
  have hN := hN'
  refine seq_ok' (by kernel_rfl) ?_
  have hN' : ∀ e w, (m6_17 R K1 (e 0) (e 2) (e 7) (e 9) (e 10) (e 11) (e 12) (e 13) w) → (thenE (W6 k6_17 (thenE (W6 k6_14 Q) Q)) (thenE (W6 k6_14 Q) Q)) .normal e w := fun e w h => then_N (s6_17 (R := R) (Q := (thenE (W6 k6_14 Q) Q)) (K1 := K1) hN e w h)
  have hN := hN'
  exact region_ok 12 (fun e w => m6_17 R K1 (e 0) (e 2) (e 7) (e 9) (e 10) (e 11) (e 12) (e 13) w) (by kernel_rfl) (kcast (by kernel_rfl) h) hN (by kernel_rfl)
theorem s6_11 {R : Value → World → Prop} {K1 : Value → World → Prop} {Q : Exit → Env → World → Prop} (hN : ∀ e w, (K1 (e 10) w) → Q .normal e w) (hR : ∀ e w, (R (e 6) w) → Q .ret e w) (e : Env) (w : World) (h : m6_11 R K1 (e 0) (e 2) (e 7) (e 9) (e 10) w) : W6 k6_11 Q e w := by
  unfold m6_11 at h
  refine seq_ok' (by kernel_rfl) ?_
  have hN' : ∀ e w, (m6_12 R K1 (e 0) (e 2) (e 7) (e 9) (e 10) w) → (thenE (W6 k6_12 Q) Q) .normal e w := fun e w h => then_N (s6_12 (R := R) (Q := Q) (K1 := K1) hN e w h)
  have hR : ∀ e w, (R (e 6) w) → (thenE (W6 k6_12 Q) Q) .ret e w := fun e w h => then_R (hR e w h)
  have hN := hN'
  refine block_ok 1 (by kernel_rfl) ?_
  have hN : ∀ e w, (m6_12 R K1 (e 0) (e 2) (e 7) (e 9) (e 10) w) → (inBlockE 1 (thenE (W6 k6_12 Q) Q)) .normal e w := fun e w h => block_N (hN e w h)
  have hR : ∀ e w, (R (e 6) w) → (inBlockE 1 (thenE (W6 k6_12 Q) Q)) .ret e w := fun e w h => block_R (hR e w h)
  refine seq_ok' (by kernel_rfl) ?_
  have hN' : ∀ e w, (m6_13 R K1 (e 0) (e 2) (e 7) (e 9) (e 10) (e 11) (e 12) w) → (thenE (W6 k6_13 (inBlockE 1 (thenE (W6 k6_12 Q) Q))) (inBlockE 1 (thenE (W6 k6_12 Q) Q))) .normal e w := fun e w h => then_N (s6_13 (R := R) (Q := (inBlockE 1 (thenE (W6 k6_12 Q) Q))) (K1 := K1) hN hR e w h)
  have hN := hN'
  exact region_ok 11 (fun e w => m6_13 R K1 (e 0) (e 2) (e 7) (e 9) (e 10) (e 11) (e 12) w) (by kernel_rfl) (kcast (by kernel_rfl) h) hN (by kernel_rfl)
theorem s6_8 {R : Value → World → Prop} {Q : Exit → Env → World → Prop} (hR : ∀ e w, (R (e 6) w) → Q .ret e w) (e : Env) (w : World) (h : m6_8 R (e 6) w) : W6 k6_8 Q e w := by
  unfold m6_8 at h
  exact ret_ok (by kernel_rfl) (hR _ _ h)
theorem s6_7 {R : Value → World → Prop} {Q : Exit → Env → World → Prop} (hR : ∀ e w, (R (e 6) w) → Q .ret e w) (e : Env) (w : World) (h : m6_7 R w) : W6 k6_7 Q e w := by
  unfold m6_7 at h
  refine seq_ok' (by kernel_rfl) ?_
  have hN' : ∀ e w, (m6_8 R (e 6) w) → (thenE (W6 k6_8 Q) Q) .normal e w := fun e w h => then_N (s6_8 (R := R) (Q := Q) hR e w h)
  have hN := hN'
  exact region_ok 21 (fun e w => m6_8 R (e 6) w) (by kernel_rfl) (kcast (by kernel_rfl) h) hN (by kernel_rfl)
theorem s6_25 {R : Value → World → Prop} {K1 : Value → World → Prop} {Q : Exit → Env → World → Prop} (hN : ∀ e w, (m6_11 R K1 (e 0) (e 2) (e 7) (e 9) (e 10) w) → Q .normal e w) (hX0 : ∀ e w, (m6_7 R w) → Q (.exit 0) e w) (e : Env) (w : World) (h : m6_25 R K1 (e 0) (e 2) (e 7) (e 9) (e 10) (e 51) w) : W6 k6_25 Q e w := by
  unfold m6_25 at h
  refine cond_ok (Operand.tmp 51) (by kernel_rfl) h (fun h1 => ?_) (fun h1 => ?_)
  · exact skip_ok (by kernel_rfl) (hN _ _ h1)
  · exact exit_ok 0 (by kernel_rfl) (hX0 _ _ h1)
theorem s6_10 {R : Value → World → Prop} {K1 : Value → World → Prop} {Q : Exit → Env → World → Prop} (hN : ∀ e w, (K1 (e 10) w) → Q .normal e w) (hR : ∀ e w, (R (e 6) w) → Q .ret e w) (hX0 : ∀ e w, (m6_7 R w) → Q (.exit 0) e w) (e : Env) (w : World) (h : m6_10 R K1 (e 0) (e 2) (e 7) (e 9) (e 10) w) : W6 k6_10 Q e w := by
  unfold m6_10 at h
  refine seq_ok' (by kernel_rfl) ?_
  have hN' : ∀ e w, (m6_11 R K1 (e 0) (e 2) (e 7) (e 9) (e 10) w) → (thenE (W6 k6_11 Q) Q) .normal e w := fun e w h => then_N (s6_11 (R := R) (Q := Q) (K1 := K1) hN hR e w h)
  have hX0 : ∀ e w, (m6_7 R w) → (thenE (W6 k6_11 Q) Q) (.exit 0) e w := fun e w h => then_X (hX0 e w h)
  have hN := hN'
  refine seq_ok' (by kernel_rfl) ?_
  have hN' : ∀ e w, (m6_25 R K1 (e 0) (e 2) (e 7) (e 9) (e 10) (e 51) w) → (thenE (W6 k6_25 (thenE (W6 k6_11 Q) Q)) (thenE (W6 k6_11 Q) Q)) .normal e w := fun e w h => then_N (s6_25 (R := R) (Q := (thenE (W6 k6_11 Q) Q)) (K1 := K1) hN hX0 e w h)
  have hN := hN'
  exact region_ok 9 (fun e w => m6_25 R K1 (e 0) (e 2) (e 7) (e 9) (e 10) (e 51) w) (by kernel_rfl) (kcast (by kernel_rfl) h) hN (by kernel_rfl)
theorem s6_9 {R : Value → World → Prop} {Q : Exit → Env → World → Prop} (hN : ∀ e w, (m6_7 R w) → Q .normal e w) (hR : ∀ e w, (R (e 6) w) → Q .ret e w) (e : Env) (w : World) (h : m6_9 R (e 0) (e 2) (e 7) (e 9) (e 10) w) : W6 k6_9 Q e w := by
  unfold m6_9 at h
  refine block_ok 0 (by kernel_rfl) ?_
  have hX0 : ∀ e w, (m6_7 R w) → (inBlockE 0 Q) (.exit 0) e w := fun e w h => inBlock_same (Q := Q) 0 (hN e w h)
  have hR : ∀ e w, (R (e 6) w) → (inBlockE 0 Q) .ret e w := fun e w h => block_R (hR e w h)
  refine loop_ok' (fun (e : Env) => e 10) [0, 2, 7, 9] (by kernel_rfl) (by kernel_rfl) h (fun K e' w' hk h' => ?_)
  have r0 : e' 0 = e 0 := hk 0 (by decide)
  have r2 : e' 2 = e 2 := hk 2 (by decide)
  have r7 : e' 7 = e 7 := hk 7 (by decide)
  have r9 : e' 9 = e 9 := hk 9 (by decide)
  have hR : ∀ e w, (R (e 6) w) → (thenE (fun (e : Env) w => K (e 10) w) (inBlockE 0 Q)) .ret e w := fun e w h => then_R (hR e w h)
  have hX0 : ∀ e w, (m6_7 R w) → (thenE (fun (e : Env) w => K (e 10) w) (inBlockE 0 Q)) (.exit 0) e w := fun e w h => then_X (hX0 e w h)
  exact s6_10 (R := R) (Q := (thenE (fun (e : Env) w => K (e 10) w) (inBlockE 0 Q))) (K1 := K) (fun _ _ h => then_N h) hR hX0 e' w' (by rw [r0, r2, r7, r9]; exact h')
theorem s6_6 {R : Value → World → Prop} {Q : Exit → Env → World → Prop} (hR : ∀ e w, (R (e 6) w) → Q .ret e w) (e : Env) (w : World) (h : m6_6 R (e 0) (e 2) (e 7) (e 9) w) : W6 k6_6 Q e w := by
  unfold m6_6 at h
  refine seq_ok' (by kernel_rfl) ?_
  have hN' : ∀ e w, (m6_7 R w) → (thenE (W6 k6_7 Q) Q) .normal e w := fun e w h => then_N (s6_7 (R := R) (Q := Q) hR e w h)
  have hR : ∀ e w, (R (e 6) w) → (thenE (W6 k6_7 Q) Q) .ret e w := fun e w h => then_R (hR e w h)
  have hN := hN'
  refine seq_ok' (by kernel_rfl) ?_
  have hN' : ∀ e w, (m6_9 R (e 0) (e 2) (e 7) (e 9) (e 10) w) → (thenE (W6 k6_9 (thenE (W6 k6_7 Q) Q)) (thenE (W6 k6_7 Q) Q)) .normal e w := fun e w h => then_N (s6_9 (R := R) (Q := (thenE (W6 k6_7 Q) Q)) hN hR e w h)
  have hN := hN'
  exact region_ok 8 (fun e w => m6_9 R (e 0) (e 2) (e 7) (e 9) (e 10) w) (by kernel_rfl) (kcast (by kernel_rfl) h) hN (by kernel_rfl)
theorem s6_26 {R : Value → World → Prop} {Q : Exit → Env → World → Prop} (hN : ∀ e w, (m6_6 R (e 0) (e 2) (e 7) (e 9) w) → Q .normal e w) (hR : ∀ e w, (R (e 6) w) → Q .ret e w) (e : Env) (w : World) (h : m6_26 R (e 0) (e 2) (e 7) (e 9) (e 47) w) : W6 k6_26 Q e w := by
  unfold m6_26 at h
  refine cond_ok (Operand.tmp 47) (by kernel_rfl) h (fun h1 => ?_) (fun h1 => ?_)
  · refine seq_ok' (by kernel_rfl) ?_
    have hN' : ∀ e w, (m6_27 R (e 6) w) → (thenE (W6 k6_27 Q) Q) .normal e w := fun e w h => then_N (s6_27 (R := R) (Q := Q) hR e w h)
    have hN := hN'
    exact region_ok 7 (fun e w => m6_27 R (e 6) w) (by kernel_rfl) (kcast (by kernel_rfl) h1) hN (by kernel_rfl)
  · exact skip_ok (by kernel_rfl) (hN _ _ h1)
theorem s6_5 {R : Value → World → Prop} {Q : Exit → Env → World → Prop} (hR : ∀ e w, (R (e 6) w) → Q .ret e w) (e : Env) (w : World) (h : m6_5 R (e 0) (e 2) (e 7) (e 9) w) : W6 k6_5 Q e w := by
  unfold m6_5 at h
  refine seq_ok' (by kernel_rfl) ?_
  have hN' : ∀ e w, (m6_6 R (e 0) (e 2) (e 7) (e 9) w) → (thenE (W6 k6_6 Q) Q) .normal e w := fun e w h => then_N (s6_6 (R := R) (Q := Q) hR e w h)
  have hR : ∀ e w, (R (e 6) w) → (thenE (W6 k6_6 Q) Q) .ret e w := fun e w h => then_R (hR e w h)
  have hN := hN'
  refine seq_ok' (by kernel_rfl) ?_
  have hN' : ∀ e w, (m6_26 R (e 0) (e 2) (e 7) (e 9) (e 47) w) → (thenE (W6 k6_26 (thenE (W6 k6_6 Q) Q)) (thenE (W6 k6_6 Q) Q)) .normal e w := fun e w h => then_N (s6_26 (R := R) (Q := (thenE (W6 k6_6 Q) Q)) hN hR e w h)
  have hN := hN'
  exact region_ok 6 (fun e w => m6_26 R (e 0) (e 2) (e 7) (e 9) (e 47) w) (by kernel_rfl) (kcast (by kernel_rfl) h) hN (by kernel_rfl)
theorem s6_28 {R : Value → World → Prop} {Q : Exit → Env → World → Prop} (hN : ∀ e w, (m6_5 R (e 0) (e 2) (e 7) (e 9) w) → Q .normal e w) (hR : ∀ e w, (R (e 6) w) → Q .ret e w) (e : Env) (w : World) (h : m6_28 R (e 0) (e 2) (e 7) (e 8) (e 9) (e 33) w) : W6 k6_28 Q e w := by
  unfold m6_28 at h
  refine cond_ok (Operand.tmp 33) (by kernel_rfl) h (fun h1 => ?_) (fun h1 => ?_)
  · refine seq_ok' (by kernel_rfl) ?_
    have hN' : ∀ e w, (m6_29 R (e 6) w) → (thenE (W6 k6_29 Q) Q) .normal e w := fun e w h => then_N (s6_29 (R := R) (Q := Q) hR e w h)
    have hN := hN'
    exact region_ok 5 (fun e w => m6_29 R (e 6) w) (by kernel_rfl) (kcast (by kernel_rfl) h1) hN (by kernel_rfl)
  · exact skip_ok (by kernel_rfl) (hN _ _ h1)
theorem s6_4 {R : Value → World → Prop} {Q : Exit → Env → World → Prop} (hR : ∀ e w, (R (e 6) w) → Q .ret e w) (e : Env) (w : World) (h : m6_4 R (e 0) (e 2) (e 7) (e 8) (e 9) w) : W6 k6_4 Q e w := by
  unfold m6_4 at h
  refine seq_ok' (by kernel_rfl) ?_
  have hN' : ∀ e w, (m6_5 R (e 0) (e 2) (e 7) (e 9) w) → (thenE (W6 k6_5 Q) Q) .normal e w := fun e w h => then_N (s6_5 (R := R) (Q := Q) hR e w h)
  have hR : ∀ e w, (R (e 6) w) → (thenE (W6 k6_5 Q) Q) .ret e w := fun e w h => then_R (hR e w h)
  have hN := hN'
  refine seq_ok' (by kernel_rfl) ?_
  have hN' : ∀ e w, (m6_28 R (e 0) (e 2) (e 7) (e 8) (e 9) (e 33) w) → (thenE (W6 k6_28 (thenE (W6 k6_5 Q) Q)) (thenE (W6 k6_5 Q) Q)) .normal e w := fun e w h => then_N (s6_28 (R := R) (Q := (thenE (W6 k6_5 Q) Q)) hN hR e w h)
  have hN := hN'
  exact region_ok 4 (fun e w => m6_28 R (e 0) (e 2) (e 7) (e 8) (e 9) (e 33) w) (by kernel_rfl) (kcast (by kernel_rfl) h) hN (by kernel_rfl)
theorem s6_3 {R : Value → World → Prop} {Q : Exit → Env → World → Prop} (hR : ∀ e w, (R (e 6) w) → Q .ret e w) (e : Env) (w : World) (h : m6_3 R (e 0) (e 1) (e 2) (e 7) (e 8) w) : W6 k6_3 Q e w := by
  unfold m6_3 at h
  refine seq_ok' (by kernel_rfl) ?_
  have hN' : ∀ e w, (m6_4 R (e 0) (e 2) (e 7) (e 8) (e 9) w) → (thenE (W6 k6_4 Q) Q) .normal e w := fun e w h => then_N (s6_4 (R := R) (Q := Q) hR e w h)
  have hN := hN'
  exact region_ok 3 (fun e w => m6_4 R (e 0) (e 2) (e 7) (e 8) (e 9) w) (by kernel_rfl) (kcast (by kernel_rfl) h) hN (by kernel_rfl)
theorem s6_2 {R : Value → World → Prop} {Q : Exit → Env → World → Prop} (hR : ∀ e w, (R (e 6) w) → Q .ret e w) (e : Env) (w : World) (h : m6_2 R (e 0) (e 1) (e 2) w) : W6 k6_2 Q e w := by
  unfold m6_2 at h
  refine seq_ok' (by kernel_rfl) ?_
  have hN' : ∀ e w, (m6_3 R (e 0) (e 1) (e 2) (e 7) (e 8) w) → (thenE (W6 k6_3 Q) Q) .normal e w := fun e w h => then_N (s6_3 (R := R) (Q := Q) hR e w h)
  have hN := hN'
  exact region_ok 2 (fun e w => m6_3 R (e 0) (e 1) (e 2) (e 7) (e 8) w) (by kernel_rfl) (kcast (by kernel_rfl) h) hN (by kernel_rfl)
theorem s6_1 {R : Value → World → Prop} {Q : Exit → Env → World → Prop} (hR : ∀ e w, (R (e 6) w) → Q .ret e w) (e : Env) (w : World) (h : m6_1 R (e 0) (e 1) (e 2) w) : W6 k6_1 Q e w := by
  unfold m6_1 at h
  refine seq_ok' (by kernel_rfl) ?_
  have hN' : ∀ e w, (m6_2 R (e 0) (e 1) (e 2) w) → (thenE (W6 k6_2 Q) Q) .normal e w := fun e w h => then_N (s6_2 (R := R) (Q := Q) hR e w h)
  have hN := hN'
  exact region_ok 1 (fun e w => m6_2 R (e 0) (e 1) (e 2) w) (by kernel_rfl) (kcast (by kernel_rfl) h) hN (by kernel_rfl)
theorem s6_0 {R : Value → World → Prop} {Q : Exit → Env → World → Prop} (hR : ∀ e w, (R (e 6) w) → Q .ret e w) (e : Env) (w : World) (h : m6_0 R (e 0) (e 1) (e 2) w) : W6 k6_0 Q e w := by
  unfold m6_0 at h
  refine seq_ok' (by kernel_rfl) ?_
  have hN' : ∀ e w, (m6_1 R (e 0) (e 1) (e 2) w) → (thenE (W6 k6_1 Q) Q) .normal e w := fun e w h => then_N (s6_1 (R := R) (Q := Q) hR e w h)
  have hN := hN'
  exact region_ok 0 (fun e w => m6_1 R (e 0) (e 1) (e 2) w) (by kernel_rfl) (kcast (by kernel_rfl) h) hN (by kernel_rfl)
abbrev m6 (R : Value → World → Prop) (parts0 : Value) (members1 : Value) (old2 : Value) (w : World) : Prop := m6_0 R parts0 members1 old2 w
theorem s6 (parts0 : Value) (members1 : Value) (old2 : Value) {R : Value → World → Prop} {w : World} (h : m6 R parts0 members1 old2 w) :
    Calls Try.prog 6 #[parts0, members1, old2] w fun e w' => ∃ v, e = .returned v ∧ R v w' :=
  calls_of_cwp (st := (fun i => cond (Nat.beq i 17) 1 (cond (Nat.beq i 15) 1 (0)))) (c := k6_0) (by kernel_rfl) Try.func6 (by kernel_rfl) (Nat.le_of_ble_eq_true (by kernel_rfl)) (by kernel_rfl)
    (s6_0 (R := R) (Q := endE Try.prog Try.f6 R) (fun e w h => kcast (by kernel_rfl) h) (argsE #[parts0, members1, old2]) w (kcast (by kernel_rfl) h))
/-! ### headgate/headgatelaw09.AssignStays -/
def m7_7 (R : Value → World → Prop) (t6 : Value) (w : World) : Prop :=
  R t6 w
def m7_6 (R : Value → World → Prop) (a7 : Value) (e8 : Value) (b9 : Value) (f10 : Value) (c11 : Value) (d13 : Value) (w : World) : Prop :=
  valP Try.prog (binS BinOp.eql 24 (Operand.tmp 46) (Operand.tmp 47) e8 f10) w fun t48 w =>
  condP t48
  (callP Try.prog (fnV 13) #[a7, b9] w fun t52 w =>
  pickP t48 t52 (Value.bool false) fun t53 =>
  condP t53
  (callP Try.prog (fnV 13) #[c11, d13] w fun t57 w =>
  pickP t53 t57 (Value.bool false) fun t58 =>
  condP t58
  (callP Try.prog (fnV 14) #[] w fun t60 w =>
  pickP t58 t60 (Value.bool false) fun t61 =>
  m7_7 R t61 w)
  (pickP t58 undef (Value.bool false) fun t61 =>
  m7_7 R t61 w))
  (pickP t53 undef (Value.bool false) fun t58 =>
  condP t58
  (callP Try.prog (fnV 14) #[] w fun t60 w =>
  pickP t58 t60 (Value.bool false) fun t61 =>
  m7_7 R t61 w)
  (pickP t58 undef (Value.bool false) fun t61 =>
  m7_7 R t61 w)))
  (pickP t48 undef (Value.bool false) fun t53 =>
  condP t53
  (callP Try.prog (fnV 13) #[c11, d13] w fun t57 w =>
  pickP t53 t57 (Value.bool false) fun t58 =>
  condP t58
  (callP Try.prog (fnV 14) #[] w fun t60 w =>
  pickP t58 t60 (Value.bool false) fun t61 =>
  m7_7 R t61 w)
  (pickP t58 undef (Value.bool false) fun t61 =>
  m7_7 R t61 w))
  (pickP t53 undef (Value.bool false) fun t58 =>
  condP t58
  (callP Try.prog (fnV 14) #[] w fun t60 w =>
  pickP t58 t60 (Value.bool false) fun t61 =>
  m7_7 R t61 w)
  (pickP t58 undef (Value.bool false) fun t61 =>
  m7_7 R t61 w)))
def m7_5 (R : Value → World → Prop) (parts0 : Value) (members1 : Value) (a7 : Value) (e8 : Value) (b9 : Value) (f10 : Value) (c11 : Value) (w : World) : Prop :=
  callP Try.prog (fnV 15) #[parts0, members1, c11] w fun t43 w =>
  valP Try.prog (Instr.extract t43 0) w fun t44 w =>
  valP Try.prog (Instr.extract t43 1) w fun t45 w =>
  m7_6 R a7 e8 b9 f10 c11 t44 w
def m7_4 (R : Value → World → Prop) (parts0 : Value) (members1 : Value) (a7 : Value) (e8 : Value) (b9 : Value) (f10 : Value) (w : World) : Prop :=
  callP Try.prog (fnV 11) #[parts0, members1] w fun t36 w =>
  valP Try.prog (Instr.extract t36 0) w fun t37 w =>
  valP Try.prog (Instr.extract t36 1) w fun t38 w =>
  m7_5 R parts0 members1 a7 e8 b9 f10 t37 w
def m7_3 (R : Value → World → Prop) (parts0 : Value) (members1 : Value) (a7 : Value) (e8 : Value) (w : World) : Prop :=
  callP Try.prog (fnV 15) #[parts0, members1, a7] w fun t30 w =>
  valP Try.prog (Instr.extract t30 0) w fun t31 w =>
  valP Try.prog (Instr.extract t30 1) w fun t32 w =>
  m7_4 R parts0 members1 a7 e8 t31 t32 w
def m7_2 (R : Value → World → Prop) (parts0 : Value) (members1 : Value) (old2 : Value) (w : World) : Prop :=
  callP Try.prog (fnV 15) #[parts0, members1, old2] w fun t23 w =>
  valP Try.prog (Instr.extract t23 0) w fun t24 w =>
  valP Try.prog (Instr.extract t23 1) w fun t25 w =>
  m7_3 R parts0 members1 t24 t25 w
def m7_1 (R : Value → World → Prop) (parts0 : Value) (members1 : Value) (old2 : Value) (w : World) : Prop :=
  callP Try.prog (fnV 10) #[members1] w fun t16 w =>
  callP Try.prog (fnV 10) #[old2] w fun t18 w =>
  m7_2 R parts0 t16 t18 w
def m7_0 (R : Value → World → Prop) (parts0 : Value) (members1 : Value) (old2 : Value) (w : World) : Prop :=
  m7_1 R parts0 members1 old2 w
abbrev W7 := cwp Try.prog (fun i => 0)
noncomputable def k7_0 : Code := (bodyOf Try.f7)
noncomputable def k7_1 : Code := (c2 k7_0)
noncomputable def k7_2 : Code := (c2 k7_1)
noncomputable def k7_3 : Code := (c2 k7_2)
noncomputable def k7_4 : Code := (c2 k7_3)
noncomputable def k7_5 : Code := (c2 k7_4)
noncomputable def k7_6 : Code := (c2 k7_5)
noncomputable def k7_7 : Code := (c2 k7_6)
theorem s7_7 {R : Value → World → Prop} {Q : Exit → Env → World → Prop} (hR : ∀ e w, (R (e 6) w) → Q .ret e w) (e : Env) (w : World) (h : m7_7 R (e 6) w) : W7 k7_7 Q e w := by
  unfold m7_7 at h
  exact ret_ok (by kernel_rfl) (hR _ _ h)
theorem s7_6 {R : Value → World → Prop} {Q : Exit → Env → World → Prop} (hR : ∀ e w, (R (e 6) w) → Q .ret e w) (e : Env) (w : World) (h : m7_6 R (e 7) (e 8) (e 9) (e 10) (e 11) (e 13) w) : W7 k7_6 Q e w := by
  unfold m7_6 at h
  refine seq_ok' (by kernel_rfl) ?_
  have hN' : ∀ e w, (m7_7 R (e 6) w) → (thenE (W7 k7_7 Q) Q) .normal e w := fun e w h => then_N (s7_7 (R := R) (Q := Q) hR e w h)
  have hN := hN'
  exact region_ok 6 (fun e w => m7_7 R (e 6) w) (by kernel_rfl) (kcast (by kernel_rfl) h) hN (by kernel_rfl)
theorem s7_5 {R : Value → World → Prop} {Q : Exit → Env → World → Prop} (hR : ∀ e w, (R (e 6) w) → Q .ret e w) (e : Env) (w : World) (h : m7_5 R (e 0) (e 1) (e 7) (e 8) (e 9) (e 10) (e 11) w) : W7 k7_5 Q e w := by
  unfold m7_5 at h
  refine seq_ok' (by kernel_rfl) ?_
  have hN' : ∀ e w, (m7_6 R (e 7) (e 8) (e 9) (e 10) (e 11) (e 13) w) → (thenE (W7 k7_6 Q) Q) .normal e w := fun e w h => then_N (s7_6 (R := R) (Q := Q) hR e w h)
  have hN := hN'
  exact region_ok 5 (fun e w => m7_6 R (e 7) (e 8) (e 9) (e 10) (e 11) (e 13) w) (by kernel_rfl) (kcast (by kernel_rfl) h) hN (by kernel_rfl)
theorem s7_4 {R : Value → World → Prop} {Q : Exit → Env → World → Prop} (hR : ∀ e w, (R (e 6) w) → Q .ret e w) (e : Env) (w : World) (h : m7_4 R (e 0) (e 1) (e 7) (e 8) (e 9) (e 10) w) : W7 k7_4 Q e w := by
  unfold m7_4 at h
  refine seq_ok' (by kernel_rfl) ?_
  have hN' : ∀ e w, (m7_5 R (e 0) (e 1) (e 7) (e 8) (e 9) (e 10) (e 11) w) → (thenE (W7 k7_5 Q) Q) .normal e w := fun e w h => then_N (s7_5 (R := R) (Q := Q) hR e w h)
  have hN := hN'
  exact region_ok 4 (fun e w => m7_5 R (e 0) (e 1) (e 7) (e 8) (e 9) (e 10) (e 11) w) (by kernel_rfl) (kcast (by kernel_rfl) h) hN (by kernel_rfl)
theorem s7_3 {R : Value → World → Prop} {Q : Exit → Env → World → Prop} (hR : ∀ e w, (R (e 6) w) → Q .ret e w) (e : Env) (w : World) (h : m7_3 R (e 0) (e 1) (e 7) (e 8) w) : W7 k7_3 Q e w := by
  unfold m7_3 at h
  refine seq_ok' (by kernel_rfl) ?_
  have hN' : ∀ e w, (m7_4 R (e 0) (e 1) (e 7) (e 8) (e 9) (e 10) w) → (thenE (W7 k7_4 Q) Q) .normal e w := fun e w h => then_N (s7_4 (R := R) (Q := Q) hR e w h)
  have hN := hN'
  exact region_ok 3 (fun e w => m7_4 R (e 0) (e 1) (e 7) (e 8) (e 9) (e 10) w) (by kernel_rfl) (kcast (by kernel_rfl) h) hN (by kernel_rfl)
theorem s7_2 {R : Value → World → Prop} {Q : Exit → Env → World → Prop} (hR : ∀ e w, (R (e 6) w) → Q .ret e w) (e : Env) (w : World) (h : m7_2 R (e 0) (e 1) (e 2) w) : W7 k7_2 Q e w := by
  unfold m7_2 at h
  refine seq_ok' (by kernel_rfl) ?_
  have hN' : ∀ e w, (m7_3 R (e 0) (e 1) (e 7) (e 8) w) → (thenE (W7 k7_3 Q) Q) .normal e w := fun e w h => then_N (s7_3 (R := R) (Q := Q) hR e w h)
  have hN := hN'
  exact region_ok 2 (fun e w => m7_3 R (e 0) (e 1) (e 7) (e 8) w) (by kernel_rfl) (kcast (by kernel_rfl) h) hN (by kernel_rfl)
theorem s7_1 {R : Value → World → Prop} {Q : Exit → Env → World → Prop} (hR : ∀ e w, (R (e 6) w) → Q .ret e w) (e : Env) (w : World) (h : m7_1 R (e 0) (e 1) (e 2) w) : W7 k7_1 Q e w := by
  unfold m7_1 at h
  refine seq_ok' (by kernel_rfl) ?_
  have hN' : ∀ e w, (m7_2 R (e 0) (e 1) (e 2) w) → (thenE (W7 k7_2 Q) Q) .normal e w := fun e w h => then_N (s7_2 (R := R) (Q := Q) hR e w h)
  have hN := hN'
  exact region_ok 1 (fun e w => m7_2 R (e 0) (e 1) (e 2) w) (by kernel_rfl) (kcast (by kernel_rfl) h) hN (by kernel_rfl)
theorem s7_0 {R : Value → World → Prop} {Q : Exit → Env → World → Prop} (hR : ∀ e w, (R (e 6) w) → Q .ret e w) (e : Env) (w : World) (h : m7_0 R (e 0) (e 1) (e 2) w) : W7 k7_0 Q e w := by
  unfold m7_0 at h
  refine seq_ok' (by kernel_rfl) ?_
  have hN' : ∀ e w, (m7_1 R (e 0) (e 1) (e 2) w) → (thenE (W7 k7_1 Q) Q) .normal e w := fun e w h => then_N (s7_1 (R := R) (Q := Q) hR e w h)
  have hN := hN'
  exact region_ok 0 (fun e w => m7_1 R (e 0) (e 1) (e 2) w) (by kernel_rfl) (kcast (by kernel_rfl) h) hN (by kernel_rfl)
abbrev m7 (R : Value → World → Prop) (parts0 : Value) (members1 : Value) (old2 : Value) (w : World) : Prop := m7_0 R parts0 members1 old2 w
theorem s7 (parts0 : Value) (members1 : Value) (old2 : Value) {R : Value → World → Prop} {w : World} (h : m7 R parts0 members1 old2 w) :
    Calls Try.prog 7 #[parts0, members1, old2] w fun e w' => ∃ v, e = .returned v ∧ R v w' :=
  calls_of_cwp (st := (fun i => 0)) (c := k7_0) (by kernel_rfl) Try.func7 (by kernel_rfl) (Nat.le_of_ble_eq_true (by kernel_rfl)) (by kernel_rfl)
    (s7_0 (R := R) (Q := endE Try.prog Try.f7 R) (fun e w h => kcast (by kernel_rfl) h) (argsE #[parts0, members1, old2]) w (kcast (by kernel_rfl) h))
/-! ### headgate/headgatelaw09.AssignShrinks -/
def m8_28 (R : Value → World → Prop) (t8 : Value) (w : World) : Prop :=
  R t8 w
def m8_24 (R : Value → World → Prop) (K1 : (Value × Value) → World → Prop) (parts0 : Value) (gone3 : Value) (a9 : Value) (m11 : Value) (left12 : Value) (i13 : Value) (w : World) : Prop :=
  valP Try.prog (binS BinOp.add 3 (Operand.tmp 42) (Operand.const (Value.int IntKind.i64 1)) i13 (Value.int IntKind.i64 1)) w fun t43 w =>
  K1 (left12, t43) w
def m8_25 (R : Value → World → Prop) (K1 : (Value × Value) → World → Prop) (parts0 : Value) (gone3 : Value) (a9 : Value) (m11 : Value) (left12 : Value) (i13 : Value) (t54 : Value) (w : World) : Prop :=
  condP t54
  (valP Try.prog (Instr.indexAt 22 m11 i13) w fun t58 w =>
  valP Try.prog (Instr.loadAt 3 t58) w fun t59 w =>
  valP Try.prog (Instr.buildSlice 22 1 #[(0, t59)]) w fun t60 w =>
  builtinP Try.prog Builtin.append #[22, 22] 22 #[false, false] #[left12, t60] w fun t61 w =>
  m8_24 R K1 parts0 gone3 a9 m11 t61 i13 w)
  (m8_24 R K1 parts0 gone3 a9 m11 left12 i13 w)
def m8_23 (R : Value → World → Prop) (K1 : (Value × Value) → World → Prop) (parts0 : Value) (gone3 : Value) (a9 : Value) (m11 : Value) (left12 : Value) (i13 : Value) (w : World) : Prop :=
  builtinP Try.prog Builtin.len #[36] 3 #[false] #[gone3] w fun t46 w =>
  valP Try.prog (binS BinOp.geq 3 (Operand.tmp 44) (Operand.tmp 46) i13 t46) w fun t47 w =>
  condP t47
  (pickP t47 (Value.bool true) undef fun t54 =>
  m8_25 R K1 parts0 gone3 a9 m11 left12 i13 t54 w)
  (valP Try.prog (Instr.indexAt 36 gone3 i13) w fun t51 w =>
  valP Try.prog (Instr.loadAt 4 t51) w fun t52 w =>
  valP Try.prog (Op.unary UnOp.not t52) w fun t53 w =>
  pickP t47 (Value.bool true) t53 fun t54 =>
  m8_25 R K1 parts0 gone3 a9 m11 left12 i13 t54 w)
def m8_20 (R : Value → World → Prop) (t8 : Value) (w : World) : Prop :=
  R t8 w
def m8_17 (R : Value → World → Prop) (K1 : Value → World → Prop) (t8 : Value) (w : World) : Prop :=
  R t8 w
def m8_15 (R : Value → World → Prop) (K1 : Value → World → Prop) (parts0 : Value) (a9 : Value) (left12 : Value) (b14 : Value) (p16 : Value) (w : World) : Prop :=
  valP Try.prog (binS BinOp.add 3 (Operand.tmp 86) (Operand.const (Value.int IntKind.i64 1)) p16 (Value.int IntKind.i64 1)) w fun t87 w =>
  K1 t87 w
def m8_16 (R : Value → World → Prop) (K1 : Value → World → Prop) (parts0 : Value) (a9 : Value) (left12 : Value) (b14 : Value) (p16 : Value) (t105 : Value) (w : World) : Prop :=
  condP t105
  (m8_17 R K1 (Value.bool false) w)
  (m8_15 R K1 parts0 a9 left12 b14 p16 w)
def m8_14 (R : Value → World → Prop) (K1 : Value → World → Prop) (parts0 : Value) (a9 : Value) (left12 : Value) (b14 : Value) (p16 : Value) (w : World) : Prop :=
  anyDraw w fun w =>
  pureP Try.prog (Instr.indexAt 22 a9 p16) fun t91 =>
  valP Try.prog (Instr.loadAt 3 t91) w fun t92 w =>
  callP Try.prog (fnV 19) #[left12, t92] w fun t93 w =>
  pureP Try.prog (binS BinOp.gtr 3 (Operand.tmp 93) (Operand.const (Value.int IntKind.i64 0)) t93 (Value.int IntKind.i64 0)) fun t94 =>
  condP t94
  (pureP Try.prog (Instr.indexAt 22 b14 p16) fun t98 =>
  pureP Try.prog (Instr.indexAt 22 a9 p16) fun t102 =>
  (valP Try.prog (Instr.loadAt 3 t98) w fun t99 w =>
  valP Try.prog (Instr.loadAt 3 t102) w fun t103 w =>
  pureP Try.prog (binS BinOp.neq 3 (Operand.tmp 99) (Operand.tmp 103) t99 t103) fun t104 =>
  pickP t94 t104 (Value.bool false) fun t105 =>
  m8_16 R K1 parts0 a9 left12 b14 p16 t105 w) ∧ (valP Try.prog (Instr.loadAt 3 t102) w fun t103 w =>
  valP Try.prog (Instr.loadAt 3 t98) w fun t99 w =>
  pureP Try.prog (binS BinOp.neq 3 (Operand.tmp 99) (Operand.tmp 103) t99 t103) fun t104 =>
  pickP t94 t104 (Value.bool false) fun t105 =>
  m8_16 R K1 parts0 a9 left12 b14 p16 t105 w))
  ((pickP t94 undef (Value.bool false) fun t105 =>
  m8_16 R K1 parts0 a9 left12 b14 p16 t105 w) ∧ (pickP t94 undef (Value.bool false) fun t105 =>
  m8_16 R K1 parts0 a9 left12 b14 p16 t105 w))
def m8_11 (R : Value → World → Prop) (t8 : Value) (w : World) : Prop :=
  R t8 w
def m8_10 (R : Value → World → Prop) (w : World) : Prop :=
  callP Try.prog (fnV 14) #[] w fun t106 w =>
  m8_11 R t106 w
def m8_18 (R : Value → World → Prop) (K1 : Value → World → Prop) (parts0 : Value) (a9 : Value) (left12 : Value) (b14 : Value) (p16 : Value) (t85 : Value) (w : World) : Prop :=
  condP t85
  (m8_14 R K1 parts0 a9 left12 b14 p16 w)
  (m8_10 R w)
def m8_13 (R : Value → World → Prop) (K1 : Value → World → Prop) (parts0 : Value) (a9 : Value) (left12 : Value) (b14 : Value) (p16 : Value) (w : World) : Prop :=
  valP Try.prog (binS BinOp.lss 3 (Operand.tmp 83) (Operand.tmp 84) p16 parts0) w fun t85 w =>
  m8_18 R K1 parts0 a9 left12 b14 p16 t85 w
def m8_12 (R : Value → World → Prop) (parts0 : Value) (a9 : Value) (left12 : Value) (b14 : Value) (p16 : Value) (w : World) : Prop :=
  loopP (fun (K1 : Value → World → Prop) (s : Value) w => m8_13 R K1 parts0 a9 left12 b14 s w) p16 w
def m8_9 (R : Value → World → Prop) (parts0 : Value) (a9 : Value) (left12 : Value) (b14 : Value) (w : World) : Prop :=
  m8_12 R parts0 a9 left12 b14 (Value.int IntKind.i64 0) w
def m8_19 (R : Value → World → Prop) (parts0 : Value) (a9 : Value) (left12 : Value) (b14 : Value) (t82 : Value) (w : World) : Prop :=
  condP t82
  (m8_20 R (Value.bool false) w)
  (m8_9 R parts0 a9 left12 b14 w)
def m8_8 (R : Value → World → Prop) (parts0 : Value) (a9 : Value) (left12 : Value) (b14 : Value) (f15 : Value) (w : World) : Prop :=
  valP Try.prog (binS BinOp.neq 24 (Operand.tmp 69) (Operand.const (Value.int IntKind.i64 0)) f15 (Value.int IntKind.i64 0)) w fun t70 w =>
  condP t70
  (pickP t70 (Value.bool true) undef fun t76 =>
  condP t76
  (pickP t76 (Value.bool true) undef fun t82 =>
  m8_19 R parts0 a9 left12 b14 t82 w)
  (builtinP Try.prog Builtin.len #[22] 3 #[false] #[b14] w fun t79 w =>
  valP Try.prog (binS BinOp.neq 3 (Operand.tmp 79) (Operand.tmp 80) t79 parts0) w fun t81 w =>
  pickP t76 (Value.bool true) t81 fun t82 =>
  m8_19 R parts0 a9 left12 b14 t82 w))
  (builtinP Try.prog Builtin.len #[22] 3 #[false] #[a9] w fun t73 w =>
  valP Try.prog (binS BinOp.neq 3 (Operand.tmp 73) (Operand.tmp 74) t73 parts0) w fun t75 w =>
  pickP t70 (Value.bool true) t75 fun t76 =>
  condP t76
  (pickP t76 (Value.bool true) undef fun t82 =>
  m8_19 R parts0 a9 left12 b14 t82 w)
  (builtinP Try.prog Builtin.len #[22] 3 #[false] #[b14] w fun t79 w =>
  valP Try.prog (binS BinOp.neq 3 (Operand.tmp 79) (Operand.tmp 80) t79 parts0) w fun t81 w =>
  pickP t76 (Value.bool true) t81 fun t82 =>
  m8_19 R parts0 a9 left12 b14 t82 w))
def m8_7 (R : Value → World → Prop) (parts0 : Value) (a9 : Value) (left12 : Value) (w : World) : Prop :=
  callP Try.prog (fnV 15) #[parts0, left12, a9] w fun t66 w =>
  valP Try.prog (Instr.extract t66 0) w fun t67 w =>
  valP Try.prog (Instr.extract t66 1) w fun t68 w =>
  m8_8 R parts0 a9 left12 t67 t68 w
def m8_26 (R : Value → World → Prop) (K1 : (Value × Value) → World → Prop) (parts0 : Value) (gone3 : Value) (a9 : Value) (m11 : Value) (left12 : Value) (i13 : Value) (t41 : Value) (w : World) : Prop :=
  condP t41
  (m8_23 R K1 parts0 gone3 a9 m11 left12 i13 w)
  (m8_7 R parts0 a9 left12 w)
def m8_22 (R : Value → World → Prop) (K1 : (Value × Value) → World → Prop) (parts0 : Value) (gone3 : Value) (a9 : Value) (m11 : Value) (left12 : Value) (i13 : Value) (w : World) : Prop :=
  builtinP Try.prog Builtin.len #[22] 3 #[false] #[m11] w fun t40 w =>
  valP Try.prog (binS BinOp.lss 3 (Operand.tmp 38) (Operand.tmp 40) i13 t40) w fun t41 w =>
  m8_26 R K1 parts0 gone3 a9 m11 left12 i13 t41 w
def m8_21 (R : Value → World → Prop) (parts0 : Value) (gone3 : Value) (a9 : Value) (m11 : Value) (left12 : Value) (i13 : Value) (w : World) : Prop :=
  loopP (fun (K1 : (Value × Value) → World → Prop) (s : Value × Value) w => m8_22 R K1 parts0 gone3 a9 m11 s.1 s.2 w) (left12, i13) w
def m8_6 (R : Value → World → Prop) (parts0 : Value) (gone3 : Value) (a9 : Value) (m11 : Value) (left12 : Value) (w : World) : Prop :=
  m8_21 R parts0 gone3 a9 m11 left12 (Value.int IntKind.i64 0) w
def m8_5 (R : Value → World → Prop) (parts0 : Value) (gone3 : Value) (a9 : Value) (m11 : Value) (w : World) : Prop :=
  m8_6 R parts0 gone3 a9 m11 (Value.slice none 0 0) w
def m8_4 (R : Value → World → Prop) (parts0 : Value) (members1 : Value) (gone3 : Value) (a9 : Value) (w : World) : Prop :=
  callP Try.prog (fnV 18) #[members1] w fun t37 w =>
  m8_5 R parts0 gone3 a9 t37 w
def m8_27 (R : Value → World → Prop) (parts0 : Value) (members1 : Value) (gone3 : Value) (a9 : Value) (t29 : Value) (w : World) : Prop :=
  condP t29
  (builtinP Try.prog Builtin.len #[22] 3 #[false] #[a9] w fun t31 w =>
  valP Try.prog (binS BinOp.eql 3 (Operand.tmp 31) (Operand.const (Value.int IntKind.i64 0)) t31 (Value.int IntKind.i64 0)) w fun t32 w =>
  condP t32
  (callP Try.prog (fnV 14) #[] w fun t34 w =>
  pickP t32 t34 (Value.bool false) fun t35 =>
  m8_28 R t35 w)
  (pickP t32 undef (Value.bool false) fun t35 =>
  m8_28 R t35 w))
  (m8_4 R parts0 members1 gone3 a9 w)
def m8_3 (R : Value → World → Prop) (parts0 : Value) (members1 : Value) (gone3 : Value) (a9 : Value) (e10 : Value) (w : World) : Prop :=
  valP Try.prog (binS BinOp.neq 24 (Operand.tmp 28) (Operand.const (Value.int IntKind.i64 0)) e10 (Value.int IntKind.i64 0)) w fun t29 w =>
  m8_27 R parts0 members1 gone3 a9 t29 w
def m8_2 (R : Value → World → Prop) (parts0 : Value) (members1 : Value) (old2 : Value) (gone3 : Value) (w : World) : Prop :=
  callP Try.prog (fnV 15) #[parts0, members1, old2] w fun t25 w =>
  valP Try.prog (Instr.extract t25 0) w fun t26 w =>
  valP Try.prog (Instr.extract t25 1) w fun t27 w =>
  m8_3 R parts0 members1 gone3 t26 t27 w
def m8_1 (R : Value → World → Prop) (parts0 : Value) (members1 : Value) (old2 : Value) (gone3 : Value) (w : World) : Prop :=
  callP Try.prog (fnV 10) #[members1] w fun t18 w =>
  callP Try.prog (fnV 10) #[old2] w fun t20 w =>
  m8_2 R parts0 t18 t20 gone3 w
def m8_0 (R : Value → World → Prop) (parts0 : Value) (members1 : Value) (old2 : Value) (gone3 : Value) (w : World) : Prop :=
  m8_1 R parts0 members1 old2 gone3 w
abbrev W8 := cwp Try.prog (fun i => 0)
noncomputable def k8_0 : Code := (bodyOf Try.f8)
noncomputable def k8_1 : Code := (c2 k8_0)
noncomputable def k8_2 : Code := (c2 k8_1)
noncomputable def k8_3 : Code := (c2 k8_2)
noncomputable def k8_4 : Code := (c2 k8_3)
noncomputable def k8_5 : Code := (c2 k8_4)
noncomputable def k8_6 : Code := (c2 k8_5)
noncomputable def k8_7 : Code := (c2 k8_6)
noncomputable def k8_8 : Code := (c2 k8_7)
noncomputable def k8_9 : Code := (c2 k8_8)
noncomputable def k8_10 : Code := (c2 k8_9)
noncomputable def k8_11 : Code := (c2 k8_10)
noncomputable def k8_12 : Code := (c2 (c1 k8_9))
noncomputable def k8_13 : Code := (c1 (c1 k8_12))
noncomputable def k8_14 : Code := (c2 k8_13)
noncomputable def k8_15 : Code := (c2 k8_14)
noncomputable def k8_16 : Code := (c2 (c1 (c1 k8_14)))
noncomputable def k8_17 : Code := (c2 (c1 k8_16))
noncomputable def k8_18 : Code := (c2 (c1 k8_13))
noncomputable def k8_19 : Code := (c2 (c1 k8_8))
noncomputable def k8_20 : Code := (c2 (c1 k8_19))
noncomputable def k8_21 : Code := (c2 (c1 k8_6))
noncomputable def k8_22 : Code := (c1 (c1 k8_21))
noncomputable def k8_23 : Code := (c2 k8_22)
noncomputable def k8_24 : Code := (c2 k8_23)
noncomputable def k8_25 : Code := (c2 (c1 (c1 k8_23)))
noncomputable def k8_26 : Code := (c2 (c1 k8_22))
noncomputable def k8_27 : Code := (c2 (c1 k8_3))
noncomputable def k8_28 : Code := (c2 (c1 k8_27))
theorem s8_28 {R : Value → World → Prop} {Q : Exit → Env → World → Prop} (hR : ∀ e w, (R (e 8) w) → Q .ret e w) (e : Env) (w : World) (h : m8_28 R (e 8) w) : W8 k8_28 Q e w := by
  unfold m8_28 at h
  exact ret_ok (by kernel_rfl) (hR _ _ h)
theorem s8_24 {R : Value → World → Prop} {K1 : (Value × Value) → World → Prop} {Q : Exit → Env → World → Prop} (hN : ∀ e w, (K1 ((e 12), (e 13)) w) → Q .normal e w) (e : Env) (w : World) (h : m8_24 R K1 (e 0) (e 3) (e 9) (e 11) (e 12) (e 13) w) : W8 k8_24 Q e w := by
  unfold m8_24 at h
  exact region_ok 9 (fun e w => K1 ((e 12), (e 13)) w) (by kernel_rfl) (kcast (by kernel_rfl) h) hN (by kernel_rfl)
theorem s8_25 {R : Value → World → Prop} {K1 : (Value × Value) → World → Prop} {Q : Exit → Env → World → Prop} (hN : ∀ e w, (m8_24 R K1 (e 0) (e 3) (e 9) (e 11) (e 12) (e 13) w) → Q .normal e w) (e : Env) (w : World) (h : m8_25 R K1 (e 0) (e 3) (e 9) (e 11) (e 12) (e 13) (e 54) w) : W8 k8_25 Q e w := by
  unfold m8_25 at h
  refine cond_ok (Operand.tmp 54) (by kernel_rfl) h (fun h1 => ?_) (fun h1 => ?_)
  · exact region_ok 11 (fun e w => m8_24 R K1 (e 0) (e 3) (e 9) (e 11) (e 12) (e 13) w) (by kernel_rfl) (kcast (by kernel_rfl) h1) hN (by kernel_rfl)
  · exact skip_ok (by kernel_rfl) (hN _ _ h1)
theorem s8_23 {R : Value → World → Prop} {K1 : (Value × Value) → World → Prop} {Q : Exit → Env → World → Prop} (hN : ∀ e w, (K1 ((e 12), (e 13)) w) → Q .normal e w) (e : Env) (w : World) (h : m8_23 R K1 (e 0) (e 3) (e 9) (e 11) (e 12) (e 13) w) : W8 k8_23 Q e w := by
  unfold m8_23 at h
  refine seq_ok' (by kernel_rfl) ?_
  have hN' : ∀ e w, (m8_24 R K1 (e 0) (e 3) (e 9) (e 11) (e 12) (e 13) w) → (thenE (W8 k8_24 Q) Q) .normal e w := fun e w h => then_N (s8_24 (R := R) (Q := Q) (K1 := K1) hN e w h)
  have hN := hN'
  refine block_ok 1 (by kernel_rfl) ?_
  have hN : ∀ e w, (m8_24 R K1 (e 0) (e 3) (e 9) (e 11) (e 12) (e 13) w) → (inBlockE 1 (thenE (W8 k8_24 Q) Q)) .normal e w := fun e w h => block_N (hN e w h)
  refine seq_ok' (by kernel_rfl) ?_
  have hN' : ∀ e w, (m8_25 R K1 (e 0) (e 3) (e 9) (e 11) (e 12) (e 13) (e 54) w) → (thenE (W8 k8_25 (inBlockE 1 (thenE (W8 k8_24 Q) Q))) (inBlockE 1 (thenE (W8 k8_24 Q) Q))) .normal e w := fun e w h => then_N (s8_25 (R := R) (Q := (inBlockE 1 (thenE (W8 k8_24 Q) Q))) (K1 := K1) hN e w h)
  have hN := hN'
  exact region_ok 10 (fun e w => m8_25 R K1 (e 0) (e 3) (e 9) (e 11) (e 12) (e 13) (e 54) w) (by kernel_rfl) (kcast (by kernel_rfl) h) hN (by kernel_rfl)
theorem s8_20 {R : Value → World → Prop} {Q : Exit → Env → World → Prop} (hR : ∀ e w, (R (e 8) w) → Q .ret e w) (e : Env) (w : World) (h : m8_20 R (e 8) w) : W8 k8_20 Q e w := by
  unfold m8_20 at h
  exact ret_ok (by kernel_rfl) (hR _ _ h)
theorem s8_17 {R : Value → World → Prop} {K1 : Value → World → Prop} {Q : Exit → Env → World → Prop} (hR : ∀ e w, (R (e 8) w) → Q .ret e w) (e : Env) (w : World) (h : m8_17 R K1 (e 8) w) : W8 k8_17 Q e w := by
  unfold m8_17 at h
  exact ret_ok (by kernel_rfl) (hR _ _ h)
theorem s8_15 {R : Value → World → Prop} {K1 : Value → World → Prop} {Q : Exit → Env → World → Prop} (hN : ∀ e w, (K1 (e 16) w) → Q .normal e w) (e : Env) (w : World) (h : m8_15 R K1 (e 0) (e 9) (e 12) (e 14) (e 16) w) : W8 k8_15 Q e w := by
  unfold m8_15 at h
  exact region_ok 17 (fun e w => K1 (e 16) w) (by kernel_rfl) (kcast (by kernel_rfl) h) hN (by kernel_rfl)
theorem s8_16 {R : Value → World → Prop} {K1 : Value → World → Prop} {Q : Exit → Env → World → Prop} (hN : ∀ e w, (m8_15 R K1 (e 0) (e 9) (e 12) (e 14) (e 16) w) → Q .normal e w) (hR : ∀ e w, (R (e 8) w) → Q .ret e w) (e : Env) (w : World) (h : m8_16 R K1 (e 0) (e 9) (e 12) (e 14) (e 16) (e 105) w) : W8 k8_16 Q e w := by
  unfold m8_16 at h
  refine cond_ok (Operand.tmp 105) (by kernel_rfl) h (fun h1 => ?_) (fun h1 => ?_)
  · refine seq_ok' (by kernel_rfl) ?_
    have hN' : ∀ e w, (m8_17 R K1 (e 8) w) → (thenE (W8 k8_17 Q) Q) .normal e w := fun e w h => then_N (s8_17 (R := R) (Q := Q) (K1 := K1) hR e w h)
    have hN := hN'
    exact region_ok 19 (fun e w => m8_17 R K1 (e 8) w) (by kernel_rfl) (kcast (by kernel_rfl) h1) hN (by kernel_rfl)
  · exact skip_ok (by kernel_rfl) (hN _ _ h1)
theorem s8_14 {R : Value → World → Prop} {K1 : Value → World → Prop} {Q : Exit → Env → World → Prop} (hN : ∀ e w, (K1 (e 16) w) → Q .normal e w) (hR : ∀ e w, (R (e 8) w) → Q .ret e w) (e : Env) (w : World) (h : m8_14 R K1 (e 0) (e 9) (e 12) (e 14) (e 16) w) : W8 k8_14 Q e w := by
  unfold m8_14 at h
  refine seq_ok' (by kernel_rfl) ?_
  have hN' : ∀ e w, (m8_15 R K1 (e 0) (e 9) (e 12) (e 14) (e 16) w) → (thenE (W8 k8_15 Q) Q) .normal e w := fun e w h => then_N (s8_15 (R := R) (Q := Q) (K1 := K1) hN e w h)
  have hR : ∀ e w, (R (e 8) w) → (thenE (W8 k8_15 Q) Q) .ret e w := fun e w h => then_R (hR e w h)
  have hN := hN'
  refine block_ok 3 (by kernel_rfl) ?_
  have hN : ∀ e w, (m8_15 R K1 (e 0) (e 9) (e 12) (e 14) (e 16) w) → (inBlockE 3 (thenE (W8 k8_15 Q) Q)) .normal e w := fun e w h => block_N (hN e w h)
  have hR : ∀ e w, (R (e 8) w) → (inBlockE 3 (thenE (W8 k8_15 Q) Q)) .ret e w := fun e w h => block_R (hR e w h)
  refine seq_ok' (by kernel_rfl) ?_
  have hN' : ∀ e w, (m8_16 R K1 (e 0) (e 9) (e 12) (e 14) (e 16) (e 105) w) → (thenE (W8 k8_16 (inBlockE 3 (thenE (W8 k8_15 Q) Q))) (inBlockE 3 (thenE (W8 k8_15 Q) Q))) .normal e w := fun e w h => then_N (s8_16 (R := R) (Q := (inBlockE 3 (thenE (W8 k8_15 Q) Q))) (K1 := K1) hN hR e w h)
  have hN := hN'
  exact tree_ok 18 18 [false, false, false, false, false, false, false, false, false, false, false, false, false, false, false, false, false, false] (.take 0 [true, false, false, false, false, false, false, false, false, false, false, false, false, false, false, false, false, false] (.take 1 [true, true, false, false, false, false, false, false, false, false, false, false, false, false, false, false, false, false] (.take 2 [true, true, true, false, false, false, false, false, false, false, false, false, false, false, false, false, false, false] (.take 3 [true, true, true, true, false, false, false, false, false, false, false, false, false, false, false, false, false, false] (.alt 4 [true, true, true, true, true, false, false, false, false, false, false, false, false, false, false, false, false, false] (.alt 5 [true, true, true, true, true, true, false, false, false, false, false, false, false, false, false, false, false, false] (.take 6 [true, true, true, true, true, true, true, false, false, false, false, false, false, false, false, false, false, false] (.take 7 [true, true, true, true, true, true, true, true, false, false, false, false, false, false, false, false, false, false] (.take 8 [true, true, true, true, true, true, true, true, true, false, false, false, false, false, false, false, false, false] (.take 9 [true, true, true, true, true, true, true, true, true, true, false, false, false, false, false, false, false, false] (.take 10 [true, true, true, true, true, true, true, true, true, true, true, false, false, false, false, false, false, false] (.take 12 [true, true, true, true, true, true, true, true, true, true, true, false, true, false, false, false, false, false] (.take 13 [true, true, true, true, true, true, true, true, true, true, true, false, true, true, false, false, false, false] (.take 14 [true, true, true, true, true, true, true, true, true, true, true, false, true, true, true, false, false, false] (.alt 11 [true, true, true, true, true, true, true, true, true, true, true, true, true, true, true, false, false, false] (.alt 15 [true, true, true, true, true, true, true, true, true, true, true, true, true, true, true, true, false, false] (.take 16 [true, true, true, true, true, true, true, true, true, true, true, true, true, true, true, true, true, false] (.take 17 [true, true, true, true, true, true, true, true, true, true, true, true, true, true, true, true, true, true] .done)) .stop) (.alt 15 [true, true, true, true, true, true, true, true, true, true, true, false, true, true, true, true, false, false] (.alt 11 [true, true, true, true, true, true, true, true, true, true, true, true, true, true, true, true, false, false] (.take 16 [true, true, true, true, true, true, true, true, true, true, true, true, true, true, true, true, true, false] (.take 17 [true, true, true, true, true, true, true, true, true, true, true, true, true, true, true, true, true, true] .done)) .stop) .stop)))))))))) .stop) .stop))))) (fun e w => m8_16 R K1 (e 0) (e 9) (e 12) (e 14) (e 16) (e 105) w) (by kernel_rfl) (by kernel_rfl) (by kernel_rfl) (by kernel_rfl) (by kernel_rfl) (by kernel_rfl) (kcast (by kernel_rfl) h) hN (by kernel_rfl)
theorem s8_11 {R : Value → World → Prop} {Q : Exit → Env → World → Prop} (hR : ∀ e w, (R (e 8) w) → Q .ret e w) (e : Env) (w : World) (h : m8_11 R (e 8) w) : W8 k8_11 Q e w := by
  unfold m8_11 at h
  exact ret_ok (by kernel_rfl) (hR _ _ h)
theorem s8_10 {R : Value → World → Prop} {Q : Exit → Env → World → Prop} (hR : ∀ e w, (R (e 8) w) → Q .ret e w) (e : Env) (w : World) (h : m8_10 R w) : W8 k8_10 Q e w := by
  unfold m8_10 at h
  refine seq_ok' (by kernel_rfl) ?_
  have hN' : ∀ e w, (m8_11 R (e 8) w) → (thenE (W8 k8_11 Q) Q) .normal e w := fun e w h => then_N (s8_11 (R := R) (Q := Q) hR e w h)
  have hN := hN'
  exact region_ok 20 (fun e w => m8_11 R (e 8) w) (by kernel_rfl) (kcast (by kernel_rfl) h) hN (by kernel_rfl)
theorem s8_18 {R : Value → World → Prop} {K1 : Value → World → Prop} {Q : Exit → Env → World → Prop} (hN : ∀ e w, (m8_14 R K1 (e 0) (e 9) (e 12) (e 14) (e 16) w) → Q .normal e w) (hX2 : ∀ e w, (m8_10 R w) → Q (.exit 2) e w) (e : Env) (w : World) (h : m8_18 R K1 (e 0) (e 9) (e 12) (e 14) (e 16) (e 85) w) : W8 k8_18 Q e w := by
  unfold m8_18 at h
  refine cond_ok (Operand.tmp 85) (by kernel_rfl) h (fun h1 => ?_) (fun h1 => ?_)
  · exact skip_ok (by kernel_rfl) (hN _ _ h1)
  · exact exit_ok 2 (by kernel_rfl) (hX2 _ _ h1)
theorem s8_13 {R : Value → World → Prop} {K1 : Value → World → Prop} {Q : Exit → Env → World → Prop} (hN : ∀ e w, (K1 (e 16) w) → Q .normal e w) (hR : ∀ e w, (R (e 8) w) → Q .ret e w) (hX2 : ∀ e w, (m8_10 R w) → Q (.exit 2) e w) (e : Env) (w : World) (h : m8_13 R K1 (e 0) (e 9) (e 12) (e 14) (e 16) w) : W8 k8_13 Q e w := by
  unfold m8_13 at h
  refine seq_ok' (by kernel_rfl) ?_
  have hN' : ∀ e w, (m8_14 R K1 (e 0) (e 9) (e 12) (e 14) (e 16) w) → (thenE (W8 k8_14 Q) Q) .normal e w := fun e w h => then_N (s8_14 (R := R) (Q := Q) (K1 := K1) hN hR e w h)
  have hX2 : ∀ e w, (m8_10 R w) → (thenE (W8 k8_14 Q) Q) (.exit 2) e w := fun e w h => then_X (hX2 e w h)
  have hN := hN'
  refine seq_ok' (by kernel_rfl) ?_
  have hN' : ∀ e w, (m8_18 R K1 (e 0) (e 9) (e 12) (e 14) (e 16) (e 85) w) → (thenE (W8 k8_18 (thenE (W8 k8_14 Q) Q)) (thenE (W8 k8_14 Q) Q)) .normal e w := fun e w h => then_N (s8_18 (R := R) (Q := (thenE (W8 k8_14 Q) Q)) (K1 := K1) hN hX2 e w h)
  have hN := hN'
  exact region_ok 16 (fun e w => m8_18 R K1 (e 0) (e 9) (e 12) (e 14) (e 16) (e 85) w) (by kernel_rfl) (kcast (by kernel_rfl) h) hN (by kernel_rfl)
theorem s8_12 {R : Value → World → Prop} {Q : Exit → Env → World → Prop} (hN : ∀ e w, (m8_10 R w) → Q .normal e w) (hR : ∀ e w, (R (e 8) w) → Q .ret e w) (e : Env) (w : World) (h : m8_12 R (e 0) (e 9) (e 12) (e 14) (e 16) w) : W8 k8_12 Q e w := by
  unfold m8_12 at h
  refine block_ok 2 (by kernel_rfl) ?_
  have hX2 : ∀ e w, (m8_10 R w) → (inBlockE 2 Q) (.exit 2) e w := fun e w h => inBlock_same (Q := Q) 2 (hN e w h)
  have hR : ∀ e w, (R (e 8) w) → (inBlockE 2 Q) .ret e w := fun e w h => block_R (hR e w h)
  refine loop_ok' (fun (e : Env) => e 16) [0, 9, 12, 14] (by kernel_rfl) (by kernel_rfl) h (fun K e' w' hk h' => ?_)
  have r0 : e' 0 = e 0 := hk 0 (by decide)
  have r9 : e' 9 = e 9 := hk 9 (by decide)
  have r12 : e' 12 = e 12 := hk 12 (by decide)
  have r14 : e' 14 = e 14 := hk 14 (by decide)
  have hR : ∀ e w, (R (e 8) w) → (thenE (fun (e : Env) w => K (e 16) w) (inBlockE 2 Q)) .ret e w := fun e w h => then_R (hR e w h)
  have hX2 : ∀ e w, (m8_10 R w) → (thenE (fun (e : Env) w => K (e 16) w) (inBlockE 2 Q)) (.exit 2) e w := fun e w h => then_X (hX2 e w h)
  exact s8_13 (R := R) (Q := (thenE (fun (e : Env) w => K (e 16) w) (inBlockE 2 Q))) (K1 := K) (fun _ _ h => then_N h) hR hX2 e' w' (by rw [r0, r9, r12, r14]; exact h')
theorem s8_9 {R : Value → World → Prop} {Q : Exit → Env → World → Prop} (hR : ∀ e w, (R (e 8) w) → Q .ret e w) (e : Env) (w : World) (h : m8_9 R (e 0) (e 9) (e 12) (e 14) w) : W8 k8_9 Q e w := by
  unfold m8_9 at h
  refine seq_ok' (by kernel_rfl) ?_
  have hN' : ∀ e w, (m8_10 R w) → (thenE (W8 k8_10 Q) Q) .normal e w := fun e w h => then_N (s8_10 (R := R) (Q := Q) hR e w h)
  have hR : ∀ e w, (R (e 8) w) → (thenE (W8 k8_10 Q) Q) .ret e w := fun e w h => then_R (hR e w h)
  have hN := hN'
  refine seq_ok' (by kernel_rfl) ?_
  have hN' : ∀ e w, (m8_12 R (e 0) (e 9) (e 12) (e 14) (e 16) w) → (thenE (W8 k8_12 (thenE (W8 k8_10 Q) Q)) (thenE (W8 k8_10 Q) Q)) .normal e w := fun e w h => then_N (s8_12 (R := R) (Q := (thenE (W8 k8_10 Q) Q)) hN hR e w h)
  have hN := hN'
  exact region_ok 15 (fun e w => m8_12 R (e 0) (e 9) (e 12) (e 14) (e 16) w) (by kernel_rfl) (kcast (by kernel_rfl) h) hN (by kernel_rfl)
theorem s8_19 {R : Value → World → Prop} {Q : Exit → Env → World → Prop} (hN : ∀ e w, (m8_9 R (e 0) (e 9) (e 12) (e 14) w) → Q .normal e w) (hR : ∀ e w, (R (e 8) w) → Q .ret e w) (e : Env) (w : World) (h : m8_19 R (e 0) (e 9) (e 12) (e 14) (e 82) w) : W8 k8_19 Q e w := by
  unfold m8_19 at h
  refine cond_ok (Operand.tmp 82) (by kernel_rfl) h (fun h1 => ?_) (fun h1 => ?_)
  · refine seq_ok' (by kernel_rfl) ?_
    have hN' : ∀ e w, (m8_20 R (e 8) w) → (thenE (W8 k8_20 Q) Q) .normal e w := fun e w h => then_N (s8_20 (R := R) (Q := Q) hR e w h)
    have hN := hN'
    exact region_ok 14 (fun e w => m8_20 R (e 8) w) (by kernel_rfl) (kcast (by kernel_rfl) h1) hN (by kernel_rfl)
  · exact skip_ok (by kernel_rfl) (hN _ _ h1)
theorem s8_8 {R : Value → World → Prop} {Q : Exit → Env → World → Prop} (hR : ∀ e w, (R (e 8) w) → Q .ret e w) (e : Env) (w : World) (h : m8_8 R (e 0) (e 9) (e 12) (e 14) (e 15) w) : W8 k8_8 Q e w := by
  unfold m8_8 at h
  refine seq_ok' (by kernel_rfl) ?_
  have hN' : ∀ e w, (m8_9 R (e 0) (e 9) (e 12) (e 14) w) → (thenE (W8 k8_9 Q) Q) .normal e w := fun e w h => then_N (s8_9 (R := R) (Q := Q) hR e w h)
  have hR : ∀ e w, (R (e 8) w) → (thenE (W8 k8_9 Q) Q) .ret e w := fun e w h => then_R (hR e w h)
  have hN := hN'
  refine seq_ok' (by kernel_rfl) ?_
  have hN' : ∀ e w, (m8_19 R (e 0) (e 9) (e 12) (e 14) (e 82) w) → (thenE (W8 k8_19 (thenE (W8 k8_9 Q) Q)) (thenE (W8 k8_9 Q) Q)) .normal e w := fun e w h => then_N (s8_19 (R := R) (Q := (thenE (W8 k8_9 Q) Q)) hN hR e w h)
  have hN := hN'
  exact region_ok 13 (fun e w => m8_19 R (e 0) (e 9) (e 12) (e 14) (e 82) w) (by kernel_rfl) (kcast (by kernel_rfl) h) hN (by kernel_rfl)
theorem s8_7 {R : Value → World → Prop} {Q : Exit → Env → World → Prop} (hR : ∀ e w, (R (e 8) w) → Q .ret e w) (e : Env) (w : World) (h : m8_7 R (e 0) (e 9) (e 12) w) : W8 k8_7 Q e w := by
  unfold m8_7 at h
  refine seq_ok' (by kernel_rfl) ?_
  have hN' : ∀ e w, (m8_8 R (e 0) (e 9) (e 12) (e 14) (e 15) w) → (thenE (W8 k8_8 Q) Q) .normal e w := fun e w h => then_N (s8_8 (R := R) (Q := Q) hR e w h)
  have hN := hN'
  exact region_ok 12 (fun e w => m8_8 R (e 0) (e 9) (e 12) (e 14) (e 15) w) (by kernel_rfl) (kcast (by kernel_rfl) h) hN (by kernel_rfl)
theorem s8_26 {R : Value → World → Prop} {K1 : (Value × Value) → World → Prop} {Q : Exit → Env → World → Prop} (hN : ∀ e w, (m8_23 R K1 (e 0) (e 3) (e 9) (e 11) (e 12) (e 13) w) → Q .normal e w) (hX0 : ∀ e w, (m8_7 R (e 0) (e 9) (e 12) w) → Q (.exit 0) e w) (e : Env) (w : World) (h : m8_26 R K1 (e 0) (e 3) (e 9) (e 11) (e 12) (e 13) (e 41) w) : W8 k8_26 Q e w := by
  unfold m8_26 at h
  refine cond_ok (Operand.tmp 41) (by kernel_rfl) h (fun h1 => ?_) (fun h1 => ?_)
  · exact skip_ok (by kernel_rfl) (hN _ _ h1)
  · exact exit_ok 0 (by kernel_rfl) (hX0 _ _ h1)
theorem s8_22 {R : Value → World → Prop} {K1 : (Value × Value) → World → Prop} {Q : Exit → Env → World → Prop} (hN : ∀ e w, (K1 ((e 12), (e 13)) w) → Q .normal e w) (hX0 : ∀ e w, (m8_7 R (e 0) (e 9) (e 12) w) → Q (.exit 0) e w) (e : Env) (w : World) (h : m8_22 R K1 (e 0) (e 3) (e 9) (e 11) (e 12) (e 13) w) : W8 k8_22 Q e w := by
  unfold m8_22 at h
  refine seq_ok' (by kernel_rfl) ?_
  have hN' : ∀ e w, (m8_23 R K1 (e 0) (e 3) (e 9) (e 11) (e 12) (e 13) w) → (thenE (W8 k8_23 Q) Q) .normal e w := fun e w h => then_N (s8_23 (R := R) (Q := Q) (K1 := K1) hN e w h)
  have hX0 : ∀ e w, (m8_7 R (e 0) (e 9) (e 12) w) → (thenE (W8 k8_23 Q) Q) (.exit 0) e w := fun e w h => then_X (hX0 e w h)
  have hN := hN'
  refine seq_ok' (by kernel_rfl) ?_
  have hN' : ∀ e w, (m8_26 R K1 (e 0) (e 3) (e 9) (e 11) (e 12) (e 13) (e 41) w) → (thenE (W8 k8_26 (thenE (W8 k8_23 Q) Q)) (thenE (W8 k8_23 Q) Q)) .normal e w := fun e w h => then_N (s8_26 (R := R) (Q := (thenE (W8 k8_23 Q) Q)) (K1 := K1) hN hX0 e w h)
  have hN := hN'
  exact region_ok 8 (fun e w => m8_26 R K1 (e 0) (e 3) (e 9) (e 11) (e 12) (e 13) (e 41) w) (by kernel_rfl) (kcast (by kernel_rfl) h) hN (by kernel_rfl)
theorem s8_21 {R : Value → World → Prop} {Q : Exit → Env → World → Prop} (hN : ∀ e w, (m8_7 R (e 0) (e 9) (e 12) w) → Q .normal e w) (e : Env) (w : World) (h : m8_21 R (e 0) (e 3) (e 9) (e 11) (e 12) (e 13) w) : W8 k8_21 Q e w := by
  unfold m8_21 at h
  refine block_ok 0 (by kernel_rfl) ?_
  have hX0 : ∀ e w, (m8_7 R (e 0) (e 9) (e 12) w) → (inBlockE 0 Q) (.exit 0) e w := fun e w h => inBlock_same (Q := Q) 0 (hN e w h)
  refine loop_ok' (fun (e : Env) => (e 12, e 13)) [0, 3, 9, 11] (by kernel_rfl) (by kernel_rfl) h (fun K e' w' hk h' => ?_)
  have r0 : e' 0 = e 0 := hk 0 (by decide)
  have r3 : e' 3 = e 3 := hk 3 (by decide)
  have r9 : e' 9 = e 9 := hk 9 (by decide)
  have r11 : e' 11 = e 11 := hk 11 (by decide)
  have hX0 : ∀ e w, (m8_7 R (e 0) (e 9) (e 12) w) → (thenE (fun (e : Env) w => K ((e 12), (e 13)) w) (inBlockE 0 Q)) (.exit 0) e w := fun e w h => then_X (hX0 e w h)
  exact s8_22 (R := R) (Q := (thenE (fun (e : Env) w => K ((e 12), (e 13)) w) (inBlockE 0 Q))) (K1 := K) (fun _ _ h => then_N h) hX0 e' w' (by rw [r0, r3, r9, r11]; exact h')
theorem s8_6 {R : Value → World → Prop} {Q : Exit → Env → World → Prop} (hR : ∀ e w, (R (e 8) w) → Q .ret e w) (e : Env) (w : World) (h : m8_6 R (e 0) (e 3) (e 9) (e 11) (e 12) w) : W8 k8_6 Q e w := by
  unfold m8_6 at h
  refine seq_ok' (by kernel_rfl) ?_
  have hN' : ∀ e w, (m8_7 R (e 0) (e 9) (e 12) w) → (thenE (W8 k8_7 Q) Q) .normal e w := fun e w h => then_N (s8_7 (R := R) (Q := Q) hR e w h)
  have hN := hN'
  refine seq_ok' (by kernel_rfl) ?_
  have hN' : ∀ e w, (m8_21 R (e 0) (e 3) (e 9) (e 11) (e 12) (e 13) w) → (thenE (W8 k8_21 (thenE (W8 k8_7 Q) Q)) (thenE (W8 k8_7 Q) Q)) .normal e w := fun e w h => then_N (s8_21 (R := R) (Q := (thenE (W8 k8_7 Q) Q)) hN e w h)
  have hN := hN'
  exact region_ok 7 (fun e w => m8_21 R (e 0) (e 3) (e 9) (e 11) (e 12) (e 13) w) (by kernel_rfl) (kcast (by kernel_rfl) h) hN (by kernel_rfl)
theorem s8_5 {R : Value → World → Prop} {Q : Exit → Env → World → Prop} (hR : ∀ e w, (R (e 8) w) → Q .ret e w) (e : Env) (w : World) (h : m8_5 R (e 0) (e 3) (e 9) (e 11) w) : W8 k8_5 Q e w := by
  unfold m8_5 at h
  refine seq_ok' (by kernel_rfl) ?_
  have hN' : ∀ e w, (m8_6 R (e 0) (e 3) (e 9) (e 11) (e 12) w) → (thenE (W8 k8_6 Q) Q) .normal e w := fun e w h => then_N (s8_6 (R := R) (Q := Q) hR e w h)
  have hN := hN'
  exact region_ok 6 (fun e w => m8_6 R (e 0) (e 3) (e 9) (e 11) (e 12) w) (by kernel_rfl) (kcast (by kernel_rfl) h) hN (by kernel_rfl)
theorem s8_4 {R : Value → World → Prop} {Q : Exit → Env → World → Prop} (hR : ∀ e w, (R (e 8) w) → Q .ret e w) (e : Env) (w : World) (h : m8_4 R (e 0) (e 1) (e 3) (e 9) w) : W8 k8_4 Q e w := by
  unfold m8_4 at h
  refine seq_ok' (by kernel_rfl) ?_
  have hN' : ∀ e w, (m8_5 R (e 0) (e 3) (e 9) (e 11) w) → (thenE (W8 k8_5 Q) Q) .normal e w := fun e w h => then_N (s8_5 (R := R) (Q := Q) hR e w h)
  have hN := hN'
  exact region_ok 5 (fun e w => m8_5 R (e 0) (e 3) (e 9) (e 11) w) (by kernel_rfl) (kcast (by kernel_rfl) h) hN (by kernel_rfl)
theorem s8_27 {R : Value → World → Prop} {Q : Exit → Env → World → Prop} (hN : ∀ e w, (m8_4 R (e 0) (e 1) (e 3) (e 9) w) → Q .normal e w) (hR : ∀ e w, (R (e 8) w) → Q .ret e w) (e : Env) (w : World) (h : m8_27 R (e 0) (e 1) (e 3) (e 9) (e 29) w) : W8 k8_27 Q e w := by
  unfold m8_27 at h
  refine cond_ok (Operand.tmp 29) (by kernel_rfl) h (fun h1 => ?_) (fun h1 => ?_)
  · refine seq_ok' (by kernel_rfl) ?_
    have hN' : ∀ e w, (m8_28 R (e 8) w) → (thenE (W8 k8_28 Q) Q) .normal e w := fun e w h => then_N (s8_28 (R := R) (Q := Q) hR e w h)
    have hN := hN'
    exact region_ok 4 (fun e w => m8_28 R (e 8) w) (by kernel_rfl) (kcast (by kernel_rfl) h1) hN (by kernel_rfl)
  · exact skip_ok (by kernel_rfl) (hN _ _ h1)
theorem s8_3 {R : Value → World → Prop} {Q : Exit → Env → World → Prop} (hR : ∀ e w, (R (e 8) w) → Q .ret e w) (e : Env) (w : World) (h : m8_3 R (e 0) (e 1) (e 3) (e 9) (e 10) w) : W8 k8_3 Q e w := by
  unfold m8_3 at h
  refine seq_ok' (by kernel_rfl) ?_
  have hN' : ∀ e w, (m8_4 R (e 0) (e 1) (e 3) (e 9) w) → (thenE (W8 k8_4 Q) Q) .normal e w := fun e w h => then_N (s8_4 (R := R) (Q := Q) hR e w h)
  have hR : ∀ e w, (R (e 8) w) → (thenE (W8 k8_4 Q) Q) .ret e w := fun e w h => then_R (hR e w h)
  have hN := hN'
  refine seq_ok' (by kernel_rfl) ?_
  have hN' : ∀ e w, (m8_27 R (e 0) (e 1) (e 3) (e 9) (e 29) w) → (thenE (W8 k8_27 (thenE (W8 k8_4 Q) Q)) (thenE (W8 k8_4 Q) Q)) .normal e w := fun e w h => then_N (s8_27 (R := R) (Q := (thenE (W8 k8_4 Q) Q)) hN hR e w h)
  have hN := hN'
  exact region_ok 3 (fun e w => m8_27 R (e 0) (e 1) (e 3) (e 9) (e 29) w) (by kernel_rfl) (kcast (by kernel_rfl) h) hN (by kernel_rfl)
theorem s8_2 {R : Value → World → Prop} {Q : Exit → Env → World → Prop} (hR : ∀ e w, (R (e 8) w) → Q .ret e w) (e : Env) (w : World) (h : m8_2 R (e 0) (e 1) (e 2) (e 3) w) : W8 k8_2 Q e w := by
  unfold m8_2 at h
  refine seq_ok' (by kernel_rfl) ?_
  have hN' : ∀ e w, (m8_3 R (e 0) (e 1) (e 3) (e 9) (e 10) w) → (thenE (W8 k8_3 Q) Q) .normal e w := fun e w h => then_N (s8_3 (R := R) (Q := Q) hR e w h)
  have hN := hN'
  exact region_ok 2 (fun e w => m8_3 R (e 0) (e 1) (e 3) (e 9) (e 10) w) (by kernel_rfl) (kcast (by kernel_rfl) h) hN (by kernel_rfl)
theorem s8_1 {R : Value → World → Prop} {Q : Exit → Env → World → Prop} (hR : ∀ e w, (R (e 8) w) → Q .ret e w) (e : Env) (w : World) (h : m8_1 R (e 0) (e 1) (e 2) (e 3) w) : W8 k8_1 Q e w := by
  unfold m8_1 at h
  refine seq_ok' (by kernel_rfl) ?_
  have hN' : ∀ e w, (m8_2 R (e 0) (e 1) (e 2) (e 3) w) → (thenE (W8 k8_2 Q) Q) .normal e w := fun e w h => then_N (s8_2 (R := R) (Q := Q) hR e w h)
  have hN := hN'
  exact region_ok 1 (fun e w => m8_2 R (e 0) (e 1) (e 2) (e 3) w) (by kernel_rfl) (kcast (by kernel_rfl) h) hN (by kernel_rfl)
theorem s8_0 {R : Value → World → Prop} {Q : Exit → Env → World → Prop} (hR : ∀ e w, (R (e 8) w) → Q .ret e w) (e : Env) (w : World) (h : m8_0 R (e 0) (e 1) (e 2) (e 3) w) : W8 k8_0 Q e w := by
  unfold m8_0 at h
  refine seq_ok' (by kernel_rfl) ?_
  have hN' : ∀ e w, (m8_1 R (e 0) (e 1) (e 2) (e 3) w) → (thenE (W8 k8_1 Q) Q) .normal e w := fun e w h => then_N (s8_1 (R := R) (Q := Q) hR e w h)
  have hN := hN'
  exact region_ok 0 (fun e w => m8_1 R (e 0) (e 1) (e 2) (e 3) w) (by kernel_rfl) (kcast (by kernel_rfl) h) hN (by kernel_rfl)
abbrev m8 (R : Value → World → Prop) (parts0 : Value) (members1 : Value) (old2 : Value) (gone3 : Value) (w : World) : Prop := m8_0 R parts0 members1 old2 gone3 w
theorem s8 (parts0 : Value) (members1 : Value) (old2 : Value) (gone3 : Value) {R : Value → World → Prop} {w : World} (h : m8 R parts0 members1 old2 gone3 w) :
    Calls Try.prog 8 #[parts0, members1, old2, gone3] w fun e w' => ∃ v, e = .returned v ∧ R v w' :=
  calls_of_cwp (st := (fun i => 0)) (c := k8_0) (by kernel_rfl) Try.func8 (by kernel_rfl) (Nat.le_of_ble_eq_true (by kernel_rfl)) (by kernel_rfl)
    (s8_0 (R := R) (Q := endE Try.prog Try.f8 R) (fun e w h => kcast (by kernel_rfl) h) (argsE #[parts0, members1, old2, gone3]) w (kcast (by kernel_rfl) h))
/-! ### headgate/headgatelaw09.AssignOrder -/
def m9_15 (R : Value → World → Prop) (K1 : (Value × Value) → World → Prop) (parts0 : Value) (members1 : Value) (old2 : Value) (more3 : Value) (turned9 : Value) (i10 : Value) (w : World) : Prop :=
  valP Try.prog (binS BinOp.sub 3 (Operand.tmp 28) (Operand.const (Value.int IntKind.i64 1)) i10 (Value.int IntKind.i64 1)) w fun t29 w =>
  K1 (turned9, t29) w
def m9_16 (R : Value → World → Prop) (K1 : (Value × Value) → World → Prop) (parts0 : Value) (members1 : Value) (old2 : Value) (more3 : Value) (turned9 : Value) (i10 : Value) (w : World) : Prop :=
  valP Try.prog (Instr.indexAt 22 members1 i10) w fun t40 w =>
  valP Try.prog (Instr.loadAt 3 t40) w fun t41 w =>
  valP Try.prog (Instr.buildSlice 22 1 #[(0, t41)]) w fun t42 w =>
  builtinP Try.prog Builtin.append #[22, 22] 22 #[false, false] #[turned9, t42] w fun t43 w =>
  m9_15 R K1 parts0 members1 old2 more3 t43 i10 w
def m9_14 (R : Value → World → Prop) (K1 : (Value × Value) → World → Prop) (parts0 : Value) (members1 : Value) (old2 : Value) (more3 : Value) (turned9 : Value) (i10 : Value) (w : World) : Prop :=
  valP Try.prog (Instr.indexAt 22 members1 i10) w fun t33 w =>
  valP Try.prog (Instr.loadAt 3 t33) w fun t34 w =>
  valP Try.prog (Instr.buildSlice 22 1 #[(0, t34)]) w fun t35 w =>
  builtinP Try.prog Builtin.append #[22, 22] 22 #[false, false] #[turned9, t35] w fun t36 w =>
  m9_16 R K1 parts0 members1 old2 more3 t36 i10 w
def m9_10 (R : Value → World → Prop) (t8 : Value) (w : World) : Prop :=
  R t8 w
def m9_9 (R : Value → World → Prop) (a11 : Value) (e12 : Value) (b13 : Value) (f14 : Value) (c15 : Value) (g16 : Value) (d17 : Value) (h18 : Value) (w : World) : Prop :=
  callP Try.prog (fnV 13) #[a11, b13] w fun t78 w =>
  condP t78
  (valP Try.prog (binS BinOp.eql 24 (Operand.tmp 80) (Operand.tmp 81) e12 f14) w fun t82 w =>
  pickP t78 t82 (Value.bool false) fun t83 =>
  condP t83
  (callP Try.prog (fnV 13) #[c15, d17] w fun t87 w =>
  pickP t83 t87 (Value.bool false) fun t88 =>
  condP t88
  (valP Try.prog (binS BinOp.eql 24 (Operand.tmp 90) (Operand.tmp 91) g16 h18) w fun t92 w =>
  pickP t88 t92 (Value.bool false) fun t93 =>
  condP t93
  (callP Try.prog (fnV 14) #[] w fun t95 w =>
  pickP t93 t95 (Value.bool false) fun t96 =>
  m9_10 R t96 w)
  (pickP t93 undef (Value.bool false) fun t96 =>
  m9_10 R t96 w))
  (pickP t88 undef (Value.bool false) fun t93 =>
  condP t93
  (callP Try.prog (fnV 14) #[] w fun t95 w =>
  pickP t93 t95 (Value.bool false) fun t96 =>
  m9_10 R t96 w)
  (pickP t93 undef (Value.bool false) fun t96 =>
  m9_10 R t96 w)))
  (pickP t83 undef (Value.bool false) fun t88 =>
  condP t88
  (valP Try.prog (binS BinOp.eql 24 (Operand.tmp 90) (Operand.tmp 91) g16 h18) w fun t92 w =>
  pickP t88 t92 (Value.bool false) fun t93 =>
  condP t93
  (callP Try.prog (fnV 14) #[] w fun t95 w =>
  pickP t93 t95 (Value.bool false) fun t96 =>
  m9_10 R t96 w)
  (pickP t93 undef (Value.bool false) fun t96 =>
  m9_10 R t96 w))
  (pickP t88 undef (Value.bool false) fun t93 =>
  condP t93
  (callP Try.prog (fnV 14) #[] w fun t95 w =>
  pickP t93 t95 (Value.bool false) fun t96 =>
  m9_10 R t96 w)
  (pickP t93 undef (Value.bool false) fun t96 =>
  m9_10 R t96 w))))
  (pickP t78 undef (Value.bool false) fun t83 =>
  condP t83
  (callP Try.prog (fnV 13) #[c15, d17] w fun t87 w =>
  pickP t83 t87 (Value.bool false) fun t88 =>
  condP t88
  (valP Try.prog (binS BinOp.eql 24 (Operand.tmp 90) (Operand.tmp 91) g16 h18) w fun t92 w =>
  pickP t88 t92 (Value.bool false) fun t93 =>
  condP t93
  (callP Try.prog (fnV 14) #[] w fun t95 w =>
  pickP t93 t95 (Value.bool false) fun t96 =>
  m9_10 R t96 w)
  (pickP t93 undef (Value.bool false) fun t96 =>
  m9_10 R t96 w))
  (pickP t88 undef (Value.bool false) fun t93 =>
  condP t93
  (callP Try.prog (fnV 14) #[] w fun t95 w =>
  pickP t93 t95 (Value.bool false) fun t96 =>
  m9_10 R t96 w)
  (pickP t93 undef (Value.bool false) fun t96 =>
  m9_10 R t96 w)))
  (pickP t83 undef (Value.bool false) fun t88 =>
  condP t88
  (valP Try.prog (binS BinOp.eql 24 (Operand.tmp 90) (Operand.tmp 91) g16 h18) w fun t92 w =>
  pickP t88 t92 (Value.bool false) fun t93 =>
  condP t93
  (callP Try.prog (fnV 14) #[] w fun t95 w =>
  pickP t93 t95 (Value.bool false) fun t96 =>
  m9_10 R t96 w)
  (pickP t93 undef (Value.bool false) fun t96 =>
  m9_10 R t96 w))
  (pickP t88 undef (Value.bool false) fun t93 =>
  condP t93
  (callP Try.prog (fnV 14) #[] w fun t95 w =>
  pickP t93 t95 (Value.bool false) fun t96 =>
  m9_10 R t96 w)
  (pickP t93 undef (Value.bool false) fun t96 =>
  m9_10 R t96 w))))
def m9_8 (R : Value → World → Prop) (parts0 : Value) (old2 : Value) (turned9 : Value) (a11 : Value) (e12 : Value) (b13 : Value) (f14 : Value) (c15 : Value) (g16 : Value) (w : World) : Prop :=
  callP Try.prog (fnV 15) #[parts0, turned9, old2] w fun t73 w =>
  valP Try.prog (Instr.extract t73 0) w fun t74 w =>
  valP Try.prog (Instr.extract t73 1) w fun t75 w =>
  m9_9 R a11 e12 b13 f14 c15 g16 t74 t75 w
def m9_7 (R : Value → World → Prop) (parts0 : Value) (members1 : Value) (old2 : Value) (turned9 : Value) (a11 : Value) (e12 : Value) (b13 : Value) (f14 : Value) (w : World) : Prop :=
  callP Try.prog (fnV 15) #[parts0, members1, old2] w fun t66 w =>
  valP Try.prog (Instr.extract t66 0) w fun t67 w =>
  valP Try.prog (Instr.extract t66 1) w fun t68 w =>
  m9_8 R parts0 old2 turned9 a11 e12 b13 f14 t67 t68 w
def m9_6 (R : Value → World → Prop) (parts0 : Value) (members1 : Value) (old2 : Value) (turned9 : Value) (a11 : Value) (e12 : Value) (w : World) : Prop :=
  callP Try.prog (fnV 11) #[parts0, turned9] w fun t59 w =>
  valP Try.prog (Instr.extract t59 0) w fun t60 w =>
  valP Try.prog (Instr.extract t59 1) w fun t61 w =>
  m9_7 R parts0 members1 old2 turned9 a11 e12 t60 t61 w
def m9_5 (R : Value → World → Prop) (parts0 : Value) (members1 : Value) (old2 : Value) (turned9 : Value) (w : World) : Prop :=
  callP Try.prog (fnV 11) #[parts0, members1] w fun t53 w =>
  valP Try.prog (Instr.extract t53 0) w fun t54 w =>
  valP Try.prog (Instr.extract t53 1) w fun t55 w =>
  m9_6 R parts0 members1 old2 turned9 t54 t55 w
def m9_11 (R : Value → World → Prop) (parts0 : Value) (members1 : Value) (old2 : Value) (more3 : Value) (turned9 : Value) (t45 : Value) (w : World) : Prop :=
  condP t45
  (valP Try.prog (Instr.buildSlice 22 1 #[(0, more3)]) w fun t48 w =>
  builtinP Try.prog Builtin.append #[22, 22] 22 #[false, false] #[turned9, t48] w fun t49 w =>
  m9_5 R parts0 members1 old2 t49 w)
  (m9_5 R parts0 members1 old2 turned9 w)
def m9_4 (R : Value → World → Prop) (parts0 : Value) (members1 : Value) (old2 : Value) (more3 : Value) (turned9 : Value) (w : World) : Prop :=
  valP Try.prog (binS BinOp.leq 3 (Operand.tmp 44) (Operand.const (Value.int IntKind.i64 0)) more3 (Value.int IntKind.i64 0)) w fun t45 w =>
  m9_11 R parts0 members1 old2 more3 turned9 t45 w
def m9_17 (R : Value → World → Prop) (K1 : (Value × Value) → World → Prop) (parts0 : Value) (members1 : Value) (old2 : Value) (more3 : Value) (turned9 : Value) (i10 : Value) (t27 : Value) (w : World) : Prop :=
  condP t27
  (m9_14 R K1 parts0 members1 old2 more3 turned9 i10 w)
  (m9_4 R parts0 members1 old2 more3 turned9 w)
def m9_13 (R : Value → World → Prop) (K1 : (Value × Value) → World → Prop) (parts0 : Value) (members1 : Value) (old2 : Value) (more3 : Value) (turned9 : Value) (i10 : Value) (w : World) : Prop :=
  valP Try.prog (binS BinOp.geq 3 (Operand.tmp 26) (Operand.const (Value.int IntKind.i64 0)) i10 (Value.int IntKind.i64 0)) w fun t27 w =>
  m9_17 R K1 parts0 members1 old2 more3 turned9 i10 t27 w
def m9_12 (R : Value → World → Prop) (parts0 : Value) (members1 : Value) (old2 : Value) (more3 : Value) (turned9 : Value) (i10 : Value) (w : World) : Prop :=
  loopP (fun (K1 : (Value × Value) → World → Prop) (s : Value × Value) w => m9_13 R K1 parts0 members1 old2 more3 s.1 s.2 w) (turned9, i10) w
def m9_3 (R : Value → World → Prop) (parts0 : Value) (members1 : Value) (old2 : Value) (more3 : Value) (turned9 : Value) (w : World) : Prop :=
  builtinP Try.prog Builtin.len #[22] 3 #[false] #[members1] w fun t24 w =>
  valP Try.prog (binS BinOp.sub 3 (Operand.tmp 24) (Operand.const (Value.int IntKind.i64 1)) t24 (Value.int IntKind.i64 1)) w fun t25 w =>
  m9_12 R parts0 members1 old2 more3 turned9 t25 w
def m9_2 (R : Value → World → Prop) (parts0 : Value) (members1 : Value) (old2 : Value) (more3 : Value) (w : World) : Prop :=
  m9_3 R parts0 members1 old2 more3 (Value.slice none 0 0) w
def m9_1 (R : Value → World → Prop) (parts0 : Value) (members1 : Value) (old2 : Value) (more3 : Value) (w : World) : Prop :=
  callP Try.prog (fnV 10) #[members1] w fun t20 w =>
  callP Try.prog (fnV 10) #[old2] w fun t22 w =>
  m9_2 R parts0 t20 t22 more3 w
def m9_0 (R : Value → World → Prop) (parts0 : Value) (members1 : Value) (old2 : Value) (more3 : Value) (w : World) : Prop :=
  m9_1 R parts0 members1 old2 more3 w
abbrev W9 := cwp Try.prog (fun i => 0)
noncomputable def k9_0 : Code := (bodyOf Try.f9)
noncomputable def k9_1 : Code := (c2 k9_0)
noncomputable def k9_2 : Code := (c2 k9_1)
noncomputable def k9_3 : Code := (c2 k9_2)
noncomputable def k9_4 : Code := (c2 k9_3)
noncomputable def k9_5 : Code := (c2 k9_4)
noncomputable def k9_6 : Code := (c2 k9_5)
noncomputable def k9_7 : Code := (c2 k9_6)
noncomputable def k9_8 : Code := (c2 k9_7)
noncomputable def k9_9 : Code := (c2 k9_8)
noncomputable def k9_10 : Code := (c2 k9_9)
noncomputable def k9_11 : Code := (c2 (c1 k9_4))
noncomputable def k9_12 : Code := (c2 (c1 k9_3))
noncomputable def k9_13 : Code := (c1 (c1 k9_12))
noncomputable def k9_14 : Code := (c2 k9_13)
noncomputable def k9_15 : Code := (c2 k9_14)
noncomputable def k9_16 : Code := (c2 (c1 (c1 k9_14)))
noncomputable def k9_17 : Code := (c2 (c1 k9_13))
theorem s9_15 {R : Value → World → Prop} {K1 : (Value × Value) → World → Prop} {Q : Exit → Env → World → Prop} (hN : ∀ e w, (K1 ((e 9), (e 10)) w) → Q .normal e w) (e : Env) (w : World) (h : m9_15 R K1 (e 0) (e 1) (e 2) (e 3) (e 9) (e 10) w) : W9 k9_15 Q e w := by
  unfold m9_15 at h
  exact region_ok 5 (fun e w => K1 ((e 9), (e 10)) w) (by kernel_rfl) (kcast (by kernel_rfl) h) hN (by kernel_rfl)
theorem s9_16 {R : Value → World → Prop} {K1 : (Value × Value) → World → Prop} {Q : Exit → Env → World → Prop} (hN : ∀ e w, (m9_15 R K1 (e 0) (e 1) (e 2) (e 3) (e 9) (e 10) w) → Q .normal e w) (e : Env) (w : World) (h : m9_16 R K1 (e 0) (e 1) (e 2) (e 3) (e 9) (e 10) w) : W9 k9_16 Q e w := by
  unfold m9_16 at h
  exact region_ok 7 (fun e w => m9_15 R K1 (e 0) (e 1) (e 2) (e 3) (e 9) (e 10) w) (by kernel_rfl) (kcast (by kernel_rfl) h) hN (by kernel_rfl)
theorem s9_14 {R : Value → World → Prop} {K1 : (Value × Value) → World → Prop} {Q : Exit → Env → World → Prop} (hN : ∀ e w, (K1 ((e 9), (e 10)) w) → Q .normal e w) (e : Env) (w : World) (h : m9_14 R K1 (e 0) (e 1) (e 2) (e 3) (e 9) (e 10) w) : W9 k9_14 Q e w := by
  unfold m9_14 at h
  refine seq_ok' (by kernel_rfl) ?_
  have hN' : ∀ e w, (m9_15 R K1 (e 0) (e 1) (e 2) (e 3) (e 9) (e 10) w) → (thenE (W9 k9_15 Q) Q) .normal e w := fun e w h => then_N (s9_15 (R := R) (Q := Q) (K1 := K1) hN e w h)
  have hN := hN'
  refine block_ok 1 (by kernel_rfl) ?_
  have hN : ∀ e w, (m9_15 R K1 (e 0) (e 1) (e 2) (e 3) (e 9) (e 10) w) → (inBlockE 1 (thenE (W9 k9_15 Q) Q)) .normal e w := fun e w h => block_N (hN e w h)
  refine seq_ok' (by kernel_rfl) ?_
  have hN' : ∀ e w, (m9_16 R K1 (e 0) (e 1) (e 2) (e 3) (e 9) (e 10) w) → (thenE (W9 k9_16 (inBlockE 1 (thenE (W9 k9_15 Q) Q))) (inBlockE 1 (thenE (W9 k9_15 Q) Q))) .normal e w := fun e w h => then_N (s9_16 (R := R) (Q := (inBlockE 1 (thenE (W9 k9_15 Q) Q))) (K1 := K1) hN e w h)
  have hN := hN'
  exact region_ok 6 (fun e w => m9_16 R K1 (e 0) (e 1) (e 2) (e 3) (e 9) (e 10) w) (by kernel_rfl) (kcast (by kernel_rfl) h) hN (by kernel_rfl)
theorem s9_10 {R : Value → World → Prop} {Q : Exit → Env → World → Prop} (hR : ∀ e w, (R (e 8) w) → Q .ret e w) (e : Env) (w : World) (h : m9_10 R (e 8) w) : W9 k9_10 Q e w := by
  unfold m9_10 at h
  exact ret_ok (by kernel_rfl) (hR _ _ h)
theorem s9_9 {R : Value → World → Prop} {Q : Exit → Env → World → Prop} (hR : ∀ e w, (R (e 8) w) → Q .ret e w) (e : Env) (w : World) (h : m9_9 R (e 11) (e 12) (e 13) (e 14) (e 15) (e 16) (e 17) (e 18) w) : W9 k9_9 Q e w := by
  unfold m9_9 at h
  refine seq_ok' (by kernel_rfl) ?_
  have hN' : ∀ e w, (m9_10 R (e 8) w) → (thenE (W9 k9_10 Q) Q) .normal e w := fun e w h => then_N (s9_10 (R := R) (Q := Q) hR e w h)
  have hN := hN'
  exact region_ok 14 (fun e w => m9_10 R (e 8) w) (by kernel_rfl) (kcast (by kernel_rfl) h) hN (by kernel_rfl)
theorem s9_8 {R : Value → World → Prop} {Q : Exit → Env → World → Prop} (hR : ∀ e w, (R (e 8) w) → Q .ret e w) (e : Env) (w : World) (h : m9_8 R (e 0) (e 2) (e 9) (e 11) (e 12) (e 13) (e 14) (e 15) (e 16) w) : W9 k9_8 Q e w := by
  unfold m9_8 at h
  refine seq_ok' (by kernel_rfl) ?_
  have hN' : ∀ e w, (m9_9 R (e 11) (e 12) (e 13) (e 14) (e 15) (e 16) (e 17) (e 18) w) → (thenE (W9 k9_9 Q) Q) .normal e w := fun e w h => then_N (s9_9 (R := R) (Q := Q) hR e w h)
  have hN := hN'
  exact region_ok 13 (fun e w => m9_9 R (e 11) (e 12) (e 13) (e 14) (e 15) (e 16) (e 17) (e 18) w) (by kernel_rfl) (kcast (by kernel_rfl) h) hN (by kernel_rfl)
theorem s9_7 {R : Value → World → Prop} {Q : Exit → Env → World → Prop} (hR : ∀ e w, (R (e 8) w) → Q .ret e w) (e : Env) (w : World) (h : m9_7 R (e 0) (e 1) (e 2) (e 9) (e 11) (e 12) (e 13) (e 14) w) : W9 k9_7 Q e w := by
  unfold m9_7 at h
  refine seq_ok' (by kernel_rfl) ?_
  have hN' : ∀ e w, (m9_8 R (e 0) (e 2) (e 9) (e 11) (e 12) (e 13) (e 14) (e 15) (e 16) w) → (thenE (W9 k9_8 Q) Q) .normal e w := fun e w h => then_N (s9_8 (R := R) (Q := Q) hR e w h)
  have hN := hN'
  exact region_ok 12 (fun e w => m9_8 R (e 0) (e 2) (e 9) (e 11) (e 12) (e 13) (e 14) (e 15) (e 16) w) (by kernel_rfl) (kcast (by kernel_rfl) h) hN (by kernel_rfl)
theorem s9_6 {R : Value → World → Prop} {Q : Exit → Env → World → Prop} (hR : ∀ e w, (R (e 8) w) → Q .ret e w) (e : Env) (w : World) (h : m9_6 R (e 0) (e 1) (e 2) (e 9) (e 11) (e 12) w) : W9 k9_6 Q e w := by
  unfold m9_6 at h
  refine seq_ok' (by kernel_rfl) ?_
  have hN' : ∀ e w, (m9_7 R (e 0) (e 1) (e 2) (e 9) (e 11) (e 12) (e 13) (e 14) w) → (thenE (W9 k9_7 Q) Q) .normal e w := fun e w h => then_N (s9_7 (R := R) (Q := Q) hR e w h)
  have hN := hN'
  exact region_ok 11 (fun e w => m9_7 R (e 0) (e 1) (e 2) (e 9) (e 11) (e 12) (e 13) (e 14) w) (by kernel_rfl) (kcast (by kernel_rfl) h) hN (by kernel_rfl)
theorem s9_5 {R : Value → World → Prop} {Q : Exit → Env → World → Prop} (hR : ∀ e w, (R (e 8) w) → Q .ret e w) (e : Env) (w : World) (h : m9_5 R (e 0) (e 1) (e 2) (e 9) w) : W9 k9_5 Q e w := by
  unfold m9_5 at h
  refine seq_ok' (by kernel_rfl) ?_
  have hN' : ∀ e w, (m9_6 R (e 0) (e 1) (e 2) (e 9) (e 11) (e 12) w) → (thenE (W9 k9_6 Q) Q) .normal e w := fun e w h => then_N (s9_6 (R := R) (Q := Q) hR e w h)
  have hN := hN'
  exact region_ok 10 (fun e w => m9_6 R (e 0) (e 1) (e 2) (e 9) (e 11) (e 12) w) (by kernel_rfl) (kcast (by kernel_rfl) h) hN (by kernel_rfl)
theorem s9_11 {R : Value → World → Prop} {Q : Exit → Env → World → Prop} (hN : ∀ e w, (m9_5 R (e 0) (e 1) (e 2) (e 9) w) → Q .normal e w) (e : Env) (w : World) (h : m9_11 R (e 0) (e 1) (e 2) (e 3) (e 9) (e 45) w) : W9 k9_11 Q e w := by
  unfold m9_11 at h
  refine cond_ok (Operand.tmp 45) (by kernel_rfl) h (fun h1 => ?_) (fun h1 => ?_)
  · exact region_ok 9 (fun e w => m9_5 R (e 0) (e 1) (e 2) (e 9) w) (by kernel_rfl) (kcast (by kernel_rfl) h1) hN (by kernel_rfl)
  · exact skip_ok (by kernel_rfl) (hN _ _ h1)
theorem s9_4 {R : Value → World → Prop} {Q : Exit → Env → World → Prop} (hR : ∀ e w, (R (e 8) w) → Q .ret e w) (e : Env) (w : World) (h : m9_4 R (e 0) (e 1) (e 2) (e 3) (e 9) w) : W9 k9_4 Q e w := by
  unfold m9_4 at h
  refine seq_ok' (by kernel_rfl) ?_
  have hN' : ∀ e w, (m9_5 R (e 0) (e 1) (e 2) (e 9) w) → (thenE (W9 k9_5 Q) Q) .normal e w := fun e w h => then_N (s9_5 (R := R) (Q := Q) hR e w h)
  have hN := hN'
  refine seq_ok' (by kernel_rfl) ?_
  have hN' : ∀ e w, (m9_11 R (e 0) (e 1) (e 2) (e 3) (e 9) (e 45) w) → (thenE (W9 k9_11 (thenE (W9 k9_5 Q) Q)) (thenE (W9 k9_5 Q) Q)) .normal e w := fun e w h => then_N (s9_11 (R := R) (Q := (thenE (W9 k9_5 Q) Q)) hN e w h)
  have hN := hN'
  exact region_ok 8 (fun e w => m9_11 R (e 0) (e 1) (e 2) (e 3) (e 9) (e 45) w) (by kernel_rfl) (kcast (by kernel_rfl) h) hN (by kernel_rfl)
theorem s9_17 {R : Value → World → Prop} {K1 : (Value × Value) → World → Prop} {Q : Exit → Env → World → Prop} (hN : ∀ e w, (m9_14 R K1 (e 0) (e 1) (e 2) (e 3) (e 9) (e 10) w) → Q .normal e w) (hX0 : ∀ e w, (m9_4 R (e 0) (e 1) (e 2) (e 3) (e 9) w) → Q (.exit 0) e w) (e : Env) (w : World) (h : m9_17 R K1 (e 0) (e 1) (e 2) (e 3) (e 9) (e 10) (e 27) w) : W9 k9_17 Q e w := by
  unfold m9_17 at h
  refine cond_ok (Operand.tmp 27) (by kernel_rfl) h (fun h1 => ?_) (fun h1 => ?_)
  · exact skip_ok (by kernel_rfl) (hN _ _ h1)
  · exact exit_ok 0 (by kernel_rfl) (hX0 _ _ h1)
theorem s9_13 {R : Value → World → Prop} {K1 : (Value × Value) → World → Prop} {Q : Exit → Env → World → Prop} (hN : ∀ e w, (K1 ((e 9), (e 10)) w) → Q .normal e w) (hX0 : ∀ e w, (m9_4 R (e 0) (e 1) (e 2) (e 3) (e 9) w) → Q (.exit 0) e w) (e : Env) (w : World) (h : m9_13 R K1 (e 0) (e 1) (e 2) (e 3) (e 9) (e 10) w) : W9 k9_13 Q e w := by
  unfold m9_13 at h
  refine seq_ok' (by kernel_rfl) ?_
  have hN' : ∀ e w, (m9_14 R K1 (e 0) (e 1) (e 2) (e 3) (e 9) (e 10) w) → (thenE (W9 k9_14 Q) Q) .normal e w := fun e w h => then_N (s9_14 (R := R) (Q := Q) (K1 := K1) hN e w h)
  have hX0 : ∀ e w, (m9_4 R (e 0) (e 1) (e 2) (e 3) (e 9) w) → (thenE (W9 k9_14 Q) Q) (.exit 0) e w := fun e w h => then_X (hX0 e w h)
  have hN := hN'
  refine seq_ok' (by kernel_rfl) ?_
  have hN' : ∀ e w, (m9_17 R K1 (e 0) (e 1) (e 2) (e 3) (e 9) (e 10) (e 27) w) → (thenE (W9 k9_17 (thenE (W9 k9_14 Q) Q)) (thenE (W9 k9_14 Q) Q)) .normal e w := fun e w h => then_N (s9_17 (R := R) (Q := (thenE (W9 k9_14 Q) Q)) (K1 := K1) hN hX0 e w h)
  have hN := hN'
  exact region_ok 4 (fun e w => m9_17 R K1 (e 0) (e 1) (e 2) (e 3) (e 9) (e 10) (e 27) w) (by kernel_rfl) (kcast (by kernel_rfl) h) hN (by kernel_rfl)
theorem s9_12 {R : Value → World → Prop} {Q : Exit → Env → World → Prop} (hN : ∀ e w, (m9_4 R (e 0) (e 1) (e 2) (e 3) (e 9) w) → Q .normal e w) (e : Env) (w : World) (h : m9_12 R (e 0) (e 1) (e 2) (e 3) (e 9) (e 10) w) : W9 k9_12 Q e w := by
  unfold m9_12 at h
  refine block_ok 0 (by kernel_rfl) ?_
  have hX0 : ∀ e w, (m9_4 R (e 0) (e 1) (e 2) (e 3) (e 9) w) → (inBlockE 0 Q) (.exit 0) e w := fun e w h => inBlock_same (Q := Q) 0 (hN e w h)
  refine loop_ok' (fun (e : Env) => (e 9, e 10)) [0, 1, 2, 3] (by kernel_rfl) (by kernel_rfl) h (fun K e' w' hk h' => ?_)
  have r0 : e' 0 = e 0 := hk 0 (by decide)
  have r1 : e' 1 = e 1 := hk 1 (by decide)
  have r2 : e' 2 = e 2 := hk 2 (by decide)
  have r3 : e' 3 = e 3 := hk 3 (by decide)
  have hX0 : ∀ e w, (m9_4 R (e 0) (e 1) (e 2) (e 3) (e 9) w) → (thenE (fun (e : Env) w => K ((e 9), (e 10)) w) (inBlockE 0 Q)) (.exit 0) e w := fun e w h => then_X (hX0 e w h)
  exact s9_13 (R := R) (Q := (thenE (fun (e : Env) w => K ((e 9), (e 10)) w) (inBlockE 0 Q))) (K1 := K) (fun _ _ h => then_N h) hX0 e' w' (by rw [r0, r1, r2, r3]; exact h')
theorem s9_3 {R : Value → World → Prop} {Q : Exit → Env → World → Prop} (hR : ∀ e w, (R (e 8) w) → Q .ret e w) (e : Env) (w : World) (h : m9_3 R (e 0) (e 1) (e 2) (e 3) (e 9) w) : W9 k9_3 Q e w := by
  unfold m9_3 at h
  refine seq_ok' (by kernel_rfl) ?_
  have hN' : ∀ e w, (m9_4 R (e 0) (e 1) (e 2) (e 3) (e 9) w) → (thenE (W9 k9_4 Q) Q) .normal e w := fun e w h => then_N (s9_4 (R := R) (Q := Q) hR e w h)
  have hN := hN'
  refine seq_ok' (by kernel_rfl) ?_
  have hN' : ∀ e w, (m9_12 R (e 0) (e 1) (e 2) (e 3) (e 9) (e 10) w) → (thenE (W9 k9_12 (thenE (W9 k9_4 Q) Q)) (thenE (W9 k9_4 Q) Q)) .normal e w := fun e w h => then_N (s9_12 (R := R) (Q := (thenE (W9 k9_4 Q) Q)) hN e w h)
  have hN := hN'
  exact region_ok 3 (fun e w => m9_12 R (e 0) (e 1) (e 2) (e 3) (e 9) (e 10) w) (by kernel_rfl) (kcast (by kernel_rfl) h) hN (by kernel_rfl)
theorem s9_2 {R : Value → World → Prop} {Q : Exit → Env → World → Prop} (hR : ∀ e w, (R (e 8) w) → Q .ret e w) (e : Env) (w : World) (h : m9_2 R (e 0) (e 1) (e 2) (e 3) w) : W9 k9_2 Q e w := by
  unfold m9_2 at h
  refine seq_ok' (by kernel_rfl) ?_
  have hN' : ∀ e w, (m9_3 R (e 0) (e 1) (e 2) (e 3) (e 9) w) → (thenE (W9 k9_3 Q) Q) .normal e w := fun e w h => then_N (s9_3 (R := R) (Q := Q) hR e w h)
  have hN := hN'
  exact region_ok 2 (fun e w => m9_3 R (e 0) (e 1) (e 2) (e 3) (e 9) w) (by kernel_rfl) (kcast (by kernel_rfl) h) hN (by kernel_rfl)
theorem s9_1 {R : Value → World → Prop} {Q : Exit → Env → World → Prop} (hR : ∀ e w, (R (e 8) w) → Q .ret e w) (e : Env) (w : World) (h : m9_1 R (e 0) (e 1) (e 2) (e 3) w) : W9 k9_1 Q e w := by
  unfold m9_1 at h
  refine seq_ok' (by kernel_rfl) ?_
  have hN' : ∀ e w, (m9_2 R (e 0) (e 1) (e 2) (e 3) w) → (thenE (W9 k9_2 Q) Q) .normal e w := fun e w h => then_N (s9_2 (R := R) (Q := Q) hR e w h)
  have hN := hN'
  exact region_ok 1 (fun e w => m9_2 R (e 0) (e 1) (e 2) (e 3) w) (by kernel_rfl) (kcast (by kernel_rfl) h) hN (by kernel_rfl)
theorem s9_0 {R : Value → World → Prop} {Q : Exit → Env → World → Prop} (hR : ∀ e w, (R (e 8) w) → Q .ret e w) (e : Env) (w : World) (h : m9_0 R (e 0) (e 1) (e 2) (e 3) w) : W9 k9_0 Q e w := by
  unfold m9_0 at h
  refine seq_ok' (by kernel_rfl) ?_
  have hN' : ∀ e w, (m9_1 R (e 0) (e 1) (e 2) (e 3) w) → (thenE (W9 k9_1 Q) Q) .normal e w := fun e w h => then_N (s9_1 (R := R) (Q := Q) hR e w h)
  have hN := hN'
  exact region_ok 0 (fun e w => m9_1 R (e 0) (e 1) (e 2) (e 3) w) (by kernel_rfl) (kcast (by kernel_rfl) h) hN (by kernel_rfl)
abbrev m9 (R : Value → World → Prop) (parts0 : Value) (members1 : Value) (old2 : Value) (more3 : Value) (w : World) : Prop := m9_0 R parts0 members1 old2 more3 w
theorem s9 (parts0 : Value) (members1 : Value) (old2 : Value) (more3 : Value) {R : Value → World → Prop} {w : World} (h : m9 R parts0 members1 old2 more3 w) :
    Calls Try.prog 9 #[parts0, members1, old2, more3] w fun e w' => ∃ v, e = .returned v ∧ R v w' :=
  calls_of_cwp (st := (fun i => 0)) (c := k9_0) (by kernel_rfl) Try.func9 (by kernel_rfl) (Nat.le_of_ble_eq_true (by kernel_rfl)) (by kernel_rfl)
    (s9_0 (R := R) (Q := endE Try.prog Try.f9 R) (fun e w h => kcast (by kernel_rfl) h) (argsE #[parts0, members1, old2, more3]) w (kcast (by kernel_rfl) h))
end Go.Proofs.Ytlgafiekogajfaa.M
