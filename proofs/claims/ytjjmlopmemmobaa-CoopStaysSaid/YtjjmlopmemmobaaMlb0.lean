/- What functions' texts ask of their ends, told over values that have names; printed by a program of this work. -/
import Derived.Test.YtjjmlopmemmobaaFw
import Derived.Test.YtjjmlopmemmobaaProg
namespace Go.Proofs.Ytjjmlopmemmobaa.M
open Go.Proofs.Ytjjmlopmemmobaa.F
set_option linter.unusedVariables false
set_option maxRecDepth 100000
/-! ### headgate/headgatelaw35.CoopStays -/
def m4_29 (R : VP) (t6 : Value) (w : World) : Prop :=
  R t6 w
def m4_26 (R : VP) (K1 : VP) (l1 m2 c7 i8 : Value) (w : World) : Prop :=
  valP Try.prog (binS BinOp.add 3 (Operand.tmp 25) (Operand.const (Value.int IntKind.i64 1)) i8 (Value.int IntKind.i64 1)) w fun t26 w =>
  K1 t26 w
def m4_25 (R : VP) (K1 : VP) (l1 m2 c7 i8 : Value) (w : World) : Prop :=
  valP Try.prog (Instr.indexAt 22 l1 i8) w fun t30 w =>
  valP Try.prog (Instr.loadAt 30 t30) w fun t31 w =>
  callP Try.prog (fnV 17) #[t31, c7] w fun t33 w =>
  callP Try.prog (fnV 16) #[c7, t33] w fun t34 w =>
  m4_26 R K1 l1 m2 c7 i8 w
def m4_22 (R : VP) (t6 : Value) (w : World) : Prop :=
  R t6 w
def m4_19 (R : VP) (K1 : (Value × Value) → World → Prop) (t6 : Value) (w : World) : Prop :=
  R t6 w
def m4_15 (R : VP) (K1 : (Value × Value) → World → Prop) (m2 c7 all9 n10 i11 : Value) (w : World) : Prop :=
  valP Try.prog (binS BinOp.add 3 (Operand.tmp 52) (Operand.const (Value.int IntKind.i64 1)) i11 (Value.int IntKind.i64 1)) w fun t53 w =>
  K1 (n10, t53) w
def m4_17 (R : VP) (K1 : (Value × Value) → World → Prop) (m2 c7 all9 n10 i11 give12 : Value) (w : World) : Prop :=
  builtinP Try.prog Builtin.len #[28] 3 #[false] #[give12] w fun t80 w =>
  valP Try.prog (binS BinOp.add 3 (Operand.tmp 78) (Operand.tmp 80) n10 t80) w fun t81 w =>
  m4_15 R K1 m2 c7 all9 t81 i11 w
def m4_18 (R : VP) (K1 : (Value × Value) → World → Prop) (m2 c7 all9 n10 i11 give12 t77 : Value) (w : World) : Prop :=
  condP t77
  (m4_19 R K1 (Value.bool false) w)
  (m4_17 R K1 m2 c7 all9 n10 i11 give12 w)
def m4_16 (R : VP) (K1 : (Value × Value) → World → Prop) (m2 c7 all9 n10 i11 give12 e13 : Value) (w : World) : Prop :=
  valP Try.prog (binS BinOp.neq 26 (Operand.tmp 63) (Operand.const (Value.int IntKind.i64 0)) e13 (Value.int IntKind.i64 0)) w fun t64 w =>
  condP t64
  (pickP t64 (Value.bool true) undef fun t77 =>
  m4_18 R K1 m2 c7 all9 n10 i11 give12 t77 w)
  (valP Try.prog (Instr.indexAt 28 all9 i11) w fun t68 w =>
  valP Try.prog (Instr.loadAt 3 t68) w fun t69 w =>
  valP Try.prog (binS BinOp.eql 3 (Operand.tmp 69) (Operand.tmp 70) t69 m2) w fun t71 w =>
  condP t71
  (builtinP Try.prog Builtin.len #[28] 3 #[false] #[give12] w fun t74 w =>
  valP Try.prog (binS BinOp.gtr 3 (Operand.tmp 74) (Operand.const (Value.int IntKind.i64 0)) t74 (Value.int IntKind.i64 0)) w fun t75 w =>
  pickP t71 t75 (Value.bool false) fun t76 =>
  pickP t64 (Value.bool true) t76 fun t77 =>
  m4_18 R K1 m2 c7 all9 n10 i11 give12 t77 w)
  (pickP t71 undef (Value.bool false) fun t76 =>
  pickP t64 (Value.bool true) t76 fun t77 =>
  m4_18 R K1 m2 c7 all9 n10 i11 give12 t77 w))
def m4_14 (R : VP) (K1 : (Value × Value) → World → Prop) (m2 c7 all9 n10 i11 : Value) (w : World) : Prop :=
  valP Try.prog (Instr.indexAt 28 all9 i11) w fun t58 w =>
  valP Try.prog (Instr.loadAt 3 t58) w fun t59 w =>
  callP Try.prog (fnV 25) #[c7, t59] w fun t60 w =>
  valP Try.prog (Instr.extract t60 0) w fun t61 w =>
  valP Try.prog (Instr.extract t60 1) w fun t62 w =>
  m4_16 R K1 m2 c7 all9 n10 i11 t61 t62 w
def m4_11 (R : VP) (t6 : Value) (w : World) : Prop :=
  R t6 w
def m4_10 (R : VP) (all9 n10 own14 : Value) (w : World) : Prop :=
  valP Try.prog (binS BinOp.leq 3 (Operand.tmp 86) (Operand.tmp 87) n10 own14) w fun t88 w =>
  condP t88
  (builtinP Try.prog Builtin.len #[28] 3 #[false] #[all9] w fun t91 w =>
  valP Try.prog (binS BinOp.gtr 3 (Operand.tmp 91) (Operand.const (Value.int IntKind.i64 1)) t91 (Value.int IntKind.i64 1)) w fun t92 w =>
  condP t92
  (pickP t92 (Value.bool true) undef fun t96 =>
  pickP t88 t96 (Value.bool false) fun t97 =>
  condP t97
  (callP Try.prog (fnV 22) #[] w fun t99 w =>
  pickP t97 t99 (Value.bool false) fun t100 =>
  m4_11 R t100 w)
  (pickP t97 undef (Value.bool false) fun t100 =>
  m4_11 R t100 w))
  (valP Try.prog (binS BinOp.eql 3 (Operand.tmp 94) (Operand.const (Value.int IntKind.i64 0)) n10 (Value.int IntKind.i64 0)) w fun t95 w =>
  pickP t92 (Value.bool true) t95 fun t96 =>
  pickP t88 t96 (Value.bool false) fun t97 =>
  condP t97
  (callP Try.prog (fnV 22) #[] w fun t99 w =>
  pickP t97 t99 (Value.bool false) fun t100 =>
  m4_11 R t100 w)
  (pickP t97 undef (Value.bool false) fun t100 =>
  m4_11 R t100 w)))
  (pickP t88 undef (Value.bool false) fun t97 =>
  condP t97
  (callP Try.prog (fnV 22) #[] w fun t99 w =>
  pickP t97 t99 (Value.bool false) fun t100 =>
  m4_11 R t100 w)
  (pickP t97 undef (Value.bool false) fun t100 =>
  m4_11 R t100 w))
def m4_9 (R : VP) (m2 c7 all9 n10 : Value) (w : World) : Prop :=
  callP Try.prog (fnV 20) #[c7] w fun t83 w =>
  callP Try.prog (fnV 21) #[t83, m2] w fun t85 w =>
  m4_10 R all9 n10 t85 w
def m4_20 (R : VP) (K1 : (Value × Value) → World → Prop) (m2 c7 all9 n10 i11 t51 : Value) (w : World) : Prop :=
  condP t51
  (m4_14 R K1 m2 c7 all9 n10 i11 w)
  (m4_9 R m2 c7 all9 n10 w)
def m4_13 (R : VP) (K1 : (Value × Value) → World → Prop) (m2 c7 all9 n10 i11 : Value) (w : World) : Prop :=
  builtinP Try.prog Builtin.len #[28] 3 #[false] #[all9] w fun t50 w =>
  valP Try.prog (binS BinOp.lss 3 (Operand.tmp 48) (Operand.tmp 50) i11 t50) w fun t51 w =>
  m4_20 R K1 m2 c7 all9 n10 i11 t51 w
def m4_12 (R : VP) (m2 c7 all9 n10 i11 : Value) (w : World) : Prop :=
  loopP (fun (K1 : (Value × Value) → World → Prop) (s : Value × Value) w => m4_13 R K1 m2 c7 all9 s.1 s.2 w) (n10, i11) w
def m4_8 (R : VP) (m2 c7 all9 n10 : Value) (w : World) : Prop :=
  m4_12 R m2 c7 all9 n10 (Value.int IntKind.i64 0) w
def m4_7 (R : VP) (m2 c7 all9 : Value) (w : World) : Prop :=
  m4_8 R m2 c7 all9 (Value.int IntKind.i64 0) w
def m4_6 (R : VP) (m2 c7 : Value) (w : World) : Prop :=
  callP Try.prog (fnV 18) #[c7] w fun t47 w =>
  m4_7 R m2 c7 t47 w
def m4_21 (R : VP) (m2 c7 t44 : Value) (w : World) : Prop :=
  condP t44
  (callP Try.prog (fnV 22) #[] w fun t45 w =>
  m4_22 R t45 w)
  (m4_6 R m2 c7 w)
def m4_5 (R : VP) (m2 c7 : Value) (w : World) : Prop :=
  callP Try.prog (fnV 23) #[c7] w fun t36 w =>
  valP Try.prog (Op.unary UnOp.not t36) w fun t37 w =>
  condP t37
  (pickP t37 (Value.bool true) undef fun t44 =>
  m4_21 R m2 c7 t44 w)
  (valP Try.prog (Instr.buildSlice 28 1 #[(0, m2)]) w fun t41 w =>
  callP Try.prog (fnV 24) #[c7, t41] w fun t42 w =>
  valP Try.prog (binS BinOp.neq 26 (Operand.tmp 42) (Operand.const (Value.int IntKind.i64 0)) t42 (Value.int IntKind.i64 0)) w fun t43 w =>
  pickP t37 (Value.bool true) t43 fun t44 =>
  m4_21 R m2 c7 t44 w)
def m4_27 (R : VP) (K1 : VP) (l1 m2 c7 i8 t24 : Value) (w : World) : Prop :=
  condP t24
  (m4_25 R K1 l1 m2 c7 i8 w)
  (m4_5 R m2 c7 w)
def m4_24 (R : VP) (K1 : VP) (l1 m2 c7 i8 : Value) (w : World) : Prop :=
  builtinP Try.prog Builtin.len #[22] 3 #[false] #[l1] w fun t23 w =>
  valP Try.prog (binS BinOp.lss 3 (Operand.tmp 21) (Operand.tmp 23) i8 t23) w fun t24 w =>
  m4_27 R K1 l1 m2 c7 i8 t24 w
def m4_23 (R : VP) (l1 m2 c7 i8 : Value) (w : World) : Prop :=
  loopP (fun (K1 : VP) (s : Value) w => m4_24 R K1 l1 m2 c7 s w) i8 w
def m4_4 (R : VP) (l1 m2 c7 : Value) (w : World) : Prop :=
  m4_23 R l1 m2 c7 (Value.int IntKind.i64 0) w
def m4_3 (R : VP) (l1 m2 c7 : Value) (w : World) : Prop :=
  callP Try.prog (fnV 15) #[l1] w fun t20 w =>
  m4_4 R t20 m2 c7 w
def m4_28 (R : VP) (l1 m2 c7 t18 : Value) (w : World) : Prop :=
  condP t18
  (m4_29 R (Value.bool false) w)
  (m4_3 R l1 m2 c7 w)
def m4_2 (R : VP) (l1 m2 c7 : Value) (w : World) : Prop :=
  valP Try.prog (binS BinOp.eql 23 (Operand.tmp 17) (Operand.const (Value.pointer none)) c7 (Value.pointer none)) w fun t18 w =>
  m4_28 R l1 m2 c7 t18 w
def m4_1 (R : VP) (parts0 l1 m2 : Value) (w : World) : Prop :=
  callP Try.prog (fnV 14) #[parts0] w fun t16 w =>
  m4_2 R l1 m2 t16 w
def m4_0 (R : VP) (parts0 l1 m2 : Value) (w : World) : Prop :=
  m4_1 R parts0 l1 m2 w
abbrev W4 := cwp Try.prog (fun i => 0)
noncomputable def k4_0 : Code := (bodyOf Try.f4)
noncomputable def k4_1 : Code := (c2 k4_0)
noncomputable def k4_2 : Code := (c2 k4_1)
noncomputable def k4_3 : Code := (c2 k4_2)
noncomputable def k4_4 : Code := (c2 k4_3)
noncomputable def k4_5 : Code := (c2 k4_4)
noncomputable def k4_6 : Code := (c2 k4_5)
noncomputable def k4_7 : Code := (c2 k4_6)
noncomputable def k4_8 : Code := (c2 k4_7)
noncomputable def k4_9 : Code := (c2 k4_8)
noncomputable def k4_10 : Code := (c2 k4_9)
noncomputable def k4_11 : Code := (c2 k4_10)
noncomputable def k4_12 : Code := (c2 (c1 k4_8))
noncomputable def k4_13 : Code := (c1 (c1 k4_12))
noncomputable def k4_14 : Code := (c2 k4_13)
noncomputable def k4_15 : Code := (c2 k4_14)
noncomputable def k4_16 : Code := (c2 (c1 (c1 k4_14)))
noncomputable def k4_17 : Code := (c2 k4_16)
noncomputable def k4_18 : Code := (c2 (c1 k4_16))
noncomputable def k4_19 : Code := (c2 (c1 k4_18))
noncomputable def k4_20 : Code := (c2 (c1 k4_13))
noncomputable def k4_21 : Code := (c2 (c1 k4_5))
noncomputable def k4_22 : Code := (c2 (c1 k4_21))
noncomputable def k4_23 : Code := (c2 (c1 k4_4))
noncomputable def k4_24 : Code := (c1 (c1 k4_23))
noncomputable def k4_25 : Code := (c2 k4_24)
noncomputable def k4_26 : Code := (c2 k4_25)
noncomputable def k4_27 : Code := (c2 (c1 k4_24))
noncomputable def k4_28 : Code := (c2 (c1 k4_2))
noncomputable def k4_29 : Code := (c2 (c1 k4_28))
theorem s4_29 {R : VP} {Q : EQ} (hR : ∀ e w, (R (e 6) w) → Q .ret e w) (e : Env) (w : World) (h : m4_29 R (e 6) w) : W4 k4_29 Q e w := by
  unfold m4_29 at h
  exact reA (hR _ _ h)
theorem s4_26 {R : VP} {K1 : VP} {Q : EQ} (hN : ∀ e w, (K1 (e 8) w) → Q .normal e w) (e : Env) (w : World) (h : m4_26 R K1 (e 1) (e 2) (e 7) (e 8) w) : W4 k4_26 Q e w := by
  unfold m4_26 at h
  exact rgA 7 (fun e w => K1 (e 8) w) h hN
theorem s4_25 {R : VP} {K1 : VP} {Q : EQ} (hN : ∀ e w, (K1 (e 8) w) → Q .normal e w) (e : Env) (w : World) (h : m4_25 R K1 (e 1) (e 2) (e 7) (e 8) w) : W4 k4_25 Q e w := by
  unfold m4_25 at h
  refine seA ?_
  have hN : ∀ e w, (m4_26 R K1 (e 1) (e 2) (e 7) (e 8) w) → (thenE (W4 k4_26 Q) Q) .normal e w := fun e w h => then_N (s4_26 (R := R) (Q := Q) (K1 := K1) hN e w h)
  refine block_ok 1 (by kernel_rfl) ?_
  have hN : ∀ e w, (m4_26 R K1 (e 1) (e 2) (e 7) (e 8) w) → (inBlockE 1 (thenE (W4 k4_26 Q) Q)) .normal e w := fun e w h => block_N (hN e w h)
  exact rgA 8 (fun e w => m4_26 R K1 (e 1) (e 2) (e 7) (e 8) w) h hN
theorem s4_22 {R : VP} {Q : EQ} (hR : ∀ e w, (R (e 6) w) → Q .ret e w) (e : Env) (w : World) (h : m4_22 R (e 6) w) : W4 k4_22 Q e w := by
  unfold m4_22 at h
  exact reA (hR _ _ h)
theorem s4_19 {R : VP} {K1 : (Value × Value) → World → Prop} {Q : EQ} (hR : ∀ e w, (R (e 6) w) → Q .ret e w) (e : Env) (w : World) (h : m4_19 R K1 (e 6) w) : W4 k4_19 Q e w := by
  unfold m4_19 at h
  exact reA (hR _ _ h)
theorem s4_15 {R : VP} {K1 : (Value × Value) → World → Prop} {Q : EQ} (hN : ∀ e w, (K1 ((e 10), (e 11)) w) → Q .normal e w) (e : Env) (w : World) (h : m4_15 R K1 (e 2) (e 7) (e 9) (e 10) (e 11) w) : W4 k4_15 Q e w := by
  unfold m4_15 at h
  exact rgA 15 (fun e w => K1 ((e 10), (e 11)) w) h hN
theorem s4_17 {R : VP} {K1 : (Value × Value) → World → Prop} {Q : EQ} (hN : ∀ e w, (m4_15 R K1 (e 2) (e 7) (e 9) (e 10) (e 11) w) → Q .normal e w) (e : Env) (w : World) (h : m4_17 R K1 (e 2) (e 7) (e 9) (e 10) (e 11) (e 12) w) : W4 k4_17 Q e w := by
  unfold m4_17 at h
  exact rgA 19 (fun e w => m4_15 R K1 (e 2) (e 7) (e 9) (e 10) (e 11) w) h hN
theorem s4_18 {R : VP} {K1 : (Value × Value) → World → Prop} {Q : EQ} (hN : ∀ e w, (m4_17 R K1 (e 2) (e 7) (e 9) (e 10) (e 11) (e 12) w) → Q .normal e w) (hR : ∀ e w, (R (e 6) w) → Q .ret e w) (e : Env) (w : World) (h : m4_18 R K1 (e 2) (e 7) (e 9) (e 10) (e 11) (e 12) (e 77) w) : W4 k4_18 Q e w := by
  unfold m4_18 at h
  refine coA (Operand.tmp 77) h (fun h1 => ?_) (fun h1 => ?_)
  · refine seA ?_
    have hN : ∀ e w, (m4_19 R K1 (e 6) w) → (thenE (W4 k4_19 Q) Q) .normal e w := fun e w h => then_N (s4_19 (R := R) (Q := Q) (K1 := K1) hR e w h)
    exact rgA 18 (fun e w => m4_19 R K1 (e 6) w) h1 hN
  · exact skA (hN _ _ h1)
theorem s4_16 {R : VP} {K1 : (Value × Value) → World → Prop} {Q : EQ} (hN : ∀ e w, (m4_15 R K1 (e 2) (e 7) (e 9) (e 10) (e 11) w) → Q .normal e w) (hR : ∀ e w, (R (e 6) w) → Q .ret e w) (e : Env) (w : World) (h : m4_16 R K1 (e 2) (e 7) (e 9) (e 10) (e 11) (e 12) (e 13) w) : W4 k4_16 Q e w := by
  unfold m4_16 at h
  refine seA ?_
  have hN : ∀ e w, (m4_17 R K1 (e 2) (e 7) (e 9) (e 10) (e 11) (e 12) w) → (thenE (W4 k4_17 Q) Q) .normal e w := fun e w h => then_N (s4_17 (R := R) (Q := Q) (K1 := K1) hN e w h)
  have hR : ∀ e w, (R (e 6) w) → (thenE (W4 k4_17 Q) Q) .ret e w := fun e w h => then_R (hR e w h)
  refine seA ?_
  have hN : ∀ e w, (m4_18 R K1 (e 2) (e 7) (e 9) (e 10) (e 11) (e 12) (e 77) w) → (thenE (W4 k4_18 (thenE (W4 k4_17 Q) Q)) (thenE (W4 k4_17 Q) Q)) .normal e w := fun e w h => then_N (s4_18 (R := R) (Q := (thenE (W4 k4_17 Q) Q)) (K1 := K1) hN hR e w h)
  exact rgA 17 (fun e w => m4_18 R K1 (e 2) (e 7) (e 9) (e 10) (e 11) (e 12) (e 77) w) h hN
theorem s4_14 {R : VP} {K1 : (Value × Value) → World → Prop} {Q : EQ} (hN : ∀ e w, (K1 ((e 10), (e 11)) w) → Q .normal e w) (hR : ∀ e w, (R (e 6) w) → Q .ret e w) (e : Env) (w : World) (h : m4_14 R K1 (e 2) (e 7) (e 9) (e 10) (e 11) w) : W4 k4_14 Q e w := by
  unfold m4_14 at h
  refine seA ?_
  have hN : ∀ e w, (m4_15 R K1 (e 2) (e 7) (e 9) (e 10) (e 11) w) → (thenE (W4 k4_15 Q) Q) .normal e w := fun e w h => then_N (s4_15 (R := R) (Q := Q) (K1 := K1) hN e w h)
  have hR : ∀ e w, (R (e 6) w) → (thenE (W4 k4_15 Q) Q) .ret e w := fun e w h => then_R (hR e w h)
  refine block_ok 3 (by kernel_rfl) ?_
  have hN : ∀ e w, (m4_15 R K1 (e 2) (e 7) (e 9) (e 10) (e 11) w) → (inBlockE 3 (thenE (W4 k4_15 Q) Q)) .normal e w := fun e w h => block_N (hN e w h)
  have hR : ∀ e w, (R (e 6) w) → (inBlockE 3 (thenE (W4 k4_15 Q) Q)) .ret e w := fun e w h => block_R (hR e w h)
  refine seA ?_
  have hN : ∀ e w, (m4_16 R K1 (e 2) (e 7) (e 9) (e 10) (e 11) (e 12) (e 13) w) → (thenE (W4 k4_16 (inBlockE 3 (thenE (W4 k4_15 Q) Q))) (inBlockE 3 (thenE (W4 k4_15 Q) Q))) .normal e w := fun e w h => then_N (s4_16 (R := R) (Q := (inBlockE 3 (thenE (W4 k4_15 Q) Q))) (K1 := K1) hN hR e w h)
  exact rgA 16 (fun e w => m4_16 R K1 (e 2) (e 7) (e 9) (e 10) (e 11) (e 12) (e 13) w) h hN
theorem s4_11 {R : VP} {Q : EQ} (hR : ∀ e w, (R (e 6) w) → Q .ret e w) (e : Env) (w : World) (h : m4_11 R (e 6) w) : W4 k4_11 Q e w := by
  unfold m4_11 at h
  exact reA (hR _ _ h)
theorem s4_10 {R : VP} {Q : EQ} (hR : ∀ e w, (R (e 6) w) → Q .ret e w) (e : Env) (w : World) (h : m4_10 R (e 9) (e 10) (e 14) w) : W4 k4_10 Q e w := by
  unfold m4_10 at h
  refine seA ?_
  have hN : ∀ e w, (m4_11 R (e 6) w) → (thenE (W4 k4_11 Q) Q) .normal e w := fun e w h => then_N (s4_11 (R := R) (Q := Q) hR e w h)
  exact rgA 21 (fun e w => m4_11 R (e 6) w) h hN
theorem s4_9 {R : VP} {Q : EQ} (hR : ∀ e w, (R (e 6) w) → Q .ret e w) (e : Env) (w : World) (h : m4_9 R (e 2) (e 7) (e 9) (e 10) w) : W4 k4_9 Q e w := by
  unfold m4_9 at h
  refine seA ?_
  have hN : ∀ e w, (m4_10 R (e 9) (e 10) (e 14) w) → (thenE (W4 k4_10 Q) Q) .normal e w := fun e w h => then_N (s4_10 (R := R) (Q := Q) hR e w h)
  exact rgA 20 (fun e w => m4_10 R (e 9) (e 10) (e 14) w) h hN
theorem s4_20 {R : VP} {K1 : (Value × Value) → World → Prop} {Q : EQ} (hN : ∀ e w, (m4_14 R K1 (e 2) (e 7) (e 9) (e 10) (e 11) w) → Q .normal e w) (hX2 : ∀ e w, (m4_9 R (e 2) (e 7) (e 9) (e 10) w) → Q (.exit 2) e w) (e : Env) (w : World) (h : m4_20 R K1 (e 2) (e 7) (e 9) (e 10) (e 11) (e 51) w) : W4 k4_20 Q e w := by
  unfold m4_20 at h
  refine coA (Operand.tmp 51) h (fun h1 => ?_) (fun h1 => ?_)
  · exact skA (hN _ _ h1)
  · exact exA 2 (hX2 _ _ h1)
theorem s4_13 {R : VP} {K1 : (Value × Value) → World → Prop} {Q : EQ} (hN : ∀ e w, (K1 ((e 10), (e 11)) w) → Q .normal e w) (hR : ∀ e w, (R (e 6) w) → Q .ret e w) (hX2 : ∀ e w, (m4_9 R (e 2) (e 7) (e 9) (e 10) w) → Q (.exit 2) e w) (e : Env) (w : World) (h : m4_13 R K1 (e 2) (e 7) (e 9) (e 10) (e 11) w) : W4 k4_13 Q e w := by
  unfold m4_13 at h
  refine seA ?_
  have hN : ∀ e w, (m4_14 R K1 (e 2) (e 7) (e 9) (e 10) (e 11) w) → (thenE (W4 k4_14 Q) Q) .normal e w := fun e w h => then_N (s4_14 (R := R) (Q := Q) (K1 := K1) hN hR e w h)
  have hX2 : ∀ e w, (m4_9 R (e 2) (e 7) (e 9) (e 10) w) → (thenE (W4 k4_14 Q) Q) (.exit 2) e w := fun e w h => then_X (hX2 e w h)
  refine seA ?_
  have hN : ∀ e w, (m4_20 R K1 (e 2) (e 7) (e 9) (e 10) (e 11) (e 51) w) → (thenE (W4 k4_20 (thenE (W4 k4_14 Q) Q)) (thenE (W4 k4_14 Q) Q)) .normal e w := fun e w h => then_N (s4_20 (R := R) (Q := (thenE (W4 k4_14 Q) Q)) (K1 := K1) hN hX2 e w h)
  exact rgA 14 (fun e w => m4_20 R K1 (e 2) (e 7) (e 9) (e 10) (e 11) (e 51) w) h hN
theorem s4_12 {R : VP} {Q : EQ} (hN : ∀ e w, (m4_9 R (e 2) (e 7) (e 9) (e 10) w) → Q .normal e w) (hR : ∀ e w, (R (e 6) w) → Q .ret e w) (e : Env) (w : World) (h : m4_12 R (e 2) (e 7) (e 9) (e 10) (e 11) w) : W4 k4_12 Q e w := by
  unfold m4_12 at h
  refine block_ok 2 (by kernel_rfl) ?_
  have hX2 : ∀ e w, (m4_9 R (e 2) (e 7) (e 9) (e 10) w) → (inBlockE 2 Q) (.exit 2) e w := fun e w h => inBlock_same (Q := Q) 2 (hN e w h)
  have hR : ∀ e w, (R (e 6) w) → (inBlockE 2 Q) .ret e w := fun e w h => block_R (hR e w h)
  refine loop_ok' (fun (e : Env) => (e 10, e 11)) [2, 7, 9] (by kernel_rfl) (by kernel_rfl) h (fun K e' w' hk h' => ?_)
  have r2 : e' 2 = e 2 := hk 2 (by decide)
  have r7 : e' 7 = e 7 := hk 7 (by decide)
  have r9 : e' 9 = e 9 := hk 9 (by decide)
  have hR : ∀ e w, (R (e 6) w) → (thenE (fun (e : Env) w => K ((e 10), (e 11)) w) (inBlockE 2 Q)) .ret e w := fun e w h => then_R (hR e w h)
  have hX2 : ∀ e w, (m4_9 R (e 2) (e 7) (e 9) (e 10) w) → (thenE (fun (e : Env) w => K ((e 10), (e 11)) w) (inBlockE 2 Q)) (.exit 2) e w := fun e w h => then_X (hX2 e w h)
  exact s4_13 (R := R) (Q := (thenE (fun (e : Env) w => K ((e 10), (e 11)) w) (inBlockE 2 Q))) (K1 := K) (fun _ _ h => then_N h) hR hX2 e' w' (by rw [r2, r7, r9]; exact h')
theorem s4_8 {R : VP} {Q : EQ} (hR : ∀ e w, (R (e 6) w) → Q .ret e w) (e : Env) (w : World) (h : m4_8 R (e 2) (e 7) (e 9) (e 10) w) : W4 k4_8 Q e w := by
  unfold m4_8 at h
  refine seA ?_
  have hN : ∀ e w, (m4_9 R (e 2) (e 7) (e 9) (e 10) w) → (thenE (W4 k4_9 Q) Q) .normal e w := fun e w h => then_N (s4_9 (R := R) (Q := Q) hR e w h)
  have hR : ∀ e w, (R (e 6) w) → (thenE (W4 k4_9 Q) Q) .ret e w := fun e w h => then_R (hR e w h)
  refine seA ?_
  have hN : ∀ e w, (m4_12 R (e 2) (e 7) (e 9) (e 10) (e 11) w) → (thenE (W4 k4_12 (thenE (W4 k4_9 Q) Q)) (thenE (W4 k4_9 Q) Q)) .normal e w := fun e w h => then_N (s4_12 (R := R) (Q := (thenE (W4 k4_9 Q) Q)) hN hR e w h)
  exact rgA 13 (fun e w => m4_12 R (e 2) (e 7) (e 9) (e 10) (e 11) w) h hN
theorem s4_7 {R : VP} {Q : EQ} (hR : ∀ e w, (R (e 6) w) → Q .ret e w) (e : Env) (w : World) (h : m4_7 R (e 2) (e 7) (e 9) w) : W4 k4_7 Q e w := by
  unfold m4_7 at h
  refine seA ?_
  have hN : ∀ e w, (m4_8 R (e 2) (e 7) (e 9) (e 10) w) → (thenE (W4 k4_8 Q) Q) .normal e w := fun e w h => then_N (s4_8 (R := R) (Q := Q) hR e w h)
  exact rgA 12 (fun e w => m4_8 R (e 2) (e 7) (e 9) (e 10) w) h hN
theorem s4_6 {R : VP} {Q : EQ} (hR : ∀ e w, (R (e 6) w) → Q .ret e w) (e : Env) (w : World) (h : m4_6 R (e 2) (e 7) w) : W4 k4_6 Q e w := by
  unfold m4_6 at h
  refine seA ?_
  have hN : ∀ e w, (m4_7 R (e 2) (e 7) (e 9) w) → (thenE (W4 k4_7 Q) Q) .normal e w := fun e w h => then_N (s4_7 (R := R) (Q := Q) hR e w h)
  exact rgA 11 (fun e w => m4_7 R (e 2) (e 7) (e 9) w) h hN
theorem s4_21 {R : VP} {Q : EQ} (hN : ∀ e w, (m4_6 R (e 2) (e 7) w) → Q .normal e w) (hR : ∀ e w, (R (e 6) w) → Q .ret e w) (e : Env) (w : World) (h : m4_21 R (e 2) (e 7) (e 44) w) : W4 k4_21 Q e w := by
  unfold m4_21 at h
  refine coA (Operand.tmp 44) h (fun h1 => ?_) (fun h1 => ?_)
  · refine seA ?_
    have hN : ∀ e w, (m4_22 R (e 6) w) → (thenE (W4 k4_22 Q) Q) .normal e w := fun e w h => then_N (s4_22 (R := R) (Q := Q) hR e w h)
    exact rgA 10 (fun e w => m4_22 R (e 6) w) h1 hN
  · exact skA (hN _ _ h1)
theorem s4_5 {R : VP} {Q : EQ} (hR : ∀ e w, (R (e 6) w) → Q .ret e w) (e : Env) (w : World) (h : m4_5 R (e 2) (e 7) w) : W4 k4_5 Q e w := by
  unfold m4_5 at h
  refine seA ?_
  have hN : ∀ e w, (m4_6 R (e 2) (e 7) w) → (thenE (W4 k4_6 Q) Q) .normal e w := fun e w h => then_N (s4_6 (R := R) (Q := Q) hR e w h)
  have hR : ∀ e w, (R (e 6) w) → (thenE (W4 k4_6 Q) Q) .ret e w := fun e w h => then_R (hR e w h)
  refine seA ?_
  have hN : ∀ e w, (m4_21 R (e 2) (e 7) (e 44) w) → (thenE (W4 k4_21 (thenE (W4 k4_6 Q) Q)) (thenE (W4 k4_6 Q) Q)) .normal e w := fun e w h => then_N (s4_21 (R := R) (Q := (thenE (W4 k4_6 Q) Q)) hN hR e w h)
  exact rgA 9 (fun e w => m4_21 R (e 2) (e 7) (e 44) w) h hN
theorem s4_27 {R : VP} {K1 : VP} {Q : EQ} (hN : ∀ e w, (m4_25 R K1 (e 1) (e 2) (e 7) (e 8) w) → Q .normal e w) (hX0 : ∀ e w, (m4_5 R (e 2) (e 7) w) → Q (.exit 0) e w) (e : Env) (w : World) (h : m4_27 R K1 (e 1) (e 2) (e 7) (e 8) (e 24) w) : W4 k4_27 Q e w := by
  unfold m4_27 at h
  refine coA (Operand.tmp 24) h (fun h1 => ?_) (fun h1 => ?_)
  · exact skA (hN _ _ h1)
  · exact exA 0 (hX0 _ _ h1)
theorem s4_24 {R : VP} {K1 : VP} {Q : EQ} (hN : ∀ e w, (K1 (e 8) w) → Q .normal e w) (hX0 : ∀ e w, (m4_5 R (e 2) (e 7) w) → Q (.exit 0) e w) (e : Env) (w : World) (h : m4_24 R K1 (e 1) (e 2) (e 7) (e 8) w) : W4 k4_24 Q e w := by
  unfold m4_24 at h
  refine seA ?_
  have hN : ∀ e w, (m4_25 R K1 (e 1) (e 2) (e 7) (e 8) w) → (thenE (W4 k4_25 Q) Q) .normal e w := fun e w h => then_N (s4_25 (R := R) (Q := Q) (K1 := K1) hN e w h)
  have hX0 : ∀ e w, (m4_5 R (e 2) (e 7) w) → (thenE (W4 k4_25 Q) Q) (.exit 0) e w := fun e w h => then_X (hX0 e w h)
  refine seA ?_
  have hN : ∀ e w, (m4_27 R K1 (e 1) (e 2) (e 7) (e 8) (e 24) w) → (thenE (W4 k4_27 (thenE (W4 k4_25 Q) Q)) (thenE (W4 k4_25 Q) Q)) .normal e w := fun e w h => then_N (s4_27 (R := R) (Q := (thenE (W4 k4_25 Q) Q)) (K1 := K1) hN hX0 e w h)
  exact rgA 6 (fun e w => m4_27 R K1 (e 1) (e 2) (e 7) (e 8) (e 24) w) h hN
theorem s4_23 {R : VP} {Q : EQ} (hN : ∀ e w, (m4_5 R (e 2) (e 7) w) → Q .normal e w) (e : Env) (w : World) (h : m4_23 R (e 1) (e 2) (e 7) (e 8) w) : W4 k4_23 Q e w := by
  unfold m4_23 at h
  refine block_ok 0 (by kernel_rfl) ?_
  have hX0 : ∀ e w, (m4_5 R (e 2) (e 7) w) → (inBlockE 0 Q) (.exit 0) e w := fun e w h => inBlock_same (Q := Q) 0 (hN e w h)
  refine loop_ok' (fun (e : Env) => e 8) [1, 2, 7] (by kernel_rfl) (by kernel_rfl) h (fun K e' w' hk h' => ?_)
  have r1 : e' 1 = e 1 := hk 1 (by decide)
  have r2 : e' 2 = e 2 := hk 2 (by decide)
  have r7 : e' 7 = e 7 := hk 7 (by decide)
  have hX0 : ∀ e w, (m4_5 R (e 2) (e 7) w) → (thenE (fun (e : Env) w => K (e 8) w) (inBlockE 0 Q)) (.exit 0) e w := fun e w h => then_X (hX0 e w h)
  exact s4_24 (R := R) (Q := (thenE (fun (e : Env) w => K (e 8) w) (inBlockE 0 Q))) (K1 := K) (fun _ _ h => then_N h) hX0 e' w' (by rw [r1, r2, r7]; exact h')
theorem s4_4 {R : VP} {Q : EQ} (hR : ∀ e w, (R (e 6) w) → Q .ret e w) (e : Env) (w : World) (h : m4_4 R (e 1) (e 2) (e 7) w) : W4 k4_4 Q e w := by
  unfold m4_4 at h
  refine seA ?_
  have hN : ∀ e w, (m4_5 R (e 2) (e 7) w) → (thenE (W4 k4_5 Q) Q) .normal e w := fun e w h => then_N (s4_5 (R := R) (Q := Q) hR e w h)
  refine seA ?_
  have hN : ∀ e w, (m4_23 R (e 1) (e 2) (e 7) (e 8) w) → (thenE (W4 k4_23 (thenE (W4 k4_5 Q) Q)) (thenE (W4 k4_5 Q) Q)) .normal e w := fun e w h => then_N (s4_23 (R := R) (Q := (thenE (W4 k4_5 Q) Q)) hN e w h)
  exact rgA 5 (fun e w => m4_23 R (e 1) (e 2) (e 7) (e 8) w) h hN
theorem s4_3 {R : VP} {Q : EQ} (hR : ∀ e w, (R (e 6) w) → Q .ret e w) (e : Env) (w : World) (h : m4_3 R (e 1) (e 2) (e 7) w) : W4 k4_3 Q e w := by
  unfold m4_3 at h
  refine seA ?_
  have hN : ∀ e w, (m4_4 R (e 1) (e 2) (e 7) w) → (thenE (W4 k4_4 Q) Q) .normal e w := fun e w h => then_N (s4_4 (R := R) (Q := Q) hR e w h)
  exact rgA 4 (fun e w => m4_4 R (e 1) (e 2) (e 7) w) h hN
theorem s4_28 {R : VP} {Q : EQ} (hN : ∀ e w, (m4_3 R (e 1) (e 2) (e 7) w) → Q .normal e w) (hR : ∀ e w, (R (e 6) w) → Q .ret e w) (e : Env) (w : World) (h : m4_28 R (e 1) (e 2) (e 7) (e 18) w) : W4 k4_28 Q e w := by
  unfold m4_28 at h
  refine coA (Operand.tmp 18) h (fun h1 => ?_) (fun h1 => ?_)
  · refine seA ?_
    have hN : ∀ e w, (m4_29 R (e 6) w) → (thenE (W4 k4_29 Q) Q) .normal e w := fun e w h => then_N (s4_29 (R := R) (Q := Q) hR e w h)
    exact rgA 3 (fun e w => m4_29 R (e 6) w) h1 hN
  · exact skA (hN _ _ h1)
theorem s4_2 {R : VP} {Q : EQ} (hR : ∀ e w, (R (e 6) w) → Q .ret e w) (e : Env) (w : World) (h : m4_2 R (e 1) (e 2) (e 7) w) : W4 k4_2 Q e w := by
  unfold m4_2 at h
  refine seA ?_
  have hN : ∀ e w, (m4_3 R (e 1) (e 2) (e 7) w) → (thenE (W4 k4_3 Q) Q) .normal e w := fun e w h => then_N (s4_3 (R := R) (Q := Q) hR e w h)
  have hR : ∀ e w, (R (e 6) w) → (thenE (W4 k4_3 Q) Q) .ret e w := fun e w h => then_R (hR e w h)
  refine seA ?_
  have hN : ∀ e w, (m4_28 R (e 1) (e 2) (e 7) (e 18) w) → (thenE (W4 k4_28 (thenE (W4 k4_3 Q) Q)) (thenE (W4 k4_3 Q) Q)) .normal e w := fun e w h => then_N (s4_28 (R := R) (Q := (thenE (W4 k4_3 Q) Q)) hN hR e w h)
  exact rgA 2 (fun e w => m4_28 R (e 1) (e 2) (e 7) (e 18) w) h hN
theorem s4_1 {R : VP} {Q : EQ} (hR : ∀ e w, (R (e 6) w) → Q .ret e w) (e : Env) (w : World) (h : m4_1 R (e 0) (e 1) (e 2) w) : W4 k4_1 Q e w := by
  unfold m4_1 at h
  refine seA ?_
  have hN : ∀ e w, (m4_2 R (e 1) (e 2) (e 7) w) → (thenE (W4 k4_2 Q) Q) .normal e w := fun e w h => then_N (s4_2 (R := R) (Q := Q) hR e w h)
  exact rgA 1 (fun e w => m4_2 R (e 1) (e 2) (e 7) w) h hN
theorem s4_0 {R : VP} {Q : EQ} (hR : ∀ e w, (R (e 6) w) → Q .ret e w) (e : Env) (w : World) (h : m4_0 R (e 0) (e 1) (e 2) w) : W4 k4_0 Q e w := by
  unfold m4_0 at h
  refine seA ?_
  have hN : ∀ e w, (m4_1 R (e 0) (e 1) (e 2) w) → (thenE (W4 k4_1 Q) Q) .normal e w := fun e w h => then_N (s4_1 (R := R) (Q := Q) hR e w h)
  exact rgA 0 (fun e w => m4_1 R (e 0) (e 1) (e 2) w) h hN
abbrev m4 (R : VP) (parts0 l1 m2 : Value) (w : World) : Prop := m4_0 R parts0 l1 m2 w
theorem s4 (parts0 l1 m2 : Value) {R : VP} {w : World} (h : m4 R parts0 l1 m2 w) :
    Calls Try.prog 4 #[parts0, l1, m2] w fun e w' => ∃ v, e = .returned v ∧ R v w' :=
  calls_of_cwp (st := (fun i => 0)) (c := k4_0) (by kernel_rfl) Try.func4 (by kernel_rfl) (Nat.le_of_ble_eq_true (by kernel_rfl)) (by kernel_rfl)
    (s4_0 (R := R) (Q := endE Try.prog Try.f4 R) (fun e w h => kcast (by kernel_rfl) h) (argsE #[parts0, l1, m2]) w (kcast (by kernel_rfl) h))
end Go.Proofs.Ytjjmlopmemmobaa.M
