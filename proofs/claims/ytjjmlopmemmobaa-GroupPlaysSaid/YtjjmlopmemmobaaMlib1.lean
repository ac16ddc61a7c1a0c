/- What functions' texts ask of their ends, told over values that have names; printed by a program of this work. -/
import Derived.Test.YtjjmlopmemmobaaFw
import Derived.Test.YtjjmlopmemmobaaProg
namespace Go.Proofs.Ytjjmlopmemmobaa.M
open Go.Proofs.Ytjjmlopmemmobaa.F
set_option linter.unusedVariables false
set_option maxRecDepth 100000
/-! ### headgate/headgateref09.Members -/
def m63_8 (R : VP) (K1 : (Value × Value) → World → Prop) (l0 out3 i4 : Value) (w : World) : Prop :=
  valP Try.prog (binS BinOp.add 3 (Operand.tmp 11) (Operand.const (Value.int IntKind.i64 1)) i4 (Value.int IntKind.i64 1)) w fun t12 w =>
  K1 (out3, t12) w
def m63_19 (R : VP) (K1 : (Value × Value) → World → Prop) (K2 : (Value × Value) → World → Prop) (l0 out3 i4 more5 k6 : Value) (w : World) : Prop :=
  valP Try.prog (binS BinOp.add 3 (Operand.tmp 40) (Operand.const (Value.int IntKind.i64 1)) k6 (Value.int IntKind.i64 1)) w fun t41 w =>
  K2 (more5, t41) w
def m63_18 (R : VP) (K1 : (Value × Value) → World → Prop) (K2 : (Value × Value) → World → Prop) (l0 out3 i4 more5 k6 : Value) (w : World) : Prop :=
  valP Try.prog (Instr.indexAt 28 out3 k6) w fun t36 w =>
  valP Try.prog (Instr.loadAt 3 t36) w fun t37 w =>
  valP Try.prog (Instr.buildSlice 28 1 #[(0, t37)]) w fun t38 w =>
  builtinP Try.prog Builtin.append #[28, 28] 28 #[false, false] #[more5, t38] w fun t39 w =>
  m63_19 R K1 K2 l0 out3 i4 t39 k6 w
def m63_15 (R : VP) (K1 : (Value × Value) → World → Prop) (l0 i4 more5 : Value) (w : World) : Prop :=
  m63_8 R K1 l0 more5 i4 w
def m63_14 (R : VP) (K1 : (Value × Value) → World → Prop) (l0 out3 i4 more5 k6 : Value) (w : World) : Prop :=
  valP Try.prog (Instr.sliceAt 28 out3 (some k6) none none) w fun t69 w =>
  builtinP Try.prog Builtin.append #[28, 28] 28 #[false, false] #[more5, t69] w fun t70 w =>
  m63_15 R K1 l0 i4 t70 w
def m63_16 (R : VP) (K1 : (Value × Value) → World → Prop) (l0 out3 i4 more5 k6 t63 : Value) (w : World) : Prop :=
  condP t63
  (valP Try.prog (binS BinOp.add 3 (Operand.tmp 64) (Operand.const (Value.int IntKind.i64 1)) k6 (Value.int IntKind.i64 1)) w fun t65 w =>
  m63_14 R K1 l0 out3 i4 more5 t65 w)
  (m63_14 R K1 l0 out3 i4 more5 k6 w)
def m63_13 (R : VP) (K1 : (Value × Value) → World → Prop) (l0 out3 i4 more5 k6 : Value) (w : World) : Prop :=
  builtinQ Try.prog Builtin.len #[28] 3 #[false] #[out3] w fun t51 =>
  valQ Try.prog (binS BinOp.lss 3 (Operand.tmp 49) (Operand.tmp 51) k6 t51) w fun t52 =>
  condP t52
  (valQ Try.prog (Instr.indexAt 28 out3 k6) w fun t56 =>
  valQ Try.prog (Instr.loadAt 3 t56) w fun t57 =>
  valQ Try.prog (Instr.indexAt 28 l0 i4) w fun t60 =>
  valQ Try.prog (Instr.loadAt 3 t60) w fun t61 =>
  valQ Try.prog (binS BinOp.eql 3 (Operand.tmp 57) (Operand.tmp 61) t57 t61) w fun t62 =>
  pickP t52 t62 (Value.bool false) fun t63 =>
  anyDraw w fun w =>
  m63_16 R K1 l0 out3 i4 more5 k6 t63 w)
  (pickP t52 undef (Value.bool false) fun t63 =>
  anyDraw w fun w =>
  m63_16 R K1 l0 out3 i4 more5 k6 t63 w)
def m63_12 (R : VP) (K1 : (Value × Value) → World → Prop) (l0 out3 i4 more5 k6 : Value) (w : World) : Prop :=
  valP Try.prog (Instr.indexAt 28 l0 i4) w fun t45 w =>
  valP Try.prog (Instr.loadAt 3 t45) w fun t46 w =>
  valP Try.prog (Instr.buildSlice 28 1 #[(0, t46)]) w fun t47 w =>
  builtinP Try.prog Builtin.append #[28, 28] 28 #[false, false] #[more5, t47] w fun t48 w =>
  m63_13 R K1 l0 out3 i4 t48 k6 w
def m63_20 (R : VP) (K1 : (Value × Value) → World → Prop) (K2 : (Value × Value) → World → Prop) (l0 out3 i4 more5 k6 t32 : Value) (w : World) : Prop :=
  condP t32
  (m63_18 R K1 K2 l0 out3 i4 more5 k6 w)
  (m63_12 R K1 l0 out3 i4 more5 k6 w)
def m63_17 (R : VP) (K1 : (Value × Value) → World → Prop) (K2 : (Value × Value) → World → Prop) (l0 out3 i4 more5 k6 : Value) (w : World) : Prop :=
  builtinQ Try.prog Builtin.len #[28] 3 #[false] #[out3] w fun t20 =>
  valQ Try.prog (binS BinOp.lss 3 (Operand.tmp 18) (Operand.tmp 20) k6 t20) w fun t21 =>
  condP t21
  (valQ Try.prog (Instr.indexAt 28 out3 k6) w fun t25 =>
  valQ Try.prog (Instr.loadAt 3 t25) w fun t26 =>
  valQ Try.prog (Instr.indexAt 28 l0 i4) w fun t29 =>
  valQ Try.prog (Instr.loadAt 3 t29) w fun t30 =>
  valQ Try.prog (binS BinOp.lss 3 (Operand.tmp 26) (Operand.tmp 30) t26 t30) w fun t31 =>
  pickP t21 t31 (Value.bool false) fun t32 =>
  anyDraw w fun w =>
  m63_20 R K1 K2 l0 out3 i4 more5 k6 t32 w)
  (pickP t21 undef (Value.bool false) fun t32 =>
  anyDraw w fun w =>
  m63_20 R K1 K2 l0 out3 i4 more5 k6 t32 w)
def m63_11 (R : VP) (K1 : (Value × Value) → World → Prop) (l0 out3 i4 more5 k6 : Value) (w : World) : Prop :=
  loopP (fun (K2 : (Value × Value) → World → Prop) (s : Value × Value) w => m63_17 R K1 K2 l0 out3 i4 s.1 s.2 w) (more5, k6) w
def m63_10 (R : VP) (K1 : (Value × Value) → World → Prop) (l0 out3 i4 more5 : Value) (w : World) : Prop :=
  m63_11 R K1 l0 out3 i4 more5 (Value.int IntKind.i64 0) w
def m63_9 (R : VP) (K1 : (Value × Value) → World → Prop) (l0 out3 i4 : Value) (w : World) : Prop :=
  m63_10 R K1 l0 out3 i4 (Value.slice none 0 0) w
def m63_21 (R : VP) (K1 : (Value × Value) → World → Prop) (l0 out3 i4 t17 : Value) (w : World) : Prop :=
  condP t17
  (m63_8 R K1 l0 out3 i4 w)
  (m63_9 R K1 l0 out3 i4 w)
def m63_7 (R : VP) (K1 : (Value × Value) → World → Prop) (l0 out3 i4 : Value) (w : World) : Prop :=
  valP Try.prog (Instr.indexAt 28 l0 i4) w fun t15 w =>
  valP Try.prog (Instr.loadAt 3 t15) w fun t16 w =>
  valP Try.prog (binS BinOp.leq 3 (Operand.tmp 16) (Operand.const (Value.int IntKind.i64 0)) t16 (Value.int IntKind.i64 0)) w fun t17 w =>
  m63_21 R K1 l0 out3 i4 t17 w
def m63_4 (R : VP) (t2 : Value) (w : World) : Prop :=
  R t2 w
def m63_3 (R : VP) (out3 : Value) (w : World) : Prop :=
  m63_4 R out3 w
def m63_22 (R : VP) (K1 : (Value × Value) → World → Prop) (l0 out3 i4 t10 : Value) (w : World) : Prop :=
  condP t10
  (m63_7 R K1 l0 out3 i4 w)
  (m63_3 R out3 w)
def m63_6 (R : VP) (K1 : (Value × Value) → World → Prop) (l0 out3 i4 : Value) (w : World) : Prop :=
  builtinP Try.prog Builtin.len #[28] 3 #[false] #[l0] w fun t9 w =>
  valP Try.prog (binS BinOp.lss 3 (Operand.tmp 7) (Operand.tmp 9) i4 t9) w fun t10 w =>
  m63_22 R K1 l0 out3 i4 t10 w
def m63_5 (R : VP) (l0 out3 i4 : Value) (w : World) : Prop :=
  loopP (fun (K1 : (Value × Value) → World → Prop) (s : Value × Value) w => m63_6 R K1 l0 s.1 s.2 w) (out3, i4) w
def m63_2 (R : VP) (l0 out3 : Value) (w : World) : Prop :=
  m63_5 R l0 out3 (Value.int IntKind.i64 0) w
def m63_1 (R : VP) (l0 : Value) (w : World) : Prop :=
  m63_2 R l0 (Value.slice none 0 0) w
def m63_0 (R : VP) (l0 : Value) (w : World) : Prop :=
  m63_1 R l0 w
abbrev W63 := cwp Try.prog (fun i => cond (Nat.beq i 12) 1 (cond (Nat.beq i 8) 1 (0)))
noncomputable def k63_0 : Code := (bodyOf Try.f63)
noncomputable def k63_1 : Code := (c2 k63_0)
noncomputable def k63_2 : Code := (c2 k63_1)
noncomputable def k63_3 : Code := (c2 k63_2)
noncomputable def k63_4 : Code := (c2 k63_3)
noncomputable def k63_5 : Code := (c2 (c1 k63_2))
noncomputable def k63_6 : Code := (c1 (c1 k63_5))
noncomputable def k63_7 : Code := (c2 k63_6)
noncomputable def k63_8 : Code := (c2 k63_7)
noncomputable def k63_9 : Code := (c2 (c1 (c1 k63_7)))
noncomputable def k63_10 : Code := (c2 k63_9)
noncomputable def k63_11 : Code := (c2 k63_10)
noncomputable def k63_12 : Code := (c2 k63_11)
noncomputable def k63_13 : Code := (c2 k63_12)
noncomputable def k63_14 : Code := (c2 k63_13)
noncomputable def k63_15 : Code := (c2 k63_14)
noncomputable def k63_16 : Code := (c2 (c1 k63_13))
noncomputable def k63_17 : Code := (c1 (c1 (c1 k63_11)))
noncomputable def k63_18 : Code := (c2 k63_17)
noncomputable def k63_19 : Code := (c2 (c1 k63_18))
noncomputable def k63_20 : Code := (c2 (c1 k63_17))
noncomputable def k63_21 : Code := (c2 (c1 (c1 (c1 k63_7))))
noncomputable def k63_22 : Code := (c2 (c1 k63_6))
theorem s63_8 {R : VP} {K1 : (Value × Value) → World → Prop} {Q : EQ} (hN : ∀ e w, (K1 ((e 3), (e 4)) w) → Q .normal e w) (e : Env) (w : World) (h : m63_8 R K1 (e 0) (e 3) (e 4) w) : W63 k63_8 Q e w := by
  unfold m63_8 at h
  exact rgA 4 (fun e w => K1 ((e 3), (e 4)) w) h hN
theorem s63_19 {R : VP} {K1 : (Value × Value) → World → Prop} {K2 : (Value × Value) → World → Prop} {Q : EQ} (hN : ∀ e w, (K2 ((e 5), (e 6)) w) → Q .normal e w) (e : Env) (w : World) (h : m63_19 R K1 K2 (e 0) (e 3) (e 4) (e 5) (e 6) w) : W63 k63_19 Q e w := by
  unfold m63_19 at h
  exact rgA 10 (fun e w => K2 ((e 5), (e 6)) w) h hN
theorem s63_18 {R : VP} {K1 : (Value × Value) → World → Prop} {K2 : (Value × Value) → World → Prop} {Q : EQ} (hN : ∀ e w, (K2 ((e 5), (e 6)) w) → Q .normal e w) (e : Env) (w : World) (h : m63_18 R K1 K2 (e 0) (e 3) (e 4) (e 5) (e 6) w) : W63 k63_18 Q e w := by
  unfold m63_18 at h
  refine block_ok 3 (by kernel_rfl) ?_
  have hN : ∀ e w, (K2 ((e 5), (e 6)) w) → (inBlockE 3 Q) .normal e w := fun e w h => block_N (hN e w h)
  refine seA ?_
  have hN : ∀ e w, (m63_19 R K1 K2 (e 0) (e 3) (e 4) (e 5) (e 6) w) → (thenE (W63 k63_19 (inBlockE 3 Q)) (inBlockE 3 Q)) .normal e w := fun e w h => then_N (s63_19 (R := R) (Q := (inBlockE 3 Q)) (K1 := K1) (K2 := K2) hN e w h)
  exact rgA 9 (fun e w => m63_19 R K1 K2 (e 0) (e 3) (e 4) (e 5) (e 6) w) h hN
theorem s63_15 {R : VP} {K1 : (Value × Value) → World → Prop} {Q : EQ} (hN : ∀ e w, (m63_8 R K1 (e 0) (e 3) (e 4) w) → Q .normal e w) (e : Env) (w : World) (h : m63_15 R K1 (e 0) (e 4) (e 5) w) : W63 k63_15 Q e w := by
  unfold m63_15 at h
  exact rgA 15 (fun e w => m63_8 R K1 (e 0) (e 3) (e 4) w) h hN
theorem s63_14 {R : VP} {K1 : (Value × Value) → World → Prop} {Q : EQ} (hN : ∀ e w, (m63_8 R K1 (e 0) (e 3) (e 4) w) → Q .normal e w) (e : Env) (w : World) (h : m63_14 R K1 (e 0) (e 3) (e 4) (e 5) (e 6) w) : W63 k63_14 Q e w := by
  unfold m63_14 at h
  refine seA ?_
  have hN : ∀ e w, (m63_15 R K1 (e 0) (e 4) (e 5) w) → (thenE (W63 k63_15 Q) Q) .normal e w := fun e w h => then_N (s63_15 (R := R) (Q := Q) (K1 := K1) hN e w h)
  exact rgA 14 (fun e w => m63_15 R K1 (e 0) (e 4) (e 5) w) h hN
theorem s63_16 {R : VP} {K1 : (Value × Value) → World → Prop} {Q : EQ} (hN : ∀ e w, (m63_14 R K1 (e 0) (e 3) (e 4) (e 5) (e 6) w) → Q .normal e w) (e : Env) (w : World) (h : m63_16 R K1 (e 0) (e 3) (e 4) (e 5) (e 6) (e 63) w) : W63 k63_16 Q e w := by
  unfold m63_16 at h
  refine coA (Operand.tmp 63) h (fun h1 => ?_) (fun h1 => ?_)
  · exact rgA 13 (fun e w => m63_14 R K1 (e 0) (e 3) (e 4) (e 5) (e 6) w) h1 hN
  · exact skA (hN _ _ h1)
theorem s63_13 {R : VP} {K1 : (Value × Value) → World → Prop} {Q : EQ} (hN : ∀ e w, (m63_8 R K1 (e 0) (e 3) (e 4) w) → Q .normal e w) (e : Env) (w : World) (h : m63_13 R K1 (e 0) (e 3) (e 4) (e 5) (e 6) w) : W63 k63_13 Q e w := by
  unfold m63_13 at h
  refine seA ?_
  have hN : ∀ e w, (m63_14 R K1 (e 0) (e 3) (e 4) (e 5) (e 6) w) → (thenE (W63 k63_14 Q) Q) .normal e w := fun e w h => then_N (s63_14 (R := R) (Q := Q) (K1 := K1) hN e w h)
  refine seA ?_
  have hN : ∀ e w, (m63_16 R K1 (e 0) (e 3) (e 4) (e 5) (e 6) (e 63) w) → (thenE (W63 k63_16 (thenE (W63 k63_14 Q) Q)) (thenE (W63 k63_14 Q) Q)) .normal e w := fun e w h => then_N (s63_16 (R := R) (Q := (thenE (W63 k63_14 Q) Q)) (K1 := K1) hN e w h)
  exact quA 12 (fun e w => m63_16 R K1 (e 0) (e 3) (e 4) (e 5) (e 6) (e 63) w) h hN
theorem s63_12 {R : VP} {K1 : (Value × Value) → World → Prop} {Q : EQ} (hN : ∀ e w, (m63_8 R K1 (e 0) (e 3) (e 4) w) → Q .normal e w) (e : Env) (w : World) (h : m63_12 R K1 (e 0) (e 3) (e 4) (e 5) (e 6) w) : W63 k63_12 Q e w := by
  unfold m63_12 at h
  refine seA ?_
  have hN : ∀ e w, (m63_13 R K1 (e 0) (e 3) (e 4) (e 5) (e 6) w) → (thenE (W63 k63_13 Q) Q) .normal e w := fun e w h => then_N (s63_13 (R := R) (Q := Q) (K1 := K1) hN e w h)
  exact rgA 11 (fun e w => m63_13 R K1 (e 0) (e 3) (e 4) (e 5) (e 6) w) h hN
theorem s63_20 {R : VP} {K1 : (Value × Value) → World → Prop} {K2 : (Value × Value) → World → Prop} {Q : EQ} (hN : ∀ e w, (m63_18 R K1 K2 (e 0) (e 3) (e 4) (e 5) (e 6) w) → Q .normal e w) (hX2 : ∀ e w, (m63_12 R K1 (e 0) (e 3) (e 4) (e 5) (e 6) w) → Q (.exit 2) e w) (e : Env) (w : World) (h : m63_20 R K1 K2 (e 0) (e 3) (e 4) (e 5) (e 6) (e 32) w) : W63 k63_20 Q e w := by
  unfold m63_20 at h
  refine coA (Operand.tmp 32) h (fun h1 => ?_) (fun h1 => ?_)
  · exact skA (hN _ _ h1)
  · exact exA 2 (hX2 _ _ h1)
theorem s63_17 {R : VP} {K1 : (Value × Value) → World → Prop} {K2 : (Value × Value) → World → Prop} {Q : EQ} (hN : ∀ e w, (K2 ((e 5), (e 6)) w) → Q .normal e w) (hX2 : ∀ e w, (m63_12 R K1 (e 0) (e 3) (e 4) (e 5) (e 6) w) → Q (.exit 2) e w) (e : Env) (w : World) (h : m63_17 R K1 K2 (e 0) (e 3) (e 4) (e 5) (e 6) w) : W63 k63_17 Q e w := by
  unfold m63_17 at h
  refine seA ?_
  have hN : ∀ e w, (m63_18 R K1 K2 (e 0) (e 3) (e 4) (e 5) (e 6) w) → (thenE (W63 k63_18 Q) Q) .normal e w := fun e w h => then_N (s63_18 (R := R) (Q := Q) (K1 := K1) (K2 := K2) hN e w h)
  have hX2 : ∀ e w, (m63_12 R K1 (e 0) (e 3) (e 4) (e 5) (e 6) w) → (thenE (W63 k63_18 Q) Q) (.exit 2) e w := fun e w h => then_X (hX2 e w h)
  refine seA ?_
  have hN : ∀ e w, (m63_20 R K1 K2 (e 0) (e 3) (e 4) (e 5) (e 6) (e 32) w) → (thenE (W63 k63_20 (thenE (W63 k63_18 Q) Q)) (thenE (W63 k63_18 Q) Q)) .normal e w := fun e w h => then_N (s63_20 (R := R) (Q := (thenE (W63 k63_18 Q) Q)) (K1 := K1) (K2 := K2) hN hX2 e w h)
  exact quA 8 (fun e w => m63_20 R K1 K2 (e 0) (e 3) (e 4) (e 5) (e 6) (e 32) w) h hN
theorem s63_11 {R : VP} {K1 : (Value × Value) → World → Prop} {Q : EQ} (hN : ∀ e w, (m63_8 R K1 (e 0) (e 3) (e 4) w) → Q .normal e w) (e : Env) (w : World) (h : m63_11 R K1 (e 0) (e 3) (e 4) (e 5) (e 6) w) : W63 k63_11 Q e w := by
  unfold m63_11 at h
  refine seA ?_
  have hN : ∀ e w, (m63_12 R K1 (e 0) (e 3) (e 4) (e 5) (e 6) w) → (thenE (W63 k63_12 Q) Q) .normal e w := fun e w h => then_N (s63_12 (R := R) (Q := Q) (K1 := K1) hN e w h)
  refine block_ok 2 (by kernel_rfl) ?_
  have hX2 : ∀ e w, (m63_12 R K1 (e 0) (e 3) (e 4) (e 5) (e 6) w) → (inBlockE 2 (thenE (W63 k63_12 Q) Q)) (.exit 2) e w := fun e w h => inBlock_same (Q := (thenE (W63 k63_12 Q) Q)) 2 (hN e w h)
  refine loop_ok' (fun (e : Env) => (e 5, e 6)) [0, 3, 4] (by kernel_rfl) (by kernel_rfl) h (fun K e' w' hk h' => ?_)
  have r0 : e' 0 = e 0 := hk 0 (by decide)
  have r3 : e' 3 = e 3 := hk 3 (by decide)
  have r4 : e' 4 = e 4 := hk 4 (by decide)
  have hX2 : ∀ e w, (m63_12 R K1 (e 0) (e 3) (e 4) (e 5) (e 6) w) → (thenE (fun (e : Env) w => K ((e 5), (e 6)) w) (inBlockE 2 (thenE (W63 k63_12 Q) Q))) (.exit 2) e w := fun e w h => then_X (hX2 e w h)
  exact s63_17 (R := R) (Q := (thenE (fun (e : Env) w => K ((e 5), (e 6)) w) (inBlockE 2 (thenE (W63 k63_12 Q) Q)))) (K1 := K1) (K2 := K) (fun _ _ h => then_N h) hX2 e' w' (by rw [r0, r3, r4]; exact h')
theorem s63_10 {R : VP} {K1 : (Value × Value) → World → Prop} {Q : EQ} (hN : ∀ e w, (m63_8 R K1 (e 0) (e 3) (e 4) w) → Q .normal e w) (e : Env) (w : World) (h : m63_10 R K1 (e 0) (e 3) (e 4) (e 5) w) : W63 k63_10 Q e w := by
  unfold m63_10 at h
  refine seA ?_
  have hN : ∀ e w, (m63_11 R K1 (e 0) (e 3) (e 4) (e 5) (e 6) w) → (thenE (W63 k63_11 Q) Q) .normal e w := fun e w h => then_N (s63_11 (R := R) (Q := Q) (K1 := K1) hN e w h)
  exact rgA 7 (fun e w => m63_11 R K1 (e 0) (e 3) (e 4) (e 5) (e 6) w) h hN
theorem s63_9 {R : VP} {K1 : (Value × Value) → World → Prop} {Q : EQ} (hN : ∀ e w, (m63_8 R K1 (e 0) (e 3) (e 4) w) → Q .normal e w) (e : Env) (w : World) (h : m63_9 R K1 (e 0) (e 3) (e 4) w) : W63 k63_9 Q e w := by
  unfold m63_9 at h
  refine seA ?_
  have hN : ∀ e w, (m63_10 R K1 (e 0) (e 3) (e 4) (e 5) w) → (thenE (W63 k63_10 Q) Q) .normal e w := fun e w h => then_N (s63_10 (R := R) (Q := Q) (K1 := K1) hN e w h)
  exact rgA 6 (fun e w => m63_10 R K1 (e 0) (e 3) (e 4) (e 5) w) h hN
theorem s63_21 {R : VP} {K1 : (Value × Value) → World → Prop} {Q : EQ} (hN : ∀ e w, (m63_9 R K1 (e 0) (e 3) (e 4) w) → Q .normal e w) (hX1 : ∀ e w, (m63_8 R K1 (e 0) (e 3) (e 4) w) → Q (.exit 1) e w) (e : Env) (w : World) (h : m63_21 R K1 (e 0) (e 3) (e 4) (e 17) w) : W63 k63_21 Q e w := by
  unfold m63_21 at h
  refine coA (Operand.tmp 17) h (fun h1 => ?_) (fun h1 => ?_)
  · exact exA 1 (hX1 _ _ h1)
  · exact skA (hN _ _ h1)
theorem s63_7 {R : VP} {K1 : (Value × Value) → World → Prop} {Q : EQ} (hN : ∀ e w, (K1 ((e 3), (e 4)) w) → Q .normal e w) (e : Env) (w : World) (h : m63_7 R K1 (e 0) (e 3) (e 4) w) : W63 k63_7 Q e w := by
  unfold m63_7 at h
  refine seA ?_
  have hN : ∀ e w, (m63_8 R K1 (e 0) (e 3) (e 4) w) → (thenE (W63 k63_8 Q) Q) .normal e w := fun e w h => then_N (s63_8 (R := R) (Q := Q) (K1 := K1) hN e w h)
  refine block_ok 1 (by kernel_rfl) ?_
  have hX1 : ∀ e w, (m63_8 R K1 (e 0) (e 3) (e 4) w) → (inBlockE 1 (thenE (W63 k63_8 Q) Q)) (.exit 1) e w := fun e w h => inBlock_same (Q := (thenE (W63 k63_8 Q) Q)) 1 (hN e w h)
  have hN : ∀ e w, (m63_8 R K1 (e 0) (e 3) (e 4) w) → (inBlockE 1 (thenE (W63 k63_8 Q) Q)) .normal e w := fun e w h => block_N (hN e w h)
  refine seA ?_
  have hN : ∀ e w, (m63_9 R K1 (e 0) (e 3) (e 4) w) → (thenE (W63 k63_9 (inBlockE 1 (thenE (W63 k63_8 Q) Q))) (inBlockE 1 (thenE (W63 k63_8 Q) Q))) .normal e w := fun e w h => then_N (s63_9 (R := R) (Q := (inBlockE 1 (thenE (W63 k63_8 Q) Q))) (K1 := K1) hN e w h)
  have hX1 : ∀ e w, (m63_8 R K1 (e 0) (e 3) (e 4) w) → (thenE (W63 k63_9 (inBlockE 1 (thenE (W63 k63_8 Q) Q))) (inBlockE 1 (thenE (W63 k63_8 Q) Q))) (.exit 1) e w := fun e w h => then_X (hX1 e w h)
  refine seA ?_
  have hN : ∀ e w, (m63_21 R K1 (e 0) (e 3) (e 4) (e 17) w) → (thenE (W63 k63_21 (thenE (W63 k63_9 (inBlockE 1 (thenE (W63 k63_8 Q) Q))) (inBlockE 1 (thenE (W63 k63_8 Q) Q)))) (thenE (W63 k63_9 (inBlockE 1 (thenE (W63 k63_8 Q) Q))) (inBlockE 1 (thenE (W63 k63_8 Q) Q)))) .normal e w := fun e w h => then_N (s63_21 (R := R) (Q := (thenE (W63 k63_9 (inBlockE 1 (thenE (W63 k63_8 Q) Q))) (inBlockE 1 (thenE (W63 k63_8 Q) Q)))) (K1 := K1) hN hX1 e w h)
  exact rgA 5 (fun e w => m63_21 R K1 (e 0) (e 3) (e 4) (e 17) w) h hN
theorem s63_4 {R : VP} {Q : EQ} (hR : ∀ e w, (R (e 2) w) → Q .ret e w) (e : Env) (w : World) (h : m63_4 R (e 2) w) : W63 k63_4 Q e w := by
  unfold m63_4 at h
  exact reA (hR _ _ h)
theorem s63_3 {R : VP} {Q : EQ} (hR : ∀ e w, (R (e 2) w) → Q .ret e w) (e : Env) (w : World) (h : m63_3 R (e 3) w) : W63 k63_3 Q e w := by
  unfold m63_3 at h
  refine seA ?_
  have hN : ∀ e w, (m63_4 R (e 2) w) → (thenE (W63 k63_4 Q) Q) .normal e w := fun e w h => then_N (s63_4 (R := R) (Q := Q) hR e w h)
  exact rgA 16 (fun e w => m63_4 R (e 2) w) h hN
theorem s63_22 {R : VP} {K1 : (Value × Value) → World → Prop} {Q : EQ} (hN : ∀ e w, (m63_7 R K1 (e 0) (e 3) (e 4) w) → Q .normal e w) (hX0 : ∀ e w, (m63_3 R (e 3) w) → Q (.exit 0) e w) (e : Env) (w : World) (h : m63_22 R K1 (e 0) (e 3) (e 4) (e 10) w) : W63 k63_22 Q e w := by
  unfold m63_22 at h
  refine coA (Operand.tmp 10) h (fun h1 => ?_) (fun h1 => ?_)
  · exact skA (hN _ _ h1)
  · exact exA 0 (hX0 _ _ h1)
theorem s63_6 {R : VP} {K1 : (Value × Value) → World → Prop} {Q : EQ} (hN : ∀ e w, (K1 ((e 3), (e 4)) w) → Q .normal e w) (hX0 : ∀ e w, (m63_3 R (e 3) w) → Q (.exit 0) e w) (e : Env) (w : World) (h : m63_6 R K1 (e 0) (e 3) (e 4) w) : W63 k63_6 Q e w := by
  unfold m63_6 at h
  refine seA ?_
  have hN : ∀ e w, (m63_7 R K1 (e 0) (e 3) (e 4) w) → (thenE (W63 k63_7 Q) Q) .normal e w := fun e w h => then_N (s63_7 (R := R) (Q := Q) (K1 := K1) hN e w h)
  have hX0 : ∀ e w, (m63_3 R (e 3) w) → (thenE (W63 k63_7 Q) Q) (.exit 0) e w := fun e w h => then_X (hX0 e w h)
  refine seA ?_
  have hN : ∀ e w, (m63_22 R K1 (e 0) (e 3) (e 4) (e 10) w) → (thenE (W63 k63_22 (thenE (W63 k63_7 Q) Q)) (thenE (W63 k63_7 Q) Q)) .normal e w := fun e w h => then_N (s63_22 (R := R) (Q := (thenE (W63 k63_7 Q) Q)) (K1 := K1) hN hX0 e w h)
  exact rgA 3 (fun e w => m63_22 R K1 (e 0) (e 3) (e 4) (e 10) w) h hN
theorem s63_5 {R : VP} {Q : EQ} (hN : ∀ e w, (m63_3 R (e 3) w) → Q .normal e w) (e : Env) (w : World) (h : m63_5 R (e 0) (e 3) (e 4) w) : W63 k63_5 Q e w := by
  unfold m63_5 at h
  refine block_ok 0 (by kernel_rfl) ?_
  have hX0 : ∀ e w, (m63_3 R (e 3) w) → (inBlockE 0 Q) (.exit 0) e w := fun e w h => inBlock_same (Q := Q) 0 (hN e w h)
  refine loop_ok' (fun (e : Env) => (e 3, e 4)) [0] (by kernel_rfl) (by kernel_rfl) h (fun K e' w' hk h' => ?_)
  have r0 : e' 0 = e 0 := hk 0 (by decide)
  have hX0 : ∀ e w, (m63_3 R (e 3) w) → (thenE (fun (e : Env) w => K ((e 3), (e 4)) w) (inBlockE 0 Q)) (.exit 0) e w := fun e w h => then_X (hX0 e w h)
  exact s63_6 (R := R) (Q := (thenE (fun (e : Env) w => K ((e 3), (e 4)) w) (inBlockE 0 Q))) (K1 := K) (fun _ _ h => then_N h) hX0 e' w' (by rw [r0]; exact h')
theorem s63_2 {R : VP} {Q : EQ} (hR : ∀ e w, (R (e 2) w) → Q .ret e w) (e : Env) (w : World) (h : m63_2 R (e 0) (e 3) w) : W63 k63_2 Q e w := by
  unfold m63_2 at h
  refine seA ?_
  have hN : ∀ e w, (m63_3 R (e 3) w) → (thenE (W63 k63_3 Q) Q) .normal e w := fun e w h => then_N (s63_3 (R := R) (Q := Q) hR e w h)
  refine seA ?_
  have hN : ∀ e w, (m63_5 R (e 0) (e 3) (e 4) w) → (thenE (W63 k63_5 (thenE (W63 k63_3 Q) Q)) (thenE (W63 k63_3 Q) Q)) .normal e w := fun e w h => then_N (s63_5 (R := R) (Q := (thenE (W63 k63_3 Q) Q)) hN e w h)
  exact rgA 2 (fun e w => m63_5 R (e 0) (e 3) (e 4) w) h hN
theorem s63_1 {R : VP} {Q : EQ} (hR : ∀ e w, (R (e 2) w) → Q .ret e w) (e : Env) (w : World) (h : m63_1 R (e 0) w) : W63 k63_1 Q e w := by
  unfold m63_1 at h
  refine seA ?_
  have hN : ∀ e w, (m63_2 R (e 0) (e 3) w) → (thenE (W63 k63_2 Q) Q) .normal e w := fun e w h => then_N (s63_2 (R := R) (Q := Q) hR e w h)
  exact rgA 1 (fun e w => m63_2 R (e 0) (e 3) w) h hN
theorem s63_0 {R : VP} {Q : EQ} (hR : ∀ e w, (R (e 2) w) → Q .ret e w) (e : Env) (w : World) (h : m63_0 R (e 0) w) : W63 k63_0 Q e w := by
  unfold m63_0 at h
  refine seA ?_
  have hN : ∀ e w, (m63_1 R (e 0) w) → (thenE (W63 k63_1 Q) Q) .normal e w := fun e w h => then_N (s63_1 (R := R) (Q := Q) hR e w h)
  exact rgA 0 (fun e w => m63_1 R (e 0) w) h hN
abbrev m63 (R : VP) (l0 : Value) (w : World) : Prop := m63_0 R l0 w
theorem s63 (l0 : Value) {R : VP} {w : World} (h : m63 R l0 w) :
    Calls Try.prog 63 #[l0] w fun e w' => ∃ v, e = .returned v ∧ R v w' :=
  calls_of_cwp (st := (fun i => cond (Nat.beq i 12) 1 (cond (Nat.beq i 8) 1 (0)))) (c := k63_0) (by kernel_rfl) Try.func63 (by kernel_rfl) (Nat.le_of_ble_eq_true (by kernel_rfl)) (by kernel_rfl)
    (s63_0 (R := R) (Q := endE Try.prog Try.f63 R) (fun e w h => kcast (by kernel_rfl) h) (argsE #[l0]) w (kcast (by kernel_rfl) h))
/-! ### headgate/headgateref09.Sticky -/
def m89_43 (R : VP) (t6 t7 : Value) (w : World) : Prop :=
  R (Value.tuple #[t6, t7]) w
def m89_40 (R : VP) (K1 : (Value × Value) → World → Prop) (parts0 old2 m8 l9 i10 : Value) (w : World) : Prop :=
  valP Try.prog (binS BinOp.add 3 (Operand.tmp 28) (Operand.const (Value.int IntKind.i64 1)) i10 (Value.int IntKind.i64 1)) w fun t29 w =>
  K1 (l9, t29) w
def m89_39 (R : VP) (K1 : (Value × Value) → World → Prop) (parts0 old2 m8 l9 i10 : Value) (w : World) : Prop :=
  valP Try.prog (Instr.buildSlice 28 1 #[(0, (Value.int IntKind.i64 0))]) w fun t31 w =>
  builtinP Try.prog Builtin.append #[28, 28] 28 #[false, false] #[l9, t31] w fun t32 w =>
  m89_40 R K1 parts0 old2 m8 t32 i10 w
def m89_36 (R : VP) (t6 t7 : Value) (w : World) : Prop :=
  R (Value.tuple #[t6, t7]) w
def m89_29 (R : VP) (K1 : VP) (parts0 old2 m8 l9 least11 i12 : Value) (w : World) : Prop :=
  valP Try.prog (binS BinOp.add 3 (Operand.tmp 50) (Operand.const (Value.int IntKind.i64 1)) i12 (Value.int IntKind.i64 1)) w fun t51 w =>
  K1 t51 w
def m89_32 (R : VP) (K1 : VP) (parts0 old2 m8 l9 least11 i12 t83 : Value) (w : World) : Prop :=
  condP t83
  (valP Try.prog (Instr.indexAt 28 old2 i12) w fun t88 w =>
  valP Try.prog (Instr.loadAt 3 t88) w fun t89 w =>
  valP Try.prog (Instr.indexAt 28 l9 i12) w fun t90 w =>
  unitP Try.prog (Instr.storeAt 3 t90 t89) w fun _ w =>
  m89_29 R K1 parts0 old2 m8 l9 least11 i12 w)
  (m89_29 R K1 parts0 old2 m8 l9 least11 i12 w)
def m89_31 (R : VP) (K1 : VP) (parts0 old2 m8 l9 least11 i12 n13 : Value) (w : World) : Prop :=
  anyDraw w fun w =>
  heldP w fun J =>
  valJ Try.prog J (binS BinOp.lss 3 (Operand.tmp 65) (Operand.tmp 66) n13 least11) fun t67 =>
  condP t67
  (pickP t67 (Value.bool true) undef fun t83 =>
  m89_32 R K1 parts0 old2 m8 l9 least11 i12 t83 w)
  (valJ Try.prog J (binS BinOp.eql 3 (Operand.tmp 69) (Operand.tmp 70) n13 least11) fun t71 =>
  condP t71
  (builtinJ Try.prog J Builtin.len #[28] 3 #[false] #[m8] fun t79 =>
  valJ Try.prog J (binS BinOp.rem 3 (Operand.tmp 77) (Operand.tmp 79) parts0 t79) fun t80 =>
  callP Try.prog (fnV 103) #[l9, m8, least11] w fun t76 w =>
  stayP J w
  (valJ Try.prog J (binS BinOp.lss 3 (Operand.tmp 76) (Operand.tmp 80) t76 t80) fun t81 =>
  pickP t71 t81 (Value.bool false) fun t82 =>
  pickP t67 (Value.bool true) t82 fun t83 =>
  m89_32 R K1 parts0 old2 m8 l9 least11 i12 t83 w))
  (pickP t71 undef (Value.bool false) fun t82 =>
  pickP t67 (Value.bool true) t82 fun t83 =>
  m89_32 R K1 parts0 old2 m8 l9 least11 i12 t83 w))
def m89_30 (R : VP) (K1 : VP) (parts0 old2 m8 l9 least11 i12 : Value) (w : World) : Prop :=
  valP Try.prog (Instr.indexAt 28 old2 i12) w fun t62 w =>
  valP Try.prog (Instr.loadAt 3 t62) w fun t63 w =>
  callP Try.prog (fnV 21) #[l9, t63] w fun t64 w =>
  m89_31 R K1 parts0 old2 m8 l9 least11 i12 t64 w
def m89_33 (R : VP) (K1 : VP) (parts0 old2 m8 l9 least11 i12 t58 : Value) (w : World) : Prop :=
  condP t58
  (m89_29 R K1 parts0 old2 m8 l9 least11 i12 w)
  (m89_30 R K1 parts0 old2 m8 l9 least11 i12 w)
def m89_28 (R : VP) (K1 : VP) (parts0 old2 m8 l9 least11 i12 : Value) (w : World) : Prop :=
  valP Try.prog (Instr.indexAt 28 old2 i12) w fun t55 w =>
  valP Try.prog (Instr.loadAt 3 t55) w fun t56 w =>
  callP Try.prog (fnV 102) #[m8, t56] w fun t57 w =>
  valP Try.prog (Op.unary UnOp.not t57) w fun t58 w =>
  m89_33 R K1 parts0 old2 m8 l9 least11 i12 t58 w
def m89_14 (R : VP) (K1 : VP) (parts0 m8 l9 i14 : Value) (w : World) : Prop :=
  valP Try.prog (binS BinOp.add 3 (Operand.tmp 94) (Operand.const (Value.int IntKind.i64 1)) i14 (Value.int IntKind.i64 1)) w fun t95 w =>
  K1 t95 w
def m89_21 (R : VP) (K1 : VP) (K2 : (Value × Value) → World → Prop) (parts0 m8 l9 i14 best15 k16 : Value) (w : World) : Prop :=
  valP Try.prog (binS BinOp.add 3 (Operand.tmp 108) (Operand.const (Value.int IntKind.i64 1)) k16 (Value.int IntKind.i64 1)) w fun t109 w =>
  K2 (best15, t109) w
def m89_22 (R : VP) (K1 : VP) (K2 : (Value × Value) → World → Prop) (parts0 m8 l9 i14 best15 k16 t119 : Value) (w : World) : Prop :=
  condP t119
  (valP Try.prog (Instr.indexAt 28 m8 k16) w fun t122 w =>
  valP Try.prog (Instr.loadAt 3 t122) w fun t123 w =>
  m89_21 R K1 K2 parts0 m8 l9 i14 t123 k16 w)
  (m89_21 R K1 K2 parts0 m8 l9 i14 best15 k16 w)
def m89_20 (R : VP) (K1 : VP) (K2 : (Value × Value) → World → Prop) (parts0 m8 l9 i14 best15 k16 : Value) (w : World) : Prop :=
  valP Try.prog (Instr.indexAt 28 m8 k16) w fun t113 w =>
  valP Try.prog (Instr.loadAt 3 t113) w fun t114 w =>
  callP Try.prog (fnV 21) #[l9, t114] w fun t115 w =>
  callP Try.prog (fnV 21) #[l9, best15] w fun t118 w =>
  valP Try.prog (binS BinOp.lss 3 (Operand.tmp 115) (Operand.tmp 118) t115 t118) w fun t119 w =>
  m89_22 R K1 K2 parts0 m8 l9 i14 best15 k16 t119 w
def m89_17 (R : VP) (K1 : VP) (parts0 m8 l9 i14 best15 : Value) (w : World) : Prop :=
  valP Try.prog (Instr.indexAt 28 l9 i14) w fun t127 w =>
  unitP Try.prog (Instr.storeAt 3 t127 best15) w fun _ w =>
  m89_14 R K1 parts0 m8 l9 i14 w
def m89_23 (R : VP) (K1 : VP) (K2 : (Value × Value) → World → Prop) (parts0 m8 l9 i14 best15 k16 t107 : Value) (w : World) : Prop :=
  condP t107
  (m89_20 R K1 K2 parts0 m8 l9 i14 best15 k16 w)
  (m89_17 R K1 parts0 m8 l9 i14 best15 w)
def m89_19 (R : VP) (K1 : VP) (K2 : (Value × Value) → World → Prop) (parts0 m8 l9 i14 best15 k16 : Value) (w : World) : Prop :=
  builtinP Try.prog Builtin.len #[28] 3 #[false] #[m8] w fun t106 w =>
  valP Try.prog (binS BinOp.lss 3 (Operand.tmp 104) (Operand.tmp 106) k16 t106) w fun t107 w =>
  m89_23 R K1 K2 parts0 m8 l9 i14 best15 k16 t107 w
def m89_18 (R : VP) (K1 : VP) (parts0 m8 l9 i14 best15 k16 : Value) (w : World) : Prop :=
  loopP (fun (K2 : (Value × Value) → World → Prop) (s : Value × Value) w => m89_19 R K1 K2 parts0 m8 l9 i14 s.1 s.2 w) (best15, k16) w
def m89_16 (R : VP) (K1 : VP) (parts0 m8 l9 i14 best15 : Value) (w : World) : Prop :=
  m89_18 R K1 parts0 m8 l9 i14 best15 (Value.int IntKind.i64 1) w
def m89_15 (R : VP) (K1 : VP) (parts0 m8 l9 i14 : Value) (w : World) : Prop :=
  valP Try.prog (Instr.indexAt 28 m8 (Value.int IntKind.i64 0)) w fun t102 w =>
  valP Try.prog (Instr.loadAt 3 t102) w fun t103 w =>
  m89_16 R K1 parts0 m8 l9 i14 t103 w
def m89_24 (R : VP) (K1 : VP) (parts0 m8 l9 i14 t100 : Value) (w : World) : Prop :=
  condP t100
  (m89_14 R K1 parts0 m8 l9 i14 w)
  (m89_15 R K1 parts0 m8 l9 i14 w)
def m89_13 (R : VP) (K1 : VP) (parts0 m8 l9 i14 : Value) (w : World) : Prop :=
  valP Try.prog (Instr.indexAt 28 l9 i14) w fun t98 w =>
  valP Try.prog (Instr.loadAt 3 t98) w fun t99 w =>
  valP Try.prog (binS BinOp.gtr 3 (Operand.tmp 99) (Operand.const (Value.int IntKind.i64 0)) t99 (Value.int IntKind.i64 0)) w fun t100 w =>
  m89_24 R K1 parts0 m8 l9 i14 t100 w
def m89_10 (R : VP) (t6 t7 : Value) (w : World) : Prop :=
  R (Value.tuple #[t6, t7]) w
def m89_9 (R : VP) (l9 : Value) (w : World) : Prop :=
  m89_10 R l9 (Value.int IntKind.i64 0) w
def m89_25 (R : VP) (K1 : VP) (parts0 m8 l9 i14 t93 : Value) (w : World) : Prop :=
  condP t93
  (m89_13 R K1 parts0 m8 l9 i14 w)
  (m89_9 R l9 w)
def m89_12 (R : VP) (K1 : VP) (parts0 m8 l9 i14 : Value) (w : World) : Prop :=
  valP Try.prog (binS BinOp.lss 3 (Operand.tmp 91) (Operand.tmp 92) i14 parts0) w fun t93 w =>
  m89_25 R K1 parts0 m8 l9 i14 t93 w
def m89_11 (R : VP) (parts0 m8 l9 i14 : Value) (w : World) : Prop :=
  loopP (fun (K1 : VP) (s : Value) w => m89_12 R K1 parts0 m8 l9 s w) i14 w
def m89_8 (R : VP) (parts0 m8 l9 : Value) (w : World) : Prop :=
  m89_11 R parts0 m8 l9 (Value.int IntKind.i64 0) w
def m89_34 (R : VP) (K1 : VP) (parts0 old2 m8 l9 least11 i12 t49 : Value) (w : World) : Prop :=
  condP t49
  (m89_28 R K1 parts0 old2 m8 l9 least11 i12 w)
  (m89_8 R parts0 m8 l9 w)
def m89_27 (R : VP) (K1 : VP) (parts0 old2 m8 l9 least11 i12 : Value) (w : World) : Prop :=
  valP Try.prog (binS BinOp.lss 3 (Operand.tmp 41) (Operand.tmp 42) i12 parts0) w fun t43 w =>
  condP t43
  (builtinP Try.prog Builtin.len #[28] 3 #[false] #[old2] w fun t47 w =>
  valP Try.prog (binS BinOp.lss 3 (Operand.tmp 45) (Operand.tmp 47) i12 t47) w fun t48 w =>
  pickP t43 t48 (Value.bool false) fun t49 =>
  m89_34 R K1 parts0 old2 m8 l9 least11 i12 t49 w)
  (pickP t43 undef (Value.bool false) fun t49 =>
  m89_34 R K1 parts0 old2 m8 l9 least11 i12 t49 w)
def m89_26 (R : VP) (parts0 old2 m8 l9 least11 i12 : Value) (w : World) : Prop :=
  loopP (fun (K1 : VP) (s : Value) w => m89_27 R K1 parts0 old2 m8 l9 least11 s w) i12 w
def m89_7 (R : VP) (parts0 old2 m8 l9 least11 : Value) (w : World) : Prop :=
  m89_26 R parts0 old2 m8 l9 least11 (Value.int IntKind.i64 0) w
def m89_6 (R : VP) (parts0 old2 m8 l9 : Value) (w : World) : Prop :=
  builtinP Try.prog Builtin.len #[28] 3 #[false] #[m8] w fun t39 w =>
  valP Try.prog (binS BinOp.quo 3 (Operand.tmp 37) (Operand.tmp 39) parts0 t39) w fun t40 w =>
  m89_7 R parts0 old2 m8 l9 t40 w
def m89_35 (R : VP) (parts0 old2 m8 l9 t35 : Value) (w : World) : Prop :=
  condP t35
  (m89_36 R l9 (Value.int IntKind.i64 0) w)
  (m89_6 R parts0 old2 m8 l9 w)
def m89_5 (R : VP) (parts0 old2 m8 l9 : Value) (w : World) : Prop :=
  builtinP Try.prog Builtin.len #[28] 3 #[false] #[m8] w fun t34 w =>
  valP Try.prog (binS BinOp.eql 3 (Operand.tmp 34) (Operand.const (Value.int IntKind.i64 0)) t34 (Value.int IntKind.i64 0)) w fun t35 w =>
  m89_35 R parts0 old2 m8 l9 t35 w
def m89_41 (R : VP) (K1 : (Value × Value) → World → Prop) (parts0 old2 m8 l9 i10 t27 : Value) (w : World) : Prop :=
  condP t27
  (m89_39 R K1 parts0 old2 m8 l9 i10 w)
  (m89_5 R parts0 old2 m8 l9 w)
def m89_38 (R : VP) (K1 : (Value × Value) → World → Prop) (parts0 old2 m8 l9 i10 : Value) (w : World) : Prop :=
  valP Try.prog (binS BinOp.lss 3 (Operand.tmp 25) (Operand.tmp 26) i10 parts0) w fun t27 w =>
  m89_41 R K1 parts0 old2 m8 l9 i10 t27 w
def m89_37 (R : VP) (parts0 old2 m8 l9 i10 : Value) (w : World) : Prop :=
  loopP (fun (K1 : (Value × Value) → World → Prop) (s : Value × Value) w => m89_38 R K1 parts0 old2 m8 s.1 s.2 w) (l9, i10) w
def m89_4 (R : VP) (parts0 old2 m8 l9 : Value) (w : World) : Prop :=
  m89_37 R parts0 old2 m8 l9 (Value.int IntKind.i64 0) w
def m89_3 (R : VP) (parts0 old2 m8 : Value) (w : World) : Prop :=
  m89_4 R parts0 old2 m8 (Value.slice none 0 0) w
def m89_2 (R : VP) (parts0 members1 old2 : Value) (w : World) : Prop :=
  callP Try.prog (fnV 63) #[members1] w fun t24 w =>
  m89_3 R parts0 old2 t24 w
def m89_42 (R : VP) (parts0 members1 old2 t22 : Value) (w : World) : Prop :=
  condP t22
  (m89_43 R (Value.slice none 0 0) (Value.int IntKind.i64 1) w)
  (m89_2 R parts0 members1 old2 w)
def m89_1 (R : VP) (parts0 members1 old2 : Value) (w : World) : Prop :=
  valP Try.prog (binS BinOp.lss 3 (Operand.tmp 17) (Operand.const (Value.int IntKind.i64 1)) parts0 (Value.int IntKind.i64 1)) w fun t18 w =>
  condP t18
  (pickP t18 (Value.bool true) undef fun t22 =>
  m89_42 R parts0 members1 old2 t22 w)
  (valP Try.prog (binS BinOp.gtr 3 (Operand.tmp 20) (Operand.const (Value.int IntKind.i64 64)) parts0 (Value.int IntKind.i64 64)) w fun t21 w =>
  pickP t18 (Value.bool true) t21 fun t22 =>
  m89_42 R parts0 members1 old2 t22 w)
def m89_0 (R : VP) (parts0 members1 old2 : Value) (w : World) : Prop :=
  m89_1 R parts0 members1 old2 w
abbrev W89 := cwp Try.prog (fun i => 0)
noncomputable def k89_0 : Code := (bodyOf Try.f89)
noncomputable def k89_1 : Code := (c2 k89_0)
noncomputable def k89_2 : Code := (c2 k89_1)
noncomputable def k89_3 : Code := (c2 k89_2)
noncomputable def k89_4 : Code := (c2 k89_3)
noncomputable def k89_5 : Code := (c2 k89_4)
noncomputable def k89_6 : Code := (c2 k89_5)
noncomputable def k89_7 : Code := (c2 k89_6)
noncomputable def k89_8 : Code := (c2 k89_7)
noncomputable def k89_9 : Code := (c2 k89_8)
noncomputable def k89_10 : Code := (c2 k89_9)
noncomputable def k89_11 : Code := (c2 (c1 k89_8))
noncomputable def k89_12 : Code := (c1 (c1 k89_11))
noncomputable def k89_13 : Code := (c2 k89_12)
noncomputable def k89_14 : Code := (c2 k89_13)
noncomputable def k89_15 : Code := (c2 (c1 (c1 k89_13)))
noncomputable def k89_16 : Code := (c2 k89_15)
noncomputable def k89_17 : Code := (c2 k89_16)
noncomputable def k89_18 : Code := (c2 (c1 k89_16))
noncomputable def k89_19 : Code := (c1 (c1 k89_18))
noncomputable def k89_20 : Code := (c2 k89_19)
noncomputable def k89_21 : Code := (c2 k89_20)
noncomputable def k89_22 : Code := (c2 (c1 (c1 k89_20)))
noncomputable def k89_23 : Code := (c2 (c1 k89_19))
noncomputable def k89_24 : Code := (c2 (c1 (c1 (c1 k89_13))))
noncomputable def k89_25 : Code := (c2 (c1 k89_12))
noncomputable def k89_26 : Code := (c2 (c1 k89_7))
noncomputable def k89_27 : Code := (c1 (c1 k89_26))
noncomputable def k89_28 : Code := (c2 k89_27)
noncomputable def k89_29 : Code := (c2 k89_28)
noncomputable def k89_30 : Code := (c2 (c1 (c1 k89_28)))
noncomputable def k89_31 : Code := (c2 k89_30)
noncomputable def k89_32 : Code := (c2 k89_31)
noncomputable def k89_33 : Code := (c2 (c1 (c1 (c1 k89_28))))
noncomputable def k89_34 : Code := (c2 (c1 k89_27))
noncomputable def k89_35 : Code := (c2 (c1 k89_5))
noncomputable def k89_36 : Code := (c2 (c1 k89_35))
noncomputable def k89_37 : Code := (c2 (c1 k89_4))
noncomputable def k89_38 : Code := (c1 (c1 k89_37))
noncomputable def k89_39 : Code := (c2 k89_38)
noncomputable def k89_40 : Code := (c2 k89_39)
noncomputable def k89_41 : Code := (c2 (c1 k89_38))
noncomputable def k89_42 : Code := (c2 (c1 k89_1))
noncomputable def k89_43 : Code := (c2 (c1 k89_42))
theorem s89_43 {R : VP} {Q : EQ} (hR : ∀ e w, (R (Value.tuple #[(e 6), (e 7)]) w) → Q .ret e w) (e : Env) (w : World) (h : m89_43 R (e 6) (e 7) w) : W89 k89_43 Q e w := by
  unfold m89_43 at h
  exact reA (hR _ _ h)
theorem s89_40 {R : VP} {K1 : (Value × Value) → World → Prop} {Q : EQ} (hN : ∀ e w, (K1 ((e 9), (e 10)) w) → Q .normal e w) (e : Env) (w : World) (h : m89_40 R K1 (e 0) (e 2) (e 8) (e 9) (e 10) w) : W89 k89_40 Q e w := by
  unfold m89_40 at h
  exact rgA 7 (fun e w => K1 ((e 9), (e 10)) w) h hN
theorem s89_39 {R : VP} {K1 : (Value × Value) → World → Prop} {Q : EQ} (hN : ∀ e w, (K1 ((e 9), (e 10)) w) → Q .normal e w) (e : Env) (w : World) (h : m89_39 R K1 (e 0) (e 2) (e 8) (e 9) (e 10) w) : W89 k89_39 Q e w := by
  unfold m89_39 at h
  refine seA ?_
  have hN : ∀ e w, (m89_40 R K1 (e 0) (e 2) (e 8) (e 9) (e 10) w) → (thenE (W89 k89_40 Q) Q) .normal e w := fun e w h => then_N (s89_40 (R := R) (Q := Q) (K1 := K1) hN e w h)
  refine block_ok 1 (by kernel_rfl) ?_
  have hN : ∀ e w, (m89_40 R K1 (e 0) (e 2) (e 8) (e 9) (e 10) w) → (inBlockE 1 (thenE (W89 k89_40 Q) Q)) .normal e w := fun e w h => block_N (hN e w h)
  exact rgA 8 (fun e w => m89_40 R K1 (e 0) (e 2) (e 8) (e 9) (e 10) w) h hN
theorem s89_36 {R : VP} {Q : EQ} (hR : ∀ e w, (R (Value.tuple #[(e 6), (e 7)]) w) → Q .ret e w) (e : Env) (w : World) (h : m89_36 R (e 6) (e 7) w) : W89 k89_36 Q e w := by
  unfold m89_36 at h
  exact reA (hR _ _ h)
theorem s89_29 {R : VP} {K1 : VP} {Q : EQ} (hN : ∀ e w, (K1 (e 12) w) → Q .normal e w) (e : Env) (w : World) (h : m89_29 R K1 (e 0) (e 2) (e 8) (e 9) (e 11) (e 12) w) : W89 k89_29 Q e w := by
  unfold m89_29 at h
  exact rgA 14 (fun e w => K1 (e 12) w) h hN
theorem s89_32 {R : VP} {K1 : VP} {Q : EQ} (hN : ∀ e w, (m89_29 R K1 (e 0) (e 2) (e 8) (e 9) (e 11) (e 12) w) → Q .normal e w) (e : Env) (w : World) (h : m89_32 R K1 (e 0) (e 2) (e 8) (e 9) (e 11) (e 12) (e 83) w) : W89 k89_32 Q e w := by
  unfold m89_32 at h
  refine coA (Operand.tmp 83) h (fun h1 => ?_) (fun h1 => ?_)
  · exact rgA 18 (fun e w => m89_29 R K1 (e 0) (e 2) (e 8) (e 9) (e 11) (e 12) w) h1 hN
  · exact skA (hN _ _ h1)
theorem s89_31 {R : VP} {K1 : VP} {Q : EQ} (hN : ∀ e w, (m89_29 R K1 (e 0) (e 2) (e 8) (e 9) (e 11) (e 12) w) → Q .normal e w) (e : Env) (w : World) (h : m89_31 R K1 (e 0) (e 2) (e 8) (e 9) (e 11) (e 12) (e 13) w) : W89 k89_31 Q e w := by
  unfold m89_31 at h
  refine seA ?_
  have hN : ∀ e w, (m89_32 R K1 (e 0) (e 2) (e 8) (e 9) (e 11) (e 12) (e 83) w) → (thenE (W89 k89_32 Q) Q) .normal e w := fun e w h => then_N (s89_32 (R := R) (Q := Q) (K1 := K1) hN e w h)
  exact treeJ_ok 17 19 [false, false, false, false, false, false, false, false, false, false, false, false, false, false, false, false, false, false, false] (.take 0 [true, false, false, false, false, false, false, false, false, false, false, false, false, false, false, false, false, false, false] (.take 1 [true, true, false, false, false, false, false, false, false, false, false, false, false, false, false, false, false, false, false] (.take 2 [true, true, true, false, false, false, false, false, false, false, false, false, false, false, false, false, false, false, false] (.take 3 [true, true, true, true, false, false, false, false, false, false, false, false, false, false, false, false, false, false, false] (.take 4 [true, true, true, true, true, false, false, false, false, false, false, false, false, false, false, false, false, false, false] (.take 5 [true, true, true, true, true, true, false, false, false, false, false, false, false, false, false, false, false, false, false] (.take 6 [true, true, true, true, true, true, true, false, false, false, false, false, false, false, false, false, false, false, false] (.take 7 [true, true, true, true, true, true, true, true, false, false, false, false, false, false, false, false, false, false, false] (.take 8 [true, true, true, true, true, true, true, true, true, false, false, false, false, false, false, false, false, false, false] (.take 9 [true, true, true, true, true, true, true, true, true, true, false, false, false, false, false, false, false, false, false] (.take 10 [true, true, true, true, true, true, true, true, true, true, true, false, false, false, false, false, false, false, false] (.take 12 [true, true, true, true, true, true, true, true, true, true, true, false, true, false, false, false, false, false, false] (.take 13 [true, true, true, true, true, true, true, true, true, true, true, false, true, true, false, false, false, false, false] (.take 14 [true, true, true, true, true, true, true, true, true, true, true, false, true, true, true, false, false, false, false] (.take 15 [true, true, true, true, true, true, true, true, true, true, true, false, true, true, true, true, false, false, false] (.alt 11 [true, true, true, true, true, true, true, true, true, true, true, true, true, true, true, true, false, false, false] (.take 16 [true, true, true, true, true, true, true, true, true, true, true, true, true, true, true, true, true, false, false] (.take 17 [true, true, true, true, true, true, true, true, true, true, true, true, true, true, true, true, true, true, false] (.take 18 [true, true, true, true, true, true, true, true, true, true, true, true, true, true, true, true, true, true, true] .done))) .stop)))))))))))))))) (fun e w => m89_32 R K1 (e 0) (e 2) (e 8) (e 9) (e 11) (e 12) (e 83) w) (by kernel_rfl) (by kernel_rfl) (by kernel_rfl) (by kernel_rfl) (by kernel_rfl) (by kernel_rfl) (kcast (by kernel_rfl) h) hN (by kernel_rfl)
theorem s89_30 {R : VP} {K1 : VP} {Q : EQ} (hN : ∀ e w, (m89_29 R K1 (e 0) (e 2) (e 8) (e 9) (e 11) (e 12) w) → Q .normal e w) (e : Env) (w : World) (h : m89_30 R K1 (e 0) (e 2) (e 8) (e 9) (e 11) (e 12) w) : W89 k89_30 Q e w := by
  unfold m89_30 at h
  refine seA ?_
  have hN : ∀ e w, (m89_31 R K1 (e 0) (e 2) (e 8) (e 9) (e 11) (e 12) (e 13) w) → (thenE (W89 k89_31 Q) Q) .normal e w := fun e w h => then_N (s89_31 (R := R) (Q := Q) (K1 := K1) hN e w h)
  exact rgA 16 (fun e w => m89_31 R K1 (e 0) (e 2) (e 8) (e 9) (e 11) (e 12) (e 13) w) h hN
theorem s89_33 {R : VP} {K1 : VP} {Q : EQ} (hN : ∀ e w, (m89_30 R K1 (e 0) (e 2) (e 8) (e 9) (e 11) (e 12) w) → Q .normal e w) (hX3 : ∀ e w, (m89_29 R K1 (e 0) (e 2) (e 8) (e 9) (e 11) (e 12) w) → Q (.exit 3) e w) (e : Env) (w : World) (h : m89_33 R K1 (e 0) (e 2) (e 8) (e 9) (e 11) (e 12) (e 58) w) : W89 k89_33 Q e w := by
  unfold m89_33 at h
  refine coA (Operand.tmp 58) h (fun h1 => ?_) (fun h1 => ?_)
  · exact exA 3 (hX3 _ _ h1)
  · exact skA (hN _ _ h1)
theorem s89_28 {R : VP} {K1 : VP} {Q : EQ} (hN : ∀ e w, (K1 (e 12) w) → Q .normal e w) (e : Env) (w : World) (h : m89_28 R K1 (e 0) (e 2) (e 8) (e 9) (e 11) (e 12) w) : W89 k89_28 Q e w := by
  unfold m89_28 at h
  refine seA ?_
  have hN : ∀ e w, (m89_29 R K1 (e 0) (e 2) (e 8) (e 9) (e 11) (e 12) w) → (thenE (W89 k89_29 Q) Q) .normal e w := fun e w h => then_N (s89_29 (R := R) (Q := Q) (K1 := K1) hN e w h)
  refine block_ok 3 (by kernel_rfl) ?_
  have hX3 : ∀ e w, (m89_29 R K1 (e 0) (e 2) (e 8) (e 9) (e 11) (e 12) w) → (inBlockE 3 (thenE (W89 k89_29 Q) Q)) (.exit 3) e w := fun e w h => inBlock_same (Q := (thenE (W89 k89_29 Q) Q)) 3 (hN e w h)
  have hN : ∀ e w, (m89_29 R K1 (e 0) (e 2) (e 8) (e 9) (e 11) (e 12) w) → (inBlockE 3 (thenE (W89 k89_29 Q) Q)) .normal e w := fun e w h => block_N (hN e w h)
  refine seA ?_
  have hN : ∀ e w, (m89_30 R K1 (e 0) (e 2) (e 8) (e 9) (e 11) (e 12) w) → (thenE (W89 k89_30 (inBlockE 3 (thenE (W89 k89_29 Q) Q))) (inBlockE 3 (thenE (W89 k89_29 Q) Q))) .normal e w := fun e w h => then_N (s89_30 (R := R) (Q := (inBlockE 3 (thenE (W89 k89_29 Q) Q))) (K1 := K1) hN e w h)
  have hX3 : ∀ e w, (m89_29 R K1 (e 0) (e 2) (e 8) (e 9) (e 11) (e 12) w) → (thenE (W89 k89_30 (inBlockE 3 (thenE (W89 k89_29 Q) Q))) (inBlockE 3 (thenE (W89 k89_29 Q) Q))) (.exit 3) e w := fun e w h => then_X (hX3 e w h)
  refine seA ?_
  have hN : ∀ e w, (m89_33 R K1 (e 0) (e 2) (e 8) (e 9) (e 11) (e 12) (e 58) w) → (thenE (W89 k89_33 (thenE (W89 k89_30 (inBlockE 3 (thenE (W89 k89_29 Q) Q))) (inBlockE 3 (thenE (W89 k89_29 Q) Q)))) (thenE (W89 k89_30 (inBlockE 3 (thenE (W89 k89_29 Q) Q))) (inBlockE 3 (thenE (W89 k89_29 Q) Q)))) .normal e w := fun e w h => then_N (s89_33 (R := R) (Q := (thenE (W89 k89_30 (inBlockE 3 (thenE (W89 k89_29 Q) Q))) (inBlockE 3 (thenE (W89 k89_29 Q) Q)))) (K1 := K1) hN hX3 e w h)
  exact rgA 15 (fun e w => m89_33 R K1 (e 0) (e 2) (e 8) (e 9) (e 11) (e 12) (e 58) w) h hN
theorem s89_14 {R : VP} {K1 : VP} {Q : EQ} (hN : ∀ e w, (K1 (e 14) w) → Q .normal e w) (e : Env) (w : World) (h : m89_14 R K1 (e 0) (e 8) (e 9) (e 14) w) : W89 k89_14 Q e w := by
  unfold m89_14 at h
  exact rgA 21 (fun e w => K1 (e 14) w) h hN
theorem s89_21 {R : VP} {K1 : VP} {K2 : (Value × Value) → World → Prop} {Q : EQ} (hN : ∀ e w, (K2 ((e 15), (e 16)) w) → Q .normal e w) (e : Env) (w : World) (h : m89_21 R K1 K2 (e 0) (e 8) (e 9) (e 14) (e 15) (e 16) w) : W89 k89_21 Q e w := by
  unfold m89_21 at h
  exact rgA 26 (fun e w => K2 ((e 15), (e 16)) w) h hN
theorem s89_22 {R : VP} {K1 : VP} {K2 : (Value × Value) → World → Prop} {Q : EQ} (hN : ∀ e w, (m89_21 R K1 K2 (e 0) (e 8) (e 9) (e 14) (e 15) (e 16) w) → Q .normal e w) (e : Env) (w : World) (h : m89_22 R K1 K2 (e 0) (e 8) (e 9) (e 14) (e 15) (e 16) (e 119) w) : W89 k89_22 Q e w := by
  unfold m89_22 at h
  refine coA (Operand.tmp 119) h (fun h1 => ?_) (fun h1 => ?_)
  · exact rgA 28 (fun e w => m89_21 R K1 K2 (e 0) (e 8) (e 9) (e 14) (e 15) (e 16) w) h1 hN
  · exact skA (hN _ _ h1)
theorem s89_20 {R : VP} {K1 : VP} {K2 : (Value × Value) → World → Prop} {Q : EQ} (hN : ∀ e w, (K2 ((e 15), (e 16)) w) → Q .normal e w) (e : Env) (w : World) (h : m89_20 R K1 K2 (e 0) (e 8) (e 9) (e 14) (e 15) (e 16) w) : W89 k89_20 Q e w := by
  unfold m89_20 at h
  refine seA ?_
  have hN : ∀ e w, (m89_21 R K1 K2 (e 0) (e 8) (e 9) (e 14) (e 15) (e 16) w) → (thenE (W89 k89_21 Q) Q) .normal e w := fun e w h => then_N (s89_21 (R := R) (Q := Q) (K1 := K1) (K2 := K2) hN e w h)
  refine block_ok 7 (by kernel_rfl) ?_
  have hN : ∀ e w, (m89_21 R K1 K2 (e 0) (e 8) (e 9) (e 14) (e 15) (e 16) w) → (inBlockE 7 (thenE (W89 k89_21 Q) Q)) .normal e w := fun e w h => block_N (hN e w h)
  refine seA ?_
  have hN : ∀ e w, (m89_22 R K1 K2 (e 0) (e 8) (e 9) (e 14) (e 15) (e 16) (e 119) w) → (thenE (W89 k89_22 (inBlockE 7 (thenE (W89 k89_21 Q) Q))) (inBlockE 7 (thenE (W89 k89_21 Q) Q))) .normal e w := fun e w h => then_N (s89_22 (R := R) (Q := (inBlockE 7 (thenE (W89 k89_21 Q) Q))) (K1 := K1) (K2 := K2) hN e w h)
  exact rgA 27 (fun e w => m89_22 R K1 K2 (e 0) (e 8) (e 9) (e 14) (e 15) (e 16) (e 119) w) h hN
theorem s89_17 {R : VP} {K1 : VP} {Q : EQ} (hN : ∀ e w, (m89_14 R K1 (e 0) (e 8) (e 9) (e 14) w) → Q .normal e w) (e : Env) (w : World) (h : m89_17 R K1 (e 0) (e 8) (e 9) (e 14) (e 15) w) : W89 k89_17 Q e w := by
  unfold m89_17 at h
  exact rgA 29 (fun e w => m89_14 R K1 (e 0) (e 8) (e 9) (e 14) w) h hN
theorem s89_23 {R : VP} {K1 : VP} {K2 : (Value × Value) → World → Prop} {Q : EQ} (hN : ∀ e w, (m89_20 R K1 K2 (e 0) (e 8) (e 9) (e 14) (e 15) (e 16) w) → Q .normal e w) (hX6 : ∀ e w, (m89_17 R K1 (e 0) (e 8) (e 9) (e 14) (e 15) w) → Q (.exit 6) e w) (e : Env) (w : World) (h : m89_23 R K1 K2 (e 0) (e 8) (e 9) (e 14) (e 15) (e 16) (e 107) w) : W89 k89_23 Q e w := by
  unfold m89_23 at h
  refine coA (Operand.tmp 107) h (fun h1 => ?_) (fun h1 => ?_)
  · exact skA (hN _ _ h1)
  · exact exA 6 (hX6 _ _ h1)
theorem s89_19 {R : VP} {K1 : VP} {K2 : (Value × Value) → World → Prop} {Q : EQ} (hN : ∀ e w, (K2 ((e 15), (e 16)) w) → Q .normal e w) (hX6 : ∀ e w, (m89_17 R K1 (e 0) (e 8) (e 9) (e 14) (e 15) w) → Q (.exit 6) e w) (e : Env) (w : World) (h : m89_19 R K1 K2 (e 0) (e 8) (e 9) (e 14) (e 15) (e 16) w) : W89 k89_19 Q e w := by
  unfold m89_19 at h
  refine seA ?_
  have hN : ∀ e w, (m89_20 R K1 K2 (e 0) (e 8) (e 9) (e 14) (e 15) (e 16) w) → (thenE (W89 k89_20 Q) Q) .normal e w := fun e w h => then_N (s89_20 (R := R) (Q := Q) (K1 := K1) (K2 := K2) hN e w h)
  have hX6 : ∀ e w, (m89_17 R K1 (e 0) (e 8) (e 9) (e 14) (e 15) w) → (thenE (W89 k89_20 Q) Q) (.exit 6) e w := fun e w h => then_X (hX6 e w h)
  refine seA ?_
  have hN : ∀ e w, (m89_23 R K1 K2 (e 0) (e 8) (e 9) (e 14) (e 15) (e 16) (e 107) w) → (thenE (W89 k89_23 (thenE (W89 k89_20 Q) Q)) (thenE (W89 k89_20 Q) Q)) .normal e w := fun e w h => then_N (s89_23 (R := R) (Q := (thenE (W89 k89_20 Q) Q)) (K1 := K1) (K2 := K2) hN hX6 e w h)
  exact rgA 25 (fun e w => m89_23 R K1 K2 (e 0) (e 8) (e 9) (e 14) (e 15) (e 16) (e 107) w) h hN
theorem s89_18 {R : VP} {K1 : VP} {Q : EQ} (hN : ∀ e w, (m89_17 R K1 (e 0) (e 8) (e 9) (e 14) (e 15) w) → Q .normal e w) (e : Env) (w : World) (h : m89_18 R K1 (e 0) (e 8) (e 9) (e 14) (e 15) (e 16) w) : W89 k89_18 Q e w := by
  unfold m89_18 at h
  refine block_ok 6 (by kernel_rfl) ?_
  have hX6 : ∀ e w, (m89_17 R K1 (e 0) (e 8) (e 9) (e 14) (e 15) w) → (inBlockE 6 Q) (.exit 6) e w := fun e w h => inBlock_same (Q := Q) 6 (hN e w h)
  refine loop_ok' (fun (e : Env) => (e 15, e 16)) [0, 8, 9, 14] (by kernel_rfl) (by kernel_rfl) h (fun K e' w' hk h' => ?_)
  have r0 : e' 0 = e 0 := hk 0 (by decide)
  have r8 : e' 8 = e 8 := hk 8 (by decide)
  have r9 : e' 9 = e 9 := hk 9 (by decide)
  have r14 : e' 14 = e 14 := hk 14 (by decide)
  have hX6 : ∀ e w, (m89_17 R K1 (e 0) (e 8) (e 9) (e 14) (e 15) w) → (thenE (fun (e : Env) w => K ((e 15), (e 16)) w) (inBlockE 6 Q)) (.exit 6) e w := fun e w h => then_X (hX6 e w h)
  exact s89_19 (R := R) (Q := (thenE (fun (e : Env) w => K ((e 15), (e 16)) w) (inBlockE 6 Q))) (K1 := K1) (K2 := K) (fun _ _ h => then_N h) hX6 e' w' (by rw [r0, r8, r9, r14]; exact h')
theorem s89_16 {R : VP} {K1 : VP} {Q : EQ} (hN : ∀ e w, (m89_14 R K1 (e 0) (e 8) (e 9) (e 14) w) → Q .normal e w) (e : Env) (w : World) (h : m89_16 R K1 (e 0) (e 8) (e 9) (e 14) (e 15) w) : W89 k89_16 Q e w := by
  unfold m89_16 at h
  refine seA ?_
  have hN : ∀ e w, (m89_17 R K1 (e 0) (e 8) (e 9) (e 14) (e 15) w) → (thenE (W89 k89_17 Q) Q) .normal e w := fun e w h => then_N (s89_17 (R := R) (Q := Q) (K1 := K1) hN e w h)
  refine seA ?_
  have hN : ∀ e w, (m89_18 R K1 (e 0) (e 8) (e 9) (e 14) (e 15) (e 16) w) → (thenE (W89 k89_18 (thenE (W89 k89_17 Q) Q)) (thenE (W89 k89_17 Q) Q)) .normal e w := fun e w h => then_N (s89_18 (R := R) (Q := (thenE (W89 k89_17 Q) Q)) (K1 := K1) hN e w h)
  exact rgA 24 (fun e w => m89_18 R K1 (e 0) (e 8) (e 9) (e 14) (e 15) (e 16) w) h hN
theorem s89_15 {R : VP} {K1 : VP} {Q : EQ} (hN : ∀ e w, (m89_14 R K1 (e 0) (e 8) (e 9) (e 14) w) → Q .normal e w) (e : Env) (w : World) (h : m89_15 R K1 (e 0) (e 8) (e 9) (e 14) w) : W89 k89_15 Q e w := by
  unfold m89_15 at h
  refine seA ?_
  have hN : ∀ e w, (m89_16 R K1 (e 0) (e 8) (e 9) (e 14) (e 15) w) → (thenE (W89 k89_16 Q) Q) .normal e w := fun e w h => then_N (s89_16 (R := R) (Q := Q) (K1 := K1) hN e w h)
  exact rgA 23 (fun e w => m89_16 R K1 (e 0) (e 8) (e 9) (e 14) (e 15) w) h hN
theorem s89_24 {R : VP} {K1 : VP} {Q : EQ} (hN : ∀ e w, (m89_15 R K1 (e 0) (e 8) (e 9) (e 14) w) → Q .normal e w) (hX5 : ∀ e w, (m89_14 R K1 (e 0) (e 8) (e 9) (e 14) w) → Q (.exit 5) e w) (e : Env) (w : World) (h : m89_24 R K1 (e 0) (e 8) (e 9) (e 14) (e 100) w) : W89 k89_24 Q e w := by
  unfold m89_24 at h
  refine coA (Operand.tmp 100) h (fun h1 => ?_) (fun h1 => ?_)
  · exact exA 5 (hX5 _ _ h1)
  · exact skA (hN _ _ h1)
theorem s89_13 {R : VP} {K1 : VP} {Q : EQ} (hN : ∀ e w, (K1 (e 14) w) → Q .normal e w) (e : Env) (w : World) (h : m89_13 R K1 (e 0) (e 8) (e 9) (e 14) w) : W89 k89_13 Q e w := by
  unfold m89_13 at h
  refine seA ?_
  have hN : ∀ e w, (m89_14 R K1 (e 0) (e 8) (e 9) (e 14) w) → (thenE (W89 k89_14 Q) Q) .normal e w := fun e w h => then_N (s89_14 (R := R) (Q := Q) (K1 := K1) hN e w h)
  refine block_ok 5 (by kernel_rfl) ?_
  have hX5 : ∀ e w, (m89_14 R K1 (e 0) (e 8) (e 9) (e 14) w) → (inBlockE 5 (thenE (W89 k89_14 Q) Q)) (.exit 5) e w := fun e w h => inBlock_same (Q := (thenE (W89 k89_14 Q) Q)) 5 (hN e w h)
  have hN : ∀ e w, (m89_14 R K1 (e 0) (e 8) (e 9) (e 14) w) → (inBlockE 5 (thenE (W89 k89_14 Q) Q)) .normal e w := fun e w h => block_N (hN e w h)
  refine seA ?_
  have hN : ∀ e w, (m89_15 R K1 (e 0) (e 8) (e 9) (e 14) w) → (thenE (W89 k89_15 (inBlockE 5 (thenE (W89 k89_14 Q) Q))) (inBlockE 5 (thenE (W89 k89_14 Q) Q))) .normal e w := fun e w h => then_N (s89_15 (R := R) (Q := (inBlockE 5 (thenE (W89 k89_14 Q) Q))) (K1 := K1) hN e w h)
  have hX5 : ∀ e w, (m89_14 R K1 (e 0) (e 8) (e 9) (e 14) w) → (thenE (W89 k89_15 (inBlockE 5 (thenE (W89 k89_14 Q) Q))) (inBlockE 5 (thenE (W89 k89_14 Q) Q))) (.exit 5) e w := fun e w h => then_X (hX5 e w h)
  refine seA ?_
  have hN : ∀ e w, (m89_24 R K1 (e 0) (e 8) (e 9) (e 14) (e 100) w) → (thenE (W89 k89_24 (thenE (W89 k89_15 (inBlockE 5 (thenE (W89 k89_14 Q) Q))) (inBlockE 5 (thenE (W89 k89_14 Q) Q)))) (thenE (W89 k89_15 (inBlockE 5 (thenE (W89 k89_14 Q) Q))) (inBlockE 5 (thenE (W89 k89_14 Q) Q)))) .normal e w := fun e w h => then_N (s89_24 (R := R) (Q := (thenE (W89 k89_15 (inBlockE 5 (thenE (W89 k89_14 Q) Q))) (inBlockE 5 (thenE (W89 k89_14 Q) Q)))) (K1 := K1) hN hX5 e w h)
  exact rgA 22 (fun e w => m89_24 R K1 (e 0) (e 8) (e 9) (e 14) (e 100) w) h hN
theorem s89_10 {R : VP} {Q : EQ} (hR : ∀ e w, (R (Value.tuple #[(e 6), (e 7)]) w) → Q .ret e w) (e : Env) (w : World) (h : m89_10 R (e 6) (e 7) w) : W89 k89_10 Q e w := by
  unfold m89_10 at h
  exact reA (hR _ _ h)
theorem s89_9 {R : VP} {Q : EQ} (hR : ∀ e w, (R (Value.tuple #[(e 6), (e 7)]) w) → Q .ret e w) (e : Env) (w : World) (h : m89_9 R (e 9) w) : W89 k89_9 Q e w := by
  unfold m89_9 at h
  refine seA ?_
  have hN : ∀ e w, (m89_10 R (e 6) (e 7) w) → (thenE (W89 k89_10 Q) Q) .normal e w := fun e w h => then_N (s89_10 (R := R) (Q := Q) hR e w h)
  exact rgA 30 (fun e w => m89_10 R (e 6) (e 7) w) h hN
theorem s89_25 {R : VP} {K1 : VP} {Q : EQ} (hN : ∀ e w, (m89_13 R K1 (e 0) (e 8) (e 9) (e 14) w) → Q .normal e w) (hX4 : ∀ e w, (m89_9 R (e 9) w) → Q (.exit 4) e w) (e : Env) (w : World) (h : m89_25 R K1 (e 0) (e 8) (e 9) (e 14) (e 93) w) : W89 k89_25 Q e w := by
  unfold m89_25 at h
  refine coA (Operand.tmp 93) h (fun h1 => ?_) (fun h1 => ?_)
  · exact skA (hN _ _ h1)
  · exact exA 4 (hX4 _ _ h1)
theorem s89_12 {R : VP} {K1 : VP} {Q : EQ} (hN : ∀ e w, (K1 (e 14) w) → Q .normal e w) (hX4 : ∀ e w, (m89_9 R (e 9) w) → Q (.exit 4) e w) (e : Env) (w : World) (h : m89_12 R K1 (e 0) (e 8) (e 9) (e 14) w) : W89 k89_12 Q e w := by
  unfold m89_12 at h
  refine seA ?_
  have hN : ∀ e w, (m89_13 R K1 (e 0) (e 8) (e 9) (e 14) w) → (thenE (W89 k89_13 Q) Q) .normal e w := fun e w h => then_N (s89_13 (R := R) (Q := Q) (K1 := K1) hN e w h)
  have hX4 : ∀ e w, (m89_9 R (e 9) w) → (thenE (W89 k89_13 Q) Q) (.exit 4) e w := fun e w h => then_X (hX4 e w h)
  refine seA ?_
  have hN : ∀ e w, (m89_25 R K1 (e 0) (e 8) (e 9) (e 14) (e 93) w) → (thenE (W89 k89_25 (thenE (W89 k89_13 Q) Q)) (thenE (W89 k89_13 Q) Q)) .normal e w := fun e w h => then_N (s89_25 (R := R) (Q := (thenE (W89 k89_13 Q) Q)) (K1 := K1) hN hX4 e w h)
  exact rgA 20 (fun e w => m89_25 R K1 (e 0) (e 8) (e 9) (e 14) (e 93) w) h hN
theorem s89_11 {R : VP} {Q : EQ} (hN : ∀ e w, (m89_9 R (e 9) w) → Q .normal e w) (e : Env) (w : World) (h : m89_11 R (e 0) (e 8) (e 9) (e 14) w) : W89 k89_11 Q e w := by
  unfold m89_11 at h
  refine block_ok 4 (by kernel_rfl) ?_
  have hX4 : ∀ e w, (m89_9 R (e 9) w) → (inBlockE 4 Q) (.exit 4) e w := fun e w h => inBlock_same (Q := Q) 4 (hN e w h)
  refine loop_ok' (fun (e : Env) => e 14) [0, 8, 9] (by kernel_rfl) (by kernel_rfl) h (fun K e' w' hk h' => ?_)
  have r0 : e' 0 = e 0 := hk 0 (by decide)
  have r8 : e' 8 = e 8 := hk 8 (by decide)
  have r9 : e' 9 = e 9 := hk 9 (by decide)
  have hX4 : ∀ e w, (m89_9 R (e 9) w) → (thenE (fun (e : Env) w => K (e 14) w) (inBlockE 4 Q)) (.exit 4) e w := fun e w h => then_X (hX4 e w h)
  exact s89_12 (R := R) (Q := (thenE (fun (e : Env) w => K (e 14) w) (inBlockE 4 Q))) (K1 := K) (fun _ _ h => then_N h) hX4 e' w' (by rw [r0, r8, r9]; exact h')
theorem s89_8 {R : VP} {Q : EQ} (hR : ∀ e w, (R (Value.tuple #[(e 6), (e 7)]) w) → Q .ret e w) (e : Env) (w : World) (h : m89_8 R (e 0) (e 8) (e 9) w) : W89 k89_8 Q e w := by
  unfold m89_8 at h
  refine seA ?_
  have hN : ∀ e w, (m89_9 R (e 9) w) → (thenE (W89 k89_9 Q) Q) .normal e w := fun e w h => then_N (s89_9 (R := R) (Q := Q) hR e w h)
  refine seA ?_
  have hN : ∀ e w, (m89_11 R (e 0) (e 8) (e 9) (e 14) w) → (thenE (W89 k89_11 (thenE (W89 k89_9 Q) Q)) (thenE (W89 k89_9 Q) Q)) .normal e w := fun e w h => then_N (s89_11 (R := R) (Q := (thenE (W89 k89_9 Q) Q)) hN e w h)
  exact rgA 19 (fun e w => m89_11 R (e 0) (e 8) (e 9) (e 14) w) h hN
theorem s89_34 {R : VP} {K1 : VP} {Q : EQ} (hN : ∀ e w, (m89_28 R K1 (e 0) (e 2) (e 8) (e 9) (e 11) (e 12) w) → Q .normal e w) (hX2 : ∀ e w, (m89_8 R (e 0) (e 8) (e 9) w) → Q (.exit 2) e w) (e : Env) (w : World) (h : m89_34 R K1 (e 0) (e 2) (e 8) (e 9) (e 11) (e 12) (e 49) w) : W89 k89_34 Q e w := by
  unfold m89_34 at h
  refine coA (Operand.tmp 49) h (fun h1 => ?_) (fun h1 => ?_)
  · exact skA (hN _ _ h1)
  · exact exA 2 (hX2 _ _ h1)
theorem s89_27 {R : VP} {K1 : VP} {Q : EQ} (hN : ∀ e w, (K1 (e 12) w) → Q .normal e w) (hX2 : ∀ e w, (m89_8 R (e 0) (e 8) (e 9) w) → Q (.exit 2) e w) (e : Env) (w : World) (h : m89_27 R K1 (e 0) (e 2) (e 8) (e 9) (e 11) (e 12) w) : W89 k89_27 Q e w := by
  unfold m89_27 at h
  refine seA ?_
  have hN : ∀ e w, (m89_28 R K1 (e 0) (e 2) (e 8) (e 9) (e 11) (e 12) w) → (thenE (W89 k89_28 Q) Q) .normal e w := fun e w h => then_N (s89_28 (R := R) (Q := Q) (K1 := K1) hN e w h)
  have hX2 : ∀ e w, (m89_8 R (e 0) (e 8) (e 9) w) → (thenE (W89 k89_28 Q) Q) (.exit 2) e w := fun e w h => then_X (hX2 e w h)
  refine seA ?_
  have hN : ∀ e w, (m89_34 R K1 (e 0) (e 2) (e 8) (e 9) (e 11) (e 12) (e 49) w) → (thenE (W89 k89_34 (thenE (W89 k89_28 Q) Q)) (thenE (W89 k89_28 Q) Q)) .normal e w := fun e w h => then_N (s89_34 (R := R) (Q := (thenE (W89 k89_28 Q) Q)) (K1 := K1) hN hX2 e w h)
  exact rgA 13 (fun e w => m89_34 R K1 (e 0) (e 2) (e 8) (e 9) (e 11) (e 12) (e 49) w) h hN
theorem s89_26 {R : VP} {Q : EQ} (hN : ∀ e w, (m89_8 R (e 0) (e 8) (e 9) w) → Q .normal e w) (e : Env) (w : World) (h : m89_26 R (e 0) (e 2) (e 8) (e 9) (e 11) (e 12) w) : W89 k89_26 Q e w := by
  unfold m89_26 at h
  refine block_ok 2 (by kernel_rfl) ?_
  have hX2 : ∀ e w, (m89_8 R (e 0) (e 8) (e 9) w) → (inBlockE 2 Q) (.exit 2) e w := fun e w h => inBlock_same (Q := Q) 2 (hN e w h)
  refine loop_ok' (fun (e : Env) => e 12) [0, 2, 8, 9, 11] (by kernel_rfl) (by kernel_rfl) h (fun K e' w' hk h' => ?_)
  have r0 : e' 0 = e 0 := hk 0 (by decide)
  have r2 : e' 2 = e 2 := hk 2 (by decide)
  have r8 : e' 8 = e 8 := hk 8 (by decide)
  have r9 : e' 9 = e 9 := hk 9 (by decide)
  have r11 : e' 11 = e 11 := hk 11 (by decide)
  have hX2 : ∀ e w, (m89_8 R (e 0) (e 8) (e 9) w) → (thenE (fun (e : Env) w => K (e 12) w) (inBlockE 2 Q)) (.exit 2) e w := fun e w h => then_X (hX2 e w h)
  exact s89_27 (R := R) (Q := (thenE (fun (e : Env) w => K (e 12) w) (inBlockE 2 Q))) (K1 := K) (fun _ _ h => then_N h) hX2 e' w' (by rw [r0, r2, r8, r9, r11]; exact h')
theorem s89_7 {R : VP} {Q : EQ} (hR : ∀ e w, (R (Value.tuple #[(e 6), (e 7)]) w) → Q .ret e w) (e : Env) (w : World) (h : m89_7 R (e 0) (e 2) (e 8) (e 9) (e 11) w) : W89 k89_7 Q e w := by
  unfold m89_7 at h
  refine seA ?_
  have hN : ∀ e w, (m89_8 R (e 0) (e 8) (e 9) w) → (thenE (W89 k89_8 Q) Q) .normal e w := fun e w h => then_N (s89_8 (R := R) (Q := Q) hR e w h)
  refine seA ?_
  have hN : ∀ e w, (m89_26 R (e 0) (e 2) (e 8) (e 9) (e 11) (e 12) w) → (thenE (W89 k89_26 (thenE (W89 k89_8 Q) Q)) (thenE (W89 k89_8 Q) Q)) .normal e w := fun e w h => then_N (s89_26 (R := R) (Q := (thenE (W89 k89_8 Q) Q)) hN e w h)
  exact rgA 12 (fun e w => m89_26 R (e 0) (e 2) (e 8) (e 9) (e 11) (e 12) w) h hN
theorem s89_6 {R : VP} {Q : EQ} (hR : ∀ e w, (R (Value.tuple #[(e 6), (e 7)]) w) → Q .ret e w) (e : Env) (w : World) (h : m89_6 R (e 0) (e 2) (e 8) (e 9) w) : W89 k89_6 Q e w := by
  unfold m89_6 at h
  refine seA ?_
  have hN : ∀ e w, (m89_7 R (e 0) (e 2) (e 8) (e 9) (e 11) w) → (thenE (W89 k89_7 Q) Q) .normal e w := fun e w h => then_N (s89_7 (R := R) (Q := Q) hR e w h)
  exact rgA 11 (fun e w => m89_7 R (e 0) (e 2) (e 8) (e 9) (e 11) w) h hN
theorem s89_35 {R : VP} {Q : EQ} (hN : ∀ e w, (m89_6 R (e 0) (e 2) (e 8) (e 9) w) → Q .normal e w) (hR : ∀ e w, (R (Value.tuple #[(e 6), (e 7)]) w) → Q .ret e w) (e : Env) (w : World) (h : m89_35 R (e 0) (e 2) (e 8) (e 9) (e 35) w) : W89 k89_35 Q e w := by
  unfold m89_35 at h
  refine coA (Operand.tmp 35) h (fun h1 => ?_) (fun h1 => ?_)
  · refine seA ?_
    have hN : ∀ e w, (m89_36 R (e 6) (e 7) w) → (thenE (W89 k89_36 Q) Q) .normal e w := fun e w h => then_N (s89_36 (R := R) (Q := Q) hR e w h)
    exact rgA 10 (fun e w => m89_36 R (e 6) (e 7) w) h1 hN
  · exact skA (hN _ _ h1)
theorem s89_5 {R : VP} {Q : EQ} (hR : ∀ e w, (R (Value.tuple #[(e 6), (e 7)]) w) → Q .ret e w) (e : Env) (w : World) (h : m89_5 R (e 0) (e 2) (e 8) (e 9) w) : W89 k89_5 Q e w := by
  unfold m89_5 at h
  refine seA ?_
  have hN : ∀ e w, (m89_6 R (e 0) (e 2) (e 8) (e 9) w) → (thenE (W89 k89_6 Q) Q) .normal e w := fun e w h => then_N (s89_6 (R := R) (Q := Q) hR e w h)
  have hR : ∀ e w, (R (Value.tuple #[(e 6), (e 7)]) w) → (thenE (W89 k89_6 Q) Q) .ret e w := fun e w h => then_R (hR e w h)
  refine seA ?_
  have hN : ∀ e w, (m89_35 R (e 0) (e 2) (e 8) (e 9) (e 35) w) → (thenE (W89 k89_35 (thenE (W89 k89_6 Q) Q)) (thenE (W89 k89_6 Q) Q)) .normal e w := fun e w h => then_N (s89_35 (R := R) (Q := (thenE (W89 k89_6 Q) Q)) hN hR e w h)
  exact rgA 9 (fun e w => m89_35 R (e 0) (e 2) (e 8) (e 9) (e 35) w) h hN
theorem s89_41 {R : VP} {K1 : (Value × Value) → World → Prop} {Q : EQ} (hN : ∀ e w, (m89_39 R K1 (e 0) (e 2) (e 8) (e 9) (e 10) w) → Q .normal e w) (hX0 : ∀ e w, (m89_5 R (e 0) (e 2) (e 8) (e 9) w) → Q (.exit 0) e w) (e : Env) (w : World) (h : m89_41 R K1 (e 0) (e 2) (e 8) (e 9) (e 10) (e 27) w) : W89 k89_41 Q e w := by
  unfold m89_41 at h
  refine coA (Operand.tmp 27) h (fun h1 => ?_) (fun h1 => ?_)
  · exact skA (hN _ _ h1)
  · exact exA 0 (hX0 _ _ h1)
theorem s89_38 {R : VP} {K1 : (Value × Value) → World → Prop} {Q : EQ} (hN : ∀ e w, (K1 ((e 9), (e 10)) w) → Q .normal e w) (hX0 : ∀ e w, (m89_5 R (e 0) (e 2) (e 8) (e 9) w) → Q (.exit 0) e w) (e : Env) (w : World) (h : m89_38 R K1 (e 0) (e 2) (e 8) (e 9) (e 10) w) : W89 k89_38 Q e w := by
  unfold m89_38 at h
  refine seA ?_
  have hN : ∀ e w, (m89_39 R K1 (e 0) (e 2) (e 8) (e 9) (e 10) w) → (thenE (W89 k89_39 Q) Q) .normal e w := fun e w h => then_N (s89_39 (R := R) (Q := Q) (K1 := K1) hN e w h)
  have hX0 : ∀ e w, (m89_5 R (e 0) (e 2) (e 8) (e 9) w) → (thenE (W89 k89_39 Q) Q) (.exit 0) e w := fun e w h => then_X (hX0 e w h)
  refine seA ?_
  have hN : ∀ e w, (m89_41 R K1 (e 0) (e 2) (e 8) (e 9) (e 10) (e 27) w) → (thenE (W89 k89_41 (thenE (W89 k89_39 Q) Q)) (thenE (W89 k89_39 Q) Q)) .normal e w := fun e w h => then_N (s89_41 (R := R) (Q := (thenE (W89 k89_39 Q) Q)) (K1 := K1) hN hX0 e w h)
  exact rgA 6 (fun e w => m89_41 R K1 (e 0) (e 2) (e 8) (e 9) (e 10) (e 27) w) h hN
theorem s89_37 {R : VP} {Q : EQ} (hN : ∀ e w, (m89_5 R (e 0) (e 2) (e 8) (e 9) w) → Q .normal e w) (e : Env) (w : World) (h : m89_37 R (e 0) (e 2) (e 8) (e 9) (e 10) w) : W89 k89_37 Q e w := by
  unfold m89_37 at h
  refine block_ok 0 (by kernel_rfl) ?_
  have hX0 : ∀ e w, (m89_5 R (e 0) (e 2) (e 8) (e 9) w) → (inBlockE 0 Q) (.exit 0) e w := fun e w h => inBlock_same (Q := Q) 0 (hN e w h)
  refine loop_ok' (fun (e : Env) => (e 9, e 10)) [0, 2, 8] (by kernel_rfl) (by kernel_rfl) h (fun K e' w' hk h' => ?_)
  have r0 : e' 0 = e 0 := hk 0 (by decide)
  have r2 : e' 2 = e 2 := hk 2 (by decide)
  have r8 : e' 8 = e 8 := hk 8 (by decide)
  have hX0 : ∀ e w, (m89_5 R (e 0) (e 2) (e 8) (e 9) w) → (thenE (fun (e : Env) w => K ((e 9), (e 10)) w) (inBlockE 0 Q)) (.exit 0) e w := fun e w h => then_X (hX0 e w h)
  exact s89_38 (R := R) (Q := (thenE (fun (e : Env) w => K ((e 9), (e 10)) w) (inBlockE 0 Q))) (K1 := K) (fun _ _ h => then_N h) hX0 e' w' (by rw [r0, r2, r8]; exact h')
theorem s89_4 {R : VP} {Q : EQ} (hR : ∀ e w, (R (Value.tuple #[(e 6), (e 7)]) w) → Q .ret e w) (e : Env) (w : World) (h : m89_4 R (e 0) (e 2) (e 8) (e 9) w) : W89 k89_4 Q e w := by
  unfold m89_4 at h
  refine seA ?_
  have hN : ∀ e w, (m89_5 R (e 0) (e 2) (e 8) (e 9) w) → (thenE (W89 k89_5 Q) Q) .normal e w := fun e w h => then_N (s89_5 (R := R) (Q := Q) hR e w h)
  refine seA ?_
  have hN : ∀ e w, (m89_37 R (e 0) (e 2) (e 8) (e 9) (e 10) w) → (thenE (W89 k89_37 (thenE (W89 k89_5 Q) Q)) (thenE (W89 k89_5 Q) Q)) .normal e w := fun e w h => then_N (s89_37 (R := R) (Q := (thenE (W89 k89_5 Q) Q)) hN e w h)
  exact rgA 5 (fun e w => m89_37 R (e 0) (e 2) (e 8) (e 9) (e 10) w) h hN
theorem s89_3 {R : VP} {Q : EQ} (hR : ∀ e w, (R (Value.tuple #[(e 6), (e 7)]) w) → Q .ret e w) (e : Env) (w : World) (h : m89_3 R (e 0) (e 2) (e 8) w) : W89 k89_3 Q e w := by
  unfold m89_3 at h
  refine seA ?_
  have hN : ∀ e w, (m89_4 R (e 0) (e 2) (e 8) (e 9) w) → (thenE (W89 k89_4 Q) Q) .normal e w := fun e w h => then_N (s89_4 (R := R) (Q := Q) hR e w h)
  exact rgA 4 (fun e w => m89_4 R (e 0) (e 2) (e 8) (e 9) w) h hN
theorem s89_2 {R : VP} {Q : EQ} (hR : ∀ e w, (R (Value.tuple #[(e 6), (e 7)]) w) → Q .ret e w) (e : Env) (w : World) (h : m89_2 R (e 0) (e 1) (e 2) w) : W89 k89_2 Q e w := by
  unfold m89_2 at h
  refine seA ?_
  have hN : ∀ e w, (m89_3 R (e 0) (e 2) (e 8) w) → (thenE (W89 k89_3 Q) Q) .normal e w := fun e w h => then_N (s89_3 (R := R) (Q := Q) hR e w h)
  exact rgA 3 (fun e w => m89_3 R (e 0) (e 2) (e 8) w) h hN
theorem s89_42 {R : VP} {Q : EQ} (hN : ∀ e w, (m89_2 R (e 0) (e 1) (e 2) w) → Q .normal e w) (hR : ∀ e w, (R (Value.tuple #[(e 6), (e 7)]) w) → Q .ret e w) (e : Env) (w : World) (h : m89_42 R (e 0) (e 1) (e 2) (e 22) w) : W89 k89_42 Q e w := by
  unfold m89_42 at h
  refine coA (Operand.tmp 22) h (fun h1 => ?_) (fun h1 => ?_)
  · refine seA ?_
    have hN : ∀ e w, (m89_43 R (e 6) (e 7) w) → (thenE (W89 k89_43 Q) Q) .normal e w := fun e w h => then_N (s89_43 (R := R) (Q := Q) hR e w h)
    exact rgA 2 (fun e w => m89_43 R (e 6) (e 7) w) h1 hN
  · exact skA (hN _ _ h1)
theorem s89_1 {R : VP} {Q : EQ} (hR : ∀ e w, (R (Value.tuple #[(e 6), (e 7)]) w) → Q .ret e w) (e : Env) (w : World) (h : m89_1 R (e 0) (e 1) (e 2) w) : W89 k89_1 Q e w := by
  unfold m89_1 at h
  refine seA ?_
  have hN : ∀ e w, (m89_2 R (e 0) (e 1) (e 2) w) → (thenE (W89 k89_2 Q) Q) .normal e w := fun e w h => then_N (s89_2 (R := R) (Q := Q) hR e w h)
  have hR : ∀ e w, (R (Value.tuple #[(e 6), (e 7)]) w) → (thenE (W89 k89_2 Q) Q) .ret e w := fun e w h => then_R (hR e w h)
  refine seA ?_
  have hN : ∀ e w, (m89_42 R (e 0) (e 1) (e 2) (e 22) w) → (thenE (W89 k89_42 (thenE (W89 k89_2 Q) Q)) (thenE (W89 k89_2 Q) Q)) .normal e w := fun e w h => then_N (s89_42 (R := R) (Q := (thenE (W89 k89_2 Q) Q)) hN hR e w h)
  exact rgA 1 (fun e w => m89_42 R (e 0) (e 1) (e 2) (e 22) w) h hN
theorem s89_0 {R : VP} {Q : EQ} (hR : ∀ e w, (R (Value.tuple #[(e 6), (e 7)]) w) → Q .ret e w) (e : Env) (w : World) (h : m89_0 R (e 0) (e 1) (e 2) w) : W89 k89_0 Q e w := by
  unfold m89_0 at h
  refine seA ?_
  have hN : ∀ e w, (m89_1 R (e 0) (e 1) (e 2) w) → (thenE (W89 k89_1 Q) Q) .normal e w := fun e w h => then_N (s89_1 (R := R) (Q := Q) hR e w h)
  exact rgA 0 (fun e w => m89_1 R (e 0) (e 1) (e 2) w) h hN
abbrev m89 (R : VP) (parts0 members1 old2 : Value) (w : World) : Prop := m89_0 R parts0 members1 old2 w
theorem s89 (parts0 members1 old2 : Value) {R : VP} {w : World} (h : m89 R parts0 members1 old2 w) :
    Calls Try.prog 89 #[parts0, members1, old2] w fun e w' => ∃ v, e = .returned v ∧ R v w' :=
  calls_of_cwp (st := (fun i => 0)) (c := k89_0) (by kernel_rfl) Try.func89 (by kernel_rfl) (Nat.le_of_ble_eq_true (by kernel_rfl)) (by kernel_rfl)
    (s89_0 (R := R) (Q := endE Try.prog Try.f89 R) (fun e w h => kcast (by kernel_rfl) h) (argsE #[parts0, members1, old2]) w (kcast (by kernel_rfl) h))
/-! ### slices.Clone[[]int,int] -/
def m55_5 (R : VP) (t2 : Value) (w : World) : Prop :=
  R t2 w
def m55_3 (R : VP) (t2 : Value) (w : World) : Prop :=
  R t2 w
def m55_2 (R : VP) (s0 : Value) (w : World) : Prop :=
  valP Try.prog (Instr.buildSlice 28 0 #[]) w fun t5 w =>
  builtinP Try.prog Builtin.append #[28, 28] 28 #[false, false] #[t5, s0] w fun t7 w =>
  m55_3 R t7 w
def m55_4 (R : VP) (s0 t4 : Value) (w : World) : Prop :=
  condP t4
  (m55_5 R (Value.slice none 0 0) w)
  (m55_2 R s0 w)
def m55_1 (R : VP) (s0 : Value) (w : World) : Prop :=
  valP Try.prog (binS BinOp.eql 28 (Operand.tmp 3) (Operand.const (Value.slice none 0 0)) s0 (Value.slice none 0 0)) w fun t4 w =>
  m55_4 R s0 t4 w
def m55_0 (R : VP) (s0 : Value) (w : World) : Prop :=
  m55_1 R s0 w
abbrev W55 := cwp Try.prog (fun i => 0)
noncomputable def k55_0 : Code := (bodyOf Try.f55)
noncomputable def k55_1 : Code := (c2 k55_0)
noncomputable def k55_2 : Code := (c2 k55_1)
noncomputable def k55_3 : Code := (c2 k55_2)
noncomputable def k55_4 : Code := (c2 (c1 k55_1))
noncomputable def k55_5 : Code := (c2 (c1 k55_4))
theorem s55_5 {R : VP} {Q : EQ} (hR : ∀ e w, (R (e 2) w) → Q .ret e w) (e : Env) (w : World) (h : m55_5 R (e 2) w) : W55 k55_5 Q e w := by
  unfold m55_5 at h
  exact reA (hR _ _ h)
theorem s55_3 {R : VP} {Q : EQ} (hR : ∀ e w, (R (e 2) w) → Q .ret e w) (e : Env) (w : World) (h : m55_3 R (e 2) w) : W55 k55_3 Q e w := by
  unfold m55_3 at h
  exact reA (hR _ _ h)
theorem s55_2 {R : VP} {Q : EQ} (hR : ∀ e w, (R (e 2) w) → Q .ret e w) (e : Env) (w : World) (h : m55_2 R (e 0) w) : W55 k55_2 Q e w := by
  unfold m55_2 at h
  refine seA ?_
  have hN : ∀ e w, (m55_3 R (e 2) w) → (thenE (W55 k55_3 Q) Q) .normal e w := fun e w h => then_N (s55_3 (R := R) (Q := Q) hR e w h)
  exact rgA 3 (fun e w => m55_3 R (e 2) w) h hN
theorem s55_4 {R : VP} {Q : EQ} (hN : ∀ e w, (m55_2 R (e 0) w) → Q .normal e w) (hR : ∀ e w, (R (e 2) w) → Q .ret e w) (e : Env) (w : World) (h : m55_4 R (e 0) (e 4) w) : W55 k55_4 Q e w := by
  unfold m55_4 at h
  refine coA (Operand.tmp 4) h (fun h1 => ?_) (fun h1 => ?_)
  · refine seA ?_
    have hN : ∀ e w, (m55_5 R (e 2) w) → (thenE (W55 k55_5 Q) Q) .normal e w := fun e w h => then_N (s55_5 (R := R) (Q := Q) hR e w h)
    exact rgA 2 (fun e w => m55_5 R (e 2) w) h1 hN
  · exact skA (hN _ _ h1)
theorem s55_1 {R : VP} {Q : EQ} (hR : ∀ e w, (R (e 2) w) → Q .ret e w) (e : Env) (w : World) (h : m55_1 R (e 0) w) : W55 k55_1 Q e w := by
  unfold m55_1 at h
  refine seA ?_
  have hN : ∀ e w, (m55_2 R (e 0) w) → (thenE (W55 k55_2 Q) Q) .normal e w := fun e w h => then_N (s55_2 (R := R) (Q := Q) hR e w h)
  have hR : ∀ e w, (R (e 2) w) → (thenE (W55 k55_2 Q) Q) .ret e w := fun e w h => then_R (hR e w h)
  refine seA ?_
  have hN : ∀ e w, (m55_4 R (e 0) (e 4) w) → (thenE (W55 k55_4 (thenE (W55 k55_2 Q) Q)) (thenE (W55 k55_2 Q) Q)) .normal e w := fun e w h => then_N (s55_4 (R := R) (Q := (thenE (W55 k55_2 Q) Q)) hN hR e w h)
  exact rgA 1 (fun e w => m55_4 R (e 0) (e 4) w) h hN
theorem s55_0 {R : VP} {Q : EQ} (hR : ∀ e w, (R (e 2) w) → Q .ret e w) (e : Env) (w : World) (h : m55_0 R (e 0) w) : W55 k55_0 Q e w := by
  unfold m55_0 at h
  refine seA ?_
  have hN : ∀ e w, (m55_1 R (e 0) w) → (thenE (W55 k55_1 Q) Q) .normal e w := fun e w h => then_N (s55_1 (R := R) (Q := Q) hR e w h)
  exact rgA 0 (fun e w => m55_1 R (e 0) w) h hN
abbrev m55 (R : VP) (s0 : Value) (w : World) : Prop := m55_0 R s0 w
theorem s55 (s0 : Value) {R : VP} {w : World} (h : m55 R s0 w) :
    Calls Try.prog 55 #[s0] w fun e w' => ∃ v, e = .returned v ∧ R v w' :=
  calls_of_cwp (st := (fun i => 0)) (c := k55_0) (by kernel_rfl) Try.func55 (by kernel_rfl) (Nat.le_of_ble_eq_true (by kernel_rfl)) (by kernel_rfl)
    (s55_0 (R := R) (Q := endE Try.prog Try.f55 R) (fun e w h => kcast (by kernel_rfl) h) (argsE #[s0]) w (kcast (by kernel_rfl) h))
end Go.Proofs.Ytjjmlopmemmobaa.M
