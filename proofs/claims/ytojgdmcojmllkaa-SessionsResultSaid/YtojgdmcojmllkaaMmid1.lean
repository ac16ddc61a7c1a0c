/- What functions' texts ask of their ends, told over values that have names; printed by a program of this work. -/
import Derived.Test.YtojgdmcojmllkaaFw
import Derived.Test.YtojgdmcojmllkaaProg
namespace Go.Proofs.Ytojgdmcojmllkaa.M
open Go.Proofs.Ytojgdmcojmllkaa.F
set_option linter.unusedVariables false
set_option maxRecDepth 100000
/-! ### headgate/headgateref28.put -/
def m30_10 (R : VP) (K1 : (Value × Value) → World → Prop) (l0 e3 out5 i6 : Value) (w : World) : Prop :=
  valP Try.prog (binS BinOp.add 3 (Operand.tmp 27) (Operand.const (Value.int IntKind.i64 1)) i6 (Value.int IntKind.i64 1)) w fun t28 w =>
  K1 (out5, t28) w
def m30_9 (R : VP) (K1 : (Value × Value) → World → Prop) (l0 e3 out5 i6 : Value) (w : World) : Prop :=
  valP Try.prog (Instr.indexAt 31 l0 i6) w fun t23 w =>
  valP Try.prog (Instr.loadAt 28 t23) w fun t24 w =>
  valP Try.prog (Instr.buildSlice 31 1 #[(0, t24)]) w fun t25 w =>
  builtinP Try.prog Builtin.append #[31, 31] 31 #[false, false] #[out5, t25] w fun t26 w =>
  m30_10 R K1 l0 e3 t26 i6 w
def m30_7 (R : VP) (t4 : Value) (w : World) : Prop :=
  R t4 w
def m30_6 (R : VP) (out5 : Value) (w : World) : Prop :=
  m30_7 R out5 w
def m30_5 (R : VP) (l0 out5 i6 : Value) (w : World) : Prop :=
  valP Try.prog (Instr.sliceAt 31 l0 (some i6) none none) w fun t36 w =>
  builtinP Try.prog Builtin.append #[31, 31] 31 #[false, false] #[out5, t36] w fun t37 w =>
  m30_6 R t37 w
def m30_4 (R : VP) (l0 e3 out5 i6 : Value) (w : World) : Prop :=
  valP Try.prog (Instr.loadAt 28 e3) w fun t30 w =>
  valP Try.prog (Instr.buildSlice 31 1 #[(0, t30)]) w fun t31 w =>
  builtinP Try.prog Builtin.append #[31, 31] 31 #[false, false] #[out5, t31] w fun t32 w =>
  m30_5 R l0 t32 i6 w
def m30_11 (R : VP) (K1 : (Value × Value) → World → Prop) (l0 e3 out5 i6 t19 : Value) (w : World) : Prop :=
  condP t19
  (m30_9 R K1 l0 e3 out5 i6 w)
  (m30_4 R l0 e3 out5 i6 w)
def m30_8 (R : VP) (K1 : (Value × Value) → World → Prop) (l0 e3 out5 i6 : Value) (w : World) : Prop :=
  anyDraw w fun w =>
  builtinS Try.prog Builtin.len #[31] 3 #[false] #[l0] w fun t9 =>
  valS Try.prog (binS BinOp.lss 3 (Operand.tmp 7) (Operand.tmp 9) i6 t9) w fun t10 =>
  condP t10
  (valS Try.prog (Instr.loadAt 28 e3) w fun t12 =>
  valS Try.prog (Instr.indexAt 31 l0 i6) w fun t15 =>
  valS Try.prog (Instr.loadAt 28 t15) w fun t16 =>
  callP Try.prog (fnV 40) #[t12, t16] w fun t17 w =>
  valP Try.prog (Op.unary UnOp.not t17) w fun t18 w =>
  pickP t10 t18 (Value.bool false) fun t19 =>
  m30_11 R K1 l0 e3 out5 i6 t19 w)
  (pickP t10 undef (Value.bool false) fun t19 =>
  m30_11 R K1 l0 e3 out5 i6 t19 w)
def m30_3 (R : VP) (l0 e3 out5 i6 : Value) (w : World) : Prop :=
  loopP (fun (K1 : (Value × Value) → World → Prop) (s : Value × Value) w => m30_8 R K1 l0 e3 s.1 s.2 w) (out5, i6) w
def m30_2 (R : VP) (l0 e3 out5 : Value) (w : World) : Prop :=
  m30_3 R l0 e3 out5 (Value.int IntKind.i64 0) w
def m30_1 (R : VP) (l0 e3 : Value) (w : World) : Prop :=
  m30_2 R l0 e3 (Value.slice none 0 0) w
def m30_0 (R : VP) (l0 e1 : Value) (w : World) : Prop :=
  valP Try.prog (Instr.box 28 e1) w fun e3 w =>
  m30_1 R l0 e3 w
abbrev W30 := cwp Try.prog (fun i => cond (Nat.beq i 3) 12 (0))
noncomputable def k30_0 : Code := (bodyOf Try.f30)
noncomputable def k30_1 : Code := (c2 k30_0)
noncomputable def k30_2 : Code := (c2 k30_1)
noncomputable def k30_3 : Code := (c2 k30_2)
noncomputable def k30_4 : Code := (c2 k30_3)
noncomputable def k30_5 : Code := (c2 k30_4)
noncomputable def k30_6 : Code := (c2 k30_5)
noncomputable def k30_7 : Code := (c2 k30_6)
noncomputable def k30_8 : Code := (c1 (c1 (c1 k30_3)))
noncomputable def k30_9 : Code := (c2 k30_8)
noncomputable def k30_10 : Code := (c2 (c1 k30_9))
noncomputable def k30_11 : Code := (c2 (c1 k30_8))
theorem s30_10 {R : VP} {K1 : (Value × Value) → World → Prop} {Q : EQ} (hN : ∀ e w, (K1 ((e 5), (e 6)) w) → Q .normal e w) (e : Env) (w : World) (h : m30_10 R K1 (e 0) (e 3) (e 5) (e 6) w) : W30 k30_10 Q e w := by
  unfold m30_10 at h
  exact rgA 5 (fun e w => K1 ((e 5), (e 6)) w) h hN
theorem s30_9 {R : VP} {K1 : (Value × Value) → World → Prop} {Q : EQ} (hN : ∀ e w, (K1 ((e 5), (e 6)) w) → Q .normal e w) (e : Env) (w : World) (h : m30_9 R K1 (e 0) (e 3) (e 5) (e 6) w) : W30 k30_9 Q e w := by
  unfold m30_9 at h
  refine block_ok 1 (by kernel_rfl) ?_
  have hN : ∀ e w, (K1 ((e 5), (e 6)) w) → (inBlockE 1 Q) .normal e w := fun e w h => block_N (hN e w h)
  refine seA ?_
  have hN : ∀ e w, (m30_10 R K1 (e 0) (e 3) (e 5) (e 6) w) → (thenE (W30 k30_10 (inBlockE 1 Q)) (inBlockE 1 Q)) .normal e w := fun e w h => then_N (s30_10 (R := R) (Q := (inBlockE 1 Q)) (K1 := K1) hN e w h)
  exact rgA 4 (fun e w => m30_10 R K1 (e 0) (e 3) (e 5) (e 6) w) h hN
theorem s30_7 {R : VP} {Q : EQ} (hR : ∀ e w, (R (e 4) w) → Q .ret e w) (e : Env) (w : World) (h : m30_7 R (e 4) w) : W30 k30_7 Q e w := by
  unfold m30_7 at h
  exact reA (hR _ _ h)
theorem s30_6 {R : VP} {Q : EQ} (hR : ∀ e w, (R (e 4) w) → Q .ret e w) (e : Env) (w : World) (h : m30_6 R (e 5) w) : W30 k30_6 Q e w := by
  unfold m30_6 at h
  refine seA ?_
  have hN : ∀ e w, (m30_7 R (e 4) w) → (thenE (W30 k30_7 Q) Q) .normal e w := fun e w h => then_N (s30_7 (R := R) (Q := Q) hR e w h)
  exact rgA 8 (fun e w => m30_7 R (e 4) w) h hN
theorem s30_5 {R : VP} {Q : EQ} (hR : ∀ e w, (R (e 4) w) → Q .ret e w) (e : Env) (w : World) (h : m30_5 R (e 0) (e 5) (e 6) w) : W30 k30_5 Q e w := by
  unfold m30_5 at h
  refine seA ?_
  have hN : ∀ e w, (m30_6 R (e 5) w) → (thenE (W30 k30_6 Q) Q) .normal e w := fun e w h => then_N (s30_6 (R := R) (Q := Q) hR e w h)
  exact rgA 7 (fun e w => m30_6 R (e 5) w) h hN
theorem s30_4 {R : VP} {Q : EQ} (hR : ∀ e w, (R (e 4) w) → Q .ret e w) (e : Env) (w : World) (h : m30_4 R (e 0) (e 3) (e 5) (e 6) w) : W30 k30_4 Q e w := by
  unfold m30_4 at h
  refine seA ?_
  have hN : ∀ e w, (m30_5 R (e 0) (e 5) (e 6) w) → (thenE (W30 k30_5 Q) Q) .normal e w := fun e w h => then_N (s30_5 (R := R) (Q := Q) hR e w h)
  exact rgA 6 (fun e w => m30_5 R (e 0) (e 5) (e 6) w) h hN
theorem s30_11 {R : VP} {K1 : (Value × Value) → World → Prop} {Q : EQ} (hN : ∀ e w, (m30_9 R K1 (e 0) (e 3) (e 5) (e 6) w) → Q .normal e w) (hX0 : ∀ e w, (m30_4 R (e 0) (e 3) (e 5) (e 6) w) → Q (.exit 0) e w) (e : Env) (w : World) (h : m30_11 R K1 (e 0) (e 3) (e 5) (e 6) (e 19) w) : W30 k30_11 Q e w := by
  unfold m30_11 at h
  refine coA (Operand.tmp 19) h (fun h1 => ?_) (fun h1 => ?_)
  · exact skA (hN _ _ h1)
  · exact exA 0 (hX0 _ _ h1)
theorem s30_8 {R : VP} {K1 : (Value × Value) → World → Prop} {Q : EQ} (hN : ∀ e w, (K1 ((e 5), (e 6)) w) → Q .normal e w) (hX0 : ∀ e w, (m30_4 R (e 0) (e 3) (e 5) (e 6) w) → Q (.exit 0) e w) (e : Env) (w : World) (h : m30_8 R K1 (e 0) (e 3) (e 5) (e 6) w) : W30 k30_8 Q e w := by
  unfold m30_8 at h
  refine seA ?_
  have hN : ∀ e w, (m30_9 R K1 (e 0) (e 3) (e 5) (e 6) w) → (thenE (W30 k30_9 Q) Q) .normal e w := fun e w h => then_N (s30_9 (R := R) (Q := Q) (K1 := K1) hN e w h)
  have hX0 : ∀ e w, (m30_4 R (e 0) (e 3) (e 5) (e 6) w) → (thenE (W30 k30_9 Q) Q) (.exit 0) e w := fun e w h => then_X (hX0 e w h)
  refine seA ?_
  have hN : ∀ e w, (m30_11 R K1 (e 0) (e 3) (e 5) (e 6) (e 19) w) → (thenE (W30 k30_11 (thenE (W30 k30_9 Q) Q)) (thenE (W30 k30_9 Q) Q)) .normal e w := fun e w h => then_N (s30_11 (R := R) (Q := (thenE (W30 k30_9 Q) Q)) (K1 := K1) hN hX0 e w h)
  exact taA 3 10 (fun e w => m30_11 R K1 (e 0) (e 3) (e 5) (e 6) (e 19) w) h hN
theorem s30_3 {R : VP} {Q : EQ} (hR : ∀ e w, (R (e 4) w) → Q .ret e w) (e : Env) (w : World) (h : m30_3 R (e 0) (e 3) (e 5) (e 6) w) : W30 k30_3 Q e w := by
  unfold m30_3 at h
  refine seA ?_
  have hN : ∀ e w, (m30_4 R (e 0) (e 3) (e 5) (e 6) w) → (thenE (W30 k30_4 Q) Q) .normal e w := fun e w h => then_N (s30_4 (R := R) (Q := Q) hR e w h)
  refine block_ok 0 (by kernel_rfl) ?_
  have hX0 : ∀ e w, (m30_4 R (e 0) (e 3) (e 5) (e 6) w) → (inBlockE 0 (thenE (W30 k30_4 Q) Q)) (.exit 0) e w := fun e w h => inBlock_same (Q := (thenE (W30 k30_4 Q) Q)) 0 (hN e w h)
  refine loop_ok' (fun (e : Env) => (e 5, e 6)) [0, 3] (by kernel_rfl) (by kernel_rfl) h (fun K e' w' hk h' => ?_)
  have r0 : e' 0 = e 0 := hk 0 (by decide)
  have r3 : e' 3 = e 3 := hk 3 (by decide)
  have hX0 : ∀ e w, (m30_4 R (e 0) (e 3) (e 5) (e 6) w) → (thenE (fun (e : Env) w => K ((e 5), (e 6)) w) (inBlockE 0 (thenE (W30 k30_4 Q) Q))) (.exit 0) e w := fun e w h => then_X (hX0 e w h)
  exact s30_8 (R := R) (Q := (thenE (fun (e : Env) w => K ((e 5), (e 6)) w) (inBlockE 0 (thenE (W30 k30_4 Q) Q)))) (K1 := K) (fun _ _ h => then_N h) hX0 e' w' (by rw [r0, r3]; exact h')
theorem s30_2 {R : VP} {Q : EQ} (hR : ∀ e w, (R (e 4) w) → Q .ret e w) (e : Env) (w : World) (h : m30_2 R (e 0) (e 3) (e 5) w) : W30 k30_2 Q e w := by
  unfold m30_2 at h
  refine seA ?_
  have hN : ∀ e w, (m30_3 R (e 0) (e 3) (e 5) (e 6) w) → (thenE (W30 k30_3 Q) Q) .normal e w := fun e w h => then_N (s30_3 (R := R) (Q := Q) hR e w h)
  exact rgA 2 (fun e w => m30_3 R (e 0) (e 3) (e 5) (e 6) w) h hN
theorem s30_1 {R : VP} {Q : EQ} (hR : ∀ e w, (R (e 4) w) → Q .ret e w) (e : Env) (w : World) (h : m30_1 R (e 0) (e 3) w) : W30 k30_1 Q e w := by
  unfold m30_1 at h
  refine seA ?_
  have hN : ∀ e w, (m30_2 R (e 0) (e 3) (e 5) w) → (thenE (W30 k30_2 Q) Q) .normal e w := fun e w h => then_N (s30_2 (R := R) (Q := Q) hR e w h)
  exact rgA 1 (fun e w => m30_2 R (e 0) (e 3) (e 5) w) h hN
theorem s30_0 {R : VP} {Q : EQ} (hR : ∀ e w, (R (e 4) w) → Q .ret e w) (e : Env) (w : World) (h : m30_0 R (e 0) (e 1) w) : W30 k30_0 Q e w := by
  unfold m30_0 at h
  refine seA ?_
  have hN : ∀ e w, (m30_1 R (e 0) (e 3) w) → (thenE (W30 k30_1 Q) Q) .normal e w := fun e w h => then_N (s30_1 (R := R) (Q := Q) hR e w h)
  exact rgA 0 (fun e w => m30_1 R (e 0) (e 3) w) h hN
abbrev m30 (R : VP) (l0 e1 : Value) (w : World) : Prop := m30_0 R l0 e1 w
theorem s30 (l0 e1 : Value) {R : VP} {w : World} (h : m30 R l0 e1 w) :
    Calls Try.prog 30 #[l0, e1] w fun e w' => ∃ v, e = .returned v ∧ R v w' :=
  calls_of_cwp (st := (fun i => cond (Nat.beq i 3) 12 (0))) (c := k30_0) (by kernel_rfl) Try.func30 (by kernel_rfl) (Nat.le_of_ble_eq_true (by kernel_rfl)) (by kernel_rfl)
    (s30_0 (R := R) (Q := endE Try.prog Try.f30 R) (fun e w h => kcast (by kernel_rfl) h) (argsE #[l0, e1]) w (kcast (by kernel_rfl) h))
/-! ### headgate/headgateref28.set -/
def m31_10 (R : VP) (K1 : (Value × Value) → World → Prop) (l0 s3 out5 i6 : Value) (w : World) : Prop :=
  valP Try.prog (binS BinOp.add 3 (Operand.tmp 26) (Operand.const (Value.int IntKind.i64 1)) i6 (Value.int IntKind.i64 1)) w fun t27 w =>
  K1 (out5, t27) w
def m31_9 (R : VP) (K1 : (Value × Value) → World → Prop) (l0 s3 out5 i6 : Value) (w : World) : Prop :=
  valP Try.prog (Instr.indexAt 24 l0 i6) w fun t22 w =>
  valP Try.prog (Instr.loadAt 33 t22) w fun t23 w =>
  valP Try.prog (Instr.buildSlice 24 1 #[(0, t23)]) w fun t24 w =>
  builtinP Try.prog Builtin.append #[24, 24] 24 #[false, false] #[out5, t24] w fun t25 w =>
  m31_10 R K1 l0 s3 t25 i6 w
def m31_7 (R : VP) (t4 : Value) (w : World) : Prop :=
  R t4 w
def m31_6 (R : VP) (out5 : Value) (w : World) : Prop :=
  m31_7 R out5 w
def m31_5 (R : VP) (l0 out5 i6 : Value) (w : World) : Prop :=
  valP Try.prog (Instr.sliceAt 24 l0 (some i6) none none) w fun t35 w =>
  builtinP Try.prog Builtin.append #[24, 24] 24 #[false, false] #[out5, t35] w fun t36 w =>
  m31_6 R t36 w
def m31_4 (R : VP) (l0 s3 out5 i6 : Value) (w : World) : Prop :=
  valP Try.prog (Instr.loadAt 33 s3) w fun t29 w =>
  valP Try.prog (Instr.buildSlice 24 1 #[(0, t29)]) w fun t30 w =>
  builtinP Try.prog Builtin.append #[24, 24] 24 #[false, false] #[out5, t30] w fun t31 w =>
  m31_5 R l0 t31 i6 w
def m31_11 (R : VP) (K1 : (Value × Value) → World → Prop) (l0 s3 out5 i6 t18 : Value) (w : World) : Prop :=
  condP t18
  (m31_9 R K1 l0 s3 out5 i6 w)
  (m31_4 R l0 s3 out5 i6 w)
def m31_8 (R : VP) (K1 : (Value × Value) → World → Prop) (l0 s3 out5 i6 : Value) (w : World) : Prop :=
  anyDraw w fun w =>
  builtinS Try.prog Builtin.len #[24] 3 #[false] #[l0] w fun t9 =>
  valS Try.prog (binS BinOp.lss 3 (Operand.tmp 7) (Operand.tmp 9) i6 t9) w fun t10 =>
  condP t10
  (valS Try.prog (Instr.indexAt 24 l0 i6) w fun t14 =>
  valS Try.prog (Instr.loadAt 33 t14) w fun t15 =>
  valS Try.prog (Instr.loadAt 33 s3) w fun t16 =>
  callP Try.prog (fnV 38) #[t15, t16] w fun t17 w =>
  pickP t10 t17 (Value.bool false) fun t18 =>
  m31_11 R K1 l0 s3 out5 i6 t18 w)
  (pickP t10 undef (Value.bool false) fun t18 =>
  m31_11 R K1 l0 s3 out5 i6 t18 w)
def m31_3 (R : VP) (l0 s3 out5 i6 : Value) (w : World) : Prop :=
  loopP (fun (K1 : (Value × Value) → World → Prop) (s : Value × Value) w => m31_8 R K1 l0 s3 s.1 s.2 w) (out5, i6) w
def m31_2 (R : VP) (l0 s3 out5 : Value) (w : World) : Prop :=
  m31_3 R l0 s3 out5 (Value.int IntKind.i64 0) w
def m31_1 (R : VP) (l0 s3 : Value) (w : World) : Prop :=
  m31_2 R l0 s3 (Value.slice none 0 0) w
def m31_0 (R : VP) (l0 s1 : Value) (w : World) : Prop :=
  valP Try.prog (Instr.box 33 s1) w fun s3 w =>
  m31_1 R l0 s3 w
abbrev W31 := cwp Try.prog (fun i => cond (Nat.beq i 3) 12 (0))
noncomputable def k31_0 : Code := (bodyOf Try.f31)
noncomputable def k31_1 : Code := (c2 k31_0)
noncomputable def k31_2 : Code := (c2 k31_1)
noncomputable def k31_3 : Code := (c2 k31_2)
noncomputable def k31_4 : Code := (c2 k31_3)
noncomputable def k31_5 : Code := (c2 k31_4)
noncomputable def k31_6 : Code := (c2 k31_5)
noncomputable def k31_7 : Code := (c2 k31_6)
noncomputable def k31_8 : Code := (c1 (c1 (c1 k31_3)))
noncomputable def k31_9 : Code := (c2 k31_8)
noncomputable def k31_10 : Code := (c2 (c1 k31_9))
noncomputable def k31_11 : Code := (c2 (c1 k31_8))
theorem s31_10 {R : VP} {K1 : (Value × Value) → World → Prop} {Q : EQ} (hN : ∀ e w, (K1 ((e 5), (e 6)) w) → Q .normal e w) (e : Env) (w : World) (h : m31_10 R K1 (e 0) (e 3) (e 5) (e 6) w) : W31 k31_10 Q e w := by
  unfold m31_10 at h
  exact rgA 5 (fun e w => K1 ((e 5), (e 6)) w) h hN
theorem s31_9 {R : VP} {K1 : (Value × Value) → World → Prop} {Q : EQ} (hN : ∀ e w, (K1 ((e 5), (e 6)) w) → Q .normal e w) (e : Env) (w : World) (h : m31_9 R K1 (e 0) (e 3) (e 5) (e 6) w) : W31 k31_9 Q e w := by
  unfold m31_9 at h
  refine block_ok 1 (by kernel_rfl) ?_
  have hN : ∀ e w, (K1 ((e 5), (e 6)) w) → (inBlockE 1 Q) .normal e w := fun e w h => block_N (hN e w h)
  refine seA ?_
  have hN : ∀ e w, (m31_10 R K1 (e 0) (e 3) (e 5) (e 6) w) → (thenE (W31 k31_10 (inBlockE 1 Q)) (inBlockE 1 Q)) .normal e w := fun e w h => then_N (s31_10 (R := R) (Q := (inBlockE 1 Q)) (K1 := K1) hN e w h)
  exact rgA 4 (fun e w => m31_10 R K1 (e 0) (e 3) (e 5) (e 6) w) h hN
theorem s31_7 {R : VP} {Q : EQ} (hR : ∀ e w, (R (e 4) w) → Q .ret e w) (e : Env) (w : World) (h : m31_7 R (e 4) w) : W31 k31_7 Q e w := by
  unfold m31_7 at h
  exact reA (hR _ _ h)
theorem s31_6 {R : VP} {Q : EQ} (hR : ∀ e w, (R (e 4) w) → Q .ret e w) (e : Env) (w : World) (h : m31_6 R (e 5) w) : W31 k31_6 Q e w := by
  unfold m31_6 at h
  refine seA ?_
  have hN : ∀ e w, (m31_7 R (e 4) w) → (thenE (W31 k31_7 Q) Q) .normal e w := fun e w h => then_N (s31_7 (R := R) (Q := Q) hR e w h)
  exact rgA 8 (fun e w => m31_7 R (e 4) w) h hN
theorem s31_5 {R : VP} {Q : EQ} (hR : ∀ e w, (R (e 4) w) → Q .ret e w) (e : Env) (w : World) (h : m31_5 R (e 0) (e 5) (e 6) w) : W31 k31_5 Q e w := by
  unfold m31_5 at h
  refine seA ?_
  have hN : ∀ e w, (m31_6 R (e 5) w) → (thenE (W31 k31_6 Q) Q) .normal e w := fun e w h => then_N (s31_6 (R := R) (Q := Q) hR e w h)
  exact rgA 7 (fun e w => m31_6 R (e 5) w) h hN
theorem s31_4 {R : VP} {Q : EQ} (hR : ∀ e w, (R (e 4) w) → Q .ret e w) (e : Env) (w : World) (h : m31_4 R (e 0) (e 3) (e 5) (e 6) w) : W31 k31_4 Q e w := by
  unfold m31_4 at h
  refine seA ?_
  have hN : ∀ e w, (m31_5 R (e 0) (e 5) (e 6) w) → (thenE (W31 k31_5 Q) Q) .normal e w := fun e w h => then_N (s31_5 (R := R) (Q := Q) hR e w h)
  exact rgA 6 (fun e w => m31_5 R (e 0) (e 5) (e 6) w) h hN
theorem s31_11 {R : VP} {K1 : (Value × Value) → World → Prop} {Q : EQ} (hN : ∀ e w, (m31_9 R K1 (e 0) (e 3) (e 5) (e 6) w) → Q .normal e w) (hX0 : ∀ e w, (m31_4 R (e 0) (e 3) (e 5) (e 6) w) → Q (.exit 0) e w) (e : Env) (w : World) (h : m31_11 R K1 (e 0) (e 3) (e 5) (e 6) (e 18) w) : W31 k31_11 Q e w := by
  unfold m31_11 at h
  refine coA (Operand.tmp 18) h (fun h1 => ?_) (fun h1 => ?_)
  · exact skA (hN _ _ h1)
  · exact exA 0 (hX0 _ _ h1)
theorem s31_8 {R : VP} {K1 : (Value × Value) → World → Prop} {Q : EQ} (hN : ∀ e w, (K1 ((e 5), (e 6)) w) → Q .normal e w) (hX0 : ∀ e w, (m31_4 R (e 0) (e 3) (e 5) (e 6) w) → Q (.exit 0) e w) (e : Env) (w : World) (h : m31_8 R K1 (e 0) (e 3) (e 5) (e 6) w) : W31 k31_8 Q e w := by
  unfold m31_8 at h
  refine seA ?_
  have hN : ∀ e w, (m31_9 R K1 (e 0) (e 3) (e 5) (e 6) w) → (thenE (W31 k31_9 Q) Q) .normal e w := fun e w h => then_N (s31_9 (R := R) (Q := Q) (K1 := K1) hN e w h)
  have hX0 : ∀ e w, (m31_4 R (e 0) (e 3) (e 5) (e 6) w) → (thenE (W31 k31_9 Q) Q) (.exit 0) e w := fun e w h => then_X (hX0 e w h)
  refine seA ?_
  have hN : ∀ e w, (m31_11 R K1 (e 0) (e 3) (e 5) (e 6) (e 18) w) → (thenE (W31 k31_11 (thenE (W31 k31_9 Q) Q)) (thenE (W31 k31_9 Q) Q)) .normal e w := fun e w h => then_N (s31_11 (R := R) (Q := (thenE (W31 k31_9 Q) Q)) (K1 := K1) hN hX0 e w h)
  exact taA 3 10 (fun e w => m31_11 R K1 (e 0) (e 3) (e 5) (e 6) (e 18) w) h hN
theorem s31_3 {R : VP} {Q : EQ} (hR : ∀ e w, (R (e 4) w) → Q .ret e w) (e : Env) (w : World) (h : m31_3 R (e 0) (e 3) (e 5) (e 6) w) : W31 k31_3 Q e w := by
  unfold m31_3 at h
  refine seA ?_
  have hN : ∀ e w, (m31_4 R (e 0) (e 3) (e 5) (e 6) w) → (thenE (W31 k31_4 Q) Q) .normal e w := fun e w h => then_N (s31_4 (R := R) (Q := Q) hR e w h)
  refine block_ok 0 (by kernel_rfl) ?_
  have hX0 : ∀ e w, (m31_4 R (e 0) (e 3) (e 5) (e 6) w) → (inBlockE 0 (thenE (W31 k31_4 Q) Q)) (.exit 0) e w := fun e w h => inBlock_same (Q := (thenE (W31 k31_4 Q) Q)) 0 (hN e w h)
  refine loop_ok' (fun (e : Env) => (e 5, e 6)) [0, 3] (by kernel_rfl) (by kernel_rfl) h (fun K e' w' hk h' => ?_)
  have r0 : e' 0 = e 0 := hk 0 (by decide)
  have r3 : e' 3 = e 3 := hk 3 (by decide)
  have hX0 : ∀ e w, (m31_4 R (e 0) (e 3) (e 5) (e 6) w) → (thenE (fun (e : Env) w => K ((e 5), (e 6)) w) (inBlockE 0 (thenE (W31 k31_4 Q) Q))) (.exit 0) e w := fun e w h => then_X (hX0 e w h)
  exact s31_8 (R := R) (Q := (thenE (fun (e : Env) w => K ((e 5), (e 6)) w) (inBlockE 0 (thenE (W31 k31_4 Q) Q)))) (K1 := K) (fun _ _ h => then_N h) hX0 e' w' (by rw [r0, r3]; exact h')
theorem s31_2 {R : VP} {Q : EQ} (hR : ∀ e w, (R (e 4) w) → Q .ret e w) (e : Env) (w : World) (h : m31_2 R (e 0) (e 3) (e 5) w) : W31 k31_2 Q e w := by
  unfold m31_2 at h
  refine seA ?_
  have hN : ∀ e w, (m31_3 R (e 0) (e 3) (e 5) (e 6) w) → (thenE (W31 k31_3 Q) Q) .normal e w := fun e w h => then_N (s31_3 (R := R) (Q := Q) hR e w h)
  exact rgA 2 (fun e w => m31_3 R (e 0) (e 3) (e 5) (e 6) w) h hN
theorem s31_1 {R : VP} {Q : EQ} (hR : ∀ e w, (R (e 4) w) → Q .ret e w) (e : Env) (w : World) (h : m31_1 R (e 0) (e 3) w) : W31 k31_1 Q e w := by
  unfold m31_1 at h
  refine seA ?_
  have hN : ∀ e w, (m31_2 R (e 0) (e 3) (e 5) w) → (thenE (W31 k31_2 Q) Q) .normal e w := fun e w h => then_N (s31_2 (R := R) (Q := Q) hR e w h)
  exact rgA 1 (fun e w => m31_2 R (e 0) (e 3) (e 5) w) h hN
theorem s31_0 {R : VP} {Q : EQ} (hR : ∀ e w, (R (e 4) w) → Q .ret e w) (e : Env) (w : World) (h : m31_0 R (e 0) (e 1) w) : W31 k31_0 Q e w := by
  unfold m31_0 at h
  refine seA ?_
  have hN : ∀ e w, (m31_1 R (e 0) (e 3) w) → (thenE (W31 k31_1 Q) Q) .normal e w := fun e w h => then_N (s31_1 (R := R) (Q := Q) hR e w h)
  exact rgA 0 (fun e w => m31_1 R (e 0) (e 3) w) h hN
abbrev m31 (R : VP) (l0 s1 : Value) (w : World) : Prop := m31_0 R l0 s1 w
theorem s31 (l0 s1 : Value) {R : VP} {w : World} (h : m31 R l0 s1 w) :
    Calls Try.prog 31 #[l0, s1] w fun e w' => ∃ v, e = .returned v ∧ R v w' :=
  calls_of_cwp (st := (fun i => cond (Nat.beq i 3) 12 (0))) (c := k31_0) (by kernel_rfl) Try.func31 (by kernel_rfl) (Nat.le_of_ble_eq_true (by kernel_rfl)) (by kernel_rfl)
    (s31_0 (R := R) (Q := endE Try.prog Try.f31 R) (fun e w h => kcast (by kernel_rfl) h) (argsE #[l0, s1]) w (kcast (by kernel_rfl) h))
/-! ### headgate/headgateref28.Add -/
def m12_41 (R : VP) (t8 t9 t10 : Value) (w : World) : Prop :=
  valS Try.prog (loadC 26 t8) w fun r0 =>
  R (Value.tuple #[r0, t9, t10]) w
def m12_39 (R : VP) (t8 t9 t10 : Value) (w : World) : Prop :=
  valS Try.prog (loadC 26 t8) w fun r0 =>
  R (Value.tuple #[r0, t9, t10]) w
def m12_28 (R : VP) (K1 : (Value × Value) → World → Prop) (g4 f5 e7 t8 alone12 whole13 rest14 i15 : Value) (w : World) : Prop :=
  valP Try.prog (binS BinOp.add 3 (Operand.tmp 58) (Operand.const (Value.int IntKind.i64 1)) i15 (Value.int IntKind.i64 1)) w fun t59 w =>
  K1 (rest14, t59) w
def m12_36 (R : VP) (K1 : (Value × Value) → World → Prop) (g4 f5 e7 t8 alone12 whole13 rest14 i15 : Value) (w : World) : Prop :=
  m12_28 R K1 g4 f5 e7 t8 alone12 whole13 rest14 i15 w
def m12_33 (R : VP) (K1 : (Value × Value) → World → Prop) (K2 : VP) (g4 f5 e7 t8 alone12 whole13 rest14 i15 k16 : Value) (w : World) : Prop :=
  valP Try.prog (binS BinOp.add 3 (Operand.tmp 86) (Operand.const (Value.int IntKind.i64 1)) k16 (Value.int IntKind.i64 1)) w fun t87 w =>
  K2 t87 w
def m12_32 (R : VP) (K1 : (Value × Value) → World → Prop) (K2 : VP) (g4 f5 e7 t8 alone12 whole13 rest14 i15 k16 : Value) (w : World) : Prop :=
  anyDraw w fun w =>
  valS Try.prog (Instr.fieldAt 33 whole13 1) w fun t88 =>
  valS Try.prog (Instr.loadAt 31 t88) w fun t89 =>
  valS Try.prog (Instr.fieldAt 26 f5 2) w fun t90 =>
  valS Try.prog (Instr.loadAt 24 t90) w fun t91 =>
  valS Try.prog (Instr.indexAt 24 t91 i15) w fun t93 =>
  valS Try.prog (Instr.fieldAt 33 t93 1) w fun t94 =>
  valS Try.prog (Instr.loadAt 31 t94) w fun t95 =>
  valS Try.prog (Instr.indexAt 31 t95 k16) w fun t97 =>
  valS Try.prog (Instr.loadAt 28 t97) w fun t98 =>
  callP Try.prog (fnV 30) #[t89, t98] w fun t99 w =>
  valP Try.prog (Instr.fieldAt 33 whole13 1) w fun t100 w =>
  unitP Try.prog (Instr.storeAt 31 t100 t99) w fun _ w =>
  m12_33 R K1 K2 g4 f5 e7 t8 alone12 whole13 rest14 i15 k16 w
def m12_34 (R : VP) (K1 : (Value × Value) → World → Prop) (K2 : VP) (g4 f5 e7 t8 alone12 whole13 rest14 i15 k16 t85 : Value) (w : World) : Prop :=
  condP t85
  (m12_32 R K1 K2 g4 f5 e7 t8 alone12 whole13 rest14 i15 k16 w)
  (m12_28 R K1 g4 f5 e7 t8 alone12 whole13 rest14 i15 w)
def m12_31 (R : VP) (K1 : (Value × Value) → World → Prop) (K2 : VP) (g4 f5 e7 t8 alone12 whole13 rest14 i15 k16 : Value) (w : World) : Prop :=
  valP Try.prog (Instr.fieldAt 26 f5 2) w fun t78 w =>
  valP Try.prog (Instr.loadAt 24 t78) w fun t79 w =>
  valP Try.prog (Instr.indexAt 24 t79 i15) w fun t81 w =>
  valP Try.prog (Instr.fieldAt 33 t81 1) w fun t82 w =>
  valP Try.prog (Instr.loadAt 31 t82) w fun t83 w =>
  builtinP Try.prog Builtin.len #[31] 3 #[false] #[t83] w fun t84 w =>
  valP Try.prog (binS BinOp.lss 3 (Operand.tmp 77) (Operand.tmp 84) k16 t84) w fun t85 w =>
  m12_34 R K1 K2 g4 f5 e7 t8 alone12 whole13 rest14 i15 k16 t85 w
def m12_30 (R : VP) (K1 : (Value × Value) → World → Prop) (g4 f5 e7 t8 alone12 whole13 rest14 i15 k16 : Value) (w : World) : Prop :=
  loopP (fun (K2 : VP) (s : Value) w => m12_31 R K1 K2 g4 f5 e7 t8 alone12 whole13 rest14 i15 s w) k16 w
def m12_29 (R : VP) (K1 : (Value × Value) → World → Prop) (g4 f5 e7 t8 alone12 whole13 rest14 i15 : Value) (w : World) : Prop :=
  m12_30 R K1 g4 f5 e7 t8 alone12 whole13 rest14 i15 (Value.int IntKind.i64 0) w
def m12_35 (R : VP) (K1 : (Value × Value) → World → Prop) (g4 f5 e7 t8 alone12 whole13 rest14 i15 t68 : Value) (w : World) : Prop :=
  condP t68
  (valP Try.prog (Instr.fieldAt 26 f5 2) w fun t70 w =>
  valP Try.prog (Instr.loadAt 24 t70) w fun t71 w =>
  valP Try.prog (Instr.indexAt 24 t71 i15) w fun t73 w =>
  valP Try.prog (Instr.loadAt 33 t73) w fun t74 w =>
  valP Try.prog (Instr.buildSlice 24 1 #[(0, t74)]) w fun t75 w =>
  builtinP Try.prog Builtin.append #[24, 24] 24 #[false, false] #[rest14, t75] w fun t76 w =>
  m12_36 R K1 g4 f5 e7 t8 alone12 whole13 t76 i15 w)
  (m12_29 R K1 g4 f5 e7 t8 alone12 whole13 rest14 i15 w)
def m12_27 (R : VP) (K1 : (Value × Value) → World → Prop) (g4 f5 e7 t8 alone12 whole13 rest14 i15 : Value) (w : World) : Prop :=
  anyDraw w fun w =>
  valS Try.prog (Instr.loadAt 23 g4) w fun t60 =>
  valS Try.prog (Instr.fieldAt 26 f5 2) w fun t61 =>
  valS Try.prog (Instr.loadAt 24 t61) w fun t62 =>
  valS Try.prog (Instr.indexAt 24 t62 i15) w fun t64 =>
  valS Try.prog (Instr.loadAt 33 t64) w fun t65 =>
  valS Try.prog (Instr.loadAt 33 alone12) w fun t66 =>
  callP Try.prog (fnV 29) #[t60, t65, t66] w fun t67 w =>
  valP Try.prog (Op.unary UnOp.not t67) w fun t68 w =>
  m12_35 R K1 g4 f5 e7 t8 alone12 whole13 rest14 i15 t68 w
def m12_19 (R : VP) (K1 : (Value × Value) → World → Prop) (g4 t8 rest14 out17 closed18 i19 : Value) (w : World) : Prop :=
  valP Try.prog (binS BinOp.add 3 (Operand.tmp 144) (Operand.const (Value.int IntKind.i64 1)) i19 (Value.int IntKind.i64 1)) w fun t145 w =>
  K1 (closed18, t145) w
def m12_20 (R : VP) (K1 : (Value × Value) → World → Prop) (g4 t8 rest14 out17 closed18 i19 t154 : Value) (w : World) : Prop :=
  condP t154
  (valP Try.prog (Instr.indexAt 24 rest14 i19) w fun t158 w =>
  valP Try.prog (Instr.loadAt 33 t158) w fun t159 w =>
  valP Try.prog (Instr.buildSlice 24 1 #[(0, t159)]) w fun t160 w =>
  builtinP Try.prog Builtin.append #[24, 24] 24 #[false, false] #[closed18, t160] w fun t161 w =>
  m12_19 R K1 g4 t8 rest14 out17 t161 i19 w)
  (anyDraw w fun w =>
  pureP Try.prog (Instr.fieldAt 26 out17 2) fun t162 =>
  pureP Try.prog (Instr.indexAt 24 rest14 i19) fun t166 =>
  (valP Try.prog (Instr.loadAt 24 t162) w fun t163 w =>
  valP Try.prog (Instr.loadAt 33 t166) w fun t167 w =>
  valP Try.prog (Instr.buildSlice 24 1 #[(0, t167)]) w fun t168 w =>
  builtinP Try.prog Builtin.append #[24, 24] 24 #[false, false] #[t163, t168] w fun t169 w =>
  pureP Try.prog (Instr.fieldAt 26 out17 2) fun t170 =>
  unitP Try.prog (Instr.storeAt 24 t170 t169) w fun _ w =>
  m12_19 R K1 g4 t8 rest14 out17 closed18 i19 w) ∧ (valP Try.prog (Instr.loadAt 33 t166) w fun t167 w =>
  (valP Try.prog (Instr.loadAt 24 t162) w fun t163 w =>
  valP Try.prog (Instr.buildSlice 24 1 #[(0, t167)]) w fun t168 w =>
  builtinP Try.prog Builtin.append #[24, 24] 24 #[false, false] #[t163, t168] w fun t169 w =>
  pureP Try.prog (Instr.fieldAt 26 out17 2) fun t170 =>
  unitP Try.prog (Instr.storeAt 24 t170 t169) w fun _ w =>
  m12_19 R K1 g4 t8 rest14 out17 closed18 i19 w) ∧ (valP Try.prog (Instr.buildSlice 24 1 #[(0, t167)]) w fun t168 w =>
  valP Try.prog (Instr.loadAt 24 t162) w fun t163 w =>
  builtinP Try.prog Builtin.append #[24, 24] 24 #[false, false] #[t163, t168] w fun t169 w =>
  pureP Try.prog (Instr.fieldAt 26 out17 2) fun t170 =>
  unitP Try.prog (Instr.storeAt 24 t170 t169) w fun _ w =>
  m12_19 R K1 g4 t8 rest14 out17 closed18 i19 w)))
def m12_18 (R : VP) (K1 : (Value × Value) → World → Prop) (g4 t8 rest14 out17 closed18 i19 : Value) (w : World) : Prop :=
  anyDraw w fun w =>
  heldP w fun J =>
  valJ Try.prog J (Instr.loadAt 23 g4) fun t146 =>
  valJ Try.prog J (Instr.indexAt 24 rest14 i19) fun t149 =>
  valJ Try.prog J (Instr.loadAt 33 t149) fun t150 =>
  valJ Try.prog J (Instr.fieldAt 26 out17 0) fun t152 =>
  valJ Try.prog J (Instr.loadAt 3 t152) fun t153 =>
  callP Try.prog (fnV 21) #[t150] w fun t151 w =>
  stayP J w
  (callP Try.prog (fnV 20) #[t146, t151, t153] w fun t154 w =>
  stayP J w
  (m12_20 R K1 g4 t8 rest14 out17 closed18 i19 t154 w))
def m12_15 (R : VP) (t8 t9 t10 : Value) (w : World) : Prop :=
  valS Try.prog (loadC 26 t8) w fun r0 =>
  R (Value.tuple #[r0, t9, t10]) w
def m12_14 (R : VP) (t8 out17 closed18 : Value) (w : World) : Prop :=
  valP Try.prog (Instr.loadAt 26 out17) w fun t171 w =>
  unitP Try.prog (Instr.storeAt 26 t8 t171) w fun _ w =>
  m12_15 R t8 closed18 (Value.int IntKind.i64 0) w
def m12_21 (R : VP) (K1 : (Value × Value) → World → Prop) (g4 t8 rest14 out17 closed18 i19 t143 : Value) (w : World) : Prop :=
  condP t143
  (m12_18 R K1 g4 t8 rest14 out17 closed18 i19 w)
  (m12_14 R t8 out17 closed18 w)
def m12_17 (R : VP) (K1 : (Value × Value) → World → Prop) (g4 t8 rest14 out17 closed18 i19 : Value) (w : World) : Prop :=
  builtinP Try.prog Builtin.len #[24] 3 #[false] #[rest14] w fun t142 w =>
  valP Try.prog (binS BinOp.lss 3 (Operand.tmp 140) (Operand.tmp 142) i19 t142) w fun t143 w =>
  m12_21 R K1 g4 t8 rest14 out17 closed18 i19 t143 w
def m12_16 (R : VP) (g4 t8 rest14 out17 closed18 i19 : Value) (w : World) : Prop :=
  loopP (fun (K1 : (Value × Value) → World → Prop) (s : Value × Value) w => m12_17 R K1 g4 t8 rest14 out17 s.1 s.2 w) (closed18, i19) w
def m12_13 (R : VP) (g4 t8 rest14 out17 closed18 : Value) (w : World) : Prop :=
  m12_16 R g4 t8 rest14 out17 closed18 (Value.int IntKind.i64 0) w
def m12_12 (R : VP) (g4 t8 rest14 out17 : Value) (w : World) : Prop :=
  m12_13 R g4 t8 rest14 out17 (Value.slice none 0 0) w
def m12_22 (R : VP) (g4 e7 t8 rest14 out17 t136 : Value) (w : World) : Prop :=
  condP t136
  (valP Try.prog (Instr.fieldAt 28 e7 0) w fun t137 w =>
  valP Try.prog (Instr.loadAt 3 t137) w fun t138 w =>
  valP Try.prog (Instr.fieldAt 26 out17 0) w fun t139 w =>
  unitP Try.prog (Instr.storeAt 3 t139 t138) w fun _ w =>
  m12_12 R g4 t8 rest14 out17 w)
  (m12_12 R g4 t8 rest14 out17 w)
def m12_11 (R : VP) (g4 e7 t8 rest14 out17 : Value) (w : World) : Prop :=
  valP Try.prog (Instr.fieldAt 28 e7 0) w fun t132 w =>
  valP Try.prog (Instr.loadAt 3 t132) w fun t133 w =>
  valP Try.prog (Instr.fieldAt 26 out17 0) w fun t134 w =>
  valP Try.prog (Instr.loadAt 3 t134) w fun t135 w =>
  valP Try.prog (binS BinOp.gtr 3 (Operand.tmp 133) (Operand.tmp 135) t133 t135) w fun t136 w =>
  m12_22 R g4 e7 t8 rest14 out17 t136 w
def m12_24 (R : VP) (g4 f5 e7 t8 out17 : Value) (w : World) : Prop :=
  valP Try.prog (Instr.fieldAt 26 f5 2) w fun t130 w =>
  valP Try.prog (Instr.loadAt 24 t130) w fun t131 w =>
  m12_11 R g4 e7 t8 t131 out17 w
def m12_23 (R : VP) (g4 f5 e7 t8 rest14 out17 t125 : Value) (w : World) : Prop :=
  condP t125
  (valP Try.prog (Instr.fieldAt 26 f5 1) w fun t126 w =>
  valP Try.prog (Instr.loadAt 3 t126) w fun t127 w =>
  valP Try.prog (binS BinOp.add 3 (Operand.tmp 127) (Operand.const (Value.int IntKind.i64 1)) t127 (Value.int IntKind.i64 1)) w fun t128 w =>
  valP Try.prog (Instr.fieldAt 26 out17 1) w fun t129 w =>
  unitP Try.prog (Instr.storeAt 3 t129 t128) w fun _ w =>
  m12_24 R g4 f5 e7 t8 out17 w)
  (m12_11 R g4 e7 t8 rest14 out17 w)
def m12_10 (R : VP) (g4 f5 e7 t8 whole13 rest14 out17 : Value) (w : World) : Prop :=
  valP Try.prog (Instr.loadAt 23 g4) w fun t109 w =>
  valP Try.prog (Instr.fieldAt 28 e7 0) w fun t110 w =>
  valP Try.prog (Instr.loadAt 3 t110) w fun t111 w =>
  valP Try.prog (Instr.fieldAt 26 f5 0) w fun t112 w =>
  valP Try.prog (Instr.loadAt 3 t112) w fun t113 w =>
  callP Try.prog (fnV 20) #[t109, t111, t113] w fun t114 w =>
  condP t114
  (pickP t114 (Value.bool true) undef fun t120 =>
  condP t120
  (pickP t120 (Value.bool true) undef fun t125 =>
  m12_23 R g4 f5 e7 t8 rest14 out17 t125 w)
  (builtinP Try.prog Builtin.len #[24] 3 #[false] #[rest14] w fun t123 w =>
  valP Try.prog (binS BinOp.gtr 3 (Operand.tmp 123) (Operand.const (Value.int IntKind.i64 64)) t123 (Value.int IntKind.i64 64)) w fun t124 w =>
  pickP t120 (Value.bool true) t124 fun t125 =>
  m12_23 R g4 f5 e7 t8 rest14 out17 t125 w))
  (valP Try.prog (Instr.fieldAt 33 whole13 1) w fun t116 w =>
  valP Try.prog (Instr.loadAt 31 t116) w fun t117 w =>
  builtinP Try.prog Builtin.len #[31] 3 #[false] #[t117] w fun t118 w =>
  valP Try.prog (binS BinOp.gtr 3 (Operand.tmp 118) (Operand.const (Value.int IntKind.i64 64)) t118 (Value.int IntKind.i64 64)) w fun t119 w =>
  pickP t114 (Value.bool true) t119 fun t120 =>
  condP t120
  (pickP t120 (Value.bool true) undef fun t125 =>
  m12_23 R g4 f5 e7 t8 rest14 out17 t125 w)
  (builtinP Try.prog Builtin.len #[24] 3 #[false] #[rest14] w fun t123 w =>
  valP Try.prog (binS BinOp.gtr 3 (Operand.tmp 123) (Operand.const (Value.int IntKind.i64 64)) t123 (Value.int IntKind.i64 64)) w fun t124 w =>
  pickP t120 (Value.bool true) t124 fun t125 =>
  m12_23 R g4 f5 e7 t8 rest14 out17 t125 w))
def m12_9 (R : VP) (g4 f5 e7 t8 whole13 rest14 : Value) (w : World) : Prop :=
  valP Try.prog (Instr.fieldAt 26 f5 0) w fun t104 w =>
  valP Try.prog (Instr.loadAt 3 t104) w fun t105 w =>
  valP Try.prog (Instr.fieldAt 26 f5 1) w fun t106 w =>
  valP Try.prog (Instr.loadAt 3 t106) w fun t107 w =>
  valP Try.prog (Instr.build 26 #[(0, t105), (1, t107)]) w fun t108 w =>
  valP Try.prog (Instr.alloc 26 true (.tuple #[])) w fun out17 w =>
  unitP Try.prog (Instr.storeAt 26 out17 t108) w fun _ w =>
  m12_10 R g4 f5 e7 t8 whole13 rest14 out17 w
def m12_8 (R : VP) (g4 f5 e7 t8 whole13 rest14 : Value) (w : World) : Prop :=
  valP Try.prog (Instr.loadAt 33 whole13) w fun t102 w =>
  callP Try.prog (fnV 31) #[rest14, t102] w fun t103 w =>
  m12_9 R g4 f5 e7 t8 whole13 t103 w
def m12_37 (R : VP) (K1 : (Value × Value) → World → Prop) (g4 f5 e7 t8 alone12 whole13 rest14 i15 t57 : Value) (w : World) : Prop :=
  condP t57
  (m12_27 R K1 g4 f5 e7 t8 alone12 whole13 rest14 i15 w)
  (m12_8 R g4 f5 e7 t8 whole13 rest14 w)
def m12_26 (R : VP) (K1 : (Value × Value) → World → Prop) (g4 f5 e7 t8 alone12 whole13 rest14 i15 : Value) (w : World) : Prop :=
  valP Try.prog (Instr.fieldAt 26 f5 2) w fun t54 w =>
  valP Try.prog (Instr.loadAt 24 t54) w fun t55 w =>
  builtinP Try.prog Builtin.len #[24] 3 #[false] #[t55] w fun t56 w =>
  valP Try.prog (binS BinOp.lss 3 (Operand.tmp 53) (Operand.tmp 56) i15 t56) w fun t57 w =>
  m12_37 R K1 g4 f5 e7 t8 alone12 whole13 rest14 i15 t57 w
def m12_25 (R : VP) (g4 f5 e7 t8 alone12 whole13 rest14 i15 : Value) (w : World) : Prop :=
  loopP (fun (K1 : (Value × Value) → World → Prop) (s : Value × Value) w => m12_26 R K1 g4 f5 e7 t8 alone12 whole13 s.1 s.2 w) (rest14, i15) w
def m12_7 (R : VP) (g4 f5 e7 t8 alone12 whole13 rest14 : Value) (w : World) : Prop :=
  m12_25 R g4 f5 e7 t8 alone12 whole13 rest14 (Value.int IntKind.i64 0) w
def m12_6 (R : VP) (g4 f5 e7 t8 alone12 whole13 : Value) (w : World) : Prop :=
  m12_7 R g4 f5 e7 t8 alone12 whole13 (Value.slice none 0 0) w
def m12_5 (R : VP) (g4 f5 e7 t8 alone12 : Value) (w : World) : Prop :=
  valP Try.prog (Instr.loadAt 33 alone12) w fun t52 w =>
  valP Try.prog (Instr.alloc 33 true (.tuple #[])) w fun whole13 w =>
  unitP Try.prog (Instr.storeAt 33 whole13 t52) w fun _ w =>
  m12_6 R g4 f5 e7 t8 alone12 whole13 w
def m12_4 (R : VP) (key2 g4 f5 e7 t8 : Value) (w : World) : Prop :=
  valP Try.prog (Instr.loadAt 28 e7) w fun t49 w =>
  valP Try.prog (Instr.buildSlice 31 1 #[(0, t49)]) w fun t50 w =>
  valP Try.prog (Instr.build 33 #[(0, key2), (1, t50)]) w fun t51 w =>
  valP Try.prog (Instr.alloc 33 true (.tuple #[])) w fun alone12 w =>
  unitP Try.prog (Instr.storeAt 33 alone12 t51) w fun _ w =>
  m12_5 R g4 f5 e7 t8 alone12 w
def m12_38 (R : VP) (key2 g4 f5 e7 t8 none11 t46 : Value) (w : World) : Prop :=
  condP t46
  (valP Try.prog (Instr.loadAt 26 none11) w fun t47 w =>
  unitP Try.prog (Instr.storeAt 26 t8 t47) w fun _ w =>
  m12_39 R t8 (Value.slice none 0 0) (Value.int IntKind.i64 6) w)
  (m12_4 R key2 g4 f5 e7 t8 w)
def m12_3 (R : VP) (key2 g4 f5 e7 t8 none11 : Value) (w : World) : Prop :=
  valP Try.prog (Instr.fieldAt 26 f5 1) w fun t44 w =>
  valP Try.prog (Instr.loadAt 3 t44) w fun t45 w =>
  valP Try.prog (binS BinOp.eql 3 (Operand.tmp 45) (Operand.const (Value.int IntKind.i64 1099511627776)) t45 (Value.int IntKind.i64 1099511627776)) w fun t46 w =>
  m12_38 R key2 g4 f5 e7 t8 none11 t46 w
def m12_40 (R : VP) (key2 g4 f5 e7 t8 none11 t42 : Value) (w : World) : Prop :=
  condP t42
  (valP Try.prog (Instr.loadAt 26 none11) w fun t43 w =>
  unitP Try.prog (Instr.storeAt 26 t8 t43) w fun _ w =>
  m12_41 R t8 (Value.slice none 0 0) (Value.int IntKind.i64 1) w)
  (m12_3 R key2 g4 f5 e7 t8 none11 w)
def m12_2 (R : VP) (key2 g4 f5 e7 t8 none11 : Value) (w : World) : Prop :=
  valP Try.prog (Instr.loadAt 23 g4) w fun t21 w =>
  valP Try.prog (Instr.loadAt 26 f5) w fun t22 w =>
  callP Try.prog (fnV 16) #[t21, t22] w fun t23 w =>
  valP Try.prog (Op.unary UnOp.not t23) w fun t24 w =>
  condP t24
  (pickP t24 (Value.bool true) undef fun t28 =>
  pickP t28 (Value.bool true) undef fun t32 =>
  pickP t32 (Value.bool true) undef fun t37 =>
  pickP t37 (Value.bool true) undef fun t42 =>
  m12_40 R key2 g4 f5 e7 t8 none11 t42 w)
  (valP Try.prog (binS BinOp.lss 3 (Operand.tmp 26) (Operand.const (Value.int IntKind.i64 0)) key2 (Value.int IntKind.i64 0)) w fun t27 w =>
  pickP t24 (Value.bool true) t27 fun t28 =>
  condP t28
  (pickP t28 (Value.bool true) undef fun t32 =>
  pickP t32 (Value.bool true) undef fun t37 =>
  pickP t37 (Value.bool true) undef fun t42 =>
  m12_40 R key2 g4 f5 e7 t8 none11 t42 w)
  (valP Try.prog (binS BinOp.gtr 3 (Operand.tmp 30) (Operand.const (Value.int IntKind.i64 1048576)) key2 (Value.int IntKind.i64 1048576)) w fun t31 w =>
  pickP t28 (Value.bool true) t31 fun t32 =>
  condP t32
  (pickP t32 (Value.bool true) undef fun t37 =>
  pickP t37 (Value.bool true) undef fun t42 =>
  m12_40 R key2 g4 f5 e7 t8 none11 t42 w)
  (valP Try.prog (Instr.fieldAt 28 e7 0) w fun t34 w =>
  valP Try.prog (Instr.loadAt 3 t34) w fun t35 w =>
  valP Try.prog (binS BinOp.lss 3 (Operand.tmp 35) (Operand.const (Value.int IntKind.i64 0)) t35 (Value.int IntKind.i64 0)) w fun t36 w =>
  pickP t32 (Value.bool true) t36 fun t37 =>
  condP t37
  (pickP t37 (Value.bool true) undef fun t42 =>
  m12_40 R key2 g4 f5 e7 t8 none11 t42 w)
  (valP Try.prog (Instr.fieldAt 28 e7 0) w fun t39 w =>
  valP Try.prog (Instr.loadAt 3 t39) w fun t40 w =>
  valP Try.prog (binS BinOp.gtr 3 (Operand.tmp 40) (Operand.const (Value.int IntKind.i64 1099511627776)) t40 (Value.int IntKind.i64 1099511627776)) w fun t41 w =>
  pickP t37 (Value.bool true) t41 fun t42 =>
  m12_40 R key2 g4 f5 e7 t8 none11 t42 w))))
def m12_1 (R : VP) (key2 g4 f5 e7 t8 : Value) (w : World) : Prop :=
  valP Try.prog (Instr.build 26 #[]) w fun t20 w =>
  valP Try.prog (Instr.alloc 26 true (.tuple #[])) w fun none11 w =>
  unitP Try.prog (Instr.storeAt 26 none11 t20) w fun _ w =>
  m12_2 R key2 g4 f5 e7 t8 none11 w
def m12_0 (R : VP) (g0 f1 key2 e3 : Value) (w : World) : Prop :=
  valP Try.prog (Instr.box 23 g0) w fun g4 w =>
  valP Try.prog (Instr.box 26 f1) w fun f5 w =>
  valP Try.prog (Instr.box 28 e3) w fun e7 w =>
  valP Try.prog (Instr.alloc 26 true (.tuple #[])) w fun t8 w =>
  m12_1 R key2 g4 f5 e7 t8 w
abbrev W12 := cwp Try.prog (fun i => cond (Nat.beq i 17) 13 (cond (Nat.beq i 12) 9 (0)))
noncomputable def k12_0 : Code := (bodyOf Try.f12)
noncomputable def k12_1 : Code := (c2 k12_0)
noncomputable def k12_2 : Code := (c2 k12_1)
noncomputable def k12_3 : Code := (c2 k12_2)
noncomputable def k12_4 : Code := (c2 k12_3)
noncomputable def k12_5 : Code := (c2 k12_4)
noncomputable def k12_6 : Code := (c2 k12_5)
noncomputable def k12_7 : Code := (c2 k12_6)
noncomputable def k12_8 : Code := (c2 k12_7)
noncomputable def k12_9 : Code := (c2 k12_8)
noncomputable def k12_10 : Code := (c2 k12_9)
noncomputable def k12_11 : Code := (c2 k12_10)
noncomputable def k12_12 : Code := (c2 k12_11)
noncomputable def k12_13 : Code := (c2 k12_12)
noncomputable def k12_14 : Code := (c2 k12_13)
noncomputable def k12_15 : Code := (c2 k12_14)
noncomputable def k12_16 : Code := (c2 (c1 k12_13))
noncomputable def k12_17 : Code := (c1 (c1 k12_16))
noncomputable def k12_18 : Code := (c2 k12_17)
noncomputable def k12_19 : Code := (c2 k12_18)
noncomputable def k12_20 : Code := (c2 (c1 (c1 k12_18)))
noncomputable def k12_21 : Code := (c2 (c1 k12_17))
noncomputable def k12_22 : Code := (c2 (c1 k12_11))
noncomputable def k12_23 : Code := (c2 (c1 k12_10))
noncomputable def k12_24 : Code := (c2 (c1 k12_23))
noncomputable def k12_25 : Code := (c2 (c1 k12_7))
noncomputable def k12_26 : Code := (c1 (c1 k12_25))
noncomputable def k12_27 : Code := (c2 k12_26)
noncomputable def k12_28 : Code := (c2 k12_27)
noncomputable def k12_29 : Code := (c2 (c1 (c1 k12_27)))
noncomputable def k12_30 : Code := (c2 k12_29)
noncomputable def k12_31 : Code := (c1 (c1 k12_30))
noncomputable def k12_32 : Code := (c2 k12_31)
noncomputable def k12_33 : Code := (c2 k12_32)
noncomputable def k12_34 : Code := (c2 (c1 k12_31))
noncomputable def k12_35 : Code := (c2 (c1 (c1 (c1 k12_27))))
noncomputable def k12_36 : Code := (c2 (c1 k12_35))
noncomputable def k12_37 : Code := (c2 (c1 k12_26))
noncomputable def k12_38 : Code := (c2 (c1 k12_3))
noncomputable def k12_39 : Code := (c2 (c1 k12_38))
noncomputable def k12_40 : Code := (c2 (c1 k12_2))
noncomputable def k12_41 : Code := (c2 (c1 k12_40))
theorem s12_41 {R : VP} {Q : EQ} (hR : ∀ e w, (valS Try.prog (loadC 26 (e 8)) w fun r0 =>
R (Value.tuple #[r0, (e 9), (e 10)]) w) → Q .ret e w) (e : Env) (w : World) (h : m12_41 R (e 8) (e 9) (e 10) w) : W12 k12_41 Q e w := by
  unfold m12_41 at h
  exact reA (hR _ _ h)
theorem s12_39 {R : VP} {Q : EQ} (hR : ∀ e w, (valS Try.prog (loadC 26 (e 8)) w fun r0 =>
R (Value.tuple #[r0, (e 9), (e 10)]) w) → Q .ret e w) (e : Env) (w : World) (h : m12_39 R (e 8) (e 9) (e 10) w) : W12 k12_39 Q e w := by
  unfold m12_39 at h
  exact reA (hR _ _ h)
theorem s12_28 {R : VP} {K1 : (Value × Value) → World → Prop} {Q : EQ} (hN : ∀ e w, (K1 ((e 14), (e 15)) w) → Q .normal e w) (e : Env) (w : World) (h : m12_28 R K1 (e 4) (e 5) (e 7) (e 8) (e 12) (e 13) (e 14) (e 15) w) : W12 k12_28 Q e w := by
  unfold m12_28 at h
  exact rgA 11 (fun e w => K1 ((e 14), (e 15)) w) h hN
theorem s12_36 {R : VP} {K1 : (Value × Value) → World → Prop} {Q : EQ} (hX1 : ∀ e w, (m12_28 R K1 (e 4) (e 5) (e 7) (e 8) (e 12) (e 13) (e 14) (e 15) w) → Q (.exit 1) e w) (e : Env) (w : World) (h : m12_36 R K1 (e 4) (e 5) (e 7) (e 8) (e 12) (e 13) (e 14) (e 15) w) : W12 k12_36 Q e w := by
  unfold m12_36 at h
  exact exA 1 (hX1 _ _ h)
theorem s12_33 {R : VP} {K1 : (Value × Value) → World → Prop} {K2 : VP} {Q : EQ} (hN : ∀ e w, (K2 (e 16) w) → Q .normal e w) (e : Env) (w : World) (h : m12_33 R K1 K2 (e 4) (e 5) (e 7) (e 8) (e 12) (e 13) (e 14) (e 15) (e 16) w) : W12 k12_33 Q e w := by
  unfold m12_33 at h
  exact rgA 16 (fun e w => K2 (e 16) w) h hN
theorem s12_32 {R : VP} {K1 : (Value × Value) → World → Prop} {K2 : VP} {Q : EQ} (hN : ∀ e w, (K2 (e 16) w) → Q .normal e w) (e : Env) (w : World) (h : m12_32 R K1 K2 (e 4) (e 5) (e 7) (e 8) (e 12) (e 13) (e 14) (e 15) (e 16) w) : W12 k12_32 Q e w := by
  unfold m12_32 at h
  refine seA ?_
  have hN : ∀ e w, (m12_33 R K1 K2 (e 4) (e 5) (e 7) (e 8) (e 12) (e 13) (e 14) (e 15) (e 16) w) → (thenE (W12 k12_33 Q) Q) .normal e w := fun e w h => then_N (s12_33 (R := R) (Q := Q) (K1 := K1) (K2 := K2) hN e w h)
  refine block_ok 3 (by kernel_rfl) ?_
  have hN : ∀ e w, (m12_33 R K1 K2 (e 4) (e 5) (e 7) (e 8) (e 12) (e 13) (e 14) (e 15) (e 16) w) → (inBlockE 3 (thenE (W12 k12_33 Q) Q)) .normal e w := fun e w h => block_N (hN e w h)
  exact taA 17 11 (fun e w => m12_33 R K1 K2 (e 4) (e 5) (e 7) (e 8) (e 12) (e 13) (e 14) (e 15) (e 16) w) h hN
theorem s12_34 {R : VP} {K1 : (Value × Value) → World → Prop} {K2 : VP} {Q : EQ} (hN : ∀ e w, (m12_32 R K1 K2 (e 4) (e 5) (e 7) (e 8) (e 12) (e 13) (e 14) (e 15) (e 16) w) → Q .normal e w) (hX2 : ∀ e w, (m12_28 R K1 (e 4) (e 5) (e 7) (e 8) (e 12) (e 13) (e 14) (e 15) w) → Q (.exit 2) e w) (e : Env) (w : World) (h : m12_34 R K1 K2 (e 4) (e 5) (e 7) (e 8) (e 12) (e 13) (e 14) (e 15) (e 16) (e 85) w) : W12 k12_34 Q e w := by
  unfold m12_34 at h
  refine coA (Operand.tmp 85) h (fun h1 => ?_) (fun h1 => ?_)
  · exact skA (hN _ _ h1)
  · exact exA 2 (hX2 _ _ h1)
theorem s12_31 {R : VP} {K1 : (Value × Value) → World → Prop} {K2 : VP} {Q : EQ} (hN : ∀ e w, (K2 (e 16) w) → Q .normal e w) (hX2 : ∀ e w, (m12_28 R K1 (e 4) (e 5) (e 7) (e 8) (e 12) (e 13) (e 14) (e 15) w) → Q (.exit 2) e w) (e : Env) (w : World) (h : m12_31 R K1 K2 (e 4) (e 5) (e 7) (e 8) (e 12) (e 13) (e 14) (e 15) (e 16) w) : W12 k12_31 Q e w := by
  unfold m12_31 at h
  refine seA ?_
  have hN : ∀ e w, (m12_32 R K1 K2 (e 4) (e 5) (e 7) (e 8) (e 12) (e 13) (e 14) (e 15) (e 16) w) → (thenE (W12 k12_32 Q) Q) .normal e w := fun e w h => then_N (s12_32 (R := R) (Q := Q) (K1 := K1) (K2 := K2) hN e w h)
  have hX2 : ∀ e w, (m12_28 R K1 (e 4) (e 5) (e 7) (e 8) (e 12) (e 13) (e 14) (e 15) w) → (thenE (W12 k12_32 Q) Q) (.exit 2) e w := fun e w h => then_X (hX2 e w h)
  refine seA ?_
  have hN : ∀ e w, (m12_34 R K1 K2 (e 4) (e 5) (e 7) (e 8) (e 12) (e 13) (e 14) (e 15) (e 16) (e 85) w) → (thenE (W12 k12_34 (thenE (W12 k12_32 Q) Q)) (thenE (W12 k12_32 Q) Q)) .normal e w := fun e w h => then_N (s12_34 (R := R) (Q := (thenE (W12 k12_32 Q) Q)) (K1 := K1) (K2 := K2) hN hX2 e w h)
  exact rgA 15 (fun e w => m12_34 R K1 K2 (e 4) (e 5) (e 7) (e 8) (e 12) (e 13) (e 14) (e 15) (e 16) (e 85) w) h hN
theorem s12_30 {R : VP} {K1 : (Value × Value) → World → Prop} {Q : EQ} (hN : ∀ e w, (m12_28 R K1 (e 4) (e 5) (e 7) (e 8) (e 12) (e 13) (e 14) (e 15) w) → Q .normal e w) (e : Env) (w : World) (h : m12_30 R K1 (e 4) (e 5) (e 7) (e 8) (e 12) (e 13) (e 14) (e 15) (e 16) w) : W12 k12_30 Q e w := by
  unfold m12_30 at h
  refine block_ok 2 (by kernel_rfl) ?_
  have hX2 : ∀ e w, (m12_28 R K1 (e 4) (e 5) (e 7) (e 8) (e 12) (e 13) (e 14) (e 15) w) → (inBlockE 2 Q) (.exit 2) e w := fun e w h => inBlock_same (Q := Q) 2 (hN e w h)
  refine loop_ok' (fun (e : Env) => e 16) [4, 5, 7, 8, 12, 13, 14, 15] (by kernel_rfl) (by kernel_rfl) h (fun K e' w' hk h' => ?_)
  have r4 : e' 4 = e 4 := hk 4 (by decide)
  have r5 : e' 5 = e 5 := hk 5 (by decide)
  have r7 : e' 7 = e 7 := hk 7 (by decide)
  have r8 : e' 8 = e 8 := hk 8 (by decide)
  have r12 : e' 12 = e 12 := hk 12 (by decide)
  have r13 : e' 13 = e 13 := hk 13 (by decide)
  have r14 : e' 14 = e 14 := hk 14 (by decide)
  have r15 : e' 15 = e 15 := hk 15 (by decide)
  have hX2 : ∀ e w, (m12_28 R K1 (e 4) (e 5) (e 7) (e 8) (e 12) (e 13) (e 14) (e 15) w) → (thenE (fun (e : Env) w => K (e 16) w) (inBlockE 2 Q)) (.exit 2) e w := fun e w h => then_X (hX2 e w h)
  exact s12_31 (R := R) (Q := (thenE (fun (e : Env) w => K (e 16) w) (inBlockE 2 Q))) (K1 := K1) (K2 := K) (fun _ _ h => then_N h) hX2 e' w' (by rw [r4, r5, r7, r8, r12, r13, r14, r15]; exact h')
theorem s12_29 {R : VP} {K1 : (Value × Value) → World → Prop} {Q : EQ} (hN : ∀ e w, (m12_28 R K1 (e 4) (e 5) (e 7) (e 8) (e 12) (e 13) (e 14) (e 15) w) → Q .normal e w) (e : Env) (w : World) (h : m12_29 R K1 (e 4) (e 5) (e 7) (e 8) (e 12) (e 13) (e 14) (e 15) w) : W12 k12_29 Q e w := by
  unfold m12_29 at h
  refine seA ?_
  have hN : ∀ e w, (m12_30 R K1 (e 4) (e 5) (e 7) (e 8) (e 12) (e 13) (e 14) (e 15) (e 16) w) → (thenE (W12 k12_30 Q) Q) .normal e w := fun e w h => then_N (s12_30 (R := R) (Q := Q) (K1 := K1) hN e w h)
  exact rgA 14 (fun e w => m12_30 R K1 (e 4) (e 5) (e 7) (e 8) (e 12) (e 13) (e 14) (e 15) (e 16) w) h hN
theorem s12_35 {R : VP} {K1 : (Value × Value) → World → Prop} {Q : EQ} (hN : ∀ e w, (m12_29 R K1 (e 4) (e 5) (e 7) (e 8) (e 12) (e 13) (e 14) (e 15) w) → Q .normal e w) (hX1 : ∀ e w, (m12_28 R K1 (e 4) (e 5) (e 7) (e 8) (e 12) (e 13) (e 14) (e 15) w) → Q (.exit 1) e w) (e : Env) (w : World) (h : m12_35 R K1 (e 4) (e 5) (e 7) (e 8) (e 12) (e 13) (e 14) (e 15) (e 68) w) : W12 k12_35 Q e w := by
  unfold m12_35 at h
  refine coA (Operand.tmp 68) h (fun h1 => ?_) (fun h1 => ?_)
  · refine seA ?_
    have hN : ∀ e w, (m12_36 R K1 (e 4) (e 5) (e 7) (e 8) (e 12) (e 13) (e 14) (e 15) w) → (thenE (W12 k12_36 Q) Q) .normal e w := fun e w h => then_N (s12_36 (R := R) (Q := Q) (K1 := K1) hX1 e w h)
    exact rgA 13 (fun e w => m12_36 R K1 (e 4) (e 5) (e 7) (e 8) (e 12) (e 13) (e 14) (e 15) w) h1 hN
  · exact skA (hN _ _ h1)
theorem s12_27 {R : VP} {K1 : (Value × Value) → World → Prop} {Q : EQ} (hN : ∀ e w, (K1 ((e 14), (e 15)) w) → Q .normal e w) (e : Env) (w : World) (h : m12_27 R K1 (e 4) (e 5) (e 7) (e 8) (e 12) (e 13) (e 14) (e 15) w) : W12 k12_27 Q e w := by
  unfold m12_27 at h
  refine seA ?_
  have hN : ∀ e w, (m12_28 R K1 (e 4) (e 5) (e 7) (e 8) (e 12) (e 13) (e 14) (e 15) w) → (thenE (W12 k12_28 Q) Q) .normal e w := fun e w h => then_N (s12_28 (R := R) (Q := Q) (K1 := K1) hN e w h)
  refine block_ok 1 (by kernel_rfl) ?_
  have hX1 : ∀ e w, (m12_28 R K1 (e 4) (e 5) (e 7) (e 8) (e 12) (e 13) (e 14) (e 15) w) → (inBlockE 1 (thenE (W12 k12_28 Q) Q)) (.exit 1) e w := fun e w h => inBlock_same (Q := (thenE (W12 k12_28 Q) Q)) 1 (hN e w h)
  have hN : ∀ e w, (m12_28 R K1 (e 4) (e 5) (e 7) (e 8) (e 12) (e 13) (e 14) (e 15) w) → (inBlockE 1 (thenE (W12 k12_28 Q) Q)) .normal e w := fun e w h => block_N (hN e w h)
  refine seA ?_
  have hN : ∀ e w, (m12_29 R K1 (e 4) (e 5) (e 7) (e 8) (e 12) (e 13) (e 14) (e 15) w) → (thenE (W12 k12_29 (inBlockE 1 (thenE (W12 k12_28 Q) Q))) (inBlockE 1 (thenE (W12 k12_28 Q) Q))) .normal e w := fun e w h => then_N (s12_29 (R := R) (Q := (inBlockE 1 (thenE (W12 k12_28 Q) Q))) (K1 := K1) hN e w h)
  have hX1 : ∀ e w, (m12_28 R K1 (e 4) (e 5) (e 7) (e 8) (e 12) (e 13) (e 14) (e 15) w) → (thenE (W12 k12_29 (inBlockE 1 (thenE (W12 k12_28 Q) Q))) (inBlockE 1 (thenE (W12 k12_28 Q) Q))) (.exit 1) e w := fun e w h => then_X (hX1 e w h)
  refine seA ?_
  have hN : ∀ e w, (m12_35 R K1 (e 4) (e 5) (e 7) (e 8) (e 12) (e 13) (e 14) (e 15) (e 68) w) → (thenE (W12 k12_35 (thenE (W12 k12_29 (inBlockE 1 (thenE (W12 k12_28 Q) Q))) (inBlockE 1 (thenE (W12 k12_28 Q) Q)))) (thenE (W12 k12_29 (inBlockE 1 (thenE (W12 k12_28 Q) Q))) (inBlockE 1 (thenE (W12 k12_28 Q) Q)))) .normal e w := fun e w h => then_N (s12_35 (R := R) (Q := (thenE (W12 k12_29 (inBlockE 1 (thenE (W12 k12_28 Q) Q))) (inBlockE 1 (thenE (W12 k12_28 Q) Q)))) (K1 := K1) hN hX1 e w h)
  exact taA 12 7 (fun e w => m12_35 R K1 (e 4) (e 5) (e 7) (e 8) (e 12) (e 13) (e 14) (e 15) (e 68) w) h hN
theorem s12_19 {R : VP} {K1 : (Value × Value) → World → Prop} {Q : EQ} (hN : ∀ e w, (K1 ((e 18), (e 19)) w) → Q .normal e w) (e : Env) (w : World) (h : m12_19 R K1 (e 4) (e 8) (e 14) (e 17) (e 18) (e 19) w) : W12 k12_19 Q e w := by
  unfold m12_19 at h
  exact rgA 28 (fun e w => K1 ((e 18), (e 19)) w) h hN
theorem s12_20 {R : VP} {K1 : (Value × Value) → World → Prop} {Q : EQ} (hN : ∀ e w, (m12_19 R K1 (e 4) (e 8) (e 14) (e 17) (e 18) (e 19) w) → Q .normal e w) (e : Env) (w : World) (h : m12_20 R K1 (e 4) (e 8) (e 14) (e 17) (e 18) (e 19) (e 154) w) : W12 k12_20 Q e w := by
  unfold m12_20 at h
  refine coA (Operand.tmp 154) h (fun h1 => ?_) (fun h1 => ?_)
  · exact rgA 30 (fun e w => m12_19 R K1 (e 4) (e 8) (e 14) (e 17) (e 18) (e 19) w) h1 hN
  · exact tree_ok 31 10 [false, false, false, false, false, false, false, false, false, false] (.take 0 [true, false, false, false, false, false, false, false, false, false] (.take 2 [true, false, true, false, false, false, false, false, false, false] (.take 3 [true, false, true, true, false, false, false, false, false, false] (.take 4 [true, false, true, true, true, false, false, false, false, false] (.alt 1 [true, true, true, true, true, false, false, false, false, false] (.alt 5 [true, true, true, true, true, true, false, false, false, false] (.alt 6 [true, true, true, true, true, true, true, false, false, false] (.alt 7 [true, true, true, true, true, true, true, true, false, false] (.take 8 [true, true, true, true, true, true, true, true, true, false] (.alt 9 [true, true, true, true, true, true, true, true, true, true] .done .stop)) .stop) .stop) .stop) (.alt 5 [true, false, true, true, true, true, false, false, false, false] (.alt 1 [true, true, true, true, true, true, false, false, false, false] (.alt 6 [true, true, true, true, true, true, true, false, false, false] (.alt 7 [true, true, true, true, true, true, true, true, false, false] (.take 8 [true, true, true, true, true, true, true, true, true, false] (.alt 9 [true, true, true, true, true, true, true, true, true, true] .done .stop)) .stop) .stop) (.alt 6 [true, false, true, true, true, true, true, false, false, false] (.alt 1 [true, true, true, true, true, true, true, false, false, false] (.alt 7 [true, true, true, true, true, true, true, true, false, false] (.take 8 [true, true, true, true, true, true, true, true, true, false] (.alt 9 [true, true, true, true, true, true, true, true, true, true] .done .stop)) .stop) .stop) .stop)) .stop)))))) (fun e w => m12_19 R K1 (e 4) (e 8) (e 14) (e 17) (e 18) (e 19) w) (by kernel_rfl) (by kernel_rfl) (by kernel_rfl) (by kernel_rfl) (by kernel_rfl) (by kernel_rfl) (kcast (by kernel_rfl) h1) hN (by kernel_rfl)
theorem s12_18 {R : VP} {K1 : (Value × Value) → World → Prop} {Q : EQ} (hN : ∀ e w, (K1 ((e 18), (e 19)) w) → Q .normal e w) (e : Env) (w : World) (h : m12_18 R K1 (e 4) (e 8) (e 14) (e 17) (e 18) (e 19) w) : W12 k12_18 Q e w := by
  unfold m12_18 at h
  refine seA ?_
  have hN : ∀ e w, (m12_19 R K1 (e 4) (e 8) (e 14) (e 17) (e 18) (e 19) w) → (thenE (W12 k12_19 Q) Q) .normal e w := fun e w h => then_N (s12_19 (R := R) (Q := Q) (K1 := K1) hN e w h)
  refine block_ok 5 (by kernel_rfl) ?_
  have hN : ∀ e w, (m12_19 R K1 (e 4) (e 8) (e 14) (e 17) (e 18) (e 19) w) → (inBlockE 5 (thenE (W12 k12_19 Q) Q)) .normal e w := fun e w h => block_N (hN e w h)
  refine seA ?_
  have hN : ∀ e w, (m12_20 R K1 (e 4) (e 8) (e 14) (e 17) (e 18) (e 19) (e 154) w) → (thenE (W12 k12_20 (inBlockE 5 (thenE (W12 k12_19 Q) Q))) (inBlockE 5 (thenE (W12 k12_19 Q) Q))) .normal e w := fun e w h => then_N (s12_20 (R := R) (Q := (inBlockE 5 (thenE (W12 k12_19 Q) Q))) (K1 := K1) hN e w h)
  exact treeJ_ok 29 9 [false, false, false, false, false, false, false, false, false] (.take 0 [true, false, false, false, false, false, false, false, false] (.take 1 [true, true, false, false, false, false, false, false, false] (.take 2 [true, true, true, false, false, false, false, false, false] (.take 3 [true, true, true, true, false, false, false, false, false] (.take 4 [true, true, true, true, true, false, false, false, false] (.take 6 [true, true, true, true, true, false, true, false, false] (.take 7 [true, true, true, true, true, false, true, true, false] (.alt 5 [true, true, true, true, true, true, true, true, false] (.alt 8 [true, true, true, true, true, true, true, true, true] .done .stop) .stop)))))))) (fun e w => m12_20 R K1 (e 4) (e 8) (e 14) (e 17) (e 18) (e 19) (e 154) w) (by kernel_rfl) (by kernel_rfl) (by kernel_rfl) (by kernel_rfl) (by kernel_rfl) (by kernel_rfl) (kcast (by kernel_rfl) h) hN (by kernel_rfl)
theorem s12_15 {R : VP} {Q : EQ} (hR : ∀ e w, (valS Try.prog (loadC 26 (e 8)) w fun r0 =>
R (Value.tuple #[r0, (e 9), (e 10)]) w) → Q .ret e w) (e : Env) (w : World) (h : m12_15 R (e 8) (e 9) (e 10) w) : W12 k12_15 Q e w := by
  unfold m12_15 at h
  exact reA (hR _ _ h)
theorem s12_14 {R : VP} {Q : EQ} (hR : ∀ e w, (valS Try.prog (loadC 26 (e 8)) w fun r0 =>
R (Value.tuple #[r0, (e 9), (e 10)]) w) → Q .ret e w) (e : Env) (w : World) (h : m12_14 R (e 8) (e 17) (e 18) w) : W12 k12_14 Q e w := by
  unfold m12_14 at h
  refine seA ?_
  have hN : ∀ e w, (m12_15 R (e 8) (e 9) (e 10) w) → (thenE (W12 k12_15 Q) Q) .normal e w := fun e w h => then_N (s12_15 (R := R) (Q := Q) hR e w h)
  exact rgA 32 (fun e w => m12_15 R (e 8) (e 9) (e 10) w) h hN
theorem s12_21 {R : VP} {K1 : (Value × Value) → World → Prop} {Q : EQ} (hN : ∀ e w, (m12_18 R K1 (e 4) (e 8) (e 14) (e 17) (e 18) (e 19) w) → Q .normal e w) (hX4 : ∀ e w, (m12_14 R (e 8) (e 17) (e 18) w) → Q (.exit 4) e w) (e : Env) (w : World) (h : m12_21 R K1 (e 4) (e 8) (e 14) (e 17) (e 18) (e 19) (e 143) w) : W12 k12_21 Q e w := by
  unfold m12_21 at h
  refine coA (Operand.tmp 143) h (fun h1 => ?_) (fun h1 => ?_)
  · exact skA (hN _ _ h1)
  · exact exA 4 (hX4 _ _ h1)
theorem s12_17 {R : VP} {K1 : (Value × Value) → World → Prop} {Q : EQ} (hN : ∀ e w, (K1 ((e 18), (e 19)) w) → Q .normal e w) (hX4 : ∀ e w, (m12_14 R (e 8) (e 17) (e 18) w) → Q (.exit 4) e w) (e : Env) (w : World) (h : m12_17 R K1 (e 4) (e 8) (e 14) (e 17) (e 18) (e 19) w) : W12 k12_17 Q e w := by
  unfold m12_17 at h
  refine seA ?_
  have hN : ∀ e w, (m12_18 R K1 (e 4) (e 8) (e 14) (e 17) (e 18) (e 19) w) → (thenE (W12 k12_18 Q) Q) .normal e w := fun e w h => then_N (s12_18 (R := R) (Q := Q) (K1 := K1) hN e w h)
  have hX4 : ∀ e w, (m12_14 R (e 8) (e 17) (e 18) w) → (thenE (W12 k12_18 Q) Q) (.exit 4) e w := fun e w h => then_X (hX4 e w h)
  refine seA ?_
  have hN : ∀ e w, (m12_21 R K1 (e 4) (e 8) (e 14) (e 17) (e 18) (e 19) (e 143) w) → (thenE (W12 k12_21 (thenE (W12 k12_18 Q) Q)) (thenE (W12 k12_18 Q) Q)) .normal e w := fun e w h => then_N (s12_21 (R := R) (Q := (thenE (W12 k12_18 Q) Q)) (K1 := K1) hN hX4 e w h)
  exact rgA 27 (fun e w => m12_21 R K1 (e 4) (e 8) (e 14) (e 17) (e 18) (e 19) (e 143) w) h hN
theorem s12_16 {R : VP} {Q : EQ} (hN : ∀ e w, (m12_14 R (e 8) (e 17) (e 18) w) → Q .normal e w) (e : Env) (w : World) (h : m12_16 R (e 4) (e 8) (e 14) (e 17) (e 18) (e 19) w) : W12 k12_16 Q e w := by
  unfold m12_16 at h
  refine block_ok 4 (by kernel_rfl) ?_
  have hX4 : ∀ e w, (m12_14 R (e 8) (e 17) (e 18) w) → (inBlockE 4 Q) (.exit 4) e w := fun e w h => inBlock_same (Q := Q) 4 (hN e w h)
  refine loop_ok' (fun (e : Env) => (e 18, e 19)) [4, 8, 14, 17] (by kernel_rfl) (by kernel_rfl) h (fun K e' w' hk h' => ?_)
  have r4 : e' 4 = e 4 := hk 4 (by decide)
  have r8 : e' 8 = e 8 := hk 8 (by decide)
  have r14 : e' 14 = e 14 := hk 14 (by decide)
  have r17 : e' 17 = e 17 := hk 17 (by decide)
  have hX4 : ∀ e w, (m12_14 R (e 8) (e 17) (e 18) w) → (thenE (fun (e : Env) w => K ((e 18), (e 19)) w) (inBlockE 4 Q)) (.exit 4) e w := fun e w h => then_X (hX4 e w h)
  exact s12_17 (R := R) (Q := (thenE (fun (e : Env) w => K ((e 18), (e 19)) w) (inBlockE 4 Q))) (K1 := K) (fun _ _ h => then_N h) hX4 e' w' (by rw [r4, r8, r14, r17]; exact h')
theorem s12_13 {R : VP} {Q : EQ} (hR : ∀ e w, (valS Try.prog (loadC 26 (e 8)) w fun r0 =>
R (Value.tuple #[r0, (e 9), (e 10)]) w) → Q .ret e w) (e : Env) (w : World) (h : m12_13 R (e 4) (e 8) (e 14) (e 17) (e 18) w) : W12 k12_13 Q e w := by
  unfold m12_13 at h
  refine seA ?_
  have hN : ∀ e w, (m12_14 R (e 8) (e 17) (e 18) w) → (thenE (W12 k12_14 Q) Q) .normal e w := fun e w h => then_N (s12_14 (R := R) (Q := Q) hR e w h)
  refine seA ?_
  have hN : ∀ e w, (m12_16 R (e 4) (e 8) (e 14) (e 17) (e 18) (e 19) w) → (thenE (W12 k12_16 (thenE (W12 k12_14 Q) Q)) (thenE (W12 k12_14 Q) Q)) .normal e w := fun e w h => then_N (s12_16 (R := R) (Q := (thenE (W12 k12_14 Q) Q)) hN e w h)
  exact rgA 26 (fun e w => m12_16 R (e 4) (e 8) (e 14) (e 17) (e 18) (e 19) w) h hN
theorem s12_12 {R : VP} {Q : EQ} (hR : ∀ e w, (valS Try.prog (loadC 26 (e 8)) w fun r0 =>
R (Value.tuple #[r0, (e 9), (e 10)]) w) → Q .ret e w) (e : Env) (w : World) (h : m12_12 R (e 4) (e 8) (e 14) (e 17) w) : W12 k12_12 Q e w := by
  unfold m12_12 at h
  refine seA ?_
  have hN : ∀ e w, (m12_13 R (e 4) (e 8) (e 14) (e 17) (e 18) w) → (thenE (W12 k12_13 Q) Q) .normal e w := fun e w h => then_N (s12_13 (R := R) (Q := Q) hR e w h)
  exact rgA 25 (fun e w => m12_13 R (e 4) (e 8) (e 14) (e 17) (e 18) w) h hN
theorem s12_22 {R : VP} {Q : EQ} (hN : ∀ e w, (m12_12 R (e 4) (e 8) (e 14) (e 17) w) → Q .normal e w) (e : Env) (w : World) (h : m12_22 R (e 4) (e 7) (e 8) (e 14) (e 17) (e 136) w) : W12 k12_22 Q e w := by
  unfold m12_22 at h
  refine coA (Operand.tmp 136) h (fun h1 => ?_) (fun h1 => ?_)
  · exact rgA 24 (fun e w => m12_12 R (e 4) (e 8) (e 14) (e 17) w) h1 hN
  · exact skA (hN _ _ h1)
theorem s12_11 {R : VP} {Q : EQ} (hR : ∀ e w, (valS Try.prog (loadC 26 (e 8)) w fun r0 =>
R (Value.tuple #[r0, (e 9), (e 10)]) w) → Q .ret e w) (e : Env) (w : World) (h : m12_11 R (e 4) (e 7) (e 8) (e 14) (e 17) w) : W12 k12_11 Q e w := by
  unfold m12_11 at h
  refine seA ?_
  have hN : ∀ e w, (m12_12 R (e 4) (e 8) (e 14) (e 17) w) → (thenE (W12 k12_12 Q) Q) .normal e w := fun e w h => then_N (s12_12 (R := R) (Q := Q) hR e w h)
  refine seA ?_
  have hN : ∀ e w, (m12_22 R (e 4) (e 7) (e 8) (e 14) (e 17) (e 136) w) → (thenE (W12 k12_22 (thenE (W12 k12_12 Q) Q)) (thenE (W12 k12_12 Q) Q)) .normal e w := fun e w h => then_N (s12_22 (R := R) (Q := (thenE (W12 k12_12 Q) Q)) hN e w h)
  exact rgA 23 (fun e w => m12_22 R (e 4) (e 7) (e 8) (e 14) (e 17) (e 136) w) h hN
theorem s12_24 {R : VP} {Q : EQ} (hN : ∀ e w, (m12_11 R (e 4) (e 7) (e 8) (e 14) (e 17) w) → Q .normal e w) (e : Env) (w : World) (h : m12_24 R (e 4) (e 5) (e 7) (e 8) (e 17) w) : W12 k12_24 Q e w := by
  unfold m12_24 at h
  exact rgA 22 (fun e w => m12_11 R (e 4) (e 7) (e 8) (e 14) (e 17) w) h hN
theorem s12_23 {R : VP} {Q : EQ} (hN : ∀ e w, (m12_11 R (e 4) (e 7) (e 8) (e 14) (e 17) w) → Q .normal e w) (e : Env) (w : World) (h : m12_23 R (e 4) (e 5) (e 7) (e 8) (e 14) (e 17) (e 125) w) : W12 k12_23 Q e w := by
  unfold m12_23 at h
  refine coA (Operand.tmp 125) h (fun h1 => ?_) (fun h1 => ?_)
  · refine seA ?_
    have hN : ∀ e w, (m12_24 R (e 4) (e 5) (e 7) (e 8) (e 17) w) → (thenE (W12 k12_24 Q) Q) .normal e w := fun e w h => then_N (s12_24 (R := R) (Q := Q) hN e w h)
    exact rgA 21 (fun e w => m12_24 R (e 4) (e 5) (e 7) (e 8) (e 17) w) h1 hN
  · exact skA (hN _ _ h1)
theorem s12_10 {R : VP} {Q : EQ} (hR : ∀ e w, (valS Try.prog (loadC 26 (e 8)) w fun r0 =>
R (Value.tuple #[r0, (e 9), (e 10)]) w) → Q .ret e w) (e : Env) (w : World) (h : m12_10 R (e 4) (e 5) (e 7) (e 8) (e 13) (e 14) (e 17) w) : W12 k12_10 Q e w := by
  unfold m12_10 at h
  refine seA ?_
  have hN : ∀ e w, (m12_11 R (e 4) (e 7) (e 8) (e 14) (e 17) w) → (thenE (W12 k12_11 Q) Q) .normal e w := fun e w h => then_N (s12_11 (R := R) (Q := Q) hR e w h)
  refine seA ?_
  have hN : ∀ e w, (m12_23 R (e 4) (e 5) (e 7) (e 8) (e 14) (e 17) (e 125) w) → (thenE (W12 k12_23 (thenE (W12 k12_11 Q) Q)) (thenE (W12 k12_11 Q) Q)) .normal e w := fun e w h => then_N (s12_23 (R := R) (Q := (thenE (W12 k12_11 Q) Q)) hN e w h)
  exact rgA 20 (fun e w => m12_23 R (e 4) (e 5) (e 7) (e 8) (e 14) (e 17) (e 125) w) h hN
theorem s12_9 {R : VP} {Q : EQ} (hR : ∀ e w, (valS Try.prog (loadC 26 (e 8)) w fun r0 =>
R (Value.tuple #[r0, (e 9), (e 10)]) w) → Q .ret e w) (e : Env) (w : World) (h : m12_9 R (e 4) (e 5) (e 7) (e 8) (e 13) (e 14) w) : W12 k12_9 Q e w := by
  unfold m12_9 at h
  refine seA ?_
  have hN : ∀ e w, (m12_10 R (e 4) (e 5) (e 7) (e 8) (e 13) (e 14) (e 17) w) → (thenE (W12 k12_10 Q) Q) .normal e w := fun e w h => then_N (s12_10 (R := R) (Q := Q) hR e w h)
  exact rgA 19 (fun e w => m12_10 R (e 4) (e 5) (e 7) (e 8) (e 13) (e 14) (e 17) w) h hN
theorem s12_8 {R : VP} {Q : EQ} (hR : ∀ e w, (valS Try.prog (loadC 26 (e 8)) w fun r0 =>
R (Value.tuple #[r0, (e 9), (e 10)]) w) → Q .ret e w) (e : Env) (w : World) (h : m12_8 R (e 4) (e 5) (e 7) (e 8) (e 13) (e 14) w) : W12 k12_8 Q e w := by
  unfold m12_8 at h
  refine seA ?_
  have hN : ∀ e w, (m12_9 R (e 4) (e 5) (e 7) (e 8) (e 13) (e 14) w) → (thenE (W12 k12_9 Q) Q) .normal e w := fun e w h => then_N (s12_9 (R := R) (Q := Q) hR e w h)
  exact rgA 18 (fun e w => m12_9 R (e 4) (e 5) (e 7) (e 8) (e 13) (e 14) w) h hN
theorem s12_37 {R : VP} {K1 : (Value × Value) → World → Prop} {Q : EQ} (hN : ∀ e w, (m12_27 R K1 (e 4) (e 5) (e 7) (e 8) (e 12) (e 13) (e 14) (e 15) w) → Q .normal e w) (hX0 : ∀ e w, (m12_8 R (e 4) (e 5) (e 7) (e 8) (e 13) (e 14) w) → Q (.exit 0) e w) (e : Env) (w : World) (h : m12_37 R K1 (e 4) (e 5) (e 7) (e 8) (e 12) (e 13) (e 14) (e 15) (e 57) w) : W12 k12_37 Q e w := by
  unfold m12_37 at h
  refine coA (Operand.tmp 57) h (fun h1 => ?_) (fun h1 => ?_)
  · exact skA (hN _ _ h1)
  · exact exA 0 (hX0 _ _ h1)
theorem s12_26 {R : VP} {K1 : (Value × Value) → World → Prop} {Q : EQ} (hN : ∀ e w, (K1 ((e 14), (e 15)) w) → Q .normal e w) (hX0 : ∀ e w, (m12_8 R (e 4) (e 5) (e 7) (e 8) (e 13) (e 14) w) → Q (.exit 0) e w) (e : Env) (w : World) (h : m12_26 R K1 (e 4) (e 5) (e 7) (e 8) (e 12) (e 13) (e 14) (e 15) w) : W12 k12_26 Q e w := by
  unfold m12_26 at h
  refine seA ?_
  have hN : ∀ e w, (m12_27 R K1 (e 4) (e 5) (e 7) (e 8) (e 12) (e 13) (e 14) (e 15) w) → (thenE (W12 k12_27 Q) Q) .normal e w := fun e w h => then_N (s12_27 (R := R) (Q := Q) (K1 := K1) hN e w h)
  have hX0 : ∀ e w, (m12_8 R (e 4) (e 5) (e 7) (e 8) (e 13) (e 14) w) → (thenE (W12 k12_27 Q) Q) (.exit 0) e w := fun e w h => then_X (hX0 e w h)
  refine seA ?_
  have hN : ∀ e w, (m12_37 R K1 (e 4) (e 5) (e 7) (e 8) (e 12) (e 13) (e 14) (e 15) (e 57) w) → (thenE (W12 k12_37 (thenE (W12 k12_27 Q) Q)) (thenE (W12 k12_27 Q) Q)) .normal e w := fun e w h => then_N (s12_37 (R := R) (Q := (thenE (W12 k12_27 Q) Q)) (K1 := K1) hN hX0 e w h)
  exact rgA 10 (fun e w => m12_37 R K1 (e 4) (e 5) (e 7) (e 8) (e 12) (e 13) (e 14) (e 15) (e 57) w) h hN
theorem s12_25 {R : VP} {Q : EQ} (hN : ∀ e w, (m12_8 R (e 4) (e 5) (e 7) (e 8) (e 13) (e 14) w) → Q .normal e w) (e : Env) (w : World) (h : m12_25 R (e 4) (e 5) (e 7) (e 8) (e 12) (e 13) (e 14) (e 15) w) : W12 k12_25 Q e w := by
  unfold m12_25 at h
  refine block_ok 0 (by kernel_rfl) ?_
  have hX0 : ∀ e w, (m12_8 R (e 4) (e 5) (e 7) (e 8) (e 13) (e 14) w) → (inBlockE 0 Q) (.exit 0) e w := fun e w h => inBlock_same (Q := Q) 0 (hN e w h)
  refine loop_ok' (fun (e : Env) => (e 14, e 15)) [4, 5, 7, 8, 12, 13] (by kernel_rfl) (by kernel_rfl) h (fun K e' w' hk h' => ?_)
  have r4 : e' 4 = e 4 := hk 4 (by decide)
  have r5 : e' 5 = e 5 := hk 5 (by decide)
  have r7 : e' 7 = e 7 := hk 7 (by decide)
  have r8 : e' 8 = e 8 := hk 8 (by decide)
  have r12 : e' 12 = e 12 := hk 12 (by decide)
  have r13 : e' 13 = e 13 := hk 13 (by decide)
  have hX0 : ∀ e w, (m12_8 R (e 4) (e 5) (e 7) (e 8) (e 13) (e 14) w) → (thenE (fun (e : Env) w => K ((e 14), (e 15)) w) (inBlockE 0 Q)) (.exit 0) e w := fun e w h => then_X (hX0 e w h)
  exact s12_26 (R := R) (Q := (thenE (fun (e : Env) w => K ((e 14), (e 15)) w) (inBlockE 0 Q))) (K1 := K) (fun _ _ h => then_N h) hX0 e' w' (by rw [r4, r5, r7, r8, r12, r13]; exact h')
theorem s12_7 {R : VP} {Q : EQ} (hR : ∀ e w, (valS Try.prog (loadC 26 (e 8)) w fun r0 =>
R (Value.tuple #[r0, (e 9), (e 10)]) w) → Q .ret e w) (e : Env) (w : World) (h : m12_7 R (e 4) (e 5) (e 7) (e 8) (e 12) (e 13) (e 14) w) : W12 k12_7 Q e w := by
  unfold m12_7 at h
  refine seA ?_
  have hN : ∀ e w, (m12_8 R (e 4) (e 5) (e 7) (e 8) (e 13) (e 14) w) → (thenE (W12 k12_8 Q) Q) .normal e w := fun e w h => then_N (s12_8 (R := R) (Q := Q) hR e w h)
  refine seA ?_
  have hN : ∀ e w, (m12_25 R (e 4) (e 5) (e 7) (e 8) (e 12) (e 13) (e 14) (e 15) w) → (thenE (W12 k12_25 (thenE (W12 k12_8 Q) Q)) (thenE (W12 k12_8 Q) Q)) .normal e w := fun e w h => then_N (s12_25 (R := R) (Q := (thenE (W12 k12_8 Q) Q)) hN e w h)
  exact rgA 9 (fun e w => m12_25 R (e 4) (e 5) (e 7) (e 8) (e 12) (e 13) (e 14) (e 15) w) h hN
theorem s12_6 {R : VP} {Q : EQ} (hR : ∀ e w, (valS Try.prog (loadC 26 (e 8)) w fun r0 =>
R (Value.tuple #[r0, (e 9), (e 10)]) w) → Q .ret e w) (e : Env) (w : World) (h : m12_6 R (e 4) (e 5) (e 7) (e 8) (e 12) (e 13) w) : W12 k12_6 Q e w := by
  unfold m12_6 at h
  refine seA ?_
  have hN : ∀ e w, (m12_7 R (e 4) (e 5) (e 7) (e 8) (e 12) (e 13) (e 14) w) → (thenE (W12 k12_7 Q) Q) .normal e w := fun e w h => then_N (s12_7 (R := R) (Q := Q) hR e w h)
  exact rgA 8 (fun e w => m12_7 R (e 4) (e 5) (e 7) (e 8) (e 12) (e 13) (e 14) w) h hN
theorem s12_5 {R : VP} {Q : EQ} (hR : ∀ e w, (valS Try.prog (loadC 26 (e 8)) w fun r0 =>
R (Value.tuple #[r0, (e 9), (e 10)]) w) → Q .ret e w) (e : Env) (w : World) (h : m12_5 R (e 4) (e 5) (e 7) (e 8) (e 12) w) : W12 k12_5 Q e w := by
  unfold m12_5 at h
  refine seA ?_
  have hN : ∀ e w, (m12_6 R (e 4) (e 5) (e 7) (e 8) (e 12) (e 13) w) → (thenE (W12 k12_6 Q) Q) .normal e w := fun e w h => then_N (s12_6 (R := R) (Q := Q) hR e w h)
  exact rgA 7 (fun e w => m12_6 R (e 4) (e 5) (e 7) (e 8) (e 12) (e 13) w) h hN
theorem s12_4 {R : VP} {Q : EQ} (hR : ∀ e w, (valS Try.prog (loadC 26 (e 8)) w fun r0 =>
R (Value.tuple #[r0, (e 9), (e 10)]) w) → Q .ret e w) (e : Env) (w : World) (h : m12_4 R (e 2) (e 4) (e 5) (e 7) (e 8) w) : W12 k12_4 Q e w := by
  unfold m12_4 at h
  refine seA ?_
  have hN : ∀ e w, (m12_5 R (e 4) (e 5) (e 7) (e 8) (e 12) w) → (thenE (W12 k12_5 Q) Q) .normal e w := fun e w h => then_N (s12_5 (R := R) (Q := Q) hR e w h)
  exact rgA 6 (fun e w => m12_5 R (e 4) (e 5) (e 7) (e 8) (e 12) w) h hN
theorem s12_38 {R : VP} {Q : EQ} (hN : ∀ e w, (m12_4 R (e 2) (e 4) (e 5) (e 7) (e 8) w) → Q .normal e w) (hR : ∀ e w, (valS Try.prog (loadC 26 (e 8)) w fun r0 =>
R (Value.tuple #[r0, (e 9), (e 10)]) w) → Q .ret e w) (e : Env) (w : World) (h : m12_38 R (e 2) (e 4) (e 5) (e 7) (e 8) (e 11) (e 46) w) : W12 k12_38 Q e w := by
  unfold m12_38 at h
  refine coA (Operand.tmp 46) h (fun h1 => ?_) (fun h1 => ?_)
  · refine seA ?_
    have hN : ∀ e w, (m12_39 R (e 8) (e 9) (e 10) w) → (thenE (W12 k12_39 Q) Q) .normal e w := fun e w h => then_N (s12_39 (R := R) (Q := Q) hR e w h)
    exact rgA 5 (fun e w => m12_39 R (e 8) (e 9) (e 10) w) h1 hN
  · exact skA (hN _ _ h1)
theorem s12_3 {R : VP} {Q : EQ} (hR : ∀ e w, (valS Try.prog (loadC 26 (e 8)) w fun r0 =>
R (Value.tuple #[r0, (e 9), (e 10)]) w) → Q .ret e w) (e : Env) (w : World) (h : m12_3 R (e 2) (e 4) (e 5) (e 7) (e 8) (e 11) w) : W12 k12_3 Q e w := by
  unfold m12_3 at h
  refine seA ?_
  have hN : ∀ e w, (m12_4 R (e 2) (e 4) (e 5) (e 7) (e 8) w) → (thenE (W12 k12_4 Q) Q) .normal e w := fun e w h => then_N (s12_4 (R := R) (Q := Q) hR e w h)
  have hR : ∀ e w, (valS Try.prog (loadC 26 (e 8)) w fun r0 =>
  R (Value.tuple #[r0, (e 9), (e 10)]) w) → (thenE (W12 k12_4 Q) Q) .ret e w := fun e w h => then_R (hR e w h)
  refine seA ?_
  have hN : ∀ e w, (m12_38 R (e 2) (e 4) (e 5) (e 7) (e 8) (e 11) (e 46) w) → (thenE (W12 k12_38 (thenE (W12 k12_4 Q) Q)) (thenE (W12 k12_4 Q) Q)) .normal e w := fun e w h => then_N (s12_38 (R := R) (Q := (thenE (W12 k12_4 Q) Q)) hN hR e w h)
  exact rgA 4 (fun e w => m12_38 R (e 2) (e 4) (e 5) (e 7) (e 8) (e 11) (e 46) w) h hN
theorem s12_40 {R : VP} {Q : EQ} (hN : ∀ e w, (m12_3 R (e 2) (e 4) (e 5) (e 7) (e 8) (e 11) w) → Q .normal e w) (hR : ∀ e w, (valS Try.prog (loadC 26 (e 8)) w fun r0 =>
R (Value.tuple #[r0, (e 9), (e 10)]) w) → Q .ret e w) (e : Env) (w : World) (h : m12_40 R (e 2) (e 4) (e 5) (e 7) (e 8) (e 11) (e 42) w) : W12 k12_40 Q e w := by
  unfold m12_40 at h
  refine coA (Operand.tmp 42) h (fun h1 => ?_) (fun h1 => ?_)
  · refine seA ?_
    have hN : ∀ e w, (m12_41 R (e 8) (e 9) (e 10) w) → (thenE (W12 k12_41 Q) Q) .normal e w := fun e w h => then_N (s12_41 (R := R) (Q := Q) hR e w h)
    exact rgA 3 (fun e w => m12_41 R (e 8) (e 9) (e 10) w) h1 hN
  · exact skA (hN _ _ h1)
theorem s12_2 {R : VP} {Q : EQ} (hR : ∀ e w, (valS Try.prog (loadC 26 (e 8)) w fun r0 =>
R (Value.tuple #[r0, (e 9), (e 10)]) w) → Q .ret e w) (e : Env) (w : World) (h : m12_2 R (e 2) (e 4) (e 5) (e 7) (e 8) (e 11) w) : W12 k12_2 Q e w := by
  unfold m12_2 at h
  refine seA ?_
  have hN : ∀ e w, (m12_3 R (e 2) (e 4) (e 5) (e 7) (e 8) (e 11) w) → (thenE (W12 k12_3 Q) Q) .normal e w := fun e w h => then_N (s12_3 (R := R) (Q := Q) hR e w h)
  have hR : ∀ e w, (valS Try.prog (loadC 26 (e 8)) w fun r0 =>
  R (Value.tuple #[r0, (e 9), (e 10)]) w) → (thenE (W12 k12_3 Q) Q) .ret e w := fun e w h => then_R (hR e w h)
  refine seA ?_
  have hN : ∀ e w, (m12_40 R (e 2) (e 4) (e 5) (e 7) (e 8) (e 11) (e 42) w) → (thenE (W12 k12_40 (thenE (W12 k12_3 Q) Q)) (thenE (W12 k12_3 Q) Q)) .normal e w := fun e w h => then_N (s12_40 (R := R) (Q := (thenE (W12 k12_3 Q) Q)) hN hR e w h)
  exact rgK 2 (fun e w => m12_40 R (e 2) (e 4) (e 5) (e 7) (e 8) (e 11) (e 42) w) h hN
theorem s12_1 {R : VP} {Q : EQ} (hR : ∀ e w, (valS Try.prog (loadC 26 (e 8)) w fun r0 =>
R (Value.tuple #[r0, (e 9), (e 10)]) w) → Q .ret e w) (e : Env) (w : World) (h : m12_1 R (e 2) (e 4) (e 5) (e 7) (e 8) w) : W12 k12_1 Q e w := by
  unfold m12_1 at h
  refine seA ?_
  have hN : ∀ e w, (m12_2 R (e 2) (e 4) (e 5) (e 7) (e 8) (e 11) w) → (thenE (W12 k12_2 Q) Q) .normal e w := fun e w h => then_N (s12_2 (R := R) (Q := Q) hR e w h)
  exact rgA 1 (fun e w => m12_2 R (e 2) (e 4) (e 5) (e 7) (e 8) (e 11) w) h hN
theorem s12_0 {R : VP} {Q : EQ} (hR : ∀ e w, (valS Try.prog (loadC 26 (e 8)) w fun r0 =>
R (Value.tuple #[r0, (e 9), (e 10)]) w) → Q .ret e w) (e : Env) (w : World) (h : m12_0 R (e 0) (e 1) (e 2) (e 3) w) : W12 k12_0 Q e w := by
  unfold m12_0 at h
  refine seA ?_
  have hN : ∀ e w, (m12_1 R (e 2) (e 4) (e 5) (e 7) (e 8) w) → (thenE (W12 k12_1 Q) Q) .normal e w := fun e w h => then_N (s12_1 (R := R) (Q := Q) hR e w h)
  exact rgA 0 (fun e w => m12_1 R (e 2) (e 4) (e 5) (e 7) (e 8) w) h hN
abbrev m12 (R : VP) (g0 f1 key2 e3 : Value) (w : World) : Prop := m12_0 R g0 f1 key2 e3 w
theorem s12 (g0 f1 key2 e3 : Value) {R : VP} {w : World} (h : m12 R g0 f1 key2 e3 w) :
    Calls Try.prog 12 #[g0, f1, key2, e3] w fun e w' => ∃ v, e = .returned v ∧ R v w' :=
  calls_of_cwp (st := (fun i => cond (Nat.beq i 17) 13 (cond (Nat.beq i 12) 9 (0)))) (c := k12_0) (by kernel_rfl) Try.func12 (by kernel_rfl) (Nat.le_of_ble_eq_true (by kernel_rfl)) (by kernel_rfl)
    (s12_0 (R := R) (Q := endE Try.prog Try.f12 R) (fun e w h => kcast (by kernel_rfl) h) (argsE #[g0, f1, key2, e3]) w (kcast (by kernel_rfl) h))
/-! ### headgate/headgatelaw28.Some -/
def m17_5 (R : VP) (t2 : Value) (w : World) : Prop :=
  R t2 w
def m17_3 (R : VP) (t2 : Value) (w : World) : Prop :=
  R t2 w
def m17_2 (R : VP) (l0 : Value) (w : World) : Prop :=
  m17_3 R l0 w
def m17_4 (R : VP) (l0 t5 : Value) (w : World) : Prop :=
  condP t5
  (valP Try.prog (Instr.sliceAt 44 l0 none (some (Value.int IntKind.i64 100)) none) w fun t7 w =>
  m17_5 R t7 w)
  (m17_2 R l0 w)
def m17_1 (R : VP) (l0 : Value) (w : World) : Prop :=
  builtinP Try.prog Builtin.len #[44] 3 #[false] #[l0] w fun t4 w =>
  valP Try.prog (binS BinOp.gtr 3 (Operand.tmp 4) (Operand.const (Value.int IntKind.i64 100)) t4 (Value.int IntKind.i64 100)) w fun t5 w =>
  m17_4 R l0 t5 w
def m17_0 (R : VP) (l0 : Value) (w : World) : Prop :=
  m17_1 R l0 w
abbrev W17 := cwp Try.prog (fun i => 0)
noncomputable def k17_0 : Code := (bodyOf Try.f17)
noncomputable def k17_1 : Code := (c2 k17_0)
noncomputable def k17_2 : Code := (c2 k17_1)
noncomputable def k17_3 : Code := (c2 k17_2)
noncomputable def k17_4 : Code := (c2 (c1 k17_1))
noncomputable def k17_5 : Code := (c2 (c1 k17_4))
theorem s17_5 {R : VP} {Q : EQ} (hR : ∀ e w, (R (e 2) w) → Q .ret e w) (e : Env) (w : World) (h : m17_5 R (e 2) w) : W17 k17_5 Q e w := by
  unfold m17_5 at h
  exact reA (hR _ _ h)
theorem s17_3 {R : VP} {Q : EQ} (hR : ∀ e w, (R (e 2) w) → Q .ret e w) (e : Env) (w : World) (h : m17_3 R (e 2) w) : W17 k17_3 Q e w := by
  unfold m17_3 at h
  exact reA (hR _ _ h)
theorem s17_2 {R : VP} {Q : EQ} (hR : ∀ e w, (R (e 2) w) → Q .ret e w) (e : Env) (w : World) (h : m17_2 R (e 0) w) : W17 k17_2 Q e w := by
  unfold m17_2 at h
  refine seA ?_
  have hN : ∀ e w, (m17_3 R (e 2) w) → (thenE (W17 k17_3 Q) Q) .normal e w := fun e w h => then_N (s17_3 (R := R) (Q := Q) hR e w h)
  exact rgA 3 (fun e w => m17_3 R (e 2) w) h hN
theorem s17_4 {R : VP} {Q : EQ} (hN : ∀ e w, (m17_2 R (e 0) w) → Q .normal e w) (hR : ∀ e w, (R (e 2) w) → Q .ret e w) (e : Env) (w : World) (h : m17_4 R (e 0) (e 5) w) : W17 k17_4 Q e w := by
  unfold m17_4 at h
  refine coA (Operand.tmp 5) h (fun h1 => ?_) (fun h1 => ?_)
  · refine seA ?_
    have hN : ∀ e w, (m17_5 R (e 2) w) → (thenE (W17 k17_5 Q) Q) .normal e w := fun e w h => then_N (s17_5 (R := R) (Q := Q) hR e w h)
    exact rgA 2 (fun e w => m17_5 R (e 2) w) h1 hN
  · exact skA (hN _ _ h1)
theorem s17_1 {R : VP} {Q : EQ} (hR : ∀ e w, (R (e 2) w) → Q .ret e w) (e : Env) (w : World) (h : m17_1 R (e 0) w) : W17 k17_1 Q e w := by
  unfold m17_1 at h
  refine seA ?_
  have hN : ∀ e w, (m17_2 R (e 0) w) → (thenE (W17 k17_2 Q) Q) .normal e w := fun e w h => then_N (s17_2 (R := R) (Q := Q) hR e w h)
  have hR : ∀ e w, (R (e 2) w) → (thenE (W17 k17_2 Q) Q) .ret e w := fun e w h => then_R (hR e w h)
  refine seA ?_
  have hN : ∀ e w, (m17_4 R (e 0) (e 5) w) → (thenE (W17 k17_4 (thenE (W17 k17_2 Q) Q)) (thenE (W17 k17_2 Q) Q)) .normal e w := fun e w h => then_N (s17_4 (R := R) (Q := (thenE (W17 k17_2 Q) Q)) hN hR e w h)
  exact rgA 1 (fun e w => m17_4 R (e 0) (e 5) w) h hN
theorem s17_0 {R : VP} {Q : EQ} (hR : ∀ e w, (R (e 2) w) → Q .ret e w) (e : Env) (w : World) (h : m17_0 R (e 0) w) : W17 k17_0 Q e w := by
  unfold m17_0 at h
  refine seA ?_
  have hN : ∀ e w, (m17_1 R (e 0) w) → (thenE (W17 k17_1 Q) Q) .normal e w := fun e w h => then_N (s17_1 (R := R) (Q := Q) hR e w h)
  exact rgA 0 (fun e w => m17_1 R (e 0) w) h hN
abbrev m17 (R : VP) (l0 : Value) (w : World) : Prop := m17_0 R l0 w
theorem s17 (l0 : Value) {R : VP} {w : World} (h : m17 R l0 w) :
    Calls Try.prog 17 #[l0] w fun e w' => ∃ v, e = .returned v ∧ R v w' :=
  calls_of_cwp (st := (fun i => 0)) (c := k17_0) (by kernel_rfl) Try.func17 (by kernel_rfl) (Nat.le_of_ble_eq_true (by kernel_rfl)) (by kernel_rfl)
    (s17_0 (R := R) (Q := endE Try.prog Try.f17 R) (fun e w h => kcast (by kernel_rfl) h) (argsE #[l0]) w (kcast (by kernel_rfl) h))
/-! ### headgate/headgatelaw28.run -/
def m18_14 (R : VP) (K1 : (Value × Value) → World → Prop) (t4 t5 t6 : Value) (w : World) : Prop :=
  valS Try.prog (loadC 26 t4) w fun r0 =>
  R (Value.tuple #[r0, t5, t6]) w
def m18_9 (R : VP) (K1 : (Value × Value) → World → Prop) (l1 g2 t4 f7 all8 i9 : Value) (w : World) : Prop :=
  valP Try.prog (binS BinOp.add 3 (Operand.tmp 18) (Operand.const (Value.int IntKind.i64 1)) i9 (Value.int IntKind.i64 1)) w fun t19 w =>
  K1 (all8, t19) w
def m18_12 (R : VP) (K1 : (Value × Value) → World → Prop) (l1 g2 t4 f7 all8 i9 over11 : Value) (w : World) : Prop :=
  builtinP Try.prog Builtin.append #[24, 24] 24 #[false, false] #[all8, over11] w fun t44 w =>
  m18_9 R K1 l1 g2 t4 f7 t44 i9 w
def m18_11 (R : VP) (K1 : (Value × Value) → World → Prop) (l1 g2 t4 f7 all8 i9 next10 over11 : Value) (w : World) : Prop :=
  valP Try.prog (Instr.loadAt 26 next10) w fun t41 w =>
  unitP Try.prog (Instr.storeAt 26 f7 t41) w fun _ w =>
  m18_12 R K1 l1 g2 t4 f7 all8 i9 over11 w
def m18_13 (R : VP) (K1 : (Value × Value) → World → Prop) (l1 g2 t4 f7 all8 i9 next10 over11 e12 t38 : Value) (w : World) : Prop :=
  condP t38
  (valP Try.prog (Instr.build 26 #[]) w fun t39 w =>
  unitP Try.prog (Instr.storeAt 26 t4 t39) w fun _ w =>
  m18_14 R K1 t4 (Value.slice none 0 0) e12 w)
  (m18_11 R K1 l1 g2 t4 f7 all8 i9 next10 over11 w)
def m18_10 (R : VP) (K1 : (Value × Value) → World → Prop) (l1 g2 t4 f7 all8 i9 next10 over11 e12 : Value) (w : World) : Prop :=
  valP Try.prog (binS BinOp.neq 34 (Operand.tmp 37) (Operand.const (Value.int IntKind.i64 0)) e12 (Value.int IntKind.i64 0)) w fun t38 w =>
  m18_13 R K1 l1 g2 t4 f7 all8 i9 next10 over11 e12 t38 w
def m18_8 (R : VP) (K1 : (Value × Value) → World → Prop) (l1 g2 t4 f7 all8 i9 : Value) (w : World) : Prop :=
  anyDraw w fun w =>
  heldP w fun J =>
  valJ Try.prog J (Instr.loadAt 23 g2) fun t21 =>
  valJ Try.prog J (Instr.loadAt 26 f7) fun t22 =>
  valJ Try.prog J (Instr.indexAt 44 l1 i9) fun t25 =>
  valJ Try.prog J (Instr.fieldAt 54 t25 0) fun t26 =>
  valJ Try.prog J (Instr.loadAt 3 t26) fun t27 =>
  valJ Try.prog J (Instr.indexAt 44 l1 i9) fun t30 =>
  valJ Try.prog J (Instr.fieldAt 54 t30 1) fun t31 =>
  valJ Try.prog J (Instr.loadAt 28 t31) fun t32 =>
  (callP Try.prog (fnV 11) #[t21, t22, t27, t32] w fun t33 w =>
  stayP J w
  (valJ Try.prog J (Instr.extract t33 0) fun t34 =>
  valJ Try.prog J (Instr.extract t33 1) fun t35 =>
  valJ Try.prog J (Instr.extract t33 2) fun t36 =>
  valP Try.prog (Instr.alloc 26 true (.tuple #[])) w fun next10 w =>
  stayP J w
  (unitP Try.prog (Instr.storeAt 26 next10 t34) w fun _ w =>
  stayP J w
  (m18_10 R K1 l1 g2 t4 f7 all8 i9 next10 t35 t36 w)))) ∧ (valP Try.prog (Instr.alloc 26 true (.tuple #[])) w fun next10 w =>
  stayP J w
  (callP Try.prog (fnV 11) #[t21, t22, t27, t32] w fun t33 w =>
  stayP J w
  (valJ Try.prog J (Instr.extract t33 0) fun t34 =>
  valJ Try.prog J (Instr.extract t33 1) fun t35 =>
  valJ Try.prog J (Instr.extract t33 2) fun t36 =>
  unitP Try.prog (Instr.storeAt 26 next10 t34) w fun _ w =>
  stayP J w
  (m18_10 R K1 l1 g2 t4 f7 all8 i9 next10 t35 t36 w))))
def m18_5 (R : VP) (t4 t5 t6 : Value) (w : World) : Prop :=
  valS Try.prog (loadC 26 t4) w fun r0 =>
  R (Value.tuple #[r0, t5, t6]) w
def m18_4 (R : VP) (t4 f7 all8 : Value) (w : World) : Prop :=
  valP Try.prog (Instr.loadAt 26 f7) w fun t45 w =>
  unitP Try.prog (Instr.storeAt 26 t4 t45) w fun _ w =>
  m18_5 R t4 all8 (Value.int IntKind.i64 0) w
def m18_15 (R : VP) (K1 : (Value × Value) → World → Prop) (l1 g2 t4 f7 all8 i9 t17 : Value) (w : World) : Prop :=
  condP t17
  (m18_8 R K1 l1 g2 t4 f7 all8 i9 w)
  (m18_4 R t4 f7 all8 w)
def m18_7 (R : VP) (K1 : (Value × Value) → World → Prop) (l1 g2 t4 f7 all8 i9 : Value) (w : World) : Prop :=
  builtinP Try.prog Builtin.len #[44] 3 #[false] #[l1] w fun t16 w =>
  valP Try.prog (binS BinOp.lss 3 (Operand.tmp 14) (Operand.tmp 16) i9 t16) w fun t17 w =>
  m18_15 R K1 l1 g2 t4 f7 all8 i9 t17 w
def m18_6 (R : VP) (l1 g2 t4 f7 all8 i9 : Value) (w : World) : Prop :=
  loopP (fun (K1 : (Value × Value) → World → Prop) (s : Value × Value) w => m18_7 R K1 l1 g2 t4 f7 s.1 s.2 w) (all8, i9) w
def m18_3 (R : VP) (l1 g2 t4 f7 all8 : Value) (w : World) : Prop :=
  m18_6 R l1 g2 t4 f7 all8 (Value.int IntKind.i64 0) w
def m18_2 (R : VP) (l1 g2 t4 f7 : Value) (w : World) : Prop :=
  m18_3 R l1 g2 t4 f7 (Value.slice none 0 0) w
def m18_1 (R : VP) (l1 g2 t4 : Value) (w : World) : Prop :=
  callP Try.prog (fnV 39) #[] w fun t13 w =>
  valP Try.prog (Instr.alloc 26 true (.tuple #[])) w fun f7 w =>
  unitP Try.prog (Instr.storeAt 26 f7 t13) w fun _ w =>
  m18_2 R l1 g2 t4 f7 w
def m18_0 (R : VP) (g0 l1 : Value) (w : World) : Prop :=
  valP Try.prog (Instr.box 23 g0) w fun g2 w =>
  valP Try.prog (Instr.alloc 26 true (.tuple #[])) w fun t4 w =>
  m18_1 R l1 g2 t4 w
abbrev W18 := cwp Try.prog (fun i => 0)
noncomputable def k18_0 : Code := (bodyOf Try.f18)
noncomputable def k18_1 : Code := (c2 k18_0)
noncomputable def k18_2 : Code := (c2 k18_1)
noncomputable def k18_3 : Code := (c2 k18_2)
noncomputable def k18_4 : Code := (c2 k18_3)
noncomputable def k18_5 : Code := (c2 k18_4)
noncomputable def k18_6 : Code := (c2 (c1 k18_3))
noncomputable def k18_7 : Code := (c1 (c1 k18_6))
noncomputable def k18_8 : Code := (c2 k18_7)
noncomputable def k18_9 : Code := (c2 k18_8)
noncomputable def k18_10 : Code := (c2 (c1 (c1 k18_8)))
noncomputable def k18_11 : Code := (c2 k18_10)
noncomputable def k18_12 : Code := (c2 k18_11)
noncomputable def k18_13 : Code := (c2 (c1 k18_10))
noncomputable def k18_14 : Code := (c2 (c1 k18_13))
noncomputable def k18_15 : Code := (c2 (c1 k18_7))
theorem s18_14 {R : VP} {K1 : (Value × Value) → World → Prop} {Q : EQ} (hR : ∀ e w, (valS Try.prog (loadC 26 (e 4)) w fun r0 =>
R (Value.tuple #[r0, (e 5), (e 6)]) w) → Q .ret e w) (e : Env) (w : World) (h : m18_14 R K1 (e 4) (e 5) (e 6) w) : W18 k18_14 Q e w := by
  unfold m18_14 at h
  exact reA (hR _ _ h)
theorem s18_9 {R : VP} {K1 : (Value × Value) → World → Prop} {Q : EQ} (hN : ∀ e w, (K1 ((e 8), (e 9)) w) → Q .normal e w) (e : Env) (w : World) (h : m18_9 R K1 (e 1) (e 2) (e 4) (e 7) (e 8) (e 9) w) : W18 k18_9 Q e w := by
  unfold m18_9 at h
  exact rgA 5 (fun e w => K1 ((e 8), (e 9)) w) h hN
theorem s18_12 {R : VP} {K1 : (Value × Value) → World → Prop} {Q : EQ} (hN : ∀ e w, (m18_9 R K1 (e 1) (e 2) (e 4) (e 7) (e 8) (e 9) w) → Q .normal e w) (e : Env) (w : World) (h : m18_12 R K1 (e 1) (e 2) (e 4) (e 7) (e 8) (e 9) (e 11) w) : W18 k18_12 Q e w := by
  unfold m18_12 at h
  exact rgA 10 (fun e w => m18_9 R K1 (e 1) (e 2) (e 4) (e 7) (e 8) (e 9) w) h hN
theorem s18_11 {R : VP} {K1 : (Value × Value) → World → Prop} {Q : EQ} (hN : ∀ e w, (m18_9 R K1 (e 1) (e 2) (e 4) (e 7) (e 8) (e 9) w) → Q .normal e w) (e : Env) (w : World) (h : m18_11 R K1 (e 1) (e 2) (e 4) (e 7) (e 8) (e 9) (e 10) (e 11) w) : W18 k18_11 Q e w := by
  unfold m18_11 at h
  refine seA ?_
  have hN : ∀ e w, (m18_12 R K1 (e 1) (e 2) (e 4) (e 7) (e 8) (e 9) (e 11) w) → (thenE (W18 k18_12 Q) Q) .normal e w := fun e w h => then_N (s18_12 (R := R) (Q := Q) (K1 := K1) hN e w h)
  exact rgA 9 (fun e w => m18_12 R K1 (e 1) (e 2) (e 4) (e 7) (e 8) (e 9) (e 11) w) h hN
theorem s18_13 {R : VP} {K1 : (Value × Value) → World → Prop} {Q : EQ} (hN : ∀ e w, (m18_11 R K1 (e 1) (e 2) (e 4) (e 7) (e 8) (e 9) (e 10) (e 11) w) → Q .normal e w) (hR : ∀ e w, (valS Try.prog (loadC 26 (e 4)) w fun r0 =>
R (Value.tuple #[r0, (e 5), (e 6)]) w) → Q .ret e w) (e : Env) (w : World) (h : m18_13 R K1 (e 1) (e 2) (e 4) (e 7) (e 8) (e 9) (e 10) (e 11) (e 12) (e 38) w) : W18 k18_13 Q e w := by
  unfold m18_13 at h
  refine coA (Operand.tmp 38) h (fun h1 => ?_) (fun h1 => ?_)
  · refine seA ?_
    have hN : ∀ e w, (m18_14 R K1 (e 4) (e 5) (e 6) w) → (thenE (W18 k18_14 Q) Q) .normal e w := fun e w h => then_N (s18_14 (R := R) (Q := Q) (K1 := K1) hR e w h)
    exact rgA 8 (fun e w => m18_14 R K1 (e 4) (e 5) (e 6) w) h1 hN
  · exact skA (hN _ _ h1)
theorem s18_10 {R : VP} {K1 : (Value × Value) → World → Prop} {Q : EQ} (hN : ∀ e w, (m18_9 R K1 (e 1) (e 2) (e 4) (e 7) (e 8) (e 9) w) → Q .normal e w) (hR : ∀ e w, (valS Try.prog (loadC 26 (e 4)) w fun r0 =>
R (Value.tuple #[r0, (e 5), (e 6)]) w) → Q .ret e w) (e : Env) (w : World) (h : m18_10 R K1 (e 1) (e 2) (e 4) (e 7) (e 8) (e 9) (e 10) (e 11) (e 12) w) : W18 k18_10 Q e w := by
  unfold m18_10 at h
  refine seA ?_
  have hN : ∀ e w, (m18_11 R K1 (e 1) (e 2) (e 4) (e 7) (e 8) (e 9) (e 10) (e 11) w) → (thenE (W18 k18_11 Q) Q) .normal e w := fun e w h => then_N (s18_11 (R := R) (Q := Q) (K1 := K1) hN e w h)
  have hR : ∀ e w, (valS Try.prog (loadC 26 (e 4)) w fun r0 =>
  R (Value.tuple #[r0, (e 5), (e 6)]) w) → (thenE (W18 k18_11 Q) Q) .ret e w := fun e w h => then_R (hR e w h)
  refine seA ?_
  have hN : ∀ e w, (m18_13 R K1 (e 1) (e 2) (e 4) (e 7) (e 8) (e 9) (e 10) (e 11) (e 12) (e 38) w) → (thenE (W18 k18_13 (thenE (W18 k18_11 Q) Q)) (thenE (W18 k18_11 Q) Q)) .normal e w := fun e w h => then_N (s18_13 (R := R) (Q := (thenE (W18 k18_11 Q) Q)) (K1 := K1) hN hR e w h)
  exact rgA 7 (fun e w => m18_13 R K1 (e 1) (e 2) (e 4) (e 7) (e 8) (e 9) (e 10) (e 11) (e 12) (e 38) w) h hN
theorem s18_8 {R : VP} {K1 : (Value × Value) → World → Prop} {Q : EQ} (hN : ∀ e w, (K1 ((e 8), (e 9)) w) → Q .normal e w) (hR : ∀ e w, (valS Try.prog (loadC 26 (e 4)) w fun r0 =>
R (Value.tuple #[r0, (e 5), (e 6)]) w) → Q .ret e w) (e : Env) (w : World) (h : m18_8 R K1 (e 1) (e 2) (e 4) (e 7) (e 8) (e 9) w) : W18 k18_8 Q e w := by
  unfold m18_8 at h
  refine seA ?_
  have hN : ∀ e w, (m18_9 R K1 (e 1) (e 2) (e 4) (e 7) (e 8) (e 9) w) → (thenE (W18 k18_9 Q) Q) .normal e w := fun e w h => then_N (s18_9 (R := R) (Q := Q) (K1 := K1) hN e w h)
  have hR : ∀ e w, (valS Try.prog (loadC 26 (e 4)) w fun r0 =>
  R (Value.tuple #[r0, (e 5), (e 6)]) w) → (thenE (W18 k18_9 Q) Q) .ret e w := fun e w h => then_R (hR e w h)
  refine block_ok 1 (by kernel_rfl) ?_
  have hN : ∀ e w, (m18_9 R K1 (e 1) (e 2) (e 4) (e 7) (e 8) (e 9) w) → (inBlockE 1 (thenE (W18 k18_9 Q) Q)) .normal e w := fun e w h => block_N (hN e w h)
  have hR : ∀ e w, (valS Try.prog (loadC 26 (e 4)) w fun r0 =>
  R (Value.tuple #[r0, (e 5), (e 6)]) w) → (inBlockE 1 (thenE (W18 k18_9 Q) Q)) .ret e w := fun e w h => block_R (hR e w h)
  refine seA ?_
  have hN : ∀ e w, (m18_10 R K1 (e 1) (e 2) (e 4) (e 7) (e 8) (e 9) (e 10) (e 11) (e 12) w) → (thenE (W18 k18_10 (inBlockE 1 (thenE (W18 k18_9 Q) Q))) (inBlockE 1 (thenE (W18 k18_9 Q) Q))) .normal e w := fun e w h => then_N (s18_10 (R := R) (Q := (inBlockE 1 (thenE (W18 k18_9 Q) Q))) (K1 := K1) hN hR e w h)
  exact treeJ_ok 6 21 [false, false, false, false, false, false, false, false, false, false, false, false, false, false, false, false, false, false, false, false, false] (.take 0 [true, false, false, false, false, false, false, false, false, false, false, false, false, false, false, false, false, false, false, false, false] (.take 1 [true, true, false, false, false, false, false, false, false, false, false, false, false, false, false, false, false, false, false, false, false] (.take 2 [true, true, true, false, false, false, false, false, false, false, false, false, false, false, false, false, false, false, false, false, false] (.take 3 [true, true, true, true, false, false, false, false, false, false, false, false, false, false, false, false, false, false, false, false, false] (.take 4 [true, true, true, true, true, false, false, false, false, false, false, false, false, false, false, false, false, false, false, false, false] (.take 5 [true, true, true, true, true, true, false, false, false, false, false, false, false, false, false, false, false, false, false, false, false] (.take 6 [true, true, true, true, true, true, true, false, false, false, false, false, false, false, false, false, false, false, false, false, false] (.take 7 [true, true, true, true, true, true, true, true, false, false, false, false, false, false, false, false, false, false, false, false, false] (.take 8 [true, true, true, true, true, true, true, true, true, false, false, false, false, false, false, false, false, false, false, false, false] (.take 9 [true, true, true, true, true, true, true, true, true, true, false, false, false, false, false, false, false, false, false, false, false] (.take 10 [true, true, true, true, true, true, true, true, true, true, true, false, false, false, false, false, false, false, false, false, false] (.take 11 [true, true, true, true, true, true, true, true, true, true, true, true, false, false, false, false, false, false, false, false, false] (.alt 12 [true, true, true, true, true, true, true, true, true, true, true, true, true, false, false, false, false, false, false, false, false] (.take 13 [true, true, true, true, true, true, true, true, true, true, true, true, true, true, false, false, false, false, false, false, false] (.take 14 [true, true, true, true, true, true, true, true, true, true, true, true, true, true, true, false, false, false, false, false, false] (.take 15 [true, true, true, true, true, true, true, true, true, true, true, true, true, true, true, true, false, false, false, false, false] (.take 16 [true, true, true, true, true, true, true, true, true, true, true, true, true, true, true, true, true, false, false, false, false] (.alt 17 [true, true, true, true, true, true, true, true, true, true, true, true, true, true, true, true, true, true, false, false, false] (.alt 18 [true, true, true, true, true, true, true, true, true, true, true, true, true, true, true, true, true, true, true, false, false] (.take 19 [true, true, true, true, true, true, true, true, true, true, true, true, true, true, true, true, true, true, true, true, false] (.take 20 [true, true, true, true, true, true, true, true, true, true, true, true, true, true, true, true, true, true, true, true, true] .done)) .stop) .stop))))) (.alt 17 [true, true, true, true, true, true, true, true, true, true, true, true, false, false, false, false, false, true, false, false, false] (.alt 12 [true, true, true, true, true, true, true, true, true, true, true, true, true, false, false, false, false, true, false, false, false] (.take 13 [true, true, true, true, true, true, true, true, true, true, true, true, true, true, false, false, false, true, false, false, false] (.take 14 [true, true, true, true, true, true, true, true, true, true, true, true, true, true, true, false, false, true, false, false, false] (.take 15 [true, true, true, true, true, true, true, true, true, true, true, true, true, true, true, true, false, true, false, false, false] (.take 16 [true, true, true, true, true, true, true, true, true, true, true, true, true, true, true, true, true, true, false, false, false] (.alt 18 [true, true, true, true, true, true, true, true, true, true, true, true, true, true, true, true, true, true, true, false, false] (.take 19 [true, true, true, true, true, true, true, true, true, true, true, true, true, true, true, true, true, true, true, true, false] (.take 20 [true, true, true, true, true, true, true, true, true, true, true, true, true, true, true, true, true, true, true, true, true] .done)) .stop))))) .stop) .stop)))))))))))))) (fun e w => m18_10 R K1 (e 1) (e 2) (e 4) (e 7) (e 8) (e 9) (e 10) (e 11) (e 12) w) (by kernel_rfl) (by kernel_rfl) (by kernel_rfl) (by kernel_rfl) (by kernel_rfl) (by kernel_rfl) (kcast (by kernel_rfl) h) hN (by kernel_rfl)
theorem s18_5 {R : VP} {Q : EQ} (hR : ∀ e w, (valS Try.prog (loadC 26 (e 4)) w fun r0 =>
R (Value.tuple #[r0, (e 5), (e 6)]) w) → Q .ret e w) (e : Env) (w : World) (h : m18_5 R (e 4) (e 5) (e 6) w) : W18 k18_5 Q e w := by
  unfold m18_5 at h
  exact reA (hR _ _ h)
theorem s18_4 {R : VP} {Q : EQ} (hR : ∀ e w, (valS Try.prog (loadC 26 (e 4)) w fun r0 =>
R (Value.tuple #[r0, (e 5), (e 6)]) w) → Q .ret e w) (e : Env) (w : World) (h : m18_4 R (e 4) (e 7) (e 8) w) : W18 k18_4 Q e w := by
  unfold m18_4 at h
  refine seA ?_
  have hN : ∀ e w, (m18_5 R (e 4) (e 5) (e 6) w) → (thenE (W18 k18_5 Q) Q) .normal e w := fun e w h => then_N (s18_5 (R := R) (Q := Q) hR e w h)
  exact rgA 11 (fun e w => m18_5 R (e 4) (e 5) (e 6) w) h hN
theorem s18_15 {R : VP} {K1 : (Value × Value) → World → Prop} {Q : EQ} (hN : ∀ e w, (m18_8 R K1 (e 1) (e 2) (e 4) (e 7) (e 8) (e 9) w) → Q .normal e w) (hX0 : ∀ e w, (m18_4 R (e 4) (e 7) (e 8) w) → Q (.exit 0) e w) (e : Env) (w : World) (h : m18_15 R K1 (e 1) (e 2) (e 4) (e 7) (e 8) (e 9) (e 17) w) : W18 k18_15 Q e w := by
  unfold m18_15 at h
  refine coA (Operand.tmp 17) h (fun h1 => ?_) (fun h1 => ?_)
  · exact skA (hN _ _ h1)
  · exact exA 0 (hX0 _ _ h1)
theorem s18_7 {R : VP} {K1 : (Value × Value) → World → Prop} {Q : EQ} (hN : ∀ e w, (K1 ((e 8), (e 9)) w) → Q .normal e w) (hR : ∀ e w, (valS Try.prog (loadC 26 (e 4)) w fun r0 =>
R (Value.tuple #[r0, (e 5), (e 6)]) w) → Q .ret e w) (hX0 : ∀ e w, (m18_4 R (e 4) (e 7) (e 8) w) → Q (.exit 0) e w) (e : Env) (w : World) (h : m18_7 R K1 (e 1) (e 2) (e 4) (e 7) (e 8) (e 9) w) : W18 k18_7 Q e w := by
  unfold m18_7 at h
  refine seA ?_
  have hN : ∀ e w, (m18_8 R K1 (e 1) (e 2) (e 4) (e 7) (e 8) (e 9) w) → (thenE (W18 k18_8 Q) Q) .normal e w := fun e w h => then_N (s18_8 (R := R) (Q := Q) (K1 := K1) hN hR e w h)
  have hX0 : ∀ e w, (m18_4 R (e 4) (e 7) (e 8) w) → (thenE (W18 k18_8 Q) Q) (.exit 0) e w := fun e w h => then_X (hX0 e w h)
  refine seA ?_
  have hN : ∀ e w, (m18_15 R K1 (e 1) (e 2) (e 4) (e 7) (e 8) (e 9) (e 17) w) → (thenE (W18 k18_15 (thenE (W18 k18_8 Q) Q)) (thenE (W18 k18_8 Q) Q)) .normal e w := fun e w h => then_N (s18_15 (R := R) (Q := (thenE (W18 k18_8 Q) Q)) (K1 := K1) hN hX0 e w h)
  exact rgA 4 (fun e w => m18_15 R K1 (e 1) (e 2) (e 4) (e 7) (e 8) (e 9) (e 17) w) h hN
theorem s18_6 {R : VP} {Q : EQ} (hN : ∀ e w, (m18_4 R (e 4) (e 7) (e 8) w) → Q .normal e w) (hR : ∀ e w, (valS Try.prog (loadC 26 (e 4)) w fun r0 =>
R (Value.tuple #[r0, (e 5), (e 6)]) w) → Q .ret e w) (e : Env) (w : World) (h : m18_6 R (e 1) (e 2) (e 4) (e 7) (e 8) (e 9) w) : W18 k18_6 Q e w := by
  unfold m18_6 at h
  refine block_ok 0 (by kernel_rfl) ?_
  have hX0 : ∀ e w, (m18_4 R (e 4) (e 7) (e 8) w) → (inBlockE 0 Q) (.exit 0) e w := fun e w h => inBlock_same (Q := Q) 0 (hN e w h)
  have hR : ∀ e w, (valS Try.prog (loadC 26 (e 4)) w fun r0 =>
  R (Value.tuple #[r0, (e 5), (e 6)]) w) → (inBlockE 0 Q) .ret e w := fun e w h => block_R (hR e w h)
  refine loop_ok' (fun (e : Env) => (e 8, e 9)) [1, 2, 4, 7] (by kernel_rfl) (by kernel_rfl) h (fun K e' w' hk h' => ?_)
  have r1 : e' 1 = e 1 := hk 1 (by decide)
  have r2 : e' 2 = e 2 := hk 2 (by decide)
  have r4 : e' 4 = e 4 := hk 4 (by decide)
  have r7 : e' 7 = e 7 := hk 7 (by decide)
  have hR : ∀ e w, (valS Try.prog (loadC 26 (e 4)) w fun r0 =>
  R (Value.tuple #[r0, (e 5), (e 6)]) w) → (thenE (fun (e : Env) w => K ((e 8), (e 9)) w) (inBlockE 0 Q)) .ret e w := fun e w h => then_R (hR e w h)
  have hX0 : ∀ e w, (m18_4 R (e 4) (e 7) (e 8) w) → (thenE (fun (e : Env) w => K ((e 8), (e 9)) w) (inBlockE 0 Q)) (.exit 0) e w := fun e w h => then_X (hX0 e w h)
  exact s18_7 (R := R) (Q := (thenE (fun (e : Env) w => K ((e 8), (e 9)) w) (inBlockE 0 Q))) (K1 := K) (fun _ _ h => then_N h) hR hX0 e' w' (by rw [r1, r2, r4, r7]; exact h')
theorem s18_3 {R : VP} {Q : EQ} (hR : ∀ e w, (valS Try.prog (loadC 26 (e 4)) w fun r0 =>
R (Value.tuple #[r0, (e 5), (e 6)]) w) → Q .ret e w) (e : Env) (w : World) (h : m18_3 R (e 1) (e 2) (e 4) (e 7) (e 8) w) : W18 k18_3 Q e w := by
  unfold m18_3 at h
  refine seA ?_
  have hN : ∀ e w, (m18_4 R (e 4) (e 7) (e 8) w) → (thenE (W18 k18_4 Q) Q) .normal e w := fun e w h => then_N (s18_4 (R := R) (Q := Q) hR e w h)
  have hR : ∀ e w, (valS Try.prog (loadC 26 (e 4)) w fun r0 =>
  R (Value.tuple #[r0, (e 5), (e 6)]) w) → (thenE (W18 k18_4 Q) Q) .ret e w := fun e w h => then_R (hR e w h)
  refine seA ?_
  have hN : ∀ e w, (m18_6 R (e 1) (e 2) (e 4) (e 7) (e 8) (e 9) w) → (thenE (W18 k18_6 (thenE (W18 k18_4 Q) Q)) (thenE (W18 k18_4 Q) Q)) .normal e w := fun e w h => then_N (s18_6 (R := R) (Q := (thenE (W18 k18_4 Q) Q)) hN hR e w h)
  exact rgA 3 (fun e w => m18_6 R (e 1) (e 2) (e 4) (e 7) (e 8) (e 9) w) h hN
theorem s18_2 {R : VP} {Q : EQ} (hR : ∀ e w, (valS Try.prog (loadC 26 (e 4)) w fun r0 =>
R (Value.tuple #[r0, (e 5), (e 6)]) w) → Q .ret e w) (e : Env) (w : World) (h : m18_2 R (e 1) (e 2) (e 4) (e 7) w) : W18 k18_2 Q e w := by
  unfold m18_2 at h
  refine seA ?_
  have hN : ∀ e w, (m18_3 R (e 1) (e 2) (e 4) (e 7) (e 8) w) → (thenE (W18 k18_3 Q) Q) .normal e w := fun e w h => then_N (s18_3 (R := R) (Q := Q) hR e w h)
  exact rgA 2 (fun e w => m18_3 R (e 1) (e 2) (e 4) (e 7) (e 8) w) h hN
theorem s18_1 {R : VP} {Q : EQ} (hR : ∀ e w, (valS Try.prog (loadC 26 (e 4)) w fun r0 =>
R (Value.tuple #[r0, (e 5), (e 6)]) w) → Q .ret e w) (e : Env) (w : World) (h : m18_1 R (e 1) (e 2) (e 4) w) : W18 k18_1 Q e w := by
  unfold m18_1 at h
  refine seA ?_
  have hN : ∀ e w, (m18_2 R (e 1) (e 2) (e 4) (e 7) w) → (thenE (W18 k18_2 Q) Q) .normal e w := fun e w h => then_N (s18_2 (R := R) (Q := Q) hR e w h)
  exact rgA 1 (fun e w => m18_2 R (e 1) (e 2) (e 4) (e 7) w) h hN
theorem s18_0 {R : VP} {Q : EQ} (hR : ∀ e w, (valS Try.prog (loadC 26 (e 4)) w fun r0 =>
R (Value.tuple #[r0, (e 5), (e 6)]) w) → Q .ret e w) (e : Env) (w : World) (h : m18_0 R (e 0) (e 1) w) : W18 k18_0 Q e w := by
  unfold m18_0 at h
  refine seA ?_
  have hN : ∀ e w, (m18_1 R (e 1) (e 2) (e 4) w) → (thenE (W18 k18_1 Q) Q) .normal e w := fun e w h => then_N (s18_1 (R := R) (Q := Q) hR e w h)
  exact rgA 0 (fun e w => m18_1 R (e 1) (e 2) (e 4) w) h hN
abbrev m18 (R : VP) (g0 l1 : Value) (w : World) : Prop := m18_0 R g0 l1 w
theorem s18 (g0 l1 : Value) {R : VP} {w : World} (h : m18 R g0 l1 w) :
    Calls Try.prog 18 #[g0, l1] w fun e w' => ∃ v, e = .returned v ∧ R v w' :=
  calls_of_cwp (st := (fun i => 0)) (c := k18_0) (by kernel_rfl) Try.func18 (by kernel_rfl) (Nat.le_of_ble_eq_true (by kernel_rfl)) (by kernel_rfl)
    (s18_0 (R := R) (Q := endE Try.prog Try.f18 R) (fun e w h => kcast (by kernel_rfl) h) (argsE #[g0, l1]) w (kcast (by kernel_rfl) h))
/-! ### headgate/headgatelaw28.light -/
def m9_8 (R : VP) (K1 : (Value × Value) → World → Prop) (f1 n3 i4 : Value) (w : World) : Prop :=
  valP Try.prog (binS BinOp.add 3 (Operand.tmp 14) (Operand.const (Value.int IntKind.i64 1)) i4 (Value.int IntKind.i64 1)) w fun t15 w =>
  K1 (n3, t15) w
def m9_7 (R : VP) (K1 : (Value × Value) → World → Prop) (f1 n3 i4 : Value) (w : World) : Prop :=
  valP Try.prog (Instr.fieldAt 26 f1 2) w fun t17 w =>
  valP Try.prog (Instr.loadAt 24 t17) w fun t18 w =>
  valP Try.prog (Instr.indexAt 24 t18 i4) w fun t20 w =>
  valP Try.prog (Instr.fieldAt 33 t20 1) w fun t21 w =>
  valP Try.prog (Instr.loadAt 31 t21) w fun t22 w =>
  builtinP Try.prog Builtin.len #[31] 3 #[false] #[t22] w fun t23 w =>
  builtinP Try.prog Builtin.min #[3, 3] 3 #[false, true] #[t23, (Value.int IntKind.i64 1000)] w fun t24 w =>
  valP Try.prog (binS BinOp.add 3 (Operand.tmp 16) (Operand.tmp 24) n3 t24) w fun t25 w =>
  m9_8 R K1 f1 t25 i4 w
def m9_4 (R : VP) (t2 : Value) (w : World) : Prop :=
  R t2 w
def m9_3 (R : VP) (f1 n3 : Value) (w : World) : Prop :=
  valP Try.prog (Instr.fieldAt 26 f1 2) w fun t26 w =>
  valP Try.prog (Instr.loadAt 24 t26) w fun t27 w =>
  builtinP Try.prog Builtin.len #[24] 3 #[false] #[t27] w fun t28 w =>
  valP Try.prog (binS BinOp.leq 3 (Operand.tmp 28) (Operand.const (Value.int IntKind.i64 70)) t28 (Value.int IntKind.i64 70)) w fun t29 w =>
  condP t29
  (valP Try.prog (binS BinOp.leq 3 (Operand.tmp 31) (Operand.const (Value.int IntKind.i64 2000)) n3 (Value.int IntKind.i64 2000)) w fun t32 w =>
  pickP t29 t32 (Value.bool false) fun t33 =>
  m9_4 R t33 w)
  (pickP t29 undef (Value.bool false) fun t33 =>
  m9_4 R t33 w)
def m9_9 (R : VP) (K1 : (Value × Value) → World → Prop) (f1 n3 i4 t13 : Value) (w : World) : Prop :=
  condP t13
  (m9_7 R K1 f1 n3 i4 w)
  (m9_3 R f1 n3 w)
def m9_6 (R : VP) (K1 : (Value × Value) → World → Prop) (f1 n3 i4 : Value) (w : World) : Prop :=
  valP Try.prog (Instr.fieldAt 26 f1 2) w fun t6 w =>
  valP Try.prog (Instr.loadAt 24 t6) w fun t7 w =>
  builtinP Try.prog Builtin.len #[24] 3 #[false] #[t7] w fun t8 w =>
  valP Try.prog (binS BinOp.lss 3 (Operand.tmp 5) (Operand.tmp 8) i4 t8) w fun t9 w =>
  condP t9
  (valP Try.prog (binS BinOp.lss 3 (Operand.tmp 11) (Operand.const (Value.int IntKind.i64 80)) i4 (Value.int IntKind.i64 80)) w fun t12 w =>
  pickP t9 t12 (Value.bool false) fun t13 =>
  m9_9 R K1 f1 n3 i4 t13 w)
  (pickP t9 undef (Value.bool false) fun t13 =>
  m9_9 R K1 f1 n3 i4 t13 w)
def m9_5 (R : VP) (f1 n3 i4 : Value) (w : World) : Prop :=
  loopP (fun (K1 : (Value × Value) → World → Prop) (s : Value × Value) w => m9_6 R K1 f1 s.1 s.2 w) (n3, i4) w
def m9_2 (R : VP) (f1 n3 : Value) (w : World) : Prop :=
  m9_5 R f1 n3 (Value.int IntKind.i64 0) w
def m9_1 (R : VP) (f1 : Value) (w : World) : Prop :=
  m9_2 R f1 (Value.int IntKind.i64 0) w
def m9_0 (R : VP) (f0 : Value) (w : World) : Prop :=
  valP Try.prog (Instr.box 26 f0) w fun f1 w =>
  m9_1 R f1 w
abbrev W9 := cwp Try.prog (fun i => 0)
noncomputable def k9_0 : Code := (bodyOf Try.f9)
noncomputable def k9_1 : Code := (c2 k9_0)
noncomputable def k9_2 : Code := (c2 k9_1)
noncomputable def k9_3 : Code := (c2 k9_2)
noncomputable def k9_4 : Code := (c2 k9_3)
noncomputable def k9_5 : Code := (c2 (c1 k9_2))
noncomputable def k9_6 : Code := (c1 (c1 k9_5))
noncomputable def k9_7 : Code := (c2 k9_6)
noncomputable def k9_8 : Code := (c2 k9_7)
noncomputable def k9_9 : Code := (c2 (c1 k9_6))
theorem s9_8 {R : VP} {K1 : (Value × Value) → World → Prop} {Q : EQ} (hN : ∀ e w, (K1 ((e 3), (e 4)) w) → Q .normal e w) (e : Env) (w : World) (h : m9_8 R K1 (e 1) (e 3) (e 4) w) : W9 k9_8 Q e w := by
  unfold m9_8 at h
  exact rgA 4 (fun e w => K1 ((e 3), (e 4)) w) h hN
theorem s9_7 {R : VP} {K1 : (Value × Value) → World → Prop} {Q : EQ} (hN : ∀ e w, (K1 ((e 3), (e 4)) w) → Q .normal e w) (e : Env) (w : World) (h : m9_7 R K1 (e 1) (e 3) (e 4) w) : W9 k9_7 Q e w := by
  unfold m9_7 at h
  refine seA ?_
  have hN : ∀ e w, (m9_8 R K1 (e 1) (e 3) (e 4) w) → (thenE (W9 k9_8 Q) Q) .normal e w := fun e w h => then_N (s9_8 (R := R) (Q := Q) (K1 := K1) hN e w h)
  refine block_ok 1 (by kernel_rfl) ?_
  have hN : ∀ e w, (m9_8 R K1 (e 1) (e 3) (e 4) w) → (inBlockE 1 (thenE (W9 k9_8 Q) Q)) .normal e w := fun e w h => block_N (hN e w h)
  exact rgA 5 (fun e w => m9_8 R K1 (e 1) (e 3) (e 4) w) h hN
theorem s9_4 {R : VP} {Q : EQ} (hR : ∀ e w, (R (e 2) w) → Q .ret e w) (e : Env) (w : World) (h : m9_4 R (e 2) w) : W9 k9_4 Q e w := by
  unfold m9_4 at h
  exact reA (hR _ _ h)
theorem s9_3 {R : VP} {Q : EQ} (hR : ∀ e w, (R (e 2) w) → Q .ret e w) (e : Env) (w : World) (h : m9_3 R (e 1) (e 3) w) : W9 k9_3 Q e w := by
  unfold m9_3 at h
  refine seA ?_
  have hN : ∀ e w, (m9_4 R (e 2) w) → (thenE (W9 k9_4 Q) Q) .normal e w := fun e w h => then_N (s9_4 (R := R) (Q := Q) hR e w h)
  exact rgA 6 (fun e w => m9_4 R (e 2) w) h hN
theorem s9_9 {R : VP} {K1 : (Value × Value) → World → Prop} {Q : EQ} (hN : ∀ e w, (m9_7 R K1 (e 1) (e 3) (e 4) w) → Q .normal e w) (hX0 : ∀ e w, (m9_3 R (e 1) (e 3) w) → Q (.exit 0) e w) (e : Env) (w : World) (h : m9_9 R K1 (e 1) (e 3) (e 4) (e 13) w) : W9 k9_9 Q e w := by
  unfold m9_9 at h
  refine coA (Operand.tmp 13) h (fun h1 => ?_) (fun h1 => ?_)
  · exact skA (hN _ _ h1)
  · exact exA 0 (hX0 _ _ h1)
theorem s9_6 {R : VP} {K1 : (Value × Value) → World → Prop} {Q : EQ} (hN : ∀ e w, (K1 ((e 3), (e 4)) w) → Q .normal e w) (hX0 : ∀ e w, (m9_3 R (e 1) (e 3) w) → Q (.exit 0) e w) (e : Env) (w : World) (h : m9_6 R K1 (e 1) (e 3) (e 4) w) : W9 k9_6 Q e w := by
  unfold m9_6 at h
  refine seA ?_
  have hN : ∀ e w, (m9_7 R K1 (e 1) (e 3) (e 4) w) → (thenE (W9 k9_7 Q) Q) .normal e w := fun e w h => then_N (s9_7 (R := R) (Q := Q) (K1 := K1) hN e w h)
  have hX0 : ∀ e w, (m9_3 R (e 1) (e 3) w) → (thenE (W9 k9_7 Q) Q) (.exit 0) e w := fun e w h => then_X (hX0 e w h)
  refine seA ?_
  have hN : ∀ e w, (m9_9 R K1 (e 1) (e 3) (e 4) (e 13) w) → (thenE (W9 k9_9 (thenE (W9 k9_7 Q) Q)) (thenE (W9 k9_7 Q) Q)) .normal e w := fun e w h => then_N (s9_9 (R := R) (Q := (thenE (W9 k9_7 Q) Q)) (K1 := K1) hN hX0 e w h)
  exact rgA 3 (fun e w => m9_9 R K1 (e 1) (e 3) (e 4) (e 13) w) h hN
theorem s9_5 {R : VP} {Q : EQ} (hN : ∀ e w, (m9_3 R (e 1) (e 3) w) → Q .normal e w) (e : Env) (w : World) (h : m9_5 R (e 1) (e 3) (e 4) w) : W9 k9_5 Q e w := by
  unfold m9_5 at h
  refine block_ok 0 (by kernel_rfl) ?_
  have hX0 : ∀ e w, (m9_3 R (e 1) (e 3) w) → (inBlockE 0 Q) (.exit 0) e w := fun e w h => inBlock_same (Q := Q) 0 (hN e w h)
  refine loop_ok' (fun (e : Env) => (e 3, e 4)) [1] (by kernel_rfl) (by kernel_rfl) h (fun K e' w' hk h' => ?_)
  have r1 : e' 1 = e 1 := hk 1 (by decide)
  have hX0 : ∀ e w, (m9_3 R (e 1) (e 3) w) → (thenE (fun (e : Env) w => K ((e 3), (e 4)) w) (inBlockE 0 Q)) (.exit 0) e w := fun e w h => then_X (hX0 e w h)
  exact s9_6 (R := R) (Q := (thenE (fun (e : Env) w => K ((e 3), (e 4)) w) (inBlockE 0 Q))) (K1 := K) (fun _ _ h => then_N h) hX0 e' w' (by rw [r1]; exact h')
theorem s9_2 {R : VP} {Q : EQ} (hR : ∀ e w, (R (e 2) w) → Q .ret e w) (e : Env) (w : World) (h : m9_2 R (e 1) (e 3) w) : W9 k9_2 Q e w := by
  unfold m9_2 at h
  refine seA ?_
  have hN : ∀ e w, (m9_3 R (e 1) (e 3) w) → (thenE (W9 k9_3 Q) Q) .normal e w := fun e w h => then_N (s9_3 (R := R) (Q := Q) hR e w h)
  refine seA ?_
  have hN : ∀ e w, (m9_5 R (e 1) (e 3) (e 4) w) → (thenE (W9 k9_5 (thenE (W9 k9_3 Q) Q)) (thenE (W9 k9_3 Q) Q)) .normal e w := fun e w h => then_N (s9_5 (R := R) (Q := (thenE (W9 k9_3 Q) Q)) hN e w h)
  exact rgA 2 (fun e w => m9_5 R (e 1) (e 3) (e 4) w) h hN
theorem s9_1 {R : VP} {Q : EQ} (hR : ∀ e w, (R (e 2) w) → Q .ret e w) (e : Env) (w : World) (h : m9_1 R (e 1) w) : W9 k9_1 Q e w := by
  unfold m9_1 at h
  refine seA ?_
  have hN : ∀ e w, (m9_2 R (e 1) (e 3) w) → (thenE (W9 k9_2 Q) Q) .normal e w := fun e w h => then_N (s9_2 (R := R) (Q := Q) hR e w h)
  exact rgA 1 (fun e w => m9_2 R (e 1) (e 3) w) h hN
theorem s9_0 {R : VP} {Q : EQ} (hR : ∀ e w, (R (e 2) w) → Q .ret e w) (e : Env) (w : World) (h : m9_0 R (e 0) w) : W9 k9_0 Q e w := by
  unfold m9_0 at h
  refine seA ?_
  have hN : ∀ e w, (m9_1 R (e 1) w) → (thenE (W9 k9_1 Q) Q) .normal e w := fun e w h => then_N (s9_1 (R := R) (Q := Q) hR e w h)
  exact rgA 0 (fun e w => m9_1 R (e 1) w) h hN
abbrev m9 (R : VP) (f0 : Value) (w : World) : Prop := m9_0 R f0 w
theorem s9 (f0 : Value) {R : VP} {w : World} (h : m9 R f0 w) :
    Calls Try.prog 9 #[f0] w fun e w' => ∃ v, e = .returned v ∧ R v w' :=
  calls_of_cwp (st := (fun i => 0)) (c := k9_0) (by kernel_rfl) Try.func9 (by kernel_rfl) (Nat.le_of_ble_eq_true (by kernel_rfl)) (by kernel_rfl)
    (s9_0 (R := R) (Q := endE Try.prog Try.f9 R) (fun e w h => kcast (by kernel_rfl) h) (argsE #[f0]) w (kcast (by kernel_rfl) h))
/-! ### headgate/headgatelaw28.awake -/
def m10_4 (R : VP) (t0 : Value) (w : World) : Prop :=
  R t0 w
def m10_3 (R : VP) (f2 all3 e4 : Value) (w : World) : Prop :=
  valP Try.prog (binS BinOp.eql 34 (Operand.tmp 21) (Operand.const (Value.int IntKind.i64 0)) e4 (Value.int IntKind.i64 0)) w fun t22 w =>
  condP t22
  (valP Try.prog (Instr.build 28 #[(0, (Value.int IntKind.i64 10))]) w fun t25 w =>
  valP Try.prog (Instr.build 28 #[(0, (Value.int IntKind.i64 15))]) w fun t26 w =>
  valP Try.prog (Instr.build 28 #[(0, (Value.int IntKind.i64 20))]) w fun t27 w =>
  valP Try.prog (Instr.buildSlice 31 3 #[(0, t25), (1, t26), (2, t27)]) w fun t28 w =>
  valP Try.prog (Instr.build 33 #[(0, (Value.int IntKind.i64 1)), (1, t28)]) w fun t29 w =>
  valP Try.prog (Instr.buildSlice 24 1 #[(0, t29)]) w fun t30 w =>
  callP Try.prog (fnV 14) #[all3, t30] w fun t31 w =>
  pickP t22 t31 (Value.bool false) fun t32 =>
  condP t32
  (valP Try.prog (Instr.fieldAt 26 f2 2) w fun t34 w =>
  valP Try.prog (Instr.loadAt 24 t34) w fun t35 w =>
  builtinP Try.prog Builtin.len #[24] 3 #[false] #[t35] w fun t36 w =>
  valP Try.prog (binS BinOp.eql 3 (Operand.tmp 36) (Operand.const (Value.int IntKind.i64 1)) t36 (Value.int IntKind.i64 1)) w fun t37 w =>
  pickP t32 t37 (Value.bool false) fun t38 =>
  condP t38
  (valP Try.prog (Instr.fieldAt 26 f2 0) w fun t40 w =>
  valP Try.prog (Instr.loadAt 3 t40) w fun t41 w =>
  valP Try.prog (binS BinOp.eql 3 (Operand.tmp 41) (Operand.const (Value.int IntKind.i64 31)) t41 (Value.int IntKind.i64 31)) w fun t42 w =>
  pickP t38 t42 (Value.bool false) fun t43 =>
  condP t43
  (valP Try.prog (Instr.fieldAt 26 f2 1) w fun t45 w =>
  valP Try.prog (Instr.loadAt 3 t45) w fun t46 w =>
  valP Try.prog (binS BinOp.eql 3 (Operand.tmp 46) (Operand.const (Value.int IntKind.i64 0)) t46 (Value.int IntKind.i64 0)) w fun t47 w =>
  pickP t43 t47 (Value.bool false) fun t48 =>
  m10_4 R t48 w)
  (pickP t43 undef (Value.bool false) fun t48 =>
  m10_4 R t48 w))
  (pickP t38 undef (Value.bool false) fun t43 =>
  pickP t43 undef (Value.bool false) fun t48 =>
  m10_4 R t48 w))
  (pickP t32 undef (Value.bool false) fun t38 =>
  pickP t38 undef (Value.bool false) fun t43 =>
  pickP t43 undef (Value.bool false) fun t48 =>
  m10_4 R t48 w))
  (pickP t22 undef (Value.bool false) fun t32 =>
  pickP t32 undef (Value.bool false) fun t38 =>
  pickP t38 undef (Value.bool false) fun t43 =>
  pickP t43 undef (Value.bool false) fun t48 =>
  m10_4 R t48 w)
def m10_2 (R : VP) (g1 : Value) (w : World) : Prop :=
  valP Try.prog (Instr.loadAt 23 g1) w fun t7 w =>
  valP Try.prog (Instr.build 28 #[(0, (Value.int IntKind.i64 10))]) w fun t8 w =>
  valP Try.prog (Instr.build 54 #[(0, (Value.int IntKind.i64 1)), (1, t8)]) w fun t9 w =>
  valP Try.prog (Instr.build 28 #[(0, (Value.int IntKind.i64 20))]) w fun t10 w =>
  valP Try.prog (Instr.build 54 #[(0, (Value.int IntKind.i64 1)), (1, t10)]) w fun t11 w =>
  valP Try.prog (Instr.build 28 #[(0, (Value.int IntKind.i64 15))]) w fun t12 w =>
  valP Try.prog (Instr.build 54 #[(0, (Value.int IntKind.i64 1)), (1, t12)]) w fun t13 w =>
  valP Try.prog (Instr.build 28 #[(0, (Value.int IntKind.i64 31))]) w fun t14 w =>
  valP Try.prog (Instr.build 54 #[(0, (Value.int IntKind.i64 1)), (1, t14)]) w fun t15 w =>
  valP Try.prog (Instr.buildSlice 44 4 #[(0, t9), (1, t11), (2, t13), (3, t15)]) w fun t16 w =>
  callP Try.prog (fnV 18) #[t7, t16] w fun t17 w =>
  valP Try.prog (Instr.extract t17 0) w fun t18 w =>
  valP Try.prog (Instr.extract t17 1) w fun t19 w =>
  valP Try.prog (Instr.extract t17 2) w fun t20 w =>
  valP Try.prog (Instr.alloc 26 true (.tuple #[])) w fun f2 w =>
  unitP Try.prog (Instr.storeAt 26 f2 t18) w fun _ w =>
  m10_3 R f2 t19 t20 w
def m10_1 (R : VP) (w : World) : Prop :=
  valP Try.prog (Instr.build 23 #[(0, (Value.int IntKind.i64 5)), (1, (Value.int IntKind.i64 5))]) w fun t5 w =>
  valP Try.prog (Instr.alloc 23 true (.tuple #[])) w fun g1 w =>
  unitP Try.prog (Instr.storeAt 23 g1 t5) w fun _ w =>
  m10_2 R g1 w
def m10_0 (R : VP) (w : World) : Prop :=
  m10_1 R w
abbrev W10 := cwp Try.prog (fun i => 0)
noncomputable def k10_0 : Code := (bodyOf Try.f10)
noncomputable def k10_1 : Code := (c2 k10_0)
noncomputable def k10_2 : Code := (c2 k10_1)
noncomputable def k10_3 : Code := (c2 k10_2)
noncomputable def k10_4 : Code := (c2 k10_3)
theorem s10_4 {R : VP} {Q : EQ} (hR : ∀ e w, (R (e 0) w) → Q .ret e w) (e : Env) (w : World) (h : m10_4 R (e 0) w) : W10 k10_4 Q e w := by
  unfold m10_4 at h
  exact reA (hR _ _ h)
theorem s10_3 {R : VP} {Q : EQ} (hR : ∀ e w, (R (e 0) w) → Q .ret e w) (e : Env) (w : World) (h : m10_3 R (e 2) (e 3) (e 4) w) : W10 k10_3 Q e w := by
  unfold m10_3 at h
  refine seA ?_
  have hN : ∀ e w, (m10_4 R (e 0) w) → (thenE (W10 k10_4 Q) Q) .normal e w := fun e w h => then_N (s10_4 (R := R) (Q := Q) hR e w h)
  exact rgK 3 (fun e w => m10_4 R (e 0) w) h hN
theorem s10_2 {R : VP} {Q : EQ} (hR : ∀ e w, (R (e 0) w) → Q .ret e w) (e : Env) (w : World) (h : m10_2 R (e 1) w) : W10 k10_2 Q e w := by
  unfold m10_2 at h
  refine seA ?_
  have hN : ∀ e w, (m10_3 R (e 2) (e 3) (e 4) w) → (thenE (W10 k10_3 Q) Q) .normal e w := fun e w h => then_N (s10_3 (R := R) (Q := Q) hR e w h)
  exact rgA 2 (fun e w => m10_3 R (e 2) (e 3) (e 4) w) h hN
theorem s10_1 {R : VP} {Q : EQ} (hR : ∀ e w, (R (e 0) w) → Q .ret e w) (e : Env) (w : World) (h : m10_1 R w) : W10 k10_1 Q e w := by
  unfold m10_1 at h
  refine seA ?_
  have hN : ∀ e w, (m10_2 R (e 1) w) → (thenE (W10 k10_2 Q) Q) .normal e w := fun e w h => then_N (s10_2 (R := R) (Q := Q) hR e w h)
  exact rgA 1 (fun e w => m10_2 R (e 1) w) h hN
theorem s10_0 {R : VP} {Q : EQ} (hR : ∀ e w, (R (e 0) w) → Q .ret e w) (e : Env) (w : World) (h : m10_0 R w) : W10 k10_0 Q e w := by
  unfold m10_0 at h
  refine seA ?_
  have hN : ∀ e w, (m10_1 R w) → (thenE (W10 k10_1 Q) Q) .normal e w := fun e w h => then_N (s10_1 (R := R) (Q := Q) hR e w h)
  exact rgA 0 (fun e w => m10_1 R w) h hN
abbrev m10 (R : VP) (w : World) : Prop := m10_0 R w
theorem s10  {R : VP} {w : World} (h : m10 R  w) :
    Calls Try.prog 10 #[] w fun e w' => ∃ v, e = .returned v ∧ R v w' :=
  calls_of_cwp (st := (fun i => 0)) (c := k10_0) (by kernel_rfl) Try.func10 (by kernel_rfl) (Nat.le_of_ble_eq_true (by kernel_rfl)) (by kernel_rfl)
    (s10_0 (R := R) (Q := endE Try.prog Try.f10 R) (fun e w h => kcast (by kernel_rfl) h) (argsE #[]) w (kcast (by kernel_rfl) h))
end Go.Proofs.Ytojgdmcojmllkaa.M
