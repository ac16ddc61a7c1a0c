/- What functions' texts ask of their ends, told over values that have names; printed by a program of this work. -/
import Derived.Test.YtojgdmcojmllkaaFw
import Derived.Test.YtojgdmcojmllkaaProg
namespace Go.Proofs.Ytojgdmcojmllkaa.M
open Go.Proofs.Ytojgdmcojmllkaa.F
set_option linter.unusedVariables false
set_option maxRecDepth 100000
/-! ### headgate/sessions.Result -/
def m23_14 (R : VP) (t2 t3 t4 : Value) (w : World) : Prop :=
  valS Try.prog (loadC 58 t4) w fun r2 =>
  R (Value.tuple #[t2, t3, r2]) w
def m23_11 (R : VP) (K1 : VP) (s1 t4 a5 t16 t17 t18 : Value) (w : World) : Prop :=
  valP Try.prog (binS BinOp.add 3 (Operand.tmp 18) (Operand.const (Value.int IntKind.i64 1)) t18 (Value.int IntKind.i64 1)) w fun t26 w =>
  K1 t26 w
def m23_12 (R : VP) (K1 : VP) (s1 t4 a5 e7 t16 t17 t18 : Value) (w : World) : Prop :=
  valP Try.prog (Instr.loadAt 58 a5) w fun t22 w =>
  valP Try.prog (Instr.fieldAt 28 e7 1) w fun t23 w =>
  valP Try.prog (Instr.loadAt 3 t23) w fun t24 w =>
  callP Try.prog (fnV 41) #[t22, t24] w fun t25 w =>
  unitP Try.prog (Instr.storeAt 58 a5 t25) w fun _ w =>
  m23_11 R K1 s1 t4 a5 t16 t17 t18 w
def m23_10 (R : VP) (K1 : VP) (s1 t4 a5 t16 t17 t18 : Value) (w : World) : Prop :=
  valP Try.prog (Instr.indexAt 31 t16 t18) w fun t20 w =>
  valP Try.prog (Instr.loadAt 28 t20) w fun t21 w =>
  valP Try.prog (Instr.alloc 28 true (.tuple #[])) w fun e7 w =>
  unitP Try.prog (Instr.storeAt 28 e7 t21) w fun _ w =>
  m23_12 R K1 s1 t4 a5 e7 t16 t17 t18 w
def m23_6 (R : VP) (t2 t3 t4 : Value) (w : World) : Prop :=
  valS Try.prog (loadC 58 t4) w fun r2 =>
  R (Value.tuple #[t2, t3, r2]) w
def m23_5 (R : VP) (t4 a5 from8 to9 : Value) (w : World) : Prop :=
  anyDraw w fun w =>
  valS Try.prog (Instr.loadAt 58 a5) w fun t34 =>
  unitP Try.prog (Instr.storeAt 58 t4 t34) w fun _ w =>
  m23_6 R from8 to9 t4 w
def m23_4 (R : VP) (s1 t4 a5 : Value) (w : World) : Prop :=
  valP Try.prog (Instr.loadAt 33 s1) w fun t28 w =>
  callP Try.prog (fnV 28) #[t28] w fun t29 w =>
  valP Try.prog (Instr.extract t29 0) w fun t30 w =>
  valP Try.prog (Instr.extract t29 1) w fun t31 w =>
  m23_5 R t4 a5 t30 t31 w
def m23_9 (R : VP) (K1 : VP) (s1 t4 a5 t16 t17 t18 t19 : Value) (w : World) : Prop :=
  condP t19
  (m23_10 R K1 s1 t4 a5 t16 t17 t18 w)
  (m23_4 R s1 t4 a5 w)
def m23_8 (R : VP) (K1 : VP) (s1 t4 a5 t16 t17 t18 : Value) (w : World) : Prop :=
  valP Try.prog (binS BinOp.lss 3 (Operand.tmp 18) (Operand.tmp 17) t18 t17) w fun t19 w =>
  m23_9 R K1 s1 t4 a5 t16 t17 t18 t19 w
def m23_7 (R : VP) (s1 t4 a5 t16 t17 t18 : Value) (w : World) : Prop :=
  loopP (fun (K1 : VP) (s : Value) w => m23_8 R K1 s1 t4 a5 t16 t17 s w) t18 w
def m23_3 (R : VP) (s1 t4 a5 : Value) (w : World) : Prop :=
  valP Try.prog (Instr.fieldAt 33 s1 1) w fun t15 w =>
  valP Try.prog (Instr.loadAt 31 t15) w fun t16 w =>
  builtinP Try.prog Builtin.len #[31] 3 #[false] #[t16] w fun t17 w =>
  m23_7 R s1 t4 a5 t16 t17 (Value.int IntKind.i64 0) w
def m23_2 (R : VP) (s1 t4 : Value) (w : World) : Prop :=
  valP Try.prog (Instr.alloc 58 true (.tuple #[])) w fun a5 w =>
  m23_3 R s1 t4 a5 w
def m23_13 (R : VP) (s1 t4 t13 : Value) (w : World) : Prop :=
  condP t13
  (valP Try.prog (Instr.build 58 #[]) w fun t14 w =>
  unitP Try.prog (Instr.storeAt 58 t4 t14) w fun _ w =>
  m23_14 R (Value.int IntKind.i64 0) (Value.int IntKind.i64 0) t4 w)
  (m23_2 R s1 t4 w)
def m23_1 (R : VP) (s1 t4 : Value) (w : World) : Prop :=
  valP Try.prog (Instr.fieldAt 33 s1 1) w fun t10 w =>
  valP Try.prog (Instr.loadAt 31 t10) w fun t11 w =>
  builtinP Try.prog Builtin.len #[31] 3 #[false] #[t11] w fun t12 w =>
  valP Try.prog (binS BinOp.eql 3 (Operand.tmp 12) (Operand.const (Value.int IntKind.i64 0)) t12 (Value.int IntKind.i64 0)) w fun t13 w =>
  m23_13 R s1 t4 t13 w
def m23_0 (R : VP) (s0 : Value) (w : World) : Prop :=
  valP Try.prog (Instr.box 33 s0) w fun s1 w =>
  valP Try.prog (Instr.alloc 58 true (.tuple #[])) w fun t4 w =>
  m23_1 R s1 t4 w
abbrev W23 := cwp Try.prog (fun i => cond (Nat.beq i 10) 7 (0))
noncomputable def k23_0 : Code := (bodyOf Try.f23)
noncomputable def k23_1 : Code := (c2 k23_0)
noncomputable def k23_2 : Code := (c2 k23_1)
noncomputable def k23_3 : Code := (c2 k23_2)
noncomputable def k23_4 : Code := (c2 k23_3)
noncomputable def k23_5 : Code := (c2 k23_4)
noncomputable def k23_6 : Code := (c2 k23_5)
noncomputable def k23_7 : Code := (c2 (c1 k23_3))
noncomputable def k23_8 : Code := (c1 (c1 k23_7))
noncomputable def k23_9 : Code := (c2 k23_8)
noncomputable def k23_10 : Code := (c2 k23_9)
noncomputable def k23_11 : Code := (c2 k23_10)
noncomputable def k23_12 : Code := (c2 (c1 (c1 k23_10)))
noncomputable def k23_13 : Code := (c2 (c1 k23_1))
noncomputable def k23_14 : Code := (c2 (c1 k23_13))
theorem s23_14 {R : VP} {Q : EQ} (hR : ∀ e w, (valS Try.prog (loadC 58 (e 4)) w fun r2 =>
R (Value.tuple #[(e 2), (e 3), r2]) w) → Q .ret e w) (e : Env) (w : World) (h : m23_14 R (e 2) (e 3) (e 4) w) : W23 k23_14 Q e w := by
  unfold m23_14 at h
  exact reA (hR _ _ h)
theorem s23_11 {R : VP} {K1 : VP} {Q : EQ} (hN : ∀ e w, (K1 (e 18) w) → Q .normal e w) (e : Env) (w : World) (h : m23_11 R K1 (e 1) (e 4) (e 5) (e 16) (e 17) (e 18) w) : W23 k23_11 Q e w := by
  unfold m23_11 at h
  exact rgA 8 (fun e w => K1 (e 18) w) h hN
theorem s23_12 {R : VP} {K1 : VP} {Q : EQ} (hN : ∀ e w, (m23_11 R K1 (e 1) (e 4) (e 5) (e 16) (e 17) (e 18) w) → Q .normal e w) (e : Env) (w : World) (h : m23_12 R K1 (e 1) (e 4) (e 5) (e 7) (e 16) (e 17) (e 18) w) : W23 k23_12 Q e w := by
  unfold m23_12 at h
  exact rgA 7 (fun e w => m23_11 R K1 (e 1) (e 4) (e 5) (e 16) (e 17) (e 18) w) h hN
theorem s23_10 {R : VP} {K1 : VP} {Q : EQ} (hN : ∀ e w, (K1 (e 18) w) → Q .normal e w) (e : Env) (w : World) (h : m23_10 R K1 (e 1) (e 4) (e 5) (e 16) (e 17) (e 18) w) : W23 k23_10 Q e w := by
  unfold m23_10 at h
  refine seA ?_
  have hN : ∀ e w, (m23_11 R K1 (e 1) (e 4) (e 5) (e 16) (e 17) (e 18) w) → (thenE (W23 k23_11 Q) Q) .normal e w := fun e w h => then_N (s23_11 (R := R) (Q := Q) (K1 := K1) hN e w h)
  refine block_ok 1 (by kernel_rfl) ?_
  have hN : ∀ e w, (m23_11 R K1 (e 1) (e 4) (e 5) (e 16) (e 17) (e 18) w) → (inBlockE 1 (thenE (W23 k23_11 Q) Q)) .normal e w := fun e w h => block_N (hN e w h)
  refine seA ?_
  have hN : ∀ e w, (m23_12 R K1 (e 1) (e 4) (e 5) (e 7) (e 16) (e 17) (e 18) w) → (thenE (W23 k23_12 (inBlockE 1 (thenE (W23 k23_11 Q) Q))) (inBlockE 1 (thenE (W23 k23_11 Q) Q))) .normal e w := fun e w h => then_N (s23_12 (R := R) (Q := (inBlockE 1 (thenE (W23 k23_11 Q) Q))) (K1 := K1) hN e w h)
  exact rgA 6 (fun e w => m23_12 R K1 (e 1) (e 4) (e 5) (e 7) (e 16) (e 17) (e 18) w) h hN
theorem s23_6 {R : VP} {Q : EQ} (hR : ∀ e w, (valS Try.prog (loadC 58 (e 4)) w fun r2 =>
R (Value.tuple #[(e 2), (e 3), r2]) w) → Q .ret e w) (e : Env) (w : World) (h : m23_6 R (e 2) (e 3) (e 4) w) : W23 k23_6 Q e w := by
  unfold m23_6 at h
  exact reA (hR _ _ h)
theorem s23_5 {R : VP} {Q : EQ} (hR : ∀ e w, (valS Try.prog (loadC 58 (e 4)) w fun r2 =>
R (Value.tuple #[(e 2), (e 3), r2]) w) → Q .ret e w) (e : Env) (w : World) (h : m23_5 R (e 4) (e 5) (e 8) (e 9) w) : W23 k23_5 Q e w := by
  unfold m23_5 at h
  refine seA ?_
  have hN : ∀ e w, (m23_6 R (e 2) (e 3) (e 4) w) → (thenE (W23 k23_6 Q) Q) .normal e w := fun e w h => then_N (s23_6 (R := R) (Q := Q) hR e w h)
  exact taA 10 5 (fun e w => m23_6 R (e 2) (e 3) (e 4) w) h hN
theorem s23_4 {R : VP} {Q : EQ} (hR : ∀ e w, (valS Try.prog (loadC 58 (e 4)) w fun r2 =>
R (Value.tuple #[(e 2), (e 3), r2]) w) → Q .ret e w) (e : Env) (w : World) (h : m23_4 R (e 1) (e 4) (e 5) w) : W23 k23_4 Q e w := by
  unfold m23_4 at h
  refine seA ?_
  have hN : ∀ e w, (m23_5 R (e 4) (e 5) (e 8) (e 9) w) → (thenE (W23 k23_5 Q) Q) .normal e w := fun e w h => then_N (s23_5 (R := R) (Q := Q) hR e w h)
  exact rgA 9 (fun e w => m23_5 R (e 4) (e 5) (e 8) (e 9) w) h hN
theorem s23_9 {R : VP} {K1 : VP} {Q : EQ} (hN : ∀ e w, (K1 (e 18) w) → Q .normal e w) (hX0 : ∀ e w, (m23_4 R (e 1) (e 4) (e 5) w) → Q (.exit 0) e w) (e : Env) (w : World) (h : m23_9 R K1 (e 1) (e 4) (e 5) (e 16) (e 17) (e 18) (e 19) w) : W23 k23_9 Q e w := by
  unfold m23_9 at h
  refine seA ?_
  have hN : ∀ e w, (m23_10 R K1 (e 1) (e 4) (e 5) (e 16) (e 17) (e 18) w) → (thenE (W23 k23_10 Q) Q) .normal e w := fun e w h => then_N (s23_10 (R := R) (Q := Q) (K1 := K1) hN e w h)
  have hX0 : ∀ e w, (m23_4 R (e 1) (e 4) (e 5) w) → (thenE (W23 k23_10 Q) Q) (.exit 0) e w := fun e w h => then_X (hX0 e w h)
  refine coA (Operand.tmp 19) h (fun h1 => ?_) (fun h1 => ?_)
  · exact skA (hN _ _ h1)
  · exact exA 0 (hX0 _ _ h1)
theorem s23_8 {R : VP} {K1 : VP} {Q : EQ} (hN : ∀ e w, (K1 (e 18) w) → Q .normal e w) (hX0 : ∀ e w, (m23_4 R (e 1) (e 4) (e 5) w) → Q (.exit 0) e w) (e : Env) (w : World) (h : m23_8 R K1 (e 1) (e 4) (e 5) (e 16) (e 17) (e 18) w) : W23 k23_8 Q e w := by
  unfold m23_8 at h
  refine seA ?_
  have hN : ∀ e w, (m23_9 R K1 (e 1) (e 4) (e 5) (e 16) (e 17) (e 18) (e 19) w) → (thenE (W23 k23_9 Q) Q) .normal e w := fun e w h => then_N (s23_9 (R := R) (Q := Q) (K1 := K1) hN hX0 e w h)
  exact rgA 5 (fun e w => m23_9 R K1 (e 1) (e 4) (e 5) (e 16) (e 17) (e 18) (e 19) w) h hN
theorem s23_7 {R : VP} {Q : EQ} (hN : ∀ e w, (m23_4 R (e 1) (e 4) (e 5) w) → Q .normal e w) (e : Env) (w : World) (h : m23_7 R (e 1) (e 4) (e 5) (e 16) (e 17) (e 18) w) : W23 k23_7 Q e w := by
  unfold m23_7 at h
  refine block_ok 0 (by kernel_rfl) ?_
  have hX0 : ∀ e w, (m23_4 R (e 1) (e 4) (e 5) w) → (inBlockE 0 Q) (.exit 0) e w := fun e w h => inBlock_same (Q := Q) 0 (hN e w h)
  refine loop_ok' (fun (e : Env) => e 18) [1, 4, 5, 16, 17] (by kernel_rfl) (by kernel_rfl) h (fun K e' w' hk h' => ?_)
  have r1 : e' 1 = e 1 := hk 1 (by decide)
  have r4 : e' 4 = e 4 := hk 4 (by decide)
  have r5 : e' 5 = e 5 := hk 5 (by decide)
  have r16 : e' 16 = e 16 := hk 16 (by decide)
  have r17 : e' 17 = e 17 := hk 17 (by decide)
  have hX0 : ∀ e w, (m23_4 R (e 1) (e 4) (e 5) w) → (thenE (fun (e : Env) w => K (e 18) w) (inBlockE 0 Q)) (.exit 0) e w := fun e w h => then_X (hX0 e w h)
  exact s23_8 (R := R) (Q := (thenE (fun (e : Env) w => K (e 18) w) (inBlockE 0 Q))) (K1 := K) (fun _ _ h => then_N h) hX0 e' w' (by rw [r1, r4, r5, r16, r17]; exact h')
theorem s23_3 {R : VP} {Q : EQ} (hR : ∀ e w, (valS Try.prog (loadC 58 (e 4)) w fun r2 =>
R (Value.tuple #[(e 2), (e 3), r2]) w) → Q .ret e w) (e : Env) (w : World) (h : m23_3 R (e 1) (e 4) (e 5) w) : W23 k23_3 Q e w := by
  unfold m23_3 at h
  refine seA ?_
  have hN : ∀ e w, (m23_4 R (e 1) (e 4) (e 5) w) → (thenE (W23 k23_4 Q) Q) .normal e w := fun e w h => then_N (s23_4 (R := R) (Q := Q) hR e w h)
  refine seA ?_
  have hN : ∀ e w, (m23_7 R (e 1) (e 4) (e 5) (e 16) (e 17) (e 18) w) → (thenE (W23 k23_7 (thenE (W23 k23_4 Q) Q)) (thenE (W23 k23_4 Q) Q)) .normal e w := fun e w h => then_N (s23_7 (R := R) (Q := (thenE (W23 k23_4 Q) Q)) hN e w h)
  exact rgA 4 (fun e w => m23_7 R (e 1) (e 4) (e 5) (e 16) (e 17) (e 18) w) h hN
theorem s23_2 {R : VP} {Q : EQ} (hR : ∀ e w, (valS Try.prog (loadC 58 (e 4)) w fun r2 =>
R (Value.tuple #[(e 2), (e 3), r2]) w) → Q .ret e w) (e : Env) (w : World) (h : m23_2 R (e 1) (e 4) w) : W23 k23_2 Q e w := by
  unfold m23_2 at h
  refine seA ?_
  have hN : ∀ e w, (m23_3 R (e 1) (e 4) (e 5) w) → (thenE (W23 k23_3 Q) Q) .normal e w := fun e w h => then_N (s23_3 (R := R) (Q := Q) hR e w h)
  exact rgA 3 (fun e w => m23_3 R (e 1) (e 4) (e 5) w) h hN
theorem s23_13 {R : VP} {Q : EQ} (hN : ∀ e w, (m23_2 R (e 1) (e 4) w) → Q .normal e w) (hR : ∀ e w, (valS Try.prog (loadC 58 (e 4)) w fun r2 =>
R (Value.tuple #[(e 2), (e 3), r2]) w) → Q .ret e w) (e : Env) (w : World) (h : m23_13 R (e 1) (e 4) (e 13) w) : W23 k23_13 Q e w := by
  unfold m23_13 at h
  refine coA (Operand.tmp 13) h (fun h1 => ?_) (fun h1 => ?_)
  · refine seA ?_
    have hN : ∀ e w, (m23_14 R (e 2) (e 3) (e 4) w) → (thenE (W23 k23_14 Q) Q) .normal e w := fun e w h => then_N (s23_14 (R := R) (Q := Q) hR e w h)
    exact rgA 2 (fun e w => m23_14 R (e 2) (e 3) (e 4) w) h1 hN
  · exact skA (hN _ _ h1)
theorem s23_1 {R : VP} {Q : EQ} (hR : ∀ e w, (valS Try.prog (loadC 58 (e 4)) w fun r2 =>
R (Value.tuple #[(e 2), (e 3), r2]) w) → Q .ret e w) (e : Env) (w : World) (h : m23_1 R (e 1) (e 4) w) : W23 k23_1 Q e w := by
  unfold m23_1 at h
  refine seA ?_
  have hN : ∀ e w, (m23_2 R (e 1) (e 4) w) → (thenE (W23 k23_2 Q) Q) .normal e w := fun e w h => then_N (s23_2 (R := R) (Q := Q) hR e w h)
  have hR : ∀ e w, (valS Try.prog (loadC 58 (e 4)) w fun r2 =>
  R (Value.tuple #[(e 2), (e 3), r2]) w) → (thenE (W23 k23_2 Q) Q) .ret e w := fun e w h => then_R (hR e w h)
  refine seA ?_
  have hN : ∀ e w, (m23_13 R (e 1) (e 4) (e 13) w) → (thenE (W23 k23_13 (thenE (W23 k23_2 Q) Q)) (thenE (W23 k23_2 Q) Q)) .normal e w := fun e w h => then_N (s23_13 (R := R) (Q := (thenE (W23 k23_2 Q) Q)) hN hR e w h)
  exact rgA 1 (fun e w => m23_13 R (e 1) (e 4) (e 13) w) h hN
theorem s23_0 {R : VP} {Q : EQ} (hR : ∀ e w, (valS Try.prog (loadC 58 (e 4)) w fun r2 =>
R (Value.tuple #[(e 2), (e 3), r2]) w) → Q .ret e w) (e : Env) (w : World) (h : m23_0 R (e 0) w) : W23 k23_0 Q e w := by
  unfold m23_0 at h
  refine seA ?_
  have hN : ∀ e w, (m23_1 R (e 1) (e 4) w) → (thenE (W23 k23_1 Q) Q) .normal e w := fun e w h => then_N (s23_1 (R := R) (Q := Q) hR e w h)
  exact rgA 0 (fun e w => m23_1 R (e 1) (e 4) w) h hN
abbrev m23 (R : VP) (s0 : Value) (w : World) : Prop := m23_0 R s0 w
theorem s23 (s0 : Value) {R : VP} {w : World} (h : m23 R s0 w) :
    Calls Try.prog 23 #[s0] w fun e w' => ∃ v, e = .returned v ∧ R v w' :=
  calls_of_cwp (st := (fun i => cond (Nat.beq i 10) 7 (0))) (c := k23_0) (by kernel_rfl) Try.func23 (by kernel_rfl) (Nat.le_of_ble_eq_true (by kernel_rfl)) (by kernel_rfl)
    (s23_0 (R := R) (Q := endE Try.prog Try.f23 R) (fun e w h => kcast (by kernel_rfl) h) (argsE #[s0]) w (kcast (by kernel_rfl) h))
/-! ### headgate/headgateref28.Result -/
def m24_12 (R : VP) (t2 t3 t4 : Value) (w : World) : Prop :=
  valS Try.prog (loadC 58 t4) w fun r2 =>
  R (Value.tuple #[t2, t3, r2]) w
def m24_9 (R : VP) (K1 : VP) (s1 t4 a5 i6 : Value) (w : World) : Prop :=
  valP Try.prog (binS BinOp.add 3 (Operand.tmp 18) (Operand.const (Value.int IntKind.i64 1)) i6 (Value.int IntKind.i64 1)) w fun t19 w =>
  K1 t19 w
def m24_8 (R : VP) (K1 : VP) (s1 t4 a5 i6 : Value) (w : World) : Prop :=
  anyDraw w fun w =>
  valS Try.prog (Instr.loadAt 58 a5) w fun t20 =>
  valS Try.prog (Instr.fieldAt 33 s1 1) w fun t21 =>
  valS Try.prog (Instr.loadAt 31 t21) w fun t22 =>
  valS Try.prog (Instr.indexAt 31 t22 i6) w fun t24 =>
  valS Try.prog (Instr.fieldAt 28 t24 1) w fun t25 =>
  valS Try.prog (Instr.loadAt 3 t25) w fun t26 =>
  callP Try.prog (fnV 42) #[t20, t26] w fun t27 w =>
  unitP Try.prog (Instr.storeAt 58 a5 t27) w fun _ w =>
  m24_9 R K1 s1 t4 a5 i6 w
def m24_5 (R : VP) (t2 t3 t4 : Value) (w : World) : Prop :=
  valS Try.prog (loadC 58 t4) w fun r2 =>
  R (Value.tuple #[t2, t3, r2]) w
def m24_4 (R : VP) (s1 t4 a5 : Value) (w : World) : Prop :=
  anyDraw w fun w =>
  heldP w fun J =>
  valJ Try.prog J (Instr.loadAt 33 s1) fun t28 =>
  valJ Try.prog J (Instr.loadAt 33 s1) fun t30 =>
  valJ Try.prog J (Instr.loadAt 58 a5) fun t32 =>
  callP Try.prog (fnV 43) #[t28] w fun t29 w =>
  stayP J w
  (callP Try.prog (fnV 21) #[t30] w fun t31 w =>
  stayP J w
  (unitP Try.prog (Instr.storeAt 58 t4 t32) w fun _ w =>
  stayP J w
  (m24_5 R t29 t31 t4 w)))
def m24_10 (R : VP) (K1 : VP) (s1 t4 a5 i6 t17 : Value) (w : World) : Prop :=
  condP t17
  (m24_8 R K1 s1 t4 a5 i6 w)
  (m24_4 R s1 t4 a5 w)
def m24_7 (R : VP) (K1 : VP) (s1 t4 a5 i6 : Value) (w : World) : Prop :=
  valP Try.prog (Instr.fieldAt 33 s1 1) w fun t14 w =>
  valP Try.prog (Instr.loadAt 31 t14) w fun t15 w =>
  builtinP Try.prog Builtin.len #[31] 3 #[false] #[t15] w fun t16 w =>
  valP Try.prog (binS BinOp.lss 3 (Operand.tmp 13) (Operand.tmp 16) i6 t16) w fun t17 w =>
  m24_10 R K1 s1 t4 a5 i6 t17 w
def m24_6 (R : VP) (s1 t4 a5 i6 : Value) (w : World) : Prop :=
  loopP (fun (K1 : VP) (s : Value) w => m24_7 R K1 s1 t4 a5 s w) i6 w
def m24_3 (R : VP) (s1 t4 a5 : Value) (w : World) : Prop :=
  m24_6 R s1 t4 a5 (Value.int IntKind.i64 0) w
def m24_11 (R : VP) (s1 t4 a5 t11 : Value) (w : World) : Prop :=
  condP t11
  (anyDraw w fun w =>
  valS Try.prog (Instr.loadAt 58 a5) w fun t12 =>
  unitP Try.prog (Instr.storeAt 58 t4 t12) w fun _ w =>
  m24_12 R (Value.int IntKind.i64 0) (Value.int IntKind.i64 0) t4 w)
  (m24_3 R s1 t4 a5 w)
def m24_2 (R : VP) (s1 t4 a5 : Value) (w : World) : Prop :=
  valP Try.prog (Instr.fieldAt 33 s1 1) w fun t8 w =>
  valP Try.prog (Instr.loadAt 31 t8) w fun t9 w =>
  builtinP Try.prog Builtin.len #[31] 3 #[false] #[t9] w fun t10 w =>
  valP Try.prog (binS BinOp.eql 3 (Operand.tmp 10) (Operand.const (Value.int IntKind.i64 0)) t10 (Value.int IntKind.i64 0)) w fun t11 w =>
  m24_11 R s1 t4 a5 t11 w
def m24_1 (R : VP) (s1 t4 : Value) (w : World) : Prop :=
  valP Try.prog (Instr.build 58 #[]) w fun t7 w =>
  valP Try.prog (Instr.alloc 58 true (.tuple #[])) w fun a5 w =>
  unitP Try.prog (Instr.storeAt 58 a5 t7) w fun _ w =>
  m24_2 R s1 t4 a5 w
def m24_0 (R : VP) (s0 : Value) (w : World) : Prop :=
  valP Try.prog (Instr.box 33 s0) w fun s1 w =>
  valP Try.prog (Instr.alloc 58 true (.tuple #[])) w fun t4 w =>
  m24_1 R s1 t4 w
abbrev W24 := cwp Try.prog (fun i => cond (Nat.beq i 7) 9 (cond (Nat.beq i 3) 5 (0)))
noncomputable def k24_0 : Code := (bodyOf Try.f24)
noncomputable def k24_1 : Code := (c2 k24_0)
noncomputable def k24_2 : Code := (c2 k24_1)
noncomputable def k24_3 : Code := (c2 k24_2)
noncomputable def k24_4 : Code := (c2 k24_3)
noncomputable def k24_5 : Code := (c2 k24_4)
noncomputable def k24_6 : Code := (c2 (c1 k24_3))
noncomputable def k24_7 : Code := (c1 (c1 k24_6))
noncomputable def k24_8 : Code := (c2 k24_7)
noncomputable def k24_9 : Code := (c2 k24_8)
noncomputable def k24_10 : Code := (c2 (c1 k24_7))
noncomputable def k24_11 : Code := (c2 (c1 k24_2))
noncomputable def k24_12 : Code := (c2 (c1 k24_11))
theorem s24_12 {R : VP} {Q : EQ} (hR : ∀ e w, (valS Try.prog (loadC 58 (e 4)) w fun r2 =>
R (Value.tuple #[(e 2), (e 3), r2]) w) → Q .ret e w) (e : Env) (w : World) (h : m24_12 R (e 2) (e 3) (e 4) w) : W24 k24_12 Q e w := by
  unfold m24_12 at h
  exact reA (hR _ _ h)
theorem s24_9 {R : VP} {K1 : VP} {Q : EQ} (hN : ∀ e w, (K1 (e 6) w) → Q .normal e w) (e : Env) (w : World) (h : m24_9 R K1 (e 1) (e 4) (e 5) (e 6) w) : W24 k24_9 Q e w := by
  unfold m24_9 at h
  exact rgA 6 (fun e w => K1 (e 6) w) h hN
theorem s24_8 {R : VP} {K1 : VP} {Q : EQ} (hN : ∀ e w, (K1 (e 6) w) → Q .normal e w) (e : Env) (w : World) (h : m24_8 R K1 (e 1) (e 4) (e 5) (e 6) w) : W24 k24_8 Q e w := by
  unfold m24_8 at h
  refine seA ?_
  have hN : ∀ e w, (m24_9 R K1 (e 1) (e 4) (e 5) (e 6) w) → (thenE (W24 k24_9 Q) Q) .normal e w := fun e w h => then_N (s24_9 (R := R) (Q := Q) (K1 := K1) hN e w h)
  refine block_ok 1 (by kernel_rfl) ?_
  have hN : ∀ e w, (m24_9 R K1 (e 1) (e 4) (e 5) (e 6) w) → (inBlockE 1 (thenE (W24 k24_9 Q) Q)) .normal e w := fun e w h => block_N (hN e w h)
  exact taA 7 7 (fun e w => m24_9 R K1 (e 1) (e 4) (e 5) (e 6) w) h hN
theorem s24_5 {R : VP} {Q : EQ} (hR : ∀ e w, (valS Try.prog (loadC 58 (e 4)) w fun r2 =>
R (Value.tuple #[(e 2), (e 3), r2]) w) → Q .ret e w) (e : Env) (w : World) (h : m24_5 R (e 2) (e 3) (e 4) w) : W24 k24_5 Q e w := by
  unfold m24_5 at h
  exact reA (hR _ _ h)
theorem s24_4 {R : VP} {Q : EQ} (hR : ∀ e w, (valS Try.prog (loadC 58 (e 4)) w fun r2 =>
R (Value.tuple #[(e 2), (e 3), r2]) w) → Q .ret e w) (e : Env) (w : World) (h : m24_4 R (e 1) (e 4) (e 5) w) : W24 k24_4 Q e w := by
  unfold m24_4 at h
  refine seA ?_
  have hN : ∀ e w, (m24_5 R (e 2) (e 3) (e 4) w) → (thenE (W24 k24_5 Q) Q) .normal e w := fun e w h => then_N (s24_5 (R := R) (Q := Q) hR e w h)
  exact treeJ_ok 8 8 [false, false, false, false, false, false, false, false] (.take 0 [true, false, false, false, false, false, false, false] (.take 2 [true, false, true, false, false, false, false, false] (.take 4 [true, false, true, false, true, false, false, false] (.alt 1 [true, true, true, false, true, false, false, false] (.alt 3 [true, true, true, true, true, false, false, false] (.take 5 [true, true, true, true, true, true, false, false] (.take 6 [true, true, true, true, true, true, true, false] (.alt 7 [true, true, true, true, true, true, true, true] .done .stop))) .stop) .stop)))) (fun e w => m24_5 R (e 2) (e 3) (e 4) w) (by kernel_rfl) (by kernel_rfl) (by kernel_rfl) (by kernel_rfl) (by kernel_rfl) (by kernel_rfl) (kcast (by kernel_rfl) h) hN (by kernel_rfl)
theorem s24_10 {R : VP} {K1 : VP} {Q : EQ} (hN : ∀ e w, (m24_8 R K1 (e 1) (e 4) (e 5) (e 6) w) → Q .normal e w) (hX0 : ∀ e w, (m24_4 R (e 1) (e 4) (e 5) w) → Q (.exit 0) e w) (e : Env) (w : World) (h : m24_10 R K1 (e 1) (e 4) (e 5) (e 6) (e 17) w) : W24 k24_10 Q e w := by
  unfold m24_10 at h
  refine coA (Operand.tmp 17) h (fun h1 => ?_) (fun h1 => ?_)
  · exact skA (hN _ _ h1)
  · exact exA 0 (hX0 _ _ h1)
theorem s24_7 {R : VP} {K1 : VP} {Q : EQ} (hN : ∀ e w, (K1 (e 6) w) → Q .normal e w) (hX0 : ∀ e w, (m24_4 R (e 1) (e 4) (e 5) w) → Q (.exit 0) e w) (e : Env) (w : World) (h : m24_7 R K1 (e 1) (e 4) (e 5) (e 6) w) : W24 k24_7 Q e w := by
  unfold m24_7 at h
  refine seA ?_
  have hN : ∀ e w, (m24_8 R K1 (e 1) (e 4) (e 5) (e 6) w) → (thenE (W24 k24_8 Q) Q) .normal e w := fun e w h => then_N (s24_8 (R := R) (Q := Q) (K1 := K1) hN e w h)
  have hX0 : ∀ e w, (m24_4 R (e 1) (e 4) (e 5) w) → (thenE (W24 k24_8 Q) Q) (.exit 0) e w := fun e w h => then_X (hX0 e w h)
  refine seA ?_
  have hN : ∀ e w, (m24_10 R K1 (e 1) (e 4) (e 5) (e 6) (e 17) w) → (thenE (W24 k24_10 (thenE (W24 k24_8 Q) Q)) (thenE (W24 k24_8 Q) Q)) .normal e w := fun e w h => then_N (s24_10 (R := R) (Q := (thenE (W24 k24_8 Q) Q)) (K1 := K1) hN hX0 e w h)
  exact rgA 5 (fun e w => m24_10 R K1 (e 1) (e 4) (e 5) (e 6) (e 17) w) h hN
theorem s24_6 {R : VP} {Q : EQ} (hN : ∀ e w, (m24_4 R (e 1) (e 4) (e 5) w) → Q .normal e w) (e : Env) (w : World) (h : m24_6 R (e 1) (e 4) (e 5) (e 6) w) : W24 k24_6 Q e w := by
  unfold m24_6 at h
  refine block_ok 0 (by kernel_rfl) ?_
  have hX0 : ∀ e w, (m24_4 R (e 1) (e 4) (e 5) w) → (inBlockE 0 Q) (.exit 0) e w := fun e w h => inBlock_same (Q := Q) 0 (hN e w h)
  refine loop_ok' (fun (e : Env) => e 6) [1, 4, 5] (by kernel_rfl) (by kernel_rfl) h (fun K e' w' hk h' => ?_)
  have r1 : e' 1 = e 1 := hk 1 (by decide)
  have r4 : e' 4 = e 4 := hk 4 (by decide)
  have r5 : e' 5 = e 5 := hk 5 (by decide)
  have hX0 : ∀ e w, (m24_4 R (e 1) (e 4) (e 5) w) → (thenE (fun (e : Env) w => K (e 6) w) (inBlockE 0 Q)) (.exit 0) e w := fun e w h => then_X (hX0 e w h)
  exact s24_7 (R := R) (Q := (thenE (fun (e : Env) w => K (e 6) w) (inBlockE 0 Q))) (K1 := K) (fun _ _ h => then_N h) hX0 e' w' (by rw [r1, r4, r5]; exact h')
theorem s24_3 {R : VP} {Q : EQ} (hR : ∀ e w, (valS Try.prog (loadC 58 (e 4)) w fun r2 =>
R (Value.tuple #[(e 2), (e 3), r2]) w) → Q .ret e w) (e : Env) (w : World) (h : m24_3 R (e 1) (e 4) (e 5) w) : W24 k24_3 Q e w := by
  unfold m24_3 at h
  refine seA ?_
  have hN : ∀ e w, (m24_4 R (e 1) (e 4) (e 5) w) → (thenE (W24 k24_4 Q) Q) .normal e w := fun e w h => then_N (s24_4 (R := R) (Q := Q) hR e w h)
  refine seA ?_
  have hN : ∀ e w, (m24_6 R (e 1) (e 4) (e 5) (e 6) w) → (thenE (W24 k24_6 (thenE (W24 k24_4 Q) Q)) (thenE (W24 k24_4 Q) Q)) .normal e w := fun e w h => then_N (s24_6 (R := R) (Q := (thenE (W24 k24_4 Q) Q)) hN e w h)
  exact rgA 4 (fun e w => m24_6 R (e 1) (e 4) (e 5) (e 6) w) h hN
theorem s24_11 {R : VP} {Q : EQ} (hN : ∀ e w, (m24_3 R (e 1) (e 4) (e 5) w) → Q .normal e w) (hR : ∀ e w, (valS Try.prog (loadC 58 (e 4)) w fun r2 =>
R (Value.tuple #[(e 2), (e 3), r2]) w) → Q .ret e w) (e : Env) (w : World) (h : m24_11 R (e 1) (e 4) (e 5) (e 11) w) : W24 k24_11 Q e w := by
  unfold m24_11 at h
  refine coA (Operand.tmp 11) h (fun h1 => ?_) (fun h1 => ?_)
  · refine seA ?_
    have hN : ∀ e w, (m24_12 R (e 2) (e 3) (e 4) w) → (thenE (W24 k24_12 Q) Q) .normal e w := fun e w h => then_N (s24_12 (R := R) (Q := Q) hR e w h)
    exact taA 3 3 (fun e w => m24_12 R (e 2) (e 3) (e 4) w) h1 hN
  · exact skA (hN _ _ h1)
theorem s24_2 {R : VP} {Q : EQ} (hR : ∀ e w, (valS Try.prog (loadC 58 (e 4)) w fun r2 =>
R (Value.tuple #[(e 2), (e 3), r2]) w) → Q .ret e w) (e : Env) (w : World) (h : m24_2 R (e 1) (e 4) (e 5) w) : W24 k24_2 Q e w := by
  unfold m24_2 at h
  refine seA ?_
  have hN : ∀ e w, (m24_3 R (e 1) (e 4) (e 5) w) → (thenE (W24 k24_3 Q) Q) .normal e w := fun e w h => then_N (s24_3 (R := R) (Q := Q) hR e w h)
  have hR : ∀ e w, (valS Try.prog (loadC 58 (e 4)) w fun r2 =>
  R (Value.tuple #[(e 2), (e 3), r2]) w) → (thenE (W24 k24_3 Q) Q) .ret e w := fun e w h => then_R (hR e w h)
  refine seA ?_
  have hN : ∀ e w, (m24_11 R (e 1) (e 4) (e 5) (e 11) w) → (thenE (W24 k24_11 (thenE (W24 k24_3 Q) Q)) (thenE (W24 k24_3 Q) Q)) .normal e w := fun e w h => then_N (s24_11 (R := R) (Q := (thenE (W24 k24_3 Q) Q)) hN hR e w h)
  exact rgA 2 (fun e w => m24_11 R (e 1) (e 4) (e 5) (e 11) w) h hN
theorem s24_1 {R : VP} {Q : EQ} (hR : ∀ e w, (valS Try.prog (loadC 58 (e 4)) w fun r2 =>
R (Value.tuple #[(e 2), (e 3), r2]) w) → Q .ret e w) (e : Env) (w : World) (h : m24_1 R (e 1) (e 4) w) : W24 k24_1 Q e w := by
  unfold m24_1 at h
  refine seA ?_
  have hN : ∀ e w, (m24_2 R (e 1) (e 4) (e 5) w) → (thenE (W24 k24_2 Q) Q) .normal e w := fun e w h => then_N (s24_2 (R := R) (Q := Q) hR e w h)
  exact rgA 1 (fun e w => m24_2 R (e 1) (e 4) (e 5) w) h hN
theorem s24_0 {R : VP} {Q : EQ} (hR : ∀ e w, (valS Try.prog (loadC 58 (e 4)) w fun r2 =>
R (Value.tuple #[(e 2), (e 3), r2]) w) → Q .ret e w) (e : Env) (w : World) (h : m24_0 R (e 0) w) : W24 k24_0 Q e w := by
  unfold m24_0 at h
  refine seA ?_
  have hN : ∀ e w, (m24_1 R (e 1) (e 4) w) → (thenE (W24 k24_1 Q) Q) .normal e w := fun e w h => then_N (s24_1 (R := R) (Q := Q) hR e w h)
  exact rgA 0 (fun e w => m24_1 R (e 1) (e 4) w) h hN
abbrev m24 (R : VP) (s0 : Value) (w : World) : Prop := m24_0 R s0 w
theorem s24 (s0 : Value) {R : VP} {w : World} (h : m24 R s0 w) :
    Calls Try.prog 24 #[s0] w fun e w' => ∃ v, e = .returned v ∧ R v w' :=
  calls_of_cwp (st := (fun i => cond (Nat.beq i 7) 9 (cond (Nat.beq i 3) 5 (0)))) (c := k24_0) (by kernel_rfl) Try.func24 (by kernel_rfl) (Nat.le_of_ble_eq_true (by kernel_rfl)) (by kernel_rfl)
    (s24_0 (R := R) (Q := endE Try.prog Try.f24 R) (fun e w h => kcast (by kernel_rfl) h) (argsE #[s0]) w (kcast (by kernel_rfl) h))
/-! ### headgate/fold.Add -/
def m41_9 (R : VP) (t4 : Value) (w : World) : Prop :=
  valS Try.prog (loadC 58 t4) w fun r0 =>
  R r0 w
def m41_8 (R : VP) (a2 t4 : Value) (w : World) : Prop :=
  valP Try.prog (Instr.loadAt 58 a2) w fun t58 w =>
  unitP Try.prog (Instr.storeAt 58 t4 t58) w fun _ w =>
  m41_9 R t4 w
def m41_7 (R : VP) (a2 t4 c5 : Value) (w : World) : Prop :=
  anyDraw w fun w =>
  valS Try.prog (Instr.fieldAt 58 a2 5) w fun t44 =>
  valS Try.prog (Instr.loadAt 3 t44) w fun t45 =>
  builtinS Try.prog Builtin.real #[83] 85 #[false] #[c5] w fun t47 =>
  valS Try.prog (convert 85 3 t47) w fun t48 =>
  callS Try.prog (fnV 50) #[t45, t48] w fun t49 =>
  valS Try.prog (Instr.fieldAt 58 a2 6) w fun t50 =>
  valS Try.prog (Instr.loadAt 3 t50) w fun t51 =>
  builtinS Try.prog Builtin.imag #[83] 85 #[false] #[c5] w fun t53 =>
  valS Try.prog (convert 85 3 t53) w fun t54 =>
  callS Try.prog (fnV 50) #[t51, t54] w fun t55 =>
  valS Try.prog (Instr.fieldAt 58 a2 5) w fun t56 =>
  unitP Try.prog (Instr.storeAt 3 t56 t49) w fun _ w =>
  valP Try.prog (Instr.fieldAt 58 a2 6) w fun t57 w =>
  unitP Try.prog (Instr.storeAt 3 t57 t55) w fun _ w =>
  m41_8 R a2 t4 w
def m41_6 (R : VP) (v1 a2 t4 : Value) (w : World) : Prop :=
  callP Try.prog (fnV 52) #[v1] w fun t43 w =>
  m41_7 R a2 t4 t43 w
def m41_5 (R : VP) (v1 a2 t4 : Value) (w : World) : Prop :=
  callP Try.prog (fnV 51) #[v1] w fun t33 w =>
  callP Try.prog (fnV 51) #[v1] w fun t35 w =>
  valP Try.prog (Instr.fieldAt 58 a2 4) w fun t36 w =>
  valP Try.prog (Instr.indexAt 56 t36 t35) w fun t37 w =>
  valP Try.prog (Instr.loadAt 3 t37) w fun t38 w =>
  callP Try.prog (fnV 50) #[t38, (Value.int IntKind.i64 1)] w fun t39 w =>
  valP Try.prog (Instr.fieldAt 58 a2 4) w fun t40 w =>
  valP Try.prog (Instr.indexAt 56 t40 t33) w fun t41 w =>
  unitP Try.prog (Instr.storeAt 3 t41 t39) w fun _ w =>
  m41_6 R v1 a2 t4 w
def m41_4 (R : VP) (v1 a2 t4 : Value) (w : World) : Prop :=
  valP Try.prog (Instr.fieldAt 58 a2 2) w fun t22 w =>
  valP Try.prog (Instr.loadAt 3 t22) w fun t23 w =>
  builtinP Try.prog Builtin.min #[3, 3] 3 #[false, false] #[t23, v1] w fun t25 w =>
  valP Try.prog (Instr.fieldAt 58 a2 3) w fun t26 w =>
  valP Try.prog (Instr.loadAt 3 t26) w fun t27 w =>
  builtinP Try.prog Builtin.max #[3, 3] 3 #[false, false] #[t27, v1] w fun t29 w =>
  valP Try.prog (Instr.fieldAt 58 a2 2) w fun t30 w =>
  unitP Try.prog (Instr.storeAt 3 t30 t25) w fun _ w =>
  valP Try.prog (Instr.fieldAt 58 a2 3) w fun t31 w =>
  unitP Try.prog (Instr.storeAt 3 t31 t29) w fun _ w =>
  m41_5 R v1 a2 t4 w
def m41_3 (R : VP) (v1 a2 t4 : Value) (w : World) : Prop :=
  valP Try.prog (Instr.fieldAt 58 a2 1) w fun t17 w =>
  valP Try.prog (Instr.loadAt 3 t17) w fun t18 w =>
  callP Try.prog (fnV 50) #[t18, v1] w fun t20 w =>
  valP Try.prog (Instr.fieldAt 58 a2 1) w fun t21 w =>
  unitP Try.prog (Instr.storeAt 3 t21 t20) w fun _ w =>
  m41_4 R v1 a2 t4 w
def m41_2 (R : VP) (v1 a2 t4 : Value) (w : World) : Prop :=
  valP Try.prog (Instr.fieldAt 58 a2 0) w fun t13 w =>
  valP Try.prog (Instr.loadAt 3 t13) w fun t14 w =>
  callP Try.prog (fnV 50) #[t14, (Value.int IntKind.i64 1)] w fun t15 w =>
  valP Try.prog (Instr.fieldAt 58 a2 0) w fun t16 w =>
  unitP Try.prog (Instr.storeAt 3 t16 t15) w fun _ w =>
  m41_3 R v1 a2 t4 w
def m41_10 (R : VP) (v1 a2 t4 t8 : Value) (w : World) : Prop :=
  condP t8
  (valP Try.prog (Instr.fieldAt 58 a2 2) w fun t11 w =>
  unitP Try.prog (Instr.storeAt 3 t11 v1) w fun _ w =>
  valP Try.prog (Instr.fieldAt 58 a2 3) w fun t12 w =>
  unitP Try.prog (Instr.storeAt 3 t12 v1) w fun _ w =>
  m41_2 R v1 a2 t4 w)
  (m41_2 R v1 a2 t4 w)
def m41_1 (R : VP) (v1 a2 t4 : Value) (w : World) : Prop :=
  valP Try.prog (Instr.fieldAt 58 a2 0) w fun t6 w =>
  valP Try.prog (Instr.loadAt 3 t6) w fun t7 w =>
  valP Try.prog (binS BinOp.eql 3 (Operand.tmp 7) (Operand.const (Value.int IntKind.i64 0)) t7 (Value.int IntKind.i64 0)) w fun t8 w =>
  m41_10 R v1 a2 t4 t8 w
def m41_0 (R : VP) (a0 v1 : Value) (w : World) : Prop :=
  valP Try.prog (Instr.box 58 a0) w fun a2 w =>
  valP Try.prog (Instr.alloc 58 true (.tuple #[])) w fun t4 w =>
  m41_1 R v1 a2 t4 w
abbrev W41 := cwp Try.prog (fun i => cond (Nat.beq i 8) 15 (0))
noncomputable def k41_0 : Code := (bodyOf Try.f41)
noncomputable def k41_1 : Code := (c2 k41_0)
noncomputable def k41_2 : Code := (c2 k41_1)
noncomputable def k41_3 : Code := (c2 k41_2)
noncomputable def k41_4 : Code := (c2 k41_3)
noncomputable def k41_5 : Code := (c2 k41_4)
noncomputable def k41_6 : Code := (c2 k41_5)
noncomputable def k41_7 : Code := (c2 k41_6)
noncomputable def k41_8 : Code := (c2 k41_7)
noncomputable def k41_9 : Code := (c2 k41_8)
noncomputable def k41_10 : Code := (c2 (c1 k41_1))
theorem s41_9 {R : VP} {Q : EQ} (hR : ∀ e w, (valS Try.prog (loadC 58 (e 4)) w fun r0 =>
R r0 w) → Q .ret e w) (e : Env) (w : World) (h : m41_9 R (e 4) w) : W41 k41_9 Q e w := by
  unfold m41_9 at h
  exact reA (hR _ _ h)
theorem s41_8 {R : VP} {Q : EQ} (hR : ∀ e w, (valS Try.prog (loadC 58 (e 4)) w fun r0 =>
R r0 w) → Q .ret e w) (e : Env) (w : World) (h : m41_8 R (e 2) (e 4) w) : W41 k41_8 Q e w := by
  unfold m41_8 at h
  refine seA ?_
  have hN : ∀ e w, (m41_9 R (e 4) w) → (thenE (W41 k41_9 Q) Q) .normal e w := fun e w h => then_N (s41_9 (R := R) (Q := Q) hR e w h)
  exact rgA 9 (fun e w => m41_9 R (e 4) w) h hN
theorem s41_7 {R : VP} {Q : EQ} (hR : ∀ e w, (valS Try.prog (loadC 58 (e 4)) w fun r0 =>
R r0 w) → Q .ret e w) (e : Env) (w : World) (h : m41_7 R (e 2) (e 4) (e 5) w) : W41 k41_7 Q e w := by
  unfold m41_7 at h
  refine seA ?_
  have hN : ∀ e w, (m41_8 R (e 2) (e 4) w) → (thenE (W41 k41_8 Q) Q) .normal e w := fun e w h => then_N (s41_8 (R := R) (Q := Q) hR e w h)
  exact taA 8 13 (fun e w => m41_8 R (e 2) (e 4) w) h hN
theorem s41_6 {R : VP} {Q : EQ} (hR : ∀ e w, (valS Try.prog (loadC 58 (e 4)) w fun r0 =>
R r0 w) → Q .ret e w) (e : Env) (w : World) (h : m41_6 R (e 1) (e 2) (e 4) w) : W41 k41_6 Q e w := by
  unfold m41_6 at h
  refine seA ?_
  have hN : ∀ e w, (m41_7 R (e 2) (e 4) (e 5) w) → (thenE (W41 k41_7 Q) Q) .normal e w := fun e w h => then_N (s41_7 (R := R) (Q := Q) hR e w h)
  exact rgA 7 (fun e w => m41_7 R (e 2) (e 4) (e 5) w) h hN
theorem s41_5 {R : VP} {Q : EQ} (hR : ∀ e w, (valS Try.prog (loadC 58 (e 4)) w fun r0 =>
R r0 w) → Q .ret e w) (e : Env) (w : World) (h : m41_5 R (e 1) (e 2) (e 4) w) : W41 k41_5 Q e w := by
  unfold m41_5 at h
  refine seA ?_
  have hN : ∀ e w, (m41_6 R (e 1) (e 2) (e 4) w) → (thenE (W41 k41_6 Q) Q) .normal e w := fun e w h => then_N (s41_6 (R := R) (Q := Q) hR e w h)
  exact rgA 6 (fun e w => m41_6 R (e 1) (e 2) (e 4) w) h hN
theorem s41_4 {R : VP} {Q : EQ} (hR : ∀ e w, (valS Try.prog (loadC 58 (e 4)) w fun r0 =>
R r0 w) → Q .ret e w) (e : Env) (w : World) (h : m41_4 R (e 1) (e 2) (e 4) w) : W41 k41_4 Q e w := by
  unfold m41_4 at h
  refine seA ?_
  have hN : ∀ e w, (m41_5 R (e 1) (e 2) (e 4) w) → (thenE (W41 k41_5 Q) Q) .normal e w := fun e w h => then_N (s41_5 (R := R) (Q := Q) hR e w h)
  exact rgA 5 (fun e w => m41_5 R (e 1) (e 2) (e 4) w) h hN
theorem s41_3 {R : VP} {Q : EQ} (hR : ∀ e w, (valS Try.prog (loadC 58 (e 4)) w fun r0 =>
R r0 w) → Q .ret e w) (e : Env) (w : World) (h : m41_3 R (e 1) (e 2) (e 4) w) : W41 k41_3 Q e w := by
  unfold m41_3 at h
  refine seA ?_
  have hN : ∀ e w, (m41_4 R (e 1) (e 2) (e 4) w) → (thenE (W41 k41_4 Q) Q) .normal e w := fun e w h => then_N (s41_4 (R := R) (Q := Q) hR e w h)
  exact rgA 4 (fun e w => m41_4 R (e 1) (e 2) (e 4) w) h hN
theorem s41_2 {R : VP} {Q : EQ} (hR : ∀ e w, (valS Try.prog (loadC 58 (e 4)) w fun r0 =>
R r0 w) → Q .ret e w) (e : Env) (w : World) (h : m41_2 R (e 1) (e 2) (e 4) w) : W41 k41_2 Q e w := by
  unfold m41_2 at h
  refine seA ?_
  have hN : ∀ e w, (m41_3 R (e 1) (e 2) (e 4) w) → (thenE (W41 k41_3 Q) Q) .normal e w := fun e w h => then_N (s41_3 (R := R) (Q := Q) hR e w h)
  exact rgA 3 (fun e w => m41_3 R (e 1) (e 2) (e 4) w) h hN
theorem s41_10 {R : VP} {Q : EQ} (hN : ∀ e w, (m41_2 R (e 1) (e 2) (e 4) w) → Q .normal e w) (e : Env) (w : World) (h : m41_10 R (e 1) (e 2) (e 4) (e 8) w) : W41 k41_10 Q e w := by
  unfold m41_10 at h
  refine coA (Operand.tmp 8) h (fun h1 => ?_) (fun h1 => ?_)
  · exact rgA 2 (fun e w => m41_2 R (e 1) (e 2) (e 4) w) h1 hN
  · exact skA (hN _ _ h1)
theorem s41_1 {R : VP} {Q : EQ} (hR : ∀ e w, (valS Try.prog (loadC 58 (e 4)) w fun r0 =>
R r0 w) → Q .ret e w) (e : Env) (w : World) (h : m41_1 R (e 1) (e 2) (e 4) w) : W41 k41_1 Q e w := by
  unfold m41_1 at h
  refine seA ?_
  have hN : ∀ e w, (m41_2 R (e 1) (e 2) (e 4) w) → (thenE (W41 k41_2 Q) Q) .normal e w := fun e w h => then_N (s41_2 (R := R) (Q := Q) hR e w h)
  refine seA ?_
  have hN : ∀ e w, (m41_10 R (e 1) (e 2) (e 4) (e 8) w) → (thenE (W41 k41_10 (thenE (W41 k41_2 Q) Q)) (thenE (W41 k41_2 Q) Q)) .normal e w := fun e w h => then_N (s41_10 (R := R) (Q := (thenE (W41 k41_2 Q) Q)) hN e w h)
  exact rgA 1 (fun e w => m41_10 R (e 1) (e 2) (e 4) (e 8) w) h hN
theorem s41_0 {R : VP} {Q : EQ} (hR : ∀ e w, (valS Try.prog (loadC 58 (e 4)) w fun r0 =>
R r0 w) → Q .ret e w) (e : Env) (w : World) (h : m41_0 R (e 0) (e 1) w) : W41 k41_0 Q e w := by
  unfold m41_0 at h
  refine seA ?_
  have hN : ∀ e w, (m41_1 R (e 1) (e 2) (e 4) w) → (thenE (W41 k41_1 Q) Q) .normal e w := fun e w h => then_N (s41_1 (R := R) (Q := Q) hR e w h)
  exact rgA 0 (fun e w => m41_1 R (e 1) (e 2) (e 4) w) h hN
abbrev m41 (R : VP) (a0 v1 : Value) (w : World) : Prop := m41_0 R a0 v1 w
theorem s41 (a0 v1 : Value) {R : VP} {w : World} (h : m41 R a0 v1 w) :
    Calls Try.prog 41 #[a0, v1] w fun e w' => ∃ v, e = .returned v ∧ R v w' :=
  calls_of_cwp (st := (fun i => cond (Nat.beq i 8) 15 (0))) (c := k41_0) (by kernel_rfl) Try.func41 (by kernel_rfl) (Nat.le_of_ble_eq_true (by kernel_rfl)) (by kernel_rfl)
    (s41_0 (R := R) (Q := endE Try.prog Try.f41 R) (fun e w h => kcast (by kernel_rfl) h) (argsE #[a0, v1]) w (kcast (by kernel_rfl) h))
/-! ### headgate/headgateref15.Add -/
def m42_14 (R : VP) (t4 : Value) (w : World) : Prop :=
  valS Try.prog (loadC 58 t4) w fun r0 =>
  R r0 w
def m42_13 (R : VP) (t4 b5 : Value) (w : World) : Prop :=
  valP Try.prog (Instr.loadAt 58 b5) w fun t78 w =>
  unitP Try.prog (Instr.storeAt 58 t4 t78) w fun _ w =>
  m42_14 R t4 w
def m42_15 (R : VP) (a2 t4 b5 t73 : Value) (w : World) : Prop :=
  condP t73
  (valP Try.prog (Instr.fieldAt 58 a2 6) w fun t74 w =>
  valP Try.prog (Instr.loadAt 3 t74) w fun t75 w =>
  callP Try.prog (fnV 53) #[t75, (Value.int IntKind.i64 (-1))] w fun t76 w =>
  valP Try.prog (Instr.fieldAt 58 b5 6) w fun t77 w =>
  unitP Try.prog (Instr.storeAt 3 t77 t76) w fun _ w =>
  m42_13 R t4 b5 w)
  (m42_13 R t4 b5 w)
def m42_12 (R : VP) (a2 t4 b5 quarter7 : Value) (w : World) : Prop :=
  valP Try.prog (binS BinOp.eql 3 (Operand.tmp 72) (Operand.const (Value.int IntKind.i64 3)) quarter7 (Value.int IntKind.i64 3)) w fun t73 w =>
  m42_15 R a2 t4 b5 t73 w
def m42_16 (R : VP) (a2 t4 b5 quarter7 t67 : Value) (w : World) : Prop :=
  condP t67
  (valP Try.prog (Instr.fieldAt 58 a2 5) w fun t68 w =>
  valP Try.prog (Instr.loadAt 3 t68) w fun t69 w =>
  callP Try.prog (fnV 53) #[t69, (Value.int IntKind.i64 (-1))] w fun t70 w =>
  valP Try.prog (Instr.fieldAt 58 b5 5) w fun t71 w =>
  unitP Try.prog (Instr.storeAt 3 t71 t70) w fun _ w =>
  m42_12 R a2 t4 b5 quarter7 w)
  (m42_12 R a2 t4 b5 quarter7 w)
def m42_11 (R : VP) (a2 t4 b5 quarter7 : Value) (w : World) : Prop :=
  valP Try.prog (binS BinOp.eql 3 (Operand.tmp 66) (Operand.const (Value.int IntKind.i64 2)) quarter7 (Value.int IntKind.i64 2)) w fun t67 w =>
  m42_16 R a2 t4 b5 quarter7 t67 w
def m42_17 (R : VP) (a2 t4 b5 quarter7 t61 : Value) (w : World) : Prop :=
  condP t61
  (valP Try.prog (Instr.fieldAt 58 a2 6) w fun t62 w =>
  valP Try.prog (Instr.loadAt 3 t62) w fun t63 w =>
  callP Try.prog (fnV 53) #[t63, (Value.int IntKind.i64 1)] w fun t64 w =>
  valP Try.prog (Instr.fieldAt 58 b5 6) w fun t65 w =>
  unitP Try.prog (Instr.storeAt 3 t65 t64) w fun _ w =>
  m42_11 R a2 t4 b5 quarter7 w)
  (m42_11 R a2 t4 b5 quarter7 w)
def m42_10 (R : VP) (a2 t4 b5 quarter7 : Value) (w : World) : Prop :=
  valP Try.prog (binS BinOp.eql 3 (Operand.tmp 60) (Operand.const (Value.int IntKind.i64 1)) quarter7 (Value.int IntKind.i64 1)) w fun t61 w =>
  m42_17 R a2 t4 b5 quarter7 t61 w
def m42_18 (R : VP) (a2 t4 b5 quarter7 t55 : Value) (w : World) : Prop :=
  condP t55
  (valP Try.prog (Instr.fieldAt 58 a2 5) w fun t56 w =>
  valP Try.prog (Instr.loadAt 3 t56) w fun t57 w =>
  callP Try.prog (fnV 53) #[t57, (Value.int IntKind.i64 1)] w fun t58 w =>
  valP Try.prog (Instr.fieldAt 58 b5 5) w fun t59 w =>
  unitP Try.prog (Instr.storeAt 3 t59 t58) w fun _ w =>
  m42_10 R a2 t4 b5 quarter7 w)
  (m42_10 R a2 t4 b5 quarter7 w)
def m42_9 (R : VP) (a2 t4 b5 quarter7 : Value) (w : World) : Prop :=
  valP Try.prog (binS BinOp.eql 3 (Operand.tmp 54) (Operand.const (Value.int IntKind.i64 0)) quarter7 (Value.int IntKind.i64 0)) w fun t55 w =>
  m42_18 R a2 t4 b5 quarter7 t55 w
def m42_8 (R : VP) (v1 a2 t4 b5 : Value) (w : World) : Prop :=
  valP Try.prog (binS BinOp.rem 3 (Operand.tmp 50) (Operand.const (Value.int IntKind.i64 4)) v1 (Value.int IntKind.i64 4)) w fun t51 w =>
  valP Try.prog (binS BinOp.add 3 (Operand.tmp 51) (Operand.const (Value.int IntKind.i64 4)) t51 (Value.int IntKind.i64 4)) w fun t52 w =>
  valP Try.prog (binS BinOp.rem 3 (Operand.tmp 52) (Operand.const (Value.int IntKind.i64 4)) t52 (Value.int IntKind.i64 4)) w fun t53 w =>
  m42_9 R a2 t4 b5 t53 w
def m42_7 (R : VP) (v1 a2 t4 b5 k6 : Value) (w : World) : Prop :=
  valP Try.prog (Instr.fieldAt 58 a2 4) w fun t44 w =>
  valP Try.prog (Instr.indexAt 56 t44 k6) w fun t45 w =>
  valP Try.prog (Instr.loadAt 3 t45) w fun t46 w =>
  callP Try.prog (fnV 53) #[t46, (Value.int IntKind.i64 1)] w fun t47 w =>
  valP Try.prog (Instr.fieldAt 58 b5 4) w fun t48 w =>
  valP Try.prog (Instr.indexAt 56 t48 k6) w fun t49 w =>
  unitP Try.prog (Instr.storeAt 3 t49 t47) w fun _ w =>
  m42_8 R v1 a2 t4 b5 w
def m42_6 (R : VP) (v1 a2 t4 b5 : Value) (w : World) : Prop :=
  callP Try.prog (fnV 54) #[v1] w fun t41 w =>
  m42_7 R v1 a2 t4 b5 t41 w
def m42_5 (R : VP) (v1 a2 t4 b5 : Value) (w : World) : Prop :=
  valP Try.prog (Instr.fieldAt 58 a2 1) w fun t35 w =>
  valP Try.prog (Instr.loadAt 3 t35) w fun t36 w =>
  callP Try.prog (fnV 53) #[t36, v1] w fun t38 w =>
  valP Try.prog (Instr.fieldAt 58 b5 1) w fun t39 w =>
  unitP Try.prog (Instr.storeAt 3 t39 t38) w fun _ w =>
  m42_6 R v1 a2 t4 b5 w
def m42_4 (R : VP) (v1 a2 t4 b5 : Value) (w : World) : Prop :=
  valP Try.prog (Instr.fieldAt 58 a2 0) w fun t31 w =>
  valP Try.prog (Instr.loadAt 3 t31) w fun t32 w =>
  callP Try.prog (fnV 53) #[t32, (Value.int IntKind.i64 1)] w fun t33 w =>
  valP Try.prog (Instr.fieldAt 58 b5 0) w fun t34 w =>
  unitP Try.prog (Instr.storeAt 3 t34 t33) w fun _ w =>
  m42_5 R v1 a2 t4 b5 w
def m42_19 (R : VP) (v1 a2 t4 b5 t28 : Value) (w : World) : Prop :=
  condP t28
  (valP Try.prog (Instr.fieldAt 58 b5 3) w fun t30 w =>
  unitP Try.prog (Instr.storeAt 3 t30 v1) w fun _ w =>
  m42_4 R v1 a2 t4 b5 w)
  (m42_4 R v1 a2 t4 b5 w)
def m42_3 (R : VP) (v1 a2 t4 b5 : Value) (w : World) : Prop :=
  valP Try.prog (Instr.fieldAt 58 a2 0) w fun t20 w =>
  valP Try.prog (Instr.loadAt 3 t20) w fun t21 w =>
  valP Try.prog (binS BinOp.eql 3 (Operand.tmp 21) (Operand.const (Value.int IntKind.i64 0)) t21 (Value.int IntKind.i64 0)) w fun t22 w =>
  condP t22
  (pickP t22 (Value.bool true) undef fun t28 =>
  m42_19 R v1 a2 t4 b5 t28 w)
  (valP Try.prog (Instr.fieldAt 58 a2 3) w fun t25 w =>
  valP Try.prog (Instr.loadAt 3 t25) w fun t26 w =>
  valP Try.prog (binS BinOp.gtr 3 (Operand.tmp 24) (Operand.tmp 26) v1 t26) w fun t27 w =>
  pickP t22 (Value.bool true) t27 fun t28 =>
  m42_19 R v1 a2 t4 b5 t28 w)
def m42_20 (R : VP) (v1 a2 t4 b5 t17 : Value) (w : World) : Prop :=
  condP t17
  (valP Try.prog (Instr.fieldAt 58 b5 2) w fun t19 w =>
  unitP Try.prog (Instr.storeAt 3 t19 v1) w fun _ w =>
  m42_3 R v1 a2 t4 b5 w)
  (m42_3 R v1 a2 t4 b5 w)
def m42_2 (R : VP) (v1 a2 t4 b5 : Value) (w : World) : Prop :=
  valP Try.prog (Instr.fieldAt 58 a2 0) w fun t9 w =>
  valP Try.prog (Instr.loadAt 3 t9) w fun t10 w =>
  valP Try.prog (binS BinOp.eql 3 (Operand.tmp 10) (Operand.const (Value.int IntKind.i64 0)) t10 (Value.int IntKind.i64 0)) w fun t11 w =>
  condP t11
  (pickP t11 (Value.bool true) undef fun t17 =>
  m42_20 R v1 a2 t4 b5 t17 w)
  (valP Try.prog (Instr.fieldAt 58 a2 2) w fun t14 w =>
  valP Try.prog (Instr.loadAt 3 t14) w fun t15 w =>
  valP Try.prog (binS BinOp.lss 3 (Operand.tmp 13) (Operand.tmp 15) v1 t15) w fun t16 w =>
  pickP t11 (Value.bool true) t16 fun t17 =>
  m42_20 R v1 a2 t4 b5 t17 w)
def m42_1 (R : VP) (v1 a2 t4 : Value) (w : World) : Prop :=
  valP Try.prog (Instr.loadAt 58 a2) w fun t8 w =>
  valP Try.prog (Instr.alloc 58 true (.tuple #[])) w fun b5 w =>
  unitP Try.prog (Instr.storeAt 58 b5 t8) w fun _ w =>
  m42_2 R v1 a2 t4 b5 w
def m42_0 (R : VP) (a0 v1 : Value) (w : World) : Prop :=
  valP Try.prog (Instr.box 58 a0) w fun a2 w =>
  valP Try.prog (Instr.alloc 58 true (.tuple #[])) w fun t4 w =>
  m42_1 R v1 a2 t4 w
abbrev W42 := cwp Try.prog (fun i => 0)
noncomputable def k42_0 : Code := (bodyOf Try.f42)
noncomputable def k42_1 : Code := (c2 k42_0)
noncomputable def k42_2 : Code := (c2 k42_1)
noncomputable def k42_3 : Code := (c2 k42_2)
noncomputable def k42_4 : Code := (c2 k42_3)
noncomputable def k42_5 : Code := (c2 k42_4)
noncomputable def k42_6 : Code := (c2 k42_5)
noncomputable def k42_7 : Code := (c2 k42_6)
noncomputable def k42_8 : Code := (c2 k42_7)
noncomputable def k42_9 : Code := (c2 k42_8)
noncomputable def k42_10 : Code := (c2 k42_9)
noncomputable def k42_11 : Code := (c2 k42_10)
noncomputable def k42_12 : Code := (c2 k42_11)
noncomputable def k42_13 : Code := (c2 k42_12)
noncomputable def k42_14 : Code := (c2 k42_13)
noncomputable def k42_15 : Code := (c2 (c1 k42_12))
noncomputable def k42_16 : Code := (c2 (c1 k42_11))
noncomputable def k42_17 : Code := (c2 (c1 k42_10))
noncomputable def k42_18 : Code := (c2 (c1 k42_9))
noncomputable def k42_19 : Code := (c2 (c1 k42_3))
noncomputable def k42_20 : Code := (c2 (c1 k42_2))
theorem s42_14 {R : VP} {Q : EQ} (hR : ∀ e w, (valS Try.prog (loadC 58 (e 4)) w fun r0 =>
R r0 w) → Q .ret e w) (e : Env) (w : World) (h : m42_14 R (e 4) w) : W42 k42_14 Q e w := by
  unfold m42_14 at h
  exact reA (hR _ _ h)
theorem s42_13 {R : VP} {Q : EQ} (hR : ∀ e w, (valS Try.prog (loadC 58 (e 4)) w fun r0 =>
R r0 w) → Q .ret e w) (e : Env) (w : World) (h : m42_13 R (e 4) (e 5) w) : W42 k42_13 Q e w := by
  unfold m42_13 at h
  refine seA ?_
  have hN : ∀ e w, (m42_14 R (e 4) w) → (thenE (W42 k42_14 Q) Q) .normal e w := fun e w h => then_N (s42_14 (R := R) (Q := Q) hR e w h)
  exact rgA 19 (fun e w => m42_14 R (e 4) w) h hN
theorem s42_15 {R : VP} {Q : EQ} (hN : ∀ e w, (m42_13 R (e 4) (e 5) w) → Q .normal e w) (e : Env) (w : World) (h : m42_15 R (e 2) (e 4) (e 5) (e 73) w) : W42 k42_15 Q e w := by
  unfold m42_15 at h
  refine coA (Operand.tmp 73) h (fun h1 => ?_) (fun h1 => ?_)
  · exact rgA 18 (fun e w => m42_13 R (e 4) (e 5) w) h1 hN
  · exact skA (hN _ _ h1)
theorem s42_12 {R : VP} {Q : EQ} (hR : ∀ e w, (valS Try.prog (loadC 58 (e 4)) w fun r0 =>
R r0 w) → Q .ret e w) (e : Env) (w : World) (h : m42_12 R (e 2) (e 4) (e 5) (e 7) w) : W42 k42_12 Q e w := by
  unfold m42_12 at h
  refine seA ?_
  have hN : ∀ e w, (m42_13 R (e 4) (e 5) w) → (thenE (W42 k42_13 Q) Q) .normal e w := fun e w h => then_N (s42_13 (R := R) (Q := Q) hR e w h)
  refine seA ?_
  have hN : ∀ e w, (m42_15 R (e 2) (e 4) (e 5) (e 73) w) → (thenE (W42 k42_15 (thenE (W42 k42_13 Q) Q)) (thenE (W42 k42_13 Q) Q)) .normal e w := fun e w h => then_N (s42_15 (R := R) (Q := (thenE (W42 k42_13 Q) Q)) hN e w h)
  exact rgA 17 (fun e w => m42_15 R (e 2) (e 4) (e 5) (e 73) w) h hN
theorem s42_16 {R : VP} {Q : EQ} (hN : ∀ e w, (m42_12 R (e 2) (e 4) (e 5) (e 7) w) → Q .normal e w) (e : Env) (w : World) (h : m42_16 R (e 2) (e 4) (e 5) (e 7) (e 67) w) : W42 k42_16 Q e w := by
  unfold m42_16 at h
  refine coA (Operand.tmp 67) h (fun h1 => ?_) (fun h1 => ?_)
  · exact rgA 16 (fun e w => m42_12 R (e 2) (e 4) (e 5) (e 7) w) h1 hN
  · exact skA (hN _ _ h1)
theorem s42_11 {R : VP} {Q : EQ} (hR : ∀ e w, (valS Try.prog (loadC 58 (e 4)) w fun r0 =>
R r0 w) → Q .ret e w) (e : Env) (w : World) (h : m42_11 R (e 2) (e 4) (e 5) (e 7) w) : W42 k42_11 Q e w := by
  unfold m42_11 at h
  refine seA ?_
  have hN : ∀ e w, (m42_12 R (e 2) (e 4) (e 5) (e 7) w) → (thenE (W42 k42_12 Q) Q) .normal e w := fun e w h => then_N (s42_12 (R := R) (Q := Q) hR e w h)
  refine seA ?_
  have hN : ∀ e w, (m42_16 R (e 2) (e 4) (e 5) (e 7) (e 67) w) → (thenE (W42 k42_16 (thenE (W42 k42_12 Q) Q)) (thenE (W42 k42_12 Q) Q)) .normal e w := fun e w h => then_N (s42_16 (R := R) (Q := (thenE (W42 k42_12 Q) Q)) hN e w h)
  exact rgA 15 (fun e w => m42_16 R (e 2) (e 4) (e 5) (e 7) (e 67) w) h hN
theorem s42_17 {R : VP} {Q : EQ} (hN : ∀ e w, (m42_11 R (e 2) (e 4) (e 5) (e 7) w) → Q .normal e w) (e : Env) (w : World) (h : m42_17 R (e 2) (e 4) (e 5) (e 7) (e 61) w) : W42 k42_17 Q e w := by
  unfold m42_17 at h
  refine coA (Operand.tmp 61) h (fun h1 => ?_) (fun h1 => ?_)
  · exact rgA 14 (fun e w => m42_11 R (e 2) (e 4) (e 5) (e 7) w) h1 hN
  · exact skA (hN _ _ h1)
theorem s42_10 {R : VP} {Q : EQ} (hR : ∀ e w, (valS Try.prog (loadC 58 (e 4)) w fun r0 =>
R r0 w) → Q .ret e w) (e : Env) (w : World) (h : m42_10 R (e 2) (e 4) (e 5) (e 7) w) : W42 k42_10 Q e w := by
  unfold m42_10 at h
  refine seA ?_
  have hN : ∀ e w, (m42_11 R (e 2) (e 4) (e 5) (e 7) w) → (thenE (W42 k42_11 Q) Q) .normal e w := fun e w h => then_N (s42_11 (R := R) (Q := Q) hR e w h)
  refine seA ?_
  have hN : ∀ e w, (m42_17 R (e 2) (e 4) (e 5) (e 7) (e 61) w) → (thenE (W42 k42_17 (thenE (W42 k42_11 Q) Q)) (thenE (W42 k42_11 Q) Q)) .normal e w := fun e w h => then_N (s42_17 (R := R) (Q := (thenE (W42 k42_11 Q) Q)) hN e w h)
  exact rgA 13 (fun e w => m42_17 R (e 2) (e 4) (e 5) (e 7) (e 61) w) h hN
theorem s42_18 {R : VP} {Q : EQ} (hN : ∀ e w, (m42_10 R (e 2) (e 4) (e 5) (e 7) w) → Q .normal e w) (e : Env) (w : World) (h : m42_18 R (e 2) (e 4) (e 5) (e 7) (e 55) w) : W42 k42_18 Q e w := by
  unfold m42_18 at h
  refine coA (Operand.tmp 55) h (fun h1 => ?_) (fun h1 => ?_)
  · exact rgA 12 (fun e w => m42_10 R (e 2) (e 4) (e 5) (e 7) w) h1 hN
  · exact skA (hN _ _ h1)
theorem s42_9 {R : VP} {Q : EQ} (hR : ∀ e w, (valS Try.prog (loadC 58 (e 4)) w fun r0 =>
R r0 w) → Q .ret e w) (e : Env) (w : World) (h : m42_9 R (e 2) (e 4) (e 5) (e 7) w) : W42 k42_9 Q e w := by
  unfold m42_9 at h
  refine seA ?_
  have hN : ∀ e w, (m42_10 R (e 2) (e 4) (e 5) (e 7) w) → (thenE (W42 k42_10 Q) Q) .normal e w := fun e w h => then_N (s42_10 (R := R) (Q := Q) hR e w h)
  refine seA ?_
  have hN : ∀ e w, (m42_18 R (e 2) (e 4) (e 5) (e 7) (e 55) w) → (thenE (W42 k42_18 (thenE (W42 k42_10 Q) Q)) (thenE (W42 k42_10 Q) Q)) .normal e w := fun e w h => then_N (s42_18 (R := R) (Q := (thenE (W42 k42_10 Q) Q)) hN e w h)
  exact rgA 11 (fun e w => m42_18 R (e 2) (e 4) (e 5) (e 7) (e 55) w) h hN
theorem s42_8 {R : VP} {Q : EQ} (hR : ∀ e w, (valS Try.prog (loadC 58 (e 4)) w fun r0 =>
R r0 w) → Q .ret e w) (e : Env) (w : World) (h : m42_8 R (e 1) (e 2) (e 4) (e 5) w) : W42 k42_8 Q e w := by
  unfold m42_8 at h
  refine seA ?_
  have hN : ∀ e w, (m42_9 R (e 2) (e 4) (e 5) (e 7) w) → (thenE (W42 k42_9 Q) Q) .normal e w := fun e w h => then_N (s42_9 (R := R) (Q := Q) hR e w h)
  exact rgA 10 (fun e w => m42_9 R (e 2) (e 4) (e 5) (e 7) w) h hN
theorem s42_7 {R : VP} {Q : EQ} (hR : ∀ e w, (valS Try.prog (loadC 58 (e 4)) w fun r0 =>
R r0 w) → Q .ret e w) (e : Env) (w : World) (h : m42_7 R (e 1) (e 2) (e 4) (e 5) (e 6) w) : W42 k42_7 Q e w := by
  unfold m42_7 at h
  refine seA ?_
  have hN : ∀ e w, (m42_8 R (e 1) (e 2) (e 4) (e 5) w) → (thenE (W42 k42_8 Q) Q) .normal e w := fun e w h => then_N (s42_8 (R := R) (Q := Q) hR e w h)
  exact rgA 9 (fun e w => m42_8 R (e 1) (e 2) (e 4) (e 5) w) h hN
theorem s42_6 {R : VP} {Q : EQ} (hR : ∀ e w, (valS Try.prog (loadC 58 (e 4)) w fun r0 =>
R r0 w) → Q .ret e w) (e : Env) (w : World) (h : m42_6 R (e 1) (e 2) (e 4) (e 5) w) : W42 k42_6 Q e w := by
  unfold m42_6 at h
  refine seA ?_
  have hN : ∀ e w, (m42_7 R (e 1) (e 2) (e 4) (e 5) (e 6) w) → (thenE (W42 k42_7 Q) Q) .normal e w := fun e w h => then_N (s42_7 (R := R) (Q := Q) hR e w h)
  exact rgA 8 (fun e w => m42_7 R (e 1) (e 2) (e 4) (e 5) (e 6) w) h hN
theorem s42_5 {R : VP} {Q : EQ} (hR : ∀ e w, (valS Try.prog (loadC 58 (e 4)) w fun r0 =>
R r0 w) → Q .ret e w) (e : Env) (w : World) (h : m42_5 R (e 1) (e 2) (e 4) (e 5) w) : W42 k42_5 Q e w := by
  unfold m42_5 at h
  refine seA ?_
  have hN : ∀ e w, (m42_6 R (e 1) (e 2) (e 4) (e 5) w) → (thenE (W42 k42_6 Q) Q) .normal e w := fun e w h => then_N (s42_6 (R := R) (Q := Q) hR e w h)
  exact rgA 7 (fun e w => m42_6 R (e 1) (e 2) (e 4) (e 5) w) h hN
theorem s42_4 {R : VP} {Q : EQ} (hR : ∀ e w, (valS Try.prog (loadC 58 (e 4)) w fun r0 =>
R r0 w) → Q .ret e w) (e : Env) (w : World) (h : m42_4 R (e 1) (e 2) (e 4) (e 5) w) : W42 k42_4 Q e w := by
  unfold m42_4 at h
  refine seA ?_
  have hN : ∀ e w, (m42_5 R (e 1) (e 2) (e 4) (e 5) w) → (thenE (W42 k42_5 Q) Q) .normal e w := fun e w h => then_N (s42_5 (R := R) (Q := Q) hR e w h)
  exact rgA 6 (fun e w => m42_5 R (e 1) (e 2) (e 4) (e 5) w) h hN
theorem s42_19 {R : VP} {Q : EQ} (hN : ∀ e w, (m42_4 R (e 1) (e 2) (e 4) (e 5) w) → Q .normal e w) (e : Env) (w : World) (h : m42_19 R (e 1) (e 2) (e 4) (e 5) (e 28) w) : W42 k42_19 Q e w := by
  unfold m42_19 at h
  refine coA (Operand.tmp 28) h (fun h1 => ?_) (fun h1 => ?_)
  · exact rgA 5 (fun e w => m42_4 R (e 1) (e 2) (e 4) (e 5) w) h1 hN
  · exact skA (hN _ _ h1)
theorem s42_3 {R : VP} {Q : EQ} (hR : ∀ e w, (valS Try.prog (loadC 58 (e 4)) w fun r0 =>
R r0 w) → Q .ret e w) (e : Env) (w : World) (h : m42_3 R (e 1) (e 2) (e 4) (e 5) w) : W42 k42_3 Q e w := by
  unfold m42_3 at h
  refine seA ?_
  have hN : ∀ e w, (m42_4 R (e 1) (e 2) (e 4) (e 5) w) → (thenE (W42 k42_4 Q) Q) .normal e w := fun e w h => then_N (s42_4 (R := R) (Q := Q) hR e w h)
  refine seA ?_
  have hN : ∀ e w, (m42_19 R (e 1) (e 2) (e 4) (e 5) (e 28) w) → (thenE (W42 k42_19 (thenE (W42 k42_4 Q) Q)) (thenE (W42 k42_4 Q) Q)) .normal e w := fun e w h => then_N (s42_19 (R := R) (Q := (thenE (W42 k42_4 Q) Q)) hN e w h)
  exact rgA 4 (fun e w => m42_19 R (e 1) (e 2) (e 4) (e 5) (e 28) w) h hN
theorem s42_20 {R : VP} {Q : EQ} (hN : ∀ e w, (m42_3 R (e 1) (e 2) (e 4) (e 5) w) → Q .normal e w) (e : Env) (w : World) (h : m42_20 R (e 1) (e 2) (e 4) (e 5) (e 17) w) : W42 k42_20 Q e w := by
  unfold m42_20 at h
  refine coA (Operand.tmp 17) h (fun h1 => ?_) (fun h1 => ?_)
  · exact rgA 3 (fun e w => m42_3 R (e 1) (e 2) (e 4) (e 5) w) h1 hN
  · exact skA (hN _ _ h1)
theorem s42_2 {R : VP} {Q : EQ} (hR : ∀ e w, (valS Try.prog (loadC 58 (e 4)) w fun r0 =>
R r0 w) → Q .ret e w) (e : Env) (w : World) (h : m42_2 R (e 1) (e 2) (e 4) (e 5) w) : W42 k42_2 Q e w := by
  unfold m42_2 at h
  refine seA ?_
  have hN : ∀ e w, (m42_3 R (e 1) (e 2) (e 4) (e 5) w) → (thenE (W42 k42_3 Q) Q) .normal e w := fun e w h => then_N (s42_3 (R := R) (Q := Q) hR e w h)
  refine seA ?_
  have hN : ∀ e w, (m42_20 R (e 1) (e 2) (e 4) (e 5) (e 17) w) → (thenE (W42 k42_20 (thenE (W42 k42_3 Q) Q)) (thenE (W42 k42_3 Q) Q)) .normal e w := fun e w h => then_N (s42_20 (R := R) (Q := (thenE (W42 k42_3 Q) Q)) hN e w h)
  exact rgA 2 (fun e w => m42_20 R (e 1) (e 2) (e 4) (e 5) (e 17) w) h hN
theorem s42_1 {R : VP} {Q : EQ} (hR : ∀ e w, (valS Try.prog (loadC 58 (e 4)) w fun r0 =>
R r0 w) → Q .ret e w) (e : Env) (w : World) (h : m42_1 R (e 1) (e 2) (e 4) w) : W42 k42_1 Q e w := by
  unfold m42_1 at h
  refine seA ?_
  have hN : ∀ e w, (m42_2 R (e 1) (e 2) (e 4) (e 5) w) → (thenE (W42 k42_2 Q) Q) .normal e w := fun e w h => then_N (s42_2 (R := R) (Q := Q) hR e w h)
  exact rgA 1 (fun e w => m42_2 R (e 1) (e 2) (e 4) (e 5) w) h hN
theorem s42_0 {R : VP} {Q : EQ} (hR : ∀ e w, (valS Try.prog (loadC 58 (e 4)) w fun r0 =>
R r0 w) → Q .ret e w) (e : Env) (w : World) (h : m42_0 R (e 0) (e 1) w) : W42 k42_0 Q e w := by
  unfold m42_0 at h
  refine seA ?_
  have hN : ∀ e w, (m42_1 R (e 1) (e 2) (e 4) w) → (thenE (W42 k42_1 Q) Q) .normal e w := fun e w h => then_N (s42_1 (R := R) (Q := Q) hR e w h)
  exact rgA 0 (fun e w => m42_1 R (e 1) (e 2) (e 4) w) h hN
abbrev m42 (R : VP) (a0 v1 : Value) (w : World) : Prop := m42_0 R a0 v1 w
theorem s42 (a0 v1 : Value) {R : VP} {w : World} (h : m42 R a0 v1 w) :
    Calls Try.prog 42 #[a0, v1] w fun e w' => ∃ v, e = .returned v ∧ R v w' :=
  calls_of_cwp (st := (fun i => 0)) (c := k42_0) (by kernel_rfl) Try.func42 (by kernel_rfl) (Nat.le_of_ble_eq_true (by kernel_rfl)) (by kernel_rfl)
    (s42_0 (R := R) (Q := endE Try.prog Try.f42 R) (fun e w h => kcast (by kernel_rfl) h) (argsE #[a0, v1]) w (kcast (by kernel_rfl) h))
/-! ### headgate/fold.plus -/
def m50_4 (R : VP) (t4 : Value) (w : World) : Prop :=
  R t4 w
def m50_6 (R : VP) (t4 : Value) (w : World) : Prop :=
  R t4 w
def m50_7 (R : VP) (t4 : Value) (w : World) : Prop :=
  R t4 w
def m50_5 (R : VP) (n5 t18 : Value) (w : World) : Prop :=
  condP t18
  (m50_6 R (Value.int IntKind.i64 (-9223372036854775808)) w)
  (m50_7 R n5 w)
def m50_3 (R : VP) (a0 b1 n5 t10 : Value) (w : World) : Prop :=
  condP t10
  (m50_4 R (Value.int IntKind.i64 9223372036854775807) w)
  (valP Try.prog (binS BinOp.lss 3 (Operand.tmp 19) (Operand.const (Value.int IntKind.i64 0)) b1 (Value.int IntKind.i64 0)) w fun t20 w =>
  condP t20
  (valP Try.prog (binS BinOp.gtr 3 (Operand.tmp 22) (Operand.tmp 23) n5 a0) w fun t24 w =>
  pickP t20 t24 (Value.bool false) fun t25 =>
  m50_5 R n5 t25 w)
  (pickP t20 undef (Value.bool false) fun t25 =>
  m50_5 R n5 t25 w))
def m50_2 (R : VP) (a0 b1 n5 : Value) (w : World) : Prop :=
  valP Try.prog (binS BinOp.gtr 3 (Operand.tmp 11) (Operand.const (Value.int IntKind.i64 0)) b1 (Value.int IntKind.i64 0)) w fun t12 w =>
  condP t12
  (valP Try.prog (binS BinOp.lss 3 (Operand.tmp 14) (Operand.tmp 15) n5 a0) w fun t16 w =>
  pickP t12 t16 (Value.bool false) fun t17 =>
  m50_3 R a0 b1 n5 t17 w)
  (pickP t12 undef (Value.bool false) fun t17 =>
  m50_3 R a0 b1 n5 t17 w)
def m50_1 (R : VP) (a0 b1 : Value) (w : World) : Prop :=
  valP Try.prog (binS BinOp.add 3 (Operand.tmp 6) (Operand.tmp 7) a0 b1) w fun t8 w =>
  m50_2 R a0 b1 t8 w
def m50_0 (R : VP) (a0 b1 : Value) (w : World) : Prop :=
  m50_1 R a0 b1 w
abbrev W50 := cwp Try.prog (fun i => 0)
noncomputable def k50_0 : Code := (bodyOf Try.f50)
noncomputable def k50_1 : Code := (c2 k50_0)
noncomputable def k50_2 : Code := (c2 k50_1)
noncomputable def k50_3 : Code := (c2 (c1 k50_2))
noncomputable def k50_4 : Code := (c2 (c1 k50_3))
noncomputable def k50_5 : Code := (c2 (c2 k50_3))
noncomputable def k50_6 : Code := (c2 (c1 k50_5))
noncomputable def k50_7 : Code := (c2 (c2 k50_5))
theorem s50_4 {R : VP} {Q : EQ} (hR : ∀ e w, (R (e 4) w) → Q .ret e w) (e : Env) (w : World) (h : m50_4 R (e 4) w) : W50 k50_4 Q e w := by
  unfold m50_4 at h
  exact reA (hR _ _ h)
theorem s50_6 {R : VP} {Q : EQ} (hR : ∀ e w, (R (e 4) w) → Q .ret e w) (e : Env) (w : World) (h : m50_6 R (e 4) w) : W50 k50_6 Q e w := by
  unfold m50_6 at h
  exact reA (hR _ _ h)
theorem s50_7 {R : VP} {Q : EQ} (hR : ∀ e w, (R (e 4) w) → Q .ret e w) (e : Env) (w : World) (h : m50_7 R (e 4) w) : W50 k50_7 Q e w := by
  unfold m50_7 at h
  exact reA (hR _ _ h)
theorem s50_5 {R : VP} {Q : EQ} (hR : ∀ e w, (R (e 4) w) → Q .ret e w) (e : Env) (w : World) (h : m50_5 R (e 5) (e 18) w) : W50 k50_5 Q e w := by
  unfold m50_5 at h
  refine coA (Operand.tmp 18) h (fun h1 => ?_) (fun h1 => ?_)
  · refine seA ?_
    have hN : ∀ e w, (m50_6 R (e 4) w) → (thenE (W50 k50_6 Q) Q) .normal e w := fun e w h => then_N (s50_6 (R := R) (Q := Q) hR e w h)
    exact rgA 6 (fun e w => m50_6 R (e 4) w) h1 hN
  · refine seA ?_
    have hN : ∀ e w, (m50_7 R (e 4) w) → (thenE (W50 k50_7 Q) Q) .normal e w := fun e w h => then_N (s50_7 (R := R) (Q := Q) hR e w h)
    exact rgA 2 (fun e w => m50_7 R (e 4) w) h1 hN
theorem s50_3 {R : VP} {Q : EQ} (hR : ∀ e w, (R (e 4) w) → Q .ret e w) (e : Env) (w : World) (h : m50_3 R (e 0) (e 1) (e 5) (e 10) w) : W50 k50_3 Q e w := by
  unfold m50_3 at h
  refine coA (Operand.tmp 10) h (fun h1 => ?_) (fun h1 => ?_)
  · refine seA ?_
    have hN : ∀ e w, (m50_4 R (e 4) w) → (thenE (W50 k50_4 Q) Q) .normal e w := fun e w h => then_N (s50_4 (R := R) (Q := Q) hR e w h)
    exact rgA 4 (fun e w => m50_4 R (e 4) w) h1 hN
  · refine seA ?_
    have hN : ∀ e w, (m50_5 R (e 5) (e 18) w) → (thenE (W50 k50_5 Q) Q) .normal e w := fun e w h => then_N (s50_5 (R := R) (Q := Q) hR e w h)
    exact rgA 5 (fun e w => m50_5 R (e 5) (e 18) w) h1 hN
theorem s50_2 {R : VP} {Q : EQ} (hR : ∀ e w, (R (e 4) w) → Q .ret e w) (e : Env) (w : World) (h : m50_2 R (e 0) (e 1) (e 5) w) : W50 k50_2 Q e w := by
  unfold m50_2 at h
  refine block_ok 0 (by kernel_rfl) ?_
  have hR : ∀ e w, (R (e 4) w) → (inBlockE 0 Q) .ret e w := fun e w h => block_R (hR e w h)
  refine seA ?_
  have hN : ∀ e w, (m50_3 R (e 0) (e 1) (e 5) (e 10) w) → (thenE (W50 k50_3 (inBlockE 0 Q)) (inBlockE 0 Q)) .normal e w := fun e w h => then_N (s50_3 (R := R) (Q := (inBlockE 0 Q)) hR e w h)
  exact rgA 3 (fun e w => m50_3 R (e 0) (e 1) (e 5) (e 10) w) h hN
theorem s50_1 {R : VP} {Q : EQ} (hR : ∀ e w, (R (e 4) w) → Q .ret e w) (e : Env) (w : World) (h : m50_1 R (e 0) (e 1) w) : W50 k50_1 Q e w := by
  unfold m50_1 at h
  refine seA ?_
  have hN : ∀ e w, (m50_2 R (e 0) (e 1) (e 5) w) → (thenE (W50 k50_2 Q) Q) .normal e w := fun e w h => then_N (s50_2 (R := R) (Q := Q) hR e w h)
  exact rgA 1 (fun e w => m50_2 R (e 0) (e 1) (e 5) w) h hN
theorem s50_0 {R : VP} {Q : EQ} (hR : ∀ e w, (R (e 4) w) → Q .ret e w) (e : Env) (w : World) (h : m50_0 R (e 0) (e 1) w) : W50 k50_0 Q e w := by
  unfold m50_0 at h
  refine seA ?_
  have hN : ∀ e w, (m50_1 R (e 0) (e 1) w) → (thenE (W50 k50_1 Q) Q) .normal e w := fun e w h => then_N (s50_1 (R := R) (Q := Q) hR e w h)
  exact rgA 0 (fun e w => m50_1 R (e 0) (e 1) w) h hN
abbrev m50 (R : VP) (a0 b1 : Value) (w : World) : Prop := m50_0 R a0 b1 w
theorem s50 (a0 b1 : Value) {R : VP} {w : World} (h : m50 R a0 b1 w) :
    Calls Try.prog 50 #[a0, b1] w fun e w' => ∃ v, e = .returned v ∧ R v w' :=
  calls_of_cwp (st := (fun i => 0)) (c := k50_0) (by kernel_rfl) Try.func50 (by kernel_rfl) (Nat.le_of_ble_eq_true (by kernel_rfl)) (by kernel_rfl)
    (s50_0 (R := R) (Q := endE Try.prog Try.f50 R) (fun e w h => kcast (by kernel_rfl) h) (argsE #[a0, b1]) w (kcast (by kernel_rfl) h))
/-! ### headgate/fold.Sort -/
def m51_5 (R : VP) (t2 : Value) (w : World) : Prop :=
  R t2 w
def m51_7 (R : VP) (t2 : Value) (w : World) : Prop :=
  R t2 w
def m51_9 (R : VP) (t2 : Value) (w : World) : Prop :=
  R t2 w
def m51_3 (R : VP) (t2 : Value) (w : World) : Prop :=
  R t2 w
def m51_2 (R : VP) (w : World) : Prop :=
  m51_3 R (Value.int IntKind.i64 3) w
def m51_8 (R : VP) (t9 : Value) (w : World) : Prop :=
  condP t9
  (m51_9 R (Value.int IntKind.i64 2) w)
  (m51_2 R w)
def m51_6 (R : VP) (v0 t6 : Value) (w : World) : Prop :=
  condP t6
  (m51_7 R (Value.int IntKind.i64 1) w)
  (valP Try.prog (binS BinOp.lss 3 (Operand.tmp 10) (Operand.const (Value.int IntKind.i64 100)) v0 (Value.int IntKind.i64 100)) w fun t11 w =>
  m51_8 R t11 w)
def m51_4 (R : VP) (v0 t3 : Value) (w : World) : Prop :=
  condP t3
  (m51_5 R (Value.int IntKind.i64 0) w)
  (valP Try.prog (binS BinOp.lss 3 (Operand.tmp 7) (Operand.const (Value.int IntKind.i64 10)) v0 (Value.int IntKind.i64 10)) w fun t8 w =>
  m51_6 R v0 t8 w)
def m51_1 (R : VP) (v0 : Value) (w : World) : Prop :=
  valP Try.prog (binS BinOp.lss 3 (Operand.tmp 4) (Operand.const (Value.int IntKind.i64 0)) v0 (Value.int IntKind.i64 0)) w fun t5 w =>
  m51_4 R v0 t5 w
def m51_0 (R : VP) (v0 : Value) (w : World) : Prop :=
  m51_1 R v0 w
abbrev W51 := cwp Try.prog (fun i => 0)
noncomputable def k51_0 : Code := (bodyOf Try.f51)
noncomputable def k51_1 : Code := (c2 k51_0)
noncomputable def k51_2 : Code := (c2 k51_1)
noncomputable def k51_3 : Code := (c2 k51_2)
noncomputable def k51_4 : Code := (c2 (c1 (c1 k51_1)))
noncomputable def k51_5 : Code := (c2 (c1 k51_4))
noncomputable def k51_6 : Code := (c2 (c2 k51_4))
noncomputable def k51_7 : Code := (c2 (c1 k51_6))
noncomputable def k51_8 : Code := (c2 (c2 k51_6))
noncomputable def k51_9 : Code := (c2 (c1 k51_8))
theorem s51_5 {R : VP} {Q : EQ} (hR : ∀ e w, (R (e 2) w) → Q .ret e w) (e : Env) (w : World) (h : m51_5 R (e 2) w) : W51 k51_5 Q e w := by
  unfold m51_5 at h
  exact reA (hR _ _ h)
theorem s51_7 {R : VP} {Q : EQ} (hR : ∀ e w, (R (e 2) w) → Q .ret e w) (e : Env) (w : World) (h : m51_7 R (e 2) w) : W51 k51_7 Q e w := by
  unfold m51_7 at h
  exact reA (hR _ _ h)
theorem s51_9 {R : VP} {Q : EQ} (hR : ∀ e w, (R (e 2) w) → Q .ret e w) (e : Env) (w : World) (h : m51_9 R (e 2) w) : W51 k51_9 Q e w := by
  unfold m51_9 at h
  exact reA (hR _ _ h)
theorem s51_3 {R : VP} {Q : EQ} (hR : ∀ e w, (R (e 2) w) → Q .ret e w) (e : Env) (w : World) (h : m51_3 R (e 2) w) : W51 k51_3 Q e w := by
  unfold m51_3 at h
  exact reA (hR _ _ h)
theorem s51_2 {R : VP} {Q : EQ} (hR : ∀ e w, (R (e 2) w) → Q .ret e w) (e : Env) (w : World) (h : m51_2 R w) : W51 k51_2 Q e w := by
  unfold m51_2 at h
  refine seA ?_
  have hN : ∀ e w, (m51_3 R (e 2) w) → (thenE (W51 k51_3 Q) Q) .normal e w := fun e w h => then_N (s51_3 (R := R) (Q := Q) hR e w h)
  exact rgA 7 (fun e w => m51_3 R (e 2) w) h hN
theorem s51_8 {R : VP} {Q : EQ} (hN : ∀ e w, (m51_2 R w) → Q .normal e w) (hR : ∀ e w, (R (e 2) w) → Q .ret e w) (e : Env) (w : World) (h : m51_8 R (e 9) w) : W51 k51_8 Q e w := by
  unfold m51_8 at h
  refine coA (Operand.tmp 9) h (fun h1 => ?_) (fun h1 => ?_)
  · refine seA ?_
    have hN : ∀ e w, (m51_9 R (e 2) w) → (thenE (W51 k51_9 Q) Q) .normal e w := fun e w h => then_N (s51_9 (R := R) (Q := Q) hR e w h)
    exact rgA 6 (fun e w => m51_9 R (e 2) w) h1 hN
  · exact skA (hN _ _ h1)
theorem s51_6 {R : VP} {Q : EQ} (hN : ∀ e w, (m51_2 R w) → Q .normal e w) (hR : ∀ e w, (R (e 2) w) → Q .ret e w) (e : Env) (w : World) (h : m51_6 R (e 0) (e 6) w) : W51 k51_6 Q e w := by
  unfold m51_6 at h
  refine coA (Operand.tmp 6) h (fun h1 => ?_) (fun h1 => ?_)
  · refine seA ?_
    have hN : ∀ e w, (m51_7 R (e 2) w) → (thenE (W51 k51_7 Q) Q) .normal e w := fun e w h => then_N (s51_7 (R := R) (Q := Q) hR e w h)
    exact rgA 4 (fun e w => m51_7 R (e 2) w) h1 hN
  · refine seA ?_
    have hN : ∀ e w, (m51_8 R (e 9) w) → (thenE (W51 k51_8 Q) Q) .normal e w := fun e w h => then_N (s51_8 (R := R) (Q := Q) hN hR e w h)
    exact rgA 5 (fun e w => m51_8 R (e 9) w) h1 hN
theorem s51_4 {R : VP} {Q : EQ} (hN : ∀ e w, (m51_2 R w) → Q .normal e w) (hR : ∀ e w, (R (e 2) w) → Q .ret e w) (e : Env) (w : World) (h : m51_4 R (e 0) (e 3) w) : W51 k51_4 Q e w := by
  unfold m51_4 at h
  refine coA (Operand.tmp 3) h (fun h1 => ?_) (fun h1 => ?_)
  · refine seA ?_
    have hN : ∀ e w, (m51_5 R (e 2) w) → (thenE (W51 k51_5 Q) Q) .normal e w := fun e w h => then_N (s51_5 (R := R) (Q := Q) hR e w h)
    exact rgA 2 (fun e w => m51_5 R (e 2) w) h1 hN
  · refine seA ?_
    have hN : ∀ e w, (m51_6 R (e 0) (e 6) w) → (thenE (W51 k51_6 Q) Q) .normal e w := fun e w h => then_N (s51_6 (R := R) (Q := Q) hN hR e w h)
    exact rgA 3 (fun e w => m51_6 R (e 0) (e 6) w) h1 hN
theorem s51_1 {R : VP} {Q : EQ} (hR : ∀ e w, (R (e 2) w) → Q .ret e w) (e : Env) (w : World) (h : m51_1 R (e 0) w) : W51 k51_1 Q e w := by
  unfold m51_1 at h
  refine seA ?_
  have hN : ∀ e w, (m51_2 R w) → (thenE (W51 k51_2 Q) Q) .normal e w := fun e w h => then_N (s51_2 (R := R) (Q := Q) hR e w h)
  have hR : ∀ e w, (R (e 2) w) → (thenE (W51 k51_2 Q) Q) .ret e w := fun e w h => then_R (hR e w h)
  refine block_ok 0 (by kernel_rfl) ?_
  have hN : ∀ e w, (m51_2 R w) → (inBlockE 0 (thenE (W51 k51_2 Q) Q)) .normal e w := fun e w h => block_N (hN e w h)
  have hR : ∀ e w, (R (e 2) w) → (inBlockE 0 (thenE (W51 k51_2 Q) Q)) .ret e w := fun e w h => block_R (hR e w h)
  refine seA ?_
  have hN : ∀ e w, (m51_4 R (e 0) (e 3) w) → (thenE (W51 k51_4 (inBlockE 0 (thenE (W51 k51_2 Q) Q))) (inBlockE 0 (thenE (W51 k51_2 Q) Q))) .normal e w := fun e w h => then_N (s51_4 (R := R) (Q := (inBlockE 0 (thenE (W51 k51_2 Q) Q))) hN hR e w h)
  exact rgA 1 (fun e w => m51_4 R (e 0) (e 3) w) h hN
theorem s51_0 {R : VP} {Q : EQ} (hR : ∀ e w, (R (e 2) w) → Q .ret e w) (e : Env) (w : World) (h : m51_0 R (e 0) w) : W51 k51_0 Q e w := by
  unfold m51_0 at h
  refine seA ?_
  have hN : ∀ e w, (m51_1 R (e 0) w) → (thenE (W51 k51_1 Q) Q) .normal e w := fun e w h => then_N (s51_1 (R := R) (Q := Q) hR e w h)
  exact rgA 0 (fun e w => m51_1 R (e 0) w) h hN
abbrev m51 (R : VP) (v0 : Value) (w : World) : Prop := m51_0 R v0 w
theorem s51 (v0 : Value) {R : VP} {w : World} (h : m51 R v0 w) :
    Calls Try.prog 51 #[v0] w fun e w' => ∃ v, e = .returned v ∧ R v w' :=
  calls_of_cwp (st := (fun i => 0)) (c := k51_0) (by kernel_rfl) Try.func51 (by kernel_rfl) (Nat.le_of_ble_eq_true (by kernel_rfl)) (by kernel_rfl)
    (s51_0 (R := R) (Q := endE Try.prog Try.f51 R) (fun e w h => kcast (by kernel_rfl) h) (argsE #[v0]) w (kcast (by kernel_rfl) h))
/-! ### headgate/fold.turn -/
def m52_9 (R : VP) (K1 : (Value × Value) → World → Prop) (c3 t5 t6 : Value) (w : World) : Prop :=
  valP Try.prog (binS BinOp.add 3 (Operand.tmp 6) (Operand.const (Value.int IntKind.i64 1)) t6 (Value.int IntKind.i64 1)) w fun t10 w =>
  K1 (c3, t10) w
def m52_8 (R : VP) (K1 : (Value × Value) → World → Prop) (c3 t5 t6 : Value) (w : World) : Prop :=
  valP Try.prog (binS BinOp.mul 83 (Operand.tmp 8) (Operand.const (Value.complex FloatKind.f64 0 4607182418800017408)) c3 (Value.complex FloatKind.f64 0 4607182418800017408)) w fun t9 w =>
  m52_9 R K1 t9 t5 t6 w
def m52_4 (R : VP) (t2 : Value) (w : World) : Prop :=
  R t2 w
def m52_3 (R : VP) (c3 : Value) (w : World) : Prop :=
  m52_4 R c3 w
def m52_7 (R : VP) (K1 : (Value × Value) → World → Prop) (c3 t5 t6 t7 : Value) (w : World) : Prop :=
  condP t7
  (m52_8 R K1 c3 t5 t6 w)
  (m52_3 R c3 w)
def m52_6 (R : VP) (K1 : (Value × Value) → World → Prop) (c3 t5 t6 : Value) (w : World) : Prop :=
  valP Try.prog (binS BinOp.lss 3 (Operand.tmp 6) (Operand.tmp 5) t6 t5) w fun t7 w =>
  m52_7 R K1 c3 t5 t6 t7 w
def m52_5 (R : VP) (c3 t5 t6 : Value) (w : World) : Prop :=
  loopP (fun (K1 : (Value × Value) → World → Prop) (s : Value × Value) w => m52_6 R K1 s.1 t5 s.2 w) (c3, t6) w
def m52_2 (R : VP) (v0 c3 : Value) (w : World) : Prop :=
  valP Try.prog (binS BinOp.and 3 (Operand.tmp 4) (Operand.const (Value.int IntKind.i64 3)) v0 (Value.int IntKind.i64 3)) w fun t5 w =>
  m52_5 R c3 t5 (Value.int IntKind.i64 0) w
def m52_1 (R : VP) (v0 : Value) (w : World) : Prop :=
  m52_2 R v0 (Value.complex FloatKind.f64 4607182418800017408 0) w
def m52_0 (R : VP) (v0 : Value) (w : World) : Prop :=
  m52_1 R v0 w
abbrev W52 := cwp Try.prog (fun i => 0)
noncomputable def k52_0 : Code := (bodyOf Try.f52)
noncomputable def k52_1 : Code := (c2 k52_0)
noncomputable def k52_2 : Code := (c2 k52_1)
noncomputable def k52_3 : Code := (c2 k52_2)
noncomputable def k52_4 : Code := (c2 k52_3)
noncomputable def k52_5 : Code := (c2 (c1 k52_2))
noncomputable def k52_6 : Code := (c1 (c1 k52_5))
noncomputable def k52_7 : Code := (c2 k52_6)
noncomputable def k52_8 : Code := (c2 k52_7)
noncomputable def k52_9 : Code := (c2 k52_8)
theorem s52_9 {R : VP} {K1 : (Value × Value) → World → Prop} {Q : EQ} (hN : ∀ e w, (K1 ((e 3), (e 6)) w) → Q .normal e w) (e : Env) (w : World) (h : m52_9 R K1 (e 3) (e 5) (e 6) w) : W52 k52_9 Q e w := by
  unfold m52_9 at h
  exact rgA 5 (fun e w => K1 ((e 3), (e 6)) w) h hN
theorem s52_8 {R : VP} {K1 : (Value × Value) → World → Prop} {Q : EQ} (hN : ∀ e w, (K1 ((e 3), (e 6)) w) → Q .normal e w) (e : Env) (w : World) (h : m52_8 R K1 (e 3) (e 5) (e 6) w) : W52 k52_8 Q e w := by
  unfold m52_8 at h
  refine seA ?_
  have hN : ∀ e w, (m52_9 R K1 (e 3) (e 5) (e 6) w) → (thenE (W52 k52_9 Q) Q) .normal e w := fun e w h => then_N (s52_9 (R := R) (Q := Q) (K1 := K1) hN e w h)
  refine block_ok 1 (by kernel_rfl) ?_
  have hN : ∀ e w, (m52_9 R K1 (e 3) (e 5) (e 6) w) → (inBlockE 1 (thenE (W52 k52_9 Q) Q)) .normal e w := fun e w h => block_N (hN e w h)
  exact rgA 4 (fun e w => m52_9 R K1 (e 3) (e 5) (e 6) w) h hN
theorem s52_4 {R : VP} {Q : EQ} (hR : ∀ e w, (R (e 2) w) → Q .ret e w) (e : Env) (w : World) (h : m52_4 R (e 2) w) : W52 k52_4 Q e w := by
  unfold m52_4 at h
  exact reA (hR _ _ h)
theorem s52_3 {R : VP} {Q : EQ} (hR : ∀ e w, (R (e 2) w) → Q .ret e w) (e : Env) (w : World) (h : m52_3 R (e 3) w) : W52 k52_3 Q e w := by
  unfold m52_3 at h
  refine seA ?_
  have hN : ∀ e w, (m52_4 R (e 2) w) → (thenE (W52 k52_4 Q) Q) .normal e w := fun e w h => then_N (s52_4 (R := R) (Q := Q) hR e w h)
  exact rgA 6 (fun e w => m52_4 R (e 2) w) h hN
theorem s52_7 {R : VP} {K1 : (Value × Value) → World → Prop} {Q : EQ} (hN : ∀ e w, (K1 ((e 3), (e 6)) w) → Q .normal e w) (hX0 : ∀ e w, (m52_3 R (e 3) w) → Q (.exit 0) e w) (e : Env) (w : World) (h : m52_7 R K1 (e 3) (e 5) (e 6) (e 7) w) : W52 k52_7 Q e w := by
  unfold m52_7 at h
  refine seA ?_
  have hN : ∀ e w, (m52_8 R K1 (e 3) (e 5) (e 6) w) → (thenE (W52 k52_8 Q) Q) .normal e w := fun e w h => then_N (s52_8 (R := R) (Q := Q) (K1 := K1) hN e w h)
  have hX0 : ∀ e w, (m52_3 R (e 3) w) → (thenE (W52 k52_8 Q) Q) (.exit 0) e w := fun e w h => then_X (hX0 e w h)
  refine coA (Operand.tmp 7) h (fun h1 => ?_) (fun h1 => ?_)
  · exact skA (hN _ _ h1)
  · exact exA 0 (hX0 _ _ h1)
theorem s52_6 {R : VP} {K1 : (Value × Value) → World → Prop} {Q : EQ} (hN : ∀ e w, (K1 ((e 3), (e 6)) w) → Q .normal e w) (hX0 : ∀ e w, (m52_3 R (e 3) w) → Q (.exit 0) e w) (e : Env) (w : World) (h : m52_6 R K1 (e 3) (e 5) (e 6) w) : W52 k52_6 Q e w := by
  unfold m52_6 at h
  refine seA ?_
  have hN : ∀ e w, (m52_7 R K1 (e 3) (e 5) (e 6) (e 7) w) → (thenE (W52 k52_7 Q) Q) .normal e w := fun e w h => then_N (s52_7 (R := R) (Q := Q) (K1 := K1) hN hX0 e w h)
  exact rgA 3 (fun e w => m52_7 R K1 (e 3) (e 5) (e 6) (e 7) w) h hN
theorem s52_5 {R : VP} {Q : EQ} (hN : ∀ e w, (m52_3 R (e 3) w) → Q .normal e w) (e : Env) (w : World) (h : m52_5 R (e 3) (e 5) (e 6) w) : W52 k52_5 Q e w := by
  unfold m52_5 at h
  refine block_ok 0 (by kernel_rfl) ?_
  have hX0 : ∀ e w, (m52_3 R (e 3) w) → (inBlockE 0 Q) (.exit 0) e w := fun e w h => inBlock_same (Q := Q) 0 (hN e w h)
  refine loop_ok' (fun (e : Env) => (e 3, e 6)) [5] (by kernel_rfl) (by kernel_rfl) h (fun K e' w' hk h' => ?_)
  have r5 : e' 5 = e 5 := hk 5 (by decide)
  have hX0 : ∀ e w, (m52_3 R (e 3) w) → (thenE (fun (e : Env) w => K ((e 3), (e 6)) w) (inBlockE 0 Q)) (.exit 0) e w := fun e w h => then_X (hX0 e w h)
  exact s52_6 (R := R) (Q := (thenE (fun (e : Env) w => K ((e 3), (e 6)) w) (inBlockE 0 Q))) (K1 := K) (fun _ _ h => then_N h) hX0 e' w' (by rw [r5]; exact h')
theorem s52_2 {R : VP} {Q : EQ} (hR : ∀ e w, (R (e 2) w) → Q .ret e w) (e : Env) (w : World) (h : m52_2 R (e 0) (e 3) w) : W52 k52_2 Q e w := by
  unfold m52_2 at h
  refine seA ?_
  have hN : ∀ e w, (m52_3 R (e 3) w) → (thenE (W52 k52_3 Q) Q) .normal e w := fun e w h => then_N (s52_3 (R := R) (Q := Q) hR e w h)
  refine seA ?_
  have hN : ∀ e w, (m52_5 R (e 3) (e 5) (e 6) w) → (thenE (W52 k52_5 (thenE (W52 k52_3 Q) Q)) (thenE (W52 k52_3 Q) Q)) .normal e w := fun e w h => then_N (s52_5 (R := R) (Q := (thenE (W52 k52_3 Q) Q)) hN e w h)
  exact rgA 2 (fun e w => m52_5 R (e 3) (e 5) (e 6) w) h hN
theorem s52_1 {R : VP} {Q : EQ} (hR : ∀ e w, (R (e 2) w) → Q .ret e w) (e : Env) (w : World) (h : m52_1 R (e 0) w) : W52 k52_1 Q e w := by
  unfold m52_1 at h
  refine seA ?_
  have hN : ∀ e w, (m52_2 R (e 0) (e 3) w) → (thenE (W52 k52_2 Q) Q) .normal e w := fun e w h => then_N (s52_2 (R := R) (Q := Q) hR e w h)
  exact rgA 1 (fun e w => m52_2 R (e 0) (e 3) w) h hN
theorem s52_0 {R : VP} {Q : EQ} (hR : ∀ e w, (R (e 2) w) → Q .ret e w) (e : Env) (w : World) (h : m52_0 R (e 0) w) : W52 k52_0 Q e w := by
  unfold m52_0 at h
  refine seA ?_
  have hN : ∀ e w, (m52_1 R (e 0) w) → (thenE (W52 k52_1 Q) Q) .normal e w := fun e w h => then_N (s52_1 (R := R) (Q := Q) hR e w h)
  exact rgA 0 (fun e w => m52_1 R (e 0) w) h hN
abbrev m52 (R : VP) (v0 : Value) (w : World) : Prop := m52_0 R v0 w
theorem s52 (v0 : Value) {R : VP} {w : World} (h : m52 R v0 w) :
    Calls Try.prog 52 #[v0] w fun e w' => ∃ v, e = .returned v ∧ R v w' :=
  calls_of_cwp (st := (fun i => 0)) (c := k52_0) (by kernel_rfl) Try.func52 (by kernel_rfl) (Nat.le_of_ble_eq_true (by kernel_rfl)) (by kernel_rfl)
    (s52_0 (R := R) (Q := endE Try.prog Try.f52 R) (fun e w h => kcast (by kernel_rfl) h) (argsE #[v0]) w (kcast (by kernel_rfl) h))
/-! ### headgate/headgateref15.Plus -/
def m53_8 (R : VP) (t4 : Value) (w : World) : Prop :=
  R t4 w
def m53_6 (R : VP) (t4 : Value) (w : World) : Prop :=
  R t4 w
def m53_4 (R : VP) (t4 : Value) (w : World) : Prop :=
  R t4 w
def m53_3 (R : VP) (a0 b1 : Value) (w : World) : Prop :=
  valP Try.prog (binS BinOp.add 3 (Operand.tmp 21) (Operand.tmp 22) a0 b1) w fun t23 w =>
  m53_4 R t23 w
def m53_5 (R : VP) (a0 b1 t20 : Value) (w : World) : Prop :=
  condP t20
  (m53_6 R (Value.int IntKind.i64 (-9223372036854775808)) w)
  (m53_3 R a0 b1 w)
def m53_2 (R : VP) (a0 b1 : Value) (w : World) : Prop :=
  valP Try.prog (binS BinOp.lss 3 (Operand.tmp 13) (Operand.const (Value.int IntKind.i64 0)) b1 (Value.int IntKind.i64 0)) w fun t14 w =>
  condP t14
  (valP Try.prog (binS BinOp.sub 3 (Operand.const (Value.int IntKind.i64 (-9223372036854775808))) (Operand.tmp 17) (Value.int IntKind.i64 (-9223372036854775808)) b1) w fun t18 w =>
  valP Try.prog (binS BinOp.lss 3 (Operand.tmp 16) (Operand.tmp 18) a0 t18) w fun t19 w =>
  pickP t14 t19 (Value.bool false) fun t20 =>
  m53_5 R a0 b1 t20 w)
  (pickP t14 undef (Value.bool false) fun t20 =>
  m53_5 R a0 b1 t20 w)
def m53_7 (R : VP) (a0 b1 t12 : Value) (w : World) : Prop :=
  condP t12
  (m53_8 R (Value.int IntKind.i64 9223372036854775807) w)
  (m53_2 R a0 b1 w)
def m53_1 (R : VP) (a0 b1 : Value) (w : World) : Prop :=
  valP Try.prog (binS BinOp.gtr 3 (Operand.tmp 5) (Operand.const (Value.int IntKind.i64 0)) b1 (Value.int IntKind.i64 0)) w fun t6 w =>
  condP t6
  (valP Try.prog (binS BinOp.sub 3 (Operand.const (Value.int IntKind.i64 9223372036854775807)) (Operand.tmp 9) (Value.int IntKind.i64 9223372036854775807) b1) w fun t10 w =>
  valP Try.prog (binS BinOp.gtr 3 (Operand.tmp 8) (Operand.tmp 10) a0 t10) w fun t11 w =>
  pickP t6 t11 (Value.bool false) fun t12 =>
  m53_7 R a0 b1 t12 w)
  (pickP t6 undef (Value.bool false) fun t12 =>
  m53_7 R a0 b1 t12 w)
def m53_0 (R : VP) (a0 b1 : Value) (w : World) : Prop :=
  m53_1 R a0 b1 w
abbrev W53 := cwp Try.prog (fun i => 0)
noncomputable def k53_0 : Code := (bodyOf Try.f53)
noncomputable def k53_1 : Code := (c2 k53_0)
noncomputable def k53_2 : Code := (c2 k53_1)
noncomputable def k53_3 : Code := (c2 k53_2)
noncomputable def k53_4 : Code := (c2 k53_3)
noncomputable def k53_5 : Code := (c2 (c1 k53_2))
noncomputable def k53_6 : Code := (c2 (c1 k53_5))
noncomputable def k53_7 : Code := (c2 (c1 k53_1))
noncomputable def k53_8 : Code := (c2 (c1 k53_7))
theorem s53_8 {R : VP} {Q : EQ} (hR : ∀ e w, (R (e 4) w) → Q .ret e w) (e : Env) (w : World) (h : m53_8 R (e 4) w) : W53 k53_8 Q e w := by
  unfold m53_8 at h
  exact reA (hR _ _ h)
theorem s53_6 {R : VP} {Q : EQ} (hR : ∀ e w, (R (e 4) w) → Q .ret e w) (e : Env) (w : World) (h : m53_6 R (e 4) w) : W53 k53_6 Q e w := by
  unfold m53_6 at h
  exact reA (hR _ _ h)
theorem s53_4 {R : VP} {Q : EQ} (hR : ∀ e w, (R (e 4) w) → Q .ret e w) (e : Env) (w : World) (h : m53_4 R (e 4) w) : W53 k53_4 Q e w := by
  unfold m53_4 at h
  exact reA (hR _ _ h)
theorem s53_3 {R : VP} {Q : EQ} (hR : ∀ e w, (R (e 4) w) → Q .ret e w) (e : Env) (w : World) (h : m53_3 R (e 0) (e 1) w) : W53 k53_3 Q e w := by
  unfold m53_3 at h
  refine seA ?_
  have hN : ∀ e w, (m53_4 R (e 4) w) → (thenE (W53 k53_4 Q) Q) .normal e w := fun e w h => then_N (s53_4 (R := R) (Q := Q) hR e w h)
  exact rgA 5 (fun e w => m53_4 R (e 4) w) h hN
theorem s53_5 {R : VP} {Q : EQ} (hN : ∀ e w, (m53_3 R (e 0) (e 1) w) → Q .normal e w) (hR : ∀ e w, (R (e 4) w) → Q .ret e w) (e : Env) (w : World) (h : m53_5 R (e 0) (e 1) (e 20) w) : W53 k53_5 Q e w := by
  unfold m53_5 at h
  refine coA (Operand.tmp 20) h (fun h1 => ?_) (fun h1 => ?_)
  · refine seA ?_
    have hN : ∀ e w, (m53_6 R (e 4) w) → (thenE (W53 k53_6 Q) Q) .normal e w := fun e w h => then_N (s53_6 (R := R) (Q := Q) hR e w h)
    exact rgA 4 (fun e w => m53_6 R (e 4) w) h1 hN
  · exact skA (hN _ _ h1)
theorem s53_2 {R : VP} {Q : EQ} (hR : ∀ e w, (R (e 4) w) → Q .ret e w) (e : Env) (w : World) (h : m53_2 R (e 0) (e 1) w) : W53 k53_2 Q e w := by
  unfold m53_2 at h
  refine seA ?_
  have hN : ∀ e w, (m53_3 R (e 0) (e 1) w) → (thenE (W53 k53_3 Q) Q) .normal e w := fun e w h => then_N (s53_3 (R := R) (Q := Q) hR e w h)
  have hR : ∀ e w, (R (e 4) w) → (thenE (W53 k53_3 Q) Q) .ret e w := fun e w h => then_R (hR e w h)
  refine seA ?_
  have hN : ∀ e w, (m53_5 R (e 0) (e 1) (e 20) w) → (thenE (W53 k53_5 (thenE (W53 k53_3 Q) Q)) (thenE (W53 k53_3 Q) Q)) .normal e w := fun e w h => then_N (s53_5 (R := R) (Q := (thenE (W53 k53_3 Q) Q)) hN hR e w h)
  exact rgA 3 (fun e w => m53_5 R (e 0) (e 1) (e 20) w) h hN
theorem s53_7 {R : VP} {Q : EQ} (hN : ∀ e w, (m53_2 R (e 0) (e 1) w) → Q .normal e w) (hR : ∀ e w, (R (e 4) w) → Q .ret e w) (e : Env) (w : World) (h : m53_7 R (e 0) (e 1) (e 12) w) : W53 k53_7 Q e w := by
  unfold m53_7 at h
  refine coA (Operand.tmp 12) h (fun h1 => ?_) (fun h1 => ?_)
  · refine seA ?_
    have hN : ∀ e w, (m53_8 R (e 4) w) → (thenE (W53 k53_8 Q) Q) .normal e w := fun e w h => then_N (s53_8 (R := R) (Q := Q) hR e w h)
    exact rgA 2 (fun e w => m53_8 R (e 4) w) h1 hN
  · exact skA (hN _ _ h1)
theorem s53_1 {R : VP} {Q : EQ} (hR : ∀ e w, (R (e 4) w) → Q .ret e w) (e : Env) (w : World) (h : m53_1 R (e 0) (e 1) w) : W53 k53_1 Q e w := by
  unfold m53_1 at h
  refine seA ?_
  have hN : ∀ e w, (m53_2 R (e 0) (e 1) w) → (thenE (W53 k53_2 Q) Q) .normal e w := fun e w h => then_N (s53_2 (R := R) (Q := Q) hR e w h)
  have hR : ∀ e w, (R (e 4) w) → (thenE (W53 k53_2 Q) Q) .ret e w := fun e w h => then_R (hR e w h)
  refine seA ?_
  have hN : ∀ e w, (m53_7 R (e 0) (e 1) (e 12) w) → (thenE (W53 k53_7 (thenE (W53 k53_2 Q) Q)) (thenE (W53 k53_2 Q) Q)) .normal e w := fun e w h => then_N (s53_7 (R := R) (Q := (thenE (W53 k53_2 Q) Q)) hN hR e w h)
  exact rgA 1 (fun e w => m53_7 R (e 0) (e 1) (e 12) w) h hN
theorem s53_0 {R : VP} {Q : EQ} (hR : ∀ e w, (R (e 4) w) → Q .ret e w) (e : Env) (w : World) (h : m53_0 R (e 0) (e 1) w) : W53 k53_0 Q e w := by
  unfold m53_0 at h
  refine seA ?_
  have hN : ∀ e w, (m53_1 R (e 0) (e 1) w) → (thenE (W53 k53_1 Q) Q) .normal e w := fun e w h => then_N (s53_1 (R := R) (Q := Q) hR e w h)
  exact rgA 0 (fun e w => m53_1 R (e 0) (e 1) w) h hN
abbrev m53 (R : VP) (a0 b1 : Value) (w : World) : Prop := m53_0 R a0 b1 w
theorem s53 (a0 b1 : Value) {R : VP} {w : World} (h : m53 R a0 b1 w) :
    Calls Try.prog 53 #[a0, b1] w fun e w' => ∃ v, e = .returned v ∧ R v w' :=
  calls_of_cwp (st := (fun i => 0)) (c := k53_0) (by kernel_rfl) Try.func53 (by kernel_rfl) (Nat.le_of_ble_eq_true (by kernel_rfl)) (by kernel_rfl)
    (s53_0 (R := R) (Q := endE Try.prog Try.f53 R) (fun e w h => kcast (by kernel_rfl) h) (argsE #[a0, b1]) w (kcast (by kernel_rfl) h))
/-! ### headgate/headgateref15.Sort -/
def m54_11 (R : VP) (t2 : Value) (w : World) : Prop :=
  R t2 w
def m54_9 (R : VP) (t2 : Value) (w : World) : Prop :=
  R t2 w
def m54_7 (R : VP) (t2 : Value) (w : World) : Prop :=
  R t2 w
def m54_5 (R : VP) (t2 : Value) (w : World) : Prop :=
  R t2 w
def m54_4 (R : VP) (w : World) : Prop :=
  m54_5 R (Value.int IntKind.i64 0) w
def m54_6 (R : VP) (t8 : Value) (w : World) : Prop :=
  condP t8
  (m54_7 R (Value.int IntKind.i64 1) w)
  (m54_4 R w)
def m54_3 (R : VP) (v0 : Value) (w : World) : Prop :=
  valP Try.prog (binS BinOp.geq 3 (Operand.tmp 7) (Operand.const (Value.int IntKind.i64 0)) v0 (Value.int IntKind.i64 0)) w fun t8 w =>
  m54_6 R t8 w
def m54_8 (R : VP) (v0 t6 : Value) (w : World) : Prop :=
  condP t6
  (m54_9 R (Value.int IntKind.i64 2) w)
  (m54_3 R v0 w)
def m54_2 (R : VP) (v0 : Value) (w : World) : Prop :=
  valP Try.prog (binS BinOp.geq 3 (Operand.tmp 5) (Operand.const (Value.int IntKind.i64 10)) v0 (Value.int IntKind.i64 10)) w fun t6 w =>
  m54_8 R v0 t6 w
def m54_10 (R : VP) (v0 t4 : Value) (w : World) : Prop :=
  condP t4
  (m54_11 R (Value.int IntKind.i64 3) w)
  (m54_2 R v0 w)
def m54_1 (R : VP) (v0 : Value) (w : World) : Prop :=
  valP Try.prog (binS BinOp.geq 3 (Operand.tmp 3) (Operand.const (Value.int IntKind.i64 100)) v0 (Value.int IntKind.i64 100)) w fun t4 w =>
  m54_10 R v0 t4 w
def m54_0 (R : VP) (v0 : Value) (w : World) : Prop :=
  m54_1 R v0 w
abbrev W54 := cwp Try.prog (fun i => 0)
noncomputable def k54_0 : Code := (bodyOf Try.f54)
noncomputable def k54_1 : Code := (c2 k54_0)
noncomputable def k54_2 : Code := (c2 k54_1)
noncomputable def k54_3 : Code := (c2 k54_2)
noncomputable def k54_4 : Code := (c2 k54_3)
noncomputable def k54_5 : Code := (c2 k54_4)
noncomputable def k54_6 : Code := (c2 (c1 k54_3))
noncomputable def k54_7 : Code := (c2 (c1 k54_6))
noncomputable def k54_8 : Code := (c2 (c1 k54_2))
noncomputable def k54_9 : Code := (c2 (c1 k54_8))
noncomputable def k54_10 : Code := (c2 (c1 k54_1))
noncomputable def k54_11 : Code := (c2 (c1 k54_10))
theorem s54_11 {R : VP} {Q : EQ} (hR : ∀ e w, (R (e 2) w) → Q .ret e w) (e : Env) (w : World) (h : m54_11 R (e 2) w) : W54 k54_11 Q e w := by
  unfold m54_11 at h
  exact reA (hR _ _ h)
theorem s54_9 {R : VP} {Q : EQ} (hR : ∀ e w, (R (e 2) w) → Q .ret e w) (e : Env) (w : World) (h : m54_9 R (e 2) w) : W54 k54_9 Q e w := by
  unfold m54_9 at h
  exact reA (hR _ _ h)
theorem s54_7 {R : VP} {Q : EQ} (hR : ∀ e w, (R (e 2) w) → Q .ret e w) (e : Env) (w : World) (h : m54_7 R (e 2) w) : W54 k54_7 Q e w := by
  unfold m54_7 at h
  exact reA (hR _ _ h)
theorem s54_5 {R : VP} {Q : EQ} (hR : ∀ e w, (R (e 2) w) → Q .ret e w) (e : Env) (w : World) (h : m54_5 R (e 2) w) : W54 k54_5 Q e w := by
  unfold m54_5 at h
  exact reA (hR _ _ h)
theorem s54_4 {R : VP} {Q : EQ} (hR : ∀ e w, (R (e 2) w) → Q .ret e w) (e : Env) (w : World) (h : m54_4 R w) : W54 k54_4 Q e w := by
  unfold m54_4 at h
  refine seA ?_
  have hN : ∀ e w, (m54_5 R (e 2) w) → (thenE (W54 k54_5 Q) Q) .normal e w := fun e w h => then_N (s54_5 (R := R) (Q := Q) hR e w h)
  exact rgA 7 (fun e w => m54_5 R (e 2) w) h hN
theorem s54_6 {R : VP} {Q : EQ} (hN : ∀ e w, (m54_4 R w) → Q .normal e w) (hR : ∀ e w, (R (e 2) w) → Q .ret e w) (e : Env) (w : World) (h : m54_6 R (e 8) w) : W54 k54_6 Q e w := by
  unfold m54_6 at h
  refine coA (Operand.tmp 8) h (fun h1 => ?_) (fun h1 => ?_)
  · refine seA ?_
    have hN : ∀ e w, (m54_7 R (e 2) w) → (thenE (W54 k54_7 Q) Q) .normal e w := fun e w h => then_N (s54_7 (R := R) (Q := Q) hR e w h)
    exact rgA 6 (fun e w => m54_7 R (e 2) w) h1 hN
  · exact skA (hN _ _ h1)
theorem s54_3 {R : VP} {Q : EQ} (hR : ∀ e w, (R (e 2) w) → Q .ret e w) (e : Env) (w : World) (h : m54_3 R (e 0) w) : W54 k54_3 Q e w := by
  unfold m54_3 at h
  refine seA ?_
  have hN : ∀ e w, (m54_4 R w) → (thenE (W54 k54_4 Q) Q) .normal e w := fun e w h => then_N (s54_4 (R := R) (Q := Q) hR e w h)
  have hR : ∀ e w, (R (e 2) w) → (thenE (W54 k54_4 Q) Q) .ret e w := fun e w h => then_R (hR e w h)
  refine seA ?_
  have hN : ∀ e w, (m54_6 R (e 8) w) → (thenE (W54 k54_6 (thenE (W54 k54_4 Q) Q)) (thenE (W54 k54_4 Q) Q)) .normal e w := fun e w h => then_N (s54_6 (R := R) (Q := (thenE (W54 k54_4 Q) Q)) hN hR e w h)
  exact rgA 5 (fun e w => m54_6 R (e 8) w) h hN
theorem s54_8 {R : VP} {Q : EQ} (hN : ∀ e w, (m54_3 R (e 0) w) → Q .normal e w) (hR : ∀ e w, (R (e 2) w) → Q .ret e w) (e : Env) (w : World) (h : m54_8 R (e 0) (e 6) w) : W54 k54_8 Q e w := by
  unfold m54_8 at h
  refine coA (Operand.tmp 6) h (fun h1 => ?_) (fun h1 => ?_)
  · refine seA ?_
    have hN : ∀ e w, (m54_9 R (e 2) w) → (thenE (W54 k54_9 Q) Q) .normal e w := fun e w h => then_N (s54_9 (R := R) (Q := Q) hR e w h)
    exact rgA 4 (fun e w => m54_9 R (e 2) w) h1 hN
  · exact skA (hN _ _ h1)
theorem s54_2 {R : VP} {Q : EQ} (hR : ∀ e w, (R (e 2) w) → Q .ret e w) (e : Env) (w : World) (h : m54_2 R (e 0) w) : W54 k54_2 Q e w := by
  unfold m54_2 at h
  refine seA ?_
  have hN : ∀ e w, (m54_3 R (e 0) w) → (thenE (W54 k54_3 Q) Q) .normal e w := fun e w h => then_N (s54_3 (R := R) (Q := Q) hR e w h)
  have hR : ∀ e w, (R (e 2) w) → (thenE (W54 k54_3 Q) Q) .ret e w := fun e w h => then_R (hR e w h)
  refine seA ?_
  have hN : ∀ e w, (m54_8 R (e 0) (e 6) w) → (thenE (W54 k54_8 (thenE (W54 k54_3 Q) Q)) (thenE (W54 k54_3 Q) Q)) .normal e w := fun e w h => then_N (s54_8 (R := R) (Q := (thenE (W54 k54_3 Q) Q)) hN hR e w h)
  exact rgA 3 (fun e w => m54_8 R (e 0) (e 6) w) h hN
theorem s54_10 {R : VP} {Q : EQ} (hN : ∀ e w, (m54_2 R (e 0) w) → Q .normal e w) (hR : ∀ e w, (R (e 2) w) → Q .ret e w) (e : Env) (w : World) (h : m54_10 R (e 0) (e 4) w) : W54 k54_10 Q e w := by
  unfold m54_10 at h
  refine coA (Operand.tmp 4) h (fun h1 => ?_) (fun h1 => ?_)
  · refine seA ?_
    have hN : ∀ e w, (m54_11 R (e 2) w) → (thenE (W54 k54_11 Q) Q) .normal e w := fun e w h => then_N (s54_11 (R := R) (Q := Q) hR e w h)
    exact rgA 2 (fun e w => m54_11 R (e 2) w) h1 hN
  · exact skA (hN _ _ h1)
theorem s54_1 {R : VP} {Q : EQ} (hR : ∀ e w, (R (e 2) w) → Q .ret e w) (e : Env) (w : World) (h : m54_1 R (e 0) w) : W54 k54_1 Q e w := by
  unfold m54_1 at h
  refine seA ?_
  have hN : ∀ e w, (m54_2 R (e 0) w) → (thenE (W54 k54_2 Q) Q) .normal e w := fun e w h => then_N (s54_2 (R := R) (Q := Q) hR e w h)
  have hR : ∀ e w, (R (e 2) w) → (thenE (W54 k54_2 Q) Q) .ret e w := fun e w h => then_R (hR e w h)
  refine seA ?_
  have hN : ∀ e w, (m54_10 R (e 0) (e 4) w) → (thenE (W54 k54_10 (thenE (W54 k54_2 Q) Q)) (thenE (W54 k54_2 Q) Q)) .normal e w := fun e w h => then_N (s54_10 (R := R) (Q := (thenE (W54 k54_2 Q) Q)) hN hR e w h)
  exact rgA 1 (fun e w => m54_10 R (e 0) (e 4) w) h hN
theorem s54_0 {R : VP} {Q : EQ} (hR : ∀ e w, (R (e 2) w) → Q .ret e w) (e : Env) (w : World) (h : m54_0 R (e 0) w) : W54 k54_0 Q e w := by
  unfold m54_0 at h
  refine seA ?_
  have hN : ∀ e w, (m54_1 R (e 0) w) → (thenE (W54 k54_1 Q) Q) .normal e w := fun e w h => then_N (s54_1 (R := R) (Q := Q) hR e w h)
  exact rgA 0 (fun e w => m54_1 R (e 0) w) h hN
abbrev m54 (R : VP) (v0 : Value) (w : World) : Prop := m54_0 R v0 w
theorem s54 (v0 : Value) {R : VP} {w : World} (h : m54 R v0 w) :
    Calls Try.prog 54 #[v0] w fun e w' => ∃ v, e = .returned v ∧ R v w' :=
  calls_of_cwp (st := (fun i => 0)) (c := k54_0) (by kernel_rfl) Try.func54 (by kernel_rfl) (Nat.le_of_ble_eq_true (by kernel_rfl)) (by kernel_rfl)
    (s54_0 (R := R) (Q := endE Try.prog Try.f54 R) (fun e w h => kcast (by kernel_rfl) h) (argsE #[v0]) w (kcast (by kernel_rfl) h))
end Go.Proofs.Ytojgdmcojmllkaa.M
