/- What functions' texts ask of their ends, told over values that have names; printed by a program of this work. -/
import Derived.Test.YtnhgdngbdoifnaaFw
import Derived.Test.YtnhgdngbdoifnaaProg
namespace Go.Proofs.Ytnhgdngbdoifnaa.M
open Go.Proofs.Ytnhgdngbdoifnaa.F
set_option linter.unusedVariables false
set_option maxRecDepth 100000
/-! ### headgate/headgatelaw16.Some -/
def m12_9 (R : VP) (K1 : (Value × Value) → World → Prop) (l0 out3 i4 : Value) (w : World) : Prop :=
  valP Try.prog (binS BinOp.add 3 (Operand.tmp 15) (Operand.const (Value.int IntKind.i64 1)) i4 (Value.int IntKind.i64 1)) w fun t16 w =>
  K1 (out3, t16) w
def m12_11 (R : VP) (K1 : (Value × Value) → World → Prop) (l0 out3 i4 r5 : Value) (w : World) : Prop :=
  valP Try.prog (Instr.loadAt 46 r5) w fun t30 w =>
  valP Try.prog (Instr.buildSlice 24 1 #[(0, t30)]) w fun t31 w =>
  builtinP Try.prog Builtin.append #[24, 24] 24 #[false, false] #[out3, t31] w fun t32 w =>
  m12_9 R K1 l0 t32 i4 w
def m12_12 (R : VP) (K1 : (Value × Value) → World → Prop) (l0 out3 i4 r5 t24 : Value) (w : World) : Prop :=
  condP t24
  (valP Try.prog (Instr.fieldAt 46 r5 2) w fun t25 w =>
  valP Try.prog (Instr.loadAt 9 t25) w fun t26 w =>
  valP Try.prog (Instr.sliceAt 9 t26 none (some (Value.int IntKind.i64 50)) none) w fun t27 w =>
  valP Try.prog (Instr.fieldAt 46 r5 2) w fun t28 w =>
  unitP Try.prog (Instr.storeAt 9 t28 t27) w fun _ w =>
  m12_11 R K1 l0 out3 i4 r5 w)
  (m12_11 R K1 l0 out3 i4 r5 w)
def m12_10 (R : VP) (K1 : (Value × Value) → World → Prop) (l0 out3 i4 r5 : Value) (w : World) : Prop :=
  valP Try.prog (Instr.fieldAt 46 r5 2) w fun t21 w =>
  valP Try.prog (Instr.loadAt 9 t21) w fun t22 w =>
  builtinP Try.prog Builtin.len #[9] 3 #[false] #[t22] w fun t23 w =>
  valP Try.prog (binS BinOp.gtr 3 (Operand.tmp 23) (Operand.const (Value.int IntKind.i64 50)) t23 (Value.int IntKind.i64 50)) w fun t24 w =>
  m12_12 R K1 l0 out3 i4 r5 t24 w
def m12_8 (R : VP) (K1 : (Value × Value) → World → Prop) (l0 out3 i4 : Value) (w : World) : Prop :=
  valP Try.prog (Instr.indexAt 24 l0 i4) w fun t19 w =>
  valP Try.prog (Instr.loadAt 46 t19) w fun t20 w =>
  valP Try.prog (Instr.alloc 46 true (.tuple #[])) w fun r5 w =>
  unitP Try.prog (Instr.storeAt 46 r5 t20) w fun _ w =>
  m12_10 R K1 l0 out3 i4 r5 w
def m12_5 (R : VP) (t2 : Value) (w : World) : Prop :=
  R t2 w
def m12_4 (R : VP) (out3 : Value) (w : World) : Prop :=
  m12_5 R out3 w
def m12_13 (R : VP) (K1 : (Value × Value) → World → Prop) (l0 out3 i4 t14 : Value) (w : World) : Prop :=
  condP t14
  (m12_8 R K1 l0 out3 i4 w)
  (m12_4 R out3 w)
def m12_7 (R : VP) (K1 : (Value × Value) → World → Prop) (l0 out3 i4 : Value) (w : World) : Prop :=
  builtinP Try.prog Builtin.len #[24] 3 #[false] #[l0] w fun t13 w =>
  valP Try.prog (binS BinOp.lss 3 (Operand.tmp 11) (Operand.tmp 13) i4 t13) w fun t14 w =>
  m12_13 R K1 l0 out3 i4 t14 w
def m12_6 (R : VP) (l0 out3 i4 : Value) (w : World) : Prop :=
  loopP (fun (K1 : (Value × Value) → World → Prop) (s : Value × Value) w => m12_7 R K1 l0 s.1 s.2 w) (out3, i4) w
def m12_3 (R : VP) (l0 out3 : Value) (w : World) : Prop :=
  m12_6 R l0 out3 (Value.int IntKind.i64 0) w
def m12_2 (R : VP) (l0 : Value) (w : World) : Prop :=
  m12_3 R l0 (Value.slice none 0 0) w
def m12_14 (R : VP) (l0 t8 : Value) (w : World) : Prop :=
  condP t8
  (valP Try.prog (Instr.sliceAt 24 l0 none (some (Value.int IntKind.i64 150)) none) w fun t10 w =>
  m12_2 R t10 w)
  (m12_2 R l0 w)
def m12_1 (R : VP) (l0 : Value) (w : World) : Prop :=
  builtinP Try.prog Builtin.len #[24] 3 #[false] #[l0] w fun t7 w =>
  valP Try.prog (binS BinOp.gtr 3 (Operand.tmp 7) (Operand.const (Value.int IntKind.i64 150)) t7 (Value.int IntKind.i64 150)) w fun t8 w =>
  m12_14 R l0 t8 w
def m12_0 (R : VP) (l0 : Value) (w : World) : Prop :=
  m12_1 R l0 w
abbrev W12 := cwp Try.prog (fun i => 0)
noncomputable def k12_0 : Code := (bodyOf Try.f12)
noncomputable def k12_1 : Code := (c2 k12_0)
noncomputable def k12_2 : Code := (c2 k12_1)
noncomputable def k12_3 : Code := (c2 k12_2)
noncomputable def k12_4 : Code := (c2 k12_3)
noncomputable def k12_5 : Code := (c2 k12_4)
noncomputable def k12_6 : Code := (c2 (c1 k12_3))
noncomputable def k12_7 : Code := (c1 (c1 k12_6))
noncomputable def k12_8 : Code := (c2 k12_7)
noncomputable def k12_9 : Code := (c2 k12_8)
noncomputable def k12_10 : Code := (c2 (c1 (c1 k12_8)))
noncomputable def k12_11 : Code := (c2 k12_10)
noncomputable def k12_12 : Code := (c2 (c1 k12_10))
noncomputable def k12_13 : Code := (c2 (c1 k12_7))
noncomputable def k12_14 : Code := (c2 (c1 k12_1))
theorem s12_9 {R : VP} {K1 : (Value × Value) → World → Prop} {Q : EQ} (hN : ∀ e w, (K1 ((e 3), (e 4)) w) → Q .normal e w) (e : Env) (w : World) (h : m12_9 R K1 (e 0) (e 3) (e 4) w) : W12 k12_9 Q e w := by
  unfold m12_9 at h
  exact rgA 6 (fun e w => K1 ((e 3), (e 4)) w) h hN
theorem s12_11 {R : VP} {K1 : (Value × Value) → World → Prop} {Q : EQ} (hN : ∀ e w, (m12_9 R K1 (e 0) (e 3) (e 4) w) → Q .normal e w) (e : Env) (w : World) (h : m12_11 R K1 (e 0) (e 3) (e 4) (e 5) w) : W12 k12_11 Q e w := by
  unfold m12_11 at h
  exact rgA 10 (fun e w => m12_9 R K1 (e 0) (e 3) (e 4) w) h hN
theorem s12_12 {R : VP} {K1 : (Value × Value) → World → Prop} {Q : EQ} (hN : ∀ e w, (m12_11 R K1 (e 0) (e 3) (e 4) (e 5) w) → Q .normal e w) (e : Env) (w : World) (h : m12_12 R K1 (e 0) (e 3) (e 4) (e 5) (e 24) w) : W12 k12_12 Q e w := by
  unfold m12_12 at h
  refine coA (Operand.tmp 24) h (fun h1 => ?_) (fun h1 => ?_)
  · exact rgA 9 (fun e w => m12_11 R K1 (e 0) (e 3) (e 4) (e 5) w) h1 hN
  · exact skA (hN _ _ h1)
theorem s12_10 {R : VP} {K1 : (Value × Value) → World → Prop} {Q : EQ} (hN : ∀ e w, (m12_9 R K1 (e 0) (e 3) (e 4) w) → Q .normal e w) (e : Env) (w : World) (h : m12_10 R K1 (e 0) (e 3) (e 4) (e 5) w) : W12 k12_10 Q e w := by
  unfold m12_10 at h
  refine seA ?_
  have hN : ∀ e w, (m12_11 R K1 (e 0) (e 3) (e 4) (e 5) w) → (thenE (W12 k12_11 Q) Q) .normal e w := fun e w h => then_N (s12_11 (R := R) (Q := Q) (K1 := K1) hN e w h)
  refine seA ?_
  have hN : ∀ e w, (m12_12 R K1 (e 0) (e 3) (e 4) (e 5) (e 24) w) → (thenE (W12 k12_12 (thenE (W12 k12_11 Q) Q)) (thenE (W12 k12_11 Q) Q)) .normal e w := fun e w h => then_N (s12_12 (R := R) (Q := (thenE (W12 k12_11 Q) Q)) (K1 := K1) hN e w h)
  exact rgA 8 (fun e w => m12_12 R K1 (e 0) (e 3) (e 4) (e 5) (e 24) w) h hN
theorem s12_8 {R : VP} {K1 : (Value × Value) → World → Prop} {Q : EQ} (hN : ∀ e w, (K1 ((e 3), (e 4)) w) → Q .normal e w) (e : Env) (w : World) (h : m12_8 R K1 (e 0) (e 3) (e 4) w) : W12 k12_8 Q e w := by
  unfold m12_8 at h
  refine seA ?_
  have hN : ∀ e w, (m12_9 R K1 (e 0) (e 3) (e 4) w) → (thenE (W12 k12_9 Q) Q) .normal e w := fun e w h => then_N (s12_9 (R := R) (Q := Q) (K1 := K1) hN e w h)
  refine block_ok 1 (by kernel_rfl) ?_
  have hN : ∀ e w, (m12_9 R K1 (e 0) (e 3) (e 4) w) → (inBlockE 1 (thenE (W12 k12_9 Q) Q)) .normal e w := fun e w h => block_N (hN e w h)
  refine seA ?_
  have hN : ∀ e w, (m12_10 R K1 (e 0) (e 3) (e 4) (e 5) w) → (thenE (W12 k12_10 (inBlockE 1 (thenE (W12 k12_9 Q) Q))) (inBlockE 1 (thenE (W12 k12_9 Q) Q))) .normal e w := fun e w h => then_N (s12_10 (R := R) (Q := (inBlockE 1 (thenE (W12 k12_9 Q) Q))) (K1 := K1) hN e w h)
  exact rgA 7 (fun e w => m12_10 R K1 (e 0) (e 3) (e 4) (e 5) w) h hN
theorem s12_5 {R : VP} {Q : EQ} (hR : ∀ e w, (R (e 2) w) → Q .ret e w) (e : Env) (w : World) (h : m12_5 R (e 2) w) : W12 k12_5 Q e w := by
  unfold m12_5 at h
  exact reA (hR _ _ h)
theorem s12_4 {R : VP} {Q : EQ} (hR : ∀ e w, (R (e 2) w) → Q .ret e w) (e : Env) (w : World) (h : m12_4 R (e 3) w) : W12 k12_4 Q e w := by
  unfold m12_4 at h
  refine seA ?_
  have hN : ∀ e w, (m12_5 R (e 2) w) → (thenE (W12 k12_5 Q) Q) .normal e w := fun e w h => then_N (s12_5 (R := R) (Q := Q) hR e w h)
  exact rgA 11 (fun e w => m12_5 R (e 2) w) h hN
theorem s12_13 {R : VP} {K1 : (Value × Value) → World → Prop} {Q : EQ} (hN : ∀ e w, (m12_8 R K1 (e 0) (e 3) (e 4) w) → Q .normal e w) (hX0 : ∀ e w, (m12_4 R (e 3) w) → Q (.exit 0) e w) (e : Env) (w : World) (h : m12_13 R K1 (e 0) (e 3) (e 4) (e 14) w) : W12 k12_13 Q e w := by
  unfold m12_13 at h
  refine coA (Operand.tmp 14) h (fun h1 => ?_) (fun h1 => ?_)
  · exact skA (hN _ _ h1)
  · exact exA 0 (hX0 _ _ h1)
theorem s12_7 {R : VP} {K1 : (Value × Value) → World → Prop} {Q : EQ} (hN : ∀ e w, (K1 ((e 3), (e 4)) w) → Q .normal e w) (hX0 : ∀ e w, (m12_4 R (e 3) w) → Q (.exit 0) e w) (e : Env) (w : World) (h : m12_7 R K1 (e 0) (e 3) (e 4) w) : W12 k12_7 Q e w := by
  unfold m12_7 at h
  refine seA ?_
  have hN : ∀ e w, (m12_8 R K1 (e 0) (e 3) (e 4) w) → (thenE (W12 k12_8 Q) Q) .normal e w := fun e w h => then_N (s12_8 (R := R) (Q := Q) (K1 := K1) hN e w h)
  have hX0 : ∀ e w, (m12_4 R (e 3) w) → (thenE (W12 k12_8 Q) Q) (.exit 0) e w := fun e w h => then_X (hX0 e w h)
  refine seA ?_
  have hN : ∀ e w, (m12_13 R K1 (e 0) (e 3) (e 4) (e 14) w) → (thenE (W12 k12_13 (thenE (W12 k12_8 Q) Q)) (thenE (W12 k12_8 Q) Q)) .normal e w := fun e w h => then_N (s12_13 (R := R) (Q := (thenE (W12 k12_8 Q) Q)) (K1 := K1) hN hX0 e w h)
  exact rgA 5 (fun e w => m12_13 R K1 (e 0) (e 3) (e 4) (e 14) w) h hN
theorem s12_6 {R : VP} {Q : EQ} (hN : ∀ e w, (m12_4 R (e 3) w) → Q .normal e w) (e : Env) (w : World) (h : m12_6 R (e 0) (e 3) (e 4) w) : W12 k12_6 Q e w := by
  unfold m12_6 at h
  refine block_ok 0 (by kernel_rfl) ?_
  have hX0 : ∀ e w, (m12_4 R (e 3) w) → (inBlockE 0 Q) (.exit 0) e w := fun e w h => inBlock_same (Q := Q) 0 (hN e w h)
  refine loop_ok' (fun (e : Env) => (e 3, e 4)) [0] (by kernel_rfl) (by kernel_rfl) h (fun K e' w' hk h' => ?_)
  have r0 : e' 0 = e 0 := hk 0 (by decide)
  have hX0 : ∀ e w, (m12_4 R (e 3) w) → (thenE (fun (e : Env) w => K ((e 3), (e 4)) w) (inBlockE 0 Q)) (.exit 0) e w := fun e w h => then_X (hX0 e w h)
  exact s12_7 (R := R) (Q := (thenE (fun (e : Env) w => K ((e 3), (e 4)) w) (inBlockE 0 Q))) (K1 := K) (fun _ _ h => then_N h) hX0 e' w' (by rw [r0]; exact h')
theorem s12_3 {R : VP} {Q : EQ} (hR : ∀ e w, (R (e 2) w) → Q .ret e w) (e : Env) (w : World) (h : m12_3 R (e 0) (e 3) w) : W12 k12_3 Q e w := by
  unfold m12_3 at h
  refine seA ?_
  have hN : ∀ e w, (m12_4 R (e 3) w) → (thenE (W12 k12_4 Q) Q) .normal e w := fun e w h => then_N (s12_4 (R := R) (Q := Q) hR e w h)
  refine seA ?_
  have hN : ∀ e w, (m12_6 R (e 0) (e 3) (e 4) w) → (thenE (W12 k12_6 (thenE (W12 k12_4 Q) Q)) (thenE (W12 k12_4 Q) Q)) .normal e w := fun e w h => then_N (s12_6 (R := R) (Q := (thenE (W12 k12_4 Q) Q)) hN e w h)
  exact rgA 4 (fun e w => m12_6 R (e 0) (e 3) (e 4) w) h hN
theorem s12_2 {R : VP} {Q : EQ} (hR : ∀ e w, (R (e 2) w) → Q .ret e w) (e : Env) (w : World) (h : m12_2 R (e 0) w) : W12 k12_2 Q e w := by
  unfold m12_2 at h
  refine seA ?_
  have hN : ∀ e w, (m12_3 R (e 0) (e 3) w) → (thenE (W12 k12_3 Q) Q) .normal e w := fun e w h => then_N (s12_3 (R := R) (Q := Q) hR e w h)
  exact rgA 3 (fun e w => m12_3 R (e 0) (e 3) w) h hN
theorem s12_14 {R : VP} {Q : EQ} (hN : ∀ e w, (m12_2 R (e 0) w) → Q .normal e w) (e : Env) (w : World) (h : m12_14 R (e 0) (e 8) w) : W12 k12_14 Q e w := by
  unfold m12_14 at h
  refine coA (Operand.tmp 8) h (fun h1 => ?_) (fun h1 => ?_)
  · exact rgA 2 (fun e w => m12_2 R (e 0) w) h1 hN
  · exact skA (hN _ _ h1)
theorem s12_1 {R : VP} {Q : EQ} (hR : ∀ e w, (R (e 2) w) → Q .ret e w) (e : Env) (w : World) (h : m12_1 R (e 0) w) : W12 k12_1 Q e w := by
  unfold m12_1 at h
  refine seA ?_
  have hN : ∀ e w, (m12_2 R (e 0) w) → (thenE (W12 k12_2 Q) Q) .normal e w := fun e w h => then_N (s12_2 (R := R) (Q := Q) hR e w h)
  refine seA ?_
  have hN : ∀ e w, (m12_14 R (e 0) (e 8) w) → (thenE (W12 k12_14 (thenE (W12 k12_2 Q) Q)) (thenE (W12 k12_2 Q) Q)) .normal e w := fun e w h => then_N (s12_14 (R := R) (Q := (thenE (W12 k12_2 Q) Q)) hN e w h)
  exact rgA 1 (fun e w => m12_14 R (e 0) (e 8) w) h hN
theorem s12_0 {R : VP} {Q : EQ} (hR : ∀ e w, (R (e 2) w) → Q .ret e w) (e : Env) (w : World) (h : m12_0 R (e 0) w) : W12 k12_0 Q e w := by
  unfold m12_0 at h
  refine seA ?_
  have hN : ∀ e w, (m12_1 R (e 0) w) → (thenE (W12 k12_1 Q) Q) .normal e w := fun e w h => then_N (s12_1 (R := R) (Q := Q) hR e w h)
  exact rgA 0 (fun e w => m12_1 R (e 0) w) h hN
abbrev m12 (R : VP) (l0 : Value) (w : World) : Prop := m12_0 R l0 w
theorem s12 (l0 : Value) {R : VP} {w : World} (h : m12 R l0 w) :
    Calls Try.prog 12 #[l0] w fun e w' => ∃ v, e = .returned v ∧ R v w' :=
  calls_of_cwp (st := (fun i => 0)) (c := k12_0) (by kernel_rfl) Try.func12 (by kernel_rfl) (Nat.le_of_ble_eq_true (by kernel_rfl)) (by kernel_rfl)
    (s12_0 (R := R) (Q := endE Try.prog Try.f12 R) (fun e w h => kcast (by kernel_rfl) h) (argsE #[l0]) w (kcast (by kernel_rfl) h))
/-! ### headgate/headgatelaw33.log -/
def m5_22 (R : VP) (K1 : (Value × Value) → World → Prop) (t6 t7 t8 : Value) (w : World) : Prop :=
  valS Try.prog (loadC 28 t7) w fun r1 =>
  R (Value.tuple #[t6, r1, t8]) w
def m5_19 (R : VP) (K1 : (Value × Value) → World → Prop) (K2 : (Value × Value) → World → Prop) (l1 most2 g3 t7 s9 out10 n11 t12 d15 i16 : Value) (w : World) : Prop :=
  valP Try.prog (binS BinOp.add 3 (Operand.tmp 52) (Operand.const (Value.int IntKind.i64 1)) i16 (Value.int IntKind.i64 1)) w fun t53 w =>
  K2 (out10, t53) w
def m5_18 (R : VP) (K1 : (Value × Value) → World → Prop) (K2 : (Value × Value) → World → Prop) (l1 most2 g3 t7 s9 out10 n11 t12 d15 i16 : Value) (w : World) : Prop :=
  builtinP Try.prog Builtin.len #[25] 3 #[false] #[out10] w fun t56 w =>
  valP Try.prog (Instr.indexAt 24 d15 i16) w fun t59 w =>
  valP Try.prog (Instr.loadAt 46 t59) w fun t60 w =>
  valP Try.prog (Instr.build 48 #[(0, t56), (1, t60)]) w fun t61 w =>
  valP Try.prog (Instr.buildSlice 25 1 #[(0, t61)]) w fun t62 w =>
  builtinP Try.prog Builtin.append #[25, 25] 25 #[false, false] #[out10, t62] w fun t63 w =>
  m5_19 R K1 K2 l1 most2 g3 t7 s9 t63 n11 t12 d15 i16 w
def m5_15 (R : VP) (K1 : (Value × Value) → World → Prop) (l1 most2 g3 t7 s9 out10 n11 : Value) (w : World) : Prop :=
  valP Try.prog (Instr.sliceAt 24 l1 (some n11) none none) w fun t67 w =>
  K1 (t67, out10) w
def m5_14 (R : VP) (K1 : (Value × Value) → World → Prop) (l1 most2 g3 t7 s9 out10 n11 t12 : Value) (w : World) : Prop :=
  valP Try.prog (Instr.loadAt 28 t12) w fun t64 w =>
  unitP Try.prog (Instr.storeAt 28 s9 t64) w fun _ w =>
  m5_15 R K1 l1 most2 g3 t7 s9 out10 n11 w
def m5_20 (R : VP) (K1 : (Value × Value) → World → Prop) (K2 : (Value × Value) → World → Prop) (l1 most2 g3 t7 s9 out10 n11 t12 d15 i16 t51 : Value) (w : World) : Prop :=
  condP t51
  (m5_18 R K1 K2 l1 most2 g3 t7 s9 out10 n11 t12 d15 i16 w)
  (m5_14 R K1 l1 most2 g3 t7 s9 out10 n11 t12 w)
def m5_17 (R : VP) (K1 : (Value × Value) → World → Prop) (K2 : (Value × Value) → World → Prop) (l1 most2 g3 t7 s9 out10 n11 t12 d15 i16 : Value) (w : World) : Prop :=
  builtinP Try.prog Builtin.len #[24] 3 #[false] #[d15] w fun t50 w =>
  valP Try.prog (binS BinOp.lss 3 (Operand.tmp 48) (Operand.tmp 50) i16 t50) w fun t51 w =>
  m5_20 R K1 K2 l1 most2 g3 t7 s9 out10 n11 t12 d15 i16 t51 w
def m5_16 (R : VP) (K1 : (Value × Value) → World → Prop) (l1 most2 g3 t7 s9 out10 n11 t12 d15 i16 : Value) (w : World) : Prop :=
  loopP (fun (K2 : (Value × Value) → World → Prop) (s : Value × Value) w => m5_17 R K1 K2 l1 most2 g3 t7 s9 s.1 n11 t12 d15 s.2 w) (out10, i16) w
def m5_13 (R : VP) (K1 : (Value × Value) → World → Prop) (l1 most2 g3 t7 s9 out10 n11 t12 d15 : Value) (w : World) : Prop :=
  m5_16 R K1 l1 most2 g3 t7 s9 out10 n11 t12 d15 (Value.int IntKind.i64 0) w
def m5_12 (R : VP) (K1 : (Value × Value) → World → Prop) (l1 most2 g3 t7 s9 out10 n11 t12 : Value) (w : World) : Prop :=
  valP Try.prog (Instr.loadAt 28 s9) w fun t45 w =>
  valP Try.prog (Instr.loadAt 28 t12) w fun t46 w =>
  callP Try.prog (fnV 14) #[t45, t46] w fun t47 w =>
  m5_13 R K1 l1 most2 g3 t7 s9 out10 n11 t12 t47 w
def m5_21 (R : VP) (K1 : (Value × Value) → World → Prop) (l1 most2 g3 t7 s9 out10 n11 t12 t43 : Value) (w : World) : Prop :=
  condP t43
  (anyDraw w fun w =>
  valS Try.prog (Instr.loadAt 28 s9) w fun t44 =>
  unitP Try.prog (Instr.storeAt 28 t7 t44) w fun _ w =>
  m5_22 R K1 (Value.slice none 0 0) t7 (Value.bool false) w)
  (m5_12 R K1 l1 most2 g3 t7 s9 out10 n11 t12 w)
def m5_11 (R : VP) (K1 : (Value × Value) → World → Prop) (l1 most2 g3 t7 s9 out10 n11 t12 e14 : Value) (w : World) : Prop :=
  valP Try.prog (binS BinOp.neq 3 (Operand.tmp 42) (Operand.const (Value.int IntKind.i64 0)) e14 (Value.int IntKind.i64 0)) w fun t43 w =>
  m5_21 R K1 l1 most2 g3 t7 s9 out10 n11 t12 t43 w
def m5_10 (R : VP) (K1 : (Value × Value) → World → Prop) (l1 most2 g3 t7 s9 out10 n11 : Value) (w : World) : Prop :=
  anyDraw w fun w =>
  heldP w fun J =>
  valJ Try.prog J (Instr.loadAt 23 g3) fun t33 =>
  valJ Try.prog J (Instr.loadAt 28 s9) fun t34 =>
  valJ Try.prog J (Instr.sliceAt 24 l1 none (some n11) none) fun t37 =>
  (callP Try.prog (fnV 13) #[t33, t34, t37] w fun t38 w =>
  stayP J w
  (valJ Try.prog J (Instr.extract t38 0) fun t39 =>
  valJ Try.prog J (Instr.extract t38 1) fun t40 =>
  valJ Try.prog J (Instr.extract t38 2) fun t41 =>
  valP Try.prog (Instr.alloc 28 true (.tuple #[])) w fun t12 w =>
  stayP J w
  (unitP Try.prog (Instr.storeAt 28 t12 t39) w fun _ w =>
  stayP J w
  (m5_11 R K1 l1 most2 g3 t7 s9 out10 n11 t12 t41 w)))) ∧ (valP Try.prog (Instr.alloc 28 true (.tuple #[])) w fun t12 w =>
  stayP J w
  (callP Try.prog (fnV 13) #[t33, t34, t37] w fun t38 w =>
  stayP J w
  (valJ Try.prog J (Instr.extract t38 0) fun t39 =>
  valJ Try.prog J (Instr.extract t38 1) fun t40 =>
  valJ Try.prog J (Instr.extract t38 2) fun t41 =>
  unitP Try.prog (Instr.storeAt 28 t12 t39) w fun _ w =>
  stayP J w
  (m5_11 R K1 l1 most2 g3 t7 s9 out10 n11 t12 t41 w))))
def m5_9 (R : VP) (K1 : (Value × Value) → World → Prop) (l1 most2 g3 t7 s9 out10 : Value) (w : World) : Prop :=
  builtinP Try.prog Builtin.len #[24] 3 #[false] #[l1] w fun t30 w =>
  builtinP Try.prog Builtin.min #[3, 3] 3 #[false, false] #[most2, t30] w fun t31 w =>
  m5_10 R K1 l1 most2 g3 t7 s9 out10 t31 w
def m5_7 (R : VP) (t6 t7 t8 : Value) (w : World) : Prop :=
  valS Try.prog (loadC 28 t7) w fun r1 =>
  R (Value.tuple #[t6, r1, t8]) w
def m5_6 (R : VP) (g3 t7 s9 out10 : Value) (w : World) : Prop :=
  anyDraw w fun w =>
  heldP w fun J =>
  valJ Try.prog J (Instr.loadAt 28 s9) fun t69 =>
  valJ Try.prog J (Instr.loadAt 23 g3) fun t70 =>
  valJ Try.prog J (Instr.loadAt 28 s9) fun t71 =>
  callP Try.prog (fnV 15) #[t70, t71] w fun t72 w =>
  stayP J w
  (unitP Try.prog (Instr.storeAt 28 t7 t69) w fun _ w =>
  stayP J w
  (m5_7 R out10 t7 t72 w))
def m5_23 (R : VP) (K1 : (Value × Value) → World → Prop) (l1 most2 g3 t7 s9 out10 t27 : Value) (w : World) : Prop :=
  condP t27
  (m5_9 R K1 l1 most2 g3 t7 s9 out10 w)
  (m5_6 R g3 t7 s9 out10 w)
def m5_8 (R : VP) (K1 : (Value × Value) → World → Prop) (l1 most2 g3 t7 s9 out10 : Value) (w : World) : Prop :=
  builtinP Try.prog Builtin.len #[24] 3 #[false] #[l1] w fun t26 w =>
  valP Try.prog (binS BinOp.gtr 3 (Operand.tmp 26) (Operand.const (Value.int IntKind.i64 0)) t26 (Value.int IntKind.i64 0)) w fun t27 w =>
  m5_23 R K1 l1 most2 g3 t7 s9 out10 t27 w
def m5_5 (R : VP) (l1 most2 g3 t7 s9 out10 : Value) (w : World) : Prop :=
  loopP (fun (K1 : (Value × Value) → World → Prop) (s : Value × Value) w => m5_8 R K1 s.1 most2 g3 t7 s9 s.2 w) (l1, out10) w
def m5_4 (R : VP) (l1 most2 g3 t7 s9 : Value) (w : World) : Prop :=
  m5_5 R l1 most2 g3 t7 s9 (Value.slice none 0 0) w
def m5_3 (R : VP) (l1 most2 g3 t7 : Value) (w : World) : Prop :=
  valP Try.prog (Instr.build 28 #[(0, (Value.int IntKind.i64 (-1)))]) w fun t24 w =>
  valP Try.prog (Instr.alloc 28 true (.tuple #[])) w fun s9 w =>
  unitP Try.prog (Instr.storeAt 28 s9 t24) w fun _ w =>
  m5_4 R l1 most2 g3 t7 s9 w
def m5_2 (R : VP) (l1 most2 g3 t7 : Value) (w : World) : Prop :=
  valP Try.prog (binS BinOp.rem 3 (Operand.tmp 19) (Operand.const (Value.int IntKind.i64 9)) most2 (Value.int IntKind.i64 9)) w fun t20 w =>
  valP Try.prog (binS BinOp.add 3 (Operand.tmp 20) (Operand.const (Value.int IntKind.i64 9)) t20 (Value.int IntKind.i64 9)) w fun t21 w =>
  valP Try.prog (binS BinOp.rem 3 (Operand.tmp 21) (Operand.const (Value.int IntKind.i64 9)) t21 (Value.int IntKind.i64 9)) w fun t22 w =>
  valP Try.prog (binS BinOp.add 3 (Operand.const (Value.int IntKind.i64 1)) (Operand.tmp 22) (Value.int IntKind.i64 1) t22) w fun t23 w =>
  m5_3 R l1 t23 g3 t7 w
def m5_1 (R : VP) (l1 most2 g3 t7 : Value) (w : World) : Prop :=
  callP Try.prog (fnV 12) #[l1] w fun t18 w =>
  m5_2 R t18 most2 g3 t7 w
def m5_0 (R : VP) (g0 l1 most2 : Value) (w : World) : Prop :=
  valP Try.prog (Instr.box 23 g0) w fun g3 w =>
  valP Try.prog (Instr.alloc 28 true (.tuple #[])) w fun t7 w =>
  m5_1 R l1 most2 g3 t7 w
abbrev W5 := cwp Try.prog (fun i => cond (Nat.beq i 9) 4 (0))
noncomputable def k5_0 : Code := (bodyOf Try.f5)
noncomputable def k5_1 : Code := (c2 k5_0)
noncomputable def k5_2 : Code := (c2 k5_1)
noncomputable def k5_3 : Code := (c2 k5_2)
noncomputable def k5_4 : Code := (c2 k5_3)
noncomputable def k5_5 : Code := (c2 k5_4)
noncomputable def k5_6 : Code := (c2 k5_5)
noncomputable def k5_7 : Code := (c2 k5_6)
noncomputable def k5_8 : Code := (c1 (c1 (c1 k5_5)))
noncomputable def k5_9 : Code := (c2 k5_8)
noncomputable def k5_10 : Code := (c2 (c1 k5_9))
noncomputable def k5_11 : Code := (c2 k5_10)
noncomputable def k5_12 : Code := (c2 k5_11)
noncomputable def k5_13 : Code := (c2 k5_12)
noncomputable def k5_14 : Code := (c2 k5_13)
noncomputable def k5_15 : Code := (c2 k5_14)
noncomputable def k5_16 : Code := (c2 (c1 k5_13))
noncomputable def k5_17 : Code := (c1 (c1 k5_16))
noncomputable def k5_18 : Code := (c2 k5_17)
noncomputable def k5_19 : Code := (c2 k5_18)
noncomputable def k5_20 : Code := (c2 (c1 k5_17))
noncomputable def k5_21 : Code := (c2 (c1 k5_11))
noncomputable def k5_22 : Code := (c2 (c1 k5_21))
noncomputable def k5_23 : Code := (c2 (c1 k5_8))
theorem s5_22 {R : VP} {K1 : (Value × Value) → World → Prop} {Q : EQ} (hR : ∀ e w, (valS Try.prog (loadC 28 (e 7)) w fun r1 =>
R (Value.tuple #[(e 6), r1, (e 8)]) w) → Q .ret e w) (e : Env) (w : World) (h : m5_22 R K1 (e 6) (e 7) (e 8) w) : W5 k5_22 Q e w := by
  unfold m5_22 at h
  exact reA (hR _ _ h)
theorem s5_19 {R : VP} {K1 : (Value × Value) → World → Prop} {K2 : (Value × Value) → World → Prop} {Q : EQ} (hN : ∀ e w, (K2 ((e 10), (e 16)) w) → Q .normal e w) (e : Env) (w : World) (h : m5_19 R K1 K2 (e 1) (e 2) (e 3) (e 7) (e 9) (e 10) (e 11) (e 12) (e 15) (e 16) w) : W5 k5_19 Q e w := by
  unfold m5_19 at h
  exact rgA 13 (fun e w => K2 ((e 10), (e 16)) w) h hN
theorem s5_18 {R : VP} {K1 : (Value × Value) → World → Prop} {K2 : (Value × Value) → World → Prop} {Q : EQ} (hN : ∀ e w, (K2 ((e 10), (e 16)) w) → Q .normal e w) (e : Env) (w : World) (h : m5_18 R K1 K2 (e 1) (e 2) (e 3) (e 7) (e 9) (e 10) (e 11) (e 12) (e 15) (e 16) w) : W5 k5_18 Q e w := by
  unfold m5_18 at h
  refine seA ?_
  have hN : ∀ e w, (m5_19 R K1 K2 (e 1) (e 2) (e 3) (e 7) (e 9) (e 10) (e 11) (e 12) (e 15) (e 16) w) → (thenE (W5 k5_19 Q) Q) .normal e w := fun e w h => then_N (s5_19 (R := R) (Q := Q) (K1 := K1) (K2 := K2) hN e w h)
  refine block_ok 3 (by kernel_rfl) ?_
  have hN : ∀ e w, (m5_19 R K1 K2 (e 1) (e 2) (e 3) (e 7) (e 9) (e 10) (e 11) (e 12) (e 15) (e 16) w) → (inBlockE 3 (thenE (W5 k5_19 Q) Q)) .normal e w := fun e w h => block_N (hN e w h)
  exact rgA 14 (fun e w => m5_19 R K1 K2 (e 1) (e 2) (e 3) (e 7) (e 9) (e 10) (e 11) (e 12) (e 15) (e 16) w) h hN
theorem s5_15 {R : VP} {K1 : (Value × Value) → World → Prop} {Q : EQ} (hN : ∀ e w, (K1 ((e 1), (e 10)) w) → Q .normal e w) (e : Env) (w : World) (h : m5_15 R K1 (e 1) (e 2) (e 3) (e 7) (e 9) (e 10) (e 11) w) : W5 k5_15 Q e w := by
  unfold m5_15 at h
  exact rgA 16 (fun e w => K1 ((e 1), (e 10)) w) h hN
theorem s5_14 {R : VP} {K1 : (Value × Value) → World → Prop} {Q : EQ} (hN : ∀ e w, (K1 ((e 1), (e 10)) w) → Q .normal e w) (e : Env) (w : World) (h : m5_14 R K1 (e 1) (e 2) (e 3) (e 7) (e 9) (e 10) (e 11) (e 12) w) : W5 k5_14 Q e w := by
  unfold m5_14 at h
  refine seA ?_
  have hN : ∀ e w, (m5_15 R K1 (e 1) (e 2) (e 3) (e 7) (e 9) (e 10) (e 11) w) → (thenE (W5 k5_15 Q) Q) .normal e w := fun e w h => then_N (s5_15 (R := R) (Q := Q) (K1 := K1) hN e w h)
  exact rgA 15 (fun e w => m5_15 R K1 (e 1) (e 2) (e 3) (e 7) (e 9) (e 10) (e 11) w) h hN
theorem s5_20 {R : VP} {K1 : (Value × Value) → World → Prop} {K2 : (Value × Value) → World → Prop} {Q : EQ} (hN : ∀ e w, (m5_18 R K1 K2 (e 1) (e 2) (e 3) (e 7) (e 9) (e 10) (e 11) (e 12) (e 15) (e 16) w) → Q .normal e w) (hX2 : ∀ e w, (m5_14 R K1 (e 1) (e 2) (e 3) (e 7) (e 9) (e 10) (e 11) (e 12) w) → Q (.exit 2) e w) (e : Env) (w : World) (h : m5_20 R K1 K2 (e 1) (e 2) (e 3) (e 7) (e 9) (e 10) (e 11) (e 12) (e 15) (e 16) (e 51) w) : W5 k5_20 Q e w := by
  unfold m5_20 at h
  refine coA (Operand.tmp 51) h (fun h1 => ?_) (fun h1 => ?_)
  · exact skA (hN _ _ h1)
  · exact exA 2 (hX2 _ _ h1)
theorem s5_17 {R : VP} {K1 : (Value × Value) → World → Prop} {K2 : (Value × Value) → World → Prop} {Q : EQ} (hN : ∀ e w, (K2 ((e 10), (e 16)) w) → Q .normal e w) (hX2 : ∀ e w, (m5_14 R K1 (e 1) (e 2) (e 3) (e 7) (e 9) (e 10) (e 11) (e 12) w) → Q (.exit 2) e w) (e : Env) (w : World) (h : m5_17 R K1 K2 (e 1) (e 2) (e 3) (e 7) (e 9) (e 10) (e 11) (e 12) (e 15) (e 16) w) : W5 k5_17 Q e w := by
  unfold m5_17 at h
  refine seA ?_
  have hN : ∀ e w, (m5_18 R K1 K2 (e 1) (e 2) (e 3) (e 7) (e 9) (e 10) (e 11) (e 12) (e 15) (e 16) w) → (thenE (W5 k5_18 Q) Q) .normal e w := fun e w h => then_N (s5_18 (R := R) (Q := Q) (K1 := K1) (K2 := K2) hN e w h)
  have hX2 : ∀ e w, (m5_14 R K1 (e 1) (e 2) (e 3) (e 7) (e 9) (e 10) (e 11) (e 12) w) → (thenE (W5 k5_18 Q) Q) (.exit 2) e w := fun e w h => then_X (hX2 e w h)
  refine seA ?_
  have hN : ∀ e w, (m5_20 R K1 K2 (e 1) (e 2) (e 3) (e 7) (e 9) (e 10) (e 11) (e 12) (e 15) (e 16) (e 51) w) → (thenE (W5 k5_20 (thenE (W5 k5_18 Q) Q)) (thenE (W5 k5_18 Q) Q)) .normal e w := fun e w h => then_N (s5_20 (R := R) (Q := (thenE (W5 k5_18 Q) Q)) (K1 := K1) (K2 := K2) hN hX2 e w h)
  exact rgA 12 (fun e w => m5_20 R K1 K2 (e 1) (e 2) (e 3) (e 7) (e 9) (e 10) (e 11) (e 12) (e 15) (e 16) (e 51) w) h hN
theorem s5_16 {R : VP} {K1 : (Value × Value) → World → Prop} {Q : EQ} (hN : ∀ e w, (m5_14 R K1 (e 1) (e 2) (e 3) (e 7) (e 9) (e 10) (e 11) (e 12) w) → Q .normal e w) (e : Env) (w : World) (h : m5_16 R K1 (e 1) (e 2) (e 3) (e 7) (e 9) (e 10) (e 11) (e 12) (e 15) (e 16) w) : W5 k5_16 Q e w := by
  unfold m5_16 at h
  refine block_ok 2 (by kernel_rfl) ?_
  have hX2 : ∀ e w, (m5_14 R K1 (e 1) (e 2) (e 3) (e 7) (e 9) (e 10) (e 11) (e 12) w) → (inBlockE 2 Q) (.exit 2) e w := fun e w h => inBlock_same (Q := Q) 2 (hN e w h)
  refine loop_ok' (fun (e : Env) => (e 10, e 16)) [1, 2, 3, 7, 9, 11, 12, 15] (by kernel_rfl) (by kernel_rfl) h (fun K e' w' hk h' => ?_)
  have r1 : e' 1 = e 1 := hk 1 (by decide)
  have r2 : e' 2 = e 2 := hk 2 (by decide)
  have r3 : e' 3 = e 3 := hk 3 (by decide)
  have r7 : e' 7 = e 7 := hk 7 (by decide)
  have r9 : e' 9 = e 9 := hk 9 (by decide)
  have r11 : e' 11 = e 11 := hk 11 (by decide)
  have r12 : e' 12 = e 12 := hk 12 (by decide)
  have r15 : e' 15 = e 15 := hk 15 (by decide)
  have hX2 : ∀ e w, (m5_14 R K1 (e 1) (e 2) (e 3) (e 7) (e 9) (e 10) (e 11) (e 12) w) → (thenE (fun (e : Env) w => K ((e 10), (e 16)) w) (inBlockE 2 Q)) (.exit 2) e w := fun e w h => then_X (hX2 e w h)
  exact s5_17 (R := R) (Q := (thenE (fun (e : Env) w => K ((e 10), (e 16)) w) (inBlockE 2 Q))) (K1 := K1) (K2 := K) (fun _ _ h => then_N h) hX2 e' w' (by rw [r1, r2, r3, r7, r9, r11, r12, r15]; exact h')
theorem s5_13 {R : VP} {K1 : (Value × Value) → World → Prop} {Q : EQ} (hN : ∀ e w, (K1 ((e 1), (e 10)) w) → Q .normal e w) (e : Env) (w : World) (h : m5_13 R K1 (e 1) (e 2) (e 3) (e 7) (e 9) (e 10) (e 11) (e 12) (e 15) w) : W5 k5_13 Q e w := by
  unfold m5_13 at h
  refine seA ?_
  have hN : ∀ e w, (m5_14 R K1 (e 1) (e 2) (e 3) (e 7) (e 9) (e 10) (e 11) (e 12) w) → (thenE (W5 k5_14 Q) Q) .normal e w := fun e w h => then_N (s5_14 (R := R) (Q := Q) (K1 := K1) hN e w h)
  refine seA ?_
  have hN : ∀ e w, (m5_16 R K1 (e 1) (e 2) (e 3) (e 7) (e 9) (e 10) (e 11) (e 12) (e 15) (e 16) w) → (thenE (W5 k5_16 (thenE (W5 k5_14 Q) Q)) (thenE (W5 k5_14 Q) Q)) .normal e w := fun e w h => then_N (s5_16 (R := R) (Q := (thenE (W5 k5_14 Q) Q)) (K1 := K1) hN e w h)
  exact rgA 11 (fun e w => m5_16 R K1 (e 1) (e 2) (e 3) (e 7) (e 9) (e 10) (e 11) (e 12) (e 15) (e 16) w) h hN
theorem s5_12 {R : VP} {K1 : (Value × Value) → World → Prop} {Q : EQ} (hN : ∀ e w, (K1 ((e 1), (e 10)) w) → Q .normal e w) (e : Env) (w : World) (h : m5_12 R K1 (e 1) (e 2) (e 3) (e 7) (e 9) (e 10) (e 11) (e 12) w) : W5 k5_12 Q e w := by
  unfold m5_12 at h
  refine seA ?_
  have hN : ∀ e w, (m5_13 R K1 (e 1) (e 2) (e 3) (e 7) (e 9) (e 10) (e 11) (e 12) (e 15) w) → (thenE (W5 k5_13 Q) Q) .normal e w := fun e w h => then_N (s5_13 (R := R) (Q := Q) (K1 := K1) hN e w h)
  exact rgA 10 (fun e w => m5_13 R K1 (e 1) (e 2) (e 3) (e 7) (e 9) (e 10) (e 11) (e 12) (e 15) w) h hN
theorem s5_21 {R : VP} {K1 : (Value × Value) → World → Prop} {Q : EQ} (hN : ∀ e w, (m5_12 R K1 (e 1) (e 2) (e 3) (e 7) (e 9) (e 10) (e 11) (e 12) w) → Q .normal e w) (hR : ∀ e w, (valS Try.prog (loadC 28 (e 7)) w fun r1 =>
R (Value.tuple #[(e 6), r1, (e 8)]) w) → Q .ret e w) (e : Env) (w : World) (h : m5_21 R K1 (e 1) (e 2) (e 3) (e 7) (e 9) (e 10) (e 11) (e 12) (e 43) w) : W5 k5_21 Q e w := by
  unfold m5_21 at h
  refine coA (Operand.tmp 43) h (fun h1 => ?_) (fun h1 => ?_)
  · refine seA ?_
    have hN : ∀ e w, (m5_22 R K1 (e 6) (e 7) (e 8) w) → (thenE (W5 k5_22 Q) Q) .normal e w := fun e w h => then_N (s5_22 (R := R) (Q := Q) (K1 := K1) hR e w h)
    exact taA 9 2 (fun e w => m5_22 R K1 (e 6) (e 7) (e 8) w) h1 hN
  · exact skA (hN _ _ h1)
theorem s5_11 {R : VP} {K1 : (Value × Value) → World → Prop} {Q : EQ} (hN : ∀ e w, (K1 ((e 1), (e 10)) w) → Q .normal e w) (hR : ∀ e w, (valS Try.prog (loadC 28 (e 7)) w fun r1 =>
R (Value.tuple #[(e 6), r1, (e 8)]) w) → Q .ret e w) (e : Env) (w : World) (h : m5_11 R K1 (e 1) (e 2) (e 3) (e 7) (e 9) (e 10) (e 11) (e 12) (e 14) w) : W5 k5_11 Q e w := by
  unfold m5_11 at h
  refine seA ?_
  have hN : ∀ e w, (m5_12 R K1 (e 1) (e 2) (e 3) (e 7) (e 9) (e 10) (e 11) (e 12) w) → (thenE (W5 k5_12 Q) Q) .normal e w := fun e w h => then_N (s5_12 (R := R) (Q := Q) (K1 := K1) hN e w h)
  have hR : ∀ e w, (valS Try.prog (loadC 28 (e 7)) w fun r1 =>
  R (Value.tuple #[(e 6), r1, (e 8)]) w) → (thenE (W5 k5_12 Q) Q) .ret e w := fun e w h => then_R (hR e w h)
  refine seA ?_
  have hN : ∀ e w, (m5_21 R K1 (e 1) (e 2) (e 3) (e 7) (e 9) (e 10) (e 11) (e 12) (e 43) w) → (thenE (W5 k5_21 (thenE (W5 k5_12 Q) Q)) (thenE (W5 k5_12 Q) Q)) .normal e w := fun e w h => then_N (s5_21 (R := R) (Q := (thenE (W5 k5_12 Q) Q)) (K1 := K1) hN hR e w h)
  exact rgA 8 (fun e w => m5_21 R K1 (e 1) (e 2) (e 3) (e 7) (e 9) (e 10) (e 11) (e 12) (e 43) w) h hN
theorem s5_10 {R : VP} {K1 : (Value × Value) → World → Prop} {Q : EQ} (hN : ∀ e w, (K1 ((e 1), (e 10)) w) → Q .normal e w) (hR : ∀ e w, (valS Try.prog (loadC 28 (e 7)) w fun r1 =>
R (Value.tuple #[(e 6), r1, (e 8)]) w) → Q .ret e w) (e : Env) (w : World) (h : m5_10 R K1 (e 1) (e 2) (e 3) (e 7) (e 9) (e 10) (e 11) w) : W5 k5_10 Q e w := by
  unfold m5_10 at h
  refine seA ?_
  have hN : ∀ e w, (m5_11 R K1 (e 1) (e 2) (e 3) (e 7) (e 9) (e 10) (e 11) (e 12) (e 14) w) → (thenE (W5 k5_11 Q) Q) .normal e w := fun e w h => then_N (s5_11 (R := R) (Q := Q) (K1 := K1) hN hR e w h)
  exact treeJ_ok 7 14 [false, false, false, false, false, false, false, false, false, false, false, false, false, false] (.take 0 [true, false, false, false, false, false, false, false, false, false, false, false, false, false] (.take 1 [true, true, false, false, false, false, false, false, false, false, false, false, false, false] (.take 2 [true, true, true, false, false, false, false, false, false, false, false, false, false, false] (.take 3 [true, true, true, true, false, false, false, false, false, false, false, false, false, false] (.take 4 [true, true, true, true, true, false, false, false, false, false, false, false, false, false] (.alt 5 [true, true, true, true, true, true, false, false, false, false, false, false, false, false] (.take 6 [true, true, true, true, true, true, true, false, false, false, false, false, false, false] (.take 7 [true, true, true, true, true, true, true, true, false, false, false, false, false, false] (.take 8 [true, true, true, true, true, true, true, true, true, false, false, false, false, false] (.take 9 [true, true, true, true, true, true, true, true, true, true, false, false, false, false] (.alt 10 [true, true, true, true, true, true, true, true, true, true, true, false, false, false] (.alt 11 [true, true, true, true, true, true, true, true, true, true, true, true, false, false] (.take 12 [true, true, true, true, true, true, true, true, true, true, true, true, true, false] (.take 13 [true, true, true, true, true, true, true, true, true, true, true, true, true, true] .done)) .stop) .stop))))) (.alt 10 [true, true, true, true, true, false, false, false, false, false, true, false, false, false] (.alt 5 [true, true, true, true, true, true, false, false, false, false, true, false, false, false] (.take 6 [true, true, true, true, true, true, true, false, false, false, true, false, false, false] (.take 7 [true, true, true, true, true, true, true, true, false, false, true, false, false, false] (.take 8 [true, true, true, true, true, true, true, true, true, false, true, false, false, false] (.take 9 [true, true, true, true, true, true, true, true, true, true, true, false, false, false] (.alt 11 [true, true, true, true, true, true, true, true, true, true, true, true, false, false] (.take 12 [true, true, true, true, true, true, true, true, true, true, true, true, true, false] (.take 13 [true, true, true, true, true, true, true, true, true, true, true, true, true, true] .done)) .stop))))) .stop) .stop))))))) (fun e w => m5_11 R K1 (e 1) (e 2) (e 3) (e 7) (e 9) (e 10) (e 11) (e 12) (e 14) w) (by kernel_rfl) (by kernel_rfl) (by kernel_rfl) (by kernel_rfl) (by kernel_rfl) (by kernel_rfl) (kcast (by kernel_rfl) h) hN (by kernel_rfl)
theorem s5_9 {R : VP} {K1 : (Value × Value) → World → Prop} {Q : EQ} (hN : ∀ e w, (K1 ((e 1), (e 10)) w) → Q .normal e w) (hR : ∀ e w, (valS Try.prog (loadC 28 (e 7)) w fun r1 =>
R (Value.tuple #[(e 6), r1, (e 8)]) w) → Q .ret e w) (e : Env) (w : World) (h : m5_9 R K1 (e 1) (e 2) (e 3) (e 7) (e 9) (e 10) w) : W5 k5_9 Q e w := by
  unfold m5_9 at h
  refine block_ok 1 (by kernel_rfl) ?_
  have hN : ∀ e w, (K1 ((e 1), (e 10)) w) → (inBlockE 1 Q) .normal e w := fun e w h => block_N (hN e w h)
  have hR : ∀ e w, (valS Try.prog (loadC 28 (e 7)) w fun r1 =>
  R (Value.tuple #[(e 6), r1, (e 8)]) w) → (inBlockE 1 Q) .ret e w := fun e w h => block_R (hR e w h)
  refine seA ?_
  have hN : ∀ e w, (m5_10 R K1 (e 1) (e 2) (e 3) (e 7) (e 9) (e 10) (e 11) w) → (thenE (W5 k5_10 (inBlockE 1 Q)) (inBlockE 1 Q)) .normal e w := fun e w h => then_N (s5_10 (R := R) (Q := (inBlockE 1 Q)) (K1 := K1) hN hR e w h)
  exact rgA 6 (fun e w => m5_10 R K1 (e 1) (e 2) (e 3) (e 7) (e 9) (e 10) (e 11) w) h hN
theorem s5_7 {R : VP} {Q : EQ} (hR : ∀ e w, (valS Try.prog (loadC 28 (e 7)) w fun r1 =>
R (Value.tuple #[(e 6), r1, (e 8)]) w) → Q .ret e w) (e : Env) (w : World) (h : m5_7 R (e 6) (e 7) (e 8) w) : W5 k5_7 Q e w := by
  unfold m5_7 at h
  exact reA (hR _ _ h)
theorem s5_6 {R : VP} {Q : EQ} (hR : ∀ e w, (valS Try.prog (loadC 28 (e 7)) w fun r1 =>
R (Value.tuple #[(e 6), r1, (e 8)]) w) → Q .ret e w) (e : Env) (w : World) (h : m5_6 R (e 3) (e 7) (e 9) (e 10) w) : W5 k5_6 Q e w := by
  unfold m5_6 at h
  refine seA ?_
  have hN : ∀ e w, (m5_7 R (e 6) (e 7) (e 8) w) → (thenE (W5 k5_7 Q) Q) .normal e w := fun e w h => then_N (s5_7 (R := R) (Q := Q) hR e w h)
  exact treeJ_ok 17 8 [false, false, false, false, false, false, false, false] (.take 0 [true, false, false, false, false, false, false, false] (.take 1 [true, true, false, false, false, false, false, false] (.take 2 [true, true, true, false, false, false, false, false] (.take 3 [true, true, true, true, false, false, false, false] (.alt 4 [true, true, true, true, true, false, false, false] (.take 5 [true, true, true, true, true, true, false, false] (.alt 6 [true, true, true, true, true, true, true, false] (.take 7 [true, true, true, true, true, true, true, true] .done) .stop)) .stop))))) (fun e w => m5_7 R (e 6) (e 7) (e 8) w) (by kernel_rfl) (by kernel_rfl) (by kernel_rfl) (by kernel_rfl) (by kernel_rfl) (by kernel_rfl) (kcast (by kernel_rfl) h) hN (by kernel_rfl)
theorem s5_23 {R : VP} {K1 : (Value × Value) → World → Prop} {Q : EQ} (hN : ∀ e w, (m5_9 R K1 (e 1) (e 2) (e 3) (e 7) (e 9) (e 10) w) → Q .normal e w) (hX0 : ∀ e w, (m5_6 R (e 3) (e 7) (e 9) (e 10) w) → Q (.exit 0) e w) (e : Env) (w : World) (h : m5_23 R K1 (e 1) (e 2) (e 3) (e 7) (e 9) (e 10) (e 27) w) : W5 k5_23 Q e w := by
  unfold m5_23 at h
  refine coA (Operand.tmp 27) h (fun h1 => ?_) (fun h1 => ?_)
  · exact skA (hN _ _ h1)
  · exact exA 0 (hX0 _ _ h1)
theorem s5_8 {R : VP} {K1 : (Value × Value) → World → Prop} {Q : EQ} (hN : ∀ e w, (K1 ((e 1), (e 10)) w) → Q .normal e w) (hR : ∀ e w, (valS Try.prog (loadC 28 (e 7)) w fun r1 =>
R (Value.tuple #[(e 6), r1, (e 8)]) w) → Q .ret e w) (hX0 : ∀ e w, (m5_6 R (e 3) (e 7) (e 9) (e 10) w) → Q (.exit 0) e w) (e : Env) (w : World) (h : m5_8 R K1 (e 1) (e 2) (e 3) (e 7) (e 9) (e 10) w) : W5 k5_8 Q e w := by
  unfold m5_8 at h
  refine seA ?_
  have hN : ∀ e w, (m5_9 R K1 (e 1) (e 2) (e 3) (e 7) (e 9) (e 10) w) → (thenE (W5 k5_9 Q) Q) .normal e w := fun e w h => then_N (s5_9 (R := R) (Q := Q) (K1 := K1) hN hR e w h)
  have hX0 : ∀ e w, (m5_6 R (e 3) (e 7) (e 9) (e 10) w) → (thenE (W5 k5_9 Q) Q) (.exit 0) e w := fun e w h => then_X (hX0 e w h)
  refine seA ?_
  have hN : ∀ e w, (m5_23 R K1 (e 1) (e 2) (e 3) (e 7) (e 9) (e 10) (e 27) w) → (thenE (W5 k5_23 (thenE (W5 k5_9 Q) Q)) (thenE (W5 k5_9 Q) Q)) .normal e w := fun e w h => then_N (s5_23 (R := R) (Q := (thenE (W5 k5_9 Q) Q)) (K1 := K1) hN hX0 e w h)
  exact rgA 5 (fun e w => m5_23 R K1 (e 1) (e 2) (e 3) (e 7) (e 9) (e 10) (e 27) w) h hN
theorem s5_5 {R : VP} {Q : EQ} (hR : ∀ e w, (valS Try.prog (loadC 28 (e 7)) w fun r1 =>
R (Value.tuple #[(e 6), r1, (e 8)]) w) → Q .ret e w) (e : Env) (w : World) (h : m5_5 R (e 1) (e 2) (e 3) (e 7) (e 9) (e 10) w) : W5 k5_5 Q e w := by
  unfold m5_5 at h
  refine seA ?_
  have hN : ∀ e w, (m5_6 R (e 3) (e 7) (e 9) (e 10) w) → (thenE (W5 k5_6 Q) Q) .normal e w := fun e w h => then_N (s5_6 (R := R) (Q := Q) hR e w h)
  have hR : ∀ e w, (valS Try.prog (loadC 28 (e 7)) w fun r1 =>
  R (Value.tuple #[(e 6), r1, (e 8)]) w) → (thenE (W5 k5_6 Q) Q) .ret e w := fun e w h => then_R (hR e w h)
  refine block_ok 0 (by kernel_rfl) ?_
  have hX0 : ∀ e w, (m5_6 R (e 3) (e 7) (e 9) (e 10) w) → (inBlockE 0 (thenE (W5 k5_6 Q) Q)) (.exit 0) e w := fun e w h => inBlock_same (Q := (thenE (W5 k5_6 Q) Q)) 0 (hN e w h)
  have hR : ∀ e w, (valS Try.prog (loadC 28 (e 7)) w fun r1 =>
  R (Value.tuple #[(e 6), r1, (e 8)]) w) → (inBlockE 0 (thenE (W5 k5_6 Q) Q)) .ret e w := fun e w h => block_R (hR e w h)
  refine loop_ok' (fun (e : Env) => (e 1, e 10)) [2, 3, 7, 9] (by kernel_rfl) (by kernel_rfl) h (fun K e' w' hk h' => ?_)
  have r2 : e' 2 = e 2 := hk 2 (by decide)
  have r3 : e' 3 = e 3 := hk 3 (by decide)
  have r7 : e' 7 = e 7 := hk 7 (by decide)
  have r9 : e' 9 = e 9 := hk 9 (by decide)
  have hR : ∀ e w, (valS Try.prog (loadC 28 (e 7)) w fun r1 =>
  R (Value.tuple #[(e 6), r1, (e 8)]) w) → (thenE (fun (e : Env) w => K ((e 1), (e 10)) w) (inBlockE 0 (thenE (W5 k5_6 Q) Q))) .ret e w := fun e w h => then_R (hR e w h)
  have hX0 : ∀ e w, (m5_6 R (e 3) (e 7) (e 9) (e 10) w) → (thenE (fun (e : Env) w => K ((e 1), (e 10)) w) (inBlockE 0 (thenE (W5 k5_6 Q) Q))) (.exit 0) e w := fun e w h => then_X (hX0 e w h)
  exact s5_8 (R := R) (Q := (thenE (fun (e : Env) w => K ((e 1), (e 10)) w) (inBlockE 0 (thenE (W5 k5_6 Q) Q)))) (K1 := K) (fun _ _ h => then_N h) hR hX0 e' w' (by rw [r2, r3, r7, r9]; exact h')
theorem s5_4 {R : VP} {Q : EQ} (hR : ∀ e w, (valS Try.prog (loadC 28 (e 7)) w fun r1 =>
R (Value.tuple #[(e 6), r1, (e 8)]) w) → Q .ret e w) (e : Env) (w : World) (h : m5_4 R (e 1) (e 2) (e 3) (e 7) (e 9) w) : W5 k5_4 Q e w := by
  unfold m5_4 at h
  refine seA ?_
  have hN : ∀ e w, (m5_5 R (e 1) (e 2) (e 3) (e 7) (e 9) (e 10) w) → (thenE (W5 k5_5 Q) Q) .normal e w := fun e w h => then_N (s5_5 (R := R) (Q := Q) hR e w h)
  exact rgA 4 (fun e w => m5_5 R (e 1) (e 2) (e 3) (e 7) (e 9) (e 10) w) h hN
theorem s5_3 {R : VP} {Q : EQ} (hR : ∀ e w, (valS Try.prog (loadC 28 (e 7)) w fun r1 =>
R (Value.tuple #[(e 6), r1, (e 8)]) w) → Q .ret e w) (e : Env) (w : World) (h : m5_3 R (e 1) (e 2) (e 3) (e 7) w) : W5 k5_3 Q e w := by
  unfold m5_3 at h
  refine seA ?_
  have hN : ∀ e w, (m5_4 R (e 1) (e 2) (e 3) (e 7) (e 9) w) → (thenE (W5 k5_4 Q) Q) .normal e w := fun e w h => then_N (s5_4 (R := R) (Q := Q) hR e w h)
  exact rgA 3 (fun e w => m5_4 R (e 1) (e 2) (e 3) (e 7) (e 9) w) h hN
theorem s5_2 {R : VP} {Q : EQ} (hR : ∀ e w, (valS Try.prog (loadC 28 (e 7)) w fun r1 =>
R (Value.tuple #[(e 6), r1, (e 8)]) w) → Q .ret e w) (e : Env) (w : World) (h : m5_2 R (e 1) (e 2) (e 3) (e 7) w) : W5 k5_2 Q e w := by
  unfold m5_2 at h
  refine seA ?_
  have hN : ∀ e w, (m5_3 R (e 1) (e 2) (e 3) (e 7) w) → (thenE (W5 k5_3 Q) Q) .normal e w := fun e w h => then_N (s5_3 (R := R) (Q := Q) hR e w h)
  exact rgA 2 (fun e w => m5_3 R (e 1) (e 2) (e 3) (e 7) w) h hN
theorem s5_1 {R : VP} {Q : EQ} (hR : ∀ e w, (valS Try.prog (loadC 28 (e 7)) w fun r1 =>
R (Value.tuple #[(e 6), r1, (e 8)]) w) → Q .ret e w) (e : Env) (w : World) (h : m5_1 R (e 1) (e 2) (e 3) (e 7) w) : W5 k5_1 Q e w := by
  unfold m5_1 at h
  refine seA ?_
  have hN : ∀ e w, (m5_2 R (e 1) (e 2) (e 3) (e 7) w) → (thenE (W5 k5_2 Q) Q) .normal e w := fun e w h => then_N (s5_2 (R := R) (Q := Q) hR e w h)
  exact rgA 1 (fun e w => m5_2 R (e 1) (e 2) (e 3) (e 7) w) h hN
theorem s5_0 {R : VP} {Q : EQ} (hR : ∀ e w, (valS Try.prog (loadC 28 (e 7)) w fun r1 =>
R (Value.tuple #[(e 6), r1, (e 8)]) w) → Q .ret e w) (e : Env) (w : World) (h : m5_0 R (e 0) (e 1) (e 2) w) : W5 k5_0 Q e w := by
  unfold m5_0 at h
  refine seA ?_
  have hN : ∀ e w, (m5_1 R (e 1) (e 2) (e 3) (e 7) w) → (thenE (W5 k5_1 Q) Q) .normal e w := fun e w h => then_N (s5_1 (R := R) (Q := Q) hR e w h)
  exact rgA 0 (fun e w => m5_1 R (e 1) (e 2) (e 3) (e 7) w) h hN
abbrev m5 (R : VP) (g0 l1 most2 : Value) (w : World) : Prop := m5_0 R g0 l1 most2 w
theorem s5 (g0 l1 most2 : Value) {R : VP} {w : World} (h : m5 R g0 l1 most2 w) :
    Calls Try.prog 5 #[g0, l1, most2] w fun e w' => ∃ v, e = .returned v ∧ R v w' :=
  calls_of_cwp (st := (fun i => cond (Nat.beq i 9) 4 (0))) (c := k5_0) (by kernel_rfl) Try.func5 (by kernel_rfl) (Nat.le_of_ble_eq_true (by kernel_rfl)) (by kernel_rfl)
    (s5_0 (R := R) (Q := endE Try.prog Try.f5 R) (fun e w h => kcast (by kernel_rfl) h) (argsE #[g0, l1, most2]) w (kcast (by kernel_rfl) h))
/-! ### headgate/headgatelaw33.CleanerSmall -/
def m3_7 (R : VP) (t6 : Value) (w : World) : Prop :=
  R t6 w
def m3_5 (R : VP) (t6 : Value) (w : World) : Prop :=
  R t6 w
def m3_4 (R : VP) (all7 s8 a10 : Value) (w : World) : Prop :=
  builtinP Try.prog Builtin.len #[25] 3 #[false] #[a10] w fun t27 w =>
  valP Try.prog (Instr.fieldAt 28 s8 4) w fun t28 w =>
  valP Try.prog (Instr.loadAt 26 t28) w fun t29 w =>
  builtinP Try.prog Builtin.len #[26] 3 #[false] #[t29] w fun t30 w =>
  valP Try.prog (binS BinOp.add 3 (Operand.tmp 30) (Operand.const (Value.int IntKind.i64 1)) t30 (Value.int IntKind.i64 1)) w fun t31 w =>
  valP Try.prog (binS BinOp.leq 3 (Operand.tmp 27) (Operand.tmp 31) t27 t31) w fun t32 w =>
  condP t32
  (builtinP Try.prog Builtin.len #[25] 3 #[false] #[all7] w fun t36 w =>
  callP Try.prog (fnV 7) #[a10, t36] w fun t37 w =>
  callP Try.prog (fnV 8) #[t37, a10] w fun t39 w =>
  pickP t32 t39 (Value.bool false) fun t40 =>
  condP t40
  (callP Try.prog (fnV 6) #[] w fun t42 w =>
  pickP t40 t42 (Value.bool false) fun t43 =>
  m3_5 R t43 w)
  (pickP t40 undef (Value.bool false) fun t43 =>
  m3_5 R t43 w))
  (pickP t32 undef (Value.bool false) fun t40 =>
  condP t40
  (callP Try.prog (fnV 6) #[] w fun t42 w =>
  pickP t40 t42 (Value.bool false) fun t43 =>
  m3_5 R t43 w)
  (pickP t40 undef (Value.bool false) fun t43 =>
  m3_5 R t43 w))
def m3_3 (R : VP) (all7 s8 : Value) (w : World) : Prop :=
  builtinP Try.prog Builtin.len #[25] 3 #[false] #[all7] w fun t24 w =>
  callP Try.prog (fnV 7) #[all7, t24] w fun t25 w =>
  m3_4 R all7 s8 t25 w
def m3_6 (R : VP) (all7 s8 t20 : Value) (w : World) : Prop :=
  condP t20
  (callP Try.prog (fnV 6) #[] w fun t21 w =>
  m3_7 R t21 w)
  (m3_3 R all7 s8 w)
def m3_2 (R : VP) (all7 s8 ok9 : Value) (w : World) : Prop :=
  valP Try.prog (Op.unary UnOp.not ok9) w fun t20 w =>
  m3_6 R all7 s8 t20 w
def m3_1 (R : VP) (l1 most2 g3 : Value) (w : World) : Prop :=
  valP Try.prog (Instr.loadAt 23 g3) w fun t12 w =>
  callP Try.prog (fnV 5) #[t12, l1, most2] w fun t15 w =>
  valP Try.prog (Instr.extract t15 0) w fun t16 w =>
  valP Try.prog (Instr.extract t15 1) w fun t17 w =>
  valP Try.prog (Instr.extract t15 2) w fun t18 w =>
  valP Try.prog (Instr.alloc 28 true (.tuple #[])) w fun s8 w =>
  unitP Try.prog (Instr.storeAt 28 s8 t17) w fun _ w =>
  m3_2 R t16 s8 t18 w
def m3_0 (R : VP) (g0 l1 most2 : Value) (w : World) : Prop :=
  valP Try.prog (Instr.box 23 g0) w fun g3 w =>
  m3_1 R l1 most2 g3 w
abbrev W3 := cwp Try.prog (fun i => 0)
noncomputable def k3_0 : Code := (bodyOf Try.f3)
noncomputable def k3_1 : Code := (c2 k3_0)
noncomputable def k3_2 : Code := (c2 k3_1)
noncomputable def k3_3 : Code := (c2 k3_2)
noncomputable def k3_4 : Code := (c2 k3_3)
noncomputable def k3_5 : Code := (c2 k3_4)
noncomputable def k3_6 : Code := (c2 (c1 k3_2))
noncomputable def k3_7 : Code := (c2 (c1 k3_6))
theorem s3_7 {R : VP} {Q : EQ} (hR : ∀ e w, (R (e 6) w) → Q .ret e w) (e : Env) (w : World) (h : m3_7 R (e 6) w) : W3 k3_7 Q e w := by
  unfold m3_7 at h
  exact reA (hR _ _ h)
theorem s3_5 {R : VP} {Q : EQ} (hR : ∀ e w, (R (e 6) w) → Q .ret e w) (e : Env) (w : World) (h : m3_5 R (e 6) w) : W3 k3_5 Q e w := by
  unfold m3_5 at h
  exact reA (hR _ _ h)
theorem s3_4 {R : VP} {Q : EQ} (hR : ∀ e w, (R (e 6) w) → Q .ret e w) (e : Env) (w : World) (h : m3_4 R (e 7) (e 8) (e 10) w) : W3 k3_4 Q e w := by
  unfold m3_4 at h
  refine seA ?_
  have hN : ∀ e w, (m3_5 R (e 6) w) → (thenE (W3 k3_5 Q) Q) .normal e w := fun e w h => then_N (s3_5 (R := R) (Q := Q) hR e w h)
  exact rgA 5 (fun e w => m3_5 R (e 6) w) h hN
theorem s3_3 {R : VP} {Q : EQ} (hR : ∀ e w, (R (e 6) w) → Q .ret e w) (e : Env) (w : World) (h : m3_3 R (e 7) (e 8) w) : W3 k3_3 Q e w := by
  unfold m3_3 at h
  refine seA ?_
  have hN : ∀ e w, (m3_4 R (e 7) (e 8) (e 10) w) → (thenE (W3 k3_4 Q) Q) .normal e w := fun e w h => then_N (s3_4 (R := R) (Q := Q) hR e w h)
  exact rgA 4 (fun e w => m3_4 R (e 7) (e 8) (e 10) w) h hN
theorem s3_6 {R : VP} {Q : EQ} (hN : ∀ e w, (m3_3 R (e 7) (e 8) w) → Q .normal e w) (hR : ∀ e w, (R (e 6) w) → Q .ret e w) (e : Env) (w : World) (h : m3_6 R (e 7) (e 8) (e 20) w) : W3 k3_6 Q e w := by
  unfold m3_6 at h
  refine coA (Operand.tmp 20) h (fun h1 => ?_) (fun h1 => ?_)
  · refine seA ?_
    have hN : ∀ e w, (m3_7 R (e 6) w) → (thenE (W3 k3_7 Q) Q) .normal e w := fun e w h => then_N (s3_7 (R := R) (Q := Q) hR e w h)
    exact rgA 3 (fun e w => m3_7 R (e 6) w) h1 hN
  · exact skA (hN _ _ h1)
theorem s3_2 {R : VP} {Q : EQ} (hR : ∀ e w, (R (e 6) w) → Q .ret e w) (e : Env) (w : World) (h : m3_2 R (e 7) (e 8) (e 9) w) : W3 k3_2 Q e w := by
  unfold m3_2 at h
  refine seA ?_
  have hN : ∀ e w, (m3_3 R (e 7) (e 8) w) → (thenE (W3 k3_3 Q) Q) .normal e w := fun e w h => then_N (s3_3 (R := R) (Q := Q) hR e w h)
  have hR : ∀ e w, (R (e 6) w) → (thenE (W3 k3_3 Q) Q) .ret e w := fun e w h => then_R (hR e w h)
  refine seA ?_
  have hN : ∀ e w, (m3_6 R (e 7) (e 8) (e 20) w) → (thenE (W3 k3_6 (thenE (W3 k3_3 Q) Q)) (thenE (W3 k3_3 Q) Q)) .normal e w := fun e w h => then_N (s3_6 (R := R) (Q := (thenE (W3 k3_3 Q) Q)) hN hR e w h)
  exact rgA 2 (fun e w => m3_6 R (e 7) (e 8) (e 20) w) h hN
theorem s3_1 {R : VP} {Q : EQ} (hR : ∀ e w, (R (e 6) w) → Q .ret e w) (e : Env) (w : World) (h : m3_1 R (e 1) (e 2) (e 3) w) : W3 k3_1 Q e w := by
  unfold m3_1 at h
  refine seA ?_
  have hN : ∀ e w, (m3_2 R (e 7) (e 8) (e 9) w) → (thenE (W3 k3_2 Q) Q) .normal e w := fun e w h => then_N (s3_2 (R := R) (Q := Q) hR e w h)
  exact rgA 1 (fun e w => m3_2 R (e 7) (e 8) (e 9) w) h hN
theorem s3_0 {R : VP} {Q : EQ} (hR : ∀ e w, (R (e 6) w) → Q .ret e w) (e : Env) (w : World) (h : m3_0 R (e 0) (e 1) (e 2) w) : W3 k3_0 Q e w := by
  unfold m3_0 at h
  refine seA ?_
  have hN : ∀ e w, (m3_1 R (e 1) (e 2) (e 3) w) → (thenE (W3 k3_1 Q) Q) .normal e w := fun e w h => then_N (s3_1 (R := R) (Q := Q) hR e w h)
  exact rgA 0 (fun e w => m3_1 R (e 1) (e 2) (e 3) w) h hN
abbrev m3 (R : VP) (g0 l1 most2 : Value) (w : World) : Prop := m3_0 R g0 l1 most2 w
theorem s3 (g0 l1 most2 : Value) {R : VP} {w : World} (h : m3 R g0 l1 most2 w) :
    Calls Try.prog 3 #[g0, l1, most2] w fun e w' => ∃ v, e = .returned v ∧ R v w' :=
  calls_of_cwp (st := (fun i => 0)) (c := k3_0) (by kernel_rfl) Try.func3 (by kernel_rfl) (Nat.le_of_ble_eq_true (by kernel_rfl)) (by kernel_rfl)
    (s3_0 (R := R) (Q := endE Try.prog Try.f3 R) (fun e w h => kcast (by kernel_rfl) h) (argsE #[g0, l1, most2]) w (kcast (by kernel_rfl) h))
end Go.Proofs.Ytnhgdngbdoifnaa.M
