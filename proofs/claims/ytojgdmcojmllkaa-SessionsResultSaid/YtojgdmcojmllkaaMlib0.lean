/- What functions' texts ask of their ends, told over values that have names; printed by a program of this work. -/
import Derived.Test.YtojgdmcojmllkaaFw
import Derived.Test.YtojgdmcojmllkaaProg
namespace Go.Proofs.Ytojgdmcojmllkaa.M
open Go.Proofs.Ytojgdmcojmllkaa.F
set_option linter.unusedVariables false
set_option maxRecDepth 100000
/-! ### slices.Clone[[]headgate/api.Event,headgate/api.Event] -/
def m27_5 (R : VP) (t2 : Value) (w : World) : Prop :=
  R t2 w
def m27_3 (R : VP) (t2 : Value) (w : World) : Prop :=
  R t2 w
def m27_2 (R : VP) (s0 : Value) (w : World) : Prop :=
  valP Try.prog (Instr.buildSlice 31 0 #[]) w fun t5 w =>
  builtinP Try.prog Builtin.append #[31, 31] 31 #[false, false] #[t5, s0] w fun t7 w =>
  m27_3 R t7 w
def m27_4 (R : VP) (s0 t4 : Value) (w : World) : Prop :=
  condP t4
  (m27_5 R (Value.slice none 0 0) w)
  (m27_2 R s0 w)
def m27_1 (R : VP) (s0 : Value) (w : World) : Prop :=
  valP Try.prog (binS BinOp.eql 31 (Operand.tmp 3) (Operand.const (Value.slice none 0 0)) s0 (Value.slice none 0 0)) w fun t4 w =>
  m27_4 R s0 t4 w
def m27_0 (R : VP) (s0 : Value) (w : World) : Prop :=
  m27_1 R s0 w
abbrev W27 := cwp Try.prog (fun i => 0)
noncomputable def k27_0 : Code := (bodyOf Try.f27)
noncomputable def k27_1 : Code := (c2 k27_0)
noncomputable def k27_2 : Code := (c2 k27_1)
noncomputable def k27_3 : Code := (c2 k27_2)
noncomputable def k27_4 : Code := (c2 (c1 k27_1))
noncomputable def k27_5 : Code := (c2 (c1 k27_4))
theorem s27_5 {R : VP} {Q : EQ} (hR : ∀ e w, (R (e 2) w) → Q .ret e w) (e : Env) (w : World) (h : m27_5 R (e 2) w) : W27 k27_5 Q e w := by
  unfold m27_5 at h
  exact reA (hR _ _ h)
theorem s27_3 {R : VP} {Q : EQ} (hR : ∀ e w, (R (e 2) w) → Q .ret e w) (e : Env) (w : World) (h : m27_3 R (e 2) w) : W27 k27_3 Q e w := by
  unfold m27_3 at h
  exact reA (hR _ _ h)
theorem s27_2 {R : VP} {Q : EQ} (hR : ∀ e w, (R (e 2) w) → Q .ret e w) (e : Env) (w : World) (h : m27_2 R (e 0) w) : W27 k27_2 Q e w := by
  unfold m27_2 at h
  refine seA ?_
  have hN : ∀ e w, (m27_3 R (e 2) w) → (thenE (W27 k27_3 Q) Q) .normal e w := fun e w h => then_N (s27_3 (R := R) (Q := Q) hR e w h)
  exact rgA 3 (fun e w => m27_3 R (e 2) w) h hN
theorem s27_4 {R : VP} {Q : EQ} (hN : ∀ e w, (m27_2 R (e 0) w) → Q .normal e w) (hR : ∀ e w, (R (e 2) w) → Q .ret e w) (e : Env) (w : World) (h : m27_4 R (e 0) (e 4) w) : W27 k27_4 Q e w := by
  unfold m27_4 at h
  refine coA (Operand.tmp 4) h (fun h1 => ?_) (fun h1 => ?_)
  · refine seA ?_
    have hN : ∀ e w, (m27_5 R (e 2) w) → (thenE (W27 k27_5 Q) Q) .normal e w := fun e w h => then_N (s27_5 (R := R) (Q := Q) hR e w h)
    exact rgA 2 (fun e w => m27_5 R (e 2) w) h1 hN
  · exact skA (hN _ _ h1)
theorem s27_1 {R : VP} {Q : EQ} (hR : ∀ e w, (R (e 2) w) → Q .ret e w) (e : Env) (w : World) (h : m27_1 R (e 0) w) : W27 k27_1 Q e w := by
  unfold m27_1 at h
  refine seA ?_
  have hN : ∀ e w, (m27_2 R (e 0) w) → (thenE (W27 k27_2 Q) Q) .normal e w := fun e w h => then_N (s27_2 (R := R) (Q := Q) hR e w h)
  have hR : ∀ e w, (R (e 2) w) → (thenE (W27 k27_2 Q) Q) .ret e w := fun e w h => then_R (hR e w h)
  refine seA ?_
  have hN : ∀ e w, (m27_4 R (e 0) (e 4) w) → (thenE (W27 k27_4 (thenE (W27 k27_2 Q) Q)) (thenE (W27 k27_2 Q) Q)) .normal e w := fun e w h => then_N (s27_4 (R := R) (Q := (thenE (W27 k27_2 Q) Q)) hN hR e w h)
  exact rgA 1 (fun e w => m27_4 R (e 0) (e 4) w) h hN
theorem s27_0 {R : VP} {Q : EQ} (hR : ∀ e w, (R (e 2) w) → Q .ret e w) (e : Env) (w : World) (h : m27_0 R (e 0) w) : W27 k27_0 Q e w := by
  unfold m27_0 at h
  refine seA ?_
  have hN : ∀ e w, (m27_1 R (e 0) w) → (thenE (W27 k27_1 Q) Q) .normal e w := fun e w h => then_N (s27_1 (R := R) (Q := Q) hR e w h)
  exact rgA 0 (fun e w => m27_1 R (e 0) w) h hN
abbrev m27 (R : VP) (s0 : Value) (w : World) : Prop := m27_0 R s0 w
theorem s27 (s0 : Value) {R : VP} {w : World} (h : m27 R s0 w) :
    Calls Try.prog 27 #[s0] w fun e w' => ∃ v, e = .returned v ∧ R v w' :=
  calls_of_cwp (st := (fun i => 0)) (c := k27_0) (by kernel_rfl) Try.func27 (by kernel_rfl) (Nat.le_of_ble_eq_true (by kernel_rfl)) (by kernel_rfl)
    (s27_0 (R := R) (Q := endE Try.prog Try.f27 R) (fun e w h => kcast (by kernel_rfl) h) (argsE #[s0]) w (kcast (by kernel_rfl) h))
/-! ### slices.ContainsFunc[[]headgate/api.Span,headgate/api.Span] -/
def m35_2 (R : VP) (t4 : Value) (w : World) : Prop :=
  R t4 w
def m35_1 (R : VP) (s0 f1 : Value) (w : World) : Prop :=
  callP Try.prog (fnV 49) #[s0, f1] w fun t7 w =>
  valP Try.prog (binS BinOp.geq 3 (Operand.tmp 7) (Operand.const (Value.int IntKind.i64 0)) t7 (Value.int IntKind.i64 0)) w fun t8 w =>
  m35_2 R t8 w
def m35_0 (R : VP) (s0 f1 : Value) (w : World) : Prop :=
  m35_1 R s0 f1 w
abbrev W35 := cwp Try.prog (fun i => 0)
noncomputable def k35_0 : Code := (bodyOf Try.f35)
noncomputable def k35_1 : Code := (c2 k35_0)
noncomputable def k35_2 : Code := (c2 k35_1)
theorem s35_2 {R : VP} {Q : EQ} (hR : ∀ e w, (R (e 4) w) → Q .ret e w) (e : Env) (w : World) (h : m35_2 R (e 4) w) : W35 k35_2 Q e w := by
  unfold m35_2 at h
  exact reA (hR _ _ h)
theorem s35_1 {R : VP} {Q : EQ} (hR : ∀ e w, (R (e 4) w) → Q .ret e w) (e : Env) (w : World) (h : m35_1 R (e 0) (e 1) w) : W35 k35_1 Q e w := by
  unfold m35_1 at h
  refine seA ?_
  have hN : ∀ e w, (m35_2 R (e 4) w) → (thenE (W35 k35_2 Q) Q) .normal e w := fun e w h => then_N (s35_2 (R := R) (Q := Q) hR e w h)
  exact rgA 1 (fun e w => m35_2 R (e 4) w) h hN
theorem s35_0 {R : VP} {Q : EQ} (hR : ∀ e w, (R (e 4) w) → Q .ret e w) (e : Env) (w : World) (h : m35_0 R (e 0) (e 1) w) : W35 k35_0 Q e w := by
  unfold m35_0 at h
  refine seA ?_
  have hN : ∀ e w, (m35_1 R (e 0) (e 1) w) → (thenE (W35 k35_1 Q) Q) .normal e w := fun e w h => then_N (s35_1 (R := R) (Q := Q) hR e w h)
  exact rgA 0 (fun e w => m35_1 R (e 0) (e 1) w) h hN
abbrev m35 (R : VP) (s0 f1 : Value) (w : World) : Prop := m35_0 R s0 f1 w
theorem s35 (s0 f1 : Value) {R : VP} {w : World} (h : m35 R s0 f1 w) :
    Calls Try.prog 35 #[s0, f1] w fun e w' => ∃ v, e = .returned v ∧ R v w' :=
  calls_of_cwp (st := (fun i => 0)) (c := k35_0) (by kernel_rfl) Try.func35 (by kernel_rfl) (Nat.le_of_ble_eq_true (by kernel_rfl)) (by kernel_rfl)
    (s35_0 (R := R) (Q := endE Try.prog Try.f35 R) (fun e w h => kcast (by kernel_rfl) h) (argsE #[s0, f1]) w (kcast (by kernel_rfl) h))
/-! ### cmp.Or[int] -/
def m47_12 (R : VP) (K1 : VP) (t2 : Value) (w : World) : Prop :=
  R t2 w
def m47_9 (R : VP) (K1 : VP) (zero3 t6 t7 t8 : Value) (w : World) : Prop :=
  valP Try.prog (binS BinOp.add 3 (Operand.tmp 8) (Operand.const (Value.int IntKind.i64 1)) t8 (Value.int IntKind.i64 1)) w fun t16 w =>
  K1 t16 w
def m47_11 (R : VP) (K1 : VP) (zero3 val5 t6 t7 t8 t14 : Value) (w : World) : Prop :=
  condP t14
  (m47_12 R K1 val5 w)
  (m47_9 R K1 zero3 t6 t7 t8 w)
def m47_10 (R : VP) (K1 : VP) (zero3 val5 t6 t7 t8 : Value) (w : World) : Prop :=
  valP Try.prog (binS BinOp.neq 3 (Operand.tmp 12) (Operand.tmp 13) val5 zero3) w fun t14 w =>
  m47_11 R K1 zero3 val5 t6 t7 t8 t14 w
def m47_8 (R : VP) (K1 : VP) (zero3 t6 t7 t8 : Value) (w : World) : Prop :=
  valP Try.prog (Instr.indexAt 90 t6 t8) w fun t10 w =>
  valP Try.prog (Instr.loadAt 3 t10) w fun t11 w =>
  m47_10 R K1 zero3 t11 t6 t7 t8 w
def m47_4 (R : VP) (t2 : Value) (w : World) : Prop :=
  R t2 w
def m47_3 (R : VP) (zero3 : Value) (w : World) : Prop :=
  m47_4 R zero3 w
def m47_7 (R : VP) (K1 : VP) (zero3 t6 t7 t8 t9 : Value) (w : World) : Prop :=
  condP t9
  (m47_8 R K1 zero3 t6 t7 t8 w)
  (m47_3 R zero3 w)
def m47_6 (R : VP) (K1 : VP) (zero3 t6 t7 t8 : Value) (w : World) : Prop :=
  valP Try.prog (binS BinOp.lss 3 (Operand.tmp 8) (Operand.tmp 7) t8 t7) w fun t9 w =>
  m47_7 R K1 zero3 t6 t7 t8 t9 w
def m47_5 (R : VP) (zero3 t6 t7 t8 : Value) (w : World) : Prop :=
  loopP (fun (K1 : VP) (s : Value) w => m47_6 R K1 zero3 t6 t7 s w) t8 w
def m47_2 (R : VP) (vals0 zero3 : Value) (w : World) : Prop :=
  builtinP Try.prog Builtin.len #[90] 3 #[false] #[vals0] w fun t7 w =>
  m47_5 R zero3 vals0 t7 (Value.int IntKind.i64 0) w
def m47_1 (R : VP) (vals0 : Value) (w : World) : Prop :=
  m47_2 R vals0 (Value.int IntKind.i64 0) w
def m47_0 (R : VP) (vals0 : Value) (w : World) : Prop :=
  m47_1 R vals0 w
abbrev W47 := cwp Try.prog (fun i => 0)
noncomputable def k47_0 : Code := (bodyOf Try.f47)
noncomputable def k47_1 : Code := (c2 k47_0)
noncomputable def k47_2 : Code := (c2 k47_1)
noncomputable def k47_3 : Code := (c2 k47_2)
noncomputable def k47_4 : Code := (c2 k47_3)
noncomputable def k47_5 : Code := (c2 (c1 k47_2))
noncomputable def k47_6 : Code := (c1 (c1 k47_5))
noncomputable def k47_7 : Code := (c2 k47_6)
noncomputable def k47_8 : Code := (c2 k47_7)
noncomputable def k47_9 : Code := (c2 k47_8)
noncomputable def k47_10 : Code := (c2 (c1 (c1 k47_8)))
noncomputable def k47_11 : Code := (c2 k47_10)
noncomputable def k47_12 : Code := (c2 (c1 k47_11))
theorem s47_12 {R : VP} {K1 : VP} {Q : EQ} (hR : ∀ e w, (R (e 2) w) → Q .ret e w) (e : Env) (w : World) (h : m47_12 R K1 (e 2) w) : W47 k47_12 Q e w := by
  unfold m47_12 at h
  exact reA (hR _ _ h)
theorem s47_9 {R : VP} {K1 : VP} {Q : EQ} (hN : ∀ e w, (K1 (e 8) w) → Q .normal e w) (e : Env) (w : World) (h : m47_9 R K1 (e 3) (e 6) (e 7) (e 8) w) : W47 k47_9 Q e w := by
  unfold m47_9 at h
  exact rgA 7 (fun e w => K1 (e 8) w) h hN
theorem s47_11 {R : VP} {K1 : VP} {Q : EQ} (hN : ∀ e w, (m47_9 R K1 (e 3) (e 6) (e 7) (e 8) w) → Q .normal e w) (hR : ∀ e w, (R (e 2) w) → Q .ret e w) (e : Env) (w : World) (h : m47_11 R K1 (e 3) (e 5) (e 6) (e 7) (e 8) (e 14) w) : W47 k47_11 Q e w := by
  unfold m47_11 at h
  refine coA (Operand.tmp 14) h (fun h1 => ?_) (fun h1 => ?_)
  · refine seA ?_
    have hN : ∀ e w, (m47_12 R K1 (e 2) w) → (thenE (W47 k47_12 Q) Q) .normal e w := fun e w h => then_N (s47_12 (R := R) (Q := Q) (K1 := K1) hR e w h)
    exact rgA 6 (fun e w => m47_12 R K1 (e 2) w) h1 hN
  · exact skA (hN _ _ h1)
theorem s47_10 {R : VP} {K1 : VP} {Q : EQ} (hN : ∀ e w, (m47_9 R K1 (e 3) (e 6) (e 7) (e 8) w) → Q .normal e w) (hR : ∀ e w, (R (e 2) w) → Q .ret e w) (e : Env) (w : World) (h : m47_10 R K1 (e 3) (e 5) (e 6) (e 7) (e 8) w) : W47 k47_10 Q e w := by
  unfold m47_10 at h
  refine seA ?_
  have hN : ∀ e w, (m47_11 R K1 (e 3) (e 5) (e 6) (e 7) (e 8) (e 14) w) → (thenE (W47 k47_11 Q) Q) .normal e w := fun e w h => then_N (s47_11 (R := R) (Q := Q) (K1 := K1) hN hR e w h)
  exact rgA 5 (fun e w => m47_11 R K1 (e 3) (e 5) (e 6) (e 7) (e 8) (e 14) w) h hN
theorem s47_8 {R : VP} {K1 : VP} {Q : EQ} (hN : ∀ e w, (K1 (e 8) w) → Q .normal e w) (hR : ∀ e w, (R (e 2) w) → Q .ret e w) (e : Env) (w : World) (h : m47_8 R K1 (e 3) (e 6) (e 7) (e 8) w) : W47 k47_8 Q e w := by
  unfold m47_8 at h
  refine seA ?_
  have hN : ∀ e w, (m47_9 R K1 (e 3) (e 6) (e 7) (e 8) w) → (thenE (W47 k47_9 Q) Q) .normal e w := fun e w h => then_N (s47_9 (R := R) (Q := Q) (K1 := K1) hN e w h)
  have hR : ∀ e w, (R (e 2) w) → (thenE (W47 k47_9 Q) Q) .ret e w := fun e w h => then_R (hR e w h)
  refine block_ok 1 (by kernel_rfl) ?_
  have hN : ∀ e w, (m47_9 R K1 (e 3) (e 6) (e 7) (e 8) w) → (inBlockE 1 (thenE (W47 k47_9 Q) Q)) .normal e w := fun e w h => block_N (hN e w h)
  have hR : ∀ e w, (R (e 2) w) → (inBlockE 1 (thenE (W47 k47_9 Q) Q)) .ret e w := fun e w h => block_R (hR e w h)
  refine seA ?_
  have hN : ∀ e w, (m47_10 R K1 (e 3) (e 5) (e 6) (e 7) (e 8) w) → (thenE (W47 k47_10 (inBlockE 1 (thenE (W47 k47_9 Q) Q))) (inBlockE 1 (thenE (W47 k47_9 Q) Q))) .normal e w := fun e w h => then_N (s47_10 (R := R) (Q := (inBlockE 1 (thenE (W47 k47_9 Q) Q))) (K1 := K1) hN hR e w h)
  exact rgA 4 (fun e w => m47_10 R K1 (e 3) (e 5) (e 6) (e 7) (e 8) w) h hN
theorem s47_4 {R : VP} {Q : EQ} (hR : ∀ e w, (R (e 2) w) → Q .ret e w) (e : Env) (w : World) (h : m47_4 R (e 2) w) : W47 k47_4 Q e w := by
  unfold m47_4 at h
  exact reA (hR _ _ h)
theorem s47_3 {R : VP} {Q : EQ} (hR : ∀ e w, (R (e 2) w) → Q .ret e w) (e : Env) (w : World) (h : m47_3 R (e 3) w) : W47 k47_3 Q e w := by
  unfold m47_3 at h
  refine seA ?_
  have hN : ∀ e w, (m47_4 R (e 2) w) → (thenE (W47 k47_4 Q) Q) .normal e w := fun e w h => then_N (s47_4 (R := R) (Q := Q) hR e w h)
  exact rgA 8 (fun e w => m47_4 R (e 2) w) h hN
theorem s47_7 {R : VP} {K1 : VP} {Q : EQ} (hN : ∀ e w, (K1 (e 8) w) → Q .normal e w) (hR : ∀ e w, (R (e 2) w) → Q .ret e w) (hX0 : ∀ e w, (m47_3 R (e 3) w) → Q (.exit 0) e w) (e : Env) (w : World) (h : m47_7 R K1 (e 3) (e 6) (e 7) (e 8) (e 9) w) : W47 k47_7 Q e w := by
  unfold m47_7 at h
  refine seA ?_
  have hN : ∀ e w, (m47_8 R K1 (e 3) (e 6) (e 7) (e 8) w) → (thenE (W47 k47_8 Q) Q) .normal e w := fun e w h => then_N (s47_8 (R := R) (Q := Q) (K1 := K1) hN hR e w h)
  have hX0 : ∀ e w, (m47_3 R (e 3) w) → (thenE (W47 k47_8 Q) Q) (.exit 0) e w := fun e w h => then_X (hX0 e w h)
  refine coA (Operand.tmp 9) h (fun h1 => ?_) (fun h1 => ?_)
  · exact skA (hN _ _ h1)
  · exact exA 0 (hX0 _ _ h1)
theorem s47_6 {R : VP} {K1 : VP} {Q : EQ} (hN : ∀ e w, (K1 (e 8) w) → Q .normal e w) (hR : ∀ e w, (R (e 2) w) → Q .ret e w) (hX0 : ∀ e w, (m47_3 R (e 3) w) → Q (.exit 0) e w) (e : Env) (w : World) (h : m47_6 R K1 (e 3) (e 6) (e 7) (e 8) w) : W47 k47_6 Q e w := by
  unfold m47_6 at h
  refine seA ?_
  have hN : ∀ e w, (m47_7 R K1 (e 3) (e 6) (e 7) (e 8) (e 9) w) → (thenE (W47 k47_7 Q) Q) .normal e w := fun e w h => then_N (s47_7 (R := R) (Q := Q) (K1 := K1) hN hR hX0 e w h)
  exact rgA 3 (fun e w => m47_7 R K1 (e 3) (e 6) (e 7) (e 8) (e 9) w) h hN
theorem s47_5 {R : VP} {Q : EQ} (hN : ∀ e w, (m47_3 R (e 3) w) → Q .normal e w) (hR : ∀ e w, (R (e 2) w) → Q .ret e w) (e : Env) (w : World) (h : m47_5 R (e 3) (e 6) (e 7) (e 8) w) : W47 k47_5 Q e w := by
  unfold m47_5 at h
  refine block_ok 0 (by kernel_rfl) ?_
  have hX0 : ∀ e w, (m47_3 R (e 3) w) → (inBlockE 0 Q) (.exit 0) e w := fun e w h => inBlock_same (Q := Q) 0 (hN e w h)
  have hR : ∀ e w, (R (e 2) w) → (inBlockE 0 Q) .ret e w := fun e w h => block_R (hR e w h)
  refine loop_ok' (fun (e : Env) => e 8) [3, 6, 7] (by kernel_rfl) (by kernel_rfl) h (fun K e' w' hk h' => ?_)
  have r3 : e' 3 = e 3 := hk 3 (by decide)
  have r6 : e' 6 = e 6 := hk 6 (by decide)
  have r7 : e' 7 = e 7 := hk 7 (by decide)
  have hR : ∀ e w, (R (e 2) w) → (thenE (fun (e : Env) w => K (e 8) w) (inBlockE 0 Q)) .ret e w := fun e w h => then_R (hR e w h)
  have hX0 : ∀ e w, (m47_3 R (e 3) w) → (thenE (fun (e : Env) w => K (e 8) w) (inBlockE 0 Q)) (.exit 0) e w := fun e w h => then_X (hX0 e w h)
  exact s47_6 (R := R) (Q := (thenE (fun (e : Env) w => K (e 8) w) (inBlockE 0 Q))) (K1 := K) (fun _ _ h => then_N h) hR hX0 e' w' (by rw [r3, r6, r7]; exact h')
theorem s47_2 {R : VP} {Q : EQ} (hR : ∀ e w, (R (e 2) w) → Q .ret e w) (e : Env) (w : World) (h : m47_2 R (e 0) (e 3) w) : W47 k47_2 Q e w := by
  unfold m47_2 at h
  refine seA ?_
  have hN : ∀ e w, (m47_3 R (e 3) w) → (thenE (W47 k47_3 Q) Q) .normal e w := fun e w h => then_N (s47_3 (R := R) (Q := Q) hR e w h)
  have hR : ∀ e w, (R (e 2) w) → (thenE (W47 k47_3 Q) Q) .ret e w := fun e w h => then_R (hR e w h)
  refine seA ?_
  have hN : ∀ e w, (m47_5 R (e 3) (e 6) (e 7) (e 8) w) → (thenE (W47 k47_5 (thenE (W47 k47_3 Q) Q)) (thenE (W47 k47_3 Q) Q)) .normal e w := fun e w h => then_N (s47_5 (R := R) (Q := (thenE (W47 k47_3 Q) Q)) hN hR e w h)
  exact rgA 2 (fun e w => m47_5 R (e 3) (e 6) (e 7) (e 8) w) h hN
theorem s47_1 {R : VP} {Q : EQ} (hR : ∀ e w, (R (e 2) w) → Q .ret e w) (e : Env) (w : World) (h : m47_1 R (e 0) w) : W47 k47_1 Q e w := by
  unfold m47_1 at h
  refine seA ?_
  have hN : ∀ e w, (m47_2 R (e 0) (e 3) w) → (thenE (W47 k47_2 Q) Q) .normal e w := fun e w h => then_N (s47_2 (R := R) (Q := Q) hR e w h)
  exact rgA 1 (fun e w => m47_2 R (e 0) (e 3) w) h hN
theorem s47_0 {R : VP} {Q : EQ} (hR : ∀ e w, (R (e 2) w) → Q .ret e w) (e : Env) (w : World) (h : m47_0 R (e 0) w) : W47 k47_0 Q e w := by
  unfold m47_0 at h
  refine seA ?_
  have hN : ∀ e w, (m47_1 R (e 0) w) → (thenE (W47 k47_1 Q) Q) .normal e w := fun e w h => then_N (s47_1 (R := R) (Q := Q) hR e w h)
  exact rgA 0 (fun e w => m47_1 R (e 0) w) h hN
abbrev m47 (R : VP) (vals0 : Value) (w : World) : Prop := m47_0 R vals0 w
theorem s47 (vals0 : Value) {R : VP} {w : World} (h : m47 R vals0 w) :
    Calls Try.prog 47 #[vals0] w fun e w' => ∃ v, e = .returned v ∧ R v w' :=
  calls_of_cwp (st := (fun i => 0)) (c := k47_0) (by kernel_rfl) Try.func47 (by kernel_rfl) (Nat.le_of_ble_eq_true (by kernel_rfl)) (by kernel_rfl)
    (s47_0 (R := R) (Q := endE Try.prog Try.f47 R) (fun e w h => kcast (by kernel_rfl) h) (argsE #[vals0]) w (kcast (by kernel_rfl) h))
/-! ### cmp.Compare[int] -/
def m48_19 (R : VP) (t4 : Value) (w : World) : Prop :=
  R t4 w
def m48_17 (R : VP) (t4 : Value) (w : World) : Prop :=
  R t4 w
def m48_16 (R : VP) (w : World) : Prop :=
  m48_17 R (Value.int IntKind.i64 (-1)) w
def m48_18 (R : VP) (t12 : Value) (w : World) : Prop :=
  condP t12
  (m48_19 R (Value.int IntKind.i64 0) w)
  (m48_16 R w)
def m48_14 (R : VP) (t4 : Value) (w : World) : Prop :=
  R t4 w
def m48_12 (R : VP) (t4 : Value) (w : World) : Prop :=
  R t4 w
def m48_10 (R : VP) (t4 : Value) (w : World) : Prop :=
  R t4 w
def m48_8 (R : VP) (t4 : Value) (w : World) : Prop :=
  R t4 w
def m48_7 (R : VP) (w : World) : Prop :=
  m48_8 R (Value.int IntKind.i64 0) w
def m48_9 (R : VP) (t19 : Value) (w : World) : Prop :=
  condP t19
  (m48_10 R (Value.int IntKind.i64 1) w)
  (m48_7 R w)
def m48_6 (R : VP) (x0 y1 : Value) (w : World) : Prop :=
  valP Try.prog (binS BinOp.gtr 3 (Operand.tmp 17) (Operand.tmp 18) x0 y1) w fun t19 w =>
  m48_9 R t19 w
def m48_11 (R : VP) (x0 y1 t16 : Value) (w : World) : Prop :=
  condP t16
  (m48_12 R (Value.int IntKind.i64 (-1)) w)
  (m48_6 R x0 y1 w)
def m48_5 (R : VP) (x0 y1 : Value) (w : World) : Prop :=
  valP Try.prog (binS BinOp.lss 3 (Operand.tmp 14) (Operand.tmp 15) x0 y1) w fun t16 w =>
  m48_11 R x0 y1 t16 w
def m48_13 (R : VP) (x0 y1 t13 : Value) (w : World) : Prop :=
  condP t13
  (m48_14 R (Value.int IntKind.i64 1) w)
  (m48_5 R x0 y1 w)
def m48_4 (R : VP) (x0 y1 yNaN6 : Value) (w : World) : Prop :=
  m48_13 R x0 y1 yNaN6 w
def m48_15 (R : VP) (x0 y1 yNaN6 t11 : Value) (w : World) : Prop :=
  condP t11
  (m48_18 R yNaN6 w)
  (m48_4 R x0 y1 yNaN6 w)
def m48_3 (R : VP) (x0 y1 xNaN5 yNaN6 : Value) (w : World) : Prop :=
  m48_15 R x0 y1 yNaN6 xNaN5 w
def m48_2 (R : VP) (x0 y1 xNaN5 : Value) (w : World) : Prop :=
  callP Try.prog (fnV 58) #[y1] w fun t10 w =>
  m48_3 R x0 y1 xNaN5 t10 w
def m48_1 (R : VP) (x0 y1 : Value) (w : World) : Prop :=
  callP Try.prog (fnV 58) #[x0] w fun t8 w =>
  m48_2 R x0 y1 t8 w
def m48_0 (R : VP) (x0 y1 : Value) (w : World) : Prop :=
  m48_1 R x0 y1 w
abbrev W48 := cwp Try.prog (fun i => 0)
noncomputable def k48_0 : Code := (bodyOf Try.f48)
noncomputable def k48_1 : Code := (c2 k48_0)
noncomputable def k48_2 : Code := (c2 k48_1)
noncomputable def k48_3 : Code := (c2 k48_2)
noncomputable def k48_4 : Code := (c2 k48_3)
noncomputable def k48_5 : Code := (c2 k48_4)
noncomputable def k48_6 : Code := (c2 k48_5)
noncomputable def k48_7 : Code := (c2 k48_6)
noncomputable def k48_8 : Code := (c2 k48_7)
noncomputable def k48_9 : Code := (c2 (c1 k48_6))
noncomputable def k48_10 : Code := (c2 (c1 k48_9))
noncomputable def k48_11 : Code := (c2 (c1 k48_5))
noncomputable def k48_12 : Code := (c2 (c1 k48_11))
noncomputable def k48_13 : Code := (c2 (c1 k48_4))
noncomputable def k48_14 : Code := (c2 (c1 k48_13))
noncomputable def k48_15 : Code := (c2 (c1 k48_3))
noncomputable def k48_16 : Code := (c2 (c1 k48_15))
noncomputable def k48_17 : Code := (c2 k48_16)
noncomputable def k48_18 : Code := (c2 (c1 (c1 k48_15)))
noncomputable def k48_19 : Code := (c2 (c1 k48_18))
theorem s48_19 {R : VP} {Q : EQ} (hR : ∀ e w, (R (e 4) w) → Q .ret e w) (e : Env) (w : World) (h : m48_19 R (e 4) w) : W48 k48_19 Q e w := by
  unfold m48_19 at h
  exact reA (hR _ _ h)
theorem s48_17 {R : VP} {Q : EQ} (hR : ∀ e w, (R (e 4) w) → Q .ret e w) (e : Env) (w : World) (h : m48_17 R (e 4) w) : W48 k48_17 Q e w := by
  unfold m48_17 at h
  exact reA (hR _ _ h)
theorem s48_16 {R : VP} {Q : EQ} (hR : ∀ e w, (R (e 4) w) → Q .ret e w) (e : Env) (w : World) (h : m48_16 R w) : W48 k48_16 Q e w := by
  unfold m48_16 at h
  refine seA ?_
  have hN : ∀ e w, (m48_17 R (e 4) w) → (thenE (W48 k48_17 Q) Q) .normal e w := fun e w h => then_N (s48_17 (R := R) (Q := Q) hR e w h)
  exact rgA 6 (fun e w => m48_17 R (e 4) w) h hN
theorem s48_18 {R : VP} {Q : EQ} (hN : ∀ e w, (m48_16 R w) → Q .normal e w) (hR : ∀ e w, (R (e 4) w) → Q .ret e w) (e : Env) (w : World) (h : m48_18 R (e 12) w) : W48 k48_18 Q e w := by
  unfold m48_18 at h
  refine coA (Operand.tmp 12) h (fun h1 => ?_) (fun h1 => ?_)
  · refine seA ?_
    have hN : ∀ e w, (m48_19 R (e 4) w) → (thenE (W48 k48_19 Q) Q) .normal e w := fun e w h => then_N (s48_19 (R := R) (Q := Q) hR e w h)
    exact rgA 5 (fun e w => m48_19 R (e 4) w) h1 hN
  · exact skA (hN _ _ h1)
theorem s48_14 {R : VP} {Q : EQ} (hR : ∀ e w, (R (e 4) w) → Q .ret e w) (e : Env) (w : World) (h : m48_14 R (e 4) w) : W48 k48_14 Q e w := by
  unfold m48_14 at h
  exact reA (hR _ _ h)
theorem s48_12 {R : VP} {Q : EQ} (hR : ∀ e w, (R (e 4) w) → Q .ret e w) (e : Env) (w : World) (h : m48_12 R (e 4) w) : W48 k48_12 Q e w := by
  unfold m48_12 at h
  exact reA (hR _ _ h)
theorem s48_10 {R : VP} {Q : EQ} (hR : ∀ e w, (R (e 4) w) → Q .ret e w) (e : Env) (w : World) (h : m48_10 R (e 4) w) : W48 k48_10 Q e w := by
  unfold m48_10 at h
  exact reA (hR _ _ h)
theorem s48_8 {R : VP} {Q : EQ} (hR : ∀ e w, (R (e 4) w) → Q .ret e w) (e : Env) (w : World) (h : m48_8 R (e 4) w) : W48 k48_8 Q e w := by
  unfold m48_8 at h
  exact reA (hR _ _ h)
theorem s48_7 {R : VP} {Q : EQ} (hR : ∀ e w, (R (e 4) w) → Q .ret e w) (e : Env) (w : World) (h : m48_7 R w) : W48 k48_7 Q e w := by
  unfold m48_7 at h
  refine seA ?_
  have hN : ∀ e w, (m48_8 R (e 4) w) → (thenE (W48 k48_8 Q) Q) .normal e w := fun e w h => then_N (s48_8 (R := R) (Q := Q) hR e w h)
  exact rgA 13 (fun e w => m48_8 R (e 4) w) h hN
theorem s48_9 {R : VP} {Q : EQ} (hN : ∀ e w, (m48_7 R w) → Q .normal e w) (hR : ∀ e w, (R (e 4) w) → Q .ret e w) (e : Env) (w : World) (h : m48_9 R (e 19) w) : W48 k48_9 Q e w := by
  unfold m48_9 at h
  refine coA (Operand.tmp 19) h (fun h1 => ?_) (fun h1 => ?_)
  · refine seA ?_
    have hN : ∀ e w, (m48_10 R (e 4) w) → (thenE (W48 k48_10 Q) Q) .normal e w := fun e w h => then_N (s48_10 (R := R) (Q := Q) hR e w h)
    exact rgA 12 (fun e w => m48_10 R (e 4) w) h1 hN
  · exact skA (hN _ _ h1)
theorem s48_6 {R : VP} {Q : EQ} (hR : ∀ e w, (R (e 4) w) → Q .ret e w) (e : Env) (w : World) (h : m48_6 R (e 0) (e 1) w) : W48 k48_6 Q e w := by
  unfold m48_6 at h
  refine seA ?_
  have hN : ∀ e w, (m48_7 R w) → (thenE (W48 k48_7 Q) Q) .normal e w := fun e w h => then_N (s48_7 (R := R) (Q := Q) hR e w h)
  have hR : ∀ e w, (R (e 4) w) → (thenE (W48 k48_7 Q) Q) .ret e w := fun e w h => then_R (hR e w h)
  refine seA ?_
  have hN : ∀ e w, (m48_9 R (e 19) w) → (thenE (W48 k48_9 (thenE (W48 k48_7 Q) Q)) (thenE (W48 k48_7 Q) Q)) .normal e w := fun e w h => then_N (s48_9 (R := R) (Q := (thenE (W48 k48_7 Q) Q)) hN hR e w h)
  exact rgA 11 (fun e w => m48_9 R (e 19) w) h hN
theorem s48_11 {R : VP} {Q : EQ} (hN : ∀ e w, (m48_6 R (e 0) (e 1) w) → Q .normal e w) (hR : ∀ e w, (R (e 4) w) → Q .ret e w) (e : Env) (w : World) (h : m48_11 R (e 0) (e 1) (e 16) w) : W48 k48_11 Q e w := by
  unfold m48_11 at h
  refine coA (Operand.tmp 16) h (fun h1 => ?_) (fun h1 => ?_)
  · refine seA ?_
    have hN : ∀ e w, (m48_12 R (e 4) w) → (thenE (W48 k48_12 Q) Q) .normal e w := fun e w h => then_N (s48_12 (R := R) (Q := Q) hR e w h)
    exact rgA 10 (fun e w => m48_12 R (e 4) w) h1 hN
  · exact skA (hN _ _ h1)
theorem s48_5 {R : VP} {Q : EQ} (hR : ∀ e w, (R (e 4) w) → Q .ret e w) (e : Env) (w : World) (h : m48_5 R (e 0) (e 1) w) : W48 k48_5 Q e w := by
  unfold m48_5 at h
  refine seA ?_
  have hN : ∀ e w, (m48_6 R (e 0) (e 1) w) → (thenE (W48 k48_6 Q) Q) .normal e w := fun e w h => then_N (s48_6 (R := R) (Q := Q) hR e w h)
  have hR : ∀ e w, (R (e 4) w) → (thenE (W48 k48_6 Q) Q) .ret e w := fun e w h => then_R (hR e w h)
  refine seA ?_
  have hN : ∀ e w, (m48_11 R (e 0) (e 1) (e 16) w) → (thenE (W48 k48_11 (thenE (W48 k48_6 Q) Q)) (thenE (W48 k48_6 Q) Q)) .normal e w := fun e w h => then_N (s48_11 (R := R) (Q := (thenE (W48 k48_6 Q) Q)) hN hR e w h)
  exact rgA 9 (fun e w => m48_11 R (e 0) (e 1) (e 16) w) h hN
theorem s48_13 {R : VP} {Q : EQ} (hN : ∀ e w, (m48_5 R (e 0) (e 1) w) → Q .normal e w) (hR : ∀ e w, (R (e 4) w) → Q .ret e w) (e : Env) (w : World) (h : m48_13 R (e 0) (e 1) (e 13) w) : W48 k48_13 Q e w := by
  unfold m48_13 at h
  refine coA (Operand.tmp 13) h (fun h1 => ?_) (fun h1 => ?_)
  · refine seA ?_
    have hN : ∀ e w, (m48_14 R (e 4) w) → (thenE (W48 k48_14 Q) Q) .normal e w := fun e w h => then_N (s48_14 (R := R) (Q := Q) hR e w h)
    exact rgA 8 (fun e w => m48_14 R (e 4) w) h1 hN
  · exact skA (hN _ _ h1)
theorem s48_4 {R : VP} {Q : EQ} (hR : ∀ e w, (R (e 4) w) → Q .ret e w) (e : Env) (w : World) (h : m48_4 R (e 0) (e 1) (e 6) w) : W48 k48_4 Q e w := by
  unfold m48_4 at h
  refine seA ?_
  have hN : ∀ e w, (m48_5 R (e 0) (e 1) w) → (thenE (W48 k48_5 Q) Q) .normal e w := fun e w h => then_N (s48_5 (R := R) (Q := Q) hR e w h)
  have hR : ∀ e w, (R (e 4) w) → (thenE (W48 k48_5 Q) Q) .ret e w := fun e w h => then_R (hR e w h)
  refine seA ?_
  have hN : ∀ e w, (m48_13 R (e 0) (e 1) (e 13) w) → (thenE (W48 k48_13 (thenE (W48 k48_5 Q) Q)) (thenE (W48 k48_5 Q) Q)) .normal e w := fun e w h => then_N (s48_13 (R := R) (Q := (thenE (W48 k48_5 Q) Q)) hN hR e w h)
  exact rgA 7 (fun e w => m48_13 R (e 0) (e 1) (e 13) w) h hN
theorem s48_15 {R : VP} {Q : EQ} (hN : ∀ e w, (m48_4 R (e 0) (e 1) (e 6) w) → Q .normal e w) (hR : ∀ e w, (R (e 4) w) → Q .ret e w) (e : Env) (w : World) (h : m48_15 R (e 0) (e 1) (e 6) (e 11) w) : W48 k48_15 Q e w := by
  unfold m48_15 at h
  refine coA (Operand.tmp 11) h (fun h1 => ?_) (fun h1 => ?_)
  · refine seA ?_
    have hN : ∀ e w, (m48_16 R w) → (thenE (W48 k48_16 Q) Q) .normal e w := fun e w h => then_N (s48_16 (R := R) (Q := Q) hR e w h)
    have hR : ∀ e w, (R (e 4) w) → (thenE (W48 k48_16 Q) Q) .ret e w := fun e w h => then_R (hR e w h)
    refine seA ?_
    have hN : ∀ e w, (m48_18 R (e 12) w) → (thenE (W48 k48_18 (thenE (W48 k48_16 Q) Q)) (thenE (W48 k48_16 Q) Q)) .normal e w := fun e w h => then_N (s48_18 (R := R) (Q := (thenE (W48 k48_16 Q) Q)) hN hR e w h)
    exact rgA 4 (fun e w => m48_18 R (e 12) w) h1 hN
  · exact skA (hN _ _ h1)
theorem s48_3 {R : VP} {Q : EQ} (hR : ∀ e w, (R (e 4) w) → Q .ret e w) (e : Env) (w : World) (h : m48_3 R (e 0) (e 1) (e 5) (e 6) w) : W48 k48_3 Q e w := by
  unfold m48_3 at h
  refine seA ?_
  have hN : ∀ e w, (m48_4 R (e 0) (e 1) (e 6) w) → (thenE (W48 k48_4 Q) Q) .normal e w := fun e w h => then_N (s48_4 (R := R) (Q := Q) hR e w h)
  have hR : ∀ e w, (R (e 4) w) → (thenE (W48 k48_4 Q) Q) .ret e w := fun e w h => then_R (hR e w h)
  refine seA ?_
  have hN : ∀ e w, (m48_15 R (e 0) (e 1) (e 6) (e 11) w) → (thenE (W48 k48_15 (thenE (W48 k48_4 Q) Q)) (thenE (W48 k48_4 Q) Q)) .normal e w := fun e w h => then_N (s48_15 (R := R) (Q := (thenE (W48 k48_4 Q) Q)) hN hR e w h)
  exact rgA 3 (fun e w => m48_15 R (e 0) (e 1) (e 6) (e 11) w) h hN
theorem s48_2 {R : VP} {Q : EQ} (hR : ∀ e w, (R (e 4) w) → Q .ret e w) (e : Env) (w : World) (h : m48_2 R (e 0) (e 1) (e 5) w) : W48 k48_2 Q e w := by
  unfold m48_2 at h
  refine seA ?_
  have hN : ∀ e w, (m48_3 R (e 0) (e 1) (e 5) (e 6) w) → (thenE (W48 k48_3 Q) Q) .normal e w := fun e w h => then_N (s48_3 (R := R) (Q := Q) hR e w h)
  exact rgA 2 (fun e w => m48_3 R (e 0) (e 1) (e 5) (e 6) w) h hN
theorem s48_1 {R : VP} {Q : EQ} (hR : ∀ e w, (R (e 4) w) → Q .ret e w) (e : Env) (w : World) (h : m48_1 R (e 0) (e 1) w) : W48 k48_1 Q e w := by
  unfold m48_1 at h
  refine seA ?_
  have hN : ∀ e w, (m48_2 R (e 0) (e 1) (e 5) w) → (thenE (W48 k48_2 Q) Q) .normal e w := fun e w h => then_N (s48_2 (R := R) (Q := Q) hR e w h)
  exact rgA 1 (fun e w => m48_2 R (e 0) (e 1) (e 5) w) h hN
theorem s48_0 {R : VP} {Q : EQ} (hR : ∀ e w, (R (e 4) w) → Q .ret e w) (e : Env) (w : World) (h : m48_0 R (e 0) (e 1) w) : W48 k48_0 Q e w := by
  unfold m48_0 at h
  refine seA ?_
  have hN : ∀ e w, (m48_1 R (e 0) (e 1) w) → (thenE (W48 k48_1 Q) Q) .normal e w := fun e w h => then_N (s48_1 (R := R) (Q := Q) hR e w h)
  exact rgA 0 (fun e w => m48_1 R (e 0) (e 1) w) h hN
abbrev m48 (R : VP) (x0 y1 : Value) (w : World) : Prop := m48_0 R x0 y1 w
theorem s48 (x0 y1 : Value) {R : VP} {w : World} (h : m48 R x0 y1 w) :
    Calls Try.prog 48 #[x0, y1] w fun e w' => ∃ v, e = .returned v ∧ R v w' :=
  calls_of_cwp (st := (fun i => 0)) (c := k48_0) (by kernel_rfl) Try.func48 (by kernel_rfl) (Nat.le_of_ble_eq_true (by kernel_rfl)) (by kernel_rfl)
    (s48_0 (R := R) (Q := endE Try.prog Try.f48 R) (fun e w h => kcast (by kernel_rfl) h) (argsE #[x0, y1]) w (kcast (by kernel_rfl) h))
/-! ### slices.IndexFunc[[]headgate/api.Span,headgate/api.Span] -/
def m49_11 (R : VP) (K1 : VP) (t4 : Value) (w : World) : Prop :=
  R t4 w
def m49_8 (R : VP) (K1 : VP) (s0 f1 t7 t8 : Value) (w : World) : Prop :=
  valP Try.prog (binS BinOp.add 3 (Operand.tmp 8) (Operand.const (Value.int IntKind.i64 1)) t8 (Value.int IntKind.i64 1)) w fun t18 w =>
  K1 t18 w
def m49_10 (R : VP) (K1 : VP) (s0 f1 i5 t7 t8 t16 : Value) (w : World) : Prop :=
  condP t16
  (m49_11 R K1 i5 w)
  (m49_8 R K1 s0 f1 t7 t8 w)
def m49_9 (R : VP) (K1 : VP) (s0 f1 i5 t7 t8 : Value) (w : World) : Prop :=
  valP Try.prog (Instr.indexAt 24 s0 i5) w fun t14 w =>
  valP Try.prog (Instr.loadAt 33 t14) w fun t15 w =>
  callP Try.prog f1 #[t15] w fun t16 w =>
  m49_10 R K1 s0 f1 i5 t7 t8 t16 w
def m49_7 (R : VP) (K1 : VP) (s0 f1 t7 t8 : Value) (w : World) : Prop :=
  m49_9 R K1 s0 f1 t8 t7 t8 w
def m49_3 (R : VP) (t4 : Value) (w : World) : Prop :=
  R t4 w
def m49_2 (R : VP) (w : World) : Prop :=
  m49_3 R (Value.int IntKind.i64 (-1)) w
def m49_6 (R : VP) (K1 : VP) (s0 f1 t7 t8 t9 : Value) (w : World) : Prop :=
  condP t9
  (m49_7 R K1 s0 f1 t7 t8 w)
  (m49_2 R w)
def m49_5 (R : VP) (K1 : VP) (s0 f1 t7 t8 : Value) (w : World) : Prop :=
  valP Try.prog (binS BinOp.lss 3 (Operand.tmp 8) (Operand.tmp 7) t8 t7) w fun t9 w =>
  m49_6 R K1 s0 f1 t7 t8 t9 w
def m49_4 (R : VP) (s0 f1 t7 t8 : Value) (w : World) : Prop :=
  loopP (fun (K1 : VP) (s : Value) w => m49_5 R K1 s0 f1 t7 s w) t8 w
def m49_1 (R : VP) (s0 f1 : Value) (w : World) : Prop :=
  builtinP Try.prog Builtin.len #[24] 3 #[false] #[s0] w fun t7 w =>
  m49_4 R s0 f1 t7 (Value.int IntKind.i64 0) w
def m49_0 (R : VP) (s0 f1 : Value) (w : World) : Prop :=
  m49_1 R s0 f1 w
abbrev W49 := cwp Try.prog (fun i => 0)
noncomputable def k49_0 : Code := (bodyOf Try.f49)
noncomputable def k49_1 : Code := (c2 k49_0)
noncomputable def k49_2 : Code := (c2 k49_1)
noncomputable def k49_3 : Code := (c2 k49_2)
noncomputable def k49_4 : Code := (c2 (c1 k49_1))
noncomputable def k49_5 : Code := (c1 (c1 k49_4))
noncomputable def k49_6 : Code := (c2 k49_5)
noncomputable def k49_7 : Code := (c2 k49_6)
noncomputable def k49_8 : Code := (c2 k49_7)
noncomputable def k49_9 : Code := (c2 (c1 (c1 k49_7)))
noncomputable def k49_10 : Code := (c2 k49_9)
noncomputable def k49_11 : Code := (c2 (c1 k49_10))
theorem s49_11 {R : VP} {K1 : VP} {Q : EQ} (hR : ∀ e w, (R (e 4) w) → Q .ret e w) (e : Env) (w : World) (h : m49_11 R K1 (e 4) w) : W49 k49_11 Q e w := by
  unfold m49_11 at h
  exact reA (hR _ _ h)
theorem s49_8 {R : VP} {K1 : VP} {Q : EQ} (hN : ∀ e w, (K1 (e 8) w) → Q .normal e w) (e : Env) (w : World) (h : m49_8 R K1 (e 0) (e 1) (e 7) (e 8) w) : W49 k49_8 Q e w := by
  unfold m49_8 at h
  exact rgA 6 (fun e w => K1 (e 8) w) h hN
theorem s49_10 {R : VP} {K1 : VP} {Q : EQ} (hN : ∀ e w, (m49_8 R K1 (e 0) (e 1) (e 7) (e 8) w) → Q .normal e w) (hR : ∀ e w, (R (e 4) w) → Q .ret e w) (e : Env) (w : World) (h : m49_10 R K1 (e 0) (e 1) (e 5) (e 7) (e 8) (e 16) w) : W49 k49_10 Q e w := by
  unfold m49_10 at h
  refine coA (Operand.tmp 16) h (fun h1 => ?_) (fun h1 => ?_)
  · refine seA ?_
    have hN : ∀ e w, (m49_11 R K1 (e 4) w) → (thenE (W49 k49_11 Q) Q) .normal e w := fun e w h => then_N (s49_11 (R := R) (Q := Q) (K1 := K1) hR e w h)
    exact rgA 5 (fun e w => m49_11 R K1 (e 4) w) h1 hN
  · exact skA (hN _ _ h1)
theorem s49_9 {R : VP} {K1 : VP} {Q : EQ} (hN : ∀ e w, (m49_8 R K1 (e 0) (e 1) (e 7) (e 8) w) → Q .normal e w) (hR : ∀ e w, (R (e 4) w) → Q .ret e w) (e : Env) (w : World) (h : m49_9 R K1 (e 0) (e 1) (e 5) (e 7) (e 8) w) : W49 k49_9 Q e w := by
  unfold m49_9 at h
  refine seA ?_
  have hN : ∀ e w, (m49_10 R K1 (e 0) (e 1) (e 5) (e 7) (e 8) (e 16) w) → (thenE (W49 k49_10 Q) Q) .normal e w := fun e w h => then_N (s49_10 (R := R) (Q := Q) (K1 := K1) hN hR e w h)
  exact rgA 4 (fun e w => m49_10 R K1 (e 0) (e 1) (e 5) (e 7) (e 8) (e 16) w) h hN
theorem s49_7 {R : VP} {K1 : VP} {Q : EQ} (hN : ∀ e w, (K1 (e 8) w) → Q .normal e w) (hR : ∀ e w, (R (e 4) w) → Q .ret e w) (e : Env) (w : World) (h : m49_7 R K1 (e 0) (e 1) (e 7) (e 8) w) : W49 k49_7 Q e w := by
  unfold m49_7 at h
  refine seA ?_
  have hN : ∀ e w, (m49_8 R K1 (e 0) (e 1) (e 7) (e 8) w) → (thenE (W49 k49_8 Q) Q) .normal e w := fun e w h => then_N (s49_8 (R := R) (Q := Q) (K1 := K1) hN e w h)
  have hR : ∀ e w, (R (e 4) w) → (thenE (W49 k49_8 Q) Q) .ret e w := fun e w h => then_R (hR e w h)
  refine block_ok 1 (by kernel_rfl) ?_
  have hN : ∀ e w, (m49_8 R K1 (e 0) (e 1) (e 7) (e 8) w) → (inBlockE 1 (thenE (W49 k49_8 Q) Q)) .normal e w := fun e w h => block_N (hN e w h)
  have hR : ∀ e w, (R (e 4) w) → (inBlockE 1 (thenE (W49 k49_8 Q) Q)) .ret e w := fun e w h => block_R (hR e w h)
  refine seA ?_
  have hN : ∀ e w, (m49_9 R K1 (e 0) (e 1) (e 5) (e 7) (e 8) w) → (thenE (W49 k49_9 (inBlockE 1 (thenE (W49 k49_8 Q) Q))) (inBlockE 1 (thenE (W49 k49_8 Q) Q))) .normal e w := fun e w h => then_N (s49_9 (R := R) (Q := (inBlockE 1 (thenE (W49 k49_8 Q) Q))) (K1 := K1) hN hR e w h)
  exact rgA 3 (fun e w => m49_9 R K1 (e 0) (e 1) (e 5) (e 7) (e 8) w) h hN
theorem s49_3 {R : VP} {Q : EQ} (hR : ∀ e w, (R (e 4) w) → Q .ret e w) (e : Env) (w : World) (h : m49_3 R (e 4) w) : W49 k49_3 Q e w := by
  unfold m49_3 at h
  exact reA (hR _ _ h)
theorem s49_2 {R : VP} {Q : EQ} (hR : ∀ e w, (R (e 4) w) → Q .ret e w) (e : Env) (w : World) (h : m49_2 R w) : W49 k49_2 Q e w := by
  unfold m49_2 at h
  refine seA ?_
  have hN : ∀ e w, (m49_3 R (e 4) w) → (thenE (W49 k49_3 Q) Q) .normal e w := fun e w h => then_N (s49_3 (R := R) (Q := Q) hR e w h)
  exact rgA 7 (fun e w => m49_3 R (e 4) w) h hN
theorem s49_6 {R : VP} {K1 : VP} {Q : EQ} (hN : ∀ e w, (K1 (e 8) w) → Q .normal e w) (hR : ∀ e w, (R (e 4) w) → Q .ret e w) (hX0 : ∀ e w, (m49_2 R w) → Q (.exit 0) e w) (e : Env) (w : World) (h : m49_6 R K1 (e 0) (e 1) (e 7) (e 8) (e 9) w) : W49 k49_6 Q e w := by
  unfold m49_6 at h
  refine seA ?_
  have hN : ∀ e w, (m49_7 R K1 (e 0) (e 1) (e 7) (e 8) w) → (thenE (W49 k49_7 Q) Q) .normal e w := fun e w h => then_N (s49_7 (R := R) (Q := Q) (K1 := K1) hN hR e w h)
  have hX0 : ∀ e w, (m49_2 R w) → (thenE (W49 k49_7 Q) Q) (.exit 0) e w := fun e w h => then_X (hX0 e w h)
  refine coA (Operand.tmp 9) h (fun h1 => ?_) (fun h1 => ?_)
  · exact skA (hN _ _ h1)
  · exact exA 0 (hX0 _ _ h1)
theorem s49_5 {R : VP} {K1 : VP} {Q : EQ} (hN : ∀ e w, (K1 (e 8) w) → Q .normal e w) (hR : ∀ e w, (R (e 4) w) → Q .ret e w) (hX0 : ∀ e w, (m49_2 R w) → Q (.exit 0) e w) (e : Env) (w : World) (h : m49_5 R K1 (e 0) (e 1) (e 7) (e 8) w) : W49 k49_5 Q e w := by
  unfold m49_5 at h
  refine seA ?_
  have hN : ∀ e w, (m49_6 R K1 (e 0) (e 1) (e 7) (e 8) (e 9) w) → (thenE (W49 k49_6 Q) Q) .normal e w := fun e w h => then_N (s49_6 (R := R) (Q := Q) (K1 := K1) hN hR hX0 e w h)
  exact rgA 2 (fun e w => m49_6 R K1 (e 0) (e 1) (e 7) (e 8) (e 9) w) h hN
theorem s49_4 {R : VP} {Q : EQ} (hN : ∀ e w, (m49_2 R w) → Q .normal e w) (hR : ∀ e w, (R (e 4) w) → Q .ret e w) (e : Env) (w : World) (h : m49_4 R (e 0) (e 1) (e 7) (e 8) w) : W49 k49_4 Q e w := by
  unfold m49_4 at h
  refine block_ok 0 (by kernel_rfl) ?_
  have hX0 : ∀ e w, (m49_2 R w) → (inBlockE 0 Q) (.exit 0) e w := fun e w h => inBlock_same (Q := Q) 0 (hN e w h)
  have hR : ∀ e w, (R (e 4) w) → (inBlockE 0 Q) .ret e w := fun e w h => block_R (hR e w h)
  refine loop_ok' (fun (e : Env) => e 8) [0, 1, 7] (by kernel_rfl) (by kernel_rfl) h (fun K e' w' hk h' => ?_)
  have r0 : e' 0 = e 0 := hk 0 (by decide)
  have r1 : e' 1 = e 1 := hk 1 (by decide)
  have r7 : e' 7 = e 7 := hk 7 (by decide)
  have hR : ∀ e w, (R (e 4) w) → (thenE (fun (e : Env) w => K (e 8) w) (inBlockE 0 Q)) .ret e w := fun e w h => then_R (hR e w h)
  have hX0 : ∀ e w, (m49_2 R w) → (thenE (fun (e : Env) w => K (e 8) w) (inBlockE 0 Q)) (.exit 0) e w := fun e w h => then_X (hX0 e w h)
  exact s49_5 (R := R) (Q := (thenE (fun (e : Env) w => K (e 8) w) (inBlockE 0 Q))) (K1 := K) (fun _ _ h => then_N h) hR hX0 e' w' (by rw [r0, r1, r7]; exact h')
theorem s49_1 {R : VP} {Q : EQ} (hR : ∀ e w, (R (e 4) w) → Q .ret e w) (e : Env) (w : World) (h : m49_1 R (e 0) (e 1) w) : W49 k49_1 Q e w := by
  unfold m49_1 at h
  refine seA ?_
  have hN : ∀ e w, (m49_2 R w) → (thenE (W49 k49_2 Q) Q) .normal e w := fun e w h => then_N (s49_2 (R := R) (Q := Q) hR e w h)
  have hR : ∀ e w, (R (e 4) w) → (thenE (W49 k49_2 Q) Q) .ret e w := fun e w h => then_R (hR e w h)
  refine seA ?_
  have hN : ∀ e w, (m49_4 R (e 0) (e 1) (e 7) (e 8) w) → (thenE (W49 k49_4 (thenE (W49 k49_2 Q) Q)) (thenE (W49 k49_2 Q) Q)) .normal e w := fun e w h => then_N (s49_4 (R := R) (Q := (thenE (W49 k49_2 Q) Q)) hN hR e w h)
  exact rgA 1 (fun e w => m49_4 R (e 0) (e 1) (e 7) (e 8) w) h hN
theorem s49_0 {R : VP} {Q : EQ} (hR : ∀ e w, (R (e 4) w) → Q .ret e w) (e : Env) (w : World) (h : m49_0 R (e 0) (e 1) w) : W49 k49_0 Q e w := by
  unfold m49_0 at h
  refine seA ?_
  have hN : ∀ e w, (m49_1 R (e 0) (e 1) w) → (thenE (W49 k49_1 Q) Q) .normal e w := fun e w h => then_N (s49_1 (R := R) (Q := Q) hR e w h)
  exact rgA 0 (fun e w => m49_1 R (e 0) (e 1) w) h hN
abbrev m49 (R : VP) (s0 f1 : Value) (w : World) : Prop := m49_0 R s0 f1 w
theorem s49 (s0 f1 : Value) {R : VP} {w : World} (h : m49 R s0 f1 w) :
    Calls Try.prog 49 #[s0, f1] w fun e w' => ∃ v, e = .returned v ∧ R v w' :=
  calls_of_cwp (st := (fun i => 0)) (c := k49_0) (by kernel_rfl) Try.func49 (by kernel_rfl) (Nat.le_of_ble_eq_true (by kernel_rfl)) (by kernel_rfl)
    (s49_0 (R := R) (Q := endE Try.prog Try.f49 R) (fun e w h => kcast (by kernel_rfl) h) (argsE #[s0, f1]) w (kcast (by kernel_rfl) h))
/-! ### cmp.isNaN[int] -/
def m58_2 (R : VP) (t2 : Value) (w : World) : Prop :=
  R t2 w
def m58_1 (R : VP) (x0 : Value) (w : World) : Prop :=
  valP Try.prog (binS BinOp.neq 3 (Operand.tmp 3) (Operand.tmp 4) x0 x0) w fun t5 w =>
  m58_2 R t5 w
def m58_0 (R : VP) (x0 : Value) (w : World) : Prop :=
  m58_1 R x0 w
abbrev W58 := cwp Try.prog (fun i => 0)
noncomputable def k58_0 : Code := (bodyOf Try.f58)
noncomputable def k58_1 : Code := (c2 k58_0)
noncomputable def k58_2 : Code := (c2 k58_1)
theorem s58_2 {R : VP} {Q : EQ} (hR : ∀ e w, (R (e 2) w) → Q .ret e w) (e : Env) (w : World) (h : m58_2 R (e 2) w) : W58 k58_2 Q e w := by
  unfold m58_2 at h
  exact reA (hR _ _ h)
theorem s58_1 {R : VP} {Q : EQ} (hR : ∀ e w, (R (e 2) w) → Q .ret e w) (e : Env) (w : World) (h : m58_1 R (e 0) w) : W58 k58_1 Q e w := by
  unfold m58_1 at h
  refine seA ?_
  have hN : ∀ e w, (m58_2 R (e 2) w) → (thenE (W58 k58_2 Q) Q) .normal e w := fun e w h => then_N (s58_2 (R := R) (Q := Q) hR e w h)
  exact rgA 1 (fun e w => m58_2 R (e 2) w) h hN
theorem s58_0 {R : VP} {Q : EQ} (hR : ∀ e w, (R (e 2) w) → Q .ret e w) (e : Env) (w : World) (h : m58_0 R (e 0) w) : W58 k58_0 Q e w := by
  unfold m58_0 at h
  refine seA ?_
  have hN : ∀ e w, (m58_1 R (e 0) w) → (thenE (W58 k58_1 Q) Q) .normal e w := fun e w h => then_N (s58_1 (R := R) (Q := Q) hR e w h)
  exact rgA 0 (fun e w => m58_1 R (e 0) w) h hN
abbrev m58 (R : VP) (x0 : Value) (w : World) : Prop := m58_0 R x0 w
theorem s58 (x0 : Value) {R : VP} {w : World} (h : m58 R x0 w) :
    Calls Try.prog 58 #[x0] w fun e w' => ∃ v, e = .returned v ∧ R v w' :=
  calls_of_cwp (st := (fun i => 0)) (c := k58_0) (by kernel_rfl) Try.func58 (by kernel_rfl) (Nat.le_of_ble_eq_true (by kernel_rfl)) (by kernel_rfl)
    (s58_0 (R := R) (Q := endE Try.prog Try.f58 R) (fun e w h => kcast (by kernel_rfl) h) (argsE #[x0]) w (kcast (by kernel_rfl) h))
end Go.Proofs.Ytojgdmcojmllkaa.M
