/- What functions' texts ask of their ends, told over values that have names; printed by a program of this work. -/
import Derived.Test.YtcdnkbplplghmaaFw
import Derived.Test.YtcdnkbplplghmaaProg
namespace Go.Proofs.Ytcdnkbplplghmaa.M
open Go.Proofs.Ytcdnkbplplghmaa.F
set_option linter.unusedVariables false
set_option maxRecDepth 100000
/-! ### headgate/varint.PutAll -/
def m58_9 (R : VP) (K1 : VP) (b3 t6 t7 t8 : Value) (w : World) : Prop :=
  valP Try.prog (binS BinOp.add 3 (Operand.tmp 8) (Operand.const (Value.int IntKind.i64 1)) t8 (Value.int IntKind.i64 1)) w fun t15 w =>
  K1 t15 w
def m58_10 (R : VP) (K1 : VP) (b3 n5 t6 t7 t8 : Value) (w : World) : Prop :=
  callP Try.prog (fnV 32) #[n5] w fun t13 w =>
  callP Try.prog (fnV 31) #[b3, t13] w fun t14 w =>
  m58_9 R K1 b3 t6 t7 t8 w
def m58_8 (R : VP) (K1 : VP) (b3 t6 t7 t8 : Value) (w : World) : Prop :=
  valP Try.prog (Instr.indexAt 63 t6 t8) w fun t10 w =>
  valP Try.prog (Instr.loadAt 3 t10) w fun t11 w =>
  m58_10 R K1 b3 t11 t6 t7 t8 w
def m58_4 (R : VP) (t2 : Value) (w : World) : Prop :=
  R t2 w
def m58_3 (R : VP) (b3 : Value) (w : World) : Prop :=
  callP Try.prog (fnV 35) #[b3] w fun t16 w =>
  m58_4 R t16 w
def m58_7 (R : VP) (K1 : VP) (b3 t6 t7 t8 t9 : Value) (w : World) : Prop :=
  condP t9
  (m58_8 R K1 b3 t6 t7 t8 w)
  (m58_3 R b3 w)
def m58_6 (R : VP) (K1 : VP) (b3 t6 t7 t8 : Value) (w : World) : Prop :=
  valP Try.prog (binS BinOp.lss 3 (Operand.tmp 8) (Operand.tmp 7) t8 t7) w fun t9 w =>
  m58_7 R K1 b3 t6 t7 t8 t9 w
def m58_5 (R : VP) (b3 t6 t7 t8 : Value) (w : World) : Prop :=
  loopP (fun (K1 : VP) (s : Value) w => m58_6 R K1 b3 t6 t7 s w) t8 w
def m58_2 (R : VP) (l0 b3 : Value) (w : World) : Prop :=
  builtinP Try.prog Builtin.len #[63] 3 #[false] #[l0] w fun t7 w =>
  m58_5 R b3 l0 t7 (Value.int IntKind.i64 0) w
def m58_1 (R : VP) (l0 : Value) (w : World) : Prop :=
  valP Try.prog (Instr.alloc 73 true (.tuple #[])) w fun b3 w =>
  m58_2 R l0 b3 w
def m58_0 (R : VP) (l0 : Value) (w : World) : Prop :=
  m58_1 R l0 w
abbrev W58 := cwp Try.prog (fun i => 0)
noncomputable def k58_0 : Code := (bodyOf Try.f58)
noncomputable def k58_1 : Code := (c2 k58_0)
noncomputable def k58_2 : Code := (c2 k58_1)
noncomputable def k58_3 : Code := (c2 k58_2)
noncomputable def k58_4 : Code := (c2 k58_3)
noncomputable def k58_5 : Code := (c2 (c1 k58_2))
noncomputable def k58_6 : Code := (c1 (c1 k58_5))
noncomputable def k58_7 : Code := (c2 k58_6)
noncomputable def k58_8 : Code := (c2 k58_7)
noncomputable def k58_9 : Code := (c2 k58_8)
noncomputable def k58_10 : Code := (c2 (c1 (c1 k58_8)))
theorem s58_9 {R : VP} {K1 : VP} {Q : EQ} (hN : ∀ e w, (K1 (e 8) w) → Q .normal e w) (e : Env) (w : World) (h : m58_9 R K1 (e 3) (e 6) (e 7) (e 8) w) : W58 k58_9 Q e w := by
  unfold m58_9 at h
  exact rgA 6 (fun e w => K1 (e 8) w) h hN
theorem s58_10 {R : VP} {K1 : VP} {Q : EQ} (hN : ∀ e w, (m58_9 R K1 (e 3) (e 6) (e 7) (e 8) w) → Q .normal e w) (e : Env) (w : World) (h : m58_10 R K1 (e 3) (e 5) (e 6) (e 7) (e 8) w) : W58 k58_10 Q e w := by
  unfold m58_10 at h
  exact rgA 5 (fun e w => m58_9 R K1 (e 3) (e 6) (e 7) (e 8) w) h hN
theorem s58_8 {R : VP} {K1 : VP} {Q : EQ} (hN : ∀ e w, (K1 (e 8) w) → Q .normal e w) (e : Env) (w : World) (h : m58_8 R K1 (e 3) (e 6) (e 7) (e 8) w) : W58 k58_8 Q e w := by
  unfold m58_8 at h
  refine seA ?_
  have hN : ∀ e w, (m58_9 R K1 (e 3) (e 6) (e 7) (e 8) w) → (thenE (W58 k58_9 Q) Q) .normal e w := fun e w h => then_N (s58_9 (R := R) (Q := Q) (K1 := K1) hN e w h)
  refine block_ok 1 (by kernel_rfl) ?_
  have hN : ∀ e w, (m58_9 R K1 (e 3) (e 6) (e 7) (e 8) w) → (inBlockE 1 (thenE (W58 k58_9 Q) Q)) .normal e w := fun e w h => block_N (hN e w h)
  refine seA ?_
  have hN : ∀ e w, (m58_10 R K1 (e 3) (e 5) (e 6) (e 7) (e 8) w) → (thenE (W58 k58_10 (inBlockE 1 (thenE (W58 k58_9 Q) Q))) (inBlockE 1 (thenE (W58 k58_9 Q) Q))) .normal e w := fun e w h => then_N (s58_10 (R := R) (Q := (inBlockE 1 (thenE (W58 k58_9 Q) Q))) (K1 := K1) hN e w h)
  exact rgA 4 (fun e w => m58_10 R K1 (e 3) (e 5) (e 6) (e 7) (e 8) w) h hN
theorem s58_4 {R : VP} {Q : EQ} (hR : ∀ e w, (R (e 2) w) → Q .ret e w) (e : Env) (w : World) (h : m58_4 R (e 2) w) : W58 k58_4 Q e w := by
  unfold m58_4 at h
  exact reA (hR _ _ h)
theorem s58_3 {R : VP} {Q : EQ} (hR : ∀ e w, (R (e 2) w) → Q .ret e w) (e : Env) (w : World) (h : m58_3 R (e 3) w) : W58 k58_3 Q e w := by
  unfold m58_3 at h
  refine seA ?_
  have hN : ∀ e w, (m58_4 R (e 2) w) → (thenE (W58 k58_4 Q) Q) .normal e w := fun e w h => then_N (s58_4 (R := R) (Q := Q) hR e w h)
  exact rgA 7 (fun e w => m58_4 R (e 2) w) h hN
theorem s58_7 {R : VP} {K1 : VP} {Q : EQ} (hN : ∀ e w, (K1 (e 8) w) → Q .normal e w) (hX0 : ∀ e w, (m58_3 R (e 3) w) → Q (.exit 0) e w) (e : Env) (w : World) (h : m58_7 R K1 (e 3) (e 6) (e 7) (e 8) (e 9) w) : W58 k58_7 Q e w := by
  unfold m58_7 at h
  refine seA ?_
  have hN : ∀ e w, (m58_8 R K1 (e 3) (e 6) (e 7) (e 8) w) → (thenE (W58 k58_8 Q) Q) .normal e w := fun e w h => then_N (s58_8 (R := R) (Q := Q) (K1 := K1) hN e w h)
  have hX0 : ∀ e w, (m58_3 R (e 3) w) → (thenE (W58 k58_8 Q) Q) (.exit 0) e w := fun e w h => then_X (hX0 e w h)
  refine coA (Operand.tmp 9) h (fun h1 => ?_) (fun h1 => ?_)
  · exact skA (hN _ _ h1)
  · exact exA 0 (hX0 _ _ h1)
theorem s58_6 {R : VP} {K1 : VP} {Q : EQ} (hN : ∀ e w, (K1 (e 8) w) → Q .normal e w) (hX0 : ∀ e w, (m58_3 R (e 3) w) → Q (.exit 0) e w) (e : Env) (w : World) (h : m58_6 R K1 (e 3) (e 6) (e 7) (e 8) w) : W58 k58_6 Q e w := by
  unfold m58_6 at h
  refine seA ?_
  have hN : ∀ e w, (m58_7 R K1 (e 3) (e 6) (e 7) (e 8) (e 9) w) → (thenE (W58 k58_7 Q) Q) .normal e w := fun e w h => then_N (s58_7 (R := R) (Q := Q) (K1 := K1) hN hX0 e w h)
  exact rgA 3 (fun e w => m58_7 R K1 (e 3) (e 6) (e 7) (e 8) (e 9) w) h hN
theorem s58_5 {R : VP} {Q : EQ} (hN : ∀ e w, (m58_3 R (e 3) w) → Q .normal e w) (e : Env) (w : World) (h : m58_5 R (e 3) (e 6) (e 7) (e 8) w) : W58 k58_5 Q e w := by
  unfold m58_5 at h
  refine block_ok 0 (by kernel_rfl) ?_
  have hX0 : ∀ e w, (m58_3 R (e 3) w) → (inBlockE 0 Q) (.exit 0) e w := fun e w h => inBlock_same (Q := Q) 0 (hN e w h)
  refine loop_ok' (fun (e : Env) => e 8) [3, 6, 7] (by kernel_rfl) (by kernel_rfl) h (fun K e' w' hk h' => ?_)
  have r3 : e' 3 = e 3 := hk 3 (by decide)
  have r6 : e' 6 = e 6 := hk 6 (by decide)
  have r7 : e' 7 = e 7 := hk 7 (by decide)
  have hX0 : ∀ e w, (m58_3 R (e 3) w) → (thenE (fun (e : Env) w => K (e 8) w) (inBlockE 0 Q)) (.exit 0) e w := fun e w h => then_X (hX0 e w h)
  exact s58_6 (R := R) (Q := (thenE (fun (e : Env) w => K (e 8) w) (inBlockE 0 Q))) (K1 := K) (fun _ _ h => then_N h) hX0 e' w' (by rw [r3, r6, r7]; exact h')
theorem s58_2 {R : VP} {Q : EQ} (hR : ∀ e w, (R (e 2) w) → Q .ret e w) (e : Env) (w : World) (h : m58_2 R (e 0) (e 3) w) : W58 k58_2 Q e w := by
  unfold m58_2 at h
  refine seA ?_
  have hN : ∀ e w, (m58_3 R (e 3) w) → (thenE (W58 k58_3 Q) Q) .normal e w := fun e w h => then_N (s58_3 (R := R) (Q := Q) hR e w h)
  refine seA ?_
  have hN : ∀ e w, (m58_5 R (e 3) (e 6) (e 7) (e 8) w) → (thenE (W58 k58_5 (thenE (W58 k58_3 Q) Q)) (thenE (W58 k58_3 Q) Q)) .normal e w := fun e w h => then_N (s58_5 (R := R) (Q := (thenE (W58 k58_3 Q) Q)) hN e w h)
  exact rgA 2 (fun e w => m58_5 R (e 3) (e 6) (e 7) (e 8) w) h hN
theorem s58_1 {R : VP} {Q : EQ} (hR : ∀ e w, (R (e 2) w) → Q .ret e w) (e : Env) (w : World) (h : m58_1 R (e 0) w) : W58 k58_1 Q e w := by
  unfold m58_1 at h
  refine seA ?_
  have hN : ∀ e w, (m58_2 R (e 0) (e 3) w) → (thenE (W58 k58_2 Q) Q) .normal e w := fun e w h => then_N (s58_2 (R := R) (Q := Q) hR e w h)
  exact rgA 1 (fun e w => m58_2 R (e 0) (e 3) w) h hN
theorem s58_0 {R : VP} {Q : EQ} (hR : ∀ e w, (R (e 2) w) → Q .ret e w) (e : Env) (w : World) (h : m58_0 R (e 0) w) : W58 k58_0 Q e w := by
  unfold m58_0 at h
  refine seA ?_
  have hN : ∀ e w, (m58_1 R (e 0) w) → (thenE (W58 k58_1 Q) Q) .normal e w := fun e w h => then_N (s58_1 (R := R) (Q := Q) hR e w h)
  exact rgA 0 (fun e w => m58_1 R (e 0) w) h hN
abbrev m58 (R : VP) (l0 : Value) (w : World) : Prop := m58_0 R l0 w
theorem s58 (l0 : Value) {R : VP} {w : World} (h : m58 R l0 w) :
    Calls Try.prog 58 #[l0] w fun e w' => ∃ v, e = .returned v ∧ R v w' :=
  calls_of_cwp (st := (fun i => 0)) (c := k58_0) (by kernel_rfl) Try.func58 (by kernel_rfl) (Nat.le_of_ble_eq_true (by kernel_rfl)) (by kernel_rfl)
    (s58_0 (R := R) (Q := endE Try.prog Try.f58 R) (fun e w h => kcast (by kernel_rfl) h) (argsE #[l0]) w (kcast (by kernel_rfl) h))
/-! ### headgate/varint.PutText -/
def m59_2 (R : VP) (t2 : Value) (w : World) : Prop :=
  R t2 w
def m59_1 (R : VP) (s0 : Value) (w : World) : Prop :=
  builtinP Try.prog Builtin.len #[9] 3 #[false] #[s0] w fun t4 w =>
  callP Try.prog (fnV 32) #[t4] w fun t5 w =>
  valP Try.prog (binS BinOp.add 9 (Operand.tmp 5) (Operand.tmp 6) t5 s0) w fun t7 w =>
  m59_2 R t7 w
def m59_0 (R : VP) (s0 : Value) (w : World) : Prop :=
  m59_1 R s0 w
abbrev W59 := cwp Try.prog (fun i => 0)
noncomputable def k59_0 : Code := (bodyOf Try.f59)
noncomputable def k59_1 : Code := (c2 k59_0)
noncomputable def k59_2 : Code := (c2 k59_1)
theorem s59_2 {R : VP} {Q : EQ} (hR : ∀ e w, (R (e 2) w) → Q .ret e w) (e : Env) (w : World) (h : m59_2 R (e 2) w) : W59 k59_2 Q e w := by
  unfold m59_2 at h
  exact reA (hR _ _ h)
theorem s59_1 {R : VP} {Q : EQ} (hR : ∀ e w, (R (e 2) w) → Q .ret e w) (e : Env) (w : World) (h : m59_1 R (e 0) w) : W59 k59_1 Q e w := by
  unfold m59_1 at h
  refine seA ?_
  have hN : ∀ e w, (m59_2 R (e 2) w) → (thenE (W59 k59_2 Q) Q) .normal e w := fun e w h => then_N (s59_2 (R := R) (Q := Q) hR e w h)
  exact rgA 1 (fun e w => m59_2 R (e 2) w) h hN
theorem s59_0 {R : VP} {Q : EQ} (hR : ∀ e w, (R (e 2) w) → Q .ret e w) (e : Env) (w : World) (h : m59_0 R (e 0) w) : W59 k59_0 Q e w := by
  unfold m59_0 at h
  refine seA ?_
  have hN : ∀ e w, (m59_1 R (e 0) w) → (thenE (W59 k59_1 Q) Q) .normal e w := fun e w h => then_N (s59_1 (R := R) (Q := Q) hR e w h)
  exact rgA 0 (fun e w => m59_1 R (e 0) w) h hN
abbrev m59 (R : VP) (s0 : Value) (w : World) : Prop := m59_0 R s0 w
theorem s59 (s0 : Value) {R : VP} {w : World} (h : m59 R s0 w) :
    Calls Try.prog 59 #[s0] w fun e w' => ∃ v, e = .returned v ∧ R v w' :=
  calls_of_cwp (st := (fun i => 0)) (c := k59_0) (by kernel_rfl) Try.func59 (by kernel_rfl) (Nat.le_of_ble_eq_true (by kernel_rfl)) (by kernel_rfl)
    (s59_0 (R := R) (Q := endE Try.prog Try.f59 R) (fun e w h => kcast (by kernel_rfl) h) (argsE #[s0]) w (kcast (by kernel_rfl) h))
/-! ### headgate/headgateref01.Text -/
def m62_2 (R : VP) (t2 : Value) (w : World) : Prop :=
  R t2 w
def m62_1 (R : VP) (s0 : Value) (w : World) : Prop :=
  builtinP Try.prog Builtin.len #[9] 3 #[false] #[s0] w fun t4 w =>
  callP Try.prog (fnV 26) #[t4] w fun t5 w =>
  valP Try.prog (binS BinOp.add 9 (Operand.tmp 5) (Operand.tmp 6) t5 s0) w fun t7 w =>
  m62_2 R t7 w
def m62_0 (R : VP) (s0 : Value) (w : World) : Prop :=
  m62_1 R s0 w
abbrev W62 := cwp Try.prog (fun i => 0)
noncomputable def k62_0 : Code := (bodyOf Try.f62)
noncomputable def k62_1 : Code := (c2 k62_0)
noncomputable def k62_2 : Code := (c2 k62_1)
theorem s62_2 {R : VP} {Q : EQ} (hR : ∀ e w, (R (e 2) w) → Q .ret e w) (e : Env) (w : World) (h : m62_2 R (e 2) w) : W62 k62_2 Q e w := by
  unfold m62_2 at h
  exact reA (hR _ _ h)
theorem s62_1 {R : VP} {Q : EQ} (hR : ∀ e w, (R (e 2) w) → Q .ret e w) (e : Env) (w : World) (h : m62_1 R (e 0) w) : W62 k62_1 Q e w := by
  unfold m62_1 at h
  refine seA ?_
  have hN : ∀ e w, (m62_2 R (e 2) w) → (thenE (W62 k62_2 Q) Q) .normal e w := fun e w h => then_N (s62_2 (R := R) (Q := Q) hR e w h)
  exact rgA 1 (fun e w => m62_2 R (e 2) w) h hN
theorem s62_0 {R : VP} {Q : EQ} (hR : ∀ e w, (R (e 2) w) → Q .ret e w) (e : Env) (w : World) (h : m62_0 R (e 0) w) : W62 k62_0 Q e w := by
  unfold m62_0 at h
  refine seA ?_
  have hN : ∀ e w, (m62_1 R (e 0) w) → (thenE (W62 k62_1 Q) Q) .normal e w := fun e w h => then_N (s62_1 (R := R) (Q := Q) hR e w h)
  exact rgA 0 (fun e w => m62_1 R (e 0) w) h hN
abbrev m62 (R : VP) (s0 : Value) (w : World) : Prop := m62_0 R s0 w
theorem s62 (s0 : Value) {R : VP} {w : World} (h : m62 R s0 w) :
    Calls Try.prog 62 #[s0] w fun e w' => ∃ v, e = .returned v ∧ R v w' :=
  calls_of_cwp (st := (fun i => 0)) (c := k62_0) (by kernel_rfl) Try.func62 (by kernel_rfl) (Nat.le_of_ble_eq_true (by kernel_rfl)) (by kernel_rfl)
    (s62_0 (R := R) (Q := endE Try.prog Try.f62 R) (fun e w h => kcast (by kernel_rfl) h) (argsE #[s0]) w (kcast (by kernel_rfl) h))
/-! ### headgate/varint.TakeAll -/
def m65_17 (R : VP) (t4 t5 t6 : Value) (w : World) : Prop :=
  R (Value.tuple #[t4, t5, t6]) w
def m65_15 (R : VP) (K1 : (Value × Value × Value) → World → Prop) (t4 t5 t6 : Value) (w : World) : Prop :=
  R (Value.tuple #[t4, t5, t6]) w
def m65_10 (R : VP) (K1 : (Value × Value × Value) → World → Prop) (s0 l7 t17 t18 : Value) (w : World) : Prop :=
  valP Try.prog (binS BinOp.add 3 (Operand.tmp 18) (Operand.const (Value.int IntKind.i64 1)) t18 (Value.int IntKind.i64 1)) w fun t34 w =>
  K1 (s0, l7, t34) w
def m65_13 (R : VP) (K1 : (Value × Value × Value) → World → Prop) (l7 rest9 t17 t18 : Value) (w : World) : Prop :=
  m65_10 R K1 rest9 l7 t17 t18 w
def m65_12 (R : VP) (K1 : (Value × Value × Value) → World → Prop) (l7 k8 rest9 t17 t18 : Value) (w : World) : Prop :=
  valP Try.prog (Instr.buildSlice 63 1 #[(0, k8)]) w fun t31 w =>
  builtinP Try.prog Builtin.append #[63, 63] 63 #[false, false] #[l7, t31] w fun t32 w =>
  m65_13 R K1 t32 rest9 t17 t18 w
def m65_14 (R : VP) (K1 : (Value × Value × Value) → World → Prop) (l7 k8 rest9 e10 t17 t18 t27 : Value) (w : World) : Prop :=
  condP t27
  (m65_15 R K1 (Value.slice none 0 0) (Value.string ⟨#[]⟩) e10 w)
  (m65_12 R K1 l7 k8 rest9 t17 t18 w)
def m65_11 (R : VP) (K1 : (Value × Value × Value) → World → Prop) (l7 k8 rest9 e10 t17 t18 : Value) (w : World) : Prop :=
  valP Try.prog (binS BinOp.neq 42 (Operand.tmp 26) (Operand.const (Value.int IntKind.i64 0)) e10 (Value.int IntKind.i64 0)) w fun t27 w =>
  m65_14 R K1 l7 k8 rest9 e10 t17 t18 t27 w
def m65_9 (R : VP) (K1 : (Value × Value × Value) → World → Prop) (s0 l7 t17 t18 : Value) (w : World) : Prop :=
  callP Try.prog (fnV 40) #[s0] w fun t22 w =>
  valP Try.prog (Instr.extract t22 0) w fun t23 w =>
  valP Try.prog (Instr.extract t22 1) w fun t24 w =>
  valP Try.prog (Instr.extract t22 2) w fun t25 w =>
  m65_11 R K1 l7 t23 t24 t25 t17 t18 w
def m65_5 (R : VP) (t4 t5 t6 : Value) (w : World) : Prop :=
  R (Value.tuple #[t4, t5, t6]) w
def m65_4 (R : VP) (s0 l7 : Value) (w : World) : Prop :=
  m65_5 R l7 s0 (Value.int IntKind.i64 0) w
def m65_8 (R : VP) (K1 : (Value × Value × Value) → World → Prop) (s0 l7 t17 t18 t19 : Value) (w : World) : Prop :=
  condP t19
  (m65_9 R K1 s0 l7 t17 t18 w)
  (m65_4 R s0 l7 w)
def m65_7 (R : VP) (K1 : (Value × Value × Value) → World → Prop) (s0 l7 t17 t18 : Value) (w : World) : Prop :=
  valP Try.prog (binS BinOp.lss 3 (Operand.tmp 18) (Operand.tmp 17) t18 t17) w fun t19 w =>
  m65_8 R K1 s0 l7 t17 t18 t19 w
def m65_6 (R : VP) (s0 l7 t17 t18 : Value) (w : World) : Prop :=
  loopP (fun (K1 : (Value × Value × Value) → World → Prop) (s : Value × Value × Value) w => m65_7 R K1 s.1 s.2.1 t17 s.2.2 w) (s0, l7, t18) w
def m65_3 (R : VP) (s0 n1 l7 : Value) (w : World) : Prop :=
  m65_6 R s0 l7 n1 (Value.int IntKind.i64 0) w
def m65_2 (R : VP) (s0 n1 : Value) (w : World) : Prop :=
  m65_3 R s0 n1 (Value.slice none 0 0) w
def m65_16 (R : VP) (s0 n1 t16 : Value) (w : World) : Prop :=
  condP t16
  (m65_17 R (Value.slice none 0 0) (Value.string ⟨#[]⟩) (Value.int IntKind.i64 1) w)
  (m65_2 R s0 n1 w)
def m65_1 (R : VP) (s0 n1 : Value) (w : World) : Prop :=
  valP Try.prog (binS BinOp.lss 3 (Operand.tmp 11) (Operand.const (Value.int IntKind.i64 0)) n1 (Value.int IntKind.i64 0)) w fun t12 w =>
  condP t12
  (pickP t12 (Value.bool true) undef fun t16 =>
  m65_16 R s0 n1 t16 w)
  (valP Try.prog (binS BinOp.gtr 3 (Operand.tmp 14) (Operand.const (Value.int IntKind.i64 64)) n1 (Value.int IntKind.i64 64)) w fun t15 w =>
  pickP t12 (Value.bool true) t15 fun t16 =>
  m65_16 R s0 n1 t16 w)
def m65_0 (R : VP) (s0 n1 : Value) (w : World) : Prop :=
  m65_1 R s0 n1 w
abbrev W65 := cwp Try.prog (fun i => 0)
noncomputable def k65_0 : Code := (bodyOf Try.f65)
noncomputable def k65_1 : Code := (c2 k65_0)
noncomputable def k65_2 : Code := (c2 k65_1)
noncomputable def k65_3 : Code := (c2 k65_2)
noncomputable def k65_4 : Code := (c2 k65_3)
noncomputable def k65_5 : Code := (c2 k65_4)
noncomputable def k65_6 : Code := (c2 (c1 k65_3))
noncomputable def k65_7 : Code := (c1 (c1 k65_6))
noncomputable def k65_8 : Code := (c2 k65_7)
noncomputable def k65_9 : Code := (c2 k65_8)
noncomputable def k65_10 : Code := (c2 k65_9)
noncomputable def k65_11 : Code := (c2 (c1 (c1 k65_9)))
noncomputable def k65_12 : Code := (c2 k65_11)
noncomputable def k65_13 : Code := (c2 k65_12)
noncomputable def k65_14 : Code := (c2 (c1 k65_11))
noncomputable def k65_15 : Code := (c2 (c1 k65_14))
noncomputable def k65_16 : Code := (c2 (c1 k65_1))
noncomputable def k65_17 : Code := (c2 (c1 k65_16))
theorem s65_17 {R : VP} {Q : EQ} (hR : ∀ e w, (R (Value.tuple #[(e 4), (e 5), (e 6)]) w) → Q .ret e w) (e : Env) (w : World) (h : m65_17 R (e 4) (e 5) (e 6) w) : W65 k65_17 Q e w := by
  unfold m65_17 at h
  exact reA (hR _ _ h)
theorem s65_15 {R : VP} {K1 : (Value × Value × Value) → World → Prop} {Q : EQ} (hR : ∀ e w, (R (Value.tuple #[(e 4), (e 5), (e 6)]) w) → Q .ret e w) (e : Env) (w : World) (h : m65_15 R K1 (e 4) (e 5) (e 6) w) : W65 k65_15 Q e w := by
  unfold m65_15 at h
  exact reA (hR _ _ h)
theorem s65_10 {R : VP} {K1 : (Value × Value × Value) → World → Prop} {Q : EQ} (hN : ∀ e w, (K1 ((e 0), (e 7), (e 18)) w) → Q .normal e w) (e : Env) (w : World) (h : m65_10 R K1 (e 0) (e 7) (e 17) (e 18) w) : W65 k65_10 Q e w := by
  unfold m65_10 at h
  exact rgA 11 (fun e w => K1 ((e 0), (e 7), (e 18)) w) h hN
theorem s65_13 {R : VP} {K1 : (Value × Value × Value) → World → Prop} {Q : EQ} (hN : ∀ e w, (m65_10 R K1 (e 0) (e 7) (e 17) (e 18) w) → Q .normal e w) (e : Env) (w : World) (h : m65_13 R K1 (e 7) (e 9) (e 17) (e 18) w) : W65 k65_13 Q e w := by
  unfold m65_13 at h
  exact rgA 10 (fun e w => m65_10 R K1 (e 0) (e 7) (e 17) (e 18) w) h hN
theorem s65_12 {R : VP} {K1 : (Value × Value × Value) → World → Prop} {Q : EQ} (hN : ∀ e w, (m65_10 R K1 (e 0) (e 7) (e 17) (e 18) w) → Q .normal e w) (e : Env) (w : World) (h : m65_12 R K1 (e 7) (e 8) (e 9) (e 17) (e 18) w) : W65 k65_12 Q e w := by
  unfold m65_12 at h
  refine seA ?_
  have hN : ∀ e w, (m65_13 R K1 (e 7) (e 9) (e 17) (e 18) w) → (thenE (W65 k65_13 Q) Q) .normal e w := fun e w h => then_N (s65_13 (R := R) (Q := Q) (K1 := K1) hN e w h)
  exact rgA 9 (fun e w => m65_13 R K1 (e 7) (e 9) (e 17) (e 18) w) h hN
theorem s65_14 {R : VP} {K1 : (Value × Value × Value) → World → Prop} {Q : EQ} (hN : ∀ e w, (m65_12 R K1 (e 7) (e 8) (e 9) (e 17) (e 18) w) → Q .normal e w) (hR : ∀ e w, (R (Value.tuple #[(e 4), (e 5), (e 6)]) w) → Q .ret e w) (e : Env) (w : World) (h : m65_14 R K1 (e 7) (e 8) (e 9) (e 10) (e 17) (e 18) (e 27) w) : W65 k65_14 Q e w := by
  unfold m65_14 at h
  refine coA (Operand.tmp 27) h (fun h1 => ?_) (fun h1 => ?_)
  · refine seA ?_
    have hN : ∀ e w, (m65_15 R K1 (e 4) (e 5) (e 6) w) → (thenE (W65 k65_15 Q) Q) .normal e w := fun e w h => then_N (s65_15 (R := R) (Q := Q) (K1 := K1) hR e w h)
    exact rgA 8 (fun e w => m65_15 R K1 (e 4) (e 5) (e 6) w) h1 hN
  · exact skA (hN _ _ h1)
theorem s65_11 {R : VP} {K1 : (Value × Value × Value) → World → Prop} {Q : EQ} (hN : ∀ e w, (m65_10 R K1 (e 0) (e 7) (e 17) (e 18) w) → Q .normal e w) (hR : ∀ e w, (R (Value.tuple #[(e 4), (e 5), (e 6)]) w) → Q .ret e w) (e : Env) (w : World) (h : m65_11 R K1 (e 7) (e 8) (e 9) (e 10) (e 17) (e 18) w) : W65 k65_11 Q e w := by
  unfold m65_11 at h
  refine seA ?_
  have hN : ∀ e w, (m65_12 R K1 (e 7) (e 8) (e 9) (e 17) (e 18) w) → (thenE (W65 k65_12 Q) Q) .normal e w := fun e w h => then_N (s65_12 (R := R) (Q := Q) (K1 := K1) hN e w h)
  have hR : ∀ e w, (R (Value.tuple #[(e 4), (e 5), (e 6)]) w) → (thenE (W65 k65_12 Q) Q) .ret e w := fun e w h => then_R (hR e w h)
  refine seA ?_
  have hN : ∀ e w, (m65_14 R K1 (e 7) (e 8) (e 9) (e 10) (e 17) (e 18) (e 27) w) → (thenE (W65 k65_14 (thenE (W65 k65_12 Q) Q)) (thenE (W65 k65_12 Q) Q)) .normal e w := fun e w h => then_N (s65_14 (R := R) (Q := (thenE (W65 k65_12 Q) Q)) (K1 := K1) hN hR e w h)
  exact rgA 7 (fun e w => m65_14 R K1 (e 7) (e 8) (e 9) (e 10) (e 17) (e 18) (e 27) w) h hN
theorem s65_9 {R : VP} {K1 : (Value × Value × Value) → World → Prop} {Q : EQ} (hN : ∀ e w, (K1 ((e 0), (e 7), (e 18)) w) → Q .normal e w) (hR : ∀ e w, (R (Value.tuple #[(e 4), (e 5), (e 6)]) w) → Q .ret e w) (e : Env) (w : World) (h : m65_9 R K1 (e 0) (e 7) (e 17) (e 18) w) : W65 k65_9 Q e w := by
  unfold m65_9 at h
  refine seA ?_
  have hN : ∀ e w, (m65_10 R K1 (e 0) (e 7) (e 17) (e 18) w) → (thenE (W65 k65_10 Q) Q) .normal e w := fun e w h => then_N (s65_10 (R := R) (Q := Q) (K1 := K1) hN e w h)
  have hR : ∀ e w, (R (Value.tuple #[(e 4), (e 5), (e 6)]) w) → (thenE (W65 k65_10 Q) Q) .ret e w := fun e w h => then_R (hR e w h)
  refine block_ok 1 (by kernel_rfl) ?_
  have hN : ∀ e w, (m65_10 R K1 (e 0) (e 7) (e 17) (e 18) w) → (inBlockE 1 (thenE (W65 k65_10 Q) Q)) .normal e w := fun e w h => block_N (hN e w h)
  have hR : ∀ e w, (R (Value.tuple #[(e 4), (e 5), (e 6)]) w) → (inBlockE 1 (thenE (W65 k65_10 Q) Q)) .ret e w := fun e w h => block_R (hR e w h)
  refine seA ?_
  have hN : ∀ e w, (m65_11 R K1 (e 7) (e 8) (e 9) (e 10) (e 17) (e 18) w) → (thenE (W65 k65_11 (inBlockE 1 (thenE (W65 k65_10 Q) Q))) (inBlockE 1 (thenE (W65 k65_10 Q) Q))) .normal e w := fun e w h => then_N (s65_11 (R := R) (Q := (inBlockE 1 (thenE (W65 k65_10 Q) Q))) (K1 := K1) hN hR e w h)
  exact rgA 6 (fun e w => m65_11 R K1 (e 7) (e 8) (e 9) (e 10) (e 17) (e 18) w) h hN
theorem s65_5 {R : VP} {Q : EQ} (hR : ∀ e w, (R (Value.tuple #[(e 4), (e 5), (e 6)]) w) → Q .ret e w) (e : Env) (w : World) (h : m65_5 R (e 4) (e 5) (e 6) w) : W65 k65_5 Q e w := by
  unfold m65_5 at h
  exact reA (hR _ _ h)
theorem s65_4 {R : VP} {Q : EQ} (hR : ∀ e w, (R (Value.tuple #[(e 4), (e 5), (e 6)]) w) → Q .ret e w) (e : Env) (w : World) (h : m65_4 R (e 0) (e 7) w) : W65 k65_4 Q e w := by
  unfold m65_4 at h
  refine seA ?_
  have hN : ∀ e w, (m65_5 R (e 4) (e 5) (e 6) w) → (thenE (W65 k65_5 Q) Q) .normal e w := fun e w h => then_N (s65_5 (R := R) (Q := Q) hR e w h)
  exact rgA 12 (fun e w => m65_5 R (e 4) (e 5) (e 6) w) h hN
theorem s65_8 {R : VP} {K1 : (Value × Value × Value) → World → Prop} {Q : EQ} (hN : ∀ e w, (K1 ((e 0), (e 7), (e 18)) w) → Q .normal e w) (hR : ∀ e w, (R (Value.tuple #[(e 4), (e 5), (e 6)]) w) → Q .ret e w) (hX0 : ∀ e w, (m65_4 R (e 0) (e 7) w) → Q (.exit 0) e w) (e : Env) (w : World) (h : m65_8 R K1 (e 0) (e 7) (e 17) (e 18) (e 19) w) : W65 k65_8 Q e w := by
  unfold m65_8 at h
  refine seA ?_
  have hN : ∀ e w, (m65_9 R K1 (e 0) (e 7) (e 17) (e 18) w) → (thenE (W65 k65_9 Q) Q) .normal e w := fun e w h => then_N (s65_9 (R := R) (Q := Q) (K1 := K1) hN hR e w h)
  have hX0 : ∀ e w, (m65_4 R (e 0) (e 7) w) → (thenE (W65 k65_9 Q) Q) (.exit 0) e w := fun e w h => then_X (hX0 e w h)
  refine coA (Operand.tmp 19) h (fun h1 => ?_) (fun h1 => ?_)
  · exact skA (hN _ _ h1)
  · exact exA 0 (hX0 _ _ h1)
theorem s65_7 {R : VP} {K1 : (Value × Value × Value) → World → Prop} {Q : EQ} (hN : ∀ e w, (K1 ((e 0), (e 7), (e 18)) w) → Q .normal e w) (hR : ∀ e w, (R (Value.tuple #[(e 4), (e 5), (e 6)]) w) → Q .ret e w) (hX0 : ∀ e w, (m65_4 R (e 0) (e 7) w) → Q (.exit 0) e w) (e : Env) (w : World) (h : m65_7 R K1 (e 0) (e 7) (e 17) (e 18) w) : W65 k65_7 Q e w := by
  unfold m65_7 at h
  refine seA ?_
  have hN : ∀ e w, (m65_8 R K1 (e 0) (e 7) (e 17) (e 18) (e 19) w) → (thenE (W65 k65_8 Q) Q) .normal e w := fun e w h => then_N (s65_8 (R := R) (Q := Q) (K1 := K1) hN hR hX0 e w h)
  exact rgA 5 (fun e w => m65_8 R K1 (e 0) (e 7) (e 17) (e 18) (e 19) w) h hN
theorem s65_6 {R : VP} {Q : EQ} (hN : ∀ e w, (m65_4 R (e 0) (e 7) w) → Q .normal e w) (hR : ∀ e w, (R (Value.tuple #[(e 4), (e 5), (e 6)]) w) → Q .ret e w) (e : Env) (w : World) (h : m65_6 R (e 0) (e 7) (e 17) (e 18) w) : W65 k65_6 Q e w := by
  unfold m65_6 at h
  refine block_ok 0 (by kernel_rfl) ?_
  have hX0 : ∀ e w, (m65_4 R (e 0) (e 7) w) → (inBlockE 0 Q) (.exit 0) e w := fun e w h => inBlock_same (Q := Q) 0 (hN e w h)
  have hR : ∀ e w, (R (Value.tuple #[(e 4), (e 5), (e 6)]) w) → (inBlockE 0 Q) .ret e w := fun e w h => block_R (hR e w h)
  refine loop_ok' (fun (e : Env) => (e 0, e 7, e 18)) [17] (by kernel_rfl) (by kernel_rfl) h (fun K e' w' hk h' => ?_)
  have r17 : e' 17 = e 17 := hk 17 (by decide)
  have hR : ∀ e w, (R (Value.tuple #[(e 4), (e 5), (e 6)]) w) → (thenE (fun (e : Env) w => K ((e 0), (e 7), (e 18)) w) (inBlockE 0 Q)) .ret e w := fun e w h => then_R (hR e w h)
  have hX0 : ∀ e w, (m65_4 R (e 0) (e 7) w) → (thenE (fun (e : Env) w => K ((e 0), (e 7), (e 18)) w) (inBlockE 0 Q)) (.exit 0) e w := fun e w h => then_X (hX0 e w h)
  exact s65_7 (R := R) (Q := (thenE (fun (e : Env) w => K ((e 0), (e 7), (e 18)) w) (inBlockE 0 Q))) (K1 := K) (fun _ _ h => then_N h) hR hX0 e' w' (by rw [r17]; exact h')
theorem s65_3 {R : VP} {Q : EQ} (hR : ∀ e w, (R (Value.tuple #[(e 4), (e 5), (e 6)]) w) → Q .ret e w) (e : Env) (w : World) (h : m65_3 R (e 0) (e 1) (e 7) w) : W65 k65_3 Q e w := by
  unfold m65_3 at h
  refine seA ?_
  have hN : ∀ e w, (m65_4 R (e 0) (e 7) w) → (thenE (W65 k65_4 Q) Q) .normal e w := fun e w h => then_N (s65_4 (R := R) (Q := Q) hR e w h)
  have hR : ∀ e w, (R (Value.tuple #[(e 4), (e 5), (e 6)]) w) → (thenE (W65 k65_4 Q) Q) .ret e w := fun e w h => then_R (hR e w h)
  refine seA ?_
  have hN : ∀ e w, (m65_6 R (e 0) (e 7) (e 17) (e 18) w) → (thenE (W65 k65_6 (thenE (W65 k65_4 Q) Q)) (thenE (W65 k65_4 Q) Q)) .normal e w := fun e w h => then_N (s65_6 (R := R) (Q := (thenE (W65 k65_4 Q) Q)) hN hR e w h)
  exact rgA 4 (fun e w => m65_6 R (e 0) (e 7) (e 17) (e 18) w) h hN
theorem s65_2 {R : VP} {Q : EQ} (hR : ∀ e w, (R (Value.tuple #[(e 4), (e 5), (e 6)]) w) → Q .ret e w) (e : Env) (w : World) (h : m65_2 R (e 0) (e 1) w) : W65 k65_2 Q e w := by
  unfold m65_2 at h
  refine seA ?_
  have hN : ∀ e w, (m65_3 R (e 0) (e 1) (e 7) w) → (thenE (W65 k65_3 Q) Q) .normal e w := fun e w h => then_N (s65_3 (R := R) (Q := Q) hR e w h)
  exact rgA 3 (fun e w => m65_3 R (e 0) (e 1) (e 7) w) h hN
theorem s65_16 {R : VP} {Q : EQ} (hN : ∀ e w, (m65_2 R (e 0) (e 1) w) → Q .normal e w) (hR : ∀ e w, (R (Value.tuple #[(e 4), (e 5), (e 6)]) w) → Q .ret e w) (e : Env) (w : World) (h : m65_16 R (e 0) (e 1) (e 16) w) : W65 k65_16 Q e w := by
  unfold m65_16 at h
  refine coA (Operand.tmp 16) h (fun h1 => ?_) (fun h1 => ?_)
  · refine seA ?_
    have hN : ∀ e w, (m65_17 R (e 4) (e 5) (e 6) w) → (thenE (W65 k65_17 Q) Q) .normal e w := fun e w h => then_N (s65_17 (R := R) (Q := Q) hR e w h)
    exact rgA 2 (fun e w => m65_17 R (e 4) (e 5) (e 6) w) h1 hN
  · exact skA (hN _ _ h1)
theorem s65_1 {R : VP} {Q : EQ} (hR : ∀ e w, (R (Value.tuple #[(e 4), (e 5), (e 6)]) w) → Q .ret e w) (e : Env) (w : World) (h : m65_1 R (e 0) (e 1) w) : W65 k65_1 Q e w := by
  unfold m65_1 at h
  refine seA ?_
  have hN : ∀ e w, (m65_2 R (e 0) (e 1) w) → (thenE (W65 k65_2 Q) Q) .normal e w := fun e w h => then_N (s65_2 (R := R) (Q := Q) hR e w h)
  have hR : ∀ e w, (R (Value.tuple #[(e 4), (e 5), (e 6)]) w) → (thenE (W65 k65_2 Q) Q) .ret e w := fun e w h => then_R (hR e w h)
  refine seA ?_
  have hN : ∀ e w, (m65_16 R (e 0) (e 1) (e 16) w) → (thenE (W65 k65_16 (thenE (W65 k65_2 Q) Q)) (thenE (W65 k65_2 Q) Q)) .normal e w := fun e w h => then_N (s65_16 (R := R) (Q := (thenE (W65 k65_2 Q) Q)) hN hR e w h)
  exact rgA 1 (fun e w => m65_16 R (e 0) (e 1) (e 16) w) h hN
theorem s65_0 {R : VP} {Q : EQ} (hR : ∀ e w, (R (Value.tuple #[(e 4), (e 5), (e 6)]) w) → Q .ret e w) (e : Env) (w : World) (h : m65_0 R (e 0) (e 1) w) : W65 k65_0 Q e w := by
  unfold m65_0 at h
  refine seA ?_
  have hN : ∀ e w, (m65_1 R (e 0) (e 1) w) → (thenE (W65 k65_1 Q) Q) .normal e w := fun e w h => then_N (s65_1 (R := R) (Q := Q) hR e w h)
  exact rgA 0 (fun e w => m65_1 R (e 0) (e 1) w) h hN
abbrev m65 (R : VP) (s0 n1 : Value) (w : World) : Prop := m65_0 R s0 n1 w
theorem s65 (s0 n1 : Value) {R : VP} {w : World} (h : m65 R s0 n1 w) :
    Calls Try.prog 65 #[s0, n1] w fun e w' => ∃ v, e = .returned v ∧ R v w' :=
  calls_of_cwp (st := (fun i => 0)) (c := k65_0) (by kernel_rfl) Try.func65 (by kernel_rfl) (Nat.le_of_ble_eq_true (by kernel_rfl)) (by kernel_rfl)
    (s65_0 (R := R) (Q := endE Try.prog Try.f65 R) (fun e w h => kcast (by kernel_rfl) h) (argsE #[s0, n1]) w (kcast (by kernel_rfl) h))
/-! ### headgate/varint.TakeText -/
def m66_6 (R : VP) (t4 t5 t6 : Value) (w : World) : Prop :=
  R (Value.tuple #[t4, t5, t6]) w
def m66_4 (R : VP) (t4 t5 t6 : Value) (w : World) : Prop :=
  R (Value.tuple #[t4, t5, t6]) w
def m66_3 (R : VP) (n7 rest8 : Value) (w : World) : Prop :=
  valQ Try.prog (Instr.sliceAt 9 rest8 none (some n7) none) w fun t35 =>
  valQ Try.prog (Instr.sliceAt 9 rest8 (some n7) none none) w fun t38 =>
  anyDraw w fun w =>
  m66_4 R t35 t38 (Value.int IntKind.i64 0) w
def m66_5 (R : VP) (n7 rest8 t32 : Value) (w : World) : Prop :=
  condP t32
  (m66_6 R (Value.string ⟨#[]⟩) (Value.string ⟨#[]⟩) (Value.int IntKind.i64 2) w)
  (m66_3 R n7 rest8 w)
def m66_2 (R : VP) (most1 n7 rest8 e9 : Value) (w : World) : Prop :=
  valP Try.prog (binS BinOp.neq 42 (Operand.tmp 16) (Operand.const (Value.int IntKind.i64 0)) e9 (Value.int IntKind.i64 0)) w fun t17 w =>
  condP t17
  (pickP t17 (Value.bool true) undef fun t21 =>
  condP t21
  (pickP t21 (Value.bool true) undef fun t26 =>
  condP t26
  (pickP t26 (Value.bool true) undef fun t32 =>
  m66_5 R n7 rest8 t32 w)
  (builtinP Try.prog Builtin.len #[9] 3 #[false] #[rest8] w fun t30 w =>
  valP Try.prog (binS BinOp.gtr 3 (Operand.tmp 28) (Operand.tmp 30) n7 t30) w fun t31 w =>
  pickP t26 (Value.bool true) t31 fun t32 =>
  m66_5 R n7 rest8 t32 w))
  (valP Try.prog (binS BinOp.gtr 3 (Operand.tmp 23) (Operand.tmp 24) n7 most1) w fun t25 w =>
  pickP t21 (Value.bool true) t25 fun t26 =>
  condP t26
  (pickP t26 (Value.bool true) undef fun t32 =>
  m66_5 R n7 rest8 t32 w)
  (builtinP Try.prog Builtin.len #[9] 3 #[false] #[rest8] w fun t30 w =>
  valP Try.prog (binS BinOp.gtr 3 (Operand.tmp 28) (Operand.tmp 30) n7 t30) w fun t31 w =>
  pickP t26 (Value.bool true) t31 fun t32 =>
  m66_5 R n7 rest8 t32 w)))
  (valP Try.prog (binS BinOp.lss 3 (Operand.tmp 19) (Operand.const (Value.int IntKind.i64 0)) n7 (Value.int IntKind.i64 0)) w fun t20 w =>
  pickP t17 (Value.bool true) t20 fun t21 =>
  condP t21
  (pickP t21 (Value.bool true) undef fun t26 =>
  condP t26
  (pickP t26 (Value.bool true) undef fun t32 =>
  m66_5 R n7 rest8 t32 w)
  (builtinP Try.prog Builtin.len #[9] 3 #[false] #[rest8] w fun t30 w =>
  valP Try.prog (binS BinOp.gtr 3 (Operand.tmp 28) (Operand.tmp 30) n7 t30) w fun t31 w =>
  pickP t26 (Value.bool true) t31 fun t32 =>
  m66_5 R n7 rest8 t32 w))
  (valP Try.prog (binS BinOp.gtr 3 (Operand.tmp 23) (Operand.tmp 24) n7 most1) w fun t25 w =>
  pickP t21 (Value.bool true) t25 fun t26 =>
  condP t26
  (pickP t26 (Value.bool true) undef fun t32 =>
  m66_5 R n7 rest8 t32 w)
  (builtinP Try.prog Builtin.len #[9] 3 #[false] #[rest8] w fun t30 w =>
  valP Try.prog (binS BinOp.gtr 3 (Operand.tmp 28) (Operand.tmp 30) n7 t30) w fun t31 w =>
  pickP t26 (Value.bool true) t31 fun t32 =>
  m66_5 R n7 rest8 t32 w)))
def m66_1 (R : VP) (s0 most1 : Value) (w : World) : Prop :=
  callP Try.prog (fnV 40) #[s0] w fun t12 w =>
  valP Try.prog (Instr.extract t12 0) w fun t13 w =>
  valP Try.prog (Instr.extract t12 1) w fun t14 w =>
  valP Try.prog (Instr.extract t12 2) w fun t15 w =>
  m66_2 R most1 t13 t14 t15 w
def m66_0 (R : VP) (s0 most1 : Value) (w : World) : Prop :=
  m66_1 R s0 most1 w
abbrev W66 := cwp Try.prog (fun i => cond (Nat.beq i 4) 1 (0))
noncomputable def k66_0 : Code := (bodyOf Try.f66)
noncomputable def k66_1 : Code := (c2 k66_0)
noncomputable def k66_2 : Code := (c2 k66_1)
noncomputable def k66_3 : Code := (c2 k66_2)
noncomputable def k66_4 : Code := (c2 k66_3)
noncomputable def k66_5 : Code := (c2 (c1 k66_2))
noncomputable def k66_6 : Code := (c2 (c1 k66_5))
theorem s66_6 {R : VP} {Q : EQ} (hR : ∀ e w, (R (Value.tuple #[(e 4), (e 5), (e 6)]) w) → Q .ret e w) (e : Env) (w : World) (h : m66_6 R (e 4) (e 5) (e 6) w) : W66 k66_6 Q e w := by
  unfold m66_6 at h
  exact reA (hR _ _ h)
theorem s66_4 {R : VP} {Q : EQ} (hR : ∀ e w, (R (Value.tuple #[(e 4), (e 5), (e 6)]) w) → Q .ret e w) (e : Env) (w : World) (h : m66_4 R (e 4) (e 5) (e 6) w) : W66 k66_4 Q e w := by
  unfold m66_4 at h
  exact reA (hR _ _ h)
theorem s66_3 {R : VP} {Q : EQ} (hR : ∀ e w, (R (Value.tuple #[(e 4), (e 5), (e 6)]) w) → Q .ret e w) (e : Env) (w : World) (h : m66_3 R (e 7) (e 8) w) : W66 k66_3 Q e w := by
  unfold m66_3 at h
  refine seA ?_
  have hN : ∀ e w, (m66_4 R (e 4) (e 5) (e 6) w) → (thenE (W66 k66_4 Q) Q) .normal e w := fun e w h => then_N (s66_4 (R := R) (Q := Q) hR e w h)
  exact quA 4 (fun e w => m66_4 R (e 4) (e 5) (e 6) w) h hN
theorem s66_5 {R : VP} {Q : EQ} (hN : ∀ e w, (m66_3 R (e 7) (e 8) w) → Q .normal e w) (hR : ∀ e w, (R (Value.tuple #[(e 4), (e 5), (e 6)]) w) → Q .ret e w) (e : Env) (w : World) (h : m66_5 R (e 7) (e 8) (e 32) w) : W66 k66_5 Q e w := by
  unfold m66_5 at h
  refine coA (Operand.tmp 32) h (fun h1 => ?_) (fun h1 => ?_)
  · refine seA ?_
    have hN : ∀ e w, (m66_6 R (e 4) (e 5) (e 6) w) → (thenE (W66 k66_6 Q) Q) .normal e w := fun e w h => then_N (s66_6 (R := R) (Q := Q) hR e w h)
    exact rgA 3 (fun e w => m66_6 R (e 4) (e 5) (e 6) w) h1 hN
  · exact skA (hN _ _ h1)
theorem s66_2 {R : VP} {Q : EQ} (hR : ∀ e w, (R (Value.tuple #[(e 4), (e 5), (e 6)]) w) → Q .ret e w) (e : Env) (w : World) (h : m66_2 R (e 1) (e 7) (e 8) (e 9) w) : W66 k66_2 Q e w := by
  unfold m66_2 at h
  refine seA ?_
  have hN : ∀ e w, (m66_3 R (e 7) (e 8) w) → (thenE (W66 k66_3 Q) Q) .normal e w := fun e w h => then_N (s66_3 (R := R) (Q := Q) hR e w h)
  have hR : ∀ e w, (R (Value.tuple #[(e 4), (e 5), (e 6)]) w) → (thenE (W66 k66_3 Q) Q) .ret e w := fun e w h => then_R (hR e w h)
  refine seA ?_
  have hN : ∀ e w, (m66_5 R (e 7) (e 8) (e 32) w) → (thenE (W66 k66_5 (thenE (W66 k66_3 Q) Q)) (thenE (W66 k66_3 Q) Q)) .normal e w := fun e w h => then_N (s66_5 (R := R) (Q := (thenE (W66 k66_3 Q) Q)) hN hR e w h)
  exact rgA 2 (fun e w => m66_5 R (e 7) (e 8) (e 32) w) h hN
theorem s66_1 {R : VP} {Q : EQ} (hR : ∀ e w, (R (Value.tuple #[(e 4), (e 5), (e 6)]) w) → Q .ret e w) (e : Env) (w : World) (h : m66_1 R (e 0) (e 1) w) : W66 k66_1 Q e w := by
  unfold m66_1 at h
  refine seA ?_
  have hN : ∀ e w, (m66_2 R (e 1) (e 7) (e 8) (e 9) w) → (thenE (W66 k66_2 Q) Q) .normal e w := fun e w h => then_N (s66_2 (R := R) (Q := Q) hR e w h)
  exact rgA 1 (fun e w => m66_2 R (e 1) (e 7) (e 8) (e 9) w) h hN
theorem s66_0 {R : VP} {Q : EQ} (hR : ∀ e w, (R (Value.tuple #[(e 4), (e 5), (e 6)]) w) → Q .ret e w) (e : Env) (w : World) (h : m66_0 R (e 0) (e 1) w) : W66 k66_0 Q e w := by
  unfold m66_0 at h
  refine seA ?_
  have hN : ∀ e w, (m66_1 R (e 0) (e 1) w) → (thenE (W66 k66_1 Q) Q) .normal e w := fun e w h => then_N (s66_1 (R := R) (Q := Q) hR e w h)
  exact rgA 0 (fun e w => m66_1 R (e 0) (e 1) w) h hN
abbrev m66 (R : VP) (s0 most1 : Value) (w : World) : Prop := m66_0 R s0 most1 w
theorem s66 (s0 most1 : Value) {R : VP} {w : World} (h : m66 R s0 most1 w) :
    Calls Try.prog 66 #[s0, most1] w fun e w' => ∃ v, e = .returned v ∧ R v w' :=
  calls_of_cwp (st := (fun i => cond (Nat.beq i 4) 1 (0))) (c := k66_0) (by kernel_rfl) Try.func66 (by kernel_rfl) (Nat.le_of_ble_eq_true (by kernel_rfl)) (by kernel_rfl)
    (s66_0 (R := R) (Q := endE Try.prog Try.f66 R) (fun e w h => kcast (by kernel_rfl) h) (argsE #[s0, most1]) w (kcast (by kernel_rfl) h))
/-! ### headgate/headgateref01.TakeText -/
def m68_6 (R : VP) (t4 t5 t6 : Value) (w : World) : Prop :=
  R (Value.tuple #[t4, t5, t6]) w
def m68_4 (R : VP) (t4 t5 t6 : Value) (w : World) : Prop :=
  R (Value.tuple #[t4, t5, t6]) w
def m68_3 (R : VP) (n7 rest8 : Value) (w : World) : Prop :=
  valQ Try.prog (Instr.sliceAt 9 rest8 none (some n7) none) w fun t35 =>
  valQ Try.prog (Instr.sliceAt 9 rest8 (some n7) none none) w fun t38 =>
  anyDraw w fun w =>
  m68_4 R t35 t38 (Value.int IntKind.i64 0) w
def m68_5 (R : VP) (n7 rest8 t32 : Value) (w : World) : Prop :=
  condP t32
  (m68_6 R (Value.string ⟨#[]⟩) (Value.string ⟨#[]⟩) (Value.int IntKind.i64 2) w)
  (m68_3 R n7 rest8 w)
def m68_2 (R : VP) (most1 n7 rest8 e9 : Value) (w : World) : Prop :=
  valP Try.prog (binS BinOp.neq 3 (Operand.tmp 16) (Operand.const (Value.int IntKind.i64 0)) e9 (Value.int IntKind.i64 0)) w fun t17 w =>
  condP t17
  (pickP t17 (Value.bool true) undef fun t21 =>
  condP t21
  (pickP t21 (Value.bool true) undef fun t26 =>
  condP t26
  (pickP t26 (Value.bool true) undef fun t32 =>
  m68_5 R n7 rest8 t32 w)
  (builtinP Try.prog Builtin.len #[9] 3 #[false] #[rest8] w fun t30 w =>
  valP Try.prog (binS BinOp.gtr 3 (Operand.tmp 28) (Operand.tmp 30) n7 t30) w fun t31 w =>
  pickP t26 (Value.bool true) t31 fun t32 =>
  m68_5 R n7 rest8 t32 w))
  (valP Try.prog (binS BinOp.gtr 3 (Operand.tmp 23) (Operand.tmp 24) n7 most1) w fun t25 w =>
  pickP t21 (Value.bool true) t25 fun t26 =>
  condP t26
  (pickP t26 (Value.bool true) undef fun t32 =>
  m68_5 R n7 rest8 t32 w)
  (builtinP Try.prog Builtin.len #[9] 3 #[false] #[rest8] w fun t30 w =>
  valP Try.prog (binS BinOp.gtr 3 (Operand.tmp 28) (Operand.tmp 30) n7 t30) w fun t31 w =>
  pickP t26 (Value.bool true) t31 fun t32 =>
  m68_5 R n7 rest8 t32 w)))
  (valP Try.prog (binS BinOp.lss 3 (Operand.tmp 19) (Operand.const (Value.int IntKind.i64 0)) n7 (Value.int IntKind.i64 0)) w fun t20 w =>
  pickP t17 (Value.bool true) t20 fun t21 =>
  condP t21
  (pickP t21 (Value.bool true) undef fun t26 =>
  condP t26
  (pickP t26 (Value.bool true) undef fun t32 =>
  m68_5 R n7 rest8 t32 w)
  (builtinP Try.prog Builtin.len #[9] 3 #[false] #[rest8] w fun t30 w =>
  valP Try.prog (binS BinOp.gtr 3 (Operand.tmp 28) (Operand.tmp 30) n7 t30) w fun t31 w =>
  pickP t26 (Value.bool true) t31 fun t32 =>
  m68_5 R n7 rest8 t32 w))
  (valP Try.prog (binS BinOp.gtr 3 (Operand.tmp 23) (Operand.tmp 24) n7 most1) w fun t25 w =>
  pickP t21 (Value.bool true) t25 fun t26 =>
  condP t26
  (pickP t26 (Value.bool true) undef fun t32 =>
  m68_5 R n7 rest8 t32 w)
  (builtinP Try.prog Builtin.len #[9] 3 #[false] #[rest8] w fun t30 w =>
  valP Try.prog (binS BinOp.gtr 3 (Operand.tmp 28) (Operand.tmp 30) n7 t30) w fun t31 w =>
  pickP t26 (Value.bool true) t31 fun t32 =>
  m68_5 R n7 rest8 t32 w)))
def m68_1 (R : VP) (s0 most1 : Value) (w : World) : Prop :=
  callP Try.prog (fnV 43) #[s0] w fun t12 w =>
  valP Try.prog (Instr.extract t12 0) w fun t13 w =>
  valP Try.prog (Instr.extract t12 1) w fun t14 w =>
  valP Try.prog (Instr.extract t12 2) w fun t15 w =>
  m68_2 R most1 t13 t14 t15 w
def m68_0 (R : VP) (s0 most1 : Value) (w : World) : Prop :=
  m68_1 R s0 most1 w
abbrev W68 := cwp Try.prog (fun i => cond (Nat.beq i 4) 1 (0))
noncomputable def k68_0 : Code := (bodyOf Try.f68)
noncomputable def k68_1 : Code := (c2 k68_0)
noncomputable def k68_2 : Code := (c2 k68_1)
noncomputable def k68_3 : Code := (c2 k68_2)
noncomputable def k68_4 : Code := (c2 k68_3)
noncomputable def k68_5 : Code := (c2 (c1 k68_2))
noncomputable def k68_6 : Code := (c2 (c1 k68_5))
theorem s68_6 {R : VP} {Q : EQ} (hR : ∀ e w, (R (Value.tuple #[(e 4), (e 5), (e 6)]) w) → Q .ret e w) (e : Env) (w : World) (h : m68_6 R (e 4) (e 5) (e 6) w) : W68 k68_6 Q e w := by
  unfold m68_6 at h
  exact reA (hR _ _ h)
theorem s68_4 {R : VP} {Q : EQ} (hR : ∀ e w, (R (Value.tuple #[(e 4), (e 5), (e 6)]) w) → Q .ret e w) (e : Env) (w : World) (h : m68_4 R (e 4) (e 5) (e 6) w) : W68 k68_4 Q e w := by
  unfold m68_4 at h
  exact reA (hR _ _ h)
theorem s68_3 {R : VP} {Q : EQ} (hR : ∀ e w, (R (Value.tuple #[(e 4), (e 5), (e 6)]) w) → Q .ret e w) (e : Env) (w : World) (h : m68_3 R (e 7) (e 8) w) : W68 k68_3 Q e w := by
  unfold m68_3 at h
  refine seA ?_
  have hN : ∀ e w, (m68_4 R (e 4) (e 5) (e 6) w) → (thenE (W68 k68_4 Q) Q) .normal e w := fun e w h => then_N (s68_4 (R := R) (Q := Q) hR e w h)
  exact quA 4 (fun e w => m68_4 R (e 4) (e 5) (e 6) w) h hN
theorem s68_5 {R : VP} {Q : EQ} (hN : ∀ e w, (m68_3 R (e 7) (e 8) w) → Q .normal e w) (hR : ∀ e w, (R (Value.tuple #[(e 4), (e 5), (e 6)]) w) → Q .ret e w) (e : Env) (w : World) (h : m68_5 R (e 7) (e 8) (e 32) w) : W68 k68_5 Q e w := by
  unfold m68_5 at h
  refine coA (Operand.tmp 32) h (fun h1 => ?_) (fun h1 => ?_)
  · refine seA ?_
    have hN : ∀ e w, (m68_6 R (e 4) (e 5) (e 6) w) → (thenE (W68 k68_6 Q) Q) .normal e w := fun e w h => then_N (s68_6 (R := R) (Q := Q) hR e w h)
    exact rgA 3 (fun e w => m68_6 R (e 4) (e 5) (e 6) w) h1 hN
  · exact skA (hN _ _ h1)
theorem s68_2 {R : VP} {Q : EQ} (hR : ∀ e w, (R (Value.tuple #[(e 4), (e 5), (e 6)]) w) → Q .ret e w) (e : Env) (w : World) (h : m68_2 R (e 1) (e 7) (e 8) (e 9) w) : W68 k68_2 Q e w := by
  unfold m68_2 at h
  refine seA ?_
  have hN : ∀ e w, (m68_3 R (e 7) (e 8) w) → (thenE (W68 k68_3 Q) Q) .normal e w := fun e w h => then_N (s68_3 (R := R) (Q := Q) hR e w h)
  have hR : ∀ e w, (R (Value.tuple #[(e 4), (e 5), (e 6)]) w) → (thenE (W68 k68_3 Q) Q) .ret e w := fun e w h => then_R (hR e w h)
  refine seA ?_
  have hN : ∀ e w, (m68_5 R (e 7) (e 8) (e 32) w) → (thenE (W68 k68_5 (thenE (W68 k68_3 Q) Q)) (thenE (W68 k68_3 Q) Q)) .normal e w := fun e w h => then_N (s68_5 (R := R) (Q := (thenE (W68 k68_3 Q) Q)) hN hR e w h)
  exact rgA 2 (fun e w => m68_5 R (e 7) (e 8) (e 32) w) h hN
theorem s68_1 {R : VP} {Q : EQ} (hR : ∀ e w, (R (Value.tuple #[(e 4), (e 5), (e 6)]) w) → Q .ret e w) (e : Env) (w : World) (h : m68_1 R (e 0) (e 1) w) : W68 k68_1 Q e w := by
  unfold m68_1 at h
  refine seA ?_
  have hN : ∀ e w, (m68_2 R (e 1) (e 7) (e 8) (e 9) w) → (thenE (W68 k68_2 Q) Q) .normal e w := fun e w h => then_N (s68_2 (R := R) (Q := Q) hR e w h)
  exact rgA 1 (fun e w => m68_2 R (e 1) (e 7) (e 8) (e 9) w) h hN
theorem s68_0 {R : VP} {Q : EQ} (hR : ∀ e w, (R (Value.tuple #[(e 4), (e 5), (e 6)]) w) → Q .ret e w) (e : Env) (w : World) (h : m68_0 R (e 0) (e 1) w) : W68 k68_0 Q e w := by
  unfold m68_0 at h
  refine seA ?_
  have hN : ∀ e w, (m68_1 R (e 0) (e 1) w) → (thenE (W68 k68_1 Q) Q) .normal e w := fun e w h => then_N (s68_1 (R := R) (Q := Q) hR e w h)
  exact rgA 0 (fun e w => m68_1 R (e 0) (e 1) w) h hN
abbrev m68 (R : VP) (s0 most1 : Value) (w : World) : Prop := m68_0 R s0 most1 w
theorem s68 (s0 most1 : Value) {R : VP} {w : World} (h : m68 R s0 most1 w) :
    Calls Try.prog 68 #[s0, most1] w fun e w' => ∃ v, e = .returned v ∧ R v w' :=
  calls_of_cwp (st := (fun i => cond (Nat.beq i 4) 1 (0))) (c := k68_0) (by kernel_rfl) Try.func68 (by kernel_rfl) (Nat.le_of_ble_eq_true (by kernel_rfl)) (by kernel_rfl)
    (s68_0 (R := R) (Q := endE Try.prog Try.f68 R) (fun e w h => kcast (by kernel_rfl) h) (argsE #[s0, most1]) w (kcast (by kernel_rfl) h))
/-! ### headgate/batch.PutRecord -/
def m33_2 (R : VP) (t2 : Value) (w : World) : Prop :=
  R t2 w
def m33_1 (R : VP) (r1 : Value) (w : World) : Prop :=
  anyDraw w fun w =>
  heldP w fun J =>
  valJ Try.prog J (Instr.fieldAt 38 r1 0) fun t3 =>
  valJ Try.prog J (Instr.loadAt 3 t3) fun t4 =>
  valJ Try.prog J (Instr.fieldAt 38 r1 1) fun t5 =>
  valJ Try.prog J (Instr.loadAt 3 t5) fun t6 =>
  valJ Try.prog J (Instr.fieldAt 38 r1 2) fun t9 =>
  valJ Try.prog J (Instr.loadAt 9 t9) fun t10 =>
  valP Try.prog (Instr.buildSlice 63 2 #[(0, t4), (1, t6)]) w fun t7 w =>
  stayP J w
  (callP Try.prog (fnV 58) #[t7] w fun t8 w =>
  stayP J w
  (callP Try.prog (fnV 59) #[t10] w fun t11 w =>
  stayP J w
  (valJ Try.prog J (binS BinOp.add 9 (Operand.tmp 8) (Operand.tmp 11) t8 t11) fun t12 =>
  m33_2 R t12 w)))
def m33_0 (R : VP) (r0 : Value) (w : World) : Prop :=
  valP Try.prog (Instr.box 38 r0) w fun r1 w =>
  m33_1 R r1 w
abbrev W33 := cwp Try.prog (fun i => 0)
noncomputable def k33_0 : Code := (bodyOf Try.f33)
noncomputable def k33_1 : Code := (c2 k33_0)
noncomputable def k33_2 : Code := (c2 k33_1)
theorem s33_2 {R : VP} {Q : EQ} (hR : ∀ e w, (R (e 2) w) → Q .ret e w) (e : Env) (w : World) (h : m33_2 R (e 2) w) : W33 k33_2 Q e w := by
  unfold m33_2 at h
  exact reA (hR _ _ h)
theorem s33_1 {R : VP} {Q : EQ} (hR : ∀ e w, (R (e 2) w) → Q .ret e w) (e : Env) (w : World) (h : m33_1 R (e 1) w) : W33 k33_1 Q e w := by
  unfold m33_1 at h
  refine seA ?_
  have hN : ∀ e w, (m33_2 R (e 2) w) → (thenE (W33 k33_2 Q) Q) .normal e w := fun e w h => then_N (s33_2 (R := R) (Q := Q) hR e w h)
  exact treeJ_ok 1 11 [false, false, false, false, false, false, false, false, false, false, false] (.take 0 [true, false, false, false, false, false, false, false, false, false, false] (.take 1 [true, true, false, false, false, false, false, false, false, false, false] (.take 2 [true, true, true, false, false, false, false, false, false, false, false] (.take 3 [true, true, true, true, false, false, false, false, false, false, false] (.take 6 [true, true, true, true, false, false, true, false, false, false, false] (.take 7 [true, true, true, true, false, false, true, true, false, false, false] (.alt 4 [true, true, true, true, true, false, true, true, false, false, false] (.alt 5 [true, true, true, true, true, true, true, true, false, false, false] (.alt 8 [true, true, true, true, true, true, true, true, true, false, false] (.take 9 [true, true, true, true, true, true, true, true, true, true, false] (.take 10 [true, true, true, true, true, true, true, true, true, true, true] .done)) .stop) .stop) .stop))))))) (fun e w => m33_2 R (e 2) w) (by kernel_rfl) (by kernel_rfl) (by kernel_rfl) (by kernel_rfl) (by kernel_rfl) (by kernel_rfl) (kcast (by kernel_rfl) h) hN (by kernel_rfl)
theorem s33_0 {R : VP} {Q : EQ} (hR : ∀ e w, (R (e 2) w) → Q .ret e w) (e : Env) (w : World) (h : m33_0 R (e 0) w) : W33 k33_0 Q e w := by
  unfold m33_0 at h
  refine seA ?_
  have hN : ∀ e w, (m33_1 R (e 1) w) → (thenE (W33 k33_1 Q) Q) .normal e w := fun e w h => then_N (s33_1 (R := R) (Q := Q) hR e w h)
  exact rgA 0 (fun e w => m33_1 R (e 1) w) h hN
abbrev m33 (R : VP) (r0 : Value) (w : World) : Prop := m33_0 R r0 w
theorem s33 (r0 : Value) {R : VP} {w : World} (h : m33 R r0 w) :
    Calls Try.prog 33 #[r0] w fun e w' => ∃ v, e = .returned v ∧ R v w' :=
  calls_of_cwp (st := (fun i => 0)) (c := k33_0) (by kernel_rfl) Try.func33 (by kernel_rfl) (Nat.le_of_ble_eq_true (by kernel_rfl)) (by kernel_rfl)
    (s33_0 (R := R) (Q := endE Try.prog Try.f33 R) (fun e w h => kcast (by kernel_rfl) h) (argsE #[r0]) w (kcast (by kernel_rfl) h))
/-! ### headgate/headgateref06.Record -/
def m37_2 (R : VP) (t2 : Value) (w : World) : Prop :=
  R t2 w
def m37_1 (R : VP) (r1 : Value) (w : World) : Prop :=
  anyDraw w fun w =>
  heldP w fun J =>
  valJ Try.prog J (Instr.fieldAt 38 r1 0) fun t3 =>
  valJ Try.prog J (Instr.loadAt 3 t3) fun t4 =>
  valJ Try.prog J (Instr.fieldAt 38 r1 1) fun t6 =>
  valJ Try.prog J (Instr.loadAt 3 t6) fun t7 =>
  valJ Try.prog J (Instr.fieldAt 38 r1 2) fun t10 =>
  valJ Try.prog J (Instr.loadAt 9 t10) fun t11 =>
  callP Try.prog (fnV 26) #[t4] w fun t5 w =>
  stayP J w
  (callP Try.prog (fnV 26) #[t7] w fun t8 w =>
  stayP J w
  (valJ Try.prog J (binS BinOp.add 9 (Operand.tmp 5) (Operand.tmp 8) t5 t8) fun t9 =>
  callP Try.prog (fnV 62) #[t11] w fun t12 w =>
  stayP J w
  (valJ Try.prog J (binS BinOp.add 9 (Operand.tmp 9) (Operand.tmp 12) t9 t12) fun t13 =>
  m37_2 R t13 w)))
def m37_0 (R : VP) (r0 : Value) (w : World) : Prop :=
  valP Try.prog (Instr.box 38 r0) w fun r1 w =>
  m37_1 R r1 w
abbrev W37 := cwp Try.prog (fun i => 0)
noncomputable def k37_0 : Code := (bodyOf Try.f37)
noncomputable def k37_1 : Code := (c2 k37_0)
noncomputable def k37_2 : Code := (c2 k37_1)
theorem s37_2 {R : VP} {Q : EQ} (hR : ∀ e w, (R (e 2) w) → Q .ret e w) (e : Env) (w : World) (h : m37_2 R (e 2) w) : W37 k37_2 Q e w := by
  unfold m37_2 at h
  exact reA (hR _ _ h)
theorem s37_1 {R : VP} {Q : EQ} (hR : ∀ e w, (R (e 2) w) → Q .ret e w) (e : Env) (w : World) (h : m37_1 R (e 1) w) : W37 k37_1 Q e w := by
  unfold m37_1 at h
  refine seA ?_
  have hN : ∀ e w, (m37_2 R (e 2) w) → (thenE (W37 k37_2 Q) Q) .normal e w := fun e w h => then_N (s37_2 (R := R) (Q := Q) hR e w h)
  exact treeJ_ok 1 12 [false, false, false, false, false, false, false, false, false, false, false, false] (.take 0 [true, false, false, false, false, false, false, false, false, false, false, false] (.take 1 [true, true, false, false, false, false, false, false, false, false, false, false] (.take 3 [true, true, false, true, false, false, false, false, false, false, false, false] (.take 4 [true, true, false, true, true, false, false, false, false, false, false, false] (.take 7 [true, true, false, true, true, false, false, true, false, false, false, false] (.take 8 [true, true, false, true, true, false, false, true, true, false, false, false] (.alt 2 [true, true, true, true, true, false, false, true, true, false, false, false] (.alt 5 [true, true, true, true, true, true, false, true, true, false, false, false] (.take 6 [true, true, true, true, true, true, true, true, true, false, false, false] (.alt 9 [true, true, true, true, true, true, true, true, true, true, false, false] (.take 10 [true, true, true, true, true, true, true, true, true, true, true, false] (.take 11 [true, true, true, true, true, true, true, true, true, true, true, true] .done)) .stop)) .stop) .stop))))))) (fun e w => m37_2 R (e 2) w) (by kernel_rfl) (by kernel_rfl) (by kernel_rfl) (by kernel_rfl) (by kernel_rfl) (by kernel_rfl) (kcast (by kernel_rfl) h) hN (by kernel_rfl)
theorem s37_0 {R : VP} {Q : EQ} (hR : ∀ e w, (R (e 2) w) → Q .ret e w) (e : Env) (w : World) (h : m37_0 R (e 0) w) : W37 k37_0 Q e w := by
  unfold m37_0 at h
  refine seA ?_
  have hN : ∀ e w, (m37_1 R (e 1) w) → (thenE (W37 k37_1 Q) Q) .normal e w := fun e w h => then_N (s37_1 (R := R) (Q := Q) hR e w h)
  exact rgA 0 (fun e w => m37_1 R (e 1) w) h hN
abbrev m37 (R : VP) (r0 : Value) (w : World) : Prop := m37_0 R r0 w
theorem s37 (r0 : Value) {R : VP} {w : World} (h : m37 R r0 w) :
    Calls Try.prog 37 #[r0] w fun e w' => ∃ v, e = .returned v ∧ R v w' :=
  calls_of_cwp (st := (fun i => 0)) (c := k37_0) (by kernel_rfl) Try.func37 (by kernel_rfl) (Nat.le_of_ble_eq_true (by kernel_rfl)) (by kernel_rfl)
    (s37_0 (R := R) (Q := endE Try.prog Try.f37 R) (fun e w h => kcast (by kernel_rfl) h) (argsE #[r0]) w (kcast (by kernel_rfl) h))
/-! ### headgate/batch.TakeRecord -/
def m41_13 (R : VP) (t2 t3 t4 : Value) (w : World) : Prop :=
  valS Try.prog (loadC 38 t2) w fun r0 =>
  R (Value.tuple #[r0, t3, t4]) w
def m41_10 (R : VP) (t2 t3 t4 : Value) (w : World) : Prop :=
  valS Try.prog (loadC 38 t2) w fun r0 =>
  R (Value.tuple #[r0, t3, t4]) w
def m41_8 (R : VP) (t2 t3 t4 : Value) (w : World) : Prop :=
  valS Try.prog (loadC 38 t2) w fun r0 =>
  R (Value.tuple #[r0, t3, t4]) w
def m41_7 (R : VP) (t2 rest6 r9 : Value) (w : World) : Prop :=
  valP Try.prog (Instr.loadAt 38 r9) w fun t45 w =>
  unitP Try.prog (Instr.storeAt 38 t2 t45) w fun _ w =>
  m41_8 R t2 rest6 (Value.int IntKind.i64 0) w
def m41_9 (R : VP) (t2 rest6 r9 t43 : Value) (w : World) : Prop :=
  condP t43
  (valP Try.prog (Instr.build 38 #[]) w fun t44 w =>
  unitP Try.prog (Instr.storeAt 38 t2 t44) w fun _ w =>
  m41_10 R t2 (Value.string ⟨#[]⟩) (Value.int IntKind.i64 2) w)
  (m41_7 R t2 rest6 r9 w)
def m41_6 (R : VP) (t2 rest6 e7 r9 : Value) (w : World) : Prop :=
  valP Try.prog (binS BinOp.neq 42 (Operand.tmp 37) (Operand.const (Value.int IntKind.i64 0)) e7 (Value.int IntKind.i64 0)) w fun t38 w =>
  condP t38
  (pickP t38 (Value.bool true) undef fun t43 =>
  m41_9 R t2 rest6 r9 t43 w)
  (valP Try.prog (Instr.loadAt 38 r9) w fun t40 w =>
  callP Try.prog (fnV 67) #[t40] w fun t41 w =>
  valP Try.prog (Op.unary UnOp.not t41) w fun t42 w =>
  pickP t38 (Value.bool true) t42 fun t43 =>
  m41_9 R t2 rest6 r9 t43 w)
def m41_11 (R : VP) (t2 l5 rest6 e7 t8 r9 t28 : Value) (w : World) : Prop :=
  condP t28
  (anyDraw w fun w =>
  valS Try.prog (Instr.indexAt 63 l5 (Value.int IntKind.i64 0)) w fun t30 =>
  valS Try.prog (Instr.loadAt 3 t30) w fun t31 =>
  valS Try.prog (Instr.indexAt 63 l5 (Value.int IntKind.i64 1)) w fun t33 =>
  valS Try.prog (Instr.loadAt 3 t33) w fun t34 =>
  valS Try.prog (Instr.build 38 #[(0, t31), (1, t34), (2, t8)]) w fun t36 =>
  unitP Try.prog (Instr.storeAt 38 r9 t36) w fun _ w =>
  m41_6 R t2 rest6 e7 r9 w)
  (m41_6 R t2 rest6 e7 r9 w)
def m41_5 (R : VP) (t2 l5 rest6 e7 t8 r9 : Value) (w : World) : Prop :=
  valP Try.prog (binS BinOp.eql 42 (Operand.tmp 27) (Operand.const (Value.int IntKind.i64 0)) e7 (Value.int IntKind.i64 0)) w fun t28 w =>
  m41_11 R t2 l5 rest6 e7 t8 r9 t28 w
def m41_4 (R : VP) (t2 l5 rest6 e7 t8 : Value) (w : World) : Prop :=
  valP Try.prog (Instr.build 38 #[]) w fun t26 w =>
  valP Try.prog (Instr.alloc 38 true (.tuple #[])) w fun r9 w =>
  unitP Try.prog (Instr.storeAt 38 r9 t26) w fun _ w =>
  m41_5 R t2 l5 rest6 e7 t8 r9 w
def m41_3 (R : VP) (t2 l5 rest6 : Value) (w : World) : Prop :=
  callP Try.prog (fnV 66) #[rest6, (Value.int IntKind.i64 512)] w fun t22 w =>
  valP Try.prog (Instr.extract t22 0) w fun t23 w =>
  valP Try.prog (Instr.extract t22 1) w fun t24 w =>
  valP Try.prog (Instr.extract t22 2) w fun t25 w =>
  m41_4 R t2 l5 t24 t25 t23 w
def m41_12 (R : VP) (t2 l5 rest6 e7 t17 : Value) (w : World) : Prop :=
  condP t17
  (valP Try.prog (Instr.build 38 #[]) w fun t18 w =>
  unitP Try.prog (Instr.storeAt 38 t2 t18) w fun _ w =>
  m41_13 R t2 (Value.string ⟨#[]⟩) e7 w)
  (m41_3 R t2 l5 rest6 w)
def m41_2 (R : VP) (t2 l5 rest6 e7 : Value) (w : World) : Prop :=
  valP Try.prog (binS BinOp.neq 42 (Operand.tmp 16) (Operand.const (Value.int IntKind.i64 0)) e7 (Value.int IntKind.i64 0)) w fun t17 w =>
  m41_12 R t2 l5 rest6 e7 t17 w
def m41_1 (R : VP) (s0 t2 : Value) (w : World) : Prop :=
  callP Try.prog (fnV 65) #[s0, (Value.int IntKind.i64 2)] w fun t12 w =>
  valP Try.prog (Instr.extract t12 0) w fun t13 w =>
  valP Try.prog (Instr.extract t12 1) w fun t14 w =>
  valP Try.prog (Instr.extract t12 2) w fun t15 w =>
  m41_2 R t2 t13 t14 t15 w
def m41_0 (R : VP) (s0 : Value) (w : World) : Prop :=
  valP Try.prog (Instr.alloc 38 true (.tuple #[])) w fun t2 w =>
  m41_1 R s0 t2 w
abbrev W41 := cwp Try.prog (fun i => cond (Nat.beq i 7) 10 (0))
noncomputable def k41_0 : Code := (bodyOf Try.f41)
noncomputable def k41_1 : Code := (c2 k41_0)
noncomputable def k41_2 : Code := (c2 k41_1)
noncomputable def k41_3 : Code := (c2 k41_2)
noncomputable def k41_4 : Code := (c2 k41_3)
noncomputable def k41_5 : Code := (c2 k41_4)
noncomputable def k41_6 : Code := (c2 k41_5)
noncomputable def k41_7 : Code := (c2 k41_6)
noncomputable def k41_8 : Code := (c2 k41_7)
noncomputable def k41_9 : Code := (c2 (c1 k41_6))
noncomputable def k41_10 : Code := (c2 (c1 k41_9))
noncomputable def k41_11 : Code := (c2 (c1 k41_5))
noncomputable def k41_12 : Code := (c2 (c1 k41_2))
noncomputable def k41_13 : Code := (c2 (c1 k41_12))
theorem s41_13 {R : VP} {Q : EQ} (hR : ∀ e w, (valS Try.prog (loadC 38 (e 2)) w fun r0 =>
R (Value.tuple #[r0, (e 3), (e 4)]) w) → Q .ret e w) (e : Env) (w : World) (h : m41_13 R (e 2) (e 3) (e 4) w) : W41 k41_13 Q e w := by
  unfold m41_13 at h
  exact reA (hR _ _ h)
theorem s41_10 {R : VP} {Q : EQ} (hR : ∀ e w, (valS Try.prog (loadC 38 (e 2)) w fun r0 =>
R (Value.tuple #[r0, (e 3), (e 4)]) w) → Q .ret e w) (e : Env) (w : World) (h : m41_10 R (e 2) (e 3) (e 4) w) : W41 k41_10 Q e w := by
  unfold m41_10 at h
  exact reA (hR _ _ h)
theorem s41_8 {R : VP} {Q : EQ} (hR : ∀ e w, (valS Try.prog (loadC 38 (e 2)) w fun r0 =>
R (Value.tuple #[r0, (e 3), (e 4)]) w) → Q .ret e w) (e : Env) (w : World) (h : m41_8 R (e 2) (e 3) (e 4) w) : W41 k41_8 Q e w := by
  unfold m41_8 at h
  exact reA (hR _ _ h)
theorem s41_7 {R : VP} {Q : EQ} (hR : ∀ e w, (valS Try.prog (loadC 38 (e 2)) w fun r0 =>
R (Value.tuple #[r0, (e 3), (e 4)]) w) → Q .ret e w) (e : Env) (w : World) (h : m41_7 R (e 2) (e 6) (e 9) w) : W41 k41_7 Q e w := by
  unfold m41_7 at h
  refine seA ?_
  have hN : ∀ e w, (m41_8 R (e 2) (e 3) (e 4) w) → (thenE (W41 k41_8 Q) Q) .normal e w := fun e w h => then_N (s41_8 (R := R) (Q := Q) hR e w h)
  exact rgA 10 (fun e w => m41_8 R (e 2) (e 3) (e 4) w) h hN
theorem s41_9 {R : VP} {Q : EQ} (hN : ∀ e w, (m41_7 R (e 2) (e 6) (e 9) w) → Q .normal e w) (hR : ∀ e w, (valS Try.prog (loadC 38 (e 2)) w fun r0 =>
R (Value.tuple #[r0, (e 3), (e 4)]) w) → Q .ret e w) (e : Env) (w : World) (h : m41_9 R (e 2) (e 6) (e 9) (e 43) w) : W41 k41_9 Q e w := by
  unfold m41_9 at h
  refine coA (Operand.tmp 43) h (fun h1 => ?_) (fun h1 => ?_)
  · refine seA ?_
    have hN : ∀ e w, (m41_10 R (e 2) (e 3) (e 4) w) → (thenE (W41 k41_10 Q) Q) .normal e w := fun e w h => then_N (s41_10 (R := R) (Q := Q) hR e w h)
    exact rgA 9 (fun e w => m41_10 R (e 2) (e 3) (e 4) w) h1 hN
  · exact skA (hN _ _ h1)
theorem s41_6 {R : VP} {Q : EQ} (hR : ∀ e w, (valS Try.prog (loadC 38 (e 2)) w fun r0 =>
R (Value.tuple #[r0, (e 3), (e 4)]) w) → Q .ret e w) (e : Env) (w : World) (h : m41_6 R (e 2) (e 6) (e 7) (e 9) w) : W41 k41_6 Q e w := by
  unfold m41_6 at h
  refine seA ?_
  have hN : ∀ e w, (m41_7 R (e 2) (e 6) (e 9) w) → (thenE (W41 k41_7 Q) Q) .normal e w := fun e w h => then_N (s41_7 (R := R) (Q := Q) hR e w h)
  have hR : ∀ e w, (valS Try.prog (loadC 38 (e 2)) w fun r0 =>
  R (Value.tuple #[r0, (e 3), (e 4)]) w) → (thenE (W41 k41_7 Q) Q) .ret e w := fun e w h => then_R (hR e w h)
  refine seA ?_
  have hN : ∀ e w, (m41_9 R (e 2) (e 6) (e 9) (e 43) w) → (thenE (W41 k41_9 (thenE (W41 k41_7 Q) Q)) (thenE (W41 k41_7 Q) Q)) .normal e w := fun e w h => then_N (s41_9 (R := R) (Q := (thenE (W41 k41_7 Q) Q)) hN hR e w h)
  exact rgA 8 (fun e w => m41_9 R (e 2) (e 6) (e 9) (e 43) w) h hN
theorem s41_11 {R : VP} {Q : EQ} (hN : ∀ e w, (m41_6 R (e 2) (e 6) (e 7) (e 9) w) → Q .normal e w) (e : Env) (w : World) (h : m41_11 R (e 2) (e 5) (e 6) (e 7) (e 8) (e 9) (e 28) w) : W41 k41_11 Q e w := by
  unfold m41_11 at h
  refine coA (Operand.tmp 28) h (fun h1 => ?_) (fun h1 => ?_)
  · exact taA 7 8 (fun e w => m41_6 R (e 2) (e 6) (e 7) (e 9) w) h1 hN
  · exact skA (hN _ _ h1)
theorem s41_5 {R : VP} {Q : EQ} (hR : ∀ e w, (valS Try.prog (loadC 38 (e 2)) w fun r0 =>
R (Value.tuple #[r0, (e 3), (e 4)]) w) → Q .ret e w) (e : Env) (w : World) (h : m41_5 R (e 2) (e 5) (e 6) (e 7) (e 8) (e 9) w) : W41 k41_5 Q e w := by
  unfold m41_5 at h
  refine seA ?_
  have hN : ∀ e w, (m41_6 R (e 2) (e 6) (e 7) (e 9) w) → (thenE (W41 k41_6 Q) Q) .normal e w := fun e w h => then_N (s41_6 (R := R) (Q := Q) hR e w h)
  refine seA ?_
  have hN : ∀ e w, (m41_11 R (e 2) (e 5) (e 6) (e 7) (e 8) (e 9) (e 28) w) → (thenE (W41 k41_11 (thenE (W41 k41_6 Q) Q)) (thenE (W41 k41_6 Q) Q)) .normal e w := fun e w h => then_N (s41_11 (R := R) (Q := (thenE (W41 k41_6 Q) Q)) hN e w h)
  exact rgA 6 (fun e w => m41_11 R (e 2) (e 5) (e 6) (e 7) (e 8) (e 9) (e 28) w) h hN
theorem s41_4 {R : VP} {Q : EQ} (hR : ∀ e w, (valS Try.prog (loadC 38 (e 2)) w fun r0 =>
R (Value.tuple #[r0, (e 3), (e 4)]) w) → Q .ret e w) (e : Env) (w : World) (h : m41_4 R (e 2) (e 5) (e 6) (e 7) (e 8) w) : W41 k41_4 Q e w := by
  unfold m41_4 at h
  refine seA ?_
  have hN : ∀ e w, (m41_5 R (e 2) (e 5) (e 6) (e 7) (e 8) (e 9) w) → (thenE (W41 k41_5 Q) Q) .normal e w := fun e w h => then_N (s41_5 (R := R) (Q := Q) hR e w h)
  exact rgA 5 (fun e w => m41_5 R (e 2) (e 5) (e 6) (e 7) (e 8) (e 9) w) h hN
theorem s41_3 {R : VP} {Q : EQ} (hR : ∀ e w, (valS Try.prog (loadC 38 (e 2)) w fun r0 =>
R (Value.tuple #[r0, (e 3), (e 4)]) w) → Q .ret e w) (e : Env) (w : World) (h : m41_3 R (e 2) (e 5) (e 6) w) : W41 k41_3 Q e w := by
  unfold m41_3 at h
  refine seA ?_
  have hN : ∀ e w, (m41_4 R (e 2) (e 5) (e 6) (e 7) (e 8) w) → (thenE (W41 k41_4 Q) Q) .normal e w := fun e w h => then_N (s41_4 (R := R) (Q := Q) hR e w h)
  exact rgA 4 (fun e w => m41_4 R (e 2) (e 5) (e 6) (e 7) (e 8) w) h hN
theorem s41_12 {R : VP} {Q : EQ} (hN : ∀ e w, (m41_3 R (e 2) (e 5) (e 6) w) → Q .normal e w) (hR : ∀ e w, (valS Try.prog (loadC 38 (e 2)) w fun r0 =>
R (Value.tuple #[r0, (e 3), (e 4)]) w) → Q .ret e w) (e : Env) (w : World) (h : m41_12 R (e 2) (e 5) (e 6) (e 7) (e 17) w) : W41 k41_12 Q e w := by
  unfold m41_12 at h
  refine coA (Operand.tmp 17) h (fun h1 => ?_) (fun h1 => ?_)
  · refine seA ?_
    have hN : ∀ e w, (m41_13 R (e 2) (e 3) (e 4) w) → (thenE (W41 k41_13 Q) Q) .normal e w := fun e w h => then_N (s41_13 (R := R) (Q := Q) hR e w h)
    exact rgA 3 (fun e w => m41_13 R (e 2) (e 3) (e 4) w) h1 hN
  · exact skA (hN _ _ h1)
theorem s41_2 {R : VP} {Q : EQ} (hR : ∀ e w, (valS Try.prog (loadC 38 (e 2)) w fun r0 =>
R (Value.tuple #[r0, (e 3), (e 4)]) w) → Q .ret e w) (e : Env) (w : World) (h : m41_2 R (e 2) (e 5) (e 6) (e 7) w) : W41 k41_2 Q e w := by
  unfold m41_2 at h
  refine seA ?_
  have hN : ∀ e w, (m41_3 R (e 2) (e 5) (e 6) w) → (thenE (W41 k41_3 Q) Q) .normal e w := fun e w h => then_N (s41_3 (R := R) (Q := Q) hR e w h)
  have hR : ∀ e w, (valS Try.prog (loadC 38 (e 2)) w fun r0 =>
  R (Value.tuple #[r0, (e 3), (e 4)]) w) → (thenE (W41 k41_3 Q) Q) .ret e w := fun e w h => then_R (hR e w h)
  refine seA ?_
  have hN : ∀ e w, (m41_12 R (e 2) (e 5) (e 6) (e 7) (e 17) w) → (thenE (W41 k41_12 (thenE (W41 k41_3 Q) Q)) (thenE (W41 k41_3 Q) Q)) .normal e w := fun e w h => then_N (s41_12 (R := R) (Q := (thenE (W41 k41_3 Q) Q)) hN hR e w h)
  exact rgA 2 (fun e w => m41_12 R (e 2) (e 5) (e 6) (e 7) (e 17) w) h hN
theorem s41_1 {R : VP} {Q : EQ} (hR : ∀ e w, (valS Try.prog (loadC 38 (e 2)) w fun r0 =>
R (Value.tuple #[r0, (e 3), (e 4)]) w) → Q .ret e w) (e : Env) (w : World) (h : m41_1 R (e 0) (e 2) w) : W41 k41_1 Q e w := by
  unfold m41_1 at h
  refine seA ?_
  have hN : ∀ e w, (m41_2 R (e 2) (e 5) (e 6) (e 7) w) → (thenE (W41 k41_2 Q) Q) .normal e w := fun e w h => then_N (s41_2 (R := R) (Q := Q) hR e w h)
  exact rgA 1 (fun e w => m41_2 R (e 2) (e 5) (e 6) (e 7) w) h hN
theorem s41_0 {R : VP} {Q : EQ} (hR : ∀ e w, (valS Try.prog (loadC 38 (e 2)) w fun r0 =>
R (Value.tuple #[r0, (e 3), (e 4)]) w) → Q .ret e w) (e : Env) (w : World) (h : m41_0 R (e 0) w) : W41 k41_0 Q e w := by
  unfold m41_0 at h
  refine seA ?_
  have hN : ∀ e w, (m41_1 R (e 0) (e 2) w) → (thenE (W41 k41_1 Q) Q) .normal e w := fun e w h => then_N (s41_1 (R := R) (Q := Q) hR e w h)
  exact rgA 0 (fun e w => m41_1 R (e 0) (e 2) w) h hN
abbrev m41 (R : VP) (s0 : Value) (w : World) : Prop := m41_0 R s0 w
theorem s41 (s0 : Value) {R : VP} {w : World} (h : m41 R s0 w) :
    Calls Try.prog 41 #[s0] w fun e w' => ∃ v, e = .returned v ∧ R v w' :=
  calls_of_cwp (st := (fun i => cond (Nat.beq i 7) 10 (0))) (c := k41_0) (by kernel_rfl) Try.func41 (by kernel_rfl) (Nat.le_of_ble_eq_true (by kernel_rfl)) (by kernel_rfl)
    (s41_0 (R := R) (Q := endE Try.prog Try.f41 R) (fun e w h => kcast (by kernel_rfl) h) (argsE #[s0]) w (kcast (by kernel_rfl) h))
/-! ### headgate/headgateref06.TakeRecord -/
def m44_9 (R : VP) (t2 t3 t4 : Value) (w : World) : Prop :=
  valS Try.prog (loadC 38 t2) w fun r0 =>
  R (Value.tuple #[r0, t3, t4]) w
def m44_7 (R : VP) (t2 t3 t4 : Value) (w : World) : Prop :=
  valS Try.prog (loadC 38 t2) w fun r0 =>
  R (Value.tuple #[r0, t3, t4]) w
def m44_6 (R : VP) (t2 s312 r14 : Value) (w : World) : Prop :=
  valP Try.prog (Instr.loadAt 38 r14) w fun t53 w =>
  unitP Try.prog (Instr.storeAt 38 t2 t53) w fun _ w =>
  m44_7 R t2 s312 (Value.int IntKind.i64 0) w
def m44_8 (R : VP) (t2 s312 r14 t51 : Value) (w : World) : Prop :=
  condP t51
  (valP Try.prog (Instr.build 38 #[]) w fun t52 w =>
  unitP Try.prog (Instr.storeAt 38 t2 t52) w fun _ w =>
  m44_9 R t2 (Value.string ⟨#[]⟩) (Value.int IntKind.i64 2) w)
  (m44_6 R t2 s312 r14 w)
def m44_5 (R : VP) (t2 e17 e210 s312 e313 r14 : Value) (w : World) : Prop :=
  valP Try.prog (binS BinOp.neq 3 (Operand.tmp 37) (Operand.const (Value.int IntKind.i64 0)) e17 (Value.int IntKind.i64 0)) w fun t38 w =>
  condP t38
  (pickP t38 (Value.bool true) undef fun t42 =>
  condP t42
  (pickP t42 (Value.bool true) undef fun t46 =>
  condP t46
  (pickP t46 (Value.bool true) undef fun t51 =>
  m44_8 R t2 s312 r14 t51 w)
  (valP Try.prog (Instr.loadAt 38 r14) w fun t48 w =>
  callP Try.prog (fnV 61) #[t48] w fun t49 w =>
  valP Try.prog (Op.unary UnOp.not t49) w fun t50 w =>
  pickP t46 (Value.bool true) t50 fun t51 =>
  m44_8 R t2 s312 r14 t51 w))
  (valP Try.prog (binS BinOp.neq 3 (Operand.tmp 44) (Operand.const (Value.int IntKind.i64 0)) e313 (Value.int IntKind.i64 0)) w fun t45 w =>
  pickP t42 (Value.bool true) t45 fun t46 =>
  condP t46
  (pickP t46 (Value.bool true) undef fun t51 =>
  m44_8 R t2 s312 r14 t51 w)
  (valP Try.prog (Instr.loadAt 38 r14) w fun t48 w =>
  callP Try.prog (fnV 61) #[t48] w fun t49 w =>
  valP Try.prog (Op.unary UnOp.not t49) w fun t50 w =>
  pickP t46 (Value.bool true) t50 fun t51 =>
  m44_8 R t2 s312 r14 t51 w)))
  (valP Try.prog (binS BinOp.neq 3 (Operand.tmp 40) (Operand.const (Value.int IntKind.i64 0)) e210 (Value.int IntKind.i64 0)) w fun t41 w =>
  pickP t38 (Value.bool true) t41 fun t42 =>
  condP t42
  (pickP t42 (Value.bool true) undef fun t46 =>
  condP t46
  (pickP t46 (Value.bool true) undef fun t51 =>
  m44_8 R t2 s312 r14 t51 w)
  (valP Try.prog (Instr.loadAt 38 r14) w fun t48 w =>
  callP Try.prog (fnV 61) #[t48] w fun t49 w =>
  valP Try.prog (Op.unary UnOp.not t49) w fun t50 w =>
  pickP t46 (Value.bool true) t50 fun t51 =>
  m44_8 R t2 s312 r14 t51 w))
  (valP Try.prog (binS BinOp.neq 3 (Operand.tmp 44) (Operand.const (Value.int IntKind.i64 0)) e313 (Value.int IntKind.i64 0)) w fun t45 w =>
  pickP t42 (Value.bool true) t45 fun t46 =>
  condP t46
  (pickP t46 (Value.bool true) undef fun t51 =>
  m44_8 R t2 s312 r14 t51 w)
  (valP Try.prog (Instr.loadAt 38 r14) w fun t48 w =>
  callP Try.prog (fnV 61) #[t48] w fun t49 w =>
  valP Try.prog (Op.unary UnOp.not t49) w fun t50 w =>
  pickP t46 (Value.bool true) t50 fun t51 =>
  m44_8 R t2 s312 r14 t51 w)))
def m44_4 (R : VP) (t2 k5 e17 t8 e210 x11 s312 e313 : Value) (w : World) : Prop :=
  valP Try.prog (Instr.build 38 #[(0, k5), (1, t8), (2, x11)]) w fun t36 w =>
  valP Try.prog (Instr.alloc 38 true (.tuple #[])) w fun r14 w =>
  unitP Try.prog (Instr.storeAt 38 r14 t36) w fun _ w =>
  m44_5 R t2 e17 e210 s312 e313 r14 w
def m44_3 (R : VP) (t2 k5 e17 t8 s29 e210 : Value) (w : World) : Prop :=
  callP Try.prog (fnV 68) #[s29, (Value.int IntKind.i64 512)] w fun t29 w =>
  valP Try.prog (Instr.extract t29 0) w fun t30 w =>
  valP Try.prog (Instr.extract t29 1) w fun t31 w =>
  valP Try.prog (Instr.extract t29 2) w fun t32 w =>
  m44_4 R t2 k5 e17 t8 e210 t30 t31 t32 w
def m44_2 (R : VP) (t2 k5 s16 e17 : Value) (w : World) : Prop :=
  callP Try.prog (fnV 43) #[s16] w fun t23 w =>
  valP Try.prog (Instr.extract t23 0) w fun t24 w =>
  valP Try.prog (Instr.extract t23 1) w fun t25 w =>
  valP Try.prog (Instr.extract t23 2) w fun t26 w =>
  m44_3 R t2 k5 e17 t24 t25 t26 w
def m44_1 (R : VP) (s0 t2 : Value) (w : World) : Prop :=
  callP Try.prog (fnV 43) #[s0] w fun t17 w =>
  valP Try.prog (Instr.extract t17 0) w fun t18 w =>
  valP Try.prog (Instr.extract t17 1) w fun t19 w =>
  valP Try.prog (Instr.extract t17 2) w fun t20 w =>
  m44_2 R t2 t18 t19 t20 w
def m44_0 (R : VP) (s0 : Value) (w : World) : Prop :=
  valP Try.prog (Instr.alloc 38 true (.tuple #[])) w fun t2 w =>
  m44_1 R s0 t2 w
abbrev W44 := cwp Try.prog (fun i => 0)
noncomputable def k44_0 : Code := (bodyOf Try.f44)
noncomputable def k44_1 : Code := (c2 k44_0)
noncomputable def k44_2 : Code := (c2 k44_1)
noncomputable def k44_3 : Code := (c2 k44_2)
noncomputable def k44_4 : Code := (c2 k44_3)
noncomputable def k44_5 : Code := (c2 k44_4)
noncomputable def k44_6 : Code := (c2 k44_5)
noncomputable def k44_7 : Code := (c2 k44_6)
noncomputable def k44_8 : Code := (c2 (c1 k44_5))
noncomputable def k44_9 : Code := (c2 (c1 k44_8))
theorem s44_9 {R : VP} {Q : EQ} (hR : ∀ e w, (valS Try.prog (loadC 38 (e 2)) w fun r0 =>
R (Value.tuple #[r0, (e 3), (e 4)]) w) → Q .ret e w) (e : Env) (w : World) (h : m44_9 R (e 2) (e 3) (e 4) w) : W44 k44_9 Q e w := by
  unfold m44_9 at h
  exact reA (hR _ _ h)
theorem s44_7 {R : VP} {Q : EQ} (hR : ∀ e w, (valS Try.prog (loadC 38 (e 2)) w fun r0 =>
R (Value.tuple #[r0, (e 3), (e 4)]) w) → Q .ret e w) (e : Env) (w : World) (h : m44_7 R (e 2) (e 3) (e 4) w) : W44 k44_7 Q e w := by
  unfold m44_7 at h
  exact reA (hR _ _ h)
theorem s44_6 {R : VP} {Q : EQ} (hR : ∀ e w, (valS Try.prog (loadC 38 (e 2)) w fun r0 =>
R (Value.tuple #[r0, (e 3), (e 4)]) w) → Q .ret e w) (e : Env) (w : World) (h : m44_6 R (e 2) (e 12) (e 14) w) : W44 k44_6 Q e w := by
  unfold m44_6 at h
  refine seA ?_
  have hN : ∀ e w, (m44_7 R (e 2) (e 3) (e 4) w) → (thenE (W44 k44_7 Q) Q) .normal e w := fun e w h => then_N (s44_7 (R := R) (Q := Q) hR e w h)
  exact rgA 7 (fun e w => m44_7 R (e 2) (e 3) (e 4) w) h hN
theorem s44_8 {R : VP} {Q : EQ} (hN : ∀ e w, (m44_6 R (e 2) (e 12) (e 14) w) → Q .normal e w) (hR : ∀ e w, (valS Try.prog (loadC 38 (e 2)) w fun r0 =>
R (Value.tuple #[r0, (e 3), (e 4)]) w) → Q .ret e w) (e : Env) (w : World) (h : m44_8 R (e 2) (e 12) (e 14) (e 51) w) : W44 k44_8 Q e w := by
  unfold m44_8 at h
  refine coA (Operand.tmp 51) h (fun h1 => ?_) (fun h1 => ?_)
  · refine seA ?_
    have hN : ∀ e w, (m44_9 R (e 2) (e 3) (e 4) w) → (thenE (W44 k44_9 Q) Q) .normal e w := fun e w h => then_N (s44_9 (R := R) (Q := Q) hR e w h)
    exact rgA 6 (fun e w => m44_9 R (e 2) (e 3) (e 4) w) h1 hN
  · exact skA (hN _ _ h1)
theorem s44_5 {R : VP} {Q : EQ} (hR : ∀ e w, (valS Try.prog (loadC 38 (e 2)) w fun r0 =>
R (Value.tuple #[r0, (e 3), (e 4)]) w) → Q .ret e w) (e : Env) (w : World) (h : m44_5 R (e 2) (e 7) (e 10) (e 12) (e 13) (e 14) w) : W44 k44_5 Q e w := by
  unfold m44_5 at h
  refine seA ?_
  have hN : ∀ e w, (m44_6 R (e 2) (e 12) (e 14) w) → (thenE (W44 k44_6 Q) Q) .normal e w := fun e w h => then_N (s44_6 (R := R) (Q := Q) hR e w h)
  have hR : ∀ e w, (valS Try.prog (loadC 38 (e 2)) w fun r0 =>
  R (Value.tuple #[r0, (e 3), (e 4)]) w) → (thenE (W44 k44_6 Q) Q) .ret e w := fun e w h => then_R (hR e w h)
  refine seA ?_
  have hN : ∀ e w, (m44_8 R (e 2) (e 12) (e 14) (e 51) w) → (thenE (W44 k44_8 (thenE (W44 k44_6 Q) Q)) (thenE (W44 k44_6 Q) Q)) .normal e w := fun e w h => then_N (s44_8 (R := R) (Q := (thenE (W44 k44_6 Q) Q)) hN hR e w h)
  exact rgA 5 (fun e w => m44_8 R (e 2) (e 12) (e 14) (e 51) w) h hN
theorem s44_4 {R : VP} {Q : EQ} (hR : ∀ e w, (valS Try.prog (loadC 38 (e 2)) w fun r0 =>
R (Value.tuple #[r0, (e 3), (e 4)]) w) → Q .ret e w) (e : Env) (w : World) (h : m44_4 R (e 2) (e 5) (e 7) (e 8) (e 10) (e 11) (e 12) (e 13) w) : W44 k44_4 Q e w := by
  unfold m44_4 at h
  refine seA ?_
  have hN : ∀ e w, (m44_5 R (e 2) (e 7) (e 10) (e 12) (e 13) (e 14) w) → (thenE (W44 k44_5 Q) Q) .normal e w := fun e w h => then_N (s44_5 (R := R) (Q := Q) hR e w h)
  exact rgA 4 (fun e w => m44_5 R (e 2) (e 7) (e 10) (e 12) (e 13) (e 14) w) h hN
theorem s44_3 {R : VP} {Q : EQ} (hR : ∀ e w, (valS Try.prog (loadC 38 (e 2)) w fun r0 =>
R (Value.tuple #[r0, (e 3), (e 4)]) w) → Q .ret e w) (e : Env) (w : World) (h : m44_3 R (e 2) (e 5) (e 7) (e 8) (e 9) (e 10) w) : W44 k44_3 Q e w := by
  unfold m44_3 at h
  refine seA ?_
  have hN : ∀ e w, (m44_4 R (e 2) (e 5) (e 7) (e 8) (e 10) (e 11) (e 12) (e 13) w) → (thenE (W44 k44_4 Q) Q) .normal e w := fun e w h => then_N (s44_4 (R := R) (Q := Q) hR e w h)
  exact rgA 3 (fun e w => m44_4 R (e 2) (e 5) (e 7) (e 8) (e 10) (e 11) (e 12) (e 13) w) h hN
theorem s44_2 {R : VP} {Q : EQ} (hR : ∀ e w, (valS Try.prog (loadC 38 (e 2)) w fun r0 =>
R (Value.tuple #[r0, (e 3), (e 4)]) w) → Q .ret e w) (e : Env) (w : World) (h : m44_2 R (e 2) (e 5) (e 6) (e 7) w) : W44 k44_2 Q e w := by
  unfold m44_2 at h
  refine seA ?_
  have hN : ∀ e w, (m44_3 R (e 2) (e 5) (e 7) (e 8) (e 9) (e 10) w) → (thenE (W44 k44_3 Q) Q) .normal e w := fun e w h => then_N (s44_3 (R := R) (Q := Q) hR e w h)
  exact rgA 2 (fun e w => m44_3 R (e 2) (e 5) (e 7) (e 8) (e 9) (e 10) w) h hN
theorem s44_1 {R : VP} {Q : EQ} (hR : ∀ e w, (valS Try.prog (loadC 38 (e 2)) w fun r0 =>
R (Value.tuple #[r0, (e 3), (e 4)]) w) → Q .ret e w) (e : Env) (w : World) (h : m44_1 R (e 0) (e 2) w) : W44 k44_1 Q e w := by
  unfold m44_1 at h
  refine seA ?_
  have hN : ∀ e w, (m44_2 R (e 2) (e 5) (e 6) (e 7) w) → (thenE (W44 k44_2 Q) Q) .normal e w := fun e w h => then_N (s44_2 (R := R) (Q := Q) hR e w h)
  exact rgA 1 (fun e w => m44_2 R (e 2) (e 5) (e 6) (e 7) w) h hN
theorem s44_0 {R : VP} {Q : EQ} (hR : ∀ e w, (valS Try.prog (loadC 38 (e 2)) w fun r0 =>
R (Value.tuple #[r0, (e 3), (e 4)]) w) → Q .ret e w) (e : Env) (w : World) (h : m44_0 R (e 0) w) : W44 k44_0 Q e w := by
  unfold m44_0 at h
  refine seA ?_
  have hN : ∀ e w, (m44_1 R (e 0) (e 2) w) → (thenE (W44 k44_1 Q) Q) .normal e w := fun e w h => then_N (s44_1 (R := R) (Q := Q) hR e w h)
  exact rgA 0 (fun e w => m44_1 R (e 0) (e 2) w) h hN
abbrev m44 (R : VP) (s0 : Value) (w : World) : Prop := m44_0 R s0 w
theorem s44 (s0 : Value) {R : VP} {w : World} (h : m44 R s0 w) :
    Calls Try.prog 44 #[s0] w fun e w' => ∃ v, e = .returned v ∧ R v w' :=
  calls_of_cwp (st := (fun i => 0)) (c := k44_0) (by kernel_rfl) Try.func44 (by kernel_rfl) (Nat.le_of_ble_eq_true (by kernel_rfl)) (by kernel_rfl)
    (s44_0 (R := R) (Q := endE Try.prog Try.f44 R) (fun e w h => kcast (by kernel_rfl) h) (argsE #[s0]) w (kcast (by kernel_rfl) h))
/-! ### headgate/headgateref06.MayRecord -/
def m61_2 (R : VP) (t2 : Value) (w : World) : Prop :=
  R t2 w
def m61_1 (R : VP) (r1 : Value) (w : World) : Prop :=
  valP Try.prog (Instr.fieldAt 38 r1 0) w fun t3 w =>
  valP Try.prog (Instr.loadAt 3 t3) w fun t4 w =>
  valP Try.prog (binS BinOp.geq 3 (Operand.tmp 4) (Operand.const (Value.int IntKind.i64 0)) t4 (Value.int IntKind.i64 0)) w fun t5 w =>
  condP t5
  (valP Try.prog (Instr.fieldAt 38 r1 0) w fun t7 w =>
  valP Try.prog (Instr.loadAt 3 t7) w fun t8 w =>
  valP Try.prog (binS BinOp.leq 3 (Operand.tmp 8) (Operand.const (Value.int IntKind.i64 1048576)) t8 (Value.int IntKind.i64 1048576)) w fun t9 w =>
  pickP t5 t9 (Value.bool false) fun t10 =>
  condP t10
  (valP Try.prog (Instr.fieldAt 38 r1 1) w fun t12 w =>
  valP Try.prog (Instr.loadAt 3 t12) w fun t13 w =>
  callP Try.prog (fnV 86) #[t13] w fun t14 w =>
  pickP t10 t14 (Value.bool false) fun t15 =>
  condP t15
  (valP Try.prog (Instr.fieldAt 38 r1 2) w fun t17 w =>
  valP Try.prog (Instr.loadAt 9 t17) w fun t18 w =>
  builtinP Try.prog Builtin.len #[9] 3 #[false] #[t18] w fun t19 w =>
  valP Try.prog (binS BinOp.leq 3 (Operand.tmp 19) (Operand.const (Value.int IntKind.i64 512)) t19 (Value.int IntKind.i64 512)) w fun t20 w =>
  pickP t15 t20 (Value.bool false) fun t21 =>
  m61_2 R t21 w)
  (pickP t15 undef (Value.bool false) fun t21 =>
  m61_2 R t21 w))
  (pickP t10 undef (Value.bool false) fun t15 =>
  condP t15
  (valP Try.prog (Instr.fieldAt 38 r1 2) w fun t17 w =>
  valP Try.prog (Instr.loadAt 9 t17) w fun t18 w =>
  builtinP Try.prog Builtin.len #[9] 3 #[false] #[t18] w fun t19 w =>
  valP Try.prog (binS BinOp.leq 3 (Operand.tmp 19) (Operand.const (Value.int IntKind.i64 512)) t19 (Value.int IntKind.i64 512)) w fun t20 w =>
  pickP t15 t20 (Value.bool false) fun t21 =>
  m61_2 R t21 w)
  (pickP t15 undef (Value.bool false) fun t21 =>
  m61_2 R t21 w)))
  (pickP t5 undef (Value.bool false) fun t10 =>
  condP t10
  (valP Try.prog (Instr.fieldAt 38 r1 1) w fun t12 w =>
  valP Try.prog (Instr.loadAt 3 t12) w fun t13 w =>
  callP Try.prog (fnV 86) #[t13] w fun t14 w =>
  pickP t10 t14 (Value.bool false) fun t15 =>
  condP t15
  (valP Try.prog (Instr.fieldAt 38 r1 2) w fun t17 w =>
  valP Try.prog (Instr.loadAt 9 t17) w fun t18 w =>
  builtinP Try.prog Builtin.len #[9] 3 #[false] #[t18] w fun t19 w =>
  valP Try.prog (binS BinOp.leq 3 (Operand.tmp 19) (Operand.const (Value.int IntKind.i64 512)) t19 (Value.int IntKind.i64 512)) w fun t20 w =>
  pickP t15 t20 (Value.bool false) fun t21 =>
  m61_2 R t21 w)
  (pickP t15 undef (Value.bool false) fun t21 =>
  m61_2 R t21 w))
  (pickP t10 undef (Value.bool false) fun t15 =>
  condP t15
  (valP Try.prog (Instr.fieldAt 38 r1 2) w fun t17 w =>
  valP Try.prog (Instr.loadAt 9 t17) w fun t18 w =>
  builtinP Try.prog Builtin.len #[9] 3 #[false] #[t18] w fun t19 w =>
  valP Try.prog (binS BinOp.leq 3 (Operand.tmp 19) (Operand.const (Value.int IntKind.i64 512)) t19 (Value.int IntKind.i64 512)) w fun t20 w =>
  pickP t15 t20 (Value.bool false) fun t21 =>
  m61_2 R t21 w)
  (pickP t15 undef (Value.bool false) fun t21 =>
  m61_2 R t21 w)))
def m61_0 (R : VP) (r0 : Value) (w : World) : Prop :=
  valP Try.prog (Instr.box 38 r0) w fun r1 w =>
  m61_1 R r1 w
abbrev W61 := cwp Try.prog (fun i => 0)
noncomputable def k61_0 : Code := (bodyOf Try.f61)
noncomputable def k61_1 : Code := (c2 k61_0)
noncomputable def k61_2 : Code := (c2 k61_1)
theorem s61_2 {R : VP} {Q : EQ} (hR : ∀ e w, (R (e 2) w) → Q .ret e w) (e : Env) (w : World) (h : m61_2 R (e 2) w) : W61 k61_2 Q e w := by
  unfold m61_2 at h
  exact reA (hR _ _ h)
theorem s61_1 {R : VP} {Q : EQ} (hR : ∀ e w, (R (e 2) w) → Q .ret e w) (e : Env) (w : World) (h : m61_1 R (e 1) w) : W61 k61_1 Q e w := by
  unfold m61_1 at h
  refine seA ?_
  have hN : ∀ e w, (m61_2 R (e 2) w) → (thenE (W61 k61_2 Q) Q) .normal e w := fun e w h => then_N (s61_2 (R := R) (Q := Q) hR e w h)
  exact rgA 1 (fun e w => m61_2 R (e 2) w) h hN
theorem s61_0 {R : VP} {Q : EQ} (hR : ∀ e w, (R (e 2) w) → Q .ret e w) (e : Env) (w : World) (h : m61_0 R (e 0) w) : W61 k61_0 Q e w := by
  unfold m61_0 at h
  refine seA ?_
  have hN : ∀ e w, (m61_1 R (e 1) w) → (thenE (W61 k61_1 Q) Q) .normal e w := fun e w h => then_N (s61_1 (R := R) (Q := Q) hR e w h)
  exact rgA 0 (fun e w => m61_1 R (e 1) w) h hN
abbrev m61 (R : VP) (r0 : Value) (w : World) : Prop := m61_0 R r0 w
theorem s61 (r0 : Value) {R : VP} {w : World} (h : m61 R r0 w) :
    Calls Try.prog 61 #[r0] w fun e w' => ∃ v, e = .returned v ∧ R v w' :=
  calls_of_cwp (st := (fun i => 0)) (c := k61_0) (by kernel_rfl) Try.func61 (by kernel_rfl) (Nat.le_of_ble_eq_true (by kernel_rfl)) (by kernel_rfl)
    (s61_0 (R := R) (Q := endE Try.prog Try.f61 R) (fun e w h => kcast (by kernel_rfl) h) (argsE #[r0]) w (kcast (by kernel_rfl) h))
/-! ### headgate/batch.may -/
def m67_2 (R : VP) (t2 : Value) (w : World) : Prop :=
  R t2 w
def m67_1 (R : VP) (r1 : Value) (w : World) : Prop :=
  valP Try.prog (Instr.fieldAt 38 r1 0) w fun t3 w =>
  valP Try.prog (Instr.loadAt 3 t3) w fun t4 w =>
  valP Try.prog (Instr.fieldAt 38 r1 1) w fun t5 w =>
  valP Try.prog (Instr.loadAt 3 t5) w fun t6 w =>
  valP Try.prog (Instr.buildSlice 63 2 #[(0, t4), (1, t6)]) w fun t7 w =>
  callP Try.prog (fnV 88) #[t7] w fun t8 w =>
  condP t8
  (valP Try.prog (Instr.fieldAt 38 r1 0) w fun t10 w =>
  valP Try.prog (Instr.loadAt 3 t10) w fun t11 w =>
  valP Try.prog (binS BinOp.leq 3 (Operand.tmp 11) (Operand.const (Value.int IntKind.i64 1048576)) t11 (Value.int IntKind.i64 1048576)) w fun t12 w =>
  pickP t8 t12 (Value.bool false) fun t13 =>
  condP t13
  (valP Try.prog (Instr.fieldAt 38 r1 2) w fun t15 w =>
  valP Try.prog (Instr.loadAt 9 t15) w fun t16 w =>
  builtinP Try.prog Builtin.len #[9] 3 #[false] #[t16] w fun t17 w =>
  valP Try.prog (binS BinOp.leq 3 (Operand.tmp 17) (Operand.const (Value.int IntKind.i64 512)) t17 (Value.int IntKind.i64 512)) w fun t18 w =>
  pickP t13 t18 (Value.bool false) fun t19 =>
  m67_2 R t19 w)
  (pickP t13 undef (Value.bool false) fun t19 =>
  m67_2 R t19 w))
  (pickP t8 undef (Value.bool false) fun t13 =>
  condP t13
  (valP Try.prog (Instr.fieldAt 38 r1 2) w fun t15 w =>
  valP Try.prog (Instr.loadAt 9 t15) w fun t16 w =>
  builtinP Try.prog Builtin.len #[9] 3 #[false] #[t16] w fun t17 w =>
  valP Try.prog (binS BinOp.leq 3 (Operand.tmp 17) (Operand.const (Value.int IntKind.i64 512)) t17 (Value.int IntKind.i64 512)) w fun t18 w =>
  pickP t13 t18 (Value.bool false) fun t19 =>
  m67_2 R t19 w)
  (pickP t13 undef (Value.bool false) fun t19 =>
  m67_2 R t19 w))
def m67_0 (R : VP) (r0 : Value) (w : World) : Prop :=
  valP Try.prog (Instr.box 38 r0) w fun r1 w =>
  m67_1 R r1 w
abbrev W67 := cwp Try.prog (fun i => 0)
noncomputable def k67_0 : Code := (bodyOf Try.f67)
noncomputable def k67_1 : Code := (c2 k67_0)
noncomputable def k67_2 : Code := (c2 k67_1)
theorem s67_2 {R : VP} {Q : EQ} (hR : ∀ e w, (R (e 2) w) → Q .ret e w) (e : Env) (w : World) (h : m67_2 R (e 2) w) : W67 k67_2 Q e w := by
  unfold m67_2 at h
  exact reA (hR _ _ h)
theorem s67_1 {R : VP} {Q : EQ} (hR : ∀ e w, (R (e 2) w) → Q .ret e w) (e : Env) (w : World) (h : m67_1 R (e 1) w) : W67 k67_1 Q e w := by
  unfold m67_1 at h
  refine seA ?_
  have hN : ∀ e w, (m67_2 R (e 2) w) → (thenE (W67 k67_2 Q) Q) .normal e w := fun e w h => then_N (s67_2 (R := R) (Q := Q) hR e w h)
  exact rgA 1 (fun e w => m67_2 R (e 2) w) h hN
theorem s67_0 {R : VP} {Q : EQ} (hR : ∀ e w, (R (e 2) w) → Q .ret e w) (e : Env) (w : World) (h : m67_0 R (e 0) w) : W67 k67_0 Q e w := by
  unfold m67_0 at h
  refine seA ?_
  have hN : ∀ e w, (m67_1 R (e 1) w) → (thenE (W67 k67_1 Q) Q) .normal e w := fun e w h => then_N (s67_1 (R := R) (Q := Q) hR e w h)
  exact rgA 0 (fun e w => m67_1 R (e 1) w) h hN
abbrev m67 (R : VP) (r0 : Value) (w : World) : Prop := m67_0 R r0 w
theorem s67 (r0 : Value) {R : VP} {w : World} (h : m67 R r0 w) :
    Calls Try.prog 67 #[r0] w fun e w' => ∃ v, e = .returned v ∧ R v w' :=
  calls_of_cwp (st := (fun i => 0)) (c := k67_0) (by kernel_rfl) Try.func67 (by kernel_rfl) (Nat.le_of_ble_eq_true (by kernel_rfl)) (by kernel_rfl)
    (s67_0 (R := R) (Q := endE Try.prog Try.f67 R) (fun e w h => kcast (by kernel_rfl) h) (argsE #[r0]) w (kcast (by kernel_rfl) h))
/-! ### headgate/headgateref06.In -/
def m86_2 (R : VP) (t2 : Value) (w : World) : Prop :=
  R t2 w
def m86_1 (R : VP) (n0 : Value) (w : World) : Prop :=
  valP Try.prog (binS BinOp.geq 3 (Operand.tmp 3) (Operand.const (Value.int IntKind.i64 0)) n0 (Value.int IntKind.i64 0)) w fun t4 w =>
  condP t4
  (valP Try.prog (binS BinOp.leq 3 (Operand.tmp 6) (Operand.const (Value.int IntKind.i64 1099511627776)) n0 (Value.int IntKind.i64 1099511627776)) w fun t7 w =>
  pickP t4 t7 (Value.bool false) fun t8 =>
  m86_2 R t8 w)
  (pickP t4 undef (Value.bool false) fun t8 =>
  m86_2 R t8 w)
def m86_0 (R : VP) (n0 : Value) (w : World) : Prop :=
  m86_1 R n0 w
abbrev W86 := cwp Try.prog (fun i => 0)
noncomputable def k86_0 : Code := (bodyOf Try.f86)
noncomputable def k86_1 : Code := (c2 k86_0)
noncomputable def k86_2 : Code := (c2 k86_1)
theorem s86_2 {R : VP} {Q : EQ} (hR : ∀ e w, (R (e 2) w) → Q .ret e w) (e : Env) (w : World) (h : m86_2 R (e 2) w) : W86 k86_2 Q e w := by
  unfold m86_2 at h
  exact reA (hR _ _ h)
theorem s86_1 {R : VP} {Q : EQ} (hR : ∀ e w, (R (e 2) w) → Q .ret e w) (e : Env) (w : World) (h : m86_1 R (e 0) w) : W86 k86_1 Q e w := by
  unfold m86_1 at h
  refine seA ?_
  have hN : ∀ e w, (m86_2 R (e 2) w) → (thenE (W86 k86_2 Q) Q) .normal e w := fun e w h => then_N (s86_2 (R := R) (Q := Q) hR e w h)
  exact rgA 1 (fun e w => m86_2 R (e 2) w) h hN
theorem s86_0 {R : VP} {Q : EQ} (hR : ∀ e w, (R (e 2) w) → Q .ret e w) (e : Env) (w : World) (h : m86_0 R (e 0) w) : W86 k86_0 Q e w := by
  unfold m86_0 at h
  refine seA ?_
  have hN : ∀ e w, (m86_1 R (e 0) w) → (thenE (W86 k86_1 Q) Q) .normal e w := fun e w h => then_N (s86_1 (R := R) (Q := Q) hR e w h)
  exact rgA 0 (fun e w => m86_1 R (e 0) w) h hN
abbrev m86 (R : VP) (n0 : Value) (w : World) : Prop := m86_0 R n0 w
theorem s86 (n0 : Value) {R : VP} {w : World} (h : m86 R n0 w) :
    Calls Try.prog 86 #[n0] w fun e w' => ∃ v, e = .returned v ∧ R v w' :=
  calls_of_cwp (st := (fun i => 0)) (c := k86_0) (by kernel_rfl) Try.func86 (by kernel_rfl) (Nat.le_of_ble_eq_true (by kernel_rfl)) (by kernel_rfl)
    (s86_0 (R := R) (Q := endE Try.prog Try.f86 R) (fun e w h => kcast (by kernel_rfl) h) (argsE #[n0]) w (kcast (by kernel_rfl) h))
/-! ### headgate/batch.within -/
def m88_2 (R : VP) (t2 : Value) (w : World) : Prop :=
  R t2 w
def m88_1 (R : VP) (l0 : Value) (w : World) : Prop :=
  callP Try.prog (fnV 91) #[l0, (fnV 98)] w fun t4 w =>
  valP Try.prog (Op.unary UnOp.not t4) w fun t5 w =>
  m88_2 R t5 w
def m88_0 (R : VP) (l0 : Value) (w : World) : Prop :=
  m88_1 R l0 w
abbrev W88 := cwp Try.prog (fun i => 0)
noncomputable def k88_0 : Code := (bodyOf Try.f88)
noncomputable def k88_1 : Code := (c2 k88_0)
noncomputable def k88_2 : Code := (c2 k88_1)
theorem s88_2 {R : VP} {Q : EQ} (hR : ∀ e w, (R (e 2) w) → Q .ret e w) (e : Env) (w : World) (h : m88_2 R (e 2) w) : W88 k88_2 Q e w := by
  unfold m88_2 at h
  exact reA (hR _ _ h)
theorem s88_1 {R : VP} {Q : EQ} (hR : ∀ e w, (R (e 2) w) → Q .ret e w) (e : Env) (w : World) (h : m88_1 R (e 0) w) : W88 k88_1 Q e w := by
  unfold m88_1 at h
  refine seA ?_
  have hN : ∀ e w, (m88_2 R (e 2) w) → (thenE (W88 k88_2 Q) Q) .normal e w := fun e w h => then_N (s88_2 (R := R) (Q := Q) hR e w h)
  exact rgA 1 (fun e w => m88_2 R (e 2) w) h hN
theorem s88_0 {R : VP} {Q : EQ} (hR : ∀ e w, (R (e 2) w) → Q .ret e w) (e : Env) (w : World) (h : m88_0 R (e 0) w) : W88 k88_0 Q e w := by
  unfold m88_0 at h
  refine seA ?_
  have hN : ∀ e w, (m88_1 R (e 0) w) → (thenE (W88 k88_1 Q) Q) .normal e w := fun e w h => then_N (s88_1 (R := R) (Q := Q) hR e w h)
  exact rgA 0 (fun e w => m88_1 R (e 0) w) h hN
abbrev m88 (R : VP) (l0 : Value) (w : World) : Prop := m88_0 R l0 w
theorem s88 (l0 : Value) {R : VP} {w : World} (h : m88 R l0 w) :
    Calls Try.prog 88 #[l0] w fun e w' => ∃ v, e = .returned v ∧ R v w' :=
  calls_of_cwp (st := (fun i => 0)) (c := k88_0) (by kernel_rfl) Try.func88 (by kernel_rfl) (Nat.le_of_ble_eq_true (by kernel_rfl)) (by kernel_rfl)
    (s88_0 (R := R) (Q := endE Try.prog Try.f88 R) (fun e w h => kcast (by kernel_rfl) h) (argsE #[l0]) w (kcast (by kernel_rfl) h))
/-! ### headgate/batch.within$1 -/
def m98_2 (R : VP) (t2 : Value) (w : World) : Prop :=
  R t2 w
def m98_1 (R : VP) (n0 : Value) (w : World) : Prop :=
  valP Try.prog (binS BinOp.lss 3 (Operand.tmp 3) (Operand.const (Value.int IntKind.i64 0)) n0 (Value.int IntKind.i64 0)) w fun t4 w =>
  condP t4
  (pickP t4 (Value.bool true) undef fun t8 =>
  m98_2 R t8 w)
  (valP Try.prog (binS BinOp.gtr 3 (Operand.tmp 6) (Operand.const (Value.int IntKind.i64 1099511627776)) n0 (Value.int IntKind.i64 1099511627776)) w fun t7 w =>
  pickP t4 (Value.bool true) t7 fun t8 =>
  m98_2 R t8 w)
def m98_0 (R : VP) (n0 : Value) (w : World) : Prop :=
  m98_1 R n0 w
abbrev W98 := cwp Try.prog (fun i => 0)
noncomputable def k98_0 : Code := (bodyOf Try.f98)
noncomputable def k98_1 : Code := (c2 k98_0)
noncomputable def k98_2 : Code := (c2 k98_1)
theorem s98_2 {R : VP} {Q : EQ} (hR : ∀ e w, (R (e 2) w) → Q .ret e w) (e : Env) (w : World) (h : m98_2 R (e 2) w) : W98 k98_2 Q e w := by
  unfold m98_2 at h
  exact reA (hR _ _ h)
theorem s98_1 {R : VP} {Q : EQ} (hR : ∀ e w, (R (e 2) w) → Q .ret e w) (e : Env) (w : World) (h : m98_1 R (e 0) w) : W98 k98_1 Q e w := by
  unfold m98_1 at h
  refine seA ?_
  have hN : ∀ e w, (m98_2 R (e 2) w) → (thenE (W98 k98_2 Q) Q) .normal e w := fun e w h => then_N (s98_2 (R := R) (Q := Q) hR e w h)
  exact rgA 1 (fun e w => m98_2 R (e 2) w) h hN
theorem s98_0 {R : VP} {Q : EQ} (hR : ∀ e w, (R (e 2) w) → Q .ret e w) (e : Env) (w : World) (h : m98_0 R (e 0) w) : W98 k98_0 Q e w := by
  unfold m98_0 at h
  refine seA ?_
  have hN : ∀ e w, (m98_1 R (e 0) w) → (thenE (W98 k98_1 Q) Q) .normal e w := fun e w h => then_N (s98_1 (R := R) (Q := Q) hR e w h)
  exact rgA 0 (fun e w => m98_1 R (e 0) w) h hN
abbrev m98 (R : VP) (n0 : Value) (w : World) : Prop := m98_0 R n0 w
theorem s98 (n0 : Value) {R : VP} {w : World} (h : m98 R n0 w) :
    Calls Try.prog 98 #[n0] w fun e w' => ∃ v, e = .returned v ∧ R v w' :=
  calls_of_cwp (st := (fun i => 0)) (c := k98_0) (by kernel_rfl) Try.func98 (by kernel_rfl) (Nat.le_of_ble_eq_true (by kernel_rfl)) (by kernel_rfl)
    (s98_0 (R := R) (Q := endE Try.prog Try.f98 R) (fun e w h => kcast (by kernel_rfl) h) (argsE #[n0]) w (kcast (by kernel_rfl) h))
/-! ### slices.ContainsFunc[[]int,int] -/
def m91_2 (R : VP) (t4 : Value) (w : World) : Prop :=
  R t4 w
def m91_1 (R : VP) (s0 f1 : Value) (w : World) : Prop :=
  callP Try.prog (fnV 100) #[s0, f1] w fun t7 w =>
  valP Try.prog (binS BinOp.geq 3 (Operand.tmp 7) (Operand.const (Value.int IntKind.i64 0)) t7 (Value.int IntKind.i64 0)) w fun t8 w =>
  m91_2 R t8 w
def m91_0 (R : VP) (s0 f1 : Value) (w : World) : Prop :=
  m91_1 R s0 f1 w
abbrev W91 := cwp Try.prog (fun i => 0)
noncomputable def k91_0 : Code := (bodyOf Try.f91)
noncomputable def k91_1 : Code := (c2 k91_0)
noncomputable def k91_2 : Code := (c2 k91_1)
theorem s91_2 {R : VP} {Q : EQ} (hR : ∀ e w, (R (e 4) w) → Q .ret e w) (e : Env) (w : World) (h : m91_2 R (e 4) w) : W91 k91_2 Q e w := by
  unfold m91_2 at h
  exact reA (hR _ _ h)
theorem s91_1 {R : VP} {Q : EQ} (hR : ∀ e w, (R (e 4) w) → Q .ret e w) (e : Env) (w : World) (h : m91_1 R (e 0) (e 1) w) : W91 k91_1 Q e w := by
  unfold m91_1 at h
  refine seA ?_
  have hN : ∀ e w, (m91_2 R (e 4) w) → (thenE (W91 k91_2 Q) Q) .normal e w := fun e w h => then_N (s91_2 (R := R) (Q := Q) hR e w h)
  exact rgA 1 (fun e w => m91_2 R (e 4) w) h hN
theorem s91_0 {R : VP} {Q : EQ} (hR : ∀ e w, (R (e 4) w) → Q .ret e w) (e : Env) (w : World) (h : m91_0 R (e 0) (e 1) w) : W91 k91_0 Q e w := by
  unfold m91_0 at h
  refine seA ?_
  have hN : ∀ e w, (m91_1 R (e 0) (e 1) w) → (thenE (W91 k91_1 Q) Q) .normal e w := fun e w h => then_N (s91_1 (R := R) (Q := Q) hR e w h)
  exact rgA 0 (fun e w => m91_1 R (e 0) (e 1) w) h hN
abbrev m91 (R : VP) (s0 f1 : Value) (w : World) : Prop := m91_0 R s0 f1 w
theorem s91 (s0 f1 : Value) {R : VP} {w : World} (h : m91 R s0 f1 w) :
    Calls Try.prog 91 #[s0, f1] w fun e w' => ∃ v, e = .returned v ∧ R v w' :=
  calls_of_cwp (st := (fun i => 0)) (c := k91_0) (by kernel_rfl) Try.func91 (by kernel_rfl) (Nat.le_of_ble_eq_true (by kernel_rfl)) (by kernel_rfl)
    (s91_0 (R := R) (Q := endE Try.prog Try.f91 R) (fun e w h => kcast (by kernel_rfl) h) (argsE #[s0, f1]) w (kcast (by kernel_rfl) h))
/-! ### slices.IndexFunc[[]int,int] -/
def m100_11 (R : VP) (K1 : VP) (t4 : Value) (w : World) : Prop :=
  R t4 w
def m100_8 (R : VP) (K1 : VP) (s0 f1 t7 t8 : Value) (w : World) : Prop :=
  valP Try.prog (binS BinOp.add 3 (Operand.tmp 8) (Operand.const (Value.int IntKind.i64 1)) t8 (Value.int IntKind.i64 1)) w fun t18 w =>
  K1 t18 w
def m100_10 (R : VP) (K1 : VP) (s0 f1 i5 t7 t8 t16 : Value) (w : World) : Prop :=
  condP t16
  (m100_11 R K1 i5 w)
  (m100_8 R K1 s0 f1 t7 t8 w)
def m100_9 (R : VP) (K1 : VP) (s0 f1 i5 t7 t8 : Value) (w : World) : Prop :=
  valP Try.prog (Instr.indexAt 63 s0 i5) w fun t14 w =>
  valP Try.prog (Instr.loadAt 3 t14) w fun t15 w =>
  callP Try.prog f1 #[t15] w fun t16 w =>
  m100_10 R K1 s0 f1 i5 t7 t8 t16 w
def m100_7 (R : VP) (K1 : VP) (s0 f1 t7 t8 : Value) (w : World) : Prop :=
  m100_9 R K1 s0 f1 t8 t7 t8 w
def m100_3 (R : VP) (t4 : Value) (w : World) : Prop :=
  R t4 w
def m100_2 (R : VP) (w : World) : Prop :=
  m100_3 R (Value.int IntKind.i64 (-1)) w
def m100_6 (R : VP) (K1 : VP) (s0 f1 t7 t8 t9 : Value) (w : World) : Prop :=
  condP t9
  (m100_7 R K1 s0 f1 t7 t8 w)
  (m100_2 R w)
def m100_5 (R : VP) (K1 : VP) (s0 f1 t7 t8 : Value) (w : World) : Prop :=
  valP Try.prog (binS BinOp.lss 3 (Operand.tmp 8) (Operand.tmp 7) t8 t7) w fun t9 w =>
  m100_6 R K1 s0 f1 t7 t8 t9 w
def m100_4 (R : VP) (s0 f1 t7 t8 : Value) (w : World) : Prop :=
  loopP (fun (K1 : VP) (s : Value) w => m100_5 R K1 s0 f1 t7 s w) t8 w
def m100_1 (R : VP) (s0 f1 : Value) (w : World) : Prop :=
  builtinP Try.prog Builtin.len #[63] 3 #[false] #[s0] w fun t7 w =>
  m100_4 R s0 f1 t7 (Value.int IntKind.i64 0) w
def m100_0 (R : VP) (s0 f1 : Value) (w : World) : Prop :=
  m100_1 R s0 f1 w
abbrev W100 := cwp Try.prog (fun i => 0)
noncomputable def k100_0 : Code := (bodyOf Try.f100)
noncomputable def k100_1 : Code := (c2 k100_0)
noncomputable def k100_2 : Code := (c2 k100_1)
noncomputable def k100_3 : Code := (c2 k100_2)
noncomputable def k100_4 : Code := (c2 (c1 k100_1))
noncomputable def k100_5 : Code := (c1 (c1 k100_4))
noncomputable def k100_6 : Code := (c2 k100_5)
noncomputable def k100_7 : Code := (c2 k100_6)
noncomputable def k100_8 : Code := (c2 k100_7)
noncomputable def k100_9 : Code := (c2 (c1 (c1 k100_7)))
noncomputable def k100_10 : Code := (c2 k100_9)
noncomputable def k100_11 : Code := (c2 (c1 k100_10))
theorem s100_11 {R : VP} {K1 : VP} {Q : EQ} (hR : ∀ e w, (R (e 4) w) → Q .ret e w) (e : Env) (w : World) (h : m100_11 R K1 (e 4) w) : W100 k100_11 Q e w := by
  unfold m100_11 at h
  exact reA (hR _ _ h)
theorem s100_8 {R : VP} {K1 : VP} {Q : EQ} (hN : ∀ e w, (K1 (e 8) w) → Q .normal e w) (e : Env) (w : World) (h : m100_8 R K1 (e 0) (e 1) (e 7) (e 8) w) : W100 k100_8 Q e w := by
  unfold m100_8 at h
  exact rgA 6 (fun e w => K1 (e 8) w) h hN
theorem s100_10 {R : VP} {K1 : VP} {Q : EQ} (hN : ∀ e w, (m100_8 R K1 (e 0) (e 1) (e 7) (e 8) w) → Q .normal e w) (hR : ∀ e w, (R (e 4) w) → Q .ret e w) (e : Env) (w : World) (h : m100_10 R K1 (e 0) (e 1) (e 5) (e 7) (e 8) (e 16) w) : W100 k100_10 Q e w := by
  unfold m100_10 at h
  refine coA (Operand.tmp 16) h (fun h1 => ?_) (fun h1 => ?_)
  · refine seA ?_
    have hN : ∀ e w, (m100_11 R K1 (e 4) w) → (thenE (W100 k100_11 Q) Q) .normal e w := fun e w h => then_N (s100_11 (R := R) (Q := Q) (K1 := K1) hR e w h)
    exact rgA 5 (fun e w => m100_11 R K1 (e 4) w) h1 hN
  · exact skA (hN _ _ h1)
theorem s100_9 {R : VP} {K1 : VP} {Q : EQ} (hN : ∀ e w, (m100_8 R K1 (e 0) (e 1) (e 7) (e 8) w) → Q .normal e w) (hR : ∀ e w, (R (e 4) w) → Q .ret e w) (e : Env) (w : World) (h : m100_9 R K1 (e 0) (e 1) (e 5) (e 7) (e 8) w) : W100 k100_9 Q e w := by
  unfold m100_9 at h
  refine seA ?_
  have hN : ∀ e w, (m100_10 R K1 (e 0) (e 1) (e 5) (e 7) (e 8) (e 16) w) → (thenE (W100 k100_10 Q) Q) .normal e w := fun e w h => then_N (s100_10 (R := R) (Q := Q) (K1 := K1) hN hR e w h)
  exact rgA 4 (fun e w => m100_10 R K1 (e 0) (e 1) (e 5) (e 7) (e 8) (e 16) w) h hN
theorem s100_7 {R : VP} {K1 : VP} {Q : EQ} (hN : ∀ e w, (K1 (e 8) w) → Q .normal e w) (hR : ∀ e w, (R (e 4) w) → Q .ret e w) (e : Env) (w : World) (h : m100_7 R K1 (e 0) (e 1) (e 7) (e 8) w) : W100 k100_7 Q e w := by
  unfold m100_7 at h
  refine seA ?_
  have hN : ∀ e w, (m100_8 R K1 (e 0) (e 1) (e 7) (e 8) w) → (thenE (W100 k100_8 Q) Q) .normal e w := fun e w h => then_N (s100_8 (R := R) (Q := Q) (K1 := K1) hN e w h)
  have hR : ∀ e w, (R (e 4) w) → (thenE (W100 k100_8 Q) Q) .ret e w := fun e w h => then_R (hR e w h)
  refine block_ok 1 (by kernel_rfl) ?_
  have hN : ∀ e w, (m100_8 R K1 (e 0) (e 1) (e 7) (e 8) w) → (inBlockE 1 (thenE (W100 k100_8 Q) Q)) .normal e w := fun e w h => block_N (hN e w h)
  have hR : ∀ e w, (R (e 4) w) → (inBlockE 1 (thenE (W100 k100_8 Q) Q)) .ret e w := fun e w h => block_R (hR e w h)
  refine seA ?_
  have hN : ∀ e w, (m100_9 R K1 (e 0) (e 1) (e 5) (e 7) (e 8) w) → (thenE (W100 k100_9 (inBlockE 1 (thenE (W100 k100_8 Q) Q))) (inBlockE 1 (thenE (W100 k100_8 Q) Q))) .normal e w := fun e w h => then_N (s100_9 (R := R) (Q := (inBlockE 1 (thenE (W100 k100_8 Q) Q))) (K1 := K1) hN hR e w h)
  exact rgA 3 (fun e w => m100_9 R K1 (e 0) (e 1) (e 5) (e 7) (e 8) w) h hN
theorem s100_3 {R : VP} {Q : EQ} (hR : ∀ e w, (R (e 4) w) → Q .ret e w) (e : Env) (w : World) (h : m100_3 R (e 4) w) : W100 k100_3 Q e w := by
  unfold m100_3 at h
  exact reA (hR _ _ h)
theorem s100_2 {R : VP} {Q : EQ} (hR : ∀ e w, (R (e 4) w) → Q .ret e w) (e : Env) (w : World) (h : m100_2 R w) : W100 k100_2 Q e w := by
  unfold m100_2 at h
  refine seA ?_
  have hN : ∀ e w, (m100_3 R (e 4) w) → (thenE (W100 k100_3 Q) Q) .normal e w := fun e w h => then_N (s100_3 (R := R) (Q := Q) hR e w h)
  exact rgA 7 (fun e w => m100_3 R (e 4) w) h hN
theorem s100_6 {R : VP} {K1 : VP} {Q : EQ} (hN : ∀ e w, (K1 (e 8) w) → Q .normal e w) (hR : ∀ e w, (R (e 4) w) → Q .ret e w) (hX0 : ∀ e w, (m100_2 R w) → Q (.exit 0) e w) (e : Env) (w : World) (h : m100_6 R K1 (e 0) (e 1) (e 7) (e 8) (e 9) w) : W100 k100_6 Q e w := by
  unfold m100_6 at h
  refine seA ?_
  have hN : ∀ e w, (m100_7 R K1 (e 0) (e 1) (e 7) (e 8) w) → (thenE (W100 k100_7 Q) Q) .normal e w := fun e w h => then_N (s100_7 (R := R) (Q := Q) (K1 := K1) hN hR e w h)
  have hX0 : ∀ e w, (m100_2 R w) → (thenE (W100 k100_7 Q) Q) (.exit 0) e w := fun e w h => then_X (hX0 e w h)
  refine coA (Operand.tmp 9) h (fun h1 => ?_) (fun h1 => ?_)
  · exact skA (hN _ _ h1)
  · exact exA 0 (hX0 _ _ h1)
theorem s100_5 {R : VP} {K1 : VP} {Q : EQ} (hN : ∀ e w, (K1 (e 8) w) → Q .normal e w) (hR : ∀ e w, (R (e 4) w) → Q .ret e w) (hX0 : ∀ e w, (m100_2 R w) → Q (.exit 0) e w) (e : Env) (w : World) (h : m100_5 R K1 (e 0) (e 1) (e 7) (e 8) w) : W100 k100_5 Q e w := by
  unfold m100_5 at h
  refine seA ?_
  have hN : ∀ e w, (m100_6 R K1 (e 0) (e 1) (e 7) (e 8) (e 9) w) → (thenE (W100 k100_6 Q) Q) .normal e w := fun e w h => then_N (s100_6 (R := R) (Q := Q) (K1 := K1) hN hR hX0 e w h)
  exact rgA 2 (fun e w => m100_6 R K1 (e 0) (e 1) (e 7) (e 8) (e 9) w) h hN
theorem s100_4 {R : VP} {Q : EQ} (hN : ∀ e w, (m100_2 R w) → Q .normal e w) (hR : ∀ e w, (R (e 4) w) → Q .ret e w) (e : Env) (w : World) (h : m100_4 R (e 0) (e 1) (e 7) (e 8) w) : W100 k100_4 Q e w := by
  unfold m100_4 at h
  refine block_ok 0 (by kernel_rfl) ?_
  have hX0 : ∀ e w, (m100_2 R w) → (inBlockE 0 Q) (.exit 0) e w := fun e w h => inBlock_same (Q := Q) 0 (hN e w h)
  have hR : ∀ e w, (R (e 4) w) → (inBlockE 0 Q) .ret e w := fun e w h => block_R (hR e w h)
  refine loop_ok' (fun (e : Env) => e 8) [0, 1, 7] (by kernel_rfl) (by kernel_rfl) h (fun K e' w' hk h' => ?_)
  have r0 : e' 0 = e 0 := hk 0 (by decide)
  have r1 : e' 1 = e 1 := hk 1 (by decide)
  have r7 : e' 7 = e 7 := hk 7 (by decide)
  have hR : ∀ e w, (R (e 4) w) → (thenE (fun (e : Env) w => K (e 8) w) (inBlockE 0 Q)) .ret e w := fun e w h => then_R (hR e w h)
  have hX0 : ∀ e w, (m100_2 R w) → (thenE (fun (e : Env) w => K (e 8) w) (inBlockE 0 Q)) (.exit 0) e w := fun e w h => then_X (hX0 e w h)
  exact s100_5 (R := R) (Q := (thenE (fun (e : Env) w => K (e 8) w) (inBlockE 0 Q))) (K1 := K) (fun _ _ h => then_N h) hR hX0 e' w' (by rw [r0, r1, r7]; exact h')
theorem s100_1 {R : VP} {Q : EQ} (hR : ∀ e w, (R (e 4) w) → Q .ret e w) (e : Env) (w : World) (h : m100_1 R (e 0) (e 1) w) : W100 k100_1 Q e w := by
  unfold m100_1 at h
  refine seA ?_
  have hN : ∀ e w, (m100_2 R w) → (thenE (W100 k100_2 Q) Q) .normal e w := fun e w h => then_N (s100_2 (R := R) (Q := Q) hR e w h)
  have hR : ∀ e w, (R (e 4) w) → (thenE (W100 k100_2 Q) Q) .ret e w := fun e w h => then_R (hR e w h)
  refine seA ?_
  have hN : ∀ e w, (m100_4 R (e 0) (e 1) (e 7) (e 8) w) → (thenE (W100 k100_4 (thenE (W100 k100_2 Q) Q)) (thenE (W100 k100_2 Q) Q)) .normal e w := fun e w h => then_N (s100_4 (R := R) (Q := (thenE (W100 k100_2 Q) Q)) hN hR e w h)
  exact rgA 1 (fun e w => m100_4 R (e 0) (e 1) (e 7) (e 8) w) h hN
theorem s100_0 {R : VP} {Q : EQ} (hR : ∀ e w, (R (e 4) w) → Q .ret e w) (e : Env) (w : World) (h : m100_0 R (e 0) (e 1) w) : W100 k100_0 Q e w := by
  unfold m100_0 at h
  refine seA ?_
  have hN : ∀ e w, (m100_1 R (e 0) (e 1) w) → (thenE (W100 k100_1 Q) Q) .normal e w := fun e w h => then_N (s100_1 (R := R) (Q := Q) hR e w h)
  exact rgA 0 (fun e w => m100_1 R (e 0) (e 1) w) h hN
abbrev m100 (R : VP) (s0 f1 : Value) (w : World) : Prop := m100_0 R s0 f1 w
theorem s100 (s0 f1 : Value) {R : VP} {w : World} (h : m100 R s0 f1 w) :
    Calls Try.prog 100 #[s0, f1] w fun e w' => ∃ v, e = .returned v ∧ R v w' :=
  calls_of_cwp (st := (fun i => 0)) (c := k100_0) (by kernel_rfl) Try.func100 (by kernel_rfl) (Nat.le_of_ble_eq_true (by kernel_rfl)) (by kernel_rfl)
    (s100_0 (R := R) (Q := endE Try.prog Try.f100 R) (fun e w h => kcast (by kernel_rfl) h) (argsE #[s0, f1]) w (kcast (by kernel_rfl) h))
end Go.Proofs.Ytcdnkbplplghmaa.M
