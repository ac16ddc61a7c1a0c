/- What functions' texts ask of their ends, told over values that have names; printed by a program of this work. -/
import Derived.Test.YtcdnkbplplghmaaFw
import Derived.Test.YtcdnkbplplghmaaProg
namespace Go.Proofs.Ytcdnkbplplghmaa.M
open Go.Proofs.Ytcdnkbplplghmaa.F
set_option linter.unusedVariables false
set_option maxRecDepth 100000
/-! ### (headgate/crc.register).step -/
def m97_5 (R : VP) (t2 : Value) (w : World) : Prop :=
  R t2 w
def m97_3 (R : VP) (t2 : Value) (w : World) : Prop :=
  R t2 w
def m97_2 (R : VP) (r0 : Value) (w : World) : Prop :=
  valP Try.prog (binS BinOp.shr 148 (Operand.tmp 9) (Operand.const (Value.int IntKind.u64 1)) r0 (Value.int IntKind.u64 1)) w fun t10 w =>
  m97_3 R t10 w
def m97_4 (R : VP) (r0 t5 : Value) (w : World) : Prop :=
  condP t5
  (valP Try.prog (binS BinOp.shr 148 (Operand.tmp 6) (Operand.const (Value.int IntKind.u64 1)) r0 (Value.int IntKind.u64 1)) w fun t7 w =>
  valP Try.prog (binS BinOp.xor 148 (Operand.tmp 7) (Operand.const (Value.int IntKind.u32 2197175160)) t7 (Value.int IntKind.u32 2197175160)) w fun t8 w =>
  m97_5 R t8 w)
  (m97_2 R r0 w)
def m97_1 (R : VP) (r0 : Value) (w : World) : Prop :=
  valP Try.prog (binS BinOp.and 148 (Operand.tmp 3) (Operand.const (Value.int IntKind.u32 1)) r0 (Value.int IntKind.u32 1)) w fun t4 w =>
  valP Try.prog (binS BinOp.eql 148 (Operand.tmp 4) (Operand.const (Value.int IntKind.u32 1)) t4 (Value.int IntKind.u32 1)) w fun t5 w =>
  m97_4 R r0 t5 w
def m97_0 (R : VP) (r0 : Value) (w : World) : Prop :=
  m97_1 R r0 w
abbrev W97 := cwp Try.prog (fun i => 0)
noncomputable def k97_0 : Code := (bodyOf Try.f97)
noncomputable def k97_1 : Code := (c2 k97_0)
noncomputable def k97_2 : Code := (c2 k97_1)
noncomputable def k97_3 : Code := (c2 k97_2)
noncomputable def k97_4 : Code := (c2 (c1 k97_1))
noncomputable def k97_5 : Code := (c2 (c1 k97_4))
theorem s97_5 {R : VP} {Q : EQ} (hR : ∀ e w, (R (e 2) w) → Q .ret e w) (e : Env) (w : World) (h : m97_5 R (e 2) w) : W97 k97_5 Q e w := by
  unfold m97_5 at h
  exact reA (hR _ _ h)
theorem s97_3 {R : VP} {Q : EQ} (hR : ∀ e w, (R (e 2) w) → Q .ret e w) (e : Env) (w : World) (h : m97_3 R (e 2) w) : W97 k97_3 Q e w := by
  unfold m97_3 at h
  exact reA (hR _ _ h)
theorem s97_2 {R : VP} {Q : EQ} (hR : ∀ e w, (R (e 2) w) → Q .ret e w) (e : Env) (w : World) (h : m97_2 R (e 0) w) : W97 k97_2 Q e w := by
  unfold m97_2 at h
  refine seA ?_
  have hN : ∀ e w, (m97_3 R (e 2) w) → (thenE (W97 k97_3 Q) Q) .normal e w := fun e w h => then_N (s97_3 (R := R) (Q := Q) hR e w h)
  exact rgA 3 (fun e w => m97_3 R (e 2) w) h hN
theorem s97_4 {R : VP} {Q : EQ} (hN : ∀ e w, (m97_2 R (e 0) w) → Q .normal e w) (hR : ∀ e w, (R (e 2) w) → Q .ret e w) (e : Env) (w : World) (h : m97_4 R (e 0) (e 5) w) : W97 k97_4 Q e w := by
  unfold m97_4 at h
  refine coA (Operand.tmp 5) h (fun h1 => ?_) (fun h1 => ?_)
  · refine seA ?_
    have hN : ∀ e w, (m97_5 R (e 2) w) → (thenE (W97 k97_5 Q) Q) .normal e w := fun e w h => then_N (s97_5 (R := R) (Q := Q) hR e w h)
    exact rgA 2 (fun e w => m97_5 R (e 2) w) h1 hN
  · exact skA (hN _ _ h1)
theorem s97_1 {R : VP} {Q : EQ} (hR : ∀ e w, (R (e 2) w) → Q .ret e w) (e : Env) (w : World) (h : m97_1 R (e 0) w) : W97 k97_1 Q e w := by
  unfold m97_1 at h
  refine seA ?_
  have hN : ∀ e w, (m97_2 R (e 0) w) → (thenE (W97 k97_2 Q) Q) .normal e w := fun e w h => then_N (s97_2 (R := R) (Q := Q) hR e w h)
  have hR : ∀ e w, (R (e 2) w) → (thenE (W97 k97_2 Q) Q) .ret e w := fun e w h => then_R (hR e w h)
  refine seA ?_
  have hN : ∀ e w, (m97_4 R (e 0) (e 5) w) → (thenE (W97 k97_4 (thenE (W97 k97_2 Q) Q)) (thenE (W97 k97_2 Q) Q)) .normal e w := fun e w h => then_N (s97_4 (R := R) (Q := (thenE (W97 k97_2 Q) Q)) hN hR e w h)
  exact rgA 1 (fun e w => m97_4 R (e 0) (e 5) w) h hN
theorem s97_0 {R : VP} {Q : EQ} (hR : ∀ e w, (R (e 2) w) → Q .ret e w) (e : Env) (w : World) (h : m97_0 R (e 0) w) : W97 k97_0 Q e w := by
  unfold m97_0 at h
  refine seA ?_
  have hN : ∀ e w, (m97_1 R (e 0) w) → (thenE (W97 k97_1 Q) Q) .normal e w := fun e w h => then_N (s97_1 (R := R) (Q := Q) hR e w h)
  exact rgA 0 (fun e w => m97_1 R (e 0) w) h hN
abbrev m97 (R : VP) (r0 : Value) (w : World) : Prop := m97_0 R r0 w
theorem s97 (r0 : Value) {R : VP} {w : World} (h : m97 R r0 w) :
    Calls Try.prog 97 #[r0] w fun e w' => ∃ v, e = .returned v ∧ R v w' :=
  calls_of_cwp (st := (fun i => 0)) (c := k97_0) (by kernel_rfl) Try.func97 (by kernel_rfl) (Nat.le_of_ble_eq_true (by kernel_rfl)) (by kernel_rfl)
    (s97_0 (R := R) (Q := endE Try.prog Try.f97 R) (fun e w h => kcast (by kernel_rfl) h) (argsE #[r0]) w (kcast (by kernel_rfl) h))
/-! ### headgate/crc.More -/
def m85_16 (R : VP) (K1 : (Value × Value) → World → Prop) (K2 : (Value × Value) → World → Prop) (s1 r5 t10 t11 t20 : Value) (w : World) : Prop :=
  valP Try.prog (binS BinOp.add 3 (Operand.tmp 20) (Operand.const (Value.int IntKind.i64 1)) t20 (Value.int IntKind.i64 1)) w fun t24 w =>
  K2 (r5, t24) w
def m85_15 (R : VP) (K1 : (Value × Value) → World → Prop) (K2 : (Value × Value) → World → Prop) (s1 r5 t10 t11 t20 : Value) (w : World) : Prop :=
  callP Try.prog (fnV 97) #[r5] w fun t23 w =>
  m85_16 R K1 K2 s1 t23 t10 t11 t20 w
def m85_9 (R : VP) (K1 : (Value × Value) → World → Prop) (s1 r5 t10 t11 : Value) (w : World) : Prop :=
  valP Try.prog (binS BinOp.add 3 (Operand.tmp 11) (Operand.const (Value.int IntKind.i64 1)) t11 (Value.int IntKind.i64 1)) w fun t25 w =>
  K1 (r5, t25) w
def m85_14 (R : VP) (K1 : (Value × Value) → World → Prop) (K2 : (Value × Value) → World → Prop) (s1 r5 t10 t11 t20 t21 : Value) (w : World) : Prop :=
  condP t21
  (m85_15 R K1 K2 s1 r5 t10 t11 t20 w)
  (m85_9 R K1 s1 r5 t10 t11 w)
def m85_13 (R : VP) (K1 : (Value × Value) → World → Prop) (K2 : (Value × Value) → World → Prop) (s1 r5 t10 t11 t20 : Value) (w : World) : Prop :=
  valP Try.prog (binS BinOp.lss 3 (Operand.tmp 20) (Operand.const (Value.int IntKind.i64 8)) t20 (Value.int IntKind.i64 8)) w fun t21 w =>
  m85_14 R K1 K2 s1 r5 t10 t11 t20 t21 w
def m85_12 (R : VP) (K1 : (Value × Value) → World → Prop) (s1 r5 t10 t11 t20 : Value) (w : World) : Prop :=
  loopP (fun (K2 : (Value × Value) → World → Prop) (s : Value × Value) w => m85_13 R K1 K2 s1 s.1 t10 t11 s.2 w) (r5, t20) w
def m85_11 (R : VP) (K1 : (Value × Value) → World → Prop) (s1 r5 t10 t11 : Value) (w : World) : Prop :=
  m85_12 R K1 s1 r5 t10 t11 (Value.int IntKind.i64 0) w
def m85_10 (R : VP) (K1 : (Value × Value) → World → Prop) (s1 r5 i6 t10 t11 : Value) (w : World) : Prop :=
  valP Try.prog (Instr.index 9 s1 i6) w fun t17 w =>
  valP Try.prog (convert 5 148 t17) w fun t18 w =>
  valP Try.prog (binS BinOp.xor 148 (Operand.tmp 14) (Operand.tmp 18) r5 t18) w fun t19 w =>
  m85_11 R K1 s1 t19 t10 t11 w
def m85_8 (R : VP) (K1 : (Value × Value) → World → Prop) (s1 r5 t10 t11 : Value) (w : World) : Prop :=
  m85_10 R K1 s1 r5 t11 t10 t11 w
def m85_4 (R : VP) (t4 : Value) (w : World) : Prop :=
  R t4 w
def m85_3 (R : VP) (r5 : Value) (w : World) : Prop :=
  valP Try.prog (Op.unary UnOp.xor r5) w fun t27 w =>
  m85_4 R t27 w
def m85_7 (R : VP) (K1 : (Value × Value) → World → Prop) (s1 r5 t10 t11 t12 : Value) (w : World) : Prop :=
  condP t12
  (m85_8 R K1 s1 r5 t10 t11 w)
  (m85_3 R r5 w)
def m85_6 (R : VP) (K1 : (Value × Value) → World → Prop) (s1 r5 t10 t11 : Value) (w : World) : Prop :=
  valP Try.prog (binS BinOp.lss 3 (Operand.tmp 11) (Operand.tmp 10) t11 t10) w fun t12 w =>
  m85_7 R K1 s1 r5 t10 t11 t12 w
def m85_5 (R : VP) (s1 r5 t10 t11 : Value) (w : World) : Prop :=
  loopP (fun (K1 : (Value × Value) → World → Prop) (s : Value × Value) w => m85_6 R K1 s1 s.1 t10 s.2 w) (r5, t11) w
def m85_2 (R : VP) (s1 r5 : Value) (w : World) : Prop :=
  builtinP Try.prog Builtin.len #[9] 3 #[false] #[s1] w fun t10 w =>
  m85_5 R s1 r5 t10 (Value.int IntKind.i64 0) w
def m85_1 (R : VP) (c0 s1 : Value) (w : World) : Prop :=
  valP Try.prog (Op.unary UnOp.xor c0) w fun t8 w =>
  m85_2 R s1 t8 w
def m85_0 (R : VP) (c0 s1 : Value) (w : World) : Prop :=
  m85_1 R c0 s1 w
abbrev W85 := cwp Try.prog (fun i => 0)
noncomputable def k85_0 : Code := (bodyOf Try.f85)
noncomputable def k85_1 : Code := (c2 k85_0)
noncomputable def k85_2 : Code := (c2 k85_1)
noncomputable def k85_3 : Code := (c2 k85_2)
noncomputable def k85_4 : Code := (c2 k85_3)
noncomputable def k85_5 : Code := (c2 (c1 k85_2))
noncomputable def k85_6 : Code := (c1 (c1 k85_5))
noncomputable def k85_7 : Code := (c2 k85_6)
noncomputable def k85_8 : Code := (c2 k85_7)
noncomputable def k85_9 : Code := (c2 k85_8)
noncomputable def k85_10 : Code := (c2 (c1 (c1 k85_8)))
noncomputable def k85_11 : Code := (c2 k85_10)
noncomputable def k85_12 : Code := (c2 k85_11)
noncomputable def k85_13 : Code := (c1 (c1 k85_12))
noncomputable def k85_14 : Code := (c2 k85_13)
noncomputable def k85_15 : Code := (c2 k85_14)
noncomputable def k85_16 : Code := (c2 k85_15)
theorem s85_16 {R : VP} {K1 : (Value × Value) → World → Prop} {K2 : (Value × Value) → World → Prop} {Q : EQ} (hN : ∀ e w, (K2 ((e 5), (e 20)) w) → Q .normal e w) (e : Env) (w : World) (h : m85_16 R K1 K2 (e 1) (e 5) (e 10) (e 11) (e 20) w) : W85 k85_16 Q e w := by
  unfold m85_16 at h
  exact rgA 9 (fun e w => K2 ((e 5), (e 20)) w) h hN
theorem s85_15 {R : VP} {K1 : (Value × Value) → World → Prop} {K2 : (Value × Value) → World → Prop} {Q : EQ} (hN : ∀ e w, (K2 ((e 5), (e 20)) w) → Q .normal e w) (e : Env) (w : World) (h : m85_15 R K1 K2 (e 1) (e 5) (e 10) (e 11) (e 20) w) : W85 k85_15 Q e w := by
  unfold m85_15 at h
  refine seA ?_
  have hN : ∀ e w, (m85_16 R K1 K2 (e 1) (e 5) (e 10) (e 11) (e 20) w) → (thenE (W85 k85_16 Q) Q) .normal e w := fun e w h => then_N (s85_16 (R := R) (Q := Q) (K1 := K1) (K2 := K2) hN e w h)
  refine block_ok 3 (by kernel_rfl) ?_
  have hN : ∀ e w, (m85_16 R K1 K2 (e 1) (e 5) (e 10) (e 11) (e 20) w) → (inBlockE 3 (thenE (W85 k85_16 Q) Q)) .normal e w := fun e w h => block_N (hN e w h)
  exact rgA 8 (fun e w => m85_16 R K1 K2 (e 1) (e 5) (e 10) (e 11) (e 20) w) h hN
theorem s85_9 {R : VP} {K1 : (Value × Value) → World → Prop} {Q : EQ} (hN : ∀ e w, (K1 ((e 5), (e 11)) w) → Q .normal e w) (e : Env) (w : World) (h : m85_9 R K1 (e 1) (e 5) (e 10) (e 11) w) : W85 k85_9 Q e w := by
  unfold m85_9 at h
  exact rgA 10 (fun e w => K1 ((e 5), (e 11)) w) h hN
theorem s85_14 {R : VP} {K1 : (Value × Value) → World → Prop} {K2 : (Value × Value) → World → Prop} {Q : EQ} (hN : ∀ e w, (K2 ((e 5), (e 20)) w) → Q .normal e w) (hX2 : ∀ e w, (m85_9 R K1 (e 1) (e 5) (e 10) (e 11) w) → Q (.exit 2) e w) (e : Env) (w : World) (h : m85_14 R K1 K2 (e 1) (e 5) (e 10) (e 11) (e 20) (e 21) w) : W85 k85_14 Q e w := by
  unfold m85_14 at h
  refine seA ?_
  have hN : ∀ e w, (m85_15 R K1 K2 (e 1) (e 5) (e 10) (e 11) (e 20) w) → (thenE (W85 k85_15 Q) Q) .normal e w := fun e w h => then_N (s85_15 (R := R) (Q := Q) (K1 := K1) (K2 := K2) hN e w h)
  have hX2 : ∀ e w, (m85_9 R K1 (e 1) (e 5) (e 10) (e 11) w) → (thenE (W85 k85_15 Q) Q) (.exit 2) e w := fun e w h => then_X (hX2 e w h)
  refine coA (Operand.tmp 21) h (fun h1 => ?_) (fun h1 => ?_)
  · exact skA (hN _ _ h1)
  · exact exA 2 (hX2 _ _ h1)
theorem s85_13 {R : VP} {K1 : (Value × Value) → World → Prop} {K2 : (Value × Value) → World → Prop} {Q : EQ} (hN : ∀ e w, (K2 ((e 5), (e 20)) w) → Q .normal e w) (hX2 : ∀ e w, (m85_9 R K1 (e 1) (e 5) (e 10) (e 11) w) → Q (.exit 2) e w) (e : Env) (w : World) (h : m85_13 R K1 K2 (e 1) (e 5) (e 10) (e 11) (e 20) w) : W85 k85_13 Q e w := by
  unfold m85_13 at h
  refine seA ?_
  have hN : ∀ e w, (m85_14 R K1 K2 (e 1) (e 5) (e 10) (e 11) (e 20) (e 21) w) → (thenE (W85 k85_14 Q) Q) .normal e w := fun e w h => then_N (s85_14 (R := R) (Q := Q) (K1 := K1) (K2 := K2) hN hX2 e w h)
  exact rgA 7 (fun e w => m85_14 R K1 K2 (e 1) (e 5) (e 10) (e 11) (e 20) (e 21) w) h hN
theorem s85_12 {R : VP} {K1 : (Value × Value) → World → Prop} {Q : EQ} (hN : ∀ e w, (m85_9 R K1 (e 1) (e 5) (e 10) (e 11) w) → Q .normal e w) (e : Env) (w : World) (h : m85_12 R K1 (e 1) (e 5) (e 10) (e 11) (e 20) w) : W85 k85_12 Q e w := by
  unfold m85_12 at h
  refine block_ok 2 (by kernel_rfl) ?_
  have hX2 : ∀ e w, (m85_9 R K1 (e 1) (e 5) (e 10) (e 11) w) → (inBlockE 2 Q) (.exit 2) e w := fun e w h => inBlock_same (Q := Q) 2 (hN e w h)
  refine loop_ok' (fun (e : Env) => (e 5, e 20)) [1, 10, 11] (by kernel_rfl) (by kernel_rfl) h (fun K e' w' hk h' => ?_)
  have r1 : e' 1 = e 1 := hk 1 (by decide)
  have r10 : e' 10 = e 10 := hk 10 (by decide)
  have r11 : e' 11 = e 11 := hk 11 (by decide)
  have hX2 : ∀ e w, (m85_9 R K1 (e 1) (e 5) (e 10) (e 11) w) → (thenE (fun (e : Env) w => K ((e 5), (e 20)) w) (inBlockE 2 Q)) (.exit 2) e w := fun e w h => then_X (hX2 e w h)
  exact s85_13 (R := R) (Q := (thenE (fun (e : Env) w => K ((e 5), (e 20)) w) (inBlockE 2 Q))) (K1 := K1) (K2 := K) (fun _ _ h => then_N h) hX2 e' w' (by rw [r1, r10, r11]; exact h')
theorem s85_11 {R : VP} {K1 : (Value × Value) → World → Prop} {Q : EQ} (hN : ∀ e w, (m85_9 R K1 (e 1) (e 5) (e 10) (e 11) w) → Q .normal e w) (e : Env) (w : World) (h : m85_11 R K1 (e 1) (e 5) (e 10) (e 11) w) : W85 k85_11 Q e w := by
  unfold m85_11 at h
  refine seA ?_
  have hN : ∀ e w, (m85_12 R K1 (e 1) (e 5) (e 10) (e 11) (e 20) w) → (thenE (W85 k85_12 Q) Q) .normal e w := fun e w h => then_N (s85_12 (R := R) (Q := Q) (K1 := K1) hN e w h)
  exact rgA 6 (fun e w => m85_12 R K1 (e 1) (e 5) (e 10) (e 11) (e 20) w) h hN
theorem s85_10 {R : VP} {K1 : (Value × Value) → World → Prop} {Q : EQ} (hN : ∀ e w, (m85_9 R K1 (e 1) (e 5) (e 10) (e 11) w) → Q .normal e w) (e : Env) (w : World) (h : m85_10 R K1 (e 1) (e 5) (e 6) (e 10) (e 11) w) : W85 k85_10 Q e w := by
  unfold m85_10 at h
  refine seA ?_
  have hN : ∀ e w, (m85_11 R K1 (e 1) (e 5) (e 10) (e 11) w) → (thenE (W85 k85_11 Q) Q) .normal e w := fun e w h => then_N (s85_11 (R := R) (Q := Q) (K1 := K1) hN e w h)
  exact rgA 5 (fun e w => m85_11 R K1 (e 1) (e 5) (e 10) (e 11) w) h hN
theorem s85_8 {R : VP} {K1 : (Value × Value) → World → Prop} {Q : EQ} (hN : ∀ e w, (K1 ((e 5), (e 11)) w) → Q .normal e w) (e : Env) (w : World) (h : m85_8 R K1 (e 1) (e 5) (e 10) (e 11) w) : W85 k85_8 Q e w := by
  unfold m85_8 at h
  refine seA ?_
  have hN : ∀ e w, (m85_9 R K1 (e 1) (e 5) (e 10) (e 11) w) → (thenE (W85 k85_9 Q) Q) .normal e w := fun e w h => then_N (s85_9 (R := R) (Q := Q) (K1 := K1) hN e w h)
  refine block_ok 1 (by kernel_rfl) ?_
  have hN : ∀ e w, (m85_9 R K1 (e 1) (e 5) (e 10) (e 11) w) → (inBlockE 1 (thenE (W85 k85_9 Q) Q)) .normal e w := fun e w h => block_N (hN e w h)
  refine seA ?_
  have hN : ∀ e w, (m85_10 R K1 (e 1) (e 5) (e 6) (e 10) (e 11) w) → (thenE (W85 k85_10 (inBlockE 1 (thenE (W85 k85_9 Q) Q))) (inBlockE 1 (thenE (W85 k85_9 Q) Q))) .normal e w := fun e w h => then_N (s85_10 (R := R) (Q := (inBlockE 1 (thenE (W85 k85_9 Q) Q))) (K1 := K1) hN e w h)
  exact rgA 4 (fun e w => m85_10 R K1 (e 1) (e 5) (e 6) (e 10) (e 11) w) h hN
theorem s85_4 {R : VP} {Q : EQ} (hR : ∀ e w, (R (e 4) w) → Q .ret e w) (e : Env) (w : World) (h : m85_4 R (e 4) w) : W85 k85_4 Q e w := by
  unfold m85_4 at h
  exact reA (hR _ _ h)
theorem s85_3 {R : VP} {Q : EQ} (hR : ∀ e w, (R (e 4) w) → Q .ret e w) (e : Env) (w : World) (h : m85_3 R (e 5) w) : W85 k85_3 Q e w := by
  unfold m85_3 at h
  refine seA ?_
  have hN : ∀ e w, (m85_4 R (e 4) w) → (thenE (W85 k85_4 Q) Q) .normal e w := fun e w h => then_N (s85_4 (R := R) (Q := Q) hR e w h)
  exact rgA 11 (fun e w => m85_4 R (e 4) w) h hN
theorem s85_7 {R : VP} {K1 : (Value × Value) → World → Prop} {Q : EQ} (hN : ∀ e w, (K1 ((e 5), (e 11)) w) → Q .normal e w) (hX0 : ∀ e w, (m85_3 R (e 5) w) → Q (.exit 0) e w) (e : Env) (w : World) (h : m85_7 R K1 (e 1) (e 5) (e 10) (e 11) (e 12) w) : W85 k85_7 Q e w := by
  unfold m85_7 at h
  refine seA ?_
  have hN : ∀ e w, (m85_8 R K1 (e 1) (e 5) (e 10) (e 11) w) → (thenE (W85 k85_8 Q) Q) .normal e w := fun e w h => then_N (s85_8 (R := R) (Q := Q) (K1 := K1) hN e w h)
  have hX0 : ∀ e w, (m85_3 R (e 5) w) → (thenE (W85 k85_8 Q) Q) (.exit 0) e w := fun e w h => then_X (hX0 e w h)
  refine coA (Operand.tmp 12) h (fun h1 => ?_) (fun h1 => ?_)
  · exact skA (hN _ _ h1)
  · exact exA 0 (hX0 _ _ h1)
theorem s85_6 {R : VP} {K1 : (Value × Value) → World → Prop} {Q : EQ} (hN : ∀ e w, (K1 ((e 5), (e 11)) w) → Q .normal e w) (hX0 : ∀ e w, (m85_3 R (e 5) w) → Q (.exit 0) e w) (e : Env) (w : World) (h : m85_6 R K1 (e 1) (e 5) (e 10) (e 11) w) : W85 k85_6 Q e w := by
  unfold m85_6 at h
  refine seA ?_
  have hN : ∀ e w, (m85_7 R K1 (e 1) (e 5) (e 10) (e 11) (e 12) w) → (thenE (W85 k85_7 Q) Q) .normal e w := fun e w h => then_N (s85_7 (R := R) (Q := Q) (K1 := K1) hN hX0 e w h)
  exact rgA 3 (fun e w => m85_7 R K1 (e 1) (e 5) (e 10) (e 11) (e 12) w) h hN
theorem s85_5 {R : VP} {Q : EQ} (hN : ∀ e w, (m85_3 R (e 5) w) → Q .normal e w) (e : Env) (w : World) (h : m85_5 R (e 1) (e 5) (e 10) (e 11) w) : W85 k85_5 Q e w := by
  unfold m85_5 at h
  refine block_ok 0 (by kernel_rfl) ?_
  have hX0 : ∀ e w, (m85_3 R (e 5) w) → (inBlockE 0 Q) (.exit 0) e w := fun e w h => inBlock_same (Q := Q) 0 (hN e w h)
  refine loop_ok' (fun (e : Env) => (e 5, e 11)) [1, 10] (by kernel_rfl) (by kernel_rfl) h (fun K e' w' hk h' => ?_)
  have r1 : e' 1 = e 1 := hk 1 (by decide)
  have r10 : e' 10 = e 10 := hk 10 (by decide)
  have hX0 : ∀ e w, (m85_3 R (e 5) w) → (thenE (fun (e : Env) w => K ((e 5), (e 11)) w) (inBlockE 0 Q)) (.exit 0) e w := fun e w h => then_X (hX0 e w h)
  exact s85_6 (R := R) (Q := (thenE (fun (e : Env) w => K ((e 5), (e 11)) w) (inBlockE 0 Q))) (K1 := K) (fun _ _ h => then_N h) hX0 e' w' (by rw [r1, r10]; exact h')
theorem s85_2 {R : VP} {Q : EQ} (hR : ∀ e w, (R (e 4) w) → Q .ret e w) (e : Env) (w : World) (h : m85_2 R (e 1) (e 5) w) : W85 k85_2 Q e w := by
  unfold m85_2 at h
  refine seA ?_
  have hN : ∀ e w, (m85_3 R (e 5) w) → (thenE (W85 k85_3 Q) Q) .normal e w := fun e w h => then_N (s85_3 (R := R) (Q := Q) hR e w h)
  refine seA ?_
  have hN : ∀ e w, (m85_5 R (e 1) (e 5) (e 10) (e 11) w) → (thenE (W85 k85_5 (thenE (W85 k85_3 Q) Q)) (thenE (W85 k85_3 Q) Q)) .normal e w := fun e w h => then_N (s85_5 (R := R) (Q := (thenE (W85 k85_3 Q) Q)) hN e w h)
  exact rgA 2 (fun e w => m85_5 R (e 1) (e 5) (e 10) (e 11) w) h hN
theorem s85_1 {R : VP} {Q : EQ} (hR : ∀ e w, (R (e 4) w) → Q .ret e w) (e : Env) (w : World) (h : m85_1 R (e 0) (e 1) w) : W85 k85_1 Q e w := by
  unfold m85_1 at h
  refine seA ?_
  have hN : ∀ e w, (m85_2 R (e 1) (e 5) w) → (thenE (W85 k85_2 Q) Q) .normal e w := fun e w h => then_N (s85_2 (R := R) (Q := Q) hR e w h)
  exact rgA 1 (fun e w => m85_2 R (e 1) (e 5) w) h hN
theorem s85_0 {R : VP} {Q : EQ} (hR : ∀ e w, (R (e 4) w) → Q .ret e w) (e : Env) (w : World) (h : m85_0 R (e 0) (e 1) w) : W85 k85_0 Q e w := by
  unfold m85_0 at h
  refine seA ?_
  have hN : ∀ e w, (m85_1 R (e 0) (e 1) w) → (thenE (W85 k85_1 Q) Q) .normal e w := fun e w h => then_N (s85_1 (R := R) (Q := Q) hR e w h)
  exact rgA 0 (fun e w => m85_1 R (e 0) (e 1) w) h hN
abbrev m85 (R : VP) (c0 s1 : Value) (w : World) : Prop := m85_0 R c0 s1 w
theorem s85 (c0 s1 : Value) {R : VP} {w : World} (h : m85 R c0 s1 w) :
    Calls Try.prog 85 #[c0, s1] w fun e w' => ∃ v, e = .returned v ∧ R v w' :=
  calls_of_cwp (st := (fun i => 0)) (c := k85_0) (by kernel_rfl) Try.func85 (by kernel_rfl) (Nat.le_of_ble_eq_true (by kernel_rfl)) (by kernel_rfl)
    (s85_0 (R := R) (Q := endE Try.prog Try.f85 R) (fun e w h => kcast (by kernel_rfl) h) (argsE #[c0, s1]) w (kcast (by kernel_rfl) h))
/-! ### headgate/crc.Sum -/
def m60_2 (R : VP) (t2 : Value) (w : World) : Prop :=
  R t2 w
def m60_1 (R : VP) (s0 : Value) (w : World) : Prop :=
  callP Try.prog (fnV 85) #[(Value.int IntKind.u32 0), s0] w fun t4 w =>
  m60_2 R t4 w
def m60_0 (R : VP) (s0 : Value) (w : World) : Prop :=
  m60_1 R s0 w
abbrev W60 := cwp Try.prog (fun i => 0)
noncomputable def k60_0 : Code := (bodyOf Try.f60)
noncomputable def k60_1 : Code := (c2 k60_0)
noncomputable def k60_2 : Code := (c2 k60_1)
theorem s60_2 {R : VP} {Q : EQ} (hR : ∀ e w, (R (e 2) w) → Q .ret e w) (e : Env) (w : World) (h : m60_2 R (e 2) w) : W60 k60_2 Q e w := by
  unfold m60_2 at h
  exact reA (hR _ _ h)
theorem s60_1 {R : VP} {Q : EQ} (hR : ∀ e w, (R (e 2) w) → Q .ret e w) (e : Env) (w : World) (h : m60_1 R (e 0) w) : W60 k60_1 Q e w := by
  unfold m60_1 at h
  refine seA ?_
  have hN : ∀ e w, (m60_2 R (e 2) w) → (thenE (W60 k60_2 Q) Q) .normal e w := fun e w h => then_N (s60_2 (R := R) (Q := Q) hR e w h)
  exact rgA 1 (fun e w => m60_2 R (e 2) w) h hN
theorem s60_0 {R : VP} {Q : EQ} (hR : ∀ e w, (R (e 2) w) → Q .ret e w) (e : Env) (w : World) (h : m60_0 R (e 0) w) : W60 k60_0 Q e w := by
  unfold m60_0 at h
  refine seA ?_
  have hN : ∀ e w, (m60_1 R (e 0) w) → (thenE (W60 k60_1 Q) Q) .normal e w := fun e w h => then_N (s60_1 (R := R) (Q := Q) hR e w h)
  exact rgA 0 (fun e w => m60_1 R (e 0) w) h hN
abbrev m60 (R : VP) (s0 : Value) (w : World) : Prop := m60_0 R s0 w
theorem s60 (s0 : Value) {R : VP} {w : World} (h : m60 R s0 w) :
    Calls Try.prog 60 #[s0] w fun e w' => ∃ v, e = .returned v ∧ R v w' :=
  calls_of_cwp (st := (fun i => 0)) (c := k60_0) (by kernel_rfl) Try.func60 (by kernel_rfl) (Nat.le_of_ble_eq_true (by kernel_rfl)) (by kernel_rfl)
    (s60_0 (R := R) (Q := endE Try.prog Try.f60 R) (fun e w h => kcast (by kernel_rfl) h) (argsE #[s0]) w (kcast (by kernel_rfl) h))
/-! ### headgate/crc.Seal -/
def m34_3 (R : VP) (t2 : Value) (w : World) : Prop :=
  R t2 w
def m34_2 (R : VP) (s0 c3 : Value) (w : World) : Prop :=
  valP Try.prog (convert 113 5 c3) w fun t8 w =>
  valP Try.prog (binS BinOp.shr 113 (Operand.tmp 9) (Operand.const (Value.int IntKind.u64 8)) c3 (Value.int IntKind.u64 8)) w fun t10 w =>
  valP Try.prog (convert 113 5 t10) w fun t11 w =>
  valP Try.prog (binS BinOp.shr 113 (Operand.tmp 12) (Operand.const (Value.int IntKind.u64 16)) c3 (Value.int IntKind.u64 16)) w fun t13 w =>
  valP Try.prog (convert 113 5 t13) w fun t14 w =>
  valP Try.prog (binS BinOp.shr 113 (Operand.tmp 15) (Operand.const (Value.int IntKind.u64 24)) c3 (Value.int IntKind.u64 24)) w fun t16 w =>
  valP Try.prog (convert 113 5 t16) w fun t17 w =>
  valP Try.prog (Instr.buildSlice 71 4 #[(0, t8), (1, t11), (2, t14), (3, t17)]) w fun t18 w =>
  valP Try.prog (convert 71 9 t18) w fun t19 w =>
  valP Try.prog (binS BinOp.add 9 (Operand.tmp 6) (Operand.tmp 19) s0 t19) w fun t20 w =>
  m34_3 R t20 w
def m34_1 (R : VP) (s0 : Value) (w : World) : Prop :=
  callP Try.prog (fnV 60) #[s0] w fun t5 w =>
  m34_2 R s0 t5 w
def m34_0 (R : VP) (s0 : Value) (w : World) : Prop :=
  m34_1 R s0 w
abbrev W34 := cwp Try.prog (fun i => 0)
noncomputable def k34_0 : Code := (bodyOf Try.f34)
noncomputable def k34_1 : Code := (c2 k34_0)
noncomputable def k34_2 : Code := (c2 k34_1)
noncomputable def k34_3 : Code := (c2 k34_2)
theorem s34_3 {R : VP} {Q : EQ} (hR : ∀ e w, (R (e 2) w) → Q .ret e w) (e : Env) (w : World) (h : m34_3 R (e 2) w) : W34 k34_3 Q e w := by
  unfold m34_3 at h
  exact reA (hR _ _ h)
theorem s34_2 {R : VP} {Q : EQ} (hR : ∀ e w, (R (e 2) w) → Q .ret e w) (e : Env) (w : World) (h : m34_2 R (e 0) (e 3) w) : W34 k34_2 Q e w := by
  unfold m34_2 at h
  refine seA ?_
  have hN : ∀ e w, (m34_3 R (e 2) w) → (thenE (W34 k34_3 Q) Q) .normal e w := fun e w h => then_N (s34_3 (R := R) (Q := Q) hR e w h)
  exact rgA 2 (fun e w => m34_3 R (e 2) w) h hN
theorem s34_1 {R : VP} {Q : EQ} (hR : ∀ e w, (R (e 2) w) → Q .ret e w) (e : Env) (w : World) (h : m34_1 R (e 0) w) : W34 k34_1 Q e w := by
  unfold m34_1 at h
  refine seA ?_
  have hN : ∀ e w, (m34_2 R (e 0) (e 3) w) → (thenE (W34 k34_2 Q) Q) .normal e w := fun e w h => then_N (s34_2 (R := R) (Q := Q) hR e w h)
  exact rgA 1 (fun e w => m34_2 R (e 0) (e 3) w) h hN
theorem s34_0 {R : VP} {Q : EQ} (hR : ∀ e w, (R (e 2) w) → Q .ret e w) (e : Env) (w : World) (h : m34_0 R (e 0) w) : W34 k34_0 Q e w := by
  unfold m34_0 at h
  refine seA ?_
  have hN : ∀ e w, (m34_1 R (e 0) w) → (thenE (W34 k34_1 Q) Q) .normal e w := fun e w h => then_N (s34_1 (R := R) (Q := Q) hR e w h)
  exact rgA 0 (fun e w => m34_1 R (e 0) w) h hN
abbrev m34 (R : VP) (s0 : Value) (w : World) : Prop := m34_0 R s0 w
theorem s34 (s0 : Value) {R : VP} {w : World} (h : m34 R s0 w) :
    Calls Try.prog 34 #[s0] w fun e w' => ∃ v, e = .returned v ∧ R v w' :=
  calls_of_cwp (st := (fun i => 0)) (c := k34_0) (by kernel_rfl) Try.func34 (by kernel_rfl) (Nat.le_of_ble_eq_true (by kernel_rfl)) (by kernel_rfl)
    (s34_0 (R := R) (Q := endE Try.prog Try.f34 R) (fun e w h => kcast (by kernel_rfl) h) (argsE #[s0]) w (kcast (by kernel_rfl) h))
/-! ### headgate/crc.Unseal -/
def m39_6 (R : VP) (t2 t3 : Value) (w : World) : Prop :=
  R (Value.tuple #[t2, t3]) w
def m39_3 (R : VP) (t2 t3 : Value) (w : World) : Prop :=
  R (Value.tuple #[t2, t3]) w
def m39_2 (R : VP) (w : World) : Prop :=
  m39_3 R (Value.string ⟨#[]⟩) (Value.int IntKind.i64 2) w
def m39_5 (R : VP) (s0 n4 t17 : Value) (w : World) : Prop :=
  condP t17
  (valP Try.prog (Instr.sliceAt 9 s0 none (some n4) none) w fun t20 w =>
  m39_6 R t20 (Value.int IntKind.i64 0) w)
  (m39_2 R w)
def m39_4 (R : VP) (s0 n4 : Value) (w : World) : Prop :=
  valP Try.prog (binS BinOp.geq 3 (Operand.tmp 8) (Operand.const (Value.int IntKind.i64 0)) n4 (Value.int IntKind.i64 0)) w fun t9 w =>
  condP t9
  (valP Try.prog (Instr.sliceAt 9 s0 none (some n4) none) w fun t13 w =>
  callP Try.prog (fnV 34) #[t13] w fun t14 w =>
  valP Try.prog (binS BinOp.eql 9 (Operand.tmp 14) (Operand.tmp 15) t14 s0) w fun t16 w =>
  pickP t9 t16 (Value.bool false) fun t17 =>
  m39_5 R s0 n4 t17 w)
  (pickP t9 undef (Value.bool false) fun t17 =>
  m39_5 R s0 n4 t17 w)
def m39_1 (R : VP) (s0 : Value) (w : World) : Prop :=
  builtinP Try.prog Builtin.len #[9] 3 #[false] #[s0] w fun t6 w =>
  valP Try.prog (binS BinOp.sub 3 (Operand.tmp 6) (Operand.const (Value.int IntKind.i64 4)) t6 (Value.int IntKind.i64 4)) w fun t7 w =>
  m39_4 R s0 t7 w
def m39_0 (R : VP) (s0 : Value) (w : World) : Prop :=
  m39_1 R s0 w
abbrev W39 := cwp Try.prog (fun i => 0)
noncomputable def k39_0 : Code := (bodyOf Try.f39)
noncomputable def k39_1 : Code := (c2 k39_0)
noncomputable def k39_2 : Code := (c2 k39_1)
noncomputable def k39_3 : Code := (c2 k39_2)
noncomputable def k39_4 : Code := (c2 (c1 k39_1))
noncomputable def k39_5 : Code := (c2 k39_4)
noncomputable def k39_6 : Code := (c2 (c1 k39_5))
theorem s39_6 {R : VP} {Q : EQ} (hR : ∀ e w, (R (Value.tuple #[(e 2), (e 3)]) w) → Q .ret e w) (e : Env) (w : World) (h : m39_6 R (e 2) (e 3) w) : W39 k39_6 Q e w := by
  unfold m39_6 at h
  exact reA (hR _ _ h)
theorem s39_3 {R : VP} {Q : EQ} (hR : ∀ e w, (R (Value.tuple #[(e 2), (e 3)]) w) → Q .ret e w) (e : Env) (w : World) (h : m39_3 R (e 2) (e 3) w) : W39 k39_3 Q e w := by
  unfold m39_3 at h
  exact reA (hR _ _ h)
theorem s39_2 {R : VP} {Q : EQ} (hR : ∀ e w, (R (Value.tuple #[(e 2), (e 3)]) w) → Q .ret e w) (e : Env) (w : World) (h : m39_2 R w) : W39 k39_2 Q e w := by
  unfold m39_2 at h
  refine seA ?_
  have hN : ∀ e w, (m39_3 R (e 2) (e 3) w) → (thenE (W39 k39_3 Q) Q) .normal e w := fun e w h => then_N (s39_3 (R := R) (Q := Q) hR e w h)
  exact rgA 4 (fun e w => m39_3 R (e 2) (e 3) w) h hN
theorem s39_5 {R : VP} {Q : EQ} (hN : ∀ e w, (m39_2 R w) → Q .normal e w) (hR : ∀ e w, (R (Value.tuple #[(e 2), (e 3)]) w) → Q .ret e w) (e : Env) (w : World) (h : m39_5 R (e 0) (e 4) (e 17) w) : W39 k39_5 Q e w := by
  unfold m39_5 at h
  refine coA (Operand.tmp 17) h (fun h1 => ?_) (fun h1 => ?_)
  · refine seA ?_
    have hN : ∀ e w, (m39_6 R (e 2) (e 3) w) → (thenE (W39 k39_6 Q) Q) .normal e w := fun e w h => then_N (s39_6 (R := R) (Q := Q) hR e w h)
    exact rgA 3 (fun e w => m39_6 R (e 2) (e 3) w) h1 hN
  · exact skA (hN _ _ h1)
theorem s39_4 {R : VP} {Q : EQ} (hN : ∀ e w, (m39_2 R w) → Q .normal e w) (hR : ∀ e w, (R (Value.tuple #[(e 2), (e 3)]) w) → Q .ret e w) (e : Env) (w : World) (h : m39_4 R (e 0) (e 4) w) : W39 k39_4 Q e w := by
  unfold m39_4 at h
  refine seA ?_
  have hN : ∀ e w, (m39_5 R (e 0) (e 4) (e 17) w) → (thenE (W39 k39_5 Q) Q) .normal e w := fun e w h => then_N (s39_5 (R := R) (Q := Q) hN hR e w h)
  exact rgA 2 (fun e w => m39_5 R (e 0) (e 4) (e 17) w) h hN
theorem s39_1 {R : VP} {Q : EQ} (hR : ∀ e w, (R (Value.tuple #[(e 2), (e 3)]) w) → Q .ret e w) (e : Env) (w : World) (h : m39_1 R (e 0) w) : W39 k39_1 Q e w := by
  unfold m39_1 at h
  refine seA ?_
  have hN : ∀ e w, (m39_2 R w) → (thenE (W39 k39_2 Q) Q) .normal e w := fun e w h => then_N (s39_2 (R := R) (Q := Q) hR e w h)
  have hR : ∀ e w, (R (Value.tuple #[(e 2), (e 3)]) w) → (thenE (W39 k39_2 Q) Q) .ret e w := fun e w h => then_R (hR e w h)
  refine seA ?_
  have hN : ∀ e w, (m39_4 R (e 0) (e 4) w) → (thenE (W39 k39_4 (thenE (W39 k39_2 Q) Q)) (thenE (W39 k39_2 Q) Q)) .normal e w := fun e w h => then_N (s39_4 (R := R) (Q := (thenE (W39 k39_2 Q) Q)) hN hR e w h)
  exact rgA 1 (fun e w => m39_4 R (e 0) (e 4) w) h hN
theorem s39_0 {R : VP} {Q : EQ} (hR : ∀ e w, (R (Value.tuple #[(e 2), (e 3)]) w) → Q .ret e w) (e : Env) (w : World) (h : m39_0 R (e 0) w) : W39 k39_0 Q e w := by
  unfold m39_0 at h
  refine seA ?_
  have hN : ∀ e w, (m39_1 R (e 0) w) → (thenE (W39 k39_1 Q) Q) .normal e w := fun e w h => then_N (s39_1 (R := R) (Q := Q) hR e w h)
  exact rgA 0 (fun e w => m39_1 R (e 0) w) h hN
abbrev m39 (R : VP) (s0 : Value) (w : World) : Prop := m39_0 R s0 w
theorem s39 (s0 : Value) {R : VP} {w : World} (h : m39 R s0 w) :
    Calls Try.prog 39 #[s0] w fun e w' => ∃ v, e = .returned v ∧ R v w' :=
  calls_of_cwp (st := (fun i => 0)) (c := k39_0) (by kernel_rfl) Try.func39 (by kernel_rfl) (Nat.le_of_ble_eq_true (by kernel_rfl)) (by kernel_rfl)
    (s39_0 (R := R) (Q := endE Try.prog Try.f39 R) (fun e w h => kcast (by kernel_rfl) h) (argsE #[s0]) w (kcast (by kernel_rfl) h))
/-! ### headgate/headgateref02.More -/
def m87_13 (R : VP) (K1 : (Value × Value) → World → Prop) (K2 : (Value × Value) → World → Prop) (s1 r5 i6 k7 : Value) (w : World) : Prop :=
  valP Try.prog (binS BinOp.add 3 (Operand.tmp 25) (Operand.const (Value.int IntKind.i64 1)) k7 (Value.int IntKind.i64 1)) w fun t26 w =>
  K2 (r5, t26) w
def m87_16 (R : VP) (K1 : (Value × Value) → World → Prop) (K2 : (Value × Value) → World → Prop) (s1 r5 i6 k7 t32 : Value) (w : World) : Prop :=
  condP t32
  (valP Try.prog (binS BinOp.xor 113 (Operand.tmp 33) (Operand.const (Value.int IntKind.u32 2197175160)) r5 (Value.int IntKind.u32 2197175160)) w fun t34 w =>
  m87_13 R K1 K2 s1 t34 i6 k7 w)
  (m87_13 R K1 K2 s1 r5 i6 k7 w)
def m87_15 (R : VP) (K1 : (Value × Value) → World → Prop) (K2 : (Value × Value) → World → Prop) (s1 r5 i6 k7 odd8 : Value) (w : World) : Prop :=
  m87_16 R K1 K2 s1 r5 i6 k7 odd8 w
def m87_14 (R : VP) (K1 : (Value × Value) → World → Prop) (K2 : (Value × Value) → World → Prop) (s1 r5 i6 k7 odd8 : Value) (w : World) : Prop :=
  valP Try.prog (binS BinOp.quo 113 (Operand.tmp 30) (Operand.const (Value.int IntKind.u32 2)) r5 (Value.int IntKind.u32 2)) w fun t31 w =>
  m87_15 R K1 K2 s1 t31 i6 k7 odd8 w
def m87_12 (R : VP) (K1 : (Value × Value) → World → Prop) (K2 : (Value × Value) → World → Prop) (s1 r5 i6 k7 : Value) (w : World) : Prop :=
  valP Try.prog (binS BinOp.rem 113 (Operand.tmp 27) (Operand.const (Value.int IntKind.u32 2)) r5 (Value.int IntKind.u32 2)) w fun t28 w =>
  valP Try.prog (binS BinOp.eql 113 (Operand.tmp 28) (Operand.const (Value.int IntKind.u32 1)) t28 (Value.int IntKind.u32 1)) w fun t29 w =>
  m87_14 R K1 K2 s1 r5 i6 k7 t29 w
def m87_8 (R : VP) (K1 : (Value × Value) → World → Prop) (s1 r5 i6 : Value) (w : World) : Prop :=
  valP Try.prog (binS BinOp.add 3 (Operand.tmp 15) (Operand.const (Value.int IntKind.i64 1)) i6 (Value.int IntKind.i64 1)) w fun t16 w =>
  K1 (r5, t16) w
def m87_17 (R : VP) (K1 : (Value × Value) → World → Prop) (K2 : (Value × Value) → World → Prop) (s1 r5 i6 k7 t24 : Value) (w : World) : Prop :=
  condP t24
  (m87_12 R K1 K2 s1 r5 i6 k7 w)
  (m87_8 R K1 s1 r5 i6 w)
def m87_11 (R : VP) (K1 : (Value × Value) → World → Prop) (K2 : (Value × Value) → World → Prop) (s1 r5 i6 k7 : Value) (w : World) : Prop :=
  valP Try.prog (binS BinOp.lss 3 (Operand.tmp 23) (Operand.const (Value.int IntKind.i64 8)) k7 (Value.int IntKind.i64 8)) w fun t24 w =>
  m87_17 R K1 K2 s1 r5 i6 k7 t24 w
def m87_10 (R : VP) (K1 : (Value × Value) → World → Prop) (s1 r5 i6 k7 : Value) (w : World) : Prop :=
  loopP (fun (K2 : (Value × Value) → World → Prop) (s : Value × Value) w => m87_11 R K1 K2 s1 s.1 i6 s.2 w) (r5, k7) w
def m87_9 (R : VP) (K1 : (Value × Value) → World → Prop) (s1 r5 i6 : Value) (w : World) : Prop :=
  m87_10 R K1 s1 r5 i6 (Value.int IntKind.i64 0) w
def m87_7 (R : VP) (K1 : (Value × Value) → World → Prop) (s1 r5 i6 : Value) (w : World) : Prop :=
  valP Try.prog (Instr.index 9 s1 i6) w fun t20 w =>
  valP Try.prog (convert 5 113 t20) w fun t21 w =>
  valP Try.prog (binS BinOp.xor 113 (Operand.tmp 17) (Operand.tmp 21) r5 t21) w fun t22 w =>
  m87_9 R K1 s1 t22 i6 w
def m87_4 (R : VP) (t4 : Value) (w : World) : Prop :=
  R t4 w
def m87_3 (R : VP) (r5 : Value) (w : World) : Prop :=
  valP Try.prog (binS BinOp.sub 113 (Operand.const (Value.int IntKind.u32 4294967295)) (Operand.tmp 35) (Value.int IntKind.u32 4294967295) r5) w fun t36 w =>
  m87_4 R t36 w
def m87_18 (R : VP) (K1 : (Value × Value) → World → Prop) (s1 r5 i6 t14 : Value) (w : World) : Prop :=
  condP t14
  (m87_7 R K1 s1 r5 i6 w)
  (m87_3 R r5 w)
def m87_6 (R : VP) (K1 : (Value × Value) → World → Prop) (s1 r5 i6 : Value) (w : World) : Prop :=
  builtinP Try.prog Builtin.len #[9] 3 #[false] #[s1] w fun t13 w =>
  valP Try.prog (binS BinOp.lss 3 (Operand.tmp 11) (Operand.tmp 13) i6 t13) w fun t14 w =>
  m87_18 R K1 s1 r5 i6 t14 w
def m87_5 (R : VP) (s1 r5 i6 : Value) (w : World) : Prop :=
  loopP (fun (K1 : (Value × Value) → World → Prop) (s : Value × Value) w => m87_6 R K1 s1 s.1 s.2 w) (r5, i6) w
def m87_2 (R : VP) (s1 r5 : Value) (w : World) : Prop :=
  m87_5 R s1 r5 (Value.int IntKind.i64 0) w
def m87_1 (R : VP) (c0 s1 : Value) (w : World) : Prop :=
  valP Try.prog (binS BinOp.sub 113 (Operand.const (Value.int IntKind.u32 4294967295)) (Operand.tmp 9) (Value.int IntKind.u32 4294967295) c0) w fun t10 w =>
  m87_2 R s1 t10 w
def m87_0 (R : VP) (c0 s1 : Value) (w : World) : Prop :=
  m87_1 R c0 s1 w
abbrev W87 := cwp Try.prog (fun i => 0)
noncomputable def k87_0 : Code := (bodyOf Try.f87)
noncomputable def k87_1 : Code := (c2 k87_0)
noncomputable def k87_2 : Code := (c2 k87_1)
noncomputable def k87_3 : Code := (c2 k87_2)
noncomputable def k87_4 : Code := (c2 k87_3)
noncomputable def k87_5 : Code := (c2 (c1 k87_2))
noncomputable def k87_6 : Code := (c1 (c1 k87_5))
noncomputable def k87_7 : Code := (c2 k87_6)
noncomputable def k87_8 : Code := (c2 k87_7)
noncomputable def k87_9 : Code := (c2 (c1 (c1 k87_7)))
noncomputable def k87_10 : Code := (c2 k87_9)
noncomputable def k87_11 : Code := (c1 (c1 k87_10))
noncomputable def k87_12 : Code := (c2 k87_11)
noncomputable def k87_13 : Code := (c2 k87_12)
noncomputable def k87_14 : Code := (c2 (c1 (c1 k87_12)))
noncomputable def k87_15 : Code := (c2 k87_14)
noncomputable def k87_16 : Code := (c2 k87_15)
noncomputable def k87_17 : Code := (c2 (c1 k87_11))
noncomputable def k87_18 : Code := (c2 (c1 k87_6))
theorem s87_13 {R : VP} {K1 : (Value × Value) → World → Prop} {K2 : (Value × Value) → World → Prop} {Q : EQ} (hN : ∀ e w, (K2 ((e 5), (e 7)) w) → Q .normal e w) (e : Env) (w : World) (h : m87_13 R K1 K2 (e 1) (e 5) (e 6) (e 7) w) : W87 k87_13 Q e w := by
  unfold m87_13 at h
  exact rgA 8 (fun e w => K2 ((e 5), (e 7)) w) h hN
theorem s87_16 {R : VP} {K1 : (Value × Value) → World → Prop} {K2 : (Value × Value) → World → Prop} {Q : EQ} (hN : ∀ e w, (m87_13 R K1 K2 (e 1) (e 5) (e 6) (e 7) w) → Q .normal e w) (e : Env) (w : World) (h : m87_16 R K1 K2 (e 1) (e 5) (e 6) (e 7) (e 32) w) : W87 k87_16 Q e w := by
  unfold m87_16 at h
  refine coA (Operand.tmp 32) h (fun h1 => ?_) (fun h1 => ?_)
  · exact rgA 12 (fun e w => m87_13 R K1 K2 (e 1) (e 5) (e 6) (e 7) w) h1 hN
  · exact skA (hN _ _ h1)
theorem s87_15 {R : VP} {K1 : (Value × Value) → World → Prop} {K2 : (Value × Value) → World → Prop} {Q : EQ} (hN : ∀ e w, (m87_13 R K1 K2 (e 1) (e 5) (e 6) (e 7) w) → Q .normal e w) (e : Env) (w : World) (h : m87_15 R K1 K2 (e 1) (e 5) (e 6) (e 7) (e 8) w) : W87 k87_15 Q e w := by
  unfold m87_15 at h
  refine seA ?_
  have hN : ∀ e w, (m87_16 R K1 K2 (e 1) (e 5) (e 6) (e 7) (e 32) w) → (thenE (W87 k87_16 Q) Q) .normal e w := fun e w h => then_N (s87_16 (R := R) (Q := Q) (K1 := K1) (K2 := K2) hN e w h)
  exact rgA 11 (fun e w => m87_16 R K1 K2 (e 1) (e 5) (e 6) (e 7) (e 32) w) h hN
theorem s87_14 {R : VP} {K1 : (Value × Value) → World → Prop} {K2 : (Value × Value) → World → Prop} {Q : EQ} (hN : ∀ e w, (m87_13 R K1 K2 (e 1) (e 5) (e 6) (e 7) w) → Q .normal e w) (e : Env) (w : World) (h : m87_14 R K1 K2 (e 1) (e 5) (e 6) (e 7) (e 8) w) : W87 k87_14 Q e w := by
  unfold m87_14 at h
  refine seA ?_
  have hN : ∀ e w, (m87_15 R K1 K2 (e 1) (e 5) (e 6) (e 7) (e 8) w) → (thenE (W87 k87_15 Q) Q) .normal e w := fun e w h => then_N (s87_15 (R := R) (Q := Q) (K1 := K1) (K2 := K2) hN e w h)
  exact rgA 10 (fun e w => m87_15 R K1 K2 (e 1) (e 5) (e 6) (e 7) (e 8) w) h hN
theorem s87_12 {R : VP} {K1 : (Value × Value) → World → Prop} {K2 : (Value × Value) → World → Prop} {Q : EQ} (hN : ∀ e w, (K2 ((e 5), (e 7)) w) → Q .normal e w) (e : Env) (w : World) (h : m87_12 R K1 K2 (e 1) (e 5) (e 6) (e 7) w) : W87 k87_12 Q e w := by
  unfold m87_12 at h
  refine seA ?_
  have hN : ∀ e w, (m87_13 R K1 K2 (e 1) (e 5) (e 6) (e 7) w) → (thenE (W87 k87_13 Q) Q) .normal e w := fun e w h => then_N (s87_13 (R := R) (Q := Q) (K1 := K1) (K2 := K2) hN e w h)
  refine block_ok 3 (by kernel_rfl) ?_
  have hN : ∀ e w, (m87_13 R K1 K2 (e 1) (e 5) (e 6) (e 7) w) → (inBlockE 3 (thenE (W87 k87_13 Q) Q)) .normal e w := fun e w h => block_N (hN e w h)
  refine seA ?_
  have hN : ∀ e w, (m87_14 R K1 K2 (e 1) (e 5) (e 6) (e 7) (e 8) w) → (thenE (W87 k87_14 (inBlockE 3 (thenE (W87 k87_13 Q) Q))) (inBlockE 3 (thenE (W87 k87_13 Q) Q))) .normal e w := fun e w h => then_N (s87_14 (R := R) (Q := (inBlockE 3 (thenE (W87 k87_13 Q) Q))) (K1 := K1) (K2 := K2) hN e w h)
  exact rgA 9 (fun e w => m87_14 R K1 K2 (e 1) (e 5) (e 6) (e 7) (e 8) w) h hN
theorem s87_8 {R : VP} {K1 : (Value × Value) → World → Prop} {Q : EQ} (hN : ∀ e w, (K1 ((e 5), (e 6)) w) → Q .normal e w) (e : Env) (w : World) (h : m87_8 R K1 (e 1) (e 5) (e 6) w) : W87 k87_8 Q e w := by
  unfold m87_8 at h
  exact rgA 4 (fun e w => K1 ((e 5), (e 6)) w) h hN
theorem s87_17 {R : VP} {K1 : (Value × Value) → World → Prop} {K2 : (Value × Value) → World → Prop} {Q : EQ} (hN : ∀ e w, (m87_12 R K1 K2 (e 1) (e 5) (e 6) (e 7) w) → Q .normal e w) (hX2 : ∀ e w, (m87_8 R K1 (e 1) (e 5) (e 6) w) → Q (.exit 2) e w) (e : Env) (w : World) (h : m87_17 R K1 K2 (e 1) (e 5) (e 6) (e 7) (e 24) w) : W87 k87_17 Q e w := by
  unfold m87_17 at h
  refine coA (Operand.tmp 24) h (fun h1 => ?_) (fun h1 => ?_)
  · exact skA (hN _ _ h1)
  · exact exA 2 (hX2 _ _ h1)
theorem s87_11 {R : VP} {K1 : (Value × Value) → World → Prop} {K2 : (Value × Value) → World → Prop} {Q : EQ} (hN : ∀ e w, (K2 ((e 5), (e 7)) w) → Q .normal e w) (hX2 : ∀ e w, (m87_8 R K1 (e 1) (e 5) (e 6) w) → Q (.exit 2) e w) (e : Env) (w : World) (h : m87_11 R K1 K2 (e 1) (e 5) (e 6) (e 7) w) : W87 k87_11 Q e w := by
  unfold m87_11 at h
  refine seA ?_
  have hN : ∀ e w, (m87_12 R K1 K2 (e 1) (e 5) (e 6) (e 7) w) → (thenE (W87 k87_12 Q) Q) .normal e w := fun e w h => then_N (s87_12 (R := R) (Q := Q) (K1 := K1) (K2 := K2) hN e w h)
  have hX2 : ∀ e w, (m87_8 R K1 (e 1) (e 5) (e 6) w) → (thenE (W87 k87_12 Q) Q) (.exit 2) e w := fun e w h => then_X (hX2 e w h)
  refine seA ?_
  have hN : ∀ e w, (m87_17 R K1 K2 (e 1) (e 5) (e 6) (e 7) (e 24) w) → (thenE (W87 k87_17 (thenE (W87 k87_12 Q) Q)) (thenE (W87 k87_12 Q) Q)) .normal e w := fun e w h => then_N (s87_17 (R := R) (Q := (thenE (W87 k87_12 Q) Q)) (K1 := K1) (K2 := K2) hN hX2 e w h)
  exact rgA 7 (fun e w => m87_17 R K1 K2 (e 1) (e 5) (e 6) (e 7) (e 24) w) h hN
theorem s87_10 {R : VP} {K1 : (Value × Value) → World → Prop} {Q : EQ} (hN : ∀ e w, (m87_8 R K1 (e 1) (e 5) (e 6) w) → Q .normal e w) (e : Env) (w : World) (h : m87_10 R K1 (e 1) (e 5) (e 6) (e 7) w) : W87 k87_10 Q e w := by
  unfold m87_10 at h
  refine block_ok 2 (by kernel_rfl) ?_
  have hX2 : ∀ e w, (m87_8 R K1 (e 1) (e 5) (e 6) w) → (inBlockE 2 Q) (.exit 2) e w := fun e w h => inBlock_same (Q := Q) 2 (hN e w h)
  refine loop_ok' (fun (e : Env) => (e 5, e 7)) [1, 6] (by kernel_rfl) (by kernel_rfl) h (fun K e' w' hk h' => ?_)
  have r1 : e' 1 = e 1 := hk 1 (by decide)
  have r6 : e' 6 = e 6 := hk 6 (by decide)
  have hX2 : ∀ e w, (m87_8 R K1 (e 1) (e 5) (e 6) w) → (thenE (fun (e : Env) w => K ((e 5), (e 7)) w) (inBlockE 2 Q)) (.exit 2) e w := fun e w h => then_X (hX2 e w h)
  exact s87_11 (R := R) (Q := (thenE (fun (e : Env) w => K ((e 5), (e 7)) w) (inBlockE 2 Q))) (K1 := K1) (K2 := K) (fun _ _ h => then_N h) hX2 e' w' (by rw [r1, r6]; exact h')
theorem s87_9 {R : VP} {K1 : (Value × Value) → World → Prop} {Q : EQ} (hN : ∀ e w, (m87_8 R K1 (e 1) (e 5) (e 6) w) → Q .normal e w) (e : Env) (w : World) (h : m87_9 R K1 (e 1) (e 5) (e 6) w) : W87 k87_9 Q e w := by
  unfold m87_9 at h
  refine seA ?_
  have hN : ∀ e w, (m87_10 R K1 (e 1) (e 5) (e 6) (e 7) w) → (thenE (W87 k87_10 Q) Q) .normal e w := fun e w h => then_N (s87_10 (R := R) (Q := Q) (K1 := K1) hN e w h)
  exact rgA 6 (fun e w => m87_10 R K1 (e 1) (e 5) (e 6) (e 7) w) h hN
theorem s87_7 {R : VP} {K1 : (Value × Value) → World → Prop} {Q : EQ} (hN : ∀ e w, (K1 ((e 5), (e 6)) w) → Q .normal e w) (e : Env) (w : World) (h : m87_7 R K1 (e 1) (e 5) (e 6) w) : W87 k87_7 Q e w := by
  unfold m87_7 at h
  refine seA ?_
  have hN : ∀ e w, (m87_8 R K1 (e 1) (e 5) (e 6) w) → (thenE (W87 k87_8 Q) Q) .normal e w := fun e w h => then_N (s87_8 (R := R) (Q := Q) (K1 := K1) hN e w h)
  refine block_ok 1 (by kernel_rfl) ?_
  have hN : ∀ e w, (m87_8 R K1 (e 1) (e 5) (e 6) w) → (inBlockE 1 (thenE (W87 k87_8 Q) Q)) .normal e w := fun e w h => block_N (hN e w h)
  refine seA ?_
  have hN : ∀ e w, (m87_9 R K1 (e 1) (e 5) (e 6) w) → (thenE (W87 k87_9 (inBlockE 1 (thenE (W87 k87_8 Q) Q))) (inBlockE 1 (thenE (W87 k87_8 Q) Q))) .normal e w := fun e w h => then_N (s87_9 (R := R) (Q := (inBlockE 1 (thenE (W87 k87_8 Q) Q))) (K1 := K1) hN e w h)
  exact rgA 5 (fun e w => m87_9 R K1 (e 1) (e 5) (e 6) w) h hN
theorem s87_4 {R : VP} {Q : EQ} (hR : ∀ e w, (R (e 4) w) → Q .ret e w) (e : Env) (w : World) (h : m87_4 R (e 4) w) : W87 k87_4 Q e w := by
  unfold m87_4 at h
  exact reA (hR _ _ h)
theorem s87_3 {R : VP} {Q : EQ} (hR : ∀ e w, (R (e 4) w) → Q .ret e w) (e : Env) (w : World) (h : m87_3 R (e 5) w) : W87 k87_3 Q e w := by
  unfold m87_3 at h
  refine seA ?_
  have hN : ∀ e w, (m87_4 R (e 4) w) → (thenE (W87 k87_4 Q) Q) .normal e w := fun e w h => then_N (s87_4 (R := R) (Q := Q) hR e w h)
  exact rgA 13 (fun e w => m87_4 R (e 4) w) h hN
theorem s87_18 {R : VP} {K1 : (Value × Value) → World → Prop} {Q : EQ} (hN : ∀ e w, (m87_7 R K1 (e 1) (e 5) (e 6) w) → Q .normal e w) (hX0 : ∀ e w, (m87_3 R (e 5) w) → Q (.exit 0) e w) (e : Env) (w : World) (h : m87_18 R K1 (e 1) (e 5) (e 6) (e 14) w) : W87 k87_18 Q e w := by
  unfold m87_18 at h
  refine coA (Operand.tmp 14) h (fun h1 => ?_) (fun h1 => ?_)
  · exact skA (hN _ _ h1)
  · exact exA 0 (hX0 _ _ h1)
theorem s87_6 {R : VP} {K1 : (Value × Value) → World → Prop} {Q : EQ} (hN : ∀ e w, (K1 ((e 5), (e 6)) w) → Q .normal e w) (hX0 : ∀ e w, (m87_3 R (e 5) w) → Q (.exit 0) e w) (e : Env) (w : World) (h : m87_6 R K1 (e 1) (e 5) (e 6) w) : W87 k87_6 Q e w := by
  unfold m87_6 at h
  refine seA ?_
  have hN : ∀ e w, (m87_7 R K1 (e 1) (e 5) (e 6) w) → (thenE (W87 k87_7 Q) Q) .normal e w := fun e w h => then_N (s87_7 (R := R) (Q := Q) (K1 := K1) hN e w h)
  have hX0 : ∀ e w, (m87_3 R (e 5) w) → (thenE (W87 k87_7 Q) Q) (.exit 0) e w := fun e w h => then_X (hX0 e w h)
  refine seA ?_
  have hN : ∀ e w, (m87_18 R K1 (e 1) (e 5) (e 6) (e 14) w) → (thenE (W87 k87_18 (thenE (W87 k87_7 Q) Q)) (thenE (W87 k87_7 Q) Q)) .normal e w := fun e w h => then_N (s87_18 (R := R) (Q := (thenE (W87 k87_7 Q) Q)) (K1 := K1) hN hX0 e w h)
  exact rgA 3 (fun e w => m87_18 R K1 (e 1) (e 5) (e 6) (e 14) w) h hN
theorem s87_5 {R : VP} {Q : EQ} (hN : ∀ e w, (m87_3 R (e 5) w) → Q .normal e w) (e : Env) (w : World) (h : m87_5 R (e 1) (e 5) (e 6) w) : W87 k87_5 Q e w := by
  unfold m87_5 at h
  refine block_ok 0 (by kernel_rfl) ?_
  have hX0 : ∀ e w, (m87_3 R (e 5) w) → (inBlockE 0 Q) (.exit 0) e w := fun e w h => inBlock_same (Q := Q) 0 (hN e w h)
  refine loop_ok' (fun (e : Env) => (e 5, e 6)) [1] (by kernel_rfl) (by kernel_rfl) h (fun K e' w' hk h' => ?_)
  have r1 : e' 1 = e 1 := hk 1 (by decide)
  have hX0 : ∀ e w, (m87_3 R (e 5) w) → (thenE (fun (e : Env) w => K ((e 5), (e 6)) w) (inBlockE 0 Q)) (.exit 0) e w := fun e w h => then_X (hX0 e w h)
  exact s87_6 (R := R) (Q := (thenE (fun (e : Env) w => K ((e 5), (e 6)) w) (inBlockE 0 Q))) (K1 := K) (fun _ _ h => then_N h) hX0 e' w' (by rw [r1]; exact h')
theorem s87_2 {R : VP} {Q : EQ} (hR : ∀ e w, (R (e 4) w) → Q .ret e w) (e : Env) (w : World) (h : m87_2 R (e 1) (e 5) w) : W87 k87_2 Q e w := by
  unfold m87_2 at h
  refine seA ?_
  have hN : ∀ e w, (m87_3 R (e 5) w) → (thenE (W87 k87_3 Q) Q) .normal e w := fun e w h => then_N (s87_3 (R := R) (Q := Q) hR e w h)
  refine seA ?_
  have hN : ∀ e w, (m87_5 R (e 1) (e 5) (e 6) w) → (thenE (W87 k87_5 (thenE (W87 k87_3 Q) Q)) (thenE (W87 k87_3 Q) Q)) .normal e w := fun e w h => then_N (s87_5 (R := R) (Q := (thenE (W87 k87_3 Q) Q)) hN e w h)
  exact rgA 2 (fun e w => m87_5 R (e 1) (e 5) (e 6) w) h hN
theorem s87_1 {R : VP} {Q : EQ} (hR : ∀ e w, (R (e 4) w) → Q .ret e w) (e : Env) (w : World) (h : m87_1 R (e 0) (e 1) w) : W87 k87_1 Q e w := by
  unfold m87_1 at h
  refine seA ?_
  have hN : ∀ e w, (m87_2 R (e 1) (e 5) w) → (thenE (W87 k87_2 Q) Q) .normal e w := fun e w h => then_N (s87_2 (R := R) (Q := Q) hR e w h)
  exact rgA 1 (fun e w => m87_2 R (e 1) (e 5) w) h hN
theorem s87_0 {R : VP} {Q : EQ} (hR : ∀ e w, (R (e 4) w) → Q .ret e w) (e : Env) (w : World) (h : m87_0 R (e 0) (e 1) w) : W87 k87_0 Q e w := by
  unfold m87_0 at h
  refine seA ?_
  have hN : ∀ e w, (m87_1 R (e 0) (e 1) w) → (thenE (W87 k87_1 Q) Q) .normal e w := fun e w h => then_N (s87_1 (R := R) (Q := Q) hR e w h)
  exact rgA 0 (fun e w => m87_1 R (e 0) (e 1) w) h hN
abbrev m87 (R : VP) (c0 s1 : Value) (w : World) : Prop := m87_0 R c0 s1 w
theorem s87 (c0 s1 : Value) {R : VP} {w : World} (h : m87 R c0 s1 w) :
    Calls Try.prog 87 #[c0, s1] w fun e w' => ∃ v, e = .returned v ∧ R v w' :=
  calls_of_cwp (st := (fun i => 0)) (c := k87_0) (by kernel_rfl) Try.func87 (by kernel_rfl) (Nat.le_of_ble_eq_true (by kernel_rfl)) (by kernel_rfl)
    (s87_0 (R := R) (Q := endE Try.prog Try.f87 R) (fun e w h => kcast (by kernel_rfl) h) (argsE #[c0, s1]) w (kcast (by kernel_rfl) h))
/-! ### headgate/headgateref02.Sum -/
def m64_2 (R : VP) (t2 : Value) (w : World) : Prop :=
  R t2 w
def m64_1 (R : VP) (s0 : Value) (w : World) : Prop :=
  callP Try.prog (fnV 87) #[(Value.int IntKind.u32 0), s0] w fun t4 w =>
  m64_2 R t4 w
def m64_0 (R : VP) (s0 : Value) (w : World) : Prop :=
  m64_1 R s0 w
abbrev W64 := cwp Try.prog (fun i => 0)
noncomputable def k64_0 : Code := (bodyOf Try.f64)
noncomputable def k64_1 : Code := (c2 k64_0)
noncomputable def k64_2 : Code := (c2 k64_1)
theorem s64_2 {R : VP} {Q : EQ} (hR : ∀ e w, (R (e 2) w) → Q .ret e w) (e : Env) (w : World) (h : m64_2 R (e 2) w) : W64 k64_2 Q e w := by
  unfold m64_2 at h
  exact reA (hR _ _ h)
theorem s64_1 {R : VP} {Q : EQ} (hR : ∀ e w, (R (e 2) w) → Q .ret e w) (e : Env) (w : World) (h : m64_1 R (e 0) w) : W64 k64_1 Q e w := by
  unfold m64_1 at h
  refine seA ?_
  have hN : ∀ e w, (m64_2 R (e 2) w) → (thenE (W64 k64_2 Q) Q) .normal e w := fun e w h => then_N (s64_2 (R := R) (Q := Q) hR e w h)
  exact rgA 1 (fun e w => m64_2 R (e 2) w) h hN
theorem s64_0 {R : VP} {Q : EQ} (hR : ∀ e w, (R (e 2) w) → Q .ret e w) (e : Env) (w : World) (h : m64_0 R (e 0) w) : W64 k64_0 Q e w := by
  unfold m64_0 at h
  refine seA ?_
  have hN : ∀ e w, (m64_1 R (e 0) w) → (thenE (W64 k64_1 Q) Q) .normal e w := fun e w h => then_N (s64_1 (R := R) (Q := Q) hR e w h)
  exact rgA 0 (fun e w => m64_1 R (e 0) w) h hN
abbrev m64 (R : VP) (s0 : Value) (w : World) : Prop := m64_0 R s0 w
theorem s64 (s0 : Value) {R : VP} {w : World} (h : m64 R s0 w) :
    Calls Try.prog 64 #[s0] w fun e w' => ∃ v, e = .returned v ∧ R v w' :=
  calls_of_cwp (st := (fun i => 0)) (c := k64_0) (by kernel_rfl) Try.func64 (by kernel_rfl) (Nat.le_of_ble_eq_true (by kernel_rfl)) (by kernel_rfl)
    (s64_0 (R := R) (Q := endE Try.prog Try.f64 R) (fun e w h => kcast (by kernel_rfl) h) (argsE #[s0]) w (kcast (by kernel_rfl) h))
/-! ### headgate/headgateref02.Bytes -/
def m63_8 (R : VP) (K1 : (Value × Value × Value) → World → Prop) (c0 b3 k4 : Value) (w : World) : Prop :=
  valP Try.prog (binS BinOp.add 3 (Operand.tmp 7) (Operand.const (Value.int IntKind.i64 1)) k4 (Value.int IntKind.i64 1)) w fun t8 w =>
  K1 (c0, b3, t8) w
def m63_9 (R : VP) (K1 : (Value × Value × Value) → World → Prop) (c0 b3 k4 : Value) (w : World) : Prop :=
  valP Try.prog (binS BinOp.quo 113 (Operand.tmp 15) (Operand.const (Value.int IntKind.u32 256)) c0 (Value.int IntKind.u32 256)) w fun t16 w =>
  m63_8 R K1 t16 b3 k4 w
def m63_7 (R : VP) (K1 : (Value × Value × Value) → World → Prop) (c0 b3 k4 : Value) (w : World) : Prop :=
  valP Try.prog (binS BinOp.rem 113 (Operand.tmp 10) (Operand.const (Value.int IntKind.u32 256)) c0 (Value.int IntKind.u32 256)) w fun t11 w =>
  valP Try.prog (convert 113 5 t11) w fun t12 w =>
  valP Try.prog (Instr.buildSlice 71 1 #[(0, t12)]) w fun t13 w =>
  builtinP Try.prog Builtin.append #[71, 71] 71 #[false, false] #[b3, t13] w fun t14 w =>
  m63_9 R K1 c0 t14 k4 w
def m63_4 (R : VP) (t2 : Value) (w : World) : Prop :=
  R t2 w
def m63_3 (R : VP) (b3 : Value) (w : World) : Prop :=
  valP Try.prog (convert 71 9 b3) w fun t18 w =>
  m63_4 R t18 w
def m63_10 (R : VP) (K1 : (Value × Value × Value) → World → Prop) (c0 b3 k4 t6 : Value) (w : World) : Prop :=
  condP t6
  (m63_7 R K1 c0 b3 k4 w)
  (m63_3 R b3 w)
def m63_6 (R : VP) (K1 : (Value × Value × Value) → World → Prop) (c0 b3 k4 : Value) (w : World) : Prop :=
  valP Try.prog (binS BinOp.lss 3 (Operand.tmp 5) (Operand.const (Value.int IntKind.i64 4)) k4 (Value.int IntKind.i64 4)) w fun t6 w =>
  m63_10 R K1 c0 b3 k4 t6 w
def m63_5 (R : VP) (c0 b3 k4 : Value) (w : World) : Prop :=
  loopP (fun (K1 : (Value × Value × Value) → World → Prop) (s : Value × Value × Value) w => m63_6 R K1 s.1 s.2.1 s.2.2 w) (c0, b3, k4) w
def m63_2 (R : VP) (c0 b3 : Value) (w : World) : Prop :=
  m63_5 R c0 b3 (Value.int IntKind.i64 0) w
def m63_1 (R : VP) (c0 : Value) (w : World) : Prop :=
  m63_2 R c0 (Value.slice none 0 0) w
def m63_0 (R : VP) (c0 : Value) (w : World) : Prop :=
  m63_1 R c0 w
abbrev W63 := cwp Try.prog (fun i => 0)
noncomputable def k63_0 : Code := (bodyOf Try.f63)
noncomputable def k63_1 : Code := (c2 k63_0)
noncomputable def k63_2 : Code := (c2 k63_1)
noncomputable def k63_3 : Code := (c2 k63_2)
noncomputable def k63_4 : Code := (c2 k63_3)
noncomputable def k63_5 : Code := (c2 (c1 k63_2))
noncomputable def k63_6 : Code := (c1 (c1 k63_5))
noncomputable def k63_7 : Code := (c2 k63_6)
noncomputable def k63_8 : Code := (c2 k63_7)
noncomputable def k63_9 : Code := (c2 (c1 (c1 k63_7)))
noncomputable def k63_10 : Code := (c2 (c1 k63_6))
theorem s63_8 {R : VP} {K1 : (Value × Value × Value) → World → Prop} {Q : EQ} (hN : ∀ e w, (K1 ((e 0), (e 3), (e 4)) w) → Q .normal e w) (e : Env) (w : World) (h : m63_8 R K1 (e 0) (e 3) (e 4) w) : W63 k63_8 Q e w := by
  unfold m63_8 at h
  exact rgA 4 (fun e w => K1 ((e 0), (e 3), (e 4)) w) h hN
theorem s63_9 {R : VP} {K1 : (Value × Value × Value) → World → Prop} {Q : EQ} (hN : ∀ e w, (m63_8 R K1 (e 0) (e 3) (e 4) w) → Q .normal e w) (e : Env) (w : World) (h : m63_9 R K1 (e 0) (e 3) (e 4) w) : W63 k63_9 Q e w := by
  unfold m63_9 at h
  exact rgA 6 (fun e w => m63_8 R K1 (e 0) (e 3) (e 4) w) h hN
theorem s63_7 {R : VP} {K1 : (Value × Value × Value) → World → Prop} {Q : EQ} (hN : ∀ e w, (K1 ((e 0), (e 3), (e 4)) w) → Q .normal e w) (e : Env) (w : World) (h : m63_7 R K1 (e 0) (e 3) (e 4) w) : W63 k63_7 Q e w := by
  unfold m63_7 at h
  refine seA ?_
  have hN : ∀ e w, (m63_8 R K1 (e 0) (e 3) (e 4) w) → (thenE (W63 k63_8 Q) Q) .normal e w := fun e w h => then_N (s63_8 (R := R) (Q := Q) (K1 := K1) hN e w h)
  refine block_ok 1 (by kernel_rfl) ?_
  have hN : ∀ e w, (m63_8 R K1 (e 0) (e 3) (e 4) w) → (inBlockE 1 (thenE (W63 k63_8 Q) Q)) .normal e w := fun e w h => block_N (hN e w h)
  refine seA ?_
  have hN : ∀ e w, (m63_9 R K1 (e 0) (e 3) (e 4) w) → (thenE (W63 k63_9 (inBlockE 1 (thenE (W63 k63_8 Q) Q))) (inBlockE 1 (thenE (W63 k63_8 Q) Q))) .normal e w := fun e w h => then_N (s63_9 (R := R) (Q := (inBlockE 1 (thenE (W63 k63_8 Q) Q))) (K1 := K1) hN e w h)
  exact rgA 5 (fun e w => m63_9 R K1 (e 0) (e 3) (e 4) w) h hN
theorem s63_4 {R : VP} {Q : EQ} (hR : ∀ e w, (R (e 2) w) → Q .ret e w) (e : Env) (w : World) (h : m63_4 R (e 2) w) : W63 k63_4 Q e w := by
  unfold m63_4 at h
  exact reA (hR _ _ h)
theorem s63_3 {R : VP} {Q : EQ} (hR : ∀ e w, (R (e 2) w) → Q .ret e w) (e : Env) (w : World) (h : m63_3 R (e 3) w) : W63 k63_3 Q e w := by
  unfold m63_3 at h
  refine seA ?_
  have hN : ∀ e w, (m63_4 R (e 2) w) → (thenE (W63 k63_4 Q) Q) .normal e w := fun e w h => then_N (s63_4 (R := R) (Q := Q) hR e w h)
  exact rgA 7 (fun e w => m63_4 R (e 2) w) h hN
theorem s63_10 {R : VP} {K1 : (Value × Value × Value) → World → Prop} {Q : EQ} (hN : ∀ e w, (m63_7 R K1 (e 0) (e 3) (e 4) w) → Q .normal e w) (hX0 : ∀ e w, (m63_3 R (e 3) w) → Q (.exit 0) e w) (e : Env) (w : World) (h : m63_10 R K1 (e 0) (e 3) (e 4) (e 6) w) : W63 k63_10 Q e w := by
  unfold m63_10 at h
  refine coA (Operand.tmp 6) h (fun h1 => ?_) (fun h1 => ?_)
  · exact skA (hN _ _ h1)
  · exact exA 0 (hX0 _ _ h1)
theorem s63_6 {R : VP} {K1 : (Value × Value × Value) → World → Prop} {Q : EQ} (hN : ∀ e w, (K1 ((e 0), (e 3), (e 4)) w) → Q .normal e w) (hX0 : ∀ e w, (m63_3 R (e 3) w) → Q (.exit 0) e w) (e : Env) (w : World) (h : m63_6 R K1 (e 0) (e 3) (e 4) w) : W63 k63_6 Q e w := by
  unfold m63_6 at h
  refine seA ?_
  have hN : ∀ e w, (m63_7 R K1 (e 0) (e 3) (e 4) w) → (thenE (W63 k63_7 Q) Q) .normal e w := fun e w h => then_N (s63_7 (R := R) (Q := Q) (K1 := K1) hN e w h)
  have hX0 : ∀ e w, (m63_3 R (e 3) w) → (thenE (W63 k63_7 Q) Q) (.exit 0) e w := fun e w h => then_X (hX0 e w h)
  refine seA ?_
  have hN : ∀ e w, (m63_10 R K1 (e 0) (e 3) (e 4) (e 6) w) → (thenE (W63 k63_10 (thenE (W63 k63_7 Q) Q)) (thenE (W63 k63_7 Q) Q)) .normal e w := fun e w h => then_N (s63_10 (R := R) (Q := (thenE (W63 k63_7 Q) Q)) (K1 := K1) hN hX0 e w h)
  exact rgA 3 (fun e w => m63_10 R K1 (e 0) (e 3) (e 4) (e 6) w) h hN
theorem s63_5 {R : VP} {Q : EQ} (hN : ∀ e w, (m63_3 R (e 3) w) → Q .normal e w) (e : Env) (w : World) (h : m63_5 R (e 0) (e 3) (e 4) w) : W63 k63_5 Q e w := by
  unfold m63_5 at h
  refine block_ok 0 (by kernel_rfl) ?_
  have hX0 : ∀ e w, (m63_3 R (e 3) w) → (inBlockE 0 Q) (.exit 0) e w := fun e w h => inBlock_same (Q := Q) 0 (hN e w h)
  refine loop_ok' (fun (e : Env) => (e 0, e 3, e 4)) [] (by kernel_rfl) (by kernel_rfl) h (fun K e' w' hk h' => ?_)
  have hX0 : ∀ e w, (m63_3 R (e 3) w) → (thenE (fun (e : Env) w => K ((e 0), (e 3), (e 4)) w) (inBlockE 0 Q)) (.exit 0) e w := fun e w h => then_X (hX0 e w h)
  exact s63_6 (R := R) (Q := (thenE (fun (e : Env) w => K ((e 0), (e 3), (e 4)) w) (inBlockE 0 Q))) (K1 := K) (fun _ _ h => then_N h) hX0 e' w' h'
theorem s63_2 {R : VP} {Q : EQ} (hR : ∀ e w, (R (e 2) w) → Q .ret e w) (e : Env) (w : World) (h : m63_2 R (e 0) (e 3) w) : W63 k63_2 Q e w := by
  unfold m63_2 at h
  refine seA ?_
  have hN : ∀ e w, (m63_3 R (e 3) w) → (thenE (W63 k63_3 Q) Q) .normal e w := fun e w h => then_N (s63_3 (R := R) (Q := Q) hR e w h)
  refine seA ?_
  have hN : ∀ e w, (m63_5 R (e 0) (e 3) (e 4) w) → (thenE (W63 k63_5 (thenE (W63 k63_3 Q) Q)) (thenE (W63 k63_3 Q) Q)) .normal e w := fun e w h => then_N (s63_5 (R := R) (Q := (thenE (W63 k63_3 Q) Q)) hN e w h)
  exact rgA 2 (fun e w => m63_5 R (e 0) (e 3) (e 4) w) h hN
theorem s63_1 {R : VP} {Q : EQ} (hR : ∀ e w, (R (e 2) w) → Q .ret e w) (e : Env) (w : World) (h : m63_1 R (e 0) w) : W63 k63_1 Q e w := by
  unfold m63_1 at h
  refine seA ?_
  have hN : ∀ e w, (m63_2 R (e 0) (e 3) w) → (thenE (W63 k63_2 Q) Q) .normal e w := fun e w h => then_N (s63_2 (R := R) (Q := Q) hR e w h)
  exact rgA 1 (fun e w => m63_2 R (e 0) (e 3) w) h hN
theorem s63_0 {R : VP} {Q : EQ} (hR : ∀ e w, (R (e 2) w) → Q .ret e w) (e : Env) (w : World) (h : m63_0 R (e 0) w) : W63 k63_0 Q e w := by
  unfold m63_0 at h
  refine seA ?_
  have hN : ∀ e w, (m63_1 R (e 0) w) → (thenE (W63 k63_1 Q) Q) .normal e w := fun e w h => then_N (s63_1 (R := R) (Q := Q) hR e w h)
  exact rgA 0 (fun e w => m63_1 R (e 0) w) h hN
abbrev m63 (R : VP) (c0 : Value) (w : World) : Prop := m63_0 R c0 w
theorem s63 (c0 : Value) {R : VP} {w : World} (h : m63 R c0 w) :
    Calls Try.prog 63 #[c0] w fun e w' => ∃ v, e = .returned v ∧ R v w' :=
  calls_of_cwp (st := (fun i => 0)) (c := k63_0) (by kernel_rfl) Try.func63 (by kernel_rfl) (Nat.le_of_ble_eq_true (by kernel_rfl)) (by kernel_rfl)
    (s63_0 (R := R) (Q := endE Try.prog Try.f63 R) (fun e w h => kcast (by kernel_rfl) h) (argsE #[c0]) w (kcast (by kernel_rfl) h))
/-! ### headgate/headgateref02.Seal -/
def m38_2 (R : VP) (t2 : Value) (w : World) : Prop :=
  R t2 w
def m38_1 (R : VP) (s0 : Value) (w : World) : Prop :=
  callP Try.prog (fnV 64) #[s0] w fun t5 w =>
  callP Try.prog (fnV 63) #[t5] w fun t6 w =>
  valP Try.prog (binS BinOp.add 9 (Operand.tmp 3) (Operand.tmp 6) s0 t6) w fun t7 w =>
  m38_2 R t7 w
def m38_0 (R : VP) (s0 : Value) (w : World) : Prop :=
  m38_1 R s0 w
abbrev W38 := cwp Try.prog (fun i => 0)
noncomputable def k38_0 : Code := (bodyOf Try.f38)
noncomputable def k38_1 : Code := (c2 k38_0)
noncomputable def k38_2 : Code := (c2 k38_1)
theorem s38_2 {R : VP} {Q : EQ} (hR : ∀ e w, (R (e 2) w) → Q .ret e w) (e : Env) (w : World) (h : m38_2 R (e 2) w) : W38 k38_2 Q e w := by
  unfold m38_2 at h
  exact reA (hR _ _ h)
theorem s38_1 {R : VP} {Q : EQ} (hR : ∀ e w, (R (e 2) w) → Q .ret e w) (e : Env) (w : World) (h : m38_1 R (e 0) w) : W38 k38_1 Q e w := by
  unfold m38_1 at h
  refine seA ?_
  have hN : ∀ e w, (m38_2 R (e 2) w) → (thenE (W38 k38_2 Q) Q) .normal e w := fun e w h => then_N (s38_2 (R := R) (Q := Q) hR e w h)
  exact rgA 1 (fun e w => m38_2 R (e 2) w) h hN
theorem s38_0 {R : VP} {Q : EQ} (hR : ∀ e w, (R (e 2) w) → Q .ret e w) (e : Env) (w : World) (h : m38_0 R (e 0) w) : W38 k38_0 Q e w := by
  unfold m38_0 at h
  refine seA ?_
  have hN : ∀ e w, (m38_1 R (e 0) w) → (thenE (W38 k38_1 Q) Q) .normal e w := fun e w h => then_N (s38_1 (R := R) (Q := Q) hR e w h)
  exact rgA 0 (fun e w => m38_1 R (e 0) w) h hN
abbrev m38 (R : VP) (s0 : Value) (w : World) : Prop := m38_0 R s0 w
theorem s38 (s0 : Value) {R : VP} {w : World} (h : m38 R s0 w) :
    Calls Try.prog 38 #[s0] w fun e w' => ∃ v, e = .returned v ∧ R v w' :=
  calls_of_cwp (st := (fun i => 0)) (c := k38_0) (by kernel_rfl) Try.func38 (by kernel_rfl) (Nat.le_of_ble_eq_true (by kernel_rfl)) (by kernel_rfl)
    (s38_0 (R := R) (Q := endE Try.prog Try.f38 R) (fun e w h => kcast (by kernel_rfl) h) (argsE #[s0]) w (kcast (by kernel_rfl) h))
/-! ### headgate/headgateref02.Unseal -/
def m42_6 (R : VP) (t2 t3 : Value) (w : World) : Prop :=
  R (Value.tuple #[t2, t3]) w
def m42_4 (R : VP) (t2 t3 : Value) (w : World) : Prop :=
  R (Value.tuple #[t2, t3]) w
def m42_3 (R : VP) (s0 n4 : Value) (w : World) : Prop :=
  valP Try.prog (Instr.sliceAt 9 s0 none (some n4) none) w fun t23 w =>
  m42_4 R t23 (Value.int IntKind.i64 0) w
def m42_5 (R : VP) (s0 n4 t20 : Value) (w : World) : Prop :=
  condP t20
  (m42_6 R (Value.string ⟨#[]⟩) (Value.int IntKind.i64 2) w)
  (m42_3 R s0 n4 w)
def m42_2 (R : VP) (s0 n4 : Value) (w : World) : Prop :=
  anyDraw w fun w =>
  pureP Try.prog (binS BinOp.lss 3 (Operand.tmp 8) (Operand.const (Value.int IntKind.i64 0)) n4 (Value.int IntKind.i64 0)) fun t9 =>
  condP t9
  (pickP t9 (Value.bool true) undef fun t20 =>
  m42_5 R s0 n4 t20 w)
  (pureP Try.prog (Instr.sliceAt 9 s0 none (some n4) none) fun t13 =>
  pureP Try.prog (Instr.sliceAt 9 s0 (some n4) none none) fun t18 =>
  callP Try.prog (fnV 64) #[t13] w fun t14 w =>
  callP Try.prog (fnV 63) #[t14] w fun t15 w =>
  pureP Try.prog (binS BinOp.neq 9 (Operand.tmp 15) (Operand.tmp 18) t15 t18) fun t19 =>
  pickP t9 (Value.bool true) t19 fun t20 =>
  m42_5 R s0 n4 t20 w)
def m42_1 (R : VP) (s0 : Value) (w : World) : Prop :=
  builtinP Try.prog Builtin.len #[9] 3 #[false] #[s0] w fun t6 w =>
  valP Try.prog (binS BinOp.sub 3 (Operand.tmp 6) (Operand.const (Value.int IntKind.i64 4)) t6 (Value.int IntKind.i64 4)) w fun t7 w =>
  m42_2 R s0 t7 w
def m42_0 (R : VP) (s0 : Value) (w : World) : Prop :=
  m42_1 R s0 w
abbrev W42 := cwp Try.prog (fun i => 0)
noncomputable def k42_0 : Code := (bodyOf Try.f42)
noncomputable def k42_1 : Code := (c2 k42_0)
noncomputable def k42_2 : Code := (c2 k42_1)
noncomputable def k42_3 : Code := (c2 k42_2)
noncomputable def k42_4 : Code := (c2 k42_3)
noncomputable def k42_5 : Code := (c2 (c1 k42_2))
noncomputable def k42_6 : Code := (c2 (c1 k42_5))
theorem s42_6 {R : VP} {Q : EQ} (hR : ∀ e w, (R (Value.tuple #[(e 2), (e 3)]) w) → Q .ret e w) (e : Env) (w : World) (h : m42_6 R (e 2) (e 3) w) : W42 k42_6 Q e w := by
  unfold m42_6 at h
  exact reA (hR _ _ h)
theorem s42_4 {R : VP} {Q : EQ} (hR : ∀ e w, (R (Value.tuple #[(e 2), (e 3)]) w) → Q .ret e w) (e : Env) (w : World) (h : m42_4 R (e 2) (e 3) w) : W42 k42_4 Q e w := by
  unfold m42_4 at h
  exact reA (hR _ _ h)
theorem s42_3 {R : VP} {Q : EQ} (hR : ∀ e w, (R (Value.tuple #[(e 2), (e 3)]) w) → Q .ret e w) (e : Env) (w : World) (h : m42_3 R (e 0) (e 4) w) : W42 k42_3 Q e w := by
  unfold m42_3 at h
  refine seA ?_
  have hN : ∀ e w, (m42_4 R (e 2) (e 3) w) → (thenE (W42 k42_4 Q) Q) .normal e w := fun e w h => then_N (s42_4 (R := R) (Q := Q) hR e w h)
  exact rgA 4 (fun e w => m42_4 R (e 2) (e 3) w) h hN
theorem s42_5 {R : VP} {Q : EQ} (hN : ∀ e w, (m42_3 R (e 0) (e 4) w) → Q .normal e w) (hR : ∀ e w, (R (Value.tuple #[(e 2), (e 3)]) w) → Q .ret e w) (e : Env) (w : World) (h : m42_5 R (e 0) (e 4) (e 20) w) : W42 k42_5 Q e w := by
  unfold m42_5 at h
  refine coA (Operand.tmp 20) h (fun h1 => ?_) (fun h1 => ?_)
  · refine seA ?_
    have hN : ∀ e w, (m42_6 R (e 2) (e 3) w) → (thenE (W42 k42_6 Q) Q) .normal e w := fun e w h => then_N (s42_6 (R := R) (Q := Q) hR e w h)
    exact rgA 3 (fun e w => m42_6 R (e 2) (e 3) w) h1 hN
  · exact skA (hN _ _ h1)
theorem s42_2 {R : VP} {Q : EQ} (hR : ∀ e w, (R (Value.tuple #[(e 2), (e 3)]) w) → Q .ret e w) (e : Env) (w : World) (h : m42_2 R (e 0) (e 4) w) : W42 k42_2 Q e w := by
  unfold m42_2 at h
  refine seA ?_
  have hN : ∀ e w, (m42_3 R (e 0) (e 4) w) → (thenE (W42 k42_3 Q) Q) .normal e w := fun e w h => then_N (s42_3 (R := R) (Q := Q) hR e w h)
  have hR : ∀ e w, (R (Value.tuple #[(e 2), (e 3)]) w) → (thenE (W42 k42_3 Q) Q) .ret e w := fun e w h => then_R (hR e w h)
  refine seA ?_
  have hN : ∀ e w, (m42_5 R (e 0) (e 4) (e 20) w) → (thenE (W42 k42_5 (thenE (W42 k42_3 Q) Q)) (thenE (W42 k42_3 Q) Q)) .normal e w := fun e w h => then_N (s42_5 (R := R) (Q := (thenE (W42 k42_3 Q) Q)) hN hR e w h)
  exact tree_ok 2 13 [false, false, false, false, false, false, false, false, false, false, false, false, false] (.take 0 [true, false, false, false, false, false, false, false, false, false, false, false, false] (.take 1 [true, true, false, false, false, false, false, false, false, false, false, false, false] (.take 2 [true, true, true, false, false, false, false, false, false, false, false, false, false] (.take 3 [true, true, true, true, false, false, false, false, false, false, false, false, false] (.take 4 [true, true, true, true, true, false, false, false, false, false, false, false, false] (.take 5 [true, true, true, true, true, true, false, false, false, false, false, false, false] (.take 8 [true, true, true, true, true, true, false, false, true, false, false, false, false] (.take 9 [true, true, true, true, true, true, false, false, true, true, false, false, false] (.take 10 [true, true, true, true, true, true, false, false, true, true, true, false, false] (.alt 6 [true, true, true, true, true, true, true, false, true, true, true, false, false] (.alt 7 [true, true, true, true, true, true, true, true, true, true, true, false, false] (.take 11 [true, true, true, true, true, true, true, true, true, true, true, true, false] (.take 12 [true, true, true, true, true, true, true, true, true, true, true, true, true] .done)) .stop) .stop)))))))))) (fun e w => m42_5 R (e 0) (e 4) (e 20) w) (by kernel_rfl) (by kernel_rfl) (by kernel_rfl) (by kernel_rfl) (by kernel_rfl) (by kernel_rfl) (kcast (by kernel_rfl) h) hN (by kernel_rfl)
theorem s42_1 {R : VP} {Q : EQ} (hR : ∀ e w, (R (Value.tuple #[(e 2), (e 3)]) w) → Q .ret e w) (e : Env) (w : World) (h : m42_1 R (e 0) w) : W42 k42_1 Q e w := by
  unfold m42_1 at h
  refine seA ?_
  have hN : ∀ e w, (m42_2 R (e 0) (e 4) w) → (thenE (W42 k42_2 Q) Q) .normal e w := fun e w h => then_N (s42_2 (R := R) (Q := Q) hR e w h)
  exact rgA 1 (fun e w => m42_2 R (e 0) (e 4) w) h hN
theorem s42_0 {R : VP} {Q : EQ} (hR : ∀ e w, (R (Value.tuple #[(e 2), (e 3)]) w) → Q .ret e w) (e : Env) (w : World) (h : m42_0 R (e 0) w) : W42 k42_0 Q e w := by
  unfold m42_0 at h
  refine seA ?_
  have hN : ∀ e w, (m42_1 R (e 0) w) → (thenE (W42 k42_1 Q) Q) .normal e w := fun e w h => then_N (s42_1 (R := R) (Q := Q) hR e w h)
  exact rgA 0 (fun e w => m42_1 R (e 0) w) h hN
abbrev m42 (R : VP) (s0 : Value) (w : World) : Prop := m42_0 R s0 w
theorem s42 (s0 : Value) {R : VP} {w : World} (h : m42 R s0 w) :
    Calls Try.prog 42 #[s0] w fun e w' => ∃ v, e = .returned v ∧ R v w' :=
  calls_of_cwp (st := (fun i => 0)) (c := k42_0) (by kernel_rfl) Try.func42 (by kernel_rfl) (Nat.le_of_ble_eq_true (by kernel_rfl)) (by kernel_rfl)
    (s42_0 (R := R) (Q := endE Try.prog Try.f42 R) (fun e w h => kcast (by kernel_rfl) h) (argsE #[s0]) w (kcast (by kernel_rfl) h))
end Go.Proofs.Ytcdnkbplplghmaa.M
