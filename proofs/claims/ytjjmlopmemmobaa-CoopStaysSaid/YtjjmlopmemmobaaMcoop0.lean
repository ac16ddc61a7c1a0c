/- What functions' texts ask of their ends, told over values that have names; printed by a program of this work. -/
import Derived.Test.YtjjmlopmemmobaaFw
import Derived.Test.YtjjmlopmemmobaaProg
namespace Go.Proofs.Ytjjmlopmemmobaa.M
open Go.Proofs.Ytjjmlopmemmobaa.F
set_option linter.unusedVariables false
set_option maxRecDepth 100000
/-! ### headgate/headgatelaw35.of -/
def m14_6 (R : VP) (t2 : Value) (w : World) : Prop :=
  R t2 w
def m14_4 (R : VP) (t2 : Value) (w : World) : Prop :=
  R t2 w
def m14_3 (R : VP) (c3 : Value) (w : World) : Prop :=
  m14_4 R c3 w
def m14_5 (R : VP) (c3 t15 : Value) (w : World) : Prop :=
  condP t15
  (m14_6 R (Value.pointer none) w)
  (m14_3 R c3 w)
def m14_2 (R : VP) (c3 e4 : Value) (w : World) : Prop :=
  valP Try.prog (binS BinOp.neq 26 (Operand.tmp 14) (Operand.const (Value.int IntKind.i64 0)) e4 (Value.int IntKind.i64 0)) w fun t15 w =>
  m14_5 R c3 t15 w
def m14_1 (R : VP) (parts0 : Value) (w : World) : Prop :=
  valP Try.prog (binS BinOp.rem 3 (Operand.tmp 6) (Operand.const (Value.int IntKind.i64 16)) parts0 (Value.int IntKind.i64 16)) w fun t7 w =>
  valP Try.prog (binS BinOp.add 3 (Operand.tmp 7) (Operand.const (Value.int IntKind.i64 16)) t7 (Value.int IntKind.i64 16)) w fun t8 w =>
  valP Try.prog (binS BinOp.rem 3 (Operand.tmp 8) (Operand.const (Value.int IntKind.i64 16)) t8 (Value.int IntKind.i64 16)) w fun t9 w =>
  valP Try.prog (binS BinOp.add 3 (Operand.const (Value.int IntKind.i64 1)) (Operand.tmp 9) (Value.int IntKind.i64 1) t9) w fun t10 w =>
  callP Try.prog (fnV 26) #[t10] w fun t11 w =>
  valP Try.prog (Instr.extract t11 0) w fun t12 w =>
  valP Try.prog (Instr.extract t11 1) w fun t13 w =>
  m14_2 R t12 t13 w
def m14_0 (R : VP) (parts0 : Value) (w : World) : Prop :=
  m14_1 R parts0 w
abbrev W14 := cwp Try.prog (fun i => 0)
noncomputable def k14_0 : Code := (bodyOf Try.f14)
noncomputable def k14_1 : Code := (c2 k14_0)
noncomputable def k14_2 : Code := (c2 k14_1)
noncomputable def k14_3 : Code := (c2 k14_2)
noncomputable def k14_4 : Code := (c2 k14_3)
noncomputable def k14_5 : Code := (c2 (c1 k14_2))
noncomputable def k14_6 : Code := (c2 (c1 k14_5))
theorem s14_6 {R : VP} {Q : EQ} (hR : ∀ e w, (R (e 2) w) → Q .ret e w) (e : Env) (w : World) (h : m14_6 R (e 2) w) : W14 k14_6 Q e w := by
  unfold m14_6 at h
  exact reA (hR _ _ h)
theorem s14_4 {R : VP} {Q : EQ} (hR : ∀ e w, (R (e 2) w) → Q .ret e w) (e : Env) (w : World) (h : m14_4 R (e 2) w) : W14 k14_4 Q e w := by
  unfold m14_4 at h
  exact reA (hR _ _ h)
theorem s14_3 {R : VP} {Q : EQ} (hR : ∀ e w, (R (e 2) w) → Q .ret e w) (e : Env) (w : World) (h : m14_3 R (e 3) w) : W14 k14_3 Q e w := by
  unfold m14_3 at h
  refine seA ?_
  have hN : ∀ e w, (m14_4 R (e 2) w) → (thenE (W14 k14_4 Q) Q) .normal e w := fun e w h => then_N (s14_4 (R := R) (Q := Q) hR e w h)
  exact rgA 4 (fun e w => m14_4 R (e 2) w) h hN
theorem s14_5 {R : VP} {Q : EQ} (hN : ∀ e w, (m14_3 R (e 3) w) → Q .normal e w) (hR : ∀ e w, (R (e 2) w) → Q .ret e w) (e : Env) (w : World) (h : m14_5 R (e 3) (e 15) w) : W14 k14_5 Q e w := by
  unfold m14_5 at h
  refine coA (Operand.tmp 15) h (fun h1 => ?_) (fun h1 => ?_)
  · refine seA ?_
    have hN : ∀ e w, (m14_6 R (e 2) w) → (thenE (W14 k14_6 Q) Q) .normal e w := fun e w h => then_N (s14_6 (R := R) (Q := Q) hR e w h)
    exact rgA 3 (fun e w => m14_6 R (e 2) w) h1 hN
  · exact skA (hN _ _ h1)
theorem s14_2 {R : VP} {Q : EQ} (hR : ∀ e w, (R (e 2) w) → Q .ret e w) (e : Env) (w : World) (h : m14_2 R (e 3) (e 4) w) : W14 k14_2 Q e w := by
  unfold m14_2 at h
  refine seA ?_
  have hN : ∀ e w, (m14_3 R (e 3) w) → (thenE (W14 k14_3 Q) Q) .normal e w := fun e w h => then_N (s14_3 (R := R) (Q := Q) hR e w h)
  have hR : ∀ e w, (R (e 2) w) → (thenE (W14 k14_3 Q) Q) .ret e w := fun e w h => then_R (hR e w h)
  refine seA ?_
  have hN : ∀ e w, (m14_5 R (e 3) (e 15) w) → (thenE (W14 k14_5 (thenE (W14 k14_3 Q) Q)) (thenE (W14 k14_3 Q) Q)) .normal e w := fun e w h => then_N (s14_5 (R := R) (Q := (thenE (W14 k14_3 Q) Q)) hN hR e w h)
  exact rgA 2 (fun e w => m14_5 R (e 3) (e 15) w) h hN
theorem s14_1 {R : VP} {Q : EQ} (hR : ∀ e w, (R (e 2) w) → Q .ret e w) (e : Env) (w : World) (h : m14_1 R (e 0) w) : W14 k14_1 Q e w := by
  unfold m14_1 at h
  refine seA ?_
  have hN : ∀ e w, (m14_2 R (e 3) (e 4) w) → (thenE (W14 k14_2 Q) Q) .normal e w := fun e w h => then_N (s14_2 (R := R) (Q := Q) hR e w h)
  exact rgA 1 (fun e w => m14_2 R (e 3) (e 4) w) h hN
theorem s14_0 {R : VP} {Q : EQ} (hR : ∀ e w, (R (e 2) w) → Q .ret e w) (e : Env) (w : World) (h : m14_0 R (e 0) w) : W14 k14_0 Q e w := by
  unfold m14_0 at h
  refine seA ?_
  have hN : ∀ e w, (m14_1 R (e 0) w) → (thenE (W14 k14_1 Q) Q) .normal e w := fun e w h => then_N (s14_1 (R := R) (Q := Q) hR e w h)
  exact rgA 0 (fun e w => m14_1 R (e 0) w) h hN
abbrev m14 (R : VP) (parts0 : Value) (w : World) : Prop := m14_0 R parts0 w
theorem s14 (parts0 : Value) {R : VP} {w : World} (h : m14 R parts0 w) :
    Calls Try.prog 14 #[parts0] w fun e w' => ∃ v, e = .returned v ∧ R v w' :=
  calls_of_cwp (st := (fun i => 0)) (c := k14_0) (by kernel_rfl) Try.func14 (by kernel_rfl) (Nat.le_of_ble_eq_true (by kernel_rfl)) (by kernel_rfl)
    (s14_0 (R := R) (Q := endE Try.prog Try.f14 R) (fun e w h => kcast (by kernel_rfl) h) (argsE #[parts0]) w (kcast (by kernel_rfl) h))
/-! ### headgate/headgatelaw35.some -/
def m15_9 (R : VP) (K1 : (Value × Value) → World → Prop) (l0 out3 i4 : Value) (w : World) : Prop :=
  valP Try.prog (binS BinOp.add 3 (Operand.tmp 15) (Operand.const (Value.int IntKind.i64 1)) i4 (Value.int IntKind.i64 1)) w fun t16 w =>
  K1 (out3, t16) w
def m15_11 (R : VP) (K1 : (Value × Value) → World → Prop) (l0 out3 i4 x5 : Value) (w : World) : Prop :=
  valP Try.prog (Instr.loadAt 30 x5) w fun t30 w =>
  valP Try.prog (Instr.buildSlice 22 1 #[(0, t30)]) w fun t31 w =>
  builtinP Try.prog Builtin.append #[22, 22] 22 #[false, false] #[out3, t31] w fun t32 w =>
  m15_9 R K1 l0 t32 i4 w
def m15_12 (R : VP) (K1 : (Value × Value) → World → Prop) (l0 out3 i4 x5 t24 : Value) (w : World) : Prop :=
  condP t24
  (valP Try.prog (Instr.fieldAt 30 x5 4) w fun t25 w =>
  valP Try.prog (Instr.loadAt 28 t25) w fun t26 w =>
  valP Try.prog (Instr.sliceAt 28 t26 none (some (Value.int IntKind.i64 12)) none) w fun t27 w =>
  valP Try.prog (Instr.fieldAt 30 x5 4) w fun t28 w =>
  unitP Try.prog (Instr.storeAt 28 t28 t27) w fun _ w =>
  m15_11 R K1 l0 out3 i4 x5 w)
  (m15_11 R K1 l0 out3 i4 x5 w)
def m15_10 (R : VP) (K1 : (Value × Value) → World → Prop) (l0 out3 i4 x5 : Value) (w : World) : Prop :=
  valP Try.prog (Instr.fieldAt 30 x5 4) w fun t21 w =>
  valP Try.prog (Instr.loadAt 28 t21) w fun t22 w =>
  builtinP Try.prog Builtin.len #[28] 3 #[false] #[t22] w fun t23 w =>
  valP Try.prog (binS BinOp.gtr 3 (Operand.tmp 23) (Operand.const (Value.int IntKind.i64 12)) t23 (Value.int IntKind.i64 12)) w fun t24 w =>
  m15_12 R K1 l0 out3 i4 x5 t24 w
def m15_8 (R : VP) (K1 : (Value × Value) → World → Prop) (l0 out3 i4 : Value) (w : World) : Prop :=
  valP Try.prog (Instr.indexAt 22 l0 i4) w fun t19 w =>
  valP Try.prog (Instr.loadAt 30 t19) w fun t20 w =>
  valP Try.prog (Instr.alloc 30 true (.tuple #[])) w fun x5 w =>
  unitP Try.prog (Instr.storeAt 30 x5 t20) w fun _ w =>
  m15_10 R K1 l0 out3 i4 x5 w
def m15_5 (R : VP) (t2 : Value) (w : World) : Prop :=
  R t2 w
def m15_4 (R : VP) (out3 : Value) (w : World) : Prop :=
  m15_5 R out3 w
def m15_13 (R : VP) (K1 : (Value × Value) → World → Prop) (l0 out3 i4 t14 : Value) (w : World) : Prop :=
  condP t14
  (m15_8 R K1 l0 out3 i4 w)
  (m15_4 R out3 w)
def m15_7 (R : VP) (K1 : (Value × Value) → World → Prop) (l0 out3 i4 : Value) (w : World) : Prop :=
  builtinP Try.prog Builtin.len #[22] 3 #[false] #[l0] w fun t13 w =>
  valP Try.prog (binS BinOp.lss 3 (Operand.tmp 11) (Operand.tmp 13) i4 t13) w fun t14 w =>
  m15_13 R K1 l0 out3 i4 t14 w
def m15_6 (R : VP) (l0 out3 i4 : Value) (w : World) : Prop :=
  loopP (fun (K1 : (Value × Value) → World → Prop) (s : Value × Value) w => m15_7 R K1 l0 s.1 s.2 w) (out3, i4) w
def m15_3 (R : VP) (l0 out3 : Value) (w : World) : Prop :=
  m15_6 R l0 out3 (Value.int IntKind.i64 0) w
def m15_2 (R : VP) (l0 : Value) (w : World) : Prop :=
  m15_3 R l0 (Value.slice none 0 0) w
def m15_14 (R : VP) (l0 t8 : Value) (w : World) : Prop :=
  condP t8
  (valP Try.prog (Instr.sliceAt 22 l0 none (some (Value.int IntKind.i64 100)) none) w fun t10 w =>
  m15_2 R t10 w)
  (m15_2 R l0 w)
def m15_1 (R : VP) (l0 : Value) (w : World) : Prop :=
  builtinP Try.prog Builtin.len #[22] 3 #[false] #[l0] w fun t7 w =>
  valP Try.prog (binS BinOp.gtr 3 (Operand.tmp 7) (Operand.const (Value.int IntKind.i64 100)) t7 (Value.int IntKind.i64 100)) w fun t8 w =>
  m15_14 R l0 t8 w
def m15_0 (R : VP) (l0 : Value) (w : World) : Prop :=
  m15_1 R l0 w
abbrev W15 := cwp Try.prog (fun i => 0)
noncomputable def k15_0 : Code := (bodyOf Try.f15)
noncomputable def k15_1 : Code := (c2 k15_0)
noncomputable def k15_2 : Code := (c2 k15_1)
noncomputable def k15_3 : Code := (c2 k15_2)
noncomputable def k15_4 : Code := (c2 k15_3)
noncomputable def k15_5 : Code := (c2 k15_4)
noncomputable def k15_6 : Code := (c2 (c1 k15_3))
noncomputable def k15_7 : Code := (c1 (c1 k15_6))
noncomputable def k15_8 : Code := (c2 k15_7)
noncomputable def k15_9 : Code := (c2 k15_8)
noncomputable def k15_10 : Code := (c2 (c1 (c1 k15_8)))
noncomputable def k15_11 : Code := (c2 k15_10)
noncomputable def k15_12 : Code := (c2 (c1 k15_10))
noncomputable def k15_13 : Code := (c2 (c1 k15_7))
noncomputable def k15_14 : Code := (c2 (c1 k15_1))
theorem s15_9 {R : VP} {K1 : (Value × Value) → World → Prop} {Q : EQ} (hN : ∀ e w, (K1 ((e 3), (e 4)) w) → Q .normal e w) (e : Env) (w : World) (h : m15_9 R K1 (e 0) (e 3) (e 4) w) : W15 k15_9 Q e w := by
  unfold m15_9 at h
  exact rgA 6 (fun e w => K1 ((e 3), (e 4)) w) h hN
theorem s15_11 {R : VP} {K1 : (Value × Value) → World → Prop} {Q : EQ} (hN : ∀ e w, (m15_9 R K1 (e 0) (e 3) (e 4) w) → Q .normal e w) (e : Env) (w : World) (h : m15_11 R K1 (e 0) (e 3) (e 4) (e 5) w) : W15 k15_11 Q e w := by
  unfold m15_11 at h
  exact rgA 10 (fun e w => m15_9 R K1 (e 0) (e 3) (e 4) w) h hN
theorem s15_12 {R : VP} {K1 : (Value × Value) → World → Prop} {Q : EQ} (hN : ∀ e w, (m15_11 R K1 (e 0) (e 3) (e 4) (e 5) w) → Q .normal e w) (e : Env) (w : World) (h : m15_12 R K1 (e 0) (e 3) (e 4) (e 5) (e 24) w) : W15 k15_12 Q e w := by
  unfold m15_12 at h
  refine coA (Operand.tmp 24) h (fun h1 => ?_) (fun h1 => ?_)
  · exact rgA 9 (fun e w => m15_11 R K1 (e 0) (e 3) (e 4) (e 5) w) h1 hN
  · exact skA (hN _ _ h1)
theorem s15_10 {R : VP} {K1 : (Value × Value) → World → Prop} {Q : EQ} (hN : ∀ e w, (m15_9 R K1 (e 0) (e 3) (e 4) w) → Q .normal e w) (e : Env) (w : World) (h : m15_10 R K1 (e 0) (e 3) (e 4) (e 5) w) : W15 k15_10 Q e w := by
  unfold m15_10 at h
  refine seA ?_
  have hN : ∀ e w, (m15_11 R K1 (e 0) (e 3) (e 4) (e 5) w) → (thenE (W15 k15_11 Q) Q) .normal e w := fun e w h => then_N (s15_11 (R := R) (Q := Q) (K1 := K1) hN e w h)
  refine seA ?_
  have hN : ∀ e w, (m15_12 R K1 (e 0) (e 3) (e 4) (e 5) (e 24) w) → (thenE (W15 k15_12 (thenE (W15 k15_11 Q) Q)) (thenE (W15 k15_11 Q) Q)) .normal e w := fun e w h => then_N (s15_12 (R := R) (Q := (thenE (W15 k15_11 Q) Q)) (K1 := K1) hN e w h)
  exact rgA 8 (fun e w => m15_12 R K1 (e 0) (e 3) (e 4) (e 5) (e 24) w) h hN
theorem s15_8 {R : VP} {K1 : (Value × Value) → World → Prop} {Q : EQ} (hN : ∀ e w, (K1 ((e 3), (e 4)) w) → Q .normal e w) (e : Env) (w : World) (h : m15_8 R K1 (e 0) (e 3) (e 4) w) : W15 k15_8 Q e w := by
  unfold m15_8 at h
  refine seA ?_
  have hN : ∀ e w, (m15_9 R K1 (e 0) (e 3) (e 4) w) → (thenE (W15 k15_9 Q) Q) .normal e w := fun e w h => then_N (s15_9 (R := R) (Q := Q) (K1 := K1) hN e w h)
  refine block_ok 1 (by kernel_rfl) ?_
  have hN : ∀ e w, (m15_9 R K1 (e 0) (e 3) (e 4) w) → (inBlockE 1 (thenE (W15 k15_9 Q) Q)) .normal e w := fun e w h => block_N (hN e w h)
  refine seA ?_
  have hN : ∀ e w, (m15_10 R K1 (e 0) (e 3) (e 4) (e 5) w) → (thenE (W15 k15_10 (inBlockE 1 (thenE (W15 k15_9 Q) Q))) (inBlockE 1 (thenE (W15 k15_9 Q) Q))) .normal e w := fun e w h => then_N (s15_10 (R := R) (Q := (inBlockE 1 (thenE (W15 k15_9 Q) Q))) (K1 := K1) hN e w h)
  exact rgA 7 (fun e w => m15_10 R K1 (e 0) (e 3) (e 4) (e 5) w) h hN
theorem s15_5 {R : VP} {Q : EQ} (hR : ∀ e w, (R (e 2) w) → Q .ret e w) (e : Env) (w : World) (h : m15_5 R (e 2) w) : W15 k15_5 Q e w := by
  unfold m15_5 at h
  exact reA (hR _ _ h)
theorem s15_4 {R : VP} {Q : EQ} (hR : ∀ e w, (R (e 2) w) → Q .ret e w) (e : Env) (w : World) (h : m15_4 R (e 3) w) : W15 k15_4 Q e w := by
  unfold m15_4 at h
  refine seA ?_
  have hN : ∀ e w, (m15_5 R (e 2) w) → (thenE (W15 k15_5 Q) Q) .normal e w := fun e w h => then_N (s15_5 (R := R) (Q := Q) hR e w h)
  exact rgA 11 (fun e w => m15_5 R (e 2) w) h hN
theorem s15_13 {R : VP} {K1 : (Value × Value) → World → Prop} {Q : EQ} (hN : ∀ e w, (m15_8 R K1 (e 0) (e 3) (e 4) w) → Q .normal e w) (hX0 : ∀ e w, (m15_4 R (e 3) w) → Q (.exit 0) e w) (e : Env) (w : World) (h : m15_13 R K1 (e 0) (e 3) (e 4) (e 14) w) : W15 k15_13 Q e w := by
  unfold m15_13 at h
  refine coA (Operand.tmp 14) h (fun h1 => ?_) (fun h1 => ?_)
  · exact skA (hN _ _ h1)
  · exact exA 0 (hX0 _ _ h1)
theorem s15_7 {R : VP} {K1 : (Value × Value) → World → Prop} {Q : EQ} (hN : ∀ e w, (K1 ((e 3), (e 4)) w) → Q .normal e w) (hX0 : ∀ e w, (m15_4 R (e 3) w) → Q (.exit 0) e w) (e : Env) (w : World) (h : m15_7 R K1 (e 0) (e 3) (e 4) w) : W15 k15_7 Q e w := by
  unfold m15_7 at h
  refine seA ?_
  have hN : ∀ e w, (m15_8 R K1 (e 0) (e 3) (e 4) w) → (thenE (W15 k15_8 Q) Q) .normal e w := fun e w h => then_N (s15_8 (R := R) (Q := Q) (K1 := K1) hN e w h)
  have hX0 : ∀ e w, (m15_4 R (e 3) w) → (thenE (W15 k15_8 Q) Q) (.exit 0) e w := fun e w h => then_X (hX0 e w h)
  refine seA ?_
  have hN : ∀ e w, (m15_13 R K1 (e 0) (e 3) (e 4) (e 14) w) → (thenE (W15 k15_13 (thenE (W15 k15_8 Q) Q)) (thenE (W15 k15_8 Q) Q)) .normal e w := fun e w h => then_N (s15_13 (R := R) (Q := (thenE (W15 k15_8 Q) Q)) (K1 := K1) hN hX0 e w h)
  exact rgA 5 (fun e w => m15_13 R K1 (e 0) (e 3) (e 4) (e 14) w) h hN
theorem s15_6 {R : VP} {Q : EQ} (hN : ∀ e w, (m15_4 R (e 3) w) → Q .normal e w) (e : Env) (w : World) (h : m15_6 R (e 0) (e 3) (e 4) w) : W15 k15_6 Q e w := by
  unfold m15_6 at h
  refine block_ok 0 (by kernel_rfl) ?_
  have hX0 : ∀ e w, (m15_4 R (e 3) w) → (inBlockE 0 Q) (.exit 0) e w := fun e w h => inBlock_same (Q := Q) 0 (hN e w h)
  refine loop_ok' (fun (e : Env) => (e 3, e 4)) [0] (by kernel_rfl) (by kernel_rfl) h (fun K e' w' hk h' => ?_)
  have r0 : e' 0 = e 0 := hk 0 (by decide)
  have hX0 : ∀ e w, (m15_4 R (e 3) w) → (thenE (fun (e : Env) w => K ((e 3), (e 4)) w) (inBlockE 0 Q)) (.exit 0) e w := fun e w h => then_X (hX0 e w h)
  exact s15_7 (R := R) (Q := (thenE (fun (e : Env) w => K ((e 3), (e 4)) w) (inBlockE 0 Q))) (K1 := K) (fun _ _ h => then_N h) hX0 e' w' (by rw [r0]; exact h')
theorem s15_3 {R : VP} {Q : EQ} (hR : ∀ e w, (R (e 2) w) → Q .ret e w) (e : Env) (w : World) (h : m15_3 R (e 0) (e 3) w) : W15 k15_3 Q e w := by
  unfold m15_3 at h
  refine seA ?_
  have hN : ∀ e w, (m15_4 R (e 3) w) → (thenE (W15 k15_4 Q) Q) .normal e w := fun e w h => then_N (s15_4 (R := R) (Q := Q) hR e w h)
  refine seA ?_
  have hN : ∀ e w, (m15_6 R (e 0) (e 3) (e 4) w) → (thenE (W15 k15_6 (thenE (W15 k15_4 Q) Q)) (thenE (W15 k15_4 Q) Q)) .normal e w := fun e w h => then_N (s15_6 (R := R) (Q := (thenE (W15 k15_4 Q) Q)) hN e w h)
  exact rgA 4 (fun e w => m15_6 R (e 0) (e 3) (e 4) w) h hN
theorem s15_2 {R : VP} {Q : EQ} (hR : ∀ e w, (R (e 2) w) → Q .ret e w) (e : Env) (w : World) (h : m15_2 R (e 0) w) : W15 k15_2 Q e w := by
  unfold m15_2 at h
  refine seA ?_
  have hN : ∀ e w, (m15_3 R (e 0) (e 3) w) → (thenE (W15 k15_3 Q) Q) .normal e w := fun e w h => then_N (s15_3 (R := R) (Q := Q) hR e w h)
  exact rgA 3 (fun e w => m15_3 R (e 0) (e 3) w) h hN
theorem s15_14 {R : VP} {Q : EQ} (hN : ∀ e w, (m15_2 R (e 0) w) → Q .normal e w) (e : Env) (w : World) (h : m15_14 R (e 0) (e 8) w) : W15 k15_14 Q e w := by
  unfold m15_14 at h
  refine coA (Operand.tmp 8) h (fun h1 => ?_) (fun h1 => ?_)
  · exact rgA 2 (fun e w => m15_2 R (e 0) w) h1 hN
  · exact skA (hN _ _ h1)
theorem s15_1 {R : VP} {Q : EQ} (hR : ∀ e w, (R (e 2) w) → Q .ret e w) (e : Env) (w : World) (h : m15_1 R (e 0) w) : W15 k15_1 Q e w := by
  unfold m15_1 at h
  refine seA ?_
  have hN : ∀ e w, (m15_2 R (e 0) w) → (thenE (W15 k15_2 Q) Q) .normal e w := fun e w h => then_N (s15_2 (R := R) (Q := Q) hR e w h)
  refine seA ?_
  have hN : ∀ e w, (m15_14 R (e 0) (e 8) w) → (thenE (W15 k15_14 (thenE (W15 k15_2 Q) Q)) (thenE (W15 k15_2 Q) Q)) .normal e w := fun e w h => then_N (s15_14 (R := R) (Q := (thenE (W15 k15_2 Q) Q)) hN e w h)
  exact rgA 1 (fun e w => m15_14 R (e 0) (e 8) w) h hN
theorem s15_0 {R : VP} {Q : EQ} (hR : ∀ e w, (R (e 2) w) → Q .ret e w) (e : Env) (w : World) (h : m15_0 R (e 0) w) : W15 k15_0 Q e w := by
  unfold m15_0 at h
  refine seA ?_
  have hN : ∀ e w, (m15_1 R (e 0) w) → (thenE (W15 k15_1 Q) Q) .normal e w := fun e w h => then_N (s15_1 (R := R) (Q := Q) hR e w h)
  exact rgA 0 (fun e w => m15_1 R (e 0) w) h hN
abbrev m15 (R : VP) (l0 : Value) (w : World) : Prop := m15_0 R l0 w
theorem s15 (l0 : Value) {R : VP} {w : World} (h : m15 R l0 w) :
    Calls Try.prog 15 #[l0] w fun e w' => ∃ v, e = .returned v ∧ R v w' :=
  calls_of_cwp (st := (fun i => 0)) (c := k15_0) (by kernel_rfl) Try.func15 (by kernel_rfl) (Nat.le_of_ble_eq_true (by kernel_rfl)) (by kernel_rfl)
    (s15_0 (R := R) (Q := endE Try.prog Try.f15 R) (fun e w h => kcast (by kernel_rfl) h) (argsE #[l0]) w (kcast (by kernel_rfl) h))
/-! ### headgate/headgatelaw35.does -/
def m16_6 (R : VP) (t4 : Value) (w : World) : Prop :=
  R t4 w
def m16_8 (R : VP) (t4 : Value) (w : World) : Prop :=
  R t4 w
def m16_11 (R : VP) (t4 : Value) (w : World) : Prop :=
  R t4 w
def m16_10 (R : VP) (e6 : Value) (w : World) : Prop :=
  m16_11 R e6 w
def m16_3 (R : VP) (t4 : Value) (w : World) : Prop :=
  R t4 w
def m16_2 (R : VP) (c0 x3 : Value) (w : World) : Prop :=
  valP Try.prog (Instr.fieldAt 30 x3 1) w fun t33 w =>
  valP Try.prog (Instr.loadAt 3 t33) w fun t34 w =>
  valP Try.prog (Instr.fieldAt 30 x3 2) w fun t35 w =>
  valP Try.prog (Instr.loadAt 3 t35) w fun t36 w =>
  callP Try.prog (fnV 33) #[c0, t34, t36] w fun t37 w =>
  m16_3 R t37 w
def m16_9 (R : VP) (c0 x3 t22 : Value) (w : World) : Prop :=
  condP t22
  (valP Try.prog (Instr.fieldAt 30 x3 1) w fun t26 w =>
  valP Try.prog (Instr.loadAt 3 t26) w fun t27 w =>
  callP Try.prog (fnV 25) #[c0, t27] w fun t28 w =>
  valP Try.prog (Instr.extract t28 0) w fun t29 w =>
  valP Try.prog (Instr.extract t28 1) w fun t30 w =>
  m16_10 R t30 w)
  (m16_2 R c0 x3 w)
def m16_7 (R : VP) (c0 x3 t8 t16 : Value) (w : World) : Prop :=
  condP t16
  (valP Try.prog (Instr.fieldAt 30 x3 1) w fun t19 w =>
  valP Try.prog (Instr.loadAt 3 t19) w fun t20 w =>
  callP Try.prog (fnV 29) #[c0, t20] w fun t21 w =>
  m16_8 R t21 w)
  (valP Try.prog (binS BinOp.eql 3 (Operand.tmp 8) (Operand.const (Value.int IntKind.i64 3)) t8 (Value.int IntKind.i64 3)) w fun t23 w =>
  m16_9 R c0 x3 t23 w)
def m16_5 (R : VP) (c0 x3 t8 t9 : Value) (w : World) : Prop :=
  condP t9
  (valP Try.prog (Instr.fieldAt 30 x3 4) w fun t13 w =>
  valP Try.prog (Instr.loadAt 28 t13) w fun t14 w =>
  callP Try.prog (fnV 24) #[c0, t14] w fun t15 w =>
  m16_6 R t15 w)
  (valP Try.prog (binS BinOp.eql 3 (Operand.tmp 8) (Operand.const (Value.int IntKind.i64 2)) t8 (Value.int IntKind.i64 2)) w fun t17 w =>
  m16_7 R c0 x3 t8 t17 w)
def m16_12 (R : VP) (c0 x3 t8 t9 : Value) (w : World) : Prop :=
  condP t9
  (m16_5 R c0 x3 t8 t9 w)
  (valP Try.prog (binS BinOp.eql 3 (Operand.tmp 8) (Operand.const (Value.int IntKind.i64 1)) t8 (Value.int IntKind.i64 1)) w fun t11 w =>
  m16_5 R c0 x3 t8 t11 w)
def m16_4 (R : VP) (c0 x3 t8 : Value) (w : World) : Prop :=
  valP Try.prog (binS BinOp.eql 3 (Operand.tmp 8) (Operand.const (Value.int IntKind.i64 0)) t8 (Value.int IntKind.i64 0)) w fun t10 w =>
  m16_12 R c0 x3 t8 t10 w
def m16_1 (R : VP) (c0 x3 : Value) (w : World) : Prop :=
  valP Try.prog (Instr.fieldAt 30 x3 0) w fun t7 w =>
  valP Try.prog (Instr.loadAt 3 t7) w fun t8 w =>
  m16_4 R c0 x3 t8 w
def m16_0 (R : VP) (c0 x1 : Value) (w : World) : Prop :=
  valP Try.prog (Instr.box 30 x1) w fun x3 w =>
  m16_1 R c0 x3 w
abbrev W16 := cwp Try.prog (fun i => 0)
noncomputable def k16_0 : Code := (bodyOf Try.f16)
noncomputable def k16_1 : Code := (c2 k16_0)
noncomputable def k16_2 : Code := (c2 k16_1)
noncomputable def k16_3 : Code := (c2 k16_2)
noncomputable def k16_4 : Code := (c2 (c1 k16_1))
noncomputable def k16_5 : Code := (c2 (c1 k16_4))
noncomputable def k16_6 : Code := (c2 (c1 k16_5))
noncomputable def k16_7 : Code := (c2 (c2 k16_5))
noncomputable def k16_8 : Code := (c2 (c1 k16_7))
noncomputable def k16_9 : Code := (c2 (c2 k16_7))
noncomputable def k16_10 : Code := (c2 (c1 k16_9))
noncomputable def k16_11 : Code := (c2 k16_10)
noncomputable def k16_12 : Code := (c2 (c1 (c1 k16_4)))
theorem s16_6 {R : VP} {Q : EQ} (hR : ∀ e w, (R (e 4) w) → Q .ret e w) (e : Env) (w : World) (h : m16_6 R (e 4) w) : W16 k16_6 Q e w := by
  unfold m16_6 at h
  exact reA (hR _ _ h)
theorem s16_8 {R : VP} {Q : EQ} (hR : ∀ e w, (R (e 4) w) → Q .ret e w) (e : Env) (w : World) (h : m16_8 R (e 4) w) : W16 k16_8 Q e w := by
  unfold m16_8 at h
  exact reA (hR _ _ h)
theorem s16_11 {R : VP} {Q : EQ} (hR : ∀ e w, (R (e 4) w) → Q .ret e w) (e : Env) (w : World) (h : m16_11 R (e 4) w) : W16 k16_11 Q e w := by
  unfold m16_11 at h
  exact reA (hR _ _ h)
theorem s16_10 {R : VP} {Q : EQ} (hR : ∀ e w, (R (e 4) w) → Q .ret e w) (e : Env) (w : World) (h : m16_10 R (e 6) w) : W16 k16_10 Q e w := by
  unfold m16_10 at h
  refine seA ?_
  have hN : ∀ e w, (m16_11 R (e 4) w) → (thenE (W16 k16_11 Q) Q) .normal e w := fun e w h => then_N (s16_11 (R := R) (Q := Q) hR e w h)
  exact rgA 9 (fun e w => m16_11 R (e 4) w) h hN
theorem s16_3 {R : VP} {Q : EQ} (hR : ∀ e w, (R (e 4) w) → Q .ret e w) (e : Env) (w : World) (h : m16_3 R (e 4) w) : W16 k16_3 Q e w := by
  unfold m16_3 at h
  exact reA (hR _ _ h)
theorem s16_2 {R : VP} {Q : EQ} (hR : ∀ e w, (R (e 4) w) → Q .ret e w) (e : Env) (w : World) (h : m16_2 R (e 0) (e 3) w) : W16 k16_2 Q e w := by
  unfold m16_2 at h
  refine seA ?_
  have hN : ∀ e w, (m16_3 R (e 4) w) → (thenE (W16 k16_3 Q) Q) .normal e w := fun e w h => then_N (s16_3 (R := R) (Q := Q) hR e w h)
  exact rgA 10 (fun e w => m16_3 R (e 4) w) h hN
theorem s16_9 {R : VP} {Q : EQ} (hN : ∀ e w, (m16_2 R (e 0) (e 3) w) → Q .normal e w) (hR : ∀ e w, (R (e 4) w) → Q .ret e w) (e : Env) (w : World) (h : m16_9 R (e 0) (e 3) (e 22) w) : W16 k16_9 Q e w := by
  unfold m16_9 at h
  refine coA (Operand.tmp 22) h (fun h1 => ?_) (fun h1 => ?_)
  · refine seA ?_
    have hN : ∀ e w, (m16_10 R (e 6) w) → (thenE (W16 k16_10 Q) Q) .normal e w := fun e w h => then_N (s16_10 (R := R) (Q := Q) hR e w h)
    exact rgA 8 (fun e w => m16_10 R (e 6) w) h1 hN
  · exact skA (hN _ _ h1)
theorem s16_7 {R : VP} {Q : EQ} (hN : ∀ e w, (m16_2 R (e 0) (e 3) w) → Q .normal e w) (hR : ∀ e w, (R (e 4) w) → Q .ret e w) (e : Env) (w : World) (h : m16_7 R (e 0) (e 3) (e 8) (e 16) w) : W16 k16_7 Q e w := by
  unfold m16_7 at h
  refine coA (Operand.tmp 16) h (fun h1 => ?_) (fun h1 => ?_)
  · refine seA ?_
    have hN : ∀ e w, (m16_8 R (e 4) w) → (thenE (W16 k16_8 Q) Q) .normal e w := fun e w h => then_N (s16_8 (R := R) (Q := Q) hR e w h)
    exact rgA 6 (fun e w => m16_8 R (e 4) w) h1 hN
  · refine seA ?_
    have hN : ∀ e w, (m16_9 R (e 0) (e 3) (e 22) w) → (thenE (W16 k16_9 Q) Q) .normal e w := fun e w h => then_N (s16_9 (R := R) (Q := Q) hN hR e w h)
    exact rgA 7 (fun e w => m16_9 R (e 0) (e 3) (e 22) w) h1 hN
theorem s16_5 {R : VP} {Q : EQ} (hN : ∀ e w, (m16_2 R (e 0) (e 3) w) → Q .normal e w) (hR : ∀ e w, (R (e 4) w) → Q .ret e w) (e : Env) (w : World) (h : m16_5 R (e 0) (e 3) (e 8) (e 9) w) : W16 k16_5 Q e w := by
  unfold m16_5 at h
  refine coA (Operand.tmp 9) h (fun h1 => ?_) (fun h1 => ?_)
  · refine seA ?_
    have hN : ∀ e w, (m16_6 R (e 4) w) → (thenE (W16 k16_6 Q) Q) .normal e w := fun e w h => then_N (s16_6 (R := R) (Q := Q) hR e w h)
    exact rgA 4 (fun e w => m16_6 R (e 4) w) h1 hN
  · refine seA ?_
    have hN : ∀ e w, (m16_7 R (e 0) (e 3) (e 8) (e 16) w) → (thenE (W16 k16_7 Q) Q) .normal e w := fun e w h => then_N (s16_7 (R := R) (Q := Q) hN hR e w h)
    exact rgA 5 (fun e w => m16_7 R (e 0) (e 3) (e 8) (e 16) w) h1 hN
theorem s16_12 {R : VP} {Q : EQ} (hN : ∀ e w, (m16_5 R (e 0) (e 3) (e 8) (e 9) w) → Q .normal e w) (e : Env) (w : World) (h : m16_12 R (e 0) (e 3) (e 8) (e 9) w) : W16 k16_12 Q e w := by
  unfold m16_12 at h
  refine coA (Operand.tmp 9) h (fun h1 => ?_) (fun h1 => ?_)
  · exact skA (hN _ _ h1)
  · exact rgA 3 (fun e w => m16_5 R (e 0) (e 3) (e 8) (e 9) w) h1 hN
theorem s16_4 {R : VP} {Q : EQ} (hN : ∀ e w, (m16_2 R (e 0) (e 3) w) → Q .normal e w) (hR : ∀ e w, (R (e 4) w) → Q .ret e w) (e : Env) (w : World) (h : m16_4 R (e 0) (e 3) (e 8) w) : W16 k16_4 Q e w := by
  unfold m16_4 at h
  refine block_ok 0 (by kernel_rfl) ?_
  have hN : ∀ e w, (m16_2 R (e 0) (e 3) w) → (inBlockE 0 Q) .normal e w := fun e w h => block_N (hN e w h)
  have hR : ∀ e w, (R (e 4) w) → (inBlockE 0 Q) .ret e w := fun e w h => block_R (hR e w h)
  refine seA ?_
  have hN : ∀ e w, (m16_5 R (e 0) (e 3) (e 8) (e 9) w) → (thenE (W16 k16_5 (inBlockE 0 Q)) (inBlockE 0 Q)) .normal e w := fun e w h => then_N (s16_5 (R := R) (Q := (inBlockE 0 Q)) hN hR e w h)
  refine seA ?_
  have hN : ∀ e w, (m16_12 R (e 0) (e 3) (e 8) (e 9) w) → (thenE (W16 k16_12 (thenE (W16 k16_5 (inBlockE 0 Q)) (inBlockE 0 Q))) (thenE (W16 k16_5 (inBlockE 0 Q)) (inBlockE 0 Q))) .normal e w := fun e w h => then_N (s16_12 (R := R) (Q := (thenE (W16 k16_5 (inBlockE 0 Q)) (inBlockE 0 Q))) hN e w h)
  exact rgA 2 (fun e w => m16_12 R (e 0) (e 3) (e 8) (e 9) w) h hN
theorem s16_1 {R : VP} {Q : EQ} (hR : ∀ e w, (R (e 4) w) → Q .ret e w) (e : Env) (w : World) (h : m16_1 R (e 0) (e 3) w) : W16 k16_1 Q e w := by
  unfold m16_1 at h
  refine seA ?_
  have hN : ∀ e w, (m16_2 R (e 0) (e 3) w) → (thenE (W16 k16_2 Q) Q) .normal e w := fun e w h => then_N (s16_2 (R := R) (Q := Q) hR e w h)
  have hR : ∀ e w, (R (e 4) w) → (thenE (W16 k16_2 Q) Q) .ret e w := fun e w h => then_R (hR e w h)
  refine seA ?_
  have hN : ∀ e w, (m16_4 R (e 0) (e 3) (e 8) w) → (thenE (W16 k16_4 (thenE (W16 k16_2 Q) Q)) (thenE (W16 k16_2 Q) Q)) .normal e w := fun e w h => then_N (s16_4 (R := R) (Q := (thenE (W16 k16_2 Q) Q)) hN hR e w h)
  exact rgA 1 (fun e w => m16_4 R (e 0) (e 3) (e 8) w) h hN
theorem s16_0 {R : VP} {Q : EQ} (hR : ∀ e w, (R (e 4) w) → Q .ret e w) (e : Env) (w : World) (h : m16_0 R (e 0) (e 1) w) : W16 k16_0 Q e w := by
  unfold m16_0 at h
  refine seA ?_
  have hN : ∀ e w, (m16_1 R (e 0) (e 3) w) → (thenE (W16 k16_1 Q) Q) .normal e w := fun e w h => then_N (s16_1 (R := R) (Q := Q) hR e w h)
  exact rgA 0 (fun e w => m16_1 R (e 0) (e 3) w) h hN
abbrev m16 (R : VP) (c0 x1 : Value) (w : World) : Prop := m16_0 R c0 x1 w
theorem s16 (c0 x1 : Value) {R : VP} {w : World} (h : m16 R c0 x1 w) :
    Calls Try.prog 16 #[c0, x1] w fun e w' => ∃ v, e = .returned v ∧ R v w' :=
  calls_of_cwp (st := (fun i => 0)) (c := k16_0) (by kernel_rfl) Try.func16 (by kernel_rfl) (Nat.le_of_ble_eq_true (by kernel_rfl)) (by kernel_rfl)
    (s16_0 (R := R) (Q := endE Try.prog Try.f16 R) (fun e w h => kcast (by kernel_rfl) h) (argsE #[c0, x1]) w (kcast (by kernel_rfl) h))
/-! ### headgate/headgatelaw35.aimed -/
def m17_10 (R : VP) (t4 : Value) (w : World) : Prop :=
  valS Try.prog (loadC 30 t4) w fun r0 =>
  R r0 w
def m17_7 (R : VP) (t4 : Value) (w : World) : Prop :=
  valS Try.prog (loadC 30 t4) w fun r0 =>
  R r0 w
def m17_6 (R : VP) (x2 t4 : Value) (w : World) : Prop :=
  valP Try.prog (Instr.loadAt 30 x2) w fun t64 w =>
  unitP Try.prog (Instr.storeAt 30 t4 t64) w fun _ w =>
  m17_7 R t4 w
def m17_8 (R : VP) (x2 t4 l6 t48 : Value) (w : World) : Prop :=
  condP t48
  (valP Try.prog (Instr.fieldAt 30 x2 2) w fun t50 w =>
  valP Try.prog (Instr.loadAt 3 t50) w fun t51 w =>
  builtinP Try.prog Builtin.len #[28] 3 #[false] #[l6] w fun t53 w =>
  valP Try.prog (binS BinOp.rem 3 (Operand.tmp 51) (Operand.tmp 53) t51 t53) w fun t54 w =>
  builtinP Try.prog Builtin.len #[28] 3 #[false] #[l6] w fun t56 w =>
  valP Try.prog (binS BinOp.add 3 (Operand.tmp 54) (Operand.tmp 56) t54 t56) w fun t57 w =>
  builtinP Try.prog Builtin.len #[28] 3 #[false] #[l6] w fun t59 w =>
  valP Try.prog (binS BinOp.rem 3 (Operand.tmp 57) (Operand.tmp 59) t57 t59) w fun t60 w =>
  valP Try.prog (Instr.indexAt 28 l6 t60) w fun t61 w =>
  valP Try.prog (Instr.loadAt 3 t61) w fun t62 w =>
  valP Try.prog (Instr.fieldAt 30 x2 2) w fun t63 w =>
  unitP Try.prog (Instr.storeAt 3 t63 t62) w fun _ w =>
  m17_6 R x2 t4 w)
  (m17_6 R x2 t4 w)
def m17_5 (R : VP) (x2 t4 l6 : Value) (w : World) : Prop :=
  builtinP Try.prog Builtin.len #[28] 3 #[false] #[l6] w fun t47 w =>
  valP Try.prog (binS BinOp.gtr 3 (Operand.tmp 47) (Operand.const (Value.int IntKind.i64 0)) t47 (Value.int IntKind.i64 0)) w fun t48 w =>
  m17_8 R x2 t4 l6 t48 w
def m17_4 (R : VP) (c1 x2 t4 : Value) (w : World) : Prop :=
  valP Try.prog (Instr.fieldAt 30 x2 1) w fun t41 w =>
  valP Try.prog (Instr.loadAt 3 t41) w fun t42 w =>
  callP Try.prog (fnV 25) #[c1, t42] w fun t43 w =>
  valP Try.prog (Instr.extract t43 0) w fun t44 w =>
  valP Try.prog (Instr.extract t43 1) w fun t45 w =>
  m17_5 R x2 t4 t44 w
def m17_3 (R : VP) (c1 x2 t4 m5 : Value) (w : World) : Prop :=
  valP Try.prog (Instr.fieldAt 30 x2 1) w fun t25 w =>
  valP Try.prog (Instr.loadAt 3 t25) w fun t26 w =>
  builtinP Try.prog Builtin.len #[28] 3 #[false] #[m5] w fun t28 w =>
  valP Try.prog (binS BinOp.rem 3 (Operand.tmp 26) (Operand.tmp 28) t26 t28) w fun t29 w =>
  builtinP Try.prog Builtin.len #[28] 3 #[false] #[m5] w fun t31 w =>
  valP Try.prog (binS BinOp.add 3 (Operand.tmp 29) (Operand.tmp 31) t29 t31) w fun t32 w =>
  builtinP Try.prog Builtin.len #[28] 3 #[false] #[m5] w fun t34 w =>
  valP Try.prog (binS BinOp.rem 3 (Operand.tmp 32) (Operand.tmp 34) t32 t34) w fun t35 w =>
  valP Try.prog (Instr.indexAt 28 m5 t35) w fun t36 w =>
  valP Try.prog (Instr.loadAt 3 t36) w fun t37 w =>
  valP Try.prog (Instr.fieldAt 30 x2 1) w fun t38 w =>
  unitP Try.prog (Instr.storeAt 3 t38 t37) w fun _ w =>
  m17_4 R c1 x2 t4 w
def m17_9 (R : VP) (c1 x2 t4 m5 t22 : Value) (w : World) : Prop :=
  condP t22
  (valP Try.prog (Instr.loadAt 30 x2) w fun t23 w =>
  unitP Try.prog (Instr.storeAt 30 t4 t23) w fun _ w =>
  m17_10 R t4 w)
  (m17_3 R c1 x2 t4 m5 w)
def m17_2 (R : VP) (c1 x2 t4 m5 : Value) (w : World) : Prop :=
  valP Try.prog (Instr.fieldAt 30 x2 3) w fun t10 w =>
  valP Try.prog (Instr.loadAt 4 t10) w fun t11 w =>
  valP Try.prog (Op.unary UnOp.not t11) w fun t12 w =>
  condP t12
  (pickP t12 (Value.bool true) undef fun t17 =>
  condP t17
  (pickP t17 (Value.bool true) undef fun t22 =>
  m17_9 R c1 x2 t4 m5 t22 w)
  (valP Try.prog (Instr.fieldAt 30 x2 0) w fun t19 w =>
  valP Try.prog (Instr.loadAt 3 t19) w fun t20 w =>
  valP Try.prog (binS BinOp.lss 3 (Operand.tmp 20) (Operand.const (Value.int IntKind.i64 2)) t20 (Value.int IntKind.i64 2)) w fun t21 w =>
  pickP t17 (Value.bool true) t21 fun t22 =>
  m17_9 R c1 x2 t4 m5 t22 w))
  (builtinP Try.prog Builtin.len #[28] 3 #[false] #[m5] w fun t15 w =>
  valP Try.prog (binS BinOp.eql 3 (Operand.tmp 15) (Operand.const (Value.int IntKind.i64 0)) t15 (Value.int IntKind.i64 0)) w fun t16 w =>
  pickP t12 (Value.bool true) t16 fun t17 =>
  condP t17
  (pickP t17 (Value.bool true) undef fun t22 =>
  m17_9 R c1 x2 t4 m5 t22 w)
  (valP Try.prog (Instr.fieldAt 30 x2 0) w fun t19 w =>
  valP Try.prog (Instr.loadAt 3 t19) w fun t20 w =>
  valP Try.prog (binS BinOp.lss 3 (Operand.tmp 20) (Operand.const (Value.int IntKind.i64 2)) t20 (Value.int IntKind.i64 2)) w fun t21 w =>
  pickP t17 (Value.bool true) t21 fun t22 =>
  m17_9 R c1 x2 t4 m5 t22 w))
def m17_1 (R : VP) (c1 x2 t4 : Value) (w : World) : Prop :=
  callP Try.prog (fnV 18) #[c1] w fun t9 w =>
  m17_2 R c1 x2 t4 t9 w
def m17_0 (R : VP) (x0 c1 : Value) (w : World) : Prop :=
  valP Try.prog (Instr.box 30 x0) w fun x2 w =>
  valP Try.prog (Instr.alloc 30 true (.tuple #[])) w fun t4 w =>
  m17_1 R c1 x2 t4 w
abbrev W17 := cwp Try.prog (fun i => 0)
noncomputable def k17_0 : Code := (bodyOf Try.f17)
noncomputable def k17_1 : Code := (c2 k17_0)
noncomputable def k17_2 : Code := (c2 k17_1)
noncomputable def k17_3 : Code := (c2 k17_2)
noncomputable def k17_4 : Code := (c2 k17_3)
noncomputable def k17_5 : Code := (c2 k17_4)
noncomputable def k17_6 : Code := (c2 k17_5)
noncomputable def k17_7 : Code := (c2 k17_6)
noncomputable def k17_8 : Code := (c2 (c1 k17_5))
noncomputable def k17_9 : Code := (c2 (c1 k17_2))
noncomputable def k17_10 : Code := (c2 (c1 k17_9))
theorem s17_10 {R : VP} {Q : EQ} (hR : ∀ e w, (valS Try.prog (loadC 30 (e 4)) w fun r0 =>
R r0 w) → Q .ret e w) (e : Env) (w : World) (h : m17_10 R (e 4) w) : W17 k17_10 Q e w := by
  unfold m17_10 at h
  exact reA (hR _ _ h)
theorem s17_7 {R : VP} {Q : EQ} (hR : ∀ e w, (valS Try.prog (loadC 30 (e 4)) w fun r0 =>
R r0 w) → Q .ret e w) (e : Env) (w : World) (h : m17_7 R (e 4) w) : W17 k17_7 Q e w := by
  unfold m17_7 at h
  exact reA (hR _ _ h)
theorem s17_6 {R : VP} {Q : EQ} (hR : ∀ e w, (valS Try.prog (loadC 30 (e 4)) w fun r0 =>
R r0 w) → Q .ret e w) (e : Env) (w : World) (h : m17_6 R (e 2) (e 4) w) : W17 k17_6 Q e w := by
  unfold m17_6 at h
  refine seA ?_
  have hN : ∀ e w, (m17_7 R (e 4) w) → (thenE (W17 k17_7 Q) Q) .normal e w := fun e w h => then_N (s17_7 (R := R) (Q := Q) hR e w h)
  exact rgA 8 (fun e w => m17_7 R (e 4) w) h hN
theorem s17_8 {R : VP} {Q : EQ} (hN : ∀ e w, (m17_6 R (e 2) (e 4) w) → Q .normal e w) (e : Env) (w : World) (h : m17_8 R (e 2) (e 4) (e 6) (e 48) w) : W17 k17_8 Q e w := by
  unfold m17_8 at h
  refine coA (Operand.tmp 48) h (fun h1 => ?_) (fun h1 => ?_)
  · exact rgA 7 (fun e w => m17_6 R (e 2) (e 4) w) h1 hN
  · exact skA (hN _ _ h1)
theorem s17_5 {R : VP} {Q : EQ} (hR : ∀ e w, (valS Try.prog (loadC 30 (e 4)) w fun r0 =>
R r0 w) → Q .ret e w) (e : Env) (w : World) (h : m17_5 R (e 2) (e 4) (e 6) w) : W17 k17_5 Q e w := by
  unfold m17_5 at h
  refine seA ?_
  have hN : ∀ e w, (m17_6 R (e 2) (e 4) w) → (thenE (W17 k17_6 Q) Q) .normal e w := fun e w h => then_N (s17_6 (R := R) (Q := Q) hR e w h)
  refine seA ?_
  have hN : ∀ e w, (m17_8 R (e 2) (e 4) (e 6) (e 48) w) → (thenE (W17 k17_8 (thenE (W17 k17_6 Q) Q)) (thenE (W17 k17_6 Q) Q)) .normal e w := fun e w h => then_N (s17_8 (R := R) (Q := (thenE (W17 k17_6 Q) Q)) hN e w h)
  exact rgA 6 (fun e w => m17_8 R (e 2) (e 4) (e 6) (e 48) w) h hN
theorem s17_4 {R : VP} {Q : EQ} (hR : ∀ e w, (valS Try.prog (loadC 30 (e 4)) w fun r0 =>
R r0 w) → Q .ret e w) (e : Env) (w : World) (h : m17_4 R (e 1) (e 2) (e 4) w) : W17 k17_4 Q e w := by
  unfold m17_4 at h
  refine seA ?_
  have hN : ∀ e w, (m17_5 R (e 2) (e 4) (e 6) w) → (thenE (W17 k17_5 Q) Q) .normal e w := fun e w h => then_N (s17_5 (R := R) (Q := Q) hR e w h)
  exact rgA 5 (fun e w => m17_5 R (e 2) (e 4) (e 6) w) h hN
theorem s17_3 {R : VP} {Q : EQ} (hR : ∀ e w, (valS Try.prog (loadC 30 (e 4)) w fun r0 =>
R r0 w) → Q .ret e w) (e : Env) (w : World) (h : m17_3 R (e 1) (e 2) (e 4) (e 5) w) : W17 k17_3 Q e w := by
  unfold m17_3 at h
  refine seA ?_
  have hN : ∀ e w, (m17_4 R (e 1) (e 2) (e 4) w) → (thenE (W17 k17_4 Q) Q) .normal e w := fun e w h => then_N (s17_4 (R := R) (Q := Q) hR e w h)
  exact rgA 4 (fun e w => m17_4 R (e 1) (e 2) (e 4) w) h hN
theorem s17_9 {R : VP} {Q : EQ} (hN : ∀ e w, (m17_3 R (e 1) (e 2) (e 4) (e 5) w) → Q .normal e w) (hR : ∀ e w, (valS Try.prog (loadC 30 (e 4)) w fun r0 =>
R r0 w) → Q .ret e w) (e : Env) (w : World) (h : m17_9 R (e 1) (e 2) (e 4) (e 5) (e 22) w) : W17 k17_9 Q e w := by
  unfold m17_9 at h
  refine coA (Operand.tmp 22) h (fun h1 => ?_) (fun h1 => ?_)
  · refine seA ?_
    have hN : ∀ e w, (m17_10 R (e 4) w) → (thenE (W17 k17_10 Q) Q) .normal e w := fun e w h => then_N (s17_10 (R := R) (Q := Q) hR e w h)
    exact rgA 3 (fun e w => m17_10 R (e 4) w) h1 hN
  · exact skA (hN _ _ h1)
theorem s17_2 {R : VP} {Q : EQ} (hR : ∀ e w, (valS Try.prog (loadC 30 (e 4)) w fun r0 =>
R r0 w) → Q .ret e w) (e : Env) (w : World) (h : m17_2 R (e 1) (e 2) (e 4) (e 5) w) : W17 k17_2 Q e w := by
  unfold m17_2 at h
  refine seA ?_
  have hN : ∀ e w, (m17_3 R (e 1) (e 2) (e 4) (e 5) w) → (thenE (W17 k17_3 Q) Q) .normal e w := fun e w h => then_N (s17_3 (R := R) (Q := Q) hR e w h)
  have hR : ∀ e w, (valS Try.prog (loadC 30 (e 4)) w fun r0 =>
  R r0 w) → (thenE (W17 k17_3 Q) Q) .ret e w := fun e w h => then_R (hR e w h)
  refine seA ?_
  have hN : ∀ e w, (m17_9 R (e 1) (e 2) (e 4) (e 5) (e 22) w) → (thenE (W17 k17_9 (thenE (W17 k17_3 Q) Q)) (thenE (W17 k17_3 Q) Q)) .normal e w := fun e w h => then_N (s17_9 (R := R) (Q := (thenE (W17 k17_3 Q) Q)) hN hR e w h)
  exact rgA 2 (fun e w => m17_9 R (e 1) (e 2) (e 4) (e 5) (e 22) w) h hN
theorem s17_1 {R : VP} {Q : EQ} (hR : ∀ e w, (valS Try.prog (loadC 30 (e 4)) w fun r0 =>
R r0 w) → Q .ret e w) (e : Env) (w : World) (h : m17_1 R (e 1) (e 2) (e 4) w) : W17 k17_1 Q e w := by
  unfold m17_1 at h
  refine seA ?_
  have hN : ∀ e w, (m17_2 R (e 1) (e 2) (e 4) (e 5) w) → (thenE (W17 k17_2 Q) Q) .normal e w := fun e w h => then_N (s17_2 (R := R) (Q := Q) hR e w h)
  exact rgA 1 (fun e w => m17_2 R (e 1) (e 2) (e 4) (e 5) w) h hN
theorem s17_0 {R : VP} {Q : EQ} (hR : ∀ e w, (valS Try.prog (loadC 30 (e 4)) w fun r0 =>
R r0 w) → Q .ret e w) (e : Env) (w : World) (h : m17_0 R (e 0) (e 1) w) : W17 k17_0 Q e w := by
  unfold m17_0 at h
  refine seA ?_
  have hN : ∀ e w, (m17_1 R (e 1) (e 2) (e 4) w) → (thenE (W17 k17_1 Q) Q) .normal e w := fun e w h => then_N (s17_1 (R := R) (Q := Q) hR e w h)
  exact rgA 0 (fun e w => m17_1 R (e 1) (e 2) (e 4) w) h hN
abbrev m17 (R : VP) (x0 c1 : Value) (w : World) : Prop := m17_0 R x0 c1 w
theorem s17 (x0 c1 : Value) {R : VP} {w : World} (h : m17 R x0 c1 w) :
    Calls Try.prog 17 #[x0, c1] w fun e w' => ∃ v, e = .returned v ∧ R v w' :=
  calls_of_cwp (st := (fun i => 0)) (c := k17_0) (by kernel_rfl) Try.func17 (by kernel_rfl) (Nat.le_of_ble_eq_true (by kernel_rfl)) (by kernel_rfl)
    (s17_0 (R := R) (Q := endE Try.prog Try.f17 R) (fun e w h => kcast (by kernel_rfl) h) (argsE #[x0, c1]) w (kcast (by kernel_rfl) h))
/-! ### headgate/headgatelaw35.awake -/
def m22_12 (R : VP) (t0 : Value) (w : World) : Prop :=
  R t0 w
def m22_10 (R : VP) (t0 : Value) (w : World) : Prop :=
  R t0 w
def m22_9 (R : VP) (c1 a3 b4 l5 f6 g7 : Value) (w : World) : Prop :=
  valP Try.prog (Instr.buildSlice 28 4 #[(0, (Value.int IntKind.i64 1)), (1, (Value.int IntKind.i64 1)), (2, (Value.int IntKind.i64 1)), (3, (Value.int IntKind.i64 1))]) w fun t36 w =>
  callP Try.prog (fnV 32) #[a3, t36] w fun t37 w =>
  condP t37
  (valP Try.prog (Instr.buildSlice 28 4 #[(0, (Value.int IntKind.i64 1)), (1, (Value.int IntKind.i64 1)), (2, (Value.int IntKind.i64 1)), (3, (Value.int IntKind.i64 1))]) w fun t40 w =>
  callP Try.prog (fnV 32) #[b4, t40] w fun t41 w =>
  pickP t37 t41 (Value.bool false) fun t42 =>
  condP t42
  (valP Try.prog (Instr.buildSlice 28 2 #[(0, (Value.int IntKind.i64 2)), (1, (Value.int IntKind.i64 3))]) w fun t45 w =>
  callP Try.prog (fnV 32) #[l5, t45] w fun t46 w =>
  pickP t42 t46 (Value.bool false) fun t47 =>
  condP t47
  (valP Try.prog (binS BinOp.eql 26 (Operand.tmp 49) (Operand.const (Value.int IntKind.i64 0)) f6 (Value.int IntKind.i64 0)) w fun t50 w =>
  pickP t47 t50 (Value.bool false) fun t51 =>
  condP t51
  (valP Try.prog (binS BinOp.eql 26 (Operand.tmp 53) (Operand.const (Value.int IntKind.i64 0)) g7 (Value.int IntKind.i64 0)) w fun t54 w =>
  pickP t51 t54 (Value.bool false) fun t55 =>
  condP t55
  (callP Try.prog (fnV 19) #[c1] w fun t58 w =>
  valP Try.prog (Instr.buildSlice 28 4 #[(0, (Value.int IntKind.i64 1)), (1, (Value.int IntKind.i64 1)), (2, (Value.int IntKind.i64 2)), (3, (Value.int IntKind.i64 1))]) w fun t59 w =>
  callP Try.prog (fnV 32) #[t58, t59] w fun t60 w =>
  pickP t55 t60 (Value.bool false) fun t61 =>
  m22_10 R t61 w)
  (pickP t55 undef (Value.bool false) fun t61 =>
  m22_10 R t61 w))
  (pickP t51 undef (Value.bool false) fun t55 =>
  pickP t55 undef (Value.bool false) fun t61 =>
  m22_10 R t61 w))
  (pickP t47 undef (Value.bool false) fun t51 =>
  pickP t51 undef (Value.bool false) fun t55 =>
  pickP t55 undef (Value.bool false) fun t61 =>
  m22_10 R t61 w))
  (pickP t42 undef (Value.bool false) fun t47 =>
  pickP t47 undef (Value.bool false) fun t51 =>
  pickP t51 undef (Value.bool false) fun t55 =>
  pickP t55 undef (Value.bool false) fun t61 =>
  m22_10 R t61 w))
  (pickP t37 undef (Value.bool false) fun t42 =>
  pickP t42 undef (Value.bool false) fun t47 =>
  pickP t47 undef (Value.bool false) fun t51 =>
  pickP t51 undef (Value.bool false) fun t55 =>
  pickP t55 undef (Value.bool false) fun t61 =>
  m22_10 R t61 w)
def m22_8 (R : VP) (c1 a3 b4 l5 f6 : Value) (w : World) : Prop :=
  callP Try.prog (fnV 33) #[c1, (Value.int IntKind.i64 1), (Value.int IntKind.i64 2)] w fun t34 w =>
  m22_9 R c1 a3 b4 l5 f6 t34 w
def m22_7 (R : VP) (c1 a3 b4 : Value) (w : World) : Prop :=
  callP Try.prog (fnV 25) #[c1, (Value.int IntKind.i64 1)] w fun t30 w =>
  valP Try.prog (Instr.extract t30 0) w fun t31 w =>
  valP Try.prog (Instr.extract t30 1) w fun t32 w =>
  m22_8 R c1 a3 b4 t31 t32 w
def m22_6 (R : VP) (c1 a3 : Value) (w : World) : Prop :=
  callP Try.prog (fnV 19) #[c1] w fun t27 w =>
  m22_7 R c1 a3 t27 w
def m22_5 (R : VP) (c1 a3 : Value) (w : World) : Prop :=
  valP Try.prog (Instr.buildSlice 28 1 #[(0, (Value.int IntKind.i64 2))]) w fun t24 w =>
  callP Try.prog (fnV 24) #[c1, t24] w fun t25 w =>
  m22_6 R c1 a3 w
def m22_4 (R : VP) (c1 : Value) (w : World) : Prop :=
  callP Try.prog (fnV 19) #[c1] w fun t22 w =>
  m22_5 R c1 t22 w
def m22_3 (R : VP) (c1 : Value) (w : World) : Prop :=
  valP Try.prog (Instr.buildSlice 28 1 #[(0, (Value.int IntKind.i64 1))]) w fun t19 w =>
  callP Try.prog (fnV 24) #[c1, t19] w fun t20 w =>
  m22_4 R c1 w
def m22_11 (R : VP) (c1 t17 : Value) (w : World) : Prop :=
  condP t17
  (m22_12 R (Value.bool false) w)
  (m22_3 R c1 w)
def m22_2 (R : VP) (c1 e2 : Value) (w : World) : Prop :=
  valP Try.prog (binS BinOp.neq 26 (Operand.tmp 12) (Operand.const (Value.int IntKind.i64 0)) e2 (Value.int IntKind.i64 0)) w fun t13 w =>
  condP t13
  (pickP t13 (Value.bool true) undef fun t17 =>
  m22_11 R c1 t17 w)
  (valP Try.prog (binS BinOp.eql 23 (Operand.tmp 15) (Operand.const (Value.pointer none)) c1 (Value.pointer none)) w fun t16 w =>
  pickP t13 (Value.bool true) t16 fun t17 =>
  m22_11 R c1 t17 w)
def m22_1 (R : VP) (w : World) : Prop :=
  callP Try.prog (fnV 26) #[(Value.int IntKind.i64 4)] w fun t9 w =>
  valP Try.prog (Instr.extract t9 0) w fun t10 w =>
  valP Try.prog (Instr.extract t9 1) w fun t11 w =>
  m22_2 R t10 t11 w
def m22_0 (R : VP) (w : World) : Prop :=
  m22_1 R w
abbrev W22 := cwp Try.prog (fun i => 0)
noncomputable def k22_0 : Code := (bodyOf Try.f22)
noncomputable def k22_1 : Code := (c2 k22_0)
noncomputable def k22_2 : Code := (c2 k22_1)
noncomputable def k22_3 : Code := (c2 k22_2)
noncomputable def k22_4 : Code := (c2 k22_3)
noncomputable def k22_5 : Code := (c2 k22_4)
noncomputable def k22_6 : Code := (c2 k22_5)
noncomputable def k22_7 : Code := (c2 k22_6)
noncomputable def k22_8 : Code := (c2 k22_7)
noncomputable def k22_9 : Code := (c2 k22_8)
noncomputable def k22_10 : Code := (c2 k22_9)
noncomputable def k22_11 : Code := (c2 (c1 k22_2))
noncomputable def k22_12 : Code := (c2 (c1 k22_11))
theorem s22_12 {R : VP} {Q : EQ} (hR : ∀ e w, (R (e 0) w) → Q .ret e w) (e : Env) (w : World) (h : m22_12 R (e 0) w) : W22 k22_12 Q e w := by
  unfold m22_12 at h
  exact reA (hR _ _ h)
theorem s22_10 {R : VP} {Q : EQ} (hR : ∀ e w, (R (e 0) w) → Q .ret e w) (e : Env) (w : World) (h : m22_10 R (e 0) w) : W22 k22_10 Q e w := by
  unfold m22_10 at h
  exact reA (hR _ _ h)
theorem s22_9 {R : VP} {Q : EQ} (hR : ∀ e w, (R (e 0) w) → Q .ret e w) (e : Env) (w : World) (h : m22_9 R (e 1) (e 3) (e 4) (e 5) (e 6) (e 7) w) : W22 k22_9 Q e w := by
  unfold m22_9 at h
  refine seA ?_
  have hN : ∀ e w, (m22_10 R (e 0) w) → (thenE (W22 k22_10 Q) Q) .normal e w := fun e w h => then_N (s22_10 (R := R) (Q := Q) hR e w h)
  exact rgK 10 (fun e w => m22_10 R (e 0) w) h hN
theorem s22_8 {R : VP} {Q : EQ} (hR : ∀ e w, (R (e 0) w) → Q .ret e w) (e : Env) (w : World) (h : m22_8 R (e 1) (e 3) (e 4) (e 5) (e 6) w) : W22 k22_8 Q e w := by
  unfold m22_8 at h
  refine seA ?_
  have hN : ∀ e w, (m22_9 R (e 1) (e 3) (e 4) (e 5) (e 6) (e 7) w) → (thenE (W22 k22_9 Q) Q) .normal e w := fun e w h => then_N (s22_9 (R := R) (Q := Q) hR e w h)
  exact rgA 9 (fun e w => m22_9 R (e 1) (e 3) (e 4) (e 5) (e 6) (e 7) w) h hN
theorem s22_7 {R : VP} {Q : EQ} (hR : ∀ e w, (R (e 0) w) → Q .ret e w) (e : Env) (w : World) (h : m22_7 R (e 1) (e 3) (e 4) w) : W22 k22_7 Q e w := by
  unfold m22_7 at h
  refine seA ?_
  have hN : ∀ e w, (m22_8 R (e 1) (e 3) (e 4) (e 5) (e 6) w) → (thenE (W22 k22_8 Q) Q) .normal e w := fun e w h => then_N (s22_8 (R := R) (Q := Q) hR e w h)
  exact rgA 8 (fun e w => m22_8 R (e 1) (e 3) (e 4) (e 5) (e 6) w) h hN
theorem s22_6 {R : VP} {Q : EQ} (hR : ∀ e w, (R (e 0) w) → Q .ret e w) (e : Env) (w : World) (h : m22_6 R (e 1) (e 3) w) : W22 k22_6 Q e w := by
  unfold m22_6 at h
  refine seA ?_
  have hN : ∀ e w, (m22_7 R (e 1) (e 3) (e 4) w) → (thenE (W22 k22_7 Q) Q) .normal e w := fun e w h => then_N (s22_7 (R := R) (Q := Q) hR e w h)
  exact rgA 7 (fun e w => m22_7 R (e 1) (e 3) (e 4) w) h hN
theorem s22_5 {R : VP} {Q : EQ} (hR : ∀ e w, (R (e 0) w) → Q .ret e w) (e : Env) (w : World) (h : m22_5 R (e 1) (e 3) w) : W22 k22_5 Q e w := by
  unfold m22_5 at h
  refine seA ?_
  have hN : ∀ e w, (m22_6 R (e 1) (e 3) w) → (thenE (W22 k22_6 Q) Q) .normal e w := fun e w h => then_N (s22_6 (R := R) (Q := Q) hR e w h)
  exact rgA 6 (fun e w => m22_6 R (e 1) (e 3) w) h hN
theorem s22_4 {R : VP} {Q : EQ} (hR : ∀ e w, (R (e 0) w) → Q .ret e w) (e : Env) (w : World) (h : m22_4 R (e 1) w) : W22 k22_4 Q e w := by
  unfold m22_4 at h
  refine seA ?_
  have hN : ∀ e w, (m22_5 R (e 1) (e 3) w) → (thenE (W22 k22_5 Q) Q) .normal e w := fun e w h => then_N (s22_5 (R := R) (Q := Q) hR e w h)
  exact rgA 5 (fun e w => m22_5 R (e 1) (e 3) w) h hN
theorem s22_3 {R : VP} {Q : EQ} (hR : ∀ e w, (R (e 0) w) → Q .ret e w) (e : Env) (w : World) (h : m22_3 R (e 1) w) : W22 k22_3 Q e w := by
  unfold m22_3 at h
  refine seA ?_
  have hN : ∀ e w, (m22_4 R (e 1) w) → (thenE (W22 k22_4 Q) Q) .normal e w := fun e w h => then_N (s22_4 (R := R) (Q := Q) hR e w h)
  exact rgA 4 (fun e w => m22_4 R (e 1) w) h hN
theorem s22_11 {R : VP} {Q : EQ} (hN : ∀ e w, (m22_3 R (e 1) w) → Q .normal e w) (hR : ∀ e w, (R (e 0) w) → Q .ret e w) (e : Env) (w : World) (h : m22_11 R (e 1) (e 17) w) : W22 k22_11 Q e w := by
  unfold m22_11 at h
  refine coA (Operand.tmp 17) h (fun h1 => ?_) (fun h1 => ?_)
  · refine seA ?_
    have hN : ∀ e w, (m22_12 R (e 0) w) → (thenE (W22 k22_12 Q) Q) .normal e w := fun e w h => then_N (s22_12 (R := R) (Q := Q) hR e w h)
    exact rgA 3 (fun e w => m22_12 R (e 0) w) h1 hN
  · exact skA (hN _ _ h1)
theorem s22_2 {R : VP} {Q : EQ} (hR : ∀ e w, (R (e 0) w) → Q .ret e w) (e : Env) (w : World) (h : m22_2 R (e 1) (e 2) w) : W22 k22_2 Q e w := by
  unfold m22_2 at h
  refine seA ?_
  have hN : ∀ e w, (m22_3 R (e 1) w) → (thenE (W22 k22_3 Q) Q) .normal e w := fun e w h => then_N (s22_3 (R := R) (Q := Q) hR e w h)
  have hR : ∀ e w, (R (e 0) w) → (thenE (W22 k22_3 Q) Q) .ret e w := fun e w h => then_R (hR e w h)
  refine seA ?_
  have hN : ∀ e w, (m22_11 R (e 1) (e 17) w) → (thenE (W22 k22_11 (thenE (W22 k22_3 Q) Q)) (thenE (W22 k22_3 Q) Q)) .normal e w := fun e w h => then_N (s22_11 (R := R) (Q := (thenE (W22 k22_3 Q) Q)) hN hR e w h)
  exact rgA 2 (fun e w => m22_11 R (e 1) (e 17) w) h hN
theorem s22_1 {R : VP} {Q : EQ} (hR : ∀ e w, (R (e 0) w) → Q .ret e w) (e : Env) (w : World) (h : m22_1 R w) : W22 k22_1 Q e w := by
  unfold m22_1 at h
  refine seA ?_
  have hN : ∀ e w, (m22_2 R (e 1) (e 2) w) → (thenE (W22 k22_2 Q) Q) .normal e w := fun e w h => then_N (s22_2 (R := R) (Q := Q) hR e w h)
  exact rgA 1 (fun e w => m22_2 R (e 1) (e 2) w) h hN
theorem s22_0 {R : VP} {Q : EQ} (hR : ∀ e w, (R (e 0) w) → Q .ret e w) (e : Env) (w : World) (h : m22_0 R w) : W22 k22_0 Q e w := by
  unfold m22_0 at h
  refine seA ?_
  have hN : ∀ e w, (m22_1 R w) → (thenE (W22 k22_1 Q) Q) .normal e w := fun e w h => then_N (s22_1 (R := R) (Q := Q) hR e w h)
  exact rgA 0 (fun e w => m22_1 R w) h hN
abbrev m22 (R : VP) (w : World) : Prop := m22_0 R w
theorem s22  {R : VP} {w : World} (h : m22 R  w) :
    Calls Try.prog 22 #[] w fun e w' => ∃ v, e = .returned v ∧ R v w' :=
  calls_of_cwp (st := (fun i => 0)) (c := k22_0) (by kernel_rfl) Try.func22 (by kernel_rfl) (Nat.le_of_ble_eq_true (by kernel_rfl)) (by kernel_rfl)
    (s22_0 (R := R) (Q := endE Try.prog Try.f22 R) (fun e w h => kcast (by kernel_rfl) h) (argsE #[]) w (kcast (by kernel_rfl) h))
/-! ### headgate/coop.New -/
def m26_5 (R : VP) (t2 t3 : Value) (w : World) : Prop :=
  R (Value.tuple #[t2, t3]) w
def m26_3 (R : VP) (t2 t3 : Value) (w : World) : Prop :=
  R (Value.tuple #[t2, t3]) w
def m26_2 (R : VP) (parts0 : Value) (w : World) : Prop :=
  anyDraw w fun w =>
  (valP Try.prog (Instr.makeSlice 28 parts0 parts0) w fun t11 w =>
  valP Try.prog (Instr.makeSlice 28 parts0 parts0) w fun t13 w =>
  pureP Try.prog (Instr.build 94 #[(2, t11), (3, t13)]) fun t14 =>
  valP Try.prog (Instr.box 94 t14) w fun t15 w =>
  m26_3 R t15 (Value.int IntKind.i64 0) w) ∧ (valP Try.prog (Instr.makeSlice 28 parts0 parts0) w fun t13 w =>
  valP Try.prog (Instr.makeSlice 28 parts0 parts0) w fun t11 w =>
  pureP Try.prog (Instr.build 94 #[(2, t11), (3, t13)]) fun t14 =>
  valP Try.prog (Instr.box 94 t14) w fun t15 w =>
  m26_3 R t15 (Value.int IntKind.i64 0) w)
def m26_4 (R : VP) (parts0 t9 : Value) (w : World) : Prop :=
  condP t9
  (m26_5 R (Value.pointer none) (Value.int IntKind.i64 1) w)
  (m26_2 R parts0 w)
def m26_1 (R : VP) (parts0 : Value) (w : World) : Prop :=
  valP Try.prog (binS BinOp.lss 3 (Operand.tmp 4) (Operand.const (Value.int IntKind.i64 1)) parts0 (Value.int IntKind.i64 1)) w fun t5 w =>
  condP t5
  (pickP t5 (Value.bool true) undef fun t9 =>
  m26_4 R parts0 t9 w)
  (valP Try.prog (binS BinOp.gtr 3 (Operand.tmp 7) (Operand.const (Value.int IntKind.i64 16)) parts0 (Value.int IntKind.i64 16)) w fun t8 w =>
  pickP t5 (Value.bool true) t8 fun t9 =>
  m26_4 R parts0 t9 w)
def m26_0 (R : VP) (parts0 : Value) (w : World) : Prop :=
  m26_1 R parts0 w
abbrev W26 := cwp Try.prog (fun i => 0)
noncomputable def k26_0 : Code := (bodyOf Try.f26)
noncomputable def k26_1 : Code := (c2 k26_0)
noncomputable def k26_2 : Code := (c2 k26_1)
noncomputable def k26_3 : Code := (c2 k26_2)
noncomputable def k26_4 : Code := (c2 (c1 k26_1))
noncomputable def k26_5 : Code := (c2 (c1 k26_4))
theorem s26_5 {R : VP} {Q : EQ} (hR : ∀ e w, (R (Value.tuple #[(e 2), (e 3)]) w) → Q .ret e w) (e : Env) (w : World) (h : m26_5 R (e 2) (e 3) w) : W26 k26_5 Q e w := by
  unfold m26_5 at h
  exact reA (hR _ _ h)
theorem s26_3 {R : VP} {Q : EQ} (hR : ∀ e w, (R (Value.tuple #[(e 2), (e 3)]) w) → Q .ret e w) (e : Env) (w : World) (h : m26_3 R (e 2) (e 3) w) : W26 k26_3 Q e w := by
  unfold m26_3 at h
  exact reA (hR _ _ h)
theorem s26_2 {R : VP} {Q : EQ} (hR : ∀ e w, (R (Value.tuple #[(e 2), (e 3)]) w) → Q .ret e w) (e : Env) (w : World) (h : m26_2 R (e 0) w) : W26 k26_2 Q e w := by
  unfold m26_2 at h
  refine seA ?_
  have hN : ∀ e w, (m26_3 R (e 2) (e 3) w) → (thenE (W26 k26_3 Q) Q) .normal e w := fun e w h => then_N (s26_3 (R := R) (Q := Q) hR e w h)
  exact tree_ok 3 8 [false, false, false, false, false, false, false, false] (.take 0 [true, false, false, false, false, false, false, false] (.take 2 [true, false, true, false, false, false, false, false] (.alt 1 [true, true, true, false, false, false, false, false] (.alt 3 [true, true, true, true, false, false, false, false] (.take 4 [true, true, true, true, true, false, false, false] (.alt 5 [true, true, true, true, true, true, false, false] (.take 6 [true, true, true, true, true, true, true, false] (.take 7 [true, true, true, true, true, true, true, true] .done)) .stop)) .stop) (.alt 3 [true, false, true, true, false, false, false, false] (.alt 1 [true, true, true, true, false, false, false, false] (.take 4 [true, true, true, true, true, false, false, false] (.alt 5 [true, true, true, true, true, true, false, false] (.take 6 [true, true, true, true, true, true, true, false] (.take 7 [true, true, true, true, true, true, true, true] .done)) .stop)) .stop) .stop)))) (fun e w => m26_3 R (e 2) (e 3) w) (by kernel_rfl) (by kernel_rfl) (by kernel_rfl) (by kernel_rfl) (by kernel_rfl) (by kernel_rfl) (kcast (by kernel_rfl) h) hN (by kernel_rfl)
theorem s26_4 {R : VP} {Q : EQ} (hN : ∀ e w, (m26_2 R (e 0) w) → Q .normal e w) (hR : ∀ e w, (R (Value.tuple #[(e 2), (e 3)]) w) → Q .ret e w) (e : Env) (w : World) (h : m26_4 R (e 0) (e 9) w) : W26 k26_4 Q e w := by
  unfold m26_4 at h
  refine coA (Operand.tmp 9) h (fun h1 => ?_) (fun h1 => ?_)
  · refine seA ?_
    have hN : ∀ e w, (m26_5 R (e 2) (e 3) w) → (thenE (W26 k26_5 Q) Q) .normal e w := fun e w h => then_N (s26_5 (R := R) (Q := Q) hR e w h)
    exact rgA 2 (fun e w => m26_5 R (e 2) (e 3) w) h1 hN
  · exact skA (hN _ _ h1)
theorem s26_1 {R : VP} {Q : EQ} (hR : ∀ e w, (R (Value.tuple #[(e 2), (e 3)]) w) → Q .ret e w) (e : Env) (w : World) (h : m26_1 R (e 0) w) : W26 k26_1 Q e w := by
  unfold m26_1 at h
  refine seA ?_
  have hN : ∀ e w, (m26_2 R (e 0) w) → (thenE (W26 k26_2 Q) Q) .normal e w := fun e w h => then_N (s26_2 (R := R) (Q := Q) hR e w h)
  have hR : ∀ e w, (R (Value.tuple #[(e 2), (e 3)]) w) → (thenE (W26 k26_2 Q) Q) .ret e w := fun e w h => then_R (hR e w h)
  refine seA ?_
  have hN : ∀ e w, (m26_4 R (e 0) (e 9) w) → (thenE (W26 k26_4 (thenE (W26 k26_2 Q) Q)) (thenE (W26 k26_2 Q) Q)) .normal e w := fun e w h => then_N (s26_4 (R := R) (Q := (thenE (W26 k26_2 Q) Q)) hN hR e w h)
  exact rgA 1 (fun e w => m26_4 R (e 0) (e 9) w) h hN
theorem s26_0 {R : VP} {Q : EQ} (hR : ∀ e w, (R (Value.tuple #[(e 2), (e 3)]) w) → Q .ret e w) (e : Env) (w : World) (h : m26_0 R (e 0) w) : W26 k26_0 Q e w := by
  unfold m26_0 at h
  refine seA ?_
  have hN : ∀ e w, (m26_1 R (e 0) w) → (thenE (W26 k26_1 Q) Q) .normal e w := fun e w h => then_N (s26_1 (R := R) (Q := Q) hR e w h)
  exact rgA 0 (fun e w => m26_1 R (e 0) w) h hN
abbrev m26 (R : VP) (parts0 : Value) (w : World) : Prop := m26_0 R parts0 w
theorem s26 (parts0 : Value) {R : VP} {w : World} (h : m26 R parts0 w) :
    Calls Try.prog 26 #[parts0] w fun e w' => ∃ v, e = .returned v ∧ R v w' :=
  calls_of_cwp (st := (fun i => 0)) (c := k26_0) (by kernel_rfl) Try.func26 (by kernel_rfl) (Nat.le_of_ble_eq_true (by kernel_rfl)) (by kernel_rfl)
    (s26_0 (R := R) (Q := endE Try.prog Try.f26 R) (fun e w h => kcast (by kernel_rfl) h) (argsE #[parts0]) w (kcast (by kernel_rfl) h))
/-! ### headgate/headgateref35.New -/
def m27_13 (R : VP) (t2 t3 : Value) (w : World) : Prop :=
  R (Value.tuple #[t2, t3]) w
def m27_9 (R : VP) (K1 : VP) (parts0 c4 p5 : Value) (w : World) : Prop :=
  valP Try.prog (binS BinOp.add 3 (Operand.tmp 17) (Operand.const (Value.int IntKind.i64 1)) p5 (Value.int IntKind.i64 1)) w fun t18 w =>
  K1 t18 w
def m27_10 (R : VP) (K1 : VP) (parts0 c4 p5 : Value) (w : World) : Prop :=
  nilCheckP c4 fun t30 =>
  valP Try.prog (Instr.fieldAt 55 t30 3) w fun t31 w =>
  valP Try.prog (Instr.loadAt 28 t31) w fun t32 w =>
  valP Try.prog (Instr.buildSlice 28 1 #[(0, (Value.int IntKind.i64 0))]) w fun t33 w =>
  builtinP Try.prog Builtin.append #[28, 28] 28 #[false, false] #[t32, t33] w fun t34 w =>
  nilCheckP c4 fun t35 =>
  valP Try.prog (Instr.fieldAt 55 t35 3) w fun t36 w =>
  unitP Try.prog (Instr.storeAt 28 t36 t34) w fun _ w =>
  m27_9 R K1 parts0 c4 p5 w
def m27_8 (R : VP) (K1 : VP) (parts0 c4 p5 : Value) (w : World) : Prop :=
  nilCheckP c4 fun t21 =>
  valP Try.prog (Instr.fieldAt 55 t21 2) w fun t22 w =>
  valP Try.prog (Instr.loadAt 28 t22) w fun t23 w =>
  valP Try.prog (Instr.buildSlice 28 1 #[(0, (Value.int IntKind.i64 0))]) w fun t24 w =>
  builtinP Try.prog Builtin.append #[28, 28] 28 #[false, false] #[t23, t24] w fun t25 w =>
  nilCheckP c4 fun t26 =>
  valP Try.prog (Instr.fieldAt 55 t26 2) w fun t27 w =>
  unitP Try.prog (Instr.storeAt 28 t27 t25) w fun _ w =>
  m27_10 R K1 parts0 c4 p5 w
def m27_5 (R : VP) (t2 t3 : Value) (w : World) : Prop :=
  R (Value.tuple #[t2, t3]) w
def m27_4 (R : VP) (c4 : Value) (w : World) : Prop :=
  m27_5 R c4 (Value.int IntKind.i64 0) w
def m27_11 (R : VP) (K1 : VP) (parts0 c4 p5 t16 : Value) (w : World) : Prop :=
  condP t16
  (m27_8 R K1 parts0 c4 p5 w)
  (m27_4 R c4 w)
def m27_7 (R : VP) (K1 : VP) (parts0 c4 p5 : Value) (w : World) : Prop :=
  valP Try.prog (binS BinOp.lss 3 (Operand.tmp 14) (Operand.tmp 15) p5 parts0) w fun t16 w =>
  m27_11 R K1 parts0 c4 p5 t16 w
def m27_6 (R : VP) (parts0 c4 p5 : Value) (w : World) : Prop :=
  loopP (fun (K1 : VP) (s : Value) w => m27_7 R K1 parts0 c4 s w) p5 w
def m27_3 (R : VP) (parts0 c4 : Value) (w : World) : Prop :=
  m27_6 R parts0 c4 (Value.int IntKind.i64 0) w
def m27_2 (R : VP) (parts0 : Value) (w : World) : Prop :=
  valP Try.prog (Instr.build 55 #[]) w fun t12 w =>
  valP Try.prog (Instr.box 55 t12) w fun t13 w =>
  m27_3 R parts0 t13 w
def m27_12 (R : VP) (parts0 t11 : Value) (w : World) : Prop :=
  condP t11
  (m27_13 R (Value.pointer none) (Value.int IntKind.i64 1) w)
  (m27_2 R parts0 w)
def m27_1 (R : VP) (parts0 : Value) (w : World) : Prop :=
  valP Try.prog (binS BinOp.lss 3 (Operand.tmp 6) (Operand.const (Value.int IntKind.i64 1)) parts0 (Value.int IntKind.i64 1)) w fun t7 w =>
  condP t7
  (pickP t7 (Value.bool true) undef fun t11 =>
  m27_12 R parts0 t11 w)
  (valP Try.prog (binS BinOp.gtr 3 (Operand.tmp 9) (Operand.const (Value.int IntKind.i64 16)) parts0 (Value.int IntKind.i64 16)) w fun t10 w =>
  pickP t7 (Value.bool true) t10 fun t11 =>
  m27_12 R parts0 t11 w)
def m27_0 (R : VP) (parts0 : Value) (w : World) : Prop :=
  m27_1 R parts0 w
abbrev W27 := cwp Try.prog (fun i => 0)
noncomputable def k27_0 : Code := (bodyOf Try.f27)
noncomputable def k27_1 : Code := (c2 k27_0)
noncomputable def k27_2 : Code := (c2 k27_1)
noncomputable def k27_3 : Code := (c2 k27_2)
noncomputable def k27_4 : Code := (c2 k27_3)
noncomputable def k27_5 : Code := (c2 k27_4)
noncomputable def k27_6 : Code := (c2 (c1 k27_3))
noncomputable def k27_7 : Code := (c1 (c1 k27_6))
noncomputable def k27_8 : Code := (c2 k27_7)
noncomputable def k27_9 : Code := (c2 k27_8)
noncomputable def k27_10 : Code := (c2 (c1 (c1 k27_8)))
noncomputable def k27_11 : Code := (c2 (c1 k27_7))
noncomputable def k27_12 : Code := (c2 (c1 k27_1))
noncomputable def k27_13 : Code := (c2 (c1 k27_12))
theorem s27_13 {R : VP} {Q : EQ} (hR : ∀ e w, (R (Value.tuple #[(e 2), (e 3)]) w) → Q .ret e w) (e : Env) (w : World) (h : m27_13 R (e 2) (e 3) w) : W27 k27_13 Q e w := by
  unfold m27_13 at h
  exact reA (hR _ _ h)
theorem s27_9 {R : VP} {K1 : VP} {Q : EQ} (hN : ∀ e w, (K1 (e 5) w) → Q .normal e w) (e : Env) (w : World) (h : m27_9 R K1 (e 0) (e 4) (e 5) w) : W27 k27_9 Q e w := by
  unfold m27_9 at h
  exact rgA 6 (fun e w => K1 (e 5) w) h hN
theorem s27_10 {R : VP} {K1 : VP} {Q : EQ} (hN : ∀ e w, (m27_9 R K1 (e 0) (e 4) (e 5) w) → Q .normal e w) (e : Env) (w : World) (h : m27_10 R K1 (e 0) (e 4) (e 5) w) : W27 k27_10 Q e w := by
  unfold m27_10 at h
  exact rgA 8 (fun e w => m27_9 R K1 (e 0) (e 4) (e 5) w) h hN
theorem s27_8 {R : VP} {K1 : VP} {Q : EQ} (hN : ∀ e w, (K1 (e 5) w) → Q .normal e w) (e : Env) (w : World) (h : m27_8 R K1 (e 0) (e 4) (e 5) w) : W27 k27_8 Q e w := by
  unfold m27_8 at h
  refine seA ?_
  have hN : ∀ e w, (m27_9 R K1 (e 0) (e 4) (e 5) w) → (thenE (W27 k27_9 Q) Q) .normal e w := fun e w h => then_N (s27_9 (R := R) (Q := Q) (K1 := K1) hN e w h)
  refine block_ok 1 (by kernel_rfl) ?_
  have hN : ∀ e w, (m27_9 R K1 (e 0) (e 4) (e 5) w) → (inBlockE 1 (thenE (W27 k27_9 Q) Q)) .normal e w := fun e w h => block_N (hN e w h)
  refine seA ?_
  have hN : ∀ e w, (m27_10 R K1 (e 0) (e 4) (e 5) w) → (thenE (W27 k27_10 (inBlockE 1 (thenE (W27 k27_9 Q) Q))) (inBlockE 1 (thenE (W27 k27_9 Q) Q))) .normal e w := fun e w h => then_N (s27_10 (R := R) (Q := (inBlockE 1 (thenE (W27 k27_9 Q) Q))) (K1 := K1) hN e w h)
  exact rgA 7 (fun e w => m27_10 R K1 (e 0) (e 4) (e 5) w) h hN
theorem s27_5 {R : VP} {Q : EQ} (hR : ∀ e w, (R (Value.tuple #[(e 2), (e 3)]) w) → Q .ret e w) (e : Env) (w : World) (h : m27_5 R (e 2) (e 3) w) : W27 k27_5 Q e w := by
  unfold m27_5 at h
  exact reA (hR _ _ h)
theorem s27_4 {R : VP} {Q : EQ} (hR : ∀ e w, (R (Value.tuple #[(e 2), (e 3)]) w) → Q .ret e w) (e : Env) (w : World) (h : m27_4 R (e 4) w) : W27 k27_4 Q e w := by
  unfold m27_4 at h
  refine seA ?_
  have hN : ∀ e w, (m27_5 R (e 2) (e 3) w) → (thenE (W27 k27_5 Q) Q) .normal e w := fun e w h => then_N (s27_5 (R := R) (Q := Q) hR e w h)
  exact rgA 9 (fun e w => m27_5 R (e 2) (e 3) w) h hN
theorem s27_11 {R : VP} {K1 : VP} {Q : EQ} (hN : ∀ e w, (m27_8 R K1 (e 0) (e 4) (e 5) w) → Q .normal e w) (hX0 : ∀ e w, (m27_4 R (e 4) w) → Q (.exit 0) e w) (e : Env) (w : World) (h : m27_11 R K1 (e 0) (e 4) (e 5) (e 16) w) : W27 k27_11 Q e w := by
  unfold m27_11 at h
  refine coA (Operand.tmp 16) h (fun h1 => ?_) (fun h1 => ?_)
  · exact skA (hN _ _ h1)
  · exact exA 0 (hX0 _ _ h1)
theorem s27_7 {R : VP} {K1 : VP} {Q : EQ} (hN : ∀ e w, (K1 (e 5) w) → Q .normal e w) (hX0 : ∀ e w, (m27_4 R (e 4) w) → Q (.exit 0) e w) (e : Env) (w : World) (h : m27_7 R K1 (e 0) (e 4) (e 5) w) : W27 k27_7 Q e w := by
  unfold m27_7 at h
  refine seA ?_
  have hN : ∀ e w, (m27_8 R K1 (e 0) (e 4) (e 5) w) → (thenE (W27 k27_8 Q) Q) .normal e w := fun e w h => then_N (s27_8 (R := R) (Q := Q) (K1 := K1) hN e w h)
  have hX0 : ∀ e w, (m27_4 R (e 4) w) → (thenE (W27 k27_8 Q) Q) (.exit 0) e w := fun e w h => then_X (hX0 e w h)
  refine seA ?_
  have hN : ∀ e w, (m27_11 R K1 (e 0) (e 4) (e 5) (e 16) w) → (thenE (W27 k27_11 (thenE (W27 k27_8 Q) Q)) (thenE (W27 k27_8 Q) Q)) .normal e w := fun e w h => then_N (s27_11 (R := R) (Q := (thenE (W27 k27_8 Q) Q)) (K1 := K1) hN hX0 e w h)
  exact rgA 5 (fun e w => m27_11 R K1 (e 0) (e 4) (e 5) (e 16) w) h hN
theorem s27_6 {R : VP} {Q : EQ} (hN : ∀ e w, (m27_4 R (e 4) w) → Q .normal e w) (e : Env) (w : World) (h : m27_6 R (e 0) (e 4) (e 5) w) : W27 k27_6 Q e w := by
  unfold m27_6 at h
  refine block_ok 0 (by kernel_rfl) ?_
  have hX0 : ∀ e w, (m27_4 R (e 4) w) → (inBlockE 0 Q) (.exit 0) e w := fun e w h => inBlock_same (Q := Q) 0 (hN e w h)
  refine loop_ok' (fun (e : Env) => e 5) [0, 4] (by kernel_rfl) (by kernel_rfl) h (fun K e' w' hk h' => ?_)
  have r0 : e' 0 = e 0 := hk 0 (by decide)
  have r4 : e' 4 = e 4 := hk 4 (by decide)
  have hX0 : ∀ e w, (m27_4 R (e 4) w) → (thenE (fun (e : Env) w => K (e 5) w) (inBlockE 0 Q)) (.exit 0) e w := fun e w h => then_X (hX0 e w h)
  exact s27_7 (R := R) (Q := (thenE (fun (e : Env) w => K (e 5) w) (inBlockE 0 Q))) (K1 := K) (fun _ _ h => then_N h) hX0 e' w' (by rw [r0, r4]; exact h')
theorem s27_3 {R : VP} {Q : EQ} (hR : ∀ e w, (R (Value.tuple #[(e 2), (e 3)]) w) → Q .ret e w) (e : Env) (w : World) (h : m27_3 R (e 0) (e 4) w) : W27 k27_3 Q e w := by
  unfold m27_3 at h
  refine seA ?_
  have hN : ∀ e w, (m27_4 R (e 4) w) → (thenE (W27 k27_4 Q) Q) .normal e w := fun e w h => then_N (s27_4 (R := R) (Q := Q) hR e w h)
  refine seA ?_
  have hN : ∀ e w, (m27_6 R (e 0) (e 4) (e 5) w) → (thenE (W27 k27_6 (thenE (W27 k27_4 Q) Q)) (thenE (W27 k27_4 Q) Q)) .normal e w := fun e w h => then_N (s27_6 (R := R) (Q := (thenE (W27 k27_4 Q) Q)) hN e w h)
  exact rgA 4 (fun e w => m27_6 R (e 0) (e 4) (e 5) w) h hN
theorem s27_2 {R : VP} {Q : EQ} (hR : ∀ e w, (R (Value.tuple #[(e 2), (e 3)]) w) → Q .ret e w) (e : Env) (w : World) (h : m27_2 R (e 0) w) : W27 k27_2 Q e w := by
  unfold m27_2 at h
  refine seA ?_
  have hN : ∀ e w, (m27_3 R (e 0) (e 4) w) → (thenE (W27 k27_3 Q) Q) .normal e w := fun e w h => then_N (s27_3 (R := R) (Q := Q) hR e w h)
  exact rgA 3 (fun e w => m27_3 R (e 0) (e 4) w) h hN
theorem s27_12 {R : VP} {Q : EQ} (hN : ∀ e w, (m27_2 R (e 0) w) → Q .normal e w) (hR : ∀ e w, (R (Value.tuple #[(e 2), (e 3)]) w) → Q .ret e w) (e : Env) (w : World) (h : m27_12 R (e 0) (e 11) w) : W27 k27_12 Q e w := by
  unfold m27_12 at h
  refine coA (Operand.tmp 11) h (fun h1 => ?_) (fun h1 => ?_)
  · refine seA ?_
    have hN : ∀ e w, (m27_13 R (e 2) (e 3) w) → (thenE (W27 k27_13 Q) Q) .normal e w := fun e w h => then_N (s27_13 (R := R) (Q := Q) hR e w h)
    exact rgA 2 (fun e w => m27_13 R (e 2) (e 3) w) h1 hN
  · exact skA (hN _ _ h1)
theorem s27_1 {R : VP} {Q : EQ} (hR : ∀ e w, (R (Value.tuple #[(e 2), (e 3)]) w) → Q .ret e w) (e : Env) (w : World) (h : m27_1 R (e 0) w) : W27 k27_1 Q e w := by
  unfold m27_1 at h
  refine seA ?_
  have hN : ∀ e w, (m27_2 R (e 0) w) → (thenE (W27 k27_2 Q) Q) .normal e w := fun e w h => then_N (s27_2 (R := R) (Q := Q) hR e w h)
  have hR : ∀ e w, (R (Value.tuple #[(e 2), (e 3)]) w) → (thenE (W27 k27_2 Q) Q) .ret e w := fun e w h => then_R (hR e w h)
  refine seA ?_
  have hN : ∀ e w, (m27_12 R (e 0) (e 11) w) → (thenE (W27 k27_12 (thenE (W27 k27_2 Q) Q)) (thenE (W27 k27_2 Q) Q)) .normal e w := fun e w h => then_N (s27_12 (R := R) (Q := (thenE (W27 k27_2 Q) Q)) hN hR e w h)
  exact rgA 1 (fun e w => m27_12 R (e 0) (e 11) w) h hN
theorem s27_0 {R : VP} {Q : EQ} (hR : ∀ e w, (R (Value.tuple #[(e 2), (e 3)]) w) → Q .ret e w) (e : Env) (w : World) (h : m27_0 R (e 0) w) : W27 k27_0 Q e w := by
  unfold m27_0 at h
  refine seA ?_
  have hN : ∀ e w, (m27_1 R (e 0) w) → (thenE (W27 k27_1 Q) Q) .normal e w := fun e w h => then_N (s27_1 (R := R) (Q := Q) hR e w h)
  exact rgA 0 (fun e w => m27_1 R (e 0) w) h hN
abbrev m27 (R : VP) (parts0 : Value) (w : World) : Prop := m27_0 R parts0 w
theorem s27 (parts0 : Value) {R : VP} {w : World} (h : m27 R parts0 w) :
    Calls Try.prog 27 #[parts0] w fun e w' => ∃ v, e = .returned v ∧ R v w' :=
  calls_of_cwp (st := (fun i => 0)) (c := k27_0) (by kernel_rfl) Try.func27 (by kernel_rfl) (Nat.le_of_ble_eq_true (by kernel_rfl)) (by kernel_rfl)
    (s27_0 (R := R) (Q := endE Try.prog Try.f27 R) (fun e w h => kcast (by kernel_rfl) h) (argsE #[parts0]) w (kcast (by kernel_rfl) h))
/-! ### (*headgate/coop.Coop).Members -/
def m18_5 (R : VP) (t2 : Value) (w : World) : Prop :=
  R t2 w
def m18_3 (R : VP) (t2 : Value) (w : World) : Prop :=
  R t2 w
def m18_2 (R : VP) (c0 : Value) (w : World) : Prop :=
  nilCheckP c0 fun t6 =>
  valP Try.prog (Instr.fieldAt 94 t6 1) w fun t7 w =>
  valP Try.prog (Instr.loadAt 28 t7) w fun t8 w =>
  callP Try.prog (fnV 55) #[t8] w fun t9 w =>
  m18_3 R t9 w
def m18_4 (R : VP) (c0 t4 : Value) (w : World) : Prop :=
  condP t4
  (m18_5 R (Value.slice none 0 0) w)
  (m18_2 R c0 w)
def m18_1 (R : VP) (c0 : Value) (w : World) : Prop :=
  valP Try.prog (binS BinOp.eql 23 (Operand.tmp 3) (Operand.const (Value.pointer none)) c0 (Value.pointer none)) w fun t4 w =>
  m18_4 R c0 t4 w
def m18_0 (R : VP) (c0 : Value) (w : World) : Prop :=
  m18_1 R c0 w
abbrev W18 := cwp Try.prog (fun i => 0)
noncomputable def k18_0 : Code := (bodyOf Try.f18)
noncomputable def k18_1 : Code := (c2 k18_0)
noncomputable def k18_2 : Code := (c2 k18_1)
noncomputable def k18_3 : Code := (c2 k18_2)
noncomputable def k18_4 : Code := (c2 (c1 k18_1))
noncomputable def k18_5 : Code := (c2 (c1 k18_4))
theorem s18_5 {R : VP} {Q : EQ} (hR : ∀ e w, (R (e 2) w) → Q .ret e w) (e : Env) (w : World) (h : m18_5 R (e 2) w) : W18 k18_5 Q e w := by
  unfold m18_5 at h
  exact reA (hR _ _ h)
theorem s18_3 {R : VP} {Q : EQ} (hR : ∀ e w, (R (e 2) w) → Q .ret e w) (e : Env) (w : World) (h : m18_3 R (e 2) w) : W18 k18_3 Q e w := by
  unfold m18_3 at h
  exact reA (hR _ _ h)
theorem s18_2 {R : VP} {Q : EQ} (hR : ∀ e w, (R (e 2) w) → Q .ret e w) (e : Env) (w : World) (h : m18_2 R (e 0) w) : W18 k18_2 Q e w := by
  unfold m18_2 at h
  refine seA ?_
  have hN : ∀ e w, (m18_3 R (e 2) w) → (thenE (W18 k18_3 Q) Q) .normal e w := fun e w h => then_N (s18_3 (R := R) (Q := Q) hR e w h)
  exact rgA 3 (fun e w => m18_3 R (e 2) w) h hN
theorem s18_4 {R : VP} {Q : EQ} (hN : ∀ e w, (m18_2 R (e 0) w) → Q .normal e w) (hR : ∀ e w, (R (e 2) w) → Q .ret e w) (e : Env) (w : World) (h : m18_4 R (e 0) (e 4) w) : W18 k18_4 Q e w := by
  unfold m18_4 at h
  refine coA (Operand.tmp 4) h (fun h1 => ?_) (fun h1 => ?_)
  · refine seA ?_
    have hN : ∀ e w, (m18_5 R (e 2) w) → (thenE (W18 k18_5 Q) Q) .normal e w := fun e w h => then_N (s18_5 (R := R) (Q := Q) hR e w h)
    exact rgA 2 (fun e w => m18_5 R (e 2) w) h1 hN
  · exact skA (hN _ _ h1)
theorem s18_1 {R : VP} {Q : EQ} (hR : ∀ e w, (R (e 2) w) → Q .ret e w) (e : Env) (w : World) (h : m18_1 R (e 0) w) : W18 k18_1 Q e w := by
  unfold m18_1 at h
  refine seA ?_
  have hN : ∀ e w, (m18_2 R (e 0) w) → (thenE (W18 k18_2 Q) Q) .normal e w := fun e w h => then_N (s18_2 (R := R) (Q := Q) hR e w h)
  have hR : ∀ e w, (R (e 2) w) → (thenE (W18 k18_2 Q) Q) .ret e w := fun e w h => then_R (hR e w h)
  refine seA ?_
  have hN : ∀ e w, (m18_4 R (e 0) (e 4) w) → (thenE (W18 k18_4 (thenE (W18 k18_2 Q) Q)) (thenE (W18 k18_2 Q) Q)) .normal e w := fun e w h => then_N (s18_4 (R := R) (Q := (thenE (W18 k18_2 Q) Q)) hN hR e w h)
  exact rgA 1 (fun e w => m18_4 R (e 0) (e 4) w) h hN
theorem s18_0 {R : VP} {Q : EQ} (hR : ∀ e w, (R (e 2) w) → Q .ret e w) (e : Env) (w : World) (h : m18_0 R (e 0) w) : W18 k18_0 Q e w := by
  unfold m18_0 at h
  refine seA ?_
  have hN : ∀ e w, (m18_1 R (e 0) w) → (thenE (W18 k18_1 Q) Q) .normal e w := fun e w h => then_N (s18_1 (R := R) (Q := Q) hR e w h)
  exact rgA 0 (fun e w => m18_1 R (e 0) w) h hN
abbrev m18 (R : VP) (c0 : Value) (w : World) : Prop := m18_0 R c0 w
theorem s18 (c0 : Value) {R : VP} {w : World} (h : m18 R c0 w) :
    Calls Try.prog 18 #[c0] w fun e w' => ∃ v, e = .returned v ∧ R v w' :=
  calls_of_cwp (st := (fun i => 0)) (c := k18_0) (by kernel_rfl) Try.func18 (by kernel_rfl) (Nat.le_of_ble_eq_true (by kernel_rfl)) (by kernel_rfl)
    (s18_0 (R := R) (Q := endE Try.prog Try.f18 R) (fun e w h => kcast (by kernel_rfl) h) (argsE #[c0]) w (kcast (by kernel_rfl) h))
/-! ### (*headgate/coop.Coop).Have -/
def m19_5 (R : VP) (t2 : Value) (w : World) : Prop :=
  R t2 w
def m19_3 (R : VP) (t2 : Value) (w : World) : Prop :=
  R t2 w
def m19_2 (R : VP) (c0 : Value) (w : World) : Prop :=
  nilCheckP c0 fun t6 =>
  valP Try.prog (Instr.fieldAt 94 t6 2) w fun t7 w =>
  valP Try.prog (Instr.loadAt 28 t7) w fun t8 w =>
  callP Try.prog (fnV 55) #[t8] w fun t9 w =>
  m19_3 R t9 w
def m19_4 (R : VP) (c0 t4 : Value) (w : World) : Prop :=
  condP t4
  (m19_5 R (Value.slice none 0 0) w)
  (m19_2 R c0 w)
def m19_1 (R : VP) (c0 : Value) (w : World) : Prop :=
  valP Try.prog (binS BinOp.eql 23 (Operand.tmp 3) (Operand.const (Value.pointer none)) c0 (Value.pointer none)) w fun t4 w =>
  m19_4 R c0 t4 w
def m19_0 (R : VP) (c0 : Value) (w : World) : Prop :=
  m19_1 R c0 w
abbrev W19 := cwp Try.prog (fun i => 0)
noncomputable def k19_0 : Code := (bodyOf Try.f19)
noncomputable def k19_1 : Code := (c2 k19_0)
noncomputable def k19_2 : Code := (c2 k19_1)
noncomputable def k19_3 : Code := (c2 k19_2)
noncomputable def k19_4 : Code := (c2 (c1 k19_1))
noncomputable def k19_5 : Code := (c2 (c1 k19_4))
theorem s19_5 {R : VP} {Q : EQ} (hR : ∀ e w, (R (e 2) w) → Q .ret e w) (e : Env) (w : World) (h : m19_5 R (e 2) w) : W19 k19_5 Q e w := by
  unfold m19_5 at h
  exact reA (hR _ _ h)
theorem s19_3 {R : VP} {Q : EQ} (hR : ∀ e w, (R (e 2) w) → Q .ret e w) (e : Env) (w : World) (h : m19_3 R (e 2) w) : W19 k19_3 Q e w := by
  unfold m19_3 at h
  exact reA (hR _ _ h)
theorem s19_2 {R : VP} {Q : EQ} (hR : ∀ e w, (R (e 2) w) → Q .ret e w) (e : Env) (w : World) (h : m19_2 R (e 0) w) : W19 k19_2 Q e w := by
  unfold m19_2 at h
  refine seA ?_
  have hN : ∀ e w, (m19_3 R (e 2) w) → (thenE (W19 k19_3 Q) Q) .normal e w := fun e w h => then_N (s19_3 (R := R) (Q := Q) hR e w h)
  exact rgA 3 (fun e w => m19_3 R (e 2) w) h hN
theorem s19_4 {R : VP} {Q : EQ} (hN : ∀ e w, (m19_2 R (e 0) w) → Q .normal e w) (hR : ∀ e w, (R (e 2) w) → Q .ret e w) (e : Env) (w : World) (h : m19_4 R (e 0) (e 4) w) : W19 k19_4 Q e w := by
  unfold m19_4 at h
  refine coA (Operand.tmp 4) h (fun h1 => ?_) (fun h1 => ?_)
  · refine seA ?_
    have hN : ∀ e w, (m19_5 R (e 2) w) → (thenE (W19 k19_5 Q) Q) .normal e w := fun e w h => then_N (s19_5 (R := R) (Q := Q) hR e w h)
    exact rgA 2 (fun e w => m19_5 R (e 2) w) h1 hN
  · exact skA (hN _ _ h1)
theorem s19_1 {R : VP} {Q : EQ} (hR : ∀ e w, (R (e 2) w) → Q .ret e w) (e : Env) (w : World) (h : m19_1 R (e 0) w) : W19 k19_1 Q e w := by
  unfold m19_1 at h
  refine seA ?_
  have hN : ∀ e w, (m19_2 R (e 0) w) → (thenE (W19 k19_2 Q) Q) .normal e w := fun e w h => then_N (s19_2 (R := R) (Q := Q) hR e w h)
  have hR : ∀ e w, (R (e 2) w) → (thenE (W19 k19_2 Q) Q) .ret e w := fun e w h => then_R (hR e w h)
  refine seA ?_
  have hN : ∀ e w, (m19_4 R (e 0) (e 4) w) → (thenE (W19 k19_4 (thenE (W19 k19_2 Q) Q)) (thenE (W19 k19_2 Q) Q)) .normal e w := fun e w h => then_N (s19_4 (R := R) (Q := (thenE (W19 k19_2 Q) Q)) hN hR e w h)
  exact rgA 1 (fun e w => m19_4 R (e 0) (e 4) w) h hN
theorem s19_0 {R : VP} {Q : EQ} (hR : ∀ e w, (R (e 2) w) → Q .ret e w) (e : Env) (w : World) (h : m19_0 R (e 0) w) : W19 k19_0 Q e w := by
  unfold m19_0 at h
  refine seA ?_
  have hN : ∀ e w, (m19_1 R (e 0) w) → (thenE (W19 k19_1 Q) Q) .normal e w := fun e w h => then_N (s19_1 (R := R) (Q := Q) hR e w h)
  exact rgA 0 (fun e w => m19_1 R (e 0) w) h hN
abbrev m19 (R : VP) (c0 : Value) (w : World) : Prop := m19_0 R c0 w
theorem s19 (c0 : Value) {R : VP} {w : World} (h : m19 R c0 w) :
    Calls Try.prog 19 #[c0] w fun e w' => ∃ v, e = .returned v ∧ R v w' :=
  calls_of_cwp (st := (fun i => 0)) (c := k19_0) (by kernel_rfl) Try.func19 (by kernel_rfl) (Nat.le_of_ble_eq_true (by kernel_rfl)) (by kernel_rfl)
    (s19_0 (R := R) (Q := endE Try.prog Try.f19 R) (fun e w h => kcast (by kernel_rfl) h) (argsE #[c0]) w (kcast (by kernel_rfl) h))
/-! ### (*headgate/coop.Coop).Want -/
def m20_5 (R : VP) (t2 : Value) (w : World) : Prop :=
  R t2 w
def m20_3 (R : VP) (t2 : Value) (w : World) : Prop :=
  R t2 w
def m20_2 (R : VP) (c0 : Value) (w : World) : Prop :=
  nilCheckP c0 fun t6 =>
  valP Try.prog (Instr.fieldAt 94 t6 3) w fun t7 w =>
  valP Try.prog (Instr.loadAt 28 t7) w fun t8 w =>
  callP Try.prog (fnV 55) #[t8] w fun t9 w =>
  m20_3 R t9 w
def m20_4 (R : VP) (c0 t4 : Value) (w : World) : Prop :=
  condP t4
  (m20_5 R (Value.slice none 0 0) w)
  (m20_2 R c0 w)
def m20_1 (R : VP) (c0 : Value) (w : World) : Prop :=
  valP Try.prog (binS BinOp.eql 23 (Operand.tmp 3) (Operand.const (Value.pointer none)) c0 (Value.pointer none)) w fun t4 w =>
  m20_4 R c0 t4 w
def m20_0 (R : VP) (c0 : Value) (w : World) : Prop :=
  m20_1 R c0 w
abbrev W20 := cwp Try.prog (fun i => 0)
noncomputable def k20_0 : Code := (bodyOf Try.f20)
noncomputable def k20_1 : Code := (c2 k20_0)
noncomputable def k20_2 : Code := (c2 k20_1)
noncomputable def k20_3 : Code := (c2 k20_2)
noncomputable def k20_4 : Code := (c2 (c1 k20_1))
noncomputable def k20_5 : Code := (c2 (c1 k20_4))
theorem s20_5 {R : VP} {Q : EQ} (hR : ∀ e w, (R (e 2) w) → Q .ret e w) (e : Env) (w : World) (h : m20_5 R (e 2) w) : W20 k20_5 Q e w := by
  unfold m20_5 at h
  exact reA (hR _ _ h)
theorem s20_3 {R : VP} {Q : EQ} (hR : ∀ e w, (R (e 2) w) → Q .ret e w) (e : Env) (w : World) (h : m20_3 R (e 2) w) : W20 k20_3 Q e w := by
  unfold m20_3 at h
  exact reA (hR _ _ h)
theorem s20_2 {R : VP} {Q : EQ} (hR : ∀ e w, (R (e 2) w) → Q .ret e w) (e : Env) (w : World) (h : m20_2 R (e 0) w) : W20 k20_2 Q e w := by
  unfold m20_2 at h
  refine seA ?_
  have hN : ∀ e w, (m20_3 R (e 2) w) → (thenE (W20 k20_3 Q) Q) .normal e w := fun e w h => then_N (s20_3 (R := R) (Q := Q) hR e w h)
  exact rgA 3 (fun e w => m20_3 R (e 2) w) h hN
theorem s20_4 {R : VP} {Q : EQ} (hN : ∀ e w, (m20_2 R (e 0) w) → Q .normal e w) (hR : ∀ e w, (R (e 2) w) → Q .ret e w) (e : Env) (w : World) (h : m20_4 R (e 0) (e 4) w) : W20 k20_4 Q e w := by
  unfold m20_4 at h
  refine coA (Operand.tmp 4) h (fun h1 => ?_) (fun h1 => ?_)
  · refine seA ?_
    have hN : ∀ e w, (m20_5 R (e 2) w) → (thenE (W20 k20_5 Q) Q) .normal e w := fun e w h => then_N (s20_5 (R := R) (Q := Q) hR e w h)
    exact rgA 2 (fun e w => m20_5 R (e 2) w) h1 hN
  · exact skA (hN _ _ h1)
theorem s20_1 {R : VP} {Q : EQ} (hR : ∀ e w, (R (e 2) w) → Q .ret e w) (e : Env) (w : World) (h : m20_1 R (e 0) w) : W20 k20_1 Q e w := by
  unfold m20_1 at h
  refine seA ?_
  have hN : ∀ e w, (m20_2 R (e 0) w) → (thenE (W20 k20_2 Q) Q) .normal e w := fun e w h => then_N (s20_2 (R := R) (Q := Q) hR e w h)
  have hR : ∀ e w, (R (e 2) w) → (thenE (W20 k20_2 Q) Q) .ret e w := fun e w h => then_R (hR e w h)
  refine seA ?_
  have hN : ∀ e w, (m20_4 R (e 0) (e 4) w) → (thenE (W20 k20_4 (thenE (W20 k20_2 Q) Q)) (thenE (W20 k20_2 Q) Q)) .normal e w := fun e w h => then_N (s20_4 (R := R) (Q := (thenE (W20 k20_2 Q) Q)) hN hR e w h)
  exact rgA 1 (fun e w => m20_4 R (e 0) (e 4) w) h hN
theorem s20_0 {R : VP} {Q : EQ} (hR : ∀ e w, (R (e 2) w) → Q .ret e w) (e : Env) (w : World) (h : m20_0 R (e 0) w) : W20 k20_0 Q e w := by
  unfold m20_0 at h
  refine seA ?_
  have hN : ∀ e w, (m20_1 R (e 0) w) → (thenE (W20 k20_1 Q) Q) .normal e w := fun e w h => then_N (s20_1 (R := R) (Q := Q) hR e w h)
  exact rgA 0 (fun e w => m20_1 R (e 0) w) h hN
abbrev m20 (R : VP) (c0 : Value) (w : World) : Prop := m20_0 R c0 w
theorem s20 (c0 : Value) {R : VP} {w : World} (h : m20 R c0 w) :
    Calls Try.prog 20 #[c0] w fun e w' => ∃ v, e = .returned v ∧ R v w' :=
  calls_of_cwp (st := (fun i => 0)) (c := k20_0) (by kernel_rfl) Try.func20 (by kernel_rfl) (Nat.le_of_ble_eq_true (by kernel_rfl)) (by kernel_rfl)
    (s20_0 (R := R) (Q := endE Try.prog Try.f20 R) (fun e w h => kcast (by kernel_rfl) h) (argsE #[c0]) w (kcast (by kernel_rfl) h))
/-! ### (*headgate/coop.Coop).Rests -/
def m23_2 (R : VP) (t2 : Value) (w : World) : Prop :=
  R t2 w
def m23_1 (R : VP) (c0 : Value) (w : World) : Prop :=
  anyDraw w fun w =>
  valS Try.prog (binS BinOp.neq 23 (Operand.tmp 3) (Operand.const (Value.pointer none)) c0 (Value.pointer none)) w fun t4 =>
  condP t4
  (nilCheckP c0 fun t7 =>
  valS Try.prog (Instr.fieldAt 94 t7 2) w fun t8 =>
  valS Try.prog (Instr.loadAt 28 t8) w fun t9 =>
  nilCheckP c0 fun t11 =>
  valS Try.prog (Instr.fieldAt 94 t11 3) w fun t12 =>
  valS Try.prog (Instr.loadAt 28 t12) w fun t13 =>
  callP Try.prog (fnV 56) #[t9, t13] w fun t14 w =>
  pickP t4 t14 (Value.bool false) fun t15 =>
  m23_2 R t15 w)
  (pickP t4 undef (Value.bool false) fun t15 =>
  m23_2 R t15 w)
def m23_0 (R : VP) (c0 : Value) (w : World) : Prop :=
  m23_1 R c0 w
abbrev W23 := cwp Try.prog (fun i => cond (Nat.beq i 1) 13 (0))
noncomputable def k23_0 : Code := (bodyOf Try.f23)
noncomputable def k23_1 : Code := (c2 k23_0)
noncomputable def k23_2 : Code := (c2 k23_1)
theorem s23_2 {R : VP} {Q : EQ} (hR : ∀ e w, (R (e 2) w) → Q .ret e w) (e : Env) (w : World) (h : m23_2 R (e 2) w) : W23 k23_2 Q e w := by
  unfold m23_2 at h
  exact reA (hR _ _ h)
theorem s23_1 {R : VP} {Q : EQ} (hR : ∀ e w, (R (e 2) w) → Q .ret e w) (e : Env) (w : World) (h : m23_1 R (e 0) w) : W23 k23_1 Q e w := by
  unfold m23_1 at h
  refine seA ?_
  have hN : ∀ e w, (m23_2 R (e 2) w) → (thenE (W23 k23_2 Q) Q) .normal e w := fun e w h => then_N (s23_2 (R := R) (Q := Q) hR e w h)
  exact taA 1 11 (fun e w => m23_2 R (e 2) w) h hN
theorem s23_0 {R : VP} {Q : EQ} (hR : ∀ e w, (R (e 2) w) → Q .ret e w) (e : Env) (w : World) (h : m23_0 R (e 0) w) : W23 k23_0 Q e w := by
  unfold m23_0 at h
  refine seA ?_
  have hN : ∀ e w, (m23_1 R (e 0) w) → (thenE (W23 k23_1 Q) Q) .normal e w := fun e w h => then_N (s23_1 (R := R) (Q := Q) hR e w h)
  exact rgA 0 (fun e w => m23_1 R (e 0) w) h hN
abbrev m23 (R : VP) (c0 : Value) (w : World) : Prop := m23_0 R c0 w
theorem s23 (c0 : Value) {R : VP} {w : World} (h : m23 R c0 w) :
    Calls Try.prog 23 #[c0] w fun e w' => ∃ v, e = .returned v ∧ R v w' :=
  calls_of_cwp (st := (fun i => cond (Nat.beq i 1) 13 (0))) (c := k23_0) (by kernel_rfl) Try.func23 (by kernel_rfl) (Nat.le_of_ble_eq_true (by kernel_rfl)) (by kernel_rfl)
    (s23_0 (R := R) (Q := endE Try.prog Try.f23 R) (fun e w h => kcast (by kernel_rfl) h) (argsE #[c0]) w (kcast (by kernel_rfl) h))
/-! ### (*headgate/coop.Coop).Join -/
def m24_23 (R : VP) (t4 : Value) (w : World) : Prop :=
  R t4 w
def m24_19 (R : VP) (K1 : (Value × Value) → World → Prop) (t4 : Value) (w : World) : Prop :=
  R t4 w
def m24_21 (R : VP) (K1 : (Value × Value) → World → Prop) (t4 : Value) (w : World) : Prop :=
  R t4 w
def m24_15 (R : VP) (K1 : (Value × Value) → World → Prop) (c0 l5 t20 t21 t22 : Value) (w : World) : Prop :=
  valP Try.prog (binS BinOp.add 3 (Operand.tmp 22) (Operand.const (Value.int IntKind.i64 1)) t22 (Value.int IntKind.i64 1)) w fun t41 w =>
  K1 (l5, t41) w
def m24_17 (R : VP) (K1 : (Value × Value) → World → Prop) (c0 l5 m7 t20 t21 t22 : Value) (w : World) : Prop :=
  valP Try.prog (Instr.buildSlice 28 1 #[(0, m7)]) w fun t39 w =>
  builtinP Try.prog Builtin.append #[28, 28] 28 #[false, false] #[l5, t39] w fun t40 w =>
  m24_15 R K1 c0 t40 t20 t21 t22 w
def m24_20 (R : VP) (K1 : (Value × Value) → World → Prop) (c0 l5 m7 t20 t21 t22 t33 : Value) (w : World) : Prop :=
  condP t33
  (m24_21 R K1 (Value.int IntKind.i64 9) w)
  (m24_17 R K1 c0 l5 m7 t20 t21 t22 w)
def m24_18 (R : VP) (K1 : (Value × Value) → World → Prop) (c0 l5 m7 t20 t21 t22 t26 : Value) (w : World) : Prop :=
  condP t26
  (m24_19 R K1 (Value.int IntKind.i64 1) w)
  (callP Try.prog (fnV 57) #[l5, m7] w fun t36 w =>
  m24_20 R K1 c0 l5 m7 t20 t21 t22 t36 w)
def m24_16 (R : VP) (K1 : (Value × Value) → World → Prop) (c0 l5 m7 t20 t21 t22 : Value) (w : World) : Prop :=
  valP Try.prog (binS BinOp.lss 3 (Operand.tmp 27) (Operand.const (Value.int IntKind.i64 1)) m7 (Value.int IntKind.i64 1)) w fun t28 w =>
  condP t28
  (pickP t28 (Value.bool true) undef fun t32 =>
  m24_18 R K1 c0 l5 m7 t20 t21 t22 t32 w)
  (valP Try.prog (binS BinOp.gtr 3 (Operand.tmp 30) (Operand.const (Value.int IntKind.i64 1099511627776)) m7 (Value.int IntKind.i64 1099511627776)) w fun t31 w =>
  pickP t28 (Value.bool true) t31 fun t32 =>
  m24_18 R K1 c0 l5 m7 t20 t21 t22 t32 w)
def m24_14 (R : VP) (K1 : (Value × Value) → World → Prop) (c0 l5 t20 t21 t22 : Value) (w : World) : Prop :=
  valP Try.prog (Instr.indexAt 28 t20 t22) w fun t24 w =>
  valP Try.prog (Instr.loadAt 3 t24) w fun t25 w =>
  m24_16 R K1 c0 l5 t25 t20 t21 t22 w
def m24_10 (R : VP) (t4 : Value) (w : World) : Prop :=
  R t4 w
def m24_8 (R : VP) (t4 : Value) (w : World) : Prop :=
  R t4 w
def m24_7 (R : VP) (w : World) : Prop :=
  m24_8 R (Value.int IntKind.i64 0) w
def m24_6 (R : VP) (c0 : Value) (w : World) : Prop :=
  callP Try.prog (fnV 60) #[c0] w fun t52 w =>
  m24_7 R w
def m24_5 (R : VP) (c0 l5 : Value) (w : World) : Prop :=
  callP Try.prog (fnV 59) #[l5] w fun t47 w =>
  callP Try.prog (fnV 58) #[t47] w fun t48 w =>
  nilCheckP c0 fun t49 =>
  valP Try.prog (Instr.fieldAt 94 t49 1) w fun t50 w =>
  unitP Try.prog (Instr.storeAt 28 t50 t48) w fun _ w =>
  m24_6 R c0 w
def m24_9 (R : VP) (c0 l5 t44 : Value) (w : World) : Prop :=
  condP t44
  (m24_10 R (Value.int IntKind.i64 5) w)
  (m24_5 R c0 l5 w)
def m24_4 (R : VP) (c0 l5 : Value) (w : World) : Prop :=
  builtinP Try.prog Builtin.len #[28] 3 #[false] #[l5] w fun t43 w =>
  valP Try.prog (binS BinOp.gtr 3 (Operand.tmp 43) (Operand.const (Value.int IntKind.i64 8)) t43 (Value.int IntKind.i64 8)) w fun t44 w =>
  m24_9 R c0 l5 t44 w
def m24_13 (R : VP) (K1 : (Value × Value) → World → Prop) (c0 l5 t20 t21 t22 t23 : Value) (w : World) : Prop :=
  condP t23
  (m24_14 R K1 c0 l5 t20 t21 t22 w)
  (m24_4 R c0 l5 w)
def m24_12 (R : VP) (K1 : (Value × Value) → World → Prop) (c0 l5 t20 t21 t22 : Value) (w : World) : Prop :=
  valP Try.prog (binS BinOp.lss 3 (Operand.tmp 22) (Operand.tmp 21) t22 t21) w fun t23 w =>
  m24_13 R K1 c0 l5 t20 t21 t22 t23 w
def m24_11 (R : VP) (c0 l5 t20 t21 t22 : Value) (w : World) : Prop :=
  loopP (fun (K1 : (Value × Value) → World → Prop) (s : Value × Value) w => m24_12 R K1 c0 s.1 t20 t21 s.2 w) (l5, t22) w
def m24_3 (R : VP) (c0 members1 l5 : Value) (w : World) : Prop :=
  builtinP Try.prog Builtin.len #[28] 3 #[false] #[members1] w fun t21 w =>
  m24_11 R c0 l5 members1 t21 (Value.int IntKind.i64 0) w
def m24_2 (R : VP) (c0 members1 : Value) (w : World) : Prop :=
  nilCheckP c0 fun t16 =>
  valP Try.prog (Instr.fieldAt 94 t16 1) w fun t17 w =>
  valP Try.prog (Instr.loadAt 28 t17) w fun t18 w =>
  callP Try.prog (fnV 55) #[t18] w fun t19 w =>
  m24_3 R c0 members1 t19 w
def m24_22 (R : VP) (c0 members1 t14 : Value) (w : World) : Prop :=
  condP t14
  (m24_23 R (Value.int IntKind.i64 1) w)
  (m24_2 R c0 members1 w)
def m24_1 (R : VP) (c0 members1 : Value) (w : World) : Prop :=
  valP Try.prog (binS BinOp.eql 23 (Operand.tmp 8) (Operand.const (Value.pointer none)) c0 (Value.pointer none)) w fun t9 w =>
  condP t9
  (pickP t9 (Value.bool true) undef fun t14 =>
  m24_22 R c0 members1 t14 w)
  (builtinP Try.prog Builtin.len #[28] 3 #[false] #[members1] w fun t12 w =>
  valP Try.prog (binS BinOp.eql 3 (Operand.tmp 12) (Operand.const (Value.int IntKind.i64 0)) t12 (Value.int IntKind.i64 0)) w fun t13 w =>
  pickP t9 (Value.bool true) t13 fun t14 =>
  m24_22 R c0 members1 t14 w)
def m24_0 (R : VP) (c0 members1 : Value) (w : World) : Prop :=
  m24_1 R c0 members1 w
abbrev W24 := cwp Try.prog (fun i => 0)
noncomputable def k24_0 : Code := (bodyOf Try.f24)
noncomputable def k24_1 : Code := (c2 k24_0)
noncomputable def k24_2 : Code := (c2 k24_1)
noncomputable def k24_3 : Code := (c2 k24_2)
noncomputable def k24_4 : Code := (c2 k24_3)
noncomputable def k24_5 : Code := (c2 k24_4)
noncomputable def k24_6 : Code := (c2 k24_5)
noncomputable def k24_7 : Code := (c2 k24_6)
noncomputable def k24_8 : Code := (c2 k24_7)
noncomputable def k24_9 : Code := (c2 (c1 k24_4))
noncomputable def k24_10 : Code := (c2 (c1 k24_9))
noncomputable def k24_11 : Code := (c2 (c1 k24_3))
noncomputable def k24_12 : Code := (c1 (c1 k24_11))
noncomputable def k24_13 : Code := (c2 k24_12)
noncomputable def k24_14 : Code := (c2 k24_13)
noncomputable def k24_15 : Code := (c2 k24_14)
noncomputable def k24_16 : Code := (c2 (c1 (c1 k24_14)))
noncomputable def k24_17 : Code := (c2 k24_16)
noncomputable def k24_18 : Code := (c2 (c1 (c1 k24_16)))
noncomputable def k24_19 : Code := (c2 (c1 k24_18))
noncomputable def k24_20 : Code := (c2 (c2 k24_18))
noncomputable def k24_21 : Code := (c2 (c1 k24_20))
noncomputable def k24_22 : Code := (c2 (c1 k24_1))
noncomputable def k24_23 : Code := (c2 (c1 k24_22))
theorem s24_23 {R : VP} {Q : EQ} (hR : ∀ e w, (R (e 4) w) → Q .ret e w) (e : Env) (w : World) (h : m24_23 R (e 4) w) : W24 k24_23 Q e w := by
  unfold m24_23 at h
  exact reA (hR _ _ h)
theorem s24_19 {R : VP} {K1 : (Value × Value) → World → Prop} {Q : EQ} (hR : ∀ e w, (R (e 4) w) → Q .ret e w) (e : Env) (w : World) (h : m24_19 R K1 (e 4) w) : W24 k24_19 Q e w := by
  unfold m24_19 at h
  exact reA (hR _ _ h)
theorem s24_21 {R : VP} {K1 : (Value × Value) → World → Prop} {Q : EQ} (hR : ∀ e w, (R (e 4) w) → Q .ret e w) (e : Env) (w : World) (h : m24_21 R K1 (e 4) w) : W24 k24_21 Q e w := by
  unfold m24_21 at h
  exact reA (hR _ _ h)
theorem s24_15 {R : VP} {K1 : (Value × Value) → World → Prop} {Q : EQ} (hN : ∀ e w, (K1 ((e 5), (e 22)) w) → Q .normal e w) (e : Env) (w : World) (h : m24_15 R K1 (e 0) (e 5) (e 20) (e 21) (e 22) w) : W24 k24_15 Q e w := by
  unfold m24_15 at h
  exact rgA 12 (fun e w => K1 ((e 5), (e 22)) w) h hN
theorem s24_17 {R : VP} {K1 : (Value × Value) → World → Prop} {Q : EQ} (hN : ∀ e w, (m24_15 R K1 (e 0) (e 5) (e 20) (e 21) (e 22) w) → Q .normal e w) (e : Env) (w : World) (h : m24_17 R K1 (e 0) (e 5) (e 7) (e 20) (e 21) (e 22) w) : W24 k24_17 Q e w := by
  unfold m24_17 at h
  exact rgA 11 (fun e w => m24_15 R K1 (e 0) (e 5) (e 20) (e 21) (e 22) w) h hN
theorem s24_20 {R : VP} {K1 : (Value × Value) → World → Prop} {Q : EQ} (hN : ∀ e w, (m24_17 R K1 (e 0) (e 5) (e 7) (e 20) (e 21) (e 22) w) → Q .normal e w) (hR : ∀ e w, (R (e 4) w) → Q .ret e w) (e : Env) (w : World) (h : m24_20 R K1 (e 0) (e 5) (e 7) (e 20) (e 21) (e 22) (e 33) w) : W24 k24_20 Q e w := by
  unfold m24_20 at h
  refine coA (Operand.tmp 33) h (fun h1 => ?_) (fun h1 => ?_)
  · refine seA ?_
    have hN : ∀ e w, (m24_21 R K1 (e 4) w) → (thenE (W24 k24_21 Q) Q) .normal e w := fun e w h => then_N (s24_21 (R := R) (Q := Q) (K1 := K1) hR e w h)
    exact rgA 10 (fun e w => m24_21 R K1 (e 4) w) h1 hN
  · exact skA (hN _ _ h1)
theorem s24_18 {R : VP} {K1 : (Value × Value) → World → Prop} {Q : EQ} (hN : ∀ e w, (m24_17 R K1 (e 0) (e 5) (e 7) (e 20) (e 21) (e 22) w) → Q .normal e w) (hR : ∀ e w, (R (e 4) w) → Q .ret e w) (e : Env) (w : World) (h : m24_18 R K1 (e 0) (e 5) (e 7) (e 20) (e 21) (e 22) (e 26) w) : W24 k24_18 Q e w := by
  unfold m24_18 at h
  refine coA (Operand.tmp 26) h (fun h1 => ?_) (fun h1 => ?_)
  · refine seA ?_
    have hN : ∀ e w, (m24_19 R K1 (e 4) w) → (thenE (W24 k24_19 Q) Q) .normal e w := fun e w h => then_N (s24_19 (R := R) (Q := Q) (K1 := K1) hR e w h)
    exact rgA 8 (fun e w => m24_19 R K1 (e 4) w) h1 hN
  · refine seA ?_
    have hN : ∀ e w, (m24_20 R K1 (e 0) (e 5) (e 7) (e 20) (e 21) (e 22) (e 33) w) → (thenE (W24 k24_20 Q) Q) .normal e w := fun e w h => then_N (s24_20 (R := R) (Q := Q) (K1 := K1) hN hR e w h)
    exact rgA 9 (fun e w => m24_20 R K1 (e 0) (e 5) (e 7) (e 20) (e 21) (e 22) (e 33) w) h1 hN
theorem s24_16 {R : VP} {K1 : (Value × Value) → World → Prop} {Q : EQ} (hN : ∀ e w, (m24_15 R K1 (e 0) (e 5) (e 20) (e 21) (e 22) w) → Q .normal e w) (hR : ∀ e w, (R (e 4) w) → Q .ret e w) (e : Env) (w : World) (h : m24_16 R K1 (e 0) (e 5) (e 7) (e 20) (e 21) (e 22) w) : W24 k24_16 Q e w := by
  unfold m24_16 at h
  refine seA ?_
  have hN : ∀ e w, (m24_17 R K1 (e 0) (e 5) (e 7) (e 20) (e 21) (e 22) w) → (thenE (W24 k24_17 Q) Q) .normal e w := fun e w h => then_N (s24_17 (R := R) (Q := Q) (K1 := K1) hN e w h)
  have hR : ∀ e w, (R (e 4) w) → (thenE (W24 k24_17 Q) Q) .ret e w := fun e w h => then_R (hR e w h)
  refine block_ok 2 (by kernel_rfl) ?_
  have hN : ∀ e w, (m24_17 R K1 (e 0) (e 5) (e 7) (e 20) (e 21) (e 22) w) → (inBlockE 2 (thenE (W24 k24_17 Q) Q)) .normal e w := fun e w h => block_N (hN e w h)
  have hR : ∀ e w, (R (e 4) w) → (inBlockE 2 (thenE (W24 k24_17 Q) Q)) .ret e w := fun e w h => block_R (hR e w h)
  refine seA ?_
  have hN : ∀ e w, (m24_18 R K1 (e 0) (e 5) (e 7) (e 20) (e 21) (e 22) (e 26) w) → (thenE (W24 k24_18 (inBlockE 2 (thenE (W24 k24_17 Q) Q))) (inBlockE 2 (thenE (W24 k24_17 Q) Q))) .normal e w := fun e w h => then_N (s24_18 (R := R) (Q := (inBlockE 2 (thenE (W24 k24_17 Q) Q))) (K1 := K1) hN hR e w h)
  exact rgA 7 (fun e w => m24_18 R K1 (e 0) (e 5) (e 7) (e 20) (e 21) (e 22) (e 26) w) h hN
theorem s24_14 {R : VP} {K1 : (Value × Value) → World → Prop} {Q : EQ} (hN : ∀ e w, (K1 ((e 5), (e 22)) w) → Q .normal e w) (hR : ∀ e w, (R (e 4) w) → Q .ret e w) (e : Env) (w : World) (h : m24_14 R K1 (e 0) (e 5) (e 20) (e 21) (e 22) w) : W24 k24_14 Q e w := by
  unfold m24_14 at h
  refine seA ?_
  have hN : ∀ e w, (m24_15 R K1 (e 0) (e 5) (e 20) (e 21) (e 22) w) → (thenE (W24 k24_15 Q) Q) .normal e w := fun e w h => then_N (s24_15 (R := R) (Q := Q) (K1 := K1) hN e w h)
  have hR : ∀ e w, (R (e 4) w) → (thenE (W24 k24_15 Q) Q) .ret e w := fun e w h => then_R (hR e w h)
  refine block_ok 1 (by kernel_rfl) ?_
  have hN : ∀ e w, (m24_15 R K1 (e 0) (e 5) (e 20) (e 21) (e 22) w) → (inBlockE 1 (thenE (W24 k24_15 Q) Q)) .normal e w := fun e w h => block_N (hN e w h)
  have hR : ∀ e w, (R (e 4) w) → (inBlockE 1 (thenE (W24 k24_15 Q) Q)) .ret e w := fun e w h => block_R (hR e w h)
  refine seA ?_
  have hN : ∀ e w, (m24_16 R K1 (e 0) (e 5) (e 7) (e 20) (e 21) (e 22) w) → (thenE (W24 k24_16 (inBlockE 1 (thenE (W24 k24_15 Q) Q))) (inBlockE 1 (thenE (W24 k24_15 Q) Q))) .normal e w := fun e w h => then_N (s24_16 (R := R) (Q := (inBlockE 1 (thenE (W24 k24_15 Q) Q))) (K1 := K1) hN hR e w h)
  exact rgA 6 (fun e w => m24_16 R K1 (e 0) (e 5) (e 7) (e 20) (e 21) (e 22) w) h hN
theorem s24_10 {R : VP} {Q : EQ} (hR : ∀ e w, (R (e 4) w) → Q .ret e w) (e : Env) (w : World) (h : m24_10 R (e 4) w) : W24 k24_10 Q e w := by
  unfold m24_10 at h
  exact reA (hR _ _ h)
theorem s24_8 {R : VP} {Q : EQ} (hR : ∀ e w, (R (e 4) w) → Q .ret e w) (e : Env) (w : World) (h : m24_8 R (e 4) w) : W24 k24_8 Q e w := by
  unfold m24_8 at h
  exact reA (hR _ _ h)
theorem s24_7 {R : VP} {Q : EQ} (hR : ∀ e w, (R (e 4) w) → Q .ret e w) (e : Env) (w : World) (h : m24_7 R w) : W24 k24_7 Q e w := by
  unfold m24_7 at h
  refine seA ?_
  have hN : ∀ e w, (m24_8 R (e 4) w) → (thenE (W24 k24_8 Q) Q) .normal e w := fun e w h => then_N (s24_8 (R := R) (Q := Q) hR e w h)
  exact rgA 17 (fun e w => m24_8 R (e 4) w) h hN
theorem s24_6 {R : VP} {Q : EQ} (hR : ∀ e w, (R (e 4) w) → Q .ret e w) (e : Env) (w : World) (h : m24_6 R (e 0) w) : W24 k24_6 Q e w := by
  unfold m24_6 at h
  refine seA ?_
  have hN : ∀ e w, (m24_7 R w) → (thenE (W24 k24_7 Q) Q) .normal e w := fun e w h => then_N (s24_7 (R := R) (Q := Q) hR e w h)
  exact rgA 16 (fun e w => m24_7 R w) h hN
theorem s24_5 {R : VP} {Q : EQ} (hR : ∀ e w, (R (e 4) w) → Q .ret e w) (e : Env) (w : World) (h : m24_5 R (e 0) (e 5) w) : W24 k24_5 Q e w := by
  unfold m24_5 at h
  refine seA ?_
  have hN : ∀ e w, (m24_6 R (e 0) w) → (thenE (W24 k24_6 Q) Q) .normal e w := fun e w h => then_N (s24_6 (R := R) (Q := Q) hR e w h)
  exact rgA 15 (fun e w => m24_6 R (e 0) w) h hN
theorem s24_9 {R : VP} {Q : EQ} (hN : ∀ e w, (m24_5 R (e 0) (e 5) w) → Q .normal e w) (hR : ∀ e w, (R (e 4) w) → Q .ret e w) (e : Env) (w : World) (h : m24_9 R (e 0) (e 5) (e 44) w) : W24 k24_9 Q e w := by
  unfold m24_9 at h
  refine coA (Operand.tmp 44) h (fun h1 => ?_) (fun h1 => ?_)
  · refine seA ?_
    have hN : ∀ e w, (m24_10 R (e 4) w) → (thenE (W24 k24_10 Q) Q) .normal e w := fun e w h => then_N (s24_10 (R := R) (Q := Q) hR e w h)
    exact rgA 14 (fun e w => m24_10 R (e 4) w) h1 hN
  · exact skA (hN _ _ h1)
theorem s24_4 {R : VP} {Q : EQ} (hR : ∀ e w, (R (e 4) w) → Q .ret e w) (e : Env) (w : World) (h : m24_4 R (e 0) (e 5) w) : W24 k24_4 Q e w := by
  unfold m24_4 at h
  refine seA ?_
  have hN : ∀ e w, (m24_5 R (e 0) (e 5) w) → (thenE (W24 k24_5 Q) Q) .normal e w := fun e w h => then_N (s24_5 (R := R) (Q := Q) hR e w h)
  have hR : ∀ e w, (R (e 4) w) → (thenE (W24 k24_5 Q) Q) .ret e w := fun e w h => then_R (hR e w h)
  refine seA ?_
  have hN : ∀ e w, (m24_9 R (e 0) (e 5) (e 44) w) → (thenE (W24 k24_9 (thenE (W24 k24_5 Q) Q)) (thenE (W24 k24_5 Q) Q)) .normal e w := fun e w h => then_N (s24_9 (R := R) (Q := (thenE (W24 k24_5 Q) Q)) hN hR e w h)
  exact rgA 13 (fun e w => m24_9 R (e 0) (e 5) (e 44) w) h hN
theorem s24_13 {R : VP} {K1 : (Value × Value) → World → Prop} {Q : EQ} (hN : ∀ e w, (K1 ((e 5), (e 22)) w) → Q .normal e w) (hR : ∀ e w, (R (e 4) w) → Q .ret e w) (hX0 : ∀ e w, (m24_4 R (e 0) (e 5) w) → Q (.exit 0) e w) (e : Env) (w : World) (h : m24_13 R K1 (e 0) (e 5) (e 20) (e 21) (e 22) (e 23) w) : W24 k24_13 Q e w := by
  unfold m24_13 at h
  refine seA ?_
  have hN : ∀ e w, (m24_14 R K1 (e 0) (e 5) (e 20) (e 21) (e 22) w) → (thenE (W24 k24_14 Q) Q) .normal e w := fun e w h => then_N (s24_14 (R := R) (Q := Q) (K1 := K1) hN hR e w h)
  have hX0 : ∀ e w, (m24_4 R (e 0) (e 5) w) → (thenE (W24 k24_14 Q) Q) (.exit 0) e w := fun e w h => then_X (hX0 e w h)
  refine coA (Operand.tmp 23) h (fun h1 => ?_) (fun h1 => ?_)
  · exact skA (hN _ _ h1)
  · exact exA 0 (hX0 _ _ h1)
theorem s24_12 {R : VP} {K1 : (Value × Value) → World → Prop} {Q : EQ} (hN : ∀ e w, (K1 ((e 5), (e 22)) w) → Q .normal e w) (hR : ∀ e w, (R (e 4) w) → Q .ret e w) (hX0 : ∀ e w, (m24_4 R (e 0) (e 5) w) → Q (.exit 0) e w) (e : Env) (w : World) (h : m24_12 R K1 (e 0) (e 5) (e 20) (e 21) (e 22) w) : W24 k24_12 Q e w := by
  unfold m24_12 at h
  refine seA ?_
  have hN : ∀ e w, (m24_13 R K1 (e 0) (e 5) (e 20) (e 21) (e 22) (e 23) w) → (thenE (W24 k24_13 Q) Q) .normal e w := fun e w h => then_N (s24_13 (R := R) (Q := Q) (K1 := K1) hN hR hX0 e w h)
  exact rgA 5 (fun e w => m24_13 R K1 (e 0) (e 5) (e 20) (e 21) (e 22) (e 23) w) h hN
theorem s24_11 {R : VP} {Q : EQ} (hN : ∀ e w, (m24_4 R (e 0) (e 5) w) → Q .normal e w) (hR : ∀ e w, (R (e 4) w) → Q .ret e w) (e : Env) (w : World) (h : m24_11 R (e 0) (e 5) (e 20) (e 21) (e 22) w) : W24 k24_11 Q e w := by
  unfold m24_11 at h
  refine block_ok 0 (by kernel_rfl) ?_
  have hX0 : ∀ e w, (m24_4 R (e 0) (e 5) w) → (inBlockE 0 Q) (.exit 0) e w := fun e w h => inBlock_same (Q := Q) 0 (hN e w h)
  have hR : ∀ e w, (R (e 4) w) → (inBlockE 0 Q) .ret e w := fun e w h => block_R (hR e w h)
  refine loop_ok' (fun (e : Env) => (e 5, e 22)) [0, 20, 21] (by kernel_rfl) (by kernel_rfl) h (fun K e' w' hk h' => ?_)
  have r0 : e' 0 = e 0 := hk 0 (by decide)
  have r20 : e' 20 = e 20 := hk 20 (by decide)
  have r21 : e' 21 = e 21 := hk 21 (by decide)
  have hR : ∀ e w, (R (e 4) w) → (thenE (fun (e : Env) w => K ((e 5), (e 22)) w) (inBlockE 0 Q)) .ret e w := fun e w h => then_R (hR e w h)
  have hX0 : ∀ e w, (m24_4 R (e 0) (e 5) w) → (thenE (fun (e : Env) w => K ((e 5), (e 22)) w) (inBlockE 0 Q)) (.exit 0) e w := fun e w h => then_X (hX0 e w h)
  exact s24_12 (R := R) (Q := (thenE (fun (e : Env) w => K ((e 5), (e 22)) w) (inBlockE 0 Q))) (K1 := K) (fun _ _ h => then_N h) hR hX0 e' w' (by rw [r0, r20, r21]; exact h')
theorem s24_3 {R : VP} {Q : EQ} (hR : ∀ e w, (R (e 4) w) → Q .ret e w) (e : Env) (w : World) (h : m24_3 R (e 0) (e 1) (e 5) w) : W24 k24_3 Q e w := by
  unfold m24_3 at h
  refine seA ?_
  have hN : ∀ e w, (m24_4 R (e 0) (e 5) w) → (thenE (W24 k24_4 Q) Q) .normal e w := fun e w h => then_N (s24_4 (R := R) (Q := Q) hR e w h)
  have hR : ∀ e w, (R (e 4) w) → (thenE (W24 k24_4 Q) Q) .ret e w := fun e w h => then_R (hR e w h)
  refine seA ?_
  have hN : ∀ e w, (m24_11 R (e 0) (e 5) (e 20) (e 21) (e 22) w) → (thenE (W24 k24_11 (thenE (W24 k24_4 Q) Q)) (thenE (W24 k24_4 Q) Q)) .normal e w := fun e w h => then_N (s24_11 (R := R) (Q := (thenE (W24 k24_4 Q) Q)) hN hR e w h)
  exact rgA 4 (fun e w => m24_11 R (e 0) (e 5) (e 20) (e 21) (e 22) w) h hN
theorem s24_2 {R : VP} {Q : EQ} (hR : ∀ e w, (R (e 4) w) → Q .ret e w) (e : Env) (w : World) (h : m24_2 R (e 0) (e 1) w) : W24 k24_2 Q e w := by
  unfold m24_2 at h
  refine seA ?_
  have hN : ∀ e w, (m24_3 R (e 0) (e 1) (e 5) w) → (thenE (W24 k24_3 Q) Q) .normal e w := fun e w h => then_N (s24_3 (R := R) (Q := Q) hR e w h)
  exact rgA 3 (fun e w => m24_3 R (e 0) (e 1) (e 5) w) h hN
theorem s24_22 {R : VP} {Q : EQ} (hN : ∀ e w, (m24_2 R (e 0) (e 1) w) → Q .normal e w) (hR : ∀ e w, (R (e 4) w) → Q .ret e w) (e : Env) (w : World) (h : m24_22 R (e 0) (e 1) (e 14) w) : W24 k24_22 Q e w := by
  unfold m24_22 at h
  refine coA (Operand.tmp 14) h (fun h1 => ?_) (fun h1 => ?_)
  · refine seA ?_
    have hN : ∀ e w, (m24_23 R (e 4) w) → (thenE (W24 k24_23 Q) Q) .normal e w := fun e w h => then_N (s24_23 (R := R) (Q := Q) hR e w h)
    exact rgA 2 (fun e w => m24_23 R (e 4) w) h1 hN
  · exact skA (hN _ _ h1)
theorem s24_1 {R : VP} {Q : EQ} (hR : ∀ e w, (R (e 4) w) → Q .ret e w) (e : Env) (w : World) (h : m24_1 R (e 0) (e 1) w) : W24 k24_1 Q e w := by
  unfold m24_1 at h
  refine seA ?_
  have hN : ∀ e w, (m24_2 R (e 0) (e 1) w) → (thenE (W24 k24_2 Q) Q) .normal e w := fun e w h => then_N (s24_2 (R := R) (Q := Q) hR e w h)
  have hR : ∀ e w, (R (e 4) w) → (thenE (W24 k24_2 Q) Q) .ret e w := fun e w h => then_R (hR e w h)
  refine seA ?_
  have hN : ∀ e w, (m24_22 R (e 0) (e 1) (e 14) w) → (thenE (W24 k24_22 (thenE (W24 k24_2 Q) Q)) (thenE (W24 k24_2 Q) Q)) .normal e w := fun e w h => then_N (s24_22 (R := R) (Q := (thenE (W24 k24_2 Q) Q)) hN hR e w h)
  exact rgA 1 (fun e w => m24_22 R (e 0) (e 1) (e 14) w) h hN
theorem s24_0 {R : VP} {Q : EQ} (hR : ∀ e w, (R (e 4) w) → Q .ret e w) (e : Env) (w : World) (h : m24_0 R (e 0) (e 1) w) : W24 k24_0 Q e w := by
  unfold m24_0 at h
  refine seA ?_
  have hN : ∀ e w, (m24_1 R (e 0) (e 1) w) → (thenE (W24 k24_1 Q) Q) .normal e w := fun e w h => then_N (s24_1 (R := R) (Q := Q) hR e w h)
  exact rgA 0 (fun e w => m24_1 R (e 0) (e 1) w) h hN
abbrev m24 (R : VP) (c0 members1 : Value) (w : World) : Prop := m24_0 R c0 members1 w
theorem s24 (c0 members1 : Value) {R : VP} {w : World} (h : m24 R c0 members1 w) :
    Calls Try.prog 24 #[c0, members1] w fun e w' => ∃ v, e = .returned v ∧ R v w' :=
  calls_of_cwp (st := (fun i => 0)) (c := k24_0) (by kernel_rfl) Try.func24 (by kernel_rfl) (Nat.le_of_ble_eq_true (by kernel_rfl)) (by kernel_rfl)
    (s24_0 (R := R) (Q := endE Try.prog Try.f24 R) (fun e w h => kcast (by kernel_rfl) h) (argsE #[c0, members1]) w (kcast (by kernel_rfl) h))
/-! ### (*headgate/coop.Coop).Revoke -/
def m25_14 (R : VP) (t4 t5 : Value) (w : World) : Prop :=
  R (Value.tuple #[t4, t5]) w
def m25_10 (R : VP) (K1 : (Value × Value) → World → Prop) (c0 m1 l6 t20 t21 t22 : Value) (w : World) : Prop :=
  valP Try.prog (binS BinOp.add 3 (Operand.tmp 22) (Operand.const (Value.int IntKind.i64 1)) t22 (Value.int IntKind.i64 1)) w fun t45 w =>
  K1 (l6, t45) w
def m25_12 (R : VP) (K1 : (Value × Value) → World → Prop) (c0 m1 l6 p7 t20 t21 t22 t40 : Value) (w : World) : Prop :=
  condP t40
  (valP Try.prog (Instr.buildSlice 28 1 #[(0, p7)]) w fun t43 w =>
  builtinP Try.prog Builtin.append #[28, 28] 28 #[false, false] #[l6, t43] w fun t44 w =>
  m25_10 R K1 c0 m1 t44 t20 t21 t22 w)
  (m25_10 R K1 c0 m1 l6 t20 t21 t22 w)
def m25_11 (R : VP) (K1 : (Value × Value) → World → Prop) (c0 m1 l6 p7 x8 t20 t21 t22 : Value) (w : World) : Prop :=
  valP Try.prog (binS BinOp.eql 3 (Operand.tmp 27) (Operand.tmp 28) x8 m1) w fun t29 w =>
  condP t29
  (nilCheckP c0 fun t32 =>
  valP Try.prog (Instr.fieldAt 94 t32 3) w fun t33 w =>
  valP Try.prog (Instr.loadAt 28 t33) w fun t34 w =>
  valP Try.prog (Instr.indexAt 28 t34 p7) w fun t36 w =>
  valP Try.prog (Instr.loadAt 3 t36) w fun t37 w =>
  valP Try.prog (binS BinOp.neq 3 (Operand.tmp 37) (Operand.tmp 38) t37 m1) w fun t39 w =>
  pickP t29 t39 (Value.bool false) fun t40 =>
  m25_12 R K1 c0 m1 l6 p7 t20 t21 t22 t40 w)
  (pickP t29 undef (Value.bool false) fun t40 =>
  m25_12 R K1 c0 m1 l6 p7 t20 t21 t22 t40 w)
def m25_9 (R : VP) (K1 : (Value × Value) → World → Prop) (c0 m1 l6 t20 t21 t22 : Value) (w : World) : Prop :=
  valP Try.prog (Instr.indexAt 28 t20 t22) w fun t25 w =>
  valP Try.prog (Instr.loadAt 3 t25) w fun t26 w =>
  m25_11 R K1 c0 m1 l6 t22 t26 t20 t21 t22 w
def m25_5 (R : VP) (t4 t5 : Value) (w : World) : Prop :=
  R (Value.tuple #[t4, t5]) w
def m25_4 (R : VP) (l6 : Value) (w : World) : Prop :=
  m25_5 R l6 (Value.int IntKind.i64 0) w
def m25_8 (R : VP) (K1 : (Value × Value) → World → Prop) (c0 m1 l6 t20 t21 t22 t23 : Value) (w : World) : Prop :=
  condP t23
  (m25_9 R K1 c0 m1 l6 t20 t21 t22 w)
  (m25_4 R l6 w)
def m25_7 (R : VP) (K1 : (Value × Value) → World → Prop) (c0 m1 l6 t20 t21 t22 : Value) (w : World) : Prop :=
  valP Try.prog (binS BinOp.lss 3 (Operand.tmp 22) (Operand.tmp 21) t22 t21) w fun t23 w =>
  m25_8 R K1 c0 m1 l6 t20 t21 t22 t23 w
def m25_6 (R : VP) (c0 m1 l6 t20 t21 t22 : Value) (w : World) : Prop :=
  loopP (fun (K1 : (Value × Value) → World → Prop) (s : Value × Value) w => m25_7 R K1 c0 m1 s.1 t20 t21 s.2 w) (l6, t22) w
def m25_3 (R : VP) (c0 m1 l6 : Value) (w : World) : Prop :=
  nilCheckP c0 fun t18 =>
  valP Try.prog (Instr.fieldAt 94 t18 2) w fun t19 w =>
  valP Try.prog (Instr.loadAt 28 t19) w fun t20 w =>
  builtinP Try.prog Builtin.len #[28] 3 #[false] #[t20] w fun t21 w =>
  m25_6 R c0 m1 l6 t20 t21 (Value.int IntKind.i64 0) w
def m25_2 (R : VP) (c0 m1 : Value) (w : World) : Prop :=
  m25_3 R c0 m1 (Value.slice none 0 0) w
def m25_13 (R : VP) (c0 m1 t16 : Value) (w : World) : Prop :=
  condP t16
  (m25_14 R (Value.slice none 0 0) (Value.int IntKind.i64 11) w)
  (m25_2 R c0 m1 w)
def m25_1 (R : VP) (c0 m1 : Value) (w : World) : Prop :=
  valP Try.prog (binS BinOp.eql 23 (Operand.tmp 9) (Operand.const (Value.pointer none)) c0 (Value.pointer none)) w fun t10 w =>
  condP t10
  (pickP t10 (Value.bool true) undef fun t16 =>
  m25_13 R c0 m1 t16 w)
  (callP Try.prog (fnV 61) #[c0, m1] w fun t14 w =>
  valP Try.prog (Op.unary UnOp.not t14) w fun t15 w =>
  pickP t10 (Value.bool true) t15 fun t16 =>
  m25_13 R c0 m1 t16 w)
def m25_0 (R : VP) (c0 m1 : Value) (w : World) : Prop :=
  m25_1 R c0 m1 w
abbrev W25 := cwp Try.prog (fun i => 0)
noncomputable def k25_0 : Code := (bodyOf Try.f25)
noncomputable def k25_1 : Code := (c2 k25_0)
noncomputable def k25_2 : Code := (c2 k25_1)
noncomputable def k25_3 : Code := (c2 k25_2)
noncomputable def k25_4 : Code := (c2 k25_3)
noncomputable def k25_5 : Code := (c2 k25_4)
noncomputable def k25_6 : Code := (c2 (c1 k25_3))
noncomputable def k25_7 : Code := (c1 (c1 k25_6))
noncomputable def k25_8 : Code := (c2 k25_7)
noncomputable def k25_9 : Code := (c2 k25_8)
noncomputable def k25_10 : Code := (c2 k25_9)
noncomputable def k25_11 : Code := (c2 (c1 (c1 k25_9)))
noncomputable def k25_12 : Code := (c2 k25_11)
noncomputable def k25_13 : Code := (c2 (c1 k25_1))
noncomputable def k25_14 : Code := (c2 (c1 k25_13))
theorem s25_14 {R : VP} {Q : EQ} (hR : ∀ e w, (R (Value.tuple #[(e 4), (e 5)]) w) → Q .ret e w) (e : Env) (w : World) (h : m25_14 R (e 4) (e 5) w) : W25 k25_14 Q e w := by
  unfold m25_14 at h
  exact reA (hR _ _ h)
theorem s25_10 {R : VP} {K1 : (Value × Value) → World → Prop} {Q : EQ} (hN : ∀ e w, (K1 ((e 6), (e 22)) w) → Q .normal e w) (e : Env) (w : World) (h : m25_10 R K1 (e 0) (e 1) (e 6) (e 20) (e 21) (e 22) w) : W25 k25_10 Q e w := by
  unfold m25_10 at h
  exact rgA 9 (fun e w => K1 ((e 6), (e 22)) w) h hN
theorem s25_12 {R : VP} {K1 : (Value × Value) → World → Prop} {Q : EQ} (hN : ∀ e w, (m25_10 R K1 (e 0) (e 1) (e 6) (e 20) (e 21) (e 22) w) → Q .normal e w) (e : Env) (w : World) (h : m25_12 R K1 (e 0) (e 1) (e 6) (e 7) (e 20) (e 21) (e 22) (e 40) w) : W25 k25_12 Q e w := by
  unfold m25_12 at h
  refine coA (Operand.tmp 40) h (fun h1 => ?_) (fun h1 => ?_)
  · exact rgA 8 (fun e w => m25_10 R K1 (e 0) (e 1) (e 6) (e 20) (e 21) (e 22) w) h1 hN
  · exact skA (hN _ _ h1)
theorem s25_11 {R : VP} {K1 : (Value × Value) → World → Prop} {Q : EQ} (hN : ∀ e w, (m25_10 R K1 (e 0) (e 1) (e 6) (e 20) (e 21) (e 22) w) → Q .normal e w) (e : Env) (w : World) (h : m25_11 R K1 (e 0) (e 1) (e 6) (e 7) (e 8) (e 20) (e 21) (e 22) w) : W25 k25_11 Q e w := by
  unfold m25_11 at h
  refine seA ?_
  have hN : ∀ e w, (m25_12 R K1 (e 0) (e 1) (e 6) (e 7) (e 20) (e 21) (e 22) (e 40) w) → (thenE (W25 k25_12 Q) Q) .normal e w := fun e w h => then_N (s25_12 (R := R) (Q := Q) (K1 := K1) hN e w h)
  exact rgA 7 (fun e w => m25_12 R K1 (e 0) (e 1) (e 6) (e 7) (e 20) (e 21) (e 22) (e 40) w) h hN
theorem s25_9 {R : VP} {K1 : (Value × Value) → World → Prop} {Q : EQ} (hN : ∀ e w, (K1 ((e 6), (e 22)) w) → Q .normal e w) (e : Env) (w : World) (h : m25_9 R K1 (e 0) (e 1) (e 6) (e 20) (e 21) (e 22) w) : W25 k25_9 Q e w := by
  unfold m25_9 at h
  refine seA ?_
  have hN : ∀ e w, (m25_10 R K1 (e 0) (e 1) (e 6) (e 20) (e 21) (e 22) w) → (thenE (W25 k25_10 Q) Q) .normal e w := fun e w h => then_N (s25_10 (R := R) (Q := Q) (K1 := K1) hN e w h)
  refine block_ok 1 (by kernel_rfl) ?_
  have hN : ∀ e w, (m25_10 R K1 (e 0) (e 1) (e 6) (e 20) (e 21) (e 22) w) → (inBlockE 1 (thenE (W25 k25_10 Q) Q)) .normal e w := fun e w h => block_N (hN e w h)
  refine seA ?_
  have hN : ∀ e w, (m25_11 R K1 (e 0) (e 1) (e 6) (e 7) (e 8) (e 20) (e 21) (e 22) w) → (thenE (W25 k25_11 (inBlockE 1 (thenE (W25 k25_10 Q) Q))) (inBlockE 1 (thenE (W25 k25_10 Q) Q))) .normal e w := fun e w h => then_N (s25_11 (R := R) (Q := (inBlockE 1 (thenE (W25 k25_10 Q) Q))) (K1 := K1) hN e w h)
  exact rgA 6 (fun e w => m25_11 R K1 (e 0) (e 1) (e 6) (e 7) (e 8) (e 20) (e 21) (e 22) w) h hN
theorem s25_5 {R : VP} {Q : EQ} (hR : ∀ e w, (R (Value.tuple #[(e 4), (e 5)]) w) → Q .ret e w) (e : Env) (w : World) (h : m25_5 R (e 4) (e 5) w) : W25 k25_5 Q e w := by
  unfold m25_5 at h
  exact reA (hR _ _ h)
theorem s25_4 {R : VP} {Q : EQ} (hR : ∀ e w, (R (Value.tuple #[(e 4), (e 5)]) w) → Q .ret e w) (e : Env) (w : World) (h : m25_4 R (e 6) w) : W25 k25_4 Q e w := by
  unfold m25_4 at h
  refine seA ?_
  have hN : ∀ e w, (m25_5 R (e 4) (e 5) w) → (thenE (W25 k25_5 Q) Q) .normal e w := fun e w h => then_N (s25_5 (R := R) (Q := Q) hR e w h)
  exact rgA 10 (fun e w => m25_5 R (e 4) (e 5) w) h hN
theorem s25_8 {R : VP} {K1 : (Value × Value) → World → Prop} {Q : EQ} (hN : ∀ e w, (K1 ((e 6), (e 22)) w) → Q .normal e w) (hX0 : ∀ e w, (m25_4 R (e 6) w) → Q (.exit 0) e w) (e : Env) (w : World) (h : m25_8 R K1 (e 0) (e 1) (e 6) (e 20) (e 21) (e 22) (e 23) w) : W25 k25_8 Q e w := by
  unfold m25_8 at h
  refine seA ?_
  have hN : ∀ e w, (m25_9 R K1 (e 0) (e 1) (e 6) (e 20) (e 21) (e 22) w) → (thenE (W25 k25_9 Q) Q) .normal e w := fun e w h => then_N (s25_9 (R := R) (Q := Q) (K1 := K1) hN e w h)
  have hX0 : ∀ e w, (m25_4 R (e 6) w) → (thenE (W25 k25_9 Q) Q) (.exit 0) e w := fun e w h => then_X (hX0 e w h)
  refine coA (Operand.tmp 23) h (fun h1 => ?_) (fun h1 => ?_)
  · exact skA (hN _ _ h1)
  · exact exA 0 (hX0 _ _ h1)
theorem s25_7 {R : VP} {K1 : (Value × Value) → World → Prop} {Q : EQ} (hN : ∀ e w, (K1 ((e 6), (e 22)) w) → Q .normal e w) (hX0 : ∀ e w, (m25_4 R (e 6) w) → Q (.exit 0) e w) (e : Env) (w : World) (h : m25_7 R K1 (e 0) (e 1) (e 6) (e 20) (e 21) (e 22) w) : W25 k25_7 Q e w := by
  unfold m25_7 at h
  refine seA ?_
  have hN : ∀ e w, (m25_8 R K1 (e 0) (e 1) (e 6) (e 20) (e 21) (e 22) (e 23) w) → (thenE (W25 k25_8 Q) Q) .normal e w := fun e w h => then_N (s25_8 (R := R) (Q := Q) (K1 := K1) hN hX0 e w h)
  exact rgA 5 (fun e w => m25_8 R K1 (e 0) (e 1) (e 6) (e 20) (e 21) (e 22) (e 23) w) h hN
theorem s25_6 {R : VP} {Q : EQ} (hN : ∀ e w, (m25_4 R (e 6) w) → Q .normal e w) (e : Env) (w : World) (h : m25_6 R (e 0) (e 1) (e 6) (e 20) (e 21) (e 22) w) : W25 k25_6 Q e w := by
  unfold m25_6 at h
  refine block_ok 0 (by kernel_rfl) ?_
  have hX0 : ∀ e w, (m25_4 R (e 6) w) → (inBlockE 0 Q) (.exit 0) e w := fun e w h => inBlock_same (Q := Q) 0 (hN e w h)
  refine loop_ok' (fun (e : Env) => (e 6, e 22)) [0, 1, 20, 21] (by kernel_rfl) (by kernel_rfl) h (fun K e' w' hk h' => ?_)
  have r0 : e' 0 = e 0 := hk 0 (by decide)
  have r1 : e' 1 = e 1 := hk 1 (by decide)
  have r20 : e' 20 = e 20 := hk 20 (by decide)
  have r21 : e' 21 = e 21 := hk 21 (by decide)
  have hX0 : ∀ e w, (m25_4 R (e 6) w) → (thenE (fun (e : Env) w => K ((e 6), (e 22)) w) (inBlockE 0 Q)) (.exit 0) e w := fun e w h => then_X (hX0 e w h)
  exact s25_7 (R := R) (Q := (thenE (fun (e : Env) w => K ((e 6), (e 22)) w) (inBlockE 0 Q))) (K1 := K) (fun _ _ h => then_N h) hX0 e' w' (by rw [r0, r1, r20, r21]; exact h')
theorem s25_3 {R : VP} {Q : EQ} (hR : ∀ e w, (R (Value.tuple #[(e 4), (e 5)]) w) → Q .ret e w) (e : Env) (w : World) (h : m25_3 R (e 0) (e 1) (e 6) w) : W25 k25_3 Q e w := by
  unfold m25_3 at h
  refine seA ?_
  have hN : ∀ e w, (m25_4 R (e 6) w) → (thenE (W25 k25_4 Q) Q) .normal e w := fun e w h => then_N (s25_4 (R := R) (Q := Q) hR e w h)
  refine seA ?_
  have hN : ∀ e w, (m25_6 R (e 0) (e 1) (e 6) (e 20) (e 21) (e 22) w) → (thenE (W25 k25_6 (thenE (W25 k25_4 Q) Q)) (thenE (W25 k25_4 Q) Q)) .normal e w := fun e w h => then_N (s25_6 (R := R) (Q := (thenE (W25 k25_4 Q) Q)) hN e w h)
  exact rgA 4 (fun e w => m25_6 R (e 0) (e 1) (e 6) (e 20) (e 21) (e 22) w) h hN
theorem s25_2 {R : VP} {Q : EQ} (hR : ∀ e w, (R (Value.tuple #[(e 4), (e 5)]) w) → Q .ret e w) (e : Env) (w : World) (h : m25_2 R (e 0) (e 1) w) : W25 k25_2 Q e w := by
  unfold m25_2 at h
  refine seA ?_
  have hN : ∀ e w, (m25_3 R (e 0) (e 1) (e 6) w) → (thenE (W25 k25_3 Q) Q) .normal e w := fun e w h => then_N (s25_3 (R := R) (Q := Q) hR e w h)
  exact rgA 3 (fun e w => m25_3 R (e 0) (e 1) (e 6) w) h hN
theorem s25_13 {R : VP} {Q : EQ} (hN : ∀ e w, (m25_2 R (e 0) (e 1) w) → Q .normal e w) (hR : ∀ e w, (R (Value.tuple #[(e 4), (e 5)]) w) → Q .ret e w) (e : Env) (w : World) (h : m25_13 R (e 0) (e 1) (e 16) w) : W25 k25_13 Q e w := by
  unfold m25_13 at h
  refine coA (Operand.tmp 16) h (fun h1 => ?_) (fun h1 => ?_)
  · refine seA ?_
    have hN : ∀ e w, (m25_14 R (e 4) (e 5) w) → (thenE (W25 k25_14 Q) Q) .normal e w := fun e w h => then_N (s25_14 (R := R) (Q := Q) hR e w h)
    exact rgA 2 (fun e w => m25_14 R (e 4) (e 5) w) h1 hN
  · exact skA (hN _ _ h1)
theorem s25_1 {R : VP} {Q : EQ} (hR : ∀ e w, (R (Value.tuple #[(e 4), (e 5)]) w) → Q .ret e w) (e : Env) (w : World) (h : m25_1 R (e 0) (e 1) w) : W25 k25_1 Q e w := by
  unfold m25_1 at h
  refine seA ?_
  have hN : ∀ e w, (m25_2 R (e 0) (e 1) w) → (thenE (W25 k25_2 Q) Q) .normal e w := fun e w h => then_N (s25_2 (R := R) (Q := Q) hR e w h)
  have hR : ∀ e w, (R (Value.tuple #[(e 4), (e 5)]) w) → (thenE (W25 k25_2 Q) Q) .ret e w := fun e w h => then_R (hR e w h)
  refine seA ?_
  have hN : ∀ e w, (m25_13 R (e 0) (e 1) (e 16) w) → (thenE (W25 k25_13 (thenE (W25 k25_2 Q) Q)) (thenE (W25 k25_2 Q) Q)) .normal e w := fun e w h => then_N (s25_13 (R := R) (Q := (thenE (W25 k25_2 Q) Q)) hN hR e w h)
  exact rgA 1 (fun e w => m25_13 R (e 0) (e 1) (e 16) w) h hN
theorem s25_0 {R : VP} {Q : EQ} (hR : ∀ e w, (R (Value.tuple #[(e 4), (e 5)]) w) → Q .ret e w) (e : Env) (w : World) (h : m25_0 R (e 0) (e 1) w) : W25 k25_0 Q e w := by
  unfold m25_0 at h
  refine seA ?_
  have hN : ∀ e w, (m25_1 R (e 0) (e 1) w) → (thenE (W25 k25_1 Q) Q) .normal e w := fun e w h => then_N (s25_1 (R := R) (Q := Q) hR e w h)
  exact rgA 0 (fun e w => m25_1 R (e 0) (e 1) w) h hN
abbrev m25 (R : VP) (c0 m1 : Value) (w : World) : Prop := m25_0 R c0 m1 w
theorem s25 (c0 m1 : Value) {R : VP} {w : World} (h : m25 R c0 m1 w) :
    Calls Try.prog 25 #[c0, m1] w fun e w' => ∃ v, e = .returned v ∧ R v w' :=
  calls_of_cwp (st := (fun i => 0)) (c := k25_0) (by kernel_rfl) Try.func25 (by kernel_rfl) (Nat.le_of_ble_eq_true (by kernel_rfl)) (by kernel_rfl)
    (s25_0 (R := R) (Q := endE Try.prog Try.f25 R) (fun e w h => kcast (by kernel_rfl) h) (argsE #[c0, m1]) w (kcast (by kernel_rfl) h))
/-! ### (*headgate/coop.Coop).Leave -/
def m29_7 (R : VP) (t4 : Value) (w : World) : Prop :=
  R t4 w
def m29_5 (R : VP) (t4 : Value) (w : World) : Prop :=
  R t4 w
def m29_4 (R : VP) (w : World) : Prop :=
  m29_5 R (Value.int IntKind.i64 0) w
def m29_3 (R : VP) (c0 : Value) (w : World) : Prop :=
  callP Try.prog (fnV 60) #[c0] w fun t23 w =>
  m29_4 R w
def m29_2 (R : VP) (c0 m3 : Value) (w : World) : Prop :=
  nilCheckP c0 fun t15 =>
  valP Try.prog (Instr.fieldAt 94 t15 1) w fun t16 w =>
  valP Try.prog (Instr.loadAt 28 t16) w fun t17 w =>
  valP Try.prog (Instr.makeFunc (Fn.func 66) #[] #[m3]) w fun t18 w =>
  callP Try.prog (fnV 65) #[t17, t18] w fun t19 w =>
  nilCheckP c0 fun t20 =>
  valP Try.prog (Instr.fieldAt 94 t20 1) w fun t21 w =>
  unitP Try.prog (Instr.storeAt 28 t21 t19) w fun _ w =>
  m29_3 R c0 w
def m29_6 (R : VP) (c0 m3 t12 : Value) (w : World) : Prop :=
  condP t12
  (m29_7 R (Value.int IntKind.i64 11) w)
  (m29_2 R c0 m3 w)
def m29_1 (R : VP) (c0 m3 : Value) (w : World) : Prop :=
  valP Try.prog (binS BinOp.eql 23 (Operand.tmp 5) (Operand.const (Value.pointer none)) c0 (Value.pointer none)) w fun t6 w =>
  condP t6
  (pickP t6 (Value.bool true) undef fun t12 =>
  m29_6 R c0 m3 t12 w)
  (valP Try.prog (Instr.loadAt 3 m3) w fun t9 w =>
  callP Try.prog (fnV 61) #[c0, t9] w fun t10 w =>
  valP Try.prog (Op.unary UnOp.not t10) w fun t11 w =>
  pickP t6 (Value.bool true) t11 fun t12 =>
  m29_6 R c0 m3 t12 w)
def m29_0 (R : VP) (c0 m1 : Value) (w : World) : Prop :=
  valP Try.prog (Instr.box 3 m1) w fun m3 w =>
  m29_1 R c0 m3 w
abbrev W29 := cwp Try.prog (fun i => 0)
noncomputable def k29_0 : Code := (bodyOf Try.f29)
noncomputable def k29_1 : Code := (c2 k29_0)
noncomputable def k29_2 : Code := (c2 k29_1)
noncomputable def k29_3 : Code := (c2 k29_2)
noncomputable def k29_4 : Code := (c2 k29_3)
noncomputable def k29_5 : Code := (c2 k29_4)
noncomputable def k29_6 : Code := (c2 (c1 k29_1))
noncomputable def k29_7 : Code := (c2 (c1 k29_6))
theorem s29_7 {R : VP} {Q : EQ} (hR : ∀ e w, (R (e 4) w) → Q .ret e w) (e : Env) (w : World) (h : m29_7 R (e 4) w) : W29 k29_7 Q e w := by
  unfold m29_7 at h
  exact reA (hR _ _ h)
theorem s29_5 {R : VP} {Q : EQ} (hR : ∀ e w, (R (e 4) w) → Q .ret e w) (e : Env) (w : World) (h : m29_5 R (e 4) w) : W29 k29_5 Q e w := by
  unfold m29_5 at h
  exact reA (hR _ _ h)
theorem s29_4 {R : VP} {Q : EQ} (hR : ∀ e w, (R (e 4) w) → Q .ret e w) (e : Env) (w : World) (h : m29_4 R w) : W29 k29_4 Q e w := by
  unfold m29_4 at h
  refine seA ?_
  have hN : ∀ e w, (m29_5 R (e 4) w) → (thenE (W29 k29_5 Q) Q) .normal e w := fun e w h => then_N (s29_5 (R := R) (Q := Q) hR e w h)
  exact rgA 5 (fun e w => m29_5 R (e 4) w) h hN
theorem s29_3 {R : VP} {Q : EQ} (hR : ∀ e w, (R (e 4) w) → Q .ret e w) (e : Env) (w : World) (h : m29_3 R (e 0) w) : W29 k29_3 Q e w := by
  unfold m29_3 at h
  refine seA ?_
  have hN : ∀ e w, (m29_4 R w) → (thenE (W29 k29_4 Q) Q) .normal e w := fun e w h => then_N (s29_4 (R := R) (Q := Q) hR e w h)
  exact rgA 4 (fun e w => m29_4 R w) h hN
theorem s29_2 {R : VP} {Q : EQ} (hR : ∀ e w, (R (e 4) w) → Q .ret e w) (e : Env) (w : World) (h : m29_2 R (e 0) (e 3) w) : W29 k29_2 Q e w := by
  unfold m29_2 at h
  refine seA ?_
  have hN : ∀ e w, (m29_3 R (e 0) w) → (thenE (W29 k29_3 Q) Q) .normal e w := fun e w h => then_N (s29_3 (R := R) (Q := Q) hR e w h)
  exact rgA 3 (fun e w => m29_3 R (e 0) w) h hN
theorem s29_6 {R : VP} {Q : EQ} (hN : ∀ e w, (m29_2 R (e 0) (e 3) w) → Q .normal e w) (hR : ∀ e w, (R (e 4) w) → Q .ret e w) (e : Env) (w : World) (h : m29_6 R (e 0) (e 3) (e 12) w) : W29 k29_6 Q e w := by
  unfold m29_6 at h
  refine coA (Operand.tmp 12) h (fun h1 => ?_) (fun h1 => ?_)
  · refine seA ?_
    have hN : ∀ e w, (m29_7 R (e 4) w) → (thenE (W29 k29_7 Q) Q) .normal e w := fun e w h => then_N (s29_7 (R := R) (Q := Q) hR e w h)
    exact rgA 2 (fun e w => m29_7 R (e 4) w) h1 hN
  · exact skA (hN _ _ h1)
theorem s29_1 {R : VP} {Q : EQ} (hR : ∀ e w, (R (e 4) w) → Q .ret e w) (e : Env) (w : World) (h : m29_1 R (e 0) (e 3) w) : W29 k29_1 Q e w := by
  unfold m29_1 at h
  refine seA ?_
  have hN : ∀ e w, (m29_2 R (e 0) (e 3) w) → (thenE (W29 k29_2 Q) Q) .normal e w := fun e w h => then_N (s29_2 (R := R) (Q := Q) hR e w h)
  have hR : ∀ e w, (R (e 4) w) → (thenE (W29 k29_2 Q) Q) .ret e w := fun e w h => then_R (hR e w h)
  refine seA ?_
  have hN : ∀ e w, (m29_6 R (e 0) (e 3) (e 12) w) → (thenE (W29 k29_6 (thenE (W29 k29_2 Q) Q)) (thenE (W29 k29_2 Q) Q)) .normal e w := fun e w h => then_N (s29_6 (R := R) (Q := (thenE (W29 k29_2 Q) Q)) hN hR e w h)
  exact rgA 1 (fun e w => m29_6 R (e 0) (e 3) (e 12) w) h hN
theorem s29_0 {R : VP} {Q : EQ} (hR : ∀ e w, (R (e 4) w) → Q .ret e w) (e : Env) (w : World) (h : m29_0 R (e 0) (e 1) w) : W29 k29_0 Q e w := by
  unfold m29_0 at h
  refine seA ?_
  have hN : ∀ e w, (m29_1 R (e 0) (e 3) w) → (thenE (W29 k29_1 Q) Q) .normal e w := fun e w h => then_N (s29_1 (R := R) (Q := Q) hR e w h)
  exact rgA 0 (fun e w => m29_1 R (e 0) (e 3) w) h hN
abbrev m29 (R : VP) (c0 m1 : Value) (w : World) : Prop := m29_0 R c0 m1 w
theorem s29 (c0 m1 : Value) {R : VP} {w : World} (h : m29 R c0 m1 w) :
    Calls Try.prog 29 #[c0, m1] w fun e w' => ∃ v, e = .returned v ∧ R v w' :=
  calls_of_cwp (st := (fun i => 0)) (c := k29_0) (by kernel_rfl) Try.func29 (by kernel_rfl) (Nat.le_of_ble_eq_true (by kernel_rfl)) (by kernel_rfl)
    (s29_0 (R := R) (Q := endE Try.prog Try.f29 R) (fun e w h => kcast (by kernel_rfl) h) (argsE #[c0, m1]) w (kcast (by kernel_rfl) h))
/-! ### (*headgate/coop.Coop).Done -/
def m33_7 (R : VP) (t6 : Value) (w : World) : Prop :=
  R t6 w
def m33_9 (R : VP) (t6 : Value) (w : World) : Prop :=
  R t6 w
def m33_11 (R : VP) (t6 : Value) (w : World) : Prop :=
  R t6 w
def m33_5 (R : VP) (t6 : Value) (w : World) : Prop :=
  R t6 w
def m33_4 (R : VP) (w : World) : Prop :=
  m33_5 R (Value.int IntKind.i64 0) w
def m33_3 (R : VP) (c0 : Value) (w : World) : Prop :=
  callP Try.prog (fnV 67) #[c0] w fun t56 w =>
  m33_4 R w
def m33_2 (R : VP) (c0 p2 : Value) (w : World) : Prop :=
  nilCheckP c0 fun t50 =>
  valP Try.prog (Instr.fieldAt 94 t50 2) w fun t51 w =>
  valP Try.prog (Instr.loadAt 28 t51) w fun t52 w =>
  valP Try.prog (Instr.indexAt 28 t52 p2) w fun t54 w =>
  unitP Try.prog (Instr.storeAt 3 t54 (Value.int IntKind.i64 0)) w fun _ w =>
  m33_3 R c0 w
def m33_10 (R : VP) (c0 p2 t28 : Value) (w : World) : Prop :=
  condP t28
  (m33_11 R (Value.int IntKind.i64 13) w)
  (m33_2 R c0 p2 w)
def m33_8 (R : VP) (c0 m1 p2 t16 : Value) (w : World) : Prop :=
  condP t16
  (m33_9 R (Value.int IntKind.i64 6) w)
  (nilCheckP c0 fun t30 =>
  valP Try.prog (Instr.fieldAt 94 t30 2) w fun t31 w =>
  valP Try.prog (Instr.loadAt 28 t31) w fun t32 w =>
  valP Try.prog (Instr.indexAt 28 t32 p2) w fun t34 w =>
  valP Try.prog (Instr.loadAt 3 t34) w fun t35 w =>
  valP Try.prog (binS BinOp.neq 3 (Operand.tmp 35) (Operand.tmp 36) t35 m1) w fun t37 w =>
  condP t37
  (pickP t37 (Value.bool true) undef fun t48 =>
  m33_10 R c0 p2 t48 w)
  (nilCheckP c0 fun t40 =>
  valP Try.prog (Instr.fieldAt 94 t40 3) w fun t41 w =>
  valP Try.prog (Instr.loadAt 28 t41) w fun t42 w =>
  valP Try.prog (Instr.indexAt 28 t42 p2) w fun t44 w =>
  valP Try.prog (Instr.loadAt 3 t44) w fun t45 w =>
  valP Try.prog (binS BinOp.eql 3 (Operand.tmp 45) (Operand.tmp 46) t45 m1) w fun t47 w =>
  pickP t37 (Value.bool true) t47 fun t48 =>
  m33_10 R c0 p2 t48 w))
def m33_6 (R : VP) (c0 m1 p2 t7 : Value) (w : World) : Prop :=
  condP t7
  (m33_7 R (Value.int IntKind.i64 11) w)
  (valP Try.prog (binS BinOp.lss 3 (Operand.tmp 17) (Operand.const (Value.int IntKind.i64 0)) p2 (Value.int IntKind.i64 0)) w fun t18 w =>
  condP t18
  (pickP t18 (Value.bool true) undef fun t27 =>
  m33_8 R c0 m1 p2 t27 w)
  (nilCheckP c0 fun t22 =>
  valP Try.prog (Instr.fieldAt 94 t22 2) w fun t23 w =>
  valP Try.prog (Instr.loadAt 28 t23) w fun t24 w =>
  builtinP Try.prog Builtin.len #[28] 3 #[false] #[t24] w fun t25 w =>
  valP Try.prog (binS BinOp.geq 3 (Operand.tmp 20) (Operand.tmp 25) p2 t25) w fun t26 w =>
  pickP t18 (Value.bool true) t26 fun t27 =>
  m33_8 R c0 m1 p2 t27 w))
def m33_1 (R : VP) (c0 m1 p2 : Value) (w : World) : Prop :=
  valP Try.prog (binS BinOp.eql 23 (Operand.tmp 8) (Operand.const (Value.pointer none)) c0 (Value.pointer none)) w fun t9 w =>
  condP t9
  (pickP t9 (Value.bool true) undef fun t15 =>
  m33_6 R c0 m1 p2 t15 w)
  (callP Try.prog (fnV 61) #[c0, m1] w fun t13 w =>
  valP Try.prog (Op.unary UnOp.not t13) w fun t14 w =>
  pickP t9 (Value.bool true) t14 fun t15 =>
  m33_6 R c0 m1 p2 t15 w)
def m33_0 (R : VP) (c0 m1 p2 : Value) (w : World) : Prop :=
  m33_1 R c0 m1 p2 w
abbrev W33 := cwp Try.prog (fun i => 0)
noncomputable def k33_0 : Code := (bodyOf Try.f33)
noncomputable def k33_1 : Code := (c2 k33_0)
noncomputable def k33_2 : Code := (c2 k33_1)
noncomputable def k33_3 : Code := (c2 k33_2)
noncomputable def k33_4 : Code := (c2 k33_3)
noncomputable def k33_5 : Code := (c2 k33_4)
noncomputable def k33_6 : Code := (c2 (c1 (c1 k33_1)))
noncomputable def k33_7 : Code := (c2 (c1 k33_6))
noncomputable def k33_8 : Code := (c2 (c2 k33_6))
noncomputable def k33_9 : Code := (c2 (c1 k33_8))
noncomputable def k33_10 : Code := (c2 (c2 k33_8))
noncomputable def k33_11 : Code := (c2 (c1 k33_10))
theorem s33_7 {R : VP} {Q : EQ} (hR : ∀ e w, (R (e 6) w) → Q .ret e w) (e : Env) (w : World) (h : m33_7 R (e 6) w) : W33 k33_7 Q e w := by
  unfold m33_7 at h
  exact reA (hR _ _ h)
theorem s33_9 {R : VP} {Q : EQ} (hR : ∀ e w, (R (e 6) w) → Q .ret e w) (e : Env) (w : World) (h : m33_9 R (e 6) w) : W33 k33_9 Q e w := by
  unfold m33_9 at h
  exact reA (hR _ _ h)
theorem s33_11 {R : VP} {Q : EQ} (hR : ∀ e w, (R (e 6) w) → Q .ret e w) (e : Env) (w : World) (h : m33_11 R (e 6) w) : W33 k33_11 Q e w := by
  unfold m33_11 at h
  exact reA (hR _ _ h)
theorem s33_5 {R : VP} {Q : EQ} (hR : ∀ e w, (R (e 6) w) → Q .ret e w) (e : Env) (w : World) (h : m33_5 R (e 6) w) : W33 k33_5 Q e w := by
  unfold m33_5 at h
  exact reA (hR _ _ h)
theorem s33_4 {R : VP} {Q : EQ} (hR : ∀ e w, (R (e 6) w) → Q .ret e w) (e : Env) (w : World) (h : m33_4 R w) : W33 k33_4 Q e w := by
  unfold m33_4 at h
  refine seA ?_
  have hN : ∀ e w, (m33_5 R (e 6) w) → (thenE (W33 k33_5 Q) Q) .normal e w := fun e w h => then_N (s33_5 (R := R) (Q := Q) hR e w h)
  exact rgA 9 (fun e w => m33_5 R (e 6) w) h hN
theorem s33_3 {R : VP} {Q : EQ} (hR : ∀ e w, (R (e 6) w) → Q .ret e w) (e : Env) (w : World) (h : m33_3 R (e 0) w) : W33 k33_3 Q e w := by
  unfold m33_3 at h
  refine seA ?_
  have hN : ∀ e w, (m33_4 R w) → (thenE (W33 k33_4 Q) Q) .normal e w := fun e w h => then_N (s33_4 (R := R) (Q := Q) hR e w h)
  exact rgA 8 (fun e w => m33_4 R w) h hN
theorem s33_2 {R : VP} {Q : EQ} (hR : ∀ e w, (R (e 6) w) → Q .ret e w) (e : Env) (w : World) (h : m33_2 R (e 0) (e 2) w) : W33 k33_2 Q e w := by
  unfold m33_2 at h
  refine seA ?_
  have hN : ∀ e w, (m33_3 R (e 0) w) → (thenE (W33 k33_3 Q) Q) .normal e w := fun e w h => then_N (s33_3 (R := R) (Q := Q) hR e w h)
  exact rgA 7 (fun e w => m33_3 R (e 0) w) h hN
theorem s33_10 {R : VP} {Q : EQ} (hN : ∀ e w, (m33_2 R (e 0) (e 2) w) → Q .normal e w) (hR : ∀ e w, (R (e 6) w) → Q .ret e w) (e : Env) (w : World) (h : m33_10 R (e 0) (e 2) (e 28) w) : W33 k33_10 Q e w := by
  unfold m33_10 at h
  refine coA (Operand.tmp 28) h (fun h1 => ?_) (fun h1 => ?_)
  · refine seA ?_
    have hN : ∀ e w, (m33_11 R (e 6) w) → (thenE (W33 k33_11 Q) Q) .normal e w := fun e w h => then_N (s33_11 (R := R) (Q := Q) hR e w h)
    exact rgA 6 (fun e w => m33_11 R (e 6) w) h1 hN
  · exact skA (hN _ _ h1)
theorem s33_8 {R : VP} {Q : EQ} (hN : ∀ e w, (m33_2 R (e 0) (e 2) w) → Q .normal e w) (hR : ∀ e w, (R (e 6) w) → Q .ret e w) (e : Env) (w : World) (h : m33_8 R (e 0) (e 1) (e 2) (e 16) w) : W33 k33_8 Q e w := by
  unfold m33_8 at h
  refine coA (Operand.tmp 16) h (fun h1 => ?_) (fun h1 => ?_)
  · refine seA ?_
    have hN : ∀ e w, (m33_9 R (e 6) w) → (thenE (W33 k33_9 Q) Q) .normal e w := fun e w h => then_N (s33_9 (R := R) (Q := Q) hR e w h)
    exact rgA 4 (fun e w => m33_9 R (e 6) w) h1 hN
  · refine seA ?_
    have hN : ∀ e w, (m33_10 R (e 0) (e 2) (e 28) w) → (thenE (W33 k33_10 Q) Q) .normal e w := fun e w h => then_N (s33_10 (R := R) (Q := Q) hN hR e w h)
    exact rgA 5 (fun e w => m33_10 R (e 0) (e 2) (e 28) w) h1 hN
theorem s33_6 {R : VP} {Q : EQ} (hN : ∀ e w, (m33_2 R (e 0) (e 2) w) → Q .normal e w) (hR : ∀ e w, (R (e 6) w) → Q .ret e w) (e : Env) (w : World) (h : m33_6 R (e 0) (e 1) (e 2) (e 7) w) : W33 k33_6 Q e w := by
  unfold m33_6 at h
  refine coA (Operand.tmp 7) h (fun h1 => ?_) (fun h1 => ?_)
  · refine seA ?_
    have hN : ∀ e w, (m33_7 R (e 6) w) → (thenE (W33 k33_7 Q) Q) .normal e w := fun e w h => then_N (s33_7 (R := R) (Q := Q) hR e w h)
    exact rgA 2 (fun e w => m33_7 R (e 6) w) h1 hN
  · refine seA ?_
    have hN : ∀ e w, (m33_8 R (e 0) (e 1) (e 2) (e 16) w) → (thenE (W33 k33_8 Q) Q) .normal e w := fun e w h => then_N (s33_8 (R := R) (Q := Q) hN hR e w h)
    exact rgA 3 (fun e w => m33_8 R (e 0) (e 1) (e 2) (e 16) w) h1 hN
theorem s33_1 {R : VP} {Q : EQ} (hR : ∀ e w, (R (e 6) w) → Q .ret e w) (e : Env) (w : World) (h : m33_1 R (e 0) (e 1) (e 2) w) : W33 k33_1 Q e w := by
  unfold m33_1 at h
  refine seA ?_
  have hN : ∀ e w, (m33_2 R (e 0) (e 2) w) → (thenE (W33 k33_2 Q) Q) .normal e w := fun e w h => then_N (s33_2 (R := R) (Q := Q) hR e w h)
  have hR : ∀ e w, (R (e 6) w) → (thenE (W33 k33_2 Q) Q) .ret e w := fun e w h => then_R (hR e w h)
  refine block_ok 0 (by kernel_rfl) ?_
  have hN : ∀ e w, (m33_2 R (e 0) (e 2) w) → (inBlockE 0 (thenE (W33 k33_2 Q) Q)) .normal e w := fun e w h => block_N (hN e w h)
  have hR : ∀ e w, (R (e 6) w) → (inBlockE 0 (thenE (W33 k33_2 Q) Q)) .ret e w := fun e w h => block_R (hR e w h)
  refine seA ?_
  have hN : ∀ e w, (m33_6 R (e 0) (e 1) (e 2) (e 7) w) → (thenE (W33 k33_6 (inBlockE 0 (thenE (W33 k33_2 Q) Q))) (inBlockE 0 (thenE (W33 k33_2 Q) Q))) .normal e w := fun e w h => then_N (s33_6 (R := R) (Q := (inBlockE 0 (thenE (W33 k33_2 Q) Q))) hN hR e w h)
  exact rgA 1 (fun e w => m33_6 R (e 0) (e 1) (e 2) (e 7) w) h hN
theorem s33_0 {R : VP} {Q : EQ} (hR : ∀ e w, (R (e 6) w) → Q .ret e w) (e : Env) (w : World) (h : m33_0 R (e 0) (e 1) (e 2) w) : W33 k33_0 Q e w := by
  unfold m33_0 at h
  refine seA ?_
  have hN : ∀ e w, (m33_1 R (e 0) (e 1) (e 2) w) → (thenE (W33 k33_1 Q) Q) .normal e w := fun e w h => then_N (s33_1 (R := R) (Q := Q) hR e w h)
  exact rgA 0 (fun e w => m33_1 R (e 0) (e 1) (e 2) w) h hN
abbrev m33 (R : VP) (c0 m1 p2 : Value) (w : World) : Prop := m33_0 R c0 m1 p2 w
theorem s33 (c0 m1 p2 : Value) {R : VP} {w : World} (h : m33 R c0 m1 p2 w) :
    Calls Try.prog 33 #[c0, m1, p2] w fun e w' => ∃ v, e = .returned v ∧ R v w' :=
  calls_of_cwp (st := (fun i => 0)) (c := k33_0) (by kernel_rfl) Try.func33 (by kernel_rfl) (Nat.le_of_ble_eq_true (by kernel_rfl)) (by kernel_rfl)
    (s33_0 (R := R) (Q := endE Try.prog Try.f33 R) (fun e w h => kcast (by kernel_rfl) h) (argsE #[c0, m1, p2]) w (kcast (by kernel_rfl) h))
/-! ### (*headgate/coop.Coop).Gen -/
def m35_5 (R : VP) (t2 : Value) (w : World) : Prop :=
  R t2 w
def m35_3 (R : VP) (t2 : Value) (w : World) : Prop :=
  R t2 w
def m35_2 (R : VP) (c0 : Value) (w : World) : Prop :=
  nilCheckP c0 fun t6 =>
  valP Try.prog (Instr.fieldAt 94 t6 0) w fun t7 w =>
  valP Try.prog (Instr.loadAt 3 t7) w fun t8 w =>
  m35_3 R t8 w
def m35_4 (R : VP) (c0 t4 : Value) (w : World) : Prop :=
  condP t4
  (m35_5 R (Value.int IntKind.i64 0) w)
  (m35_2 R c0 w)
def m35_1 (R : VP) (c0 : Value) (w : World) : Prop :=
  valP Try.prog (binS BinOp.eql 23 (Operand.tmp 3) (Operand.const (Value.pointer none)) c0 (Value.pointer none)) w fun t4 w =>
  m35_4 R c0 t4 w
def m35_0 (R : VP) (c0 : Value) (w : World) : Prop :=
  m35_1 R c0 w
abbrev W35 := cwp Try.prog (fun i => 0)
noncomputable def k35_0 : Code := (bodyOf Try.f35)
noncomputable def k35_1 : Code := (c2 k35_0)
noncomputable def k35_2 : Code := (c2 k35_1)
noncomputable def k35_3 : Code := (c2 k35_2)
noncomputable def k35_4 : Code := (c2 (c1 k35_1))
noncomputable def k35_5 : Code := (c2 (c1 k35_4))
theorem s35_5 {R : VP} {Q : EQ} (hR : ∀ e w, (R (e 2) w) → Q .ret e w) (e : Env) (w : World) (h : m35_5 R (e 2) w) : W35 k35_5 Q e w := by
  unfold m35_5 at h
  exact reA (hR _ _ h)
theorem s35_3 {R : VP} {Q : EQ} (hR : ∀ e w, (R (e 2) w) → Q .ret e w) (e : Env) (w : World) (h : m35_3 R (e 2) w) : W35 k35_3 Q e w := by
  unfold m35_3 at h
  exact reA (hR _ _ h)
theorem s35_2 {R : VP} {Q : EQ} (hR : ∀ e w, (R (e 2) w) → Q .ret e w) (e : Env) (w : World) (h : m35_2 R (e 0) w) : W35 k35_2 Q e w := by
  unfold m35_2 at h
  refine seA ?_
  have hN : ∀ e w, (m35_3 R (e 2) w) → (thenE (W35 k35_3 Q) Q) .normal e w := fun e w h => then_N (s35_3 (R := R) (Q := Q) hR e w h)
  exact rgA 3 (fun e w => m35_3 R (e 2) w) h hN
theorem s35_4 {R : VP} {Q : EQ} (hN : ∀ e w, (m35_2 R (e 0) w) → Q .normal e w) (hR : ∀ e w, (R (e 2) w) → Q .ret e w) (e : Env) (w : World) (h : m35_4 R (e 0) (e 4) w) : W35 k35_4 Q e w := by
  unfold m35_4 at h
  refine coA (Operand.tmp 4) h (fun h1 => ?_) (fun h1 => ?_)
  · refine seA ?_
    have hN : ∀ e w, (m35_5 R (e 2) w) → (thenE (W35 k35_5 Q) Q) .normal e w := fun e w h => then_N (s35_5 (R := R) (Q := Q) hR e w h)
    exact rgA 2 (fun e w => m35_5 R (e 2) w) h1 hN
  · exact skA (hN _ _ h1)
theorem s35_1 {R : VP} {Q : EQ} (hR : ∀ e w, (R (e 2) w) → Q .ret e w) (e : Env) (w : World) (h : m35_1 R (e 0) w) : W35 k35_1 Q e w := by
  unfold m35_1 at h
  refine seA ?_
  have hN : ∀ e w, (m35_2 R (e 0) w) → (thenE (W35 k35_2 Q) Q) .normal e w := fun e w h => then_N (s35_2 (R := R) (Q := Q) hR e w h)
  have hR : ∀ e w, (R (e 2) w) → (thenE (W35 k35_2 Q) Q) .ret e w := fun e w h => then_R (hR e w h)
  refine seA ?_
  have hN : ∀ e w, (m35_4 R (e 0) (e 4) w) → (thenE (W35 k35_4 (thenE (W35 k35_2 Q) Q)) (thenE (W35 k35_2 Q) Q)) .normal e w := fun e w h => then_N (s35_4 (R := R) (Q := (thenE (W35 k35_2 Q) Q)) hN hR e w h)
  exact rgA 1 (fun e w => m35_4 R (e 0) (e 4) w) h hN
theorem s35_0 {R : VP} {Q : EQ} (hR : ∀ e w, (R (e 2) w) → Q .ret e w) (e : Env) (w : World) (h : m35_0 R (e 0) w) : W35 k35_0 Q e w := by
  unfold m35_0 at h
  refine seA ?_
  have hN : ∀ e w, (m35_1 R (e 0) w) → (thenE (W35 k35_1 Q) Q) .normal e w := fun e w h => then_N (s35_1 (R := R) (Q := Q) hR e w h)
  exact rgA 0 (fun e w => m35_1 R (e 0) w) h hN
abbrev m35 (R : VP) (c0 : Value) (w : World) : Prop := m35_0 R c0 w
theorem s35 (c0 : Value) {R : VP} {w : World} (h : m35 R c0 w) :
    Calls Try.prog 35 #[c0] w fun e w' => ∃ v, e = .returned v ∧ R v w' :=
  calls_of_cwp (st := (fun i => 0)) (c := k35_0) (by kernel_rfl) Try.func35 (by kernel_rfl) (Nat.le_of_ble_eq_true (by kernel_rfl)) (by kernel_rfl)
    (s35_0 (R := R) (Q := endE Try.prog Try.f35 R) (fun e w h => kcast (by kernel_rfl) h) (argsE #[c0]) w (kcast (by kernel_rfl) h))
end Go.Proofs.Ytjjmlopmemmobaa.M
