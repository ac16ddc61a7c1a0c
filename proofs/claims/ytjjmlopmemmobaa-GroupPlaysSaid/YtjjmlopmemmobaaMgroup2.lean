/- What functions' texts ask of their ends, told over values that have names; printed by a program of this work. -/
import Derived.Test.YtjjmlopmemmobaaFw
import Derived.Test.YtjjmlopmemmobaaProg
namespace Go.Proofs.Ytjjmlopmemmobaa.M
open Go.Proofs.Ytjjmlopmemmobaa.F
set_option linter.unusedVariables false
set_option maxRecDepth 100000
/-! ### slices.DeleteFunc[[]headgate/api.Member,headgate/api.Member] -/
def m91_16 (R : VP) (t4 : Value) (w : World) : Prop :=
  R t4 w
def m91_10 (R : VP) (K1 : (Value × Value) → World → Prop) (s0 del1 i5 j6 : Value) (w : World) : Prop :=
  valP Try.prog (binS BinOp.add 3 (Operand.tmp 20) (Operand.const (Value.int IntKind.i64 1)) j6 (Value.int IntKind.i64 1)) w fun t21 w =>
  K1 (i5, t21) w
def m91_13 (R : VP) (K1 : (Value × Value) → World → Prop) (s0 del1 i5 j6 : Value) (w : World) : Prop :=
  valP Try.prog (binS BinOp.add 3 (Operand.tmp 34) (Operand.const (Value.int IntKind.i64 1)) i5 (Value.int IntKind.i64 1)) w fun t35 w =>
  m91_10 R K1 s0 del1 t35 j6 w
def m91_12 (R : VP) (K1 : (Value × Value) → World → Prop) (s0 del1 i5 j6 v7 t29 : Value) (w : World) : Prop :=
  condP t29
  (valP Try.prog (Instr.loadAt 69 v7) w fun t32 w =>
  valP Try.prog (Instr.indexAt 66 s0 i5) w fun t33 w =>
  unitP Try.prog (Instr.storeAt 69 t33 t32) w fun _ w =>
  m91_13 R K1 s0 del1 i5 j6 w)
  (m91_10 R K1 s0 del1 i5 j6 w)
def m91_11 (R : VP) (K1 : (Value × Value) → World → Prop) (s0 del1 i5 j6 v7 : Value) (w : World) : Prop :=
  valP Try.prog (Instr.loadAt 69 v7) w fun t27 w =>
  callP Try.prog del1 #[t27] w fun t28 w =>
  valP Try.prog (Op.unary UnOp.not t28) w fun t29 w =>
  m91_12 R K1 s0 del1 i5 j6 v7 t29 w
def m91_9 (R : VP) (K1 : (Value × Value) → World → Prop) (s0 del1 i5 j6 : Value) (w : World) : Prop :=
  valP Try.prog (Instr.indexAt 66 s0 j6) w fun t24 w =>
  valP Try.prog (Instr.loadAt 69 t24) w fun t25 w =>
  valP Try.prog (Instr.alloc 69 true (.tuple #[])) w fun v7 w =>
  unitP Try.prog (Instr.storeAt 69 v7 t25) w fun _ w =>
  m91_11 R K1 s0 del1 i5 j6 v7 w
def m91_6 (R : VP) (t4 : Value) (w : World) : Prop :=
  R t4 w
def m91_5 (R : VP) (s0 i5 : Value) (w : World) : Prop :=
  valP Try.prog (Instr.sliceAt 66 s0 none (some i5) none) w fun t41 w =>
  m91_6 R t41 w
def m91_4 (R : VP) (s0 i5 : Value) (w : World) : Prop :=
  valP Try.prog (Instr.sliceAt 66 s0 (some i5) none none) w fun t38 w =>
  builtinP Try.prog Builtin.clear #[66] 0 #[false] #[t38] w fun _ w =>
  m91_5 R s0 i5 w
def m91_14 (R : VP) (K1 : (Value × Value) → World → Prop) (s0 del1 i5 j6 t19 : Value) (w : World) : Prop :=
  condP t19
  (m91_9 R K1 s0 del1 i5 j6 w)
  (m91_4 R s0 i5 w)
def m91_8 (R : VP) (K1 : (Value × Value) → World → Prop) (s0 del1 i5 j6 : Value) (w : World) : Prop :=
  builtinP Try.prog Builtin.len #[66] 3 #[false] #[s0] w fun t18 w =>
  valP Try.prog (binS BinOp.lss 3 (Operand.tmp 16) (Operand.tmp 18) j6 t18) w fun t19 w =>
  m91_14 R K1 s0 del1 i5 j6 t19 w
def m91_7 (R : VP) (s0 del1 i5 j6 : Value) (w : World) : Prop :=
  loopP (fun (K1 : (Value × Value) → World → Prop) (s : Value × Value) w => m91_8 R K1 s0 del1 s.1 s.2 w) (i5, j6) w
def m91_3 (R : VP) (s0 del1 i5 : Value) (w : World) : Prop :=
  valP Try.prog (binS BinOp.add 3 (Operand.tmp 14) (Operand.const (Value.int IntKind.i64 1)) i5 (Value.int IntKind.i64 1)) w fun t15 w =>
  m91_7 R s0 del1 i5 t15 w
def m91_15 (R : VP) (s0 del1 i5 t12 : Value) (w : World) : Prop :=
  condP t12
  (m91_16 R s0 w)
  (m91_3 R s0 del1 i5 w)
def m91_2 (R : VP) (s0 del1 i5 : Value) (w : World) : Prop :=
  valP Try.prog (binS BinOp.eql 3 (Operand.tmp 11) (Operand.const (Value.int IntKind.i64 (-1))) i5 (Value.int IntKind.i64 (-1))) w fun t12 w =>
  m91_15 R s0 del1 i5 t12 w
def m91_1 (R : VP) (s0 del1 : Value) (w : World) : Prop :=
  callP Try.prog (fnV 104) #[s0, del1] w fun t10 w =>
  m91_2 R s0 del1 t10 w
def m91_0 (R : VP) (s0 del1 : Value) (w : World) : Prop :=
  m91_1 R s0 del1 w
abbrev W91 := cwp Try.prog (fun i => 0)
noncomputable def k91_0 : Code := (bodyOf Try.f91)
noncomputable def k91_1 : Code := (c2 k91_0)
noncomputable def k91_2 : Code := (c2 k91_1)
noncomputable def k91_3 : Code := (c2 k91_2)
noncomputable def k91_4 : Code := (c2 k91_3)
noncomputable def k91_5 : Code := (c2 k91_4)
noncomputable def k91_6 : Code := (c2 k91_5)
noncomputable def k91_7 : Code := (c2 (c1 k91_3))
noncomputable def k91_8 : Code := (c1 (c1 k91_7))
noncomputable def k91_9 : Code := (c2 k91_8)
noncomputable def k91_10 : Code := (c2 k91_9)
noncomputable def k91_11 : Code := (c2 (c1 (c1 k91_9)))
noncomputable def k91_12 : Code := (c2 k91_11)
noncomputable def k91_13 : Code := (c2 (c1 k91_12))
noncomputable def k91_14 : Code := (c2 (c1 k91_8))
noncomputable def k91_15 : Code := (c2 (c1 k91_2))
noncomputable def k91_16 : Code := (c2 (c1 k91_15))
theorem s91_16 {R : VP} {Q : EQ} (hR : ∀ e w, (R (e 4) w) → Q .ret e w) (e : Env) (w : World) (h : m91_16 R (e 4) w) : W91 k91_16 Q e w := by
  unfold m91_16 at h
  exact reA (hR _ _ h)
theorem s91_10 {R : VP} {K1 : (Value × Value) → World → Prop} {Q : EQ} (hN : ∀ e w, (K1 ((e 5), (e 6)) w) → Q .normal e w) (e : Env) (w : World) (h : m91_10 R K1 (e 0) (e 1) (e 5) (e 6) w) : W91 k91_10 Q e w := by
  unfold m91_10 at h
  exact rgA 6 (fun e w => K1 ((e 5), (e 6)) w) h hN
theorem s91_13 {R : VP} {K1 : (Value × Value) → World → Prop} {Q : EQ} (hN : ∀ e w, (m91_10 R K1 (e 0) (e 1) (e 5) (e 6) w) → Q .normal e w) (e : Env) (w : World) (h : m91_13 R K1 (e 0) (e 1) (e 5) (e 6) w) : W91 k91_13 Q e w := by
  unfold m91_13 at h
  exact rgA 10 (fun e w => m91_10 R K1 (e 0) (e 1) (e 5) (e 6) w) h hN
theorem s91_12 {R : VP} {K1 : (Value × Value) → World → Prop} {Q : EQ} (hN : ∀ e w, (m91_10 R K1 (e 0) (e 1) (e 5) (e 6) w) → Q .normal e w) (e : Env) (w : World) (h : m91_12 R K1 (e 0) (e 1) (e 5) (e 6) (e 7) (e 29) w) : W91 k91_12 Q e w := by
  unfold m91_12 at h
  refine coA (Operand.tmp 29) h (fun h1 => ?_) (fun h1 => ?_)
  · refine seA ?_
    have hN : ∀ e w, (m91_13 R K1 (e 0) (e 1) (e 5) (e 6) w) → (thenE (W91 k91_13 Q) Q) .normal e w := fun e w h => then_N (s91_13 (R := R) (Q := Q) (K1 := K1) hN e w h)
    exact rgA 9 (fun e w => m91_13 R K1 (e 0) (e 1) (e 5) (e 6) w) h1 hN
  · exact skA (hN _ _ h1)
theorem s91_11 {R : VP} {K1 : (Value × Value) → World → Prop} {Q : EQ} (hN : ∀ e w, (m91_10 R K1 (e 0) (e 1) (e 5) (e 6) w) → Q .normal e w) (e : Env) (w : World) (h : m91_11 R K1 (e 0) (e 1) (e 5) (e 6) (e 7) w) : W91 k91_11 Q e w := by
  unfold m91_11 at h
  refine seA ?_
  have hN : ∀ e w, (m91_12 R K1 (e 0) (e 1) (e 5) (e 6) (e 7) (e 29) w) → (thenE (W91 k91_12 Q) Q) .normal e w := fun e w h => then_N (s91_12 (R := R) (Q := Q) (K1 := K1) hN e w h)
  exact rgA 8 (fun e w => m91_12 R K1 (e 0) (e 1) (e 5) (e 6) (e 7) (e 29) w) h hN
theorem s91_9 {R : VP} {K1 : (Value × Value) → World → Prop} {Q : EQ} (hN : ∀ e w, (K1 ((e 5), (e 6)) w) → Q .normal e w) (e : Env) (w : World) (h : m91_9 R K1 (e 0) (e 1) (e 5) (e 6) w) : W91 k91_9 Q e w := by
  unfold m91_9 at h
  refine seA ?_
  have hN : ∀ e w, (m91_10 R K1 (e 0) (e 1) (e 5) (e 6) w) → (thenE (W91 k91_10 Q) Q) .normal e w := fun e w h => then_N (s91_10 (R := R) (Q := Q) (K1 := K1) hN e w h)
  refine block_ok 1 (by kernel_rfl) ?_
  have hN : ∀ e w, (m91_10 R K1 (e 0) (e 1) (e 5) (e 6) w) → (inBlockE 1 (thenE (W91 k91_10 Q) Q)) .normal e w := fun e w h => block_N (hN e w h)
  refine seA ?_
  have hN : ∀ e w, (m91_11 R K1 (e 0) (e 1) (e 5) (e 6) (e 7) w) → (thenE (W91 k91_11 (inBlockE 1 (thenE (W91 k91_10 Q) Q))) (inBlockE 1 (thenE (W91 k91_10 Q) Q))) .normal e w := fun e w h => then_N (s91_11 (R := R) (Q := (inBlockE 1 (thenE (W91 k91_10 Q) Q))) (K1 := K1) hN e w h)
  exact rgA 7 (fun e w => m91_11 R K1 (e 0) (e 1) (e 5) (e 6) (e 7) w) h hN
theorem s91_6 {R : VP} {Q : EQ} (hR : ∀ e w, (R (e 4) w) → Q .ret e w) (e : Env) (w : World) (h : m91_6 R (e 4) w) : W91 k91_6 Q e w := by
  unfold m91_6 at h
  exact reA (hR _ _ h)
theorem s91_5 {R : VP} {Q : EQ} (hR : ∀ e w, (R (e 4) w) → Q .ret e w) (e : Env) (w : World) (h : m91_5 R (e 0) (e 5) w) : W91 k91_5 Q e w := by
  unfold m91_5 at h
  refine seA ?_
  have hN : ∀ e w, (m91_6 R (e 4) w) → (thenE (W91 k91_6 Q) Q) .normal e w := fun e w h => then_N (s91_6 (R := R) (Q := Q) hR e w h)
  exact rgA 12 (fun e w => m91_6 R (e 4) w) h hN
theorem s91_4 {R : VP} {Q : EQ} (hR : ∀ e w, (R (e 4) w) → Q .ret e w) (e : Env) (w : World) (h : m91_4 R (e 0) (e 5) w) : W91 k91_4 Q e w := by
  unfold m91_4 at h
  refine seA ?_
  have hN : ∀ e w, (m91_5 R (e 0) (e 5) w) → (thenE (W91 k91_5 Q) Q) .normal e w := fun e w h => then_N (s91_5 (R := R) (Q := Q) hR e w h)
  exact rgA 11 (fun e w => m91_5 R (e 0) (e 5) w) h hN
theorem s91_14 {R : VP} {K1 : (Value × Value) → World → Prop} {Q : EQ} (hN : ∀ e w, (m91_9 R K1 (e 0) (e 1) (e 5) (e 6) w) → Q .normal e w) (hX0 : ∀ e w, (m91_4 R (e 0) (e 5) w) → Q (.exit 0) e w) (e : Env) (w : World) (h : m91_14 R K1 (e 0) (e 1) (e 5) (e 6) (e 19) w) : W91 k91_14 Q e w := by
  unfold m91_14 at h
  refine coA (Operand.tmp 19) h (fun h1 => ?_) (fun h1 => ?_)
  · exact skA (hN _ _ h1)
  · exact exA 0 (hX0 _ _ h1)
theorem s91_8 {R : VP} {K1 : (Value × Value) → World → Prop} {Q : EQ} (hN : ∀ e w, (K1 ((e 5), (e 6)) w) → Q .normal e w) (hX0 : ∀ e w, (m91_4 R (e 0) (e 5) w) → Q (.exit 0) e w) (e : Env) (w : World) (h : m91_8 R K1 (e 0) (e 1) (e 5) (e 6) w) : W91 k91_8 Q e w := by
  unfold m91_8 at h
  refine seA ?_
  have hN : ∀ e w, (m91_9 R K1 (e 0) (e 1) (e 5) (e 6) w) → (thenE (W91 k91_9 Q) Q) .normal e w := fun e w h => then_N (s91_9 (R := R) (Q := Q) (K1 := K1) hN e w h)
  have hX0 : ∀ e w, (m91_4 R (e 0) (e 5) w) → (thenE (W91 k91_9 Q) Q) (.exit 0) e w := fun e w h => then_X (hX0 e w h)
  refine seA ?_
  have hN : ∀ e w, (m91_14 R K1 (e 0) (e 1) (e 5) (e 6) (e 19) w) → (thenE (W91 k91_14 (thenE (W91 k91_9 Q) Q)) (thenE (W91 k91_9 Q) Q)) .normal e w := fun e w h => then_N (s91_14 (R := R) (Q := (thenE (W91 k91_9 Q) Q)) (K1 := K1) hN hX0 e w h)
  exact rgA 5 (fun e w => m91_14 R K1 (e 0) (e 1) (e 5) (e 6) (e 19) w) h hN
theorem s91_7 {R : VP} {Q : EQ} (hN : ∀ e w, (m91_4 R (e 0) (e 5) w) → Q .normal e w) (e : Env) (w : World) (h : m91_7 R (e 0) (e 1) (e 5) (e 6) w) : W91 k91_7 Q e w := by
  unfold m91_7 at h
  refine block_ok 0 (by kernel_rfl) ?_
  have hX0 : ∀ e w, (m91_4 R (e 0) (e 5) w) → (inBlockE 0 Q) (.exit 0) e w := fun e w h => inBlock_same (Q := Q) 0 (hN e w h)
  refine loop_ok' (fun (e : Env) => (e 5, e 6)) [0, 1] (by kernel_rfl) (by kernel_rfl) h (fun K e' w' hk h' => ?_)
  have r0 : e' 0 = e 0 := hk 0 (by decide)
  have r1 : e' 1 = e 1 := hk 1 (by decide)
  have hX0 : ∀ e w, (m91_4 R (e 0) (e 5) w) → (thenE (fun (e : Env) w => K ((e 5), (e 6)) w) (inBlockE 0 Q)) (.exit 0) e w := fun e w h => then_X (hX0 e w h)
  exact s91_8 (R := R) (Q := (thenE (fun (e : Env) w => K ((e 5), (e 6)) w) (inBlockE 0 Q))) (K1 := K) (fun _ _ h => then_N h) hX0 e' w' (by rw [r0, r1]; exact h')
theorem s91_3 {R : VP} {Q : EQ} (hR : ∀ e w, (R (e 4) w) → Q .ret e w) (e : Env) (w : World) (h : m91_3 R (e 0) (e 1) (e 5) w) : W91 k91_3 Q e w := by
  unfold m91_3 at h
  refine seA ?_
  have hN : ∀ e w, (m91_4 R (e 0) (e 5) w) → (thenE (W91 k91_4 Q) Q) .normal e w := fun e w h => then_N (s91_4 (R := R) (Q := Q) hR e w h)
  refine seA ?_
  have hN : ∀ e w, (m91_7 R (e 0) (e 1) (e 5) (e 6) w) → (thenE (W91 k91_7 (thenE (W91 k91_4 Q) Q)) (thenE (W91 k91_4 Q) Q)) .normal e w := fun e w h => then_N (s91_7 (R := R) (Q := (thenE (W91 k91_4 Q) Q)) hN e w h)
  exact rgA 4 (fun e w => m91_7 R (e 0) (e 1) (e 5) (e 6) w) h hN
theorem s91_15 {R : VP} {Q : EQ} (hN : ∀ e w, (m91_3 R (e 0) (e 1) (e 5) w) → Q .normal e w) (hR : ∀ e w, (R (e 4) w) → Q .ret e w) (e : Env) (w : World) (h : m91_15 R (e 0) (e 1) (e 5) (e 12) w) : W91 k91_15 Q e w := by
  unfold m91_15 at h
  refine coA (Operand.tmp 12) h (fun h1 => ?_) (fun h1 => ?_)
  · refine seA ?_
    have hN : ∀ e w, (m91_16 R (e 4) w) → (thenE (W91 k91_16 Q) Q) .normal e w := fun e w h => then_N (s91_16 (R := R) (Q := Q) hR e w h)
    exact rgA 3 (fun e w => m91_16 R (e 4) w) h1 hN
  · exact skA (hN _ _ h1)
theorem s91_2 {R : VP} {Q : EQ} (hR : ∀ e w, (R (e 4) w) → Q .ret e w) (e : Env) (w : World) (h : m91_2 R (e 0) (e 1) (e 5) w) : W91 k91_2 Q e w := by
  unfold m91_2 at h
  refine seA ?_
  have hN : ∀ e w, (m91_3 R (e 0) (e 1) (e 5) w) → (thenE (W91 k91_3 Q) Q) .normal e w := fun e w h => then_N (s91_3 (R := R) (Q := Q) hR e w h)
  have hR : ∀ e w, (R (e 4) w) → (thenE (W91 k91_3 Q) Q) .ret e w := fun e w h => then_R (hR e w h)
  refine seA ?_
  have hN : ∀ e w, (m91_15 R (e 0) (e 1) (e 5) (e 12) w) → (thenE (W91 k91_15 (thenE (W91 k91_3 Q) Q)) (thenE (W91 k91_3 Q) Q)) .normal e w := fun e w h => then_N (s91_15 (R := R) (Q := (thenE (W91 k91_3 Q) Q)) hN hR e w h)
  exact rgA 2 (fun e w => m91_15 R (e 0) (e 1) (e 5) (e 12) w) h hN
theorem s91_1 {R : VP} {Q : EQ} (hR : ∀ e w, (R (e 4) w) → Q .ret e w) (e : Env) (w : World) (h : m91_1 R (e 0) (e 1) w) : W91 k91_1 Q e w := by
  unfold m91_1 at h
  refine seA ?_
  have hN : ∀ e w, (m91_2 R (e 0) (e 1) (e 5) w) → (thenE (W91 k91_2 Q) Q) .normal e w := fun e w h => then_N (s91_2 (R := R) (Q := Q) hR e w h)
  exact rgA 1 (fun e w => m91_2 R (e 0) (e 1) (e 5) w) h hN
theorem s91_0 {R : VP} {Q : EQ} (hR : ∀ e w, (R (e 4) w) → Q .ret e w) (e : Env) (w : World) (h : m91_0 R (e 0) (e 1) w) : W91 k91_0 Q e w := by
  unfold m91_0 at h
  refine seA ?_
  have hN : ∀ e w, (m91_1 R (e 0) (e 1) w) → (thenE (W91 k91_1 Q) Q) .normal e w := fun e w h => then_N (s91_1 (R := R) (Q := Q) hR e w h)
  exact rgA 0 (fun e w => m91_1 R (e 0) (e 1) w) h hN
abbrev m91 (R : VP) (s0 del1 : Value) (w : World) : Prop := m91_0 R s0 del1 w
theorem s91 (s0 del1 : Value) {R : VP} {w : World} (h : m91 R s0 del1 w) :
    Calls Try.prog 91 #[s0, del1] w fun e w' => ∃ v, e = .returned v ∧ R v w' :=
  calls_of_cwp (st := (fun i => 0)) (c := k91_0) (by kernel_rfl) Try.func91 (by kernel_rfl) (Nat.le_of_ble_eq_true (by kernel_rfl)) (by kernel_rfl)
    (s91_0 (R := R) (Q := endE Try.prog Try.f91 R) (fun e w h => kcast (by kernel_rfl) h) (argsE #[s0, del1]) w (kcast (by kernel_rfl) h))
/-! ### (*headgate/headgateref10.Group).begin -/
def m93_10 (R : VP) (K1 : (Value × Value) → World → Prop) (g0 ids2 i3 : Value) (w : World) : Prop :=
  valP Try.prog (binS BinOp.add 3 (Operand.tmp 12) (Operand.const (Value.int IntKind.i64 1)) i3 (Value.int IntKind.i64 1)) w fun t13 w =>
  K1 (ids2, t13) w
def m93_9 (R : VP) (K1 : (Value × Value) → World → Prop) (g0 ids2 i3 : Value) (w : World) : Prop :=
  nilCheckP g0 fun t16 =>
  valP Try.prog (Instr.fieldAt 86 t16 5) w fun t17 w =>
  valP Try.prog (Instr.loadAt 66 t17) w fun t18 w =>
  valP Try.prog (Instr.indexAt 66 t18 i3) w fun t20 w =>
  valP Try.prog (Instr.fieldAt 69 t20 0) w fun t21 w =>
  valP Try.prog (Instr.loadAt 3 t21) w fun t22 w =>
  valP Try.prog (Instr.buildSlice 28 1 #[(0, t22)]) w fun t23 w =>
  builtinP Try.prog Builtin.append #[28, 28] 28 #[false, false] #[ids2, t23] w fun t24 w =>
  m93_10 R K1 g0 t24 i3 w
def m93_5 (R : VP) (g0 l4 : Value) (w : World) : Prop :=
  nilCheckP g0 fun t61 =>
  valP Try.prog (Instr.fieldAt 86 t61 6) w fun t62 w =>
  unitP Try.prog (Instr.storeAt 28 t62 l4) w fun _ w =>
  R (Value.tuple #[]) w
def m93_6 (R : VP) (g0 ids2 t36 : Value) (w : World) : Prop :=
  condP t36
  (anyDraw w fun w =>
  heldP w fun J =>
  nilCheckP g0 fun t39 =>
  valJ Try.prog J (Instr.fieldAt 86 t39 0) fun t40 =>
  valJ Try.prog J (Instr.loadAt 3 t40) fun t41 =>
  nilCheckP g0 fun t44 =>
  valJ Try.prog J (Instr.fieldAt 86 t44 6) fun t45 =>
  valJ Try.prog J (Instr.loadAt 28 t45) fun t46 =>
  callP Try.prog (fnV 89) #[t41, ids2, t46] w fun t47 w =>
  stayP J w
  (valJ Try.prog J (Instr.extract t47 0) fun t48 =>
  valJ Try.prog J (Instr.extract t47 1) fun t49 =>
  m93_5 R g0 t48 w))
  (nilCheckP g0 fun t52 =>
  valP Try.prog (Instr.fieldAt 86 t52 0) w fun t53 w =>
  valP Try.prog (Instr.loadAt 3 t53) w fun t54 w =>
  callP Try.prog (fnV 105) #[t54, ids2] w fun t56 w =>
  valP Try.prog (Instr.extract t56 0) w fun t57 w =>
  valP Try.prog (Instr.extract t56 1) w fun t58 w =>
  m93_5 R g0 t57 w)
def m93_4 (R : VP) (g0 ids2 : Value) (w : World) : Prop :=
  nilCheckP g0 fun t34 =>
  valP Try.prog (Instr.fieldAt 86 t34 1) w fun t35 w =>
  valP Try.prog (Instr.loadAt 4 t35) w fun t36 w =>
  m93_6 R g0 ids2 t36 w
def m93_3 (R : VP) (g0 ids2 : Value) (w : World) : Prop :=
  m93_4 R g0 ids2 w
def m93_2 (R : VP) (g0 ids2 : Value) (w : World) : Prop :=
  nilCheckP g0 fun t27 =>
  valP Try.prog (Instr.fieldAt 86 t27 2) w fun t28 w =>
  valP Try.prog (Instr.loadAt 3 t28) w fun t29 w =>
  valP Try.prog (binS BinOp.add 3 (Operand.tmp 29) (Operand.const (Value.int IntKind.i64 1)) t29 (Value.int IntKind.i64 1)) w fun t30 w =>
  nilCheckP g0 fun t31 =>
  valP Try.prog (Instr.fieldAt 86 t31 2) w fun t32 w =>
  unitP Try.prog (Instr.storeAt 3 t32 t30) w fun _ w =>
  m93_3 R g0 ids2 w
def m93_11 (R : VP) (K1 : (Value × Value) → World → Prop) (g0 ids2 i3 t11 : Value) (w : World) : Prop :=
  condP t11
  (m93_9 R K1 g0 ids2 i3 w)
  (m93_2 R g0 ids2 w)
def m93_8 (R : VP) (K1 : (Value × Value) → World → Prop) (g0 ids2 i3 : Value) (w : World) : Prop :=
  nilCheckP g0 fun t7 =>
  valP Try.prog (Instr.fieldAt 86 t7 5) w fun t8 w =>
  valP Try.prog (Instr.loadAt 66 t8) w fun t9 w =>
  builtinP Try.prog Builtin.len #[66] 3 #[false] #[t9] w fun t10 w =>
  valP Try.prog (binS BinOp.lss 3 (Operand.tmp 5) (Operand.tmp 10) i3 t10) w fun t11 w =>
  m93_11 R K1 g0 ids2 i3 t11 w
def m93_7 (R : VP) (g0 ids2 i3 : Value) (w : World) : Prop :=
  loopP (fun (K1 : (Value × Value) → World → Prop) (s : Value × Value) w => m93_8 R K1 g0 s.1 s.2 w) (ids2, i3) w
def m93_1 (R : VP) (g0 ids2 : Value) (w : World) : Prop :=
  m93_7 R g0 ids2 (Value.int IntKind.i64 0) w
def m93_0 (R : VP) (g0 : Value) (w : World) : Prop :=
  m93_1 R g0 (Value.slice none 0 0) w
abbrev W93 := cwp Try.prog (fun i => 0)
noncomputable def k93_0 : Code := (bodyOf Try.f93)
noncomputable def k93_1 : Code := (c2 k93_0)
noncomputable def k93_2 : Code := (c2 k93_1)
noncomputable def k93_3 : Code := (c2 k93_2)
noncomputable def k93_4 : Code := (c2 k93_3)
noncomputable def k93_5 : Code := (c2 k93_4)
noncomputable def k93_6 : Code := (c2 (c1 k93_4))
noncomputable def k93_7 : Code := (c2 (c1 k93_1))
noncomputable def k93_8 : Code := (c1 (c1 k93_7))
noncomputable def k93_9 : Code := (c2 k93_8)
noncomputable def k93_10 : Code := (c2 k93_9)
noncomputable def k93_11 : Code := (c2 (c1 k93_8))
theorem s93_10 {R : VP} {K1 : (Value × Value) → World → Prop} {Q : EQ} (hN : ∀ e w, (K1 ((e 2), (e 3)) w) → Q .normal e w) (e : Env) (w : World) (h : m93_10 R K1 (e 0) (e 2) (e 3) w) : W93 k93_10 Q e w := by
  unfold m93_10 at h
  exact rgA 3 (fun e w => K1 ((e 2), (e 3)) w) h hN
theorem s93_9 {R : VP} {K1 : (Value × Value) → World → Prop} {Q : EQ} (hN : ∀ e w, (K1 ((e 2), (e 3)) w) → Q .normal e w) (e : Env) (w : World) (h : m93_9 R K1 (e 0) (e 2) (e 3) w) : W93 k93_9 Q e w := by
  unfold m93_9 at h
  refine seA ?_
  have hN : ∀ e w, (m93_10 R K1 (e 0) (e 2) (e 3) w) → (thenE (W93 k93_10 Q) Q) .normal e w := fun e w h => then_N (s93_10 (R := R) (Q := Q) (K1 := K1) hN e w h)
  refine block_ok 1 (by kernel_rfl) ?_
  have hN : ∀ e w, (m93_10 R K1 (e 0) (e 2) (e 3) w) → (inBlockE 1 (thenE (W93 k93_10 Q) Q)) .normal e w := fun e w h => block_N (hN e w h)
  exact rgA 4 (fun e w => m93_10 R K1 (e 0) (e 2) (e 3) w) h hN
theorem s93_5 {R : VP} {Q : EQ} (hN : ∀ e w, (R (Value.tuple #[]) w) → Q .normal e w) (e : Env) (w : World) (h : m93_5 R (e 0) (e 4) w) : W93 k93_5 Q e w := by
  unfold m93_5 at h
  exact rgA 10 (fun e w => R (Value.tuple #[]) w) h hN
theorem s93_6 {R : VP} {Q : EQ} (hN : ∀ e w, (m93_5 R (e 0) (e 4) w) → Q .normal e w) (e : Env) (w : World) (h : m93_6 R (e 0) (e 2) (e 36) w) : W93 k93_6 Q e w := by
  unfold m93_6 at h
  refine coA (Operand.tmp 36) h (fun h1 => ?_) (fun h1 => ?_)
  · exact treeJ_ok 8 14 [false, false, false, false, false, false, false, false, false, false, false, false, false, false] (.take 0 [true, false, false, false, false, false, false, false, false, false, false, false, false, false] (.take 1 [true, true, false, false, false, false, false, false, false, false, false, false, false, false] (.take 2 [true, true, true, false, false, false, false, false, false, false, false, false, false, false] (.take 3 [true, true, true, true, false, false, false, false, false, false, false, false, false, false] (.take 4 [true, true, true, true, true, false, false, false, false, false, false, false, false, false] (.take 5 [true, true, true, true, true, true, false, false, false, false, false, false, false, false] (.take 6 [true, true, true, true, true, true, true, false, false, false, false, false, false, false] (.take 7 [true, true, true, true, true, true, true, true, false, false, false, false, false, false] (.take 8 [true, true, true, true, true, true, true, true, true, false, false, false, false, false] (.alt 9 [true, true, true, true, true, true, true, true, true, true, false, false, false, false] (.take 10 [true, true, true, true, true, true, true, true, true, true, true, false, false, false] (.take 11 [true, true, true, true, true, true, true, true, true, true, true, true, false, false] (.take 12 [true, true, true, true, true, true, true, true, true, true, true, true, true, false] (.take 13 [true, true, true, true, true, true, true, true, true, true, true, true, true, true] .done)))) .stop)))))))))) (fun e w => m93_5 R (e 0) (e 4) w) (by kernel_rfl) (by kernel_rfl) (by kernel_rfl) (by kernel_rfl) (by kernel_rfl) (by kernel_rfl) (kcast (by kernel_rfl) h1) hN (by kernel_rfl)
  · exact rgA 9 (fun e w => m93_5 R (e 0) (e 4) w) h1 hN
theorem s93_4 {R : VP} {Q : EQ} (hN : ∀ e w, (R (Value.tuple #[]) w) → Q .normal e w) (e : Env) (w : World) (h : m93_4 R (e 0) (e 2) w) : W93 k93_4 Q e w := by
  unfold m93_4 at h
  refine seA ?_
  have hN : ∀ e w, (m93_5 R (e 0) (e 4) w) → (thenE (W93 k93_5 Q) Q) .normal e w := fun e w h => then_N (s93_5 (R := R) (Q := Q) hN e w h)
  refine seA ?_
  have hN : ∀ e w, (m93_6 R (e 0) (e 2) (e 36) w) → (thenE (W93 k93_6 (thenE (W93 k93_5 Q) Q)) (thenE (W93 k93_5 Q) Q)) .normal e w := fun e w h => then_N (s93_6 (R := R) (Q := (thenE (W93 k93_5 Q) Q)) hN e w h)
  exact rgA 7 (fun e w => m93_6 R (e 0) (e 2) (e 36) w) h hN
theorem s93_3 {R : VP} {Q : EQ} (hN : ∀ e w, (R (Value.tuple #[]) w) → Q .normal e w) (e : Env) (w : World) (h : m93_3 R (e 0) (e 2) w) : W93 k93_3 Q e w := by
  unfold m93_3 at h
  refine seA ?_
  have hN : ∀ e w, (m93_4 R (e 0) (e 2) w) → (thenE (W93 k93_4 Q) Q) .normal e w := fun e w h => then_N (s93_4 (R := R) (Q := Q) hN e w h)
  exact rgA 6 (fun e w => m93_4 R (e 0) (e 2) w) h hN
theorem s93_2 {R : VP} {Q : EQ} (hN : ∀ e w, (R (Value.tuple #[]) w) → Q .normal e w) (e : Env) (w : World) (h : m93_2 R (e 0) (e 2) w) : W93 k93_2 Q e w := by
  unfold m93_2 at h
  refine seA ?_
  have hN : ∀ e w, (m93_3 R (e 0) (e 2) w) → (thenE (W93 k93_3 Q) Q) .normal e w := fun e w h => then_N (s93_3 (R := R) (Q := Q) hN e w h)
  exact rgA 5 (fun e w => m93_3 R (e 0) (e 2) w) h hN
theorem s93_11 {R : VP} {K1 : (Value × Value) → World → Prop} {Q : EQ} (hN : ∀ e w, (m93_9 R K1 (e 0) (e 2) (e 3) w) → Q .normal e w) (hX0 : ∀ e w, (m93_2 R (e 0) (e 2) w) → Q (.exit 0) e w) (e : Env) (w : World) (h : m93_11 R K1 (e 0) (e 2) (e 3) (e 11) w) : W93 k93_11 Q e w := by
  unfold m93_11 at h
  refine coA (Operand.tmp 11) h (fun h1 => ?_) (fun h1 => ?_)
  · exact skA (hN _ _ h1)
  · exact exA 0 (hX0 _ _ h1)
theorem s93_8 {R : VP} {K1 : (Value × Value) → World → Prop} {Q : EQ} (hN : ∀ e w, (K1 ((e 2), (e 3)) w) → Q .normal e w) (hX0 : ∀ e w, (m93_2 R (e 0) (e 2) w) → Q (.exit 0) e w) (e : Env) (w : World) (h : m93_8 R K1 (e 0) (e 2) (e 3) w) : W93 k93_8 Q e w := by
  unfold m93_8 at h
  refine seA ?_
  have hN : ∀ e w, (m93_9 R K1 (e 0) (e 2) (e 3) w) → (thenE (W93 k93_9 Q) Q) .normal e w := fun e w h => then_N (s93_9 (R := R) (Q := Q) (K1 := K1) hN e w h)
  have hX0 : ∀ e w, (m93_2 R (e 0) (e 2) w) → (thenE (W93 k93_9 Q) Q) (.exit 0) e w := fun e w h => then_X (hX0 e w h)
  refine seA ?_
  have hN : ∀ e w, (m93_11 R K1 (e 0) (e 2) (e 3) (e 11) w) → (thenE (W93 k93_11 (thenE (W93 k93_9 Q) Q)) (thenE (W93 k93_9 Q) Q)) .normal e w := fun e w h => then_N (s93_11 (R := R) (Q := (thenE (W93 k93_9 Q) Q)) (K1 := K1) hN hX0 e w h)
  exact rgA 2 (fun e w => m93_11 R K1 (e 0) (e 2) (e 3) (e 11) w) h hN
theorem s93_7 {R : VP} {Q : EQ} (hN : ∀ e w, (m93_2 R (e 0) (e 2) w) → Q .normal e w) (e : Env) (w : World) (h : m93_7 R (e 0) (e 2) (e 3) w) : W93 k93_7 Q e w := by
  unfold m93_7 at h
  refine block_ok 0 (by kernel_rfl) ?_
  have hX0 : ∀ e w, (m93_2 R (e 0) (e 2) w) → (inBlockE 0 Q) (.exit 0) e w := fun e w h => inBlock_same (Q := Q) 0 (hN e w h)
  refine loop_ok' (fun (e : Env) => (e 2, e 3)) [0] (by kernel_rfl) (by kernel_rfl) h (fun K e' w' hk h' => ?_)
  have r0 : e' 0 = e 0 := hk 0 (by decide)
  have hX0 : ∀ e w, (m93_2 R (e 0) (e 2) w) → (thenE (fun (e : Env) w => K ((e 2), (e 3)) w) (inBlockE 0 Q)) (.exit 0) e w := fun e w h => then_X (hX0 e w h)
  exact s93_8 (R := R) (Q := (thenE (fun (e : Env) w => K ((e 2), (e 3)) w) (inBlockE 0 Q))) (K1 := K) (fun _ _ h => then_N h) hX0 e' w' (by rw [r0]; exact h')
theorem s93_1 {R : VP} {Q : EQ} (hN : ∀ e w, (R (Value.tuple #[]) w) → Q .normal e w) (e : Env) (w : World) (h : m93_1 R (e 0) (e 2) w) : W93 k93_1 Q e w := by
  unfold m93_1 at h
  refine seA ?_
  have hN : ∀ e w, (m93_2 R (e 0) (e 2) w) → (thenE (W93 k93_2 Q) Q) .normal e w := fun e w h => then_N (s93_2 (R := R) (Q := Q) hN e w h)
  refine seA ?_
  have hN : ∀ e w, (m93_7 R (e 0) (e 2) (e 3) w) → (thenE (W93 k93_7 (thenE (W93 k93_2 Q) Q)) (thenE (W93 k93_2 Q) Q)) .normal e w := fun e w h => then_N (s93_7 (R := R) (Q := (thenE (W93 k93_2 Q) Q)) hN e w h)
  exact rgA 1 (fun e w => m93_7 R (e 0) (e 2) (e 3) w) h hN
theorem s93_0 {R : VP} {Q : EQ} (hN : ∀ e w, (R (Value.tuple #[]) w) → Q .normal e w) (e : Env) (w : World) (h : m93_0 R (e 0) w) : W93 k93_0 Q e w := by
  unfold m93_0 at h
  refine seA ?_
  have hN : ∀ e w, (m93_1 R (e 0) (e 2) w) → (thenE (W93 k93_1 Q) Q) .normal e w := fun e w h => then_N (s93_1 (R := R) (Q := Q) hN e w h)
  exact rgA 0 (fun e w => m93_1 R (e 0) (e 2) w) h hN
abbrev m93 (R : VP) (g0 : Value) (w : World) : Prop := m93_0 R g0 w
theorem s93 (g0 : Value) {R : VP} {w : World} (h : m93 R g0 w) :
    Calls Try.prog 93 #[g0] w fun e w' => ∃ v, e = .returned v ∧ R v w' :=
  calls_of_cwp (st := (fun i => 0)) (c := k93_0) (by kernel_rfl) Try.func93 (by kernel_rfl) (Nat.le_of_ble_eq_true (by kernel_rfl)) (by kernel_rfl)
    (s93_0 (R := R) (Q := endE Try.prog Try.f93 R) (fun e w h => kcast (by kernel_rfl) h) (argsE #[g0]) w (kcast (by kernel_rfl) h))
/-! ### (*headgate/headgateref10.Group).at -/
def m94_9 (R : VP) (K1 : VP) (t4 : Value) (w : World) : Prop :=
  R t4 w
def m94_7 (R : VP) (K1 : VP) (g0 id1 i5 : Value) (w : World) : Prop :=
  valP Try.prog (binS BinOp.add 3 (Operand.tmp 13) (Operand.const (Value.int IntKind.i64 1)) i5 (Value.int IntKind.i64 1)) w fun t14 w =>
  K1 t14 w
def m94_8 (R : VP) (K1 : VP) (g0 id1 i5 t24 : Value) (w : World) : Prop :=
  condP t24
  (m94_9 R K1 i5 w)
  (m94_7 R K1 g0 id1 i5 w)
def m94_6 (R : VP) (K1 : VP) (g0 id1 i5 : Value) (w : World) : Prop :=
  nilCheckP g0 fun t16 =>
  valP Try.prog (Instr.fieldAt 86 t16 5) w fun t17 w =>
  valP Try.prog (Instr.loadAt 66 t17) w fun t18 w =>
  valP Try.prog (Instr.indexAt 66 t18 i5) w fun t20 w =>
  valP Try.prog (Instr.fieldAt 69 t20 0) w fun t21 w =>
  valP Try.prog (Instr.loadAt 3 t21) w fun t22 w =>
  valP Try.prog (binS BinOp.eql 3 (Operand.tmp 22) (Operand.tmp 23) t22 id1) w fun t24 w =>
  m94_8 R K1 g0 id1 i5 t24 w
def m94_3 (R : VP) (t4 : Value) (w : World) : Prop :=
  R t4 w
def m94_2 (R : VP) (w : World) : Prop :=
  m94_3 R (Value.int IntKind.i64 (-1)) w
def m94_10 (R : VP) (K1 : VP) (g0 id1 i5 t12 : Value) (w : World) : Prop :=
  condP t12
  (m94_6 R K1 g0 id1 i5 w)
  (m94_2 R w)
def m94_5 (R : VP) (K1 : VP) (g0 id1 i5 : Value) (w : World) : Prop :=
  nilCheckP g0 fun t8 =>
  valP Try.prog (Instr.fieldAt 86 t8 5) w fun t9 w =>
  valP Try.prog (Instr.loadAt 66 t9) w fun t10 w =>
  builtinP Try.prog Builtin.len #[66] 3 #[false] #[t10] w fun t11 w =>
  valP Try.prog (binS BinOp.lss 3 (Operand.tmp 6) (Operand.tmp 11) i5 t11) w fun t12 w =>
  m94_10 R K1 g0 id1 i5 t12 w
def m94_4 (R : VP) (g0 id1 i5 : Value) (w : World) : Prop :=
  loopP (fun (K1 : VP) (s : Value) w => m94_5 R K1 g0 id1 s w) i5 w
def m94_1 (R : VP) (g0 id1 : Value) (w : World) : Prop :=
  m94_4 R g0 id1 (Value.int IntKind.i64 0) w
def m94_0 (R : VP) (g0 id1 : Value) (w : World) : Prop :=
  m94_1 R g0 id1 w
abbrev W94 := cwp Try.prog (fun i => 0)
noncomputable def k94_0 : Code := (bodyOf Try.f94)
noncomputable def k94_1 : Code := (c2 k94_0)
noncomputable def k94_2 : Code := (c2 k94_1)
noncomputable def k94_3 : Code := (c2 k94_2)
noncomputable def k94_4 : Code := (c2 (c1 k94_1))
noncomputable def k94_5 : Code := (c1 (c1 k94_4))
noncomputable def k94_6 : Code := (c2 k94_5)
noncomputable def k94_7 : Code := (c2 k94_6)
noncomputable def k94_8 : Code := (c2 (c1 (c1 k94_6)))
noncomputable def k94_9 : Code := (c2 (c1 k94_8))
noncomputable def k94_10 : Code := (c2 (c1 k94_5))
theorem s94_9 {R : VP} {K1 : VP} {Q : EQ} (hR : ∀ e w, (R (e 4) w) → Q .ret e w) (e : Env) (w : World) (h : m94_9 R K1 (e 4) w) : W94 k94_9 Q e w := by
  unfold m94_9 at h
  exact reA (hR _ _ h)
theorem s94_7 {R : VP} {K1 : VP} {Q : EQ} (hN : ∀ e w, (K1 (e 5) w) → Q .normal e w) (e : Env) (w : World) (h : m94_7 R K1 (e 0) (e 1) (e 5) w) : W94 k94_7 Q e w := by
  unfold m94_7 at h
  exact rgA 3 (fun e w => K1 (e 5) w) h hN
theorem s94_8 {R : VP} {K1 : VP} {Q : EQ} (hN : ∀ e w, (m94_7 R K1 (e 0) (e 1) (e 5) w) → Q .normal e w) (hR : ∀ e w, (R (e 4) w) → Q .ret e w) (e : Env) (w : World) (h : m94_8 R K1 (e 0) (e 1) (e 5) (e 24) w) : W94 k94_8 Q e w := by
  unfold m94_8 at h
  refine coA (Operand.tmp 24) h (fun h1 => ?_) (fun h1 => ?_)
  · refine seA ?_
    have hN : ∀ e w, (m94_9 R K1 (e 4) w) → (thenE (W94 k94_9 Q) Q) .normal e w := fun e w h => then_N (s94_9 (R := R) (Q := Q) (K1 := K1) hR e w h)
    exact rgA 5 (fun e w => m94_9 R K1 (e 4) w) h1 hN
  · exact skA (hN _ _ h1)
theorem s94_6 {R : VP} {K1 : VP} {Q : EQ} (hN : ∀ e w, (K1 (e 5) w) → Q .normal e w) (hR : ∀ e w, (R (e 4) w) → Q .ret e w) (e : Env) (w : World) (h : m94_6 R K1 (e 0) (e 1) (e 5) w) : W94 k94_6 Q e w := by
  unfold m94_6 at h
  refine seA ?_
  have hN : ∀ e w, (m94_7 R K1 (e 0) (e 1) (e 5) w) → (thenE (W94 k94_7 Q) Q) .normal e w := fun e w h => then_N (s94_7 (R := R) (Q := Q) (K1 := K1) hN e w h)
  have hR : ∀ e w, (R (e 4) w) → (thenE (W94 k94_7 Q) Q) .ret e w := fun e w h => then_R (hR e w h)
  refine block_ok 1 (by kernel_rfl) ?_
  have hN : ∀ e w, (m94_7 R K1 (e 0) (e 1) (e 5) w) → (inBlockE 1 (thenE (W94 k94_7 Q) Q)) .normal e w := fun e w h => block_N (hN e w h)
  have hR : ∀ e w, (R (e 4) w) → (inBlockE 1 (thenE (W94 k94_7 Q) Q)) .ret e w := fun e w h => block_R (hR e w h)
  refine seA ?_
  have hN : ∀ e w, (m94_8 R K1 (e 0) (e 1) (e 5) (e 24) w) → (thenE (W94 k94_8 (inBlockE 1 (thenE (W94 k94_7 Q) Q))) (inBlockE 1 (thenE (W94 k94_7 Q) Q))) .normal e w := fun e w h => then_N (s94_8 (R := R) (Q := (inBlockE 1 (thenE (W94 k94_7 Q) Q))) (K1 := K1) hN hR e w h)
  exact rgA 4 (fun e w => m94_8 R K1 (e 0) (e 1) (e 5) (e 24) w) h hN
theorem s94_3 {R : VP} {Q : EQ} (hR : ∀ e w, (R (e 4) w) → Q .ret e w) (e : Env) (w : World) (h : m94_3 R (e 4) w) : W94 k94_3 Q e w := by
  unfold m94_3 at h
  exact reA (hR _ _ h)
theorem s94_2 {R : VP} {Q : EQ} (hR : ∀ e w, (R (e 4) w) → Q .ret e w) (e : Env) (w : World) (h : m94_2 R w) : W94 k94_2 Q e w := by
  unfold m94_2 at h
  refine seA ?_
  have hN : ∀ e w, (m94_3 R (e 4) w) → (thenE (W94 k94_3 Q) Q) .normal e w := fun e w h => then_N (s94_3 (R := R) (Q := Q) hR e w h)
  exact rgA 6 (fun e w => m94_3 R (e 4) w) h hN
theorem s94_10 {R : VP} {K1 : VP} {Q : EQ} (hN : ∀ e w, (m94_6 R K1 (e 0) (e 1) (e 5) w) → Q .normal e w) (hX0 : ∀ e w, (m94_2 R w) → Q (.exit 0) e w) (e : Env) (w : World) (h : m94_10 R K1 (e 0) (e 1) (e 5) (e 12) w) : W94 k94_10 Q e w := by
  unfold m94_10 at h
  refine coA (Operand.tmp 12) h (fun h1 => ?_) (fun h1 => ?_)
  · exact skA (hN _ _ h1)
  · exact exA 0 (hX0 _ _ h1)
theorem s94_5 {R : VP} {K1 : VP} {Q : EQ} (hN : ∀ e w, (K1 (e 5) w) → Q .normal e w) (hR : ∀ e w, (R (e 4) w) → Q .ret e w) (hX0 : ∀ e w, (m94_2 R w) → Q (.exit 0) e w) (e : Env) (w : World) (h : m94_5 R K1 (e 0) (e 1) (e 5) w) : W94 k94_5 Q e w := by
  unfold m94_5 at h
  refine seA ?_
  have hN : ∀ e w, (m94_6 R K1 (e 0) (e 1) (e 5) w) → (thenE (W94 k94_6 Q) Q) .normal e w := fun e w h => then_N (s94_6 (R := R) (Q := Q) (K1 := K1) hN hR e w h)
  have hX0 : ∀ e w, (m94_2 R w) → (thenE (W94 k94_6 Q) Q) (.exit 0) e w := fun e w h => then_X (hX0 e w h)
  refine seA ?_
  have hN : ∀ e w, (m94_10 R K1 (e 0) (e 1) (e 5) (e 12) w) → (thenE (W94 k94_10 (thenE (W94 k94_6 Q) Q)) (thenE (W94 k94_6 Q) Q)) .normal e w := fun e w h => then_N (s94_10 (R := R) (Q := (thenE (W94 k94_6 Q) Q)) (K1 := K1) hN hX0 e w h)
  exact rgA 2 (fun e w => m94_10 R K1 (e 0) (e 1) (e 5) (e 12) w) h hN
theorem s94_4 {R : VP} {Q : EQ} (hN : ∀ e w, (m94_2 R w) → Q .normal e w) (hR : ∀ e w, (R (e 4) w) → Q .ret e w) (e : Env) (w : World) (h : m94_4 R (e 0) (e 1) (e 5) w) : W94 k94_4 Q e w := by
  unfold m94_4 at h
  refine block_ok 0 (by kernel_rfl) ?_
  have hX0 : ∀ e w, (m94_2 R w) → (inBlockE 0 Q) (.exit 0) e w := fun e w h => inBlock_same (Q := Q) 0 (hN e w h)
  have hR : ∀ e w, (R (e 4) w) → (inBlockE 0 Q) .ret e w := fun e w h => block_R (hR e w h)
  refine loop_ok' (fun (e : Env) => e 5) [0, 1] (by kernel_rfl) (by kernel_rfl) h (fun K e' w' hk h' => ?_)
  have r0 : e' 0 = e 0 := hk 0 (by decide)
  have r1 : e' 1 = e 1 := hk 1 (by decide)
  have hR : ∀ e w, (R (e 4) w) → (thenE (fun (e : Env) w => K (e 5) w) (inBlockE 0 Q)) .ret e w := fun e w h => then_R (hR e w h)
  have hX0 : ∀ e w, (m94_2 R w) → (thenE (fun (e : Env) w => K (e 5) w) (inBlockE 0 Q)) (.exit 0) e w := fun e w h => then_X (hX0 e w h)
  exact s94_5 (R := R) (Q := (thenE (fun (e : Env) w => K (e 5) w) (inBlockE 0 Q))) (K1 := K) (fun _ _ h => then_N h) hR hX0 e' w' (by rw [r0, r1]; exact h')
theorem s94_1 {R : VP} {Q : EQ} (hR : ∀ e w, (R (e 4) w) → Q .ret e w) (e : Env) (w : World) (h : m94_1 R (e 0) (e 1) w) : W94 k94_1 Q e w := by
  unfold m94_1 at h
  refine seA ?_
  have hN : ∀ e w, (m94_2 R w) → (thenE (W94 k94_2 Q) Q) .normal e w := fun e w h => then_N (s94_2 (R := R) (Q := Q) hR e w h)
  have hR : ∀ e w, (R (e 4) w) → (thenE (W94 k94_2 Q) Q) .ret e w := fun e w h => then_R (hR e w h)
  refine seA ?_
  have hN : ∀ e w, (m94_4 R (e 0) (e 1) (e 5) w) → (thenE (W94 k94_4 (thenE (W94 k94_2 Q) Q)) (thenE (W94 k94_2 Q) Q)) .normal e w := fun e w h => then_N (s94_4 (R := R) (Q := (thenE (W94 k94_2 Q) Q)) hN hR e w h)
  exact rgA 1 (fun e w => m94_4 R (e 0) (e 1) (e 5) w) h hN
theorem s94_0 {R : VP} {Q : EQ} (hR : ∀ e w, (R (e 4) w) → Q .ret e w) (e : Env) (w : World) (h : m94_0 R (e 0) (e 1) w) : W94 k94_0 Q e w := by
  unfold m94_0 at h
  refine seA ?_
  have hN : ∀ e w, (m94_1 R (e 0) (e 1) w) → (thenE (W94 k94_1 Q) Q) .normal e w := fun e w h => then_N (s94_1 (R := R) (Q := Q) hR e w h)
  exact rgA 0 (fun e w => m94_1 R (e 0) (e 1) w) h hN
abbrev m94 (R : VP) (g0 id1 : Value) (w : World) : Prop := m94_0 R g0 id1 w
theorem s94 (g0 id1 : Value) {R : VP} {w : World} (h : m94 R g0 id1 w) :
    Calls Try.prog 94 #[g0, id1] w fun e w' => ∃ v, e = .returned v ∧ R v w' :=
  calls_of_cwp (st := (fun i => 0)) (c := k94_0) (by kernel_rfl) Try.func94 (by kernel_rfl) (Nat.le_of_ble_eq_true (by kernel_rfl)) (by kernel_rfl)
    (s94_0 (R := R) (Q := endE Try.prog Try.f94 R) (fun e w h => kcast (by kernel_rfl) h) (argsE #[g0, id1]) w (kcast (by kernel_rfl) h))
/-! ### (*headgate/headgateref10.Group).heard -/
def m95_2 (R : VP) (g0 i1 m4 : Value) (w : World) : Prop :=
  anyDraw w fun w =>
  nilCheckP g0 fun t19 =>
  valS Try.prog (Instr.fieldAt 86 t19 5) w fun t20 =>
  valS Try.prog (Instr.loadAt 66 t20) w fun t21 =>
  valS Try.prog (Instr.loadAt 69 m4) w fun t23 =>
  valS Try.prog (Instr.indexAt 66 t21 i1) w fun t24 =>
  unitP Try.prog (Instr.storeAt 69 t24 t23) w fun _ w =>
  R (Value.tuple #[]) w
def m95_1 (R : VP) (g0 i1 m4 : Value) (w : World) : Prop :=
  nilCheckP g0 fun t13 =>
  valP Try.prog (Instr.fieldAt 86 t13 4) w fun t14 w =>
  valP Try.prog (Instr.loadAt 3 t14) w fun t15 w =>
  valP Try.prog (binS BinOp.add 3 (Operand.tmp 15) (Operand.const (Value.int IntKind.i64 12)) t15 (Value.int IntKind.i64 12)) w fun t16 w =>
  valP Try.prog (Instr.fieldAt 69 m4 2) w fun t17 w =>
  unitP Try.prog (Instr.storeAt 3 t17 t16) w fun _ w =>
  m95_2 R g0 i1 m4 w
def m95_0 (R : VP) (g0 i1 : Value) (w : World) : Prop :=
  nilCheckP g0 fun t6 =>
  valP Try.prog (Instr.fieldAt 86 t6 5) w fun t7 w =>
  valP Try.prog (Instr.loadAt 66 t7) w fun t8 w =>
  valP Try.prog (Instr.indexAt 66 t8 i1) w fun t10 w =>
  valP Try.prog (Instr.loadAt 69 t10) w fun t11 w =>
  valP Try.prog (Instr.alloc 69 true (.tuple #[])) w fun m4 w =>
  unitP Try.prog (Instr.storeAt 69 m4 t11) w fun _ w =>
  m95_1 R g0 i1 m4 w
abbrev W95 := cwp Try.prog (fun i => cond (Nat.beq i 2) 9 (0))
noncomputable def k95_0 : Code := (bodyOf Try.f95)
noncomputable def k95_1 : Code := (c2 k95_0)
noncomputable def k95_2 : Code := (c2 k95_1)
theorem s95_2 {R : VP} {Q : EQ} (hN : ∀ e w, (R (Value.tuple #[]) w) → Q .normal e w) (e : Env) (w : World) (h : m95_2 R (e 0) (e 1) (e 4) w) : W95 k95_2 Q e w := by
  unfold m95_2 at h
  exact taA 2 7 (fun e w => R (Value.tuple #[]) w) h hN
theorem s95_1 {R : VP} {Q : EQ} (hN : ∀ e w, (R (Value.tuple #[]) w) → Q .normal e w) (e : Env) (w : World) (h : m95_1 R (e 0) (e 1) (e 4) w) : W95 k95_1 Q e w := by
  unfold m95_1 at h
  refine seA ?_
  have hN : ∀ e w, (m95_2 R (e 0) (e 1) (e 4) w) → (thenE (W95 k95_2 Q) Q) .normal e w := fun e w h => then_N (s95_2 (R := R) (Q := Q) hN e w h)
  exact rgA 1 (fun e w => m95_2 R (e 0) (e 1) (e 4) w) h hN
theorem s95_0 {R : VP} {Q : EQ} (hN : ∀ e w, (R (Value.tuple #[]) w) → Q .normal e w) (e : Env) (w : World) (h : m95_0 R (e 0) (e 1) w) : W95 k95_0 Q e w := by
  unfold m95_0 at h
  refine seA ?_
  have hN : ∀ e w, (m95_1 R (e 0) (e 1) (e 4) w) → (thenE (W95 k95_1 Q) Q) .normal e w := fun e w h => then_N (s95_1 (R := R) (Q := Q) hN e w h)
  exact rgA 0 (fun e w => m95_1 R (e 0) (e 1) (e 4) w) h hN
abbrev m95 (R : VP) (g0 i1 : Value) (w : World) : Prop := m95_0 R g0 i1 w
theorem s95 (g0 i1 : Value) {R : VP} {w : World} (h : m95 R g0 i1 w) :
    Calls Try.prog 95 #[g0, i1] w fun e w' => ∃ v, e = .returned v ∧ R v w' :=
  calls_of_cwp (st := (fun i => cond (Nat.beq i 2) 9 (0))) (c := k95_0) (by kernel_rfl) Try.func95 (by kernel_rfl) (Nat.le_of_ble_eq_true (by kernel_rfl)) (by kernel_rfl)
    (s95_0 (R := R) (Q := endE Try.prog Try.f95 R) (fun e w h => kcast (by kernel_rfl) h) (argsE #[g0, i1]) w (kcast (by kernel_rfl) h))
/-! ### slices.IndexFunc[[]headgate/api.Member,headgate/api.Member] -/
def m104_11 (R : VP) (K1 : VP) (t4 : Value) (w : World) : Prop :=
  R t4 w
def m104_8 (R : VP) (K1 : VP) (s0 f1 t7 t8 : Value) (w : World) : Prop :=
  valP Try.prog (binS BinOp.add 3 (Operand.tmp 8) (Operand.const (Value.int IntKind.i64 1)) t8 (Value.int IntKind.i64 1)) w fun t18 w =>
  K1 t18 w
def m104_10 (R : VP) (K1 : VP) (s0 f1 i5 t7 t8 t16 : Value) (w : World) : Prop :=
  condP t16
  (m104_11 R K1 i5 w)
  (m104_8 R K1 s0 f1 t7 t8 w)
def m104_9 (R : VP) (K1 : VP) (s0 f1 i5 t7 t8 : Value) (w : World) : Prop :=
  valP Try.prog (Instr.indexAt 66 s0 i5) w fun t14 w =>
  valP Try.prog (Instr.loadAt 69 t14) w fun t15 w =>
  callP Try.prog f1 #[t15] w fun t16 w =>
  m104_10 R K1 s0 f1 i5 t7 t8 t16 w
def m104_7 (R : VP) (K1 : VP) (s0 f1 t7 t8 : Value) (w : World) : Prop :=
  m104_9 R K1 s0 f1 t8 t7 t8 w
def m104_3 (R : VP) (t4 : Value) (w : World) : Prop :=
  R t4 w
def m104_2 (R : VP) (w : World) : Prop :=
  m104_3 R (Value.int IntKind.i64 (-1)) w
def m104_6 (R : VP) (K1 : VP) (s0 f1 t7 t8 t9 : Value) (w : World) : Prop :=
  condP t9
  (m104_7 R K1 s0 f1 t7 t8 w)
  (m104_2 R w)
def m104_5 (R : VP) (K1 : VP) (s0 f1 t7 t8 : Value) (w : World) : Prop :=
  valP Try.prog (binS BinOp.lss 3 (Operand.tmp 8) (Operand.tmp 7) t8 t7) w fun t9 w =>
  m104_6 R K1 s0 f1 t7 t8 t9 w
def m104_4 (R : VP) (s0 f1 t7 t8 : Value) (w : World) : Prop :=
  loopP (fun (K1 : VP) (s : Value) w => m104_5 R K1 s0 f1 t7 s w) t8 w
def m104_1 (R : VP) (s0 f1 : Value) (w : World) : Prop :=
  builtinP Try.prog Builtin.len #[66] 3 #[false] #[s0] w fun t7 w =>
  m104_4 R s0 f1 t7 (Value.int IntKind.i64 0) w
def m104_0 (R : VP) (s0 f1 : Value) (w : World) : Prop :=
  m104_1 R s0 f1 w
abbrev W104 := cwp Try.prog (fun i => 0)
noncomputable def k104_0 : Code := (bodyOf Try.f104)
noncomputable def k104_1 : Code := (c2 k104_0)
noncomputable def k104_2 : Code := (c2 k104_1)
noncomputable def k104_3 : Code := (c2 k104_2)
noncomputable def k104_4 : Code := (c2 (c1 k104_1))
noncomputable def k104_5 : Code := (c1 (c1 k104_4))
noncomputable def k104_6 : Code := (c2 k104_5)
noncomputable def k104_7 : Code := (c2 k104_6)
noncomputable def k104_8 : Code := (c2 k104_7)
noncomputable def k104_9 : Code := (c2 (c1 (c1 k104_7)))
noncomputable def k104_10 : Code := (c2 k104_9)
noncomputable def k104_11 : Code := (c2 (c1 k104_10))
theorem s104_11 {R : VP} {K1 : VP} {Q : EQ} (hR : ∀ e w, (R (e 4) w) → Q .ret e w) (e : Env) (w : World) (h : m104_11 R K1 (e 4) w) : W104 k104_11 Q e w := by
  unfold m104_11 at h
  exact reA (hR _ _ h)
theorem s104_8 {R : VP} {K1 : VP} {Q : EQ} (hN : ∀ e w, (K1 (e 8) w) → Q .normal e w) (e : Env) (w : World) (h : m104_8 R K1 (e 0) (e 1) (e 7) (e 8) w) : W104 k104_8 Q e w := by
  unfold m104_8 at h
  exact rgA 6 (fun e w => K1 (e 8) w) h hN
theorem s104_10 {R : VP} {K1 : VP} {Q : EQ} (hN : ∀ e w, (m104_8 R K1 (e 0) (e 1) (e 7) (e 8) w) → Q .normal e w) (hR : ∀ e w, (R (e 4) w) → Q .ret e w) (e : Env) (w : World) (h : m104_10 R K1 (e 0) (e 1) (e 5) (e 7) (e 8) (e 16) w) : W104 k104_10 Q e w := by
  unfold m104_10 at h
  refine coA (Operand.tmp 16) h (fun h1 => ?_) (fun h1 => ?_)
  · refine seA ?_
    have hN : ∀ e w, (m104_11 R K1 (e 4) w) → (thenE (W104 k104_11 Q) Q) .normal e w := fun e w h => then_N (s104_11 (R := R) (Q := Q) (K1 := K1) hR e w h)
    exact rgA 5 (fun e w => m104_11 R K1 (e 4) w) h1 hN
  · exact skA (hN _ _ h1)
theorem s104_9 {R : VP} {K1 : VP} {Q : EQ} (hN : ∀ e w, (m104_8 R K1 (e 0) (e 1) (e 7) (e 8) w) → Q .normal e w) (hR : ∀ e w, (R (e 4) w) → Q .ret e w) (e : Env) (w : World) (h : m104_9 R K1 (e 0) (e 1) (e 5) (e 7) (e 8) w) : W104 k104_9 Q e w := by
  unfold m104_9 at h
  refine seA ?_
  have hN : ∀ e w, (m104_10 R K1 (e 0) (e 1) (e 5) (e 7) (e 8) (e 16) w) → (thenE (W104 k104_10 Q) Q) .normal e w := fun e w h => then_N (s104_10 (R := R) (Q := Q) (K1 := K1) hN hR e w h)
  exact rgA 4 (fun e w => m104_10 R K1 (e 0) (e 1) (e 5) (e 7) (e 8) (e 16) w) h hN
theorem s104_7 {R : VP} {K1 : VP} {Q : EQ} (hN : ∀ e w, (K1 (e 8) w) → Q .normal e w) (hR : ∀ e w, (R (e 4) w) → Q .ret e w) (e : Env) (w : World) (h : m104_7 R K1 (e 0) (e 1) (e 7) (e 8) w) : W104 k104_7 Q e w := by
  unfold m104_7 at h
  refine seA ?_
  have hN : ∀ e w, (m104_8 R K1 (e 0) (e 1) (e 7) (e 8) w) → (thenE (W104 k104_8 Q) Q) .normal e w := fun e w h => then_N (s104_8 (R := R) (Q := Q) (K1 := K1) hN e w h)
  have hR : ∀ e w, (R (e 4) w) → (thenE (W104 k104_8 Q) Q) .ret e w := fun e w h => then_R (hR e w h)
  refine block_ok 1 (by kernel_rfl) ?_
  have hN : ∀ e w, (m104_8 R K1 (e 0) (e 1) (e 7) (e 8) w) → (inBlockE 1 (thenE (W104 k104_8 Q) Q)) .normal e w := fun e w h => block_N (hN e w h)
  have hR : ∀ e w, (R (e 4) w) → (inBlockE 1 (thenE (W104 k104_8 Q) Q)) .ret e w := fun e w h => block_R (hR e w h)
  refine seA ?_
  have hN : ∀ e w, (m104_9 R K1 (e 0) (e 1) (e 5) (e 7) (e 8) w) → (thenE (W104 k104_9 (inBlockE 1 (thenE (W104 k104_8 Q) Q))) (inBlockE 1 (thenE (W104 k104_8 Q) Q))) .normal e w := fun e w h => then_N (s104_9 (R := R) (Q := (inBlockE 1 (thenE (W104 k104_8 Q) Q))) (K1 := K1) hN hR e w h)
  exact rgA 3 (fun e w => m104_9 R K1 (e 0) (e 1) (e 5) (e 7) (e 8) w) h hN
theorem s104_3 {R : VP} {Q : EQ} (hR : ∀ e w, (R (e 4) w) → Q .ret e w) (e : Env) (w : World) (h : m104_3 R (e 4) w) : W104 k104_3 Q e w := by
  unfold m104_3 at h
  exact reA (hR _ _ h)
theorem s104_2 {R : VP} {Q : EQ} (hR : ∀ e w, (R (e 4) w) → Q .ret e w) (e : Env) (w : World) (h : m104_2 R w) : W104 k104_2 Q e w := by
  unfold m104_2 at h
  refine seA ?_
  have hN : ∀ e w, (m104_3 R (e 4) w) → (thenE (W104 k104_3 Q) Q) .normal e w := fun e w h => then_N (s104_3 (R := R) (Q := Q) hR e w h)
  exact rgA 7 (fun e w => m104_3 R (e 4) w) h hN
theorem s104_6 {R : VP} {K1 : VP} {Q : EQ} (hN : ∀ e w, (K1 (e 8) w) → Q .normal e w) (hR : ∀ e w, (R (e 4) w) → Q .ret e w) (hX0 : ∀ e w, (m104_2 R w) → Q (.exit 0) e w) (e : Env) (w : World) (h : m104_6 R K1 (e 0) (e 1) (e 7) (e 8) (e 9) w) : W104 k104_6 Q e w := by
  unfold m104_6 at h
  refine seA ?_
  have hN : ∀ e w, (m104_7 R K1 (e 0) (e 1) (e 7) (e 8) w) → (thenE (W104 k104_7 Q) Q) .normal e w := fun e w h => then_N (s104_7 (R := R) (Q := Q) (K1 := K1) hN hR e w h)
  have hX0 : ∀ e w, (m104_2 R w) → (thenE (W104 k104_7 Q) Q) (.exit 0) e w := fun e w h => then_X (hX0 e w h)
  refine coA (Operand.tmp 9) h (fun h1 => ?_) (fun h1 => ?_)
  · exact skA (hN _ _ h1)
  · exact exA 0 (hX0 _ _ h1)
theorem s104_5 {R : VP} {K1 : VP} {Q : EQ} (hN : ∀ e w, (K1 (e 8) w) → Q .normal e w) (hR : ∀ e w, (R (e 4) w) → Q .ret e w) (hX0 : ∀ e w, (m104_2 R w) → Q (.exit 0) e w) (e : Env) (w : World) (h : m104_5 R K1 (e 0) (e 1) (e 7) (e 8) w) : W104 k104_5 Q e w := by
  unfold m104_5 at h
  refine seA ?_
  have hN : ∀ e w, (m104_6 R K1 (e 0) (e 1) (e 7) (e 8) (e 9) w) → (thenE (W104 k104_6 Q) Q) .normal e w := fun e w h => then_N (s104_6 (R := R) (Q := Q) (K1 := K1) hN hR hX0 e w h)
  exact rgA 2 (fun e w => m104_6 R K1 (e 0) (e 1) (e 7) (e 8) (e 9) w) h hN
theorem s104_4 {R : VP} {Q : EQ} (hN : ∀ e w, (m104_2 R w) → Q .normal e w) (hR : ∀ e w, (R (e 4) w) → Q .ret e w) (e : Env) (w : World) (h : m104_4 R (e 0) (e 1) (e 7) (e 8) w) : W104 k104_4 Q e w := by
  unfold m104_4 at h
  refine block_ok 0 (by kernel_rfl) ?_
  have hX0 : ∀ e w, (m104_2 R w) → (inBlockE 0 Q) (.exit 0) e w := fun e w h => inBlock_same (Q := Q) 0 (hN e w h)
  have hR : ∀ e w, (R (e 4) w) → (inBlockE 0 Q) .ret e w := fun e w h => block_R (hR e w h)
  refine loop_ok' (fun (e : Env) => e 8) [0, 1, 7] (by kernel_rfl) (by kernel_rfl) h (fun K e' w' hk h' => ?_)
  have r0 : e' 0 = e 0 := hk 0 (by decide)
  have r1 : e' 1 = e 1 := hk 1 (by decide)
  have r7 : e' 7 = e 7 := hk 7 (by decide)
  have hR : ∀ e w, (R (e 4) w) → (thenE (fun (e : Env) w => K (e 8) w) (inBlockE 0 Q)) .ret e w := fun e w h => then_R (hR e w h)
  have hX0 : ∀ e w, (m104_2 R w) → (thenE (fun (e : Env) w => K (e 8) w) (inBlockE 0 Q)) (.exit 0) e w := fun e w h => then_X (hX0 e w h)
  exact s104_5 (R := R) (Q := (thenE (fun (e : Env) w => K (e 8) w) (inBlockE 0 Q))) (K1 := K) (fun _ _ h => then_N h) hR hX0 e' w' (by rw [r0, r1, r7]; exact h')
theorem s104_1 {R : VP} {Q : EQ} (hR : ∀ e w, (R (e 4) w) → Q .ret e w) (e : Env) (w : World) (h : m104_1 R (e 0) (e 1) w) : W104 k104_1 Q e w := by
  unfold m104_1 at h
  refine seA ?_
  have hN : ∀ e w, (m104_2 R w) → (thenE (W104 k104_2 Q) Q) .normal e w := fun e w h => then_N (s104_2 (R := R) (Q := Q) hR e w h)
  have hR : ∀ e w, (R (e 4) w) → (thenE (W104 k104_2 Q) Q) .ret e w := fun e w h => then_R (hR e w h)
  refine seA ?_
  have hN : ∀ e w, (m104_4 R (e 0) (e 1) (e 7) (e 8) w) → (thenE (W104 k104_4 (thenE (W104 k104_2 Q) Q)) (thenE (W104 k104_2 Q) Q)) .normal e w := fun e w h => then_N (s104_4 (R := R) (Q := (thenE (W104 k104_2 Q) Q)) hN hR e w h)
  exact rgA 1 (fun e w => m104_4 R (e 0) (e 1) (e 7) (e 8) w) h hN
theorem s104_0 {R : VP} {Q : EQ} (hR : ∀ e w, (R (e 4) w) → Q .ret e w) (e : Env) (w : World) (h : m104_0 R (e 0) (e 1) w) : W104 k104_0 Q e w := by
  unfold m104_0 at h
  refine seA ?_
  have hN : ∀ e w, (m104_1 R (e 0) (e 1) w) → (thenE (W104 k104_1 Q) Q) .normal e w := fun e w h => then_N (s104_1 (R := R) (Q := Q) hR e w h)
  exact rgA 0 (fun e w => m104_1 R (e 0) (e 1) w) h hN
abbrev m104 (R : VP) (s0 f1 : Value) (w : World) : Prop := m104_0 R s0 f1 w
theorem s104 (s0 f1 : Value) {R : VP} {w : World} (h : m104 R s0 f1 w) :
    Calls Try.prog 104 #[s0, f1] w fun e w' => ∃ v, e = .returned v ∧ R v w' :=
  calls_of_cwp (st := (fun i => 0)) (c := k104_0) (by kernel_rfl) Try.func104 (by kernel_rfl) (Nat.le_of_ble_eq_true (by kernel_rfl)) (by kernel_rfl)
    (s104_0 (R := R) (Q := endE Try.prog Try.f104 R) (fun e w h => kcast (by kernel_rfl) h) (argsE #[s0, f1]) w (kcast (by kernel_rfl) h))
end Go.Proofs.Ytjjmlopmemmobaa.M
