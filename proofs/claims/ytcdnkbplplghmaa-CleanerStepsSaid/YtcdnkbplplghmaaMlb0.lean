/- What functions' texts ask of their ends, told over values that have names; printed by a program of this work. -/
import Derived.Test.YtcdnkbplplghmaaFw
import Derived.Test.YtcdnkbplplghmaaProg
namespace Go.Proofs.Ytcdnkbplplghmaa.M
open Go.Proofs.Ytcdnkbplplghmaa.F
set_option linter.unusedVariables false
set_option maxRecDepth 100000
/-! ### headgate/headgatelaw33.CleanerSteps -/
def m5_10 (R : VP) (K1 : VP) (l0 upto1 more2 i7 : Value) (w : World) : Prop :=
  valP Try.prog (binS BinOp.add 3 (Operand.tmp 14) (Operand.const (Value.int IntKind.i64 1)) i7 (Value.int IntKind.i64 1)) w fun t15 w =>
  K1 t15 w
def m5_9 (R : VP) (K1 : VP) (l0 upto1 more2 i7 : Value) (w : World) : Prop :=
  valP Try.prog (Instr.indexAt 22 l0 i7) w fun t19 w =>
  valP Try.prog (Instr.fieldAt 40 t19 0) w fun t20 w =>
  unitP Try.prog (Instr.storeAt 3 t20 i7) w fun _ w =>
  m5_10 R K1 l0 upto1 more2 i7 w
def m5_6 (R : VP) (t6 : Value) (w : World) : Prop :=
  R t6 w
def m5_5 (R : VP) (l0 upto1 more2 : Value) (w : World) : Prop :=
  callP Try.prog (fnV 10) #[l0, upto1] w fun t29 w =>
  callP Try.prog (fnV 10) #[t29, more2] w fun t31 w =>
  callP Try.prog (fnV 10) #[l0, more2] w fun t34 w =>
  callP Try.prog (fnV 9) #[t31, t34] w fun t35 w =>
  condP t35
  (callP Try.prog (fnV 12) #[] w fun t37 w =>
  pickP t35 t37 (Value.bool false) fun t38 =>
  m5_6 R t38 w)
  (pickP t35 undef (Value.bool false) fun t38 =>
  m5_6 R t38 w)
def m5_4 (R : VP) (l0 upto1 more2 : Value) (w : World) : Prop :=
  valP Try.prog (binS BinOp.and 3 (Operand.tmp 24) (Operand.const (Value.int IntKind.i64 255)) more2 (Value.int IntKind.i64 255)) w fun t25 w =>
  valP Try.prog (binS BinOp.add 3 (Operand.tmp 23) (Operand.tmp 25) upto1 t25) w fun t26 w =>
  m5_5 R l0 upto1 t26 w
def m5_3 (R : VP) (l0 upto1 more2 : Value) (w : World) : Prop :=
  valP Try.prog (binS BinOp.and 3 (Operand.tmp 21) (Operand.const (Value.int IntKind.i64 255)) upto1 (Value.int IntKind.i64 255)) w fun t22 w =>
  m5_4 R l0 t22 more2 w
def m5_11 (R : VP) (K1 : VP) (l0 upto1 more2 i7 t13 : Value) (w : World) : Prop :=
  condP t13
  (m5_9 R K1 l0 upto1 more2 i7 w)
  (m5_3 R l0 upto1 more2 w)
def m5_8 (R : VP) (K1 : VP) (l0 upto1 more2 i7 : Value) (w : World) : Prop :=
  builtinP Try.prog Builtin.len #[22] 3 #[false] #[l0] w fun t12 w =>
  valP Try.prog (binS BinOp.lss 3 (Operand.tmp 10) (Operand.tmp 12) i7 t12) w fun t13 w =>
  m5_11 R K1 l0 upto1 more2 i7 t13 w
def m5_7 (R : VP) (l0 upto1 more2 i7 : Value) (w : World) : Prop :=
  loopP (fun (K1 : VP) (s : Value) w => m5_8 R K1 l0 upto1 more2 s w) i7 w
def m5_2 (R : VP) (l0 upto1 more2 : Value) (w : World) : Prop :=
  m5_7 R l0 upto1 more2 (Value.int IntKind.i64 0) w
def m5_1 (R : VP) (l0 upto1 more2 : Value) (w : World) : Prop :=
  callP Try.prog (fnV 8) #[l0] w fun t9 w =>
  m5_2 R t9 upto1 more2 w
def m5_0 (R : VP) (l0 upto1 more2 : Value) (w : World) : Prop :=
  m5_1 R l0 upto1 more2 w
abbrev W5 := cwp Try.prog (fun i => 0)
noncomputable def k5_0 : Code := (bodyOf Try.f5)
noncomputable def k5_1 : Code := (c2 k5_0)
noncomputable def k5_2 : Code := (c2 k5_1)
noncomputable def k5_3 : Code := (c2 k5_2)
noncomputable def k5_4 : Code := (c2 k5_3)
noncomputable def k5_5 : Code := (c2 k5_4)
noncomputable def k5_6 : Code := (c2 k5_5)
noncomputable def k5_7 : Code := (c2 (c1 k5_2))
noncomputable def k5_8 : Code := (c1 (c1 k5_7))
noncomputable def k5_9 : Code := (c2 k5_8)
noncomputable def k5_10 : Code := (c2 k5_9)
noncomputable def k5_11 : Code := (c2 (c1 k5_8))
theorem s5_10 {R : VP} {K1 : VP} {Q : EQ} (hN : ∀ e w, (K1 (e 7) w) → Q .normal e w) (e : Env) (w : World) (h : m5_10 R K1 (e 0) (e 1) (e 2) (e 7) w) : W5 k5_10 Q e w := by
  unfold m5_10 at h
  exact rgA 4 (fun e w => K1 (e 7) w) h hN
theorem s5_9 {R : VP} {K1 : VP} {Q : EQ} (hN : ∀ e w, (K1 (e 7) w) → Q .normal e w) (e : Env) (w : World) (h : m5_9 R K1 (e 0) (e 1) (e 2) (e 7) w) : W5 k5_9 Q e w := by
  unfold m5_9 at h
  refine seA ?_
  have hN : ∀ e w, (m5_10 R K1 (e 0) (e 1) (e 2) (e 7) w) → (thenE (W5 k5_10 Q) Q) .normal e w := fun e w h => then_N (s5_10 (R := R) (Q := Q) (K1 := K1) hN e w h)
  refine block_ok 1 (by kernel_rfl) ?_
  have hN : ∀ e w, (m5_10 R K1 (e 0) (e 1) (e 2) (e 7) w) → (inBlockE 1 (thenE (W5 k5_10 Q) Q)) .normal e w := fun e w h => block_N (hN e w h)
  exact rgA 5 (fun e w => m5_10 R K1 (e 0) (e 1) (e 2) (e 7) w) h hN
theorem s5_6 {R : VP} {Q : EQ} (hR : ∀ e w, (R (e 6) w) → Q .ret e w) (e : Env) (w : World) (h : m5_6 R (e 6) w) : W5 k5_6 Q e w := by
  unfold m5_6 at h
  exact reA (hR _ _ h)
theorem s5_5 {R : VP} {Q : EQ} (hR : ∀ e w, (R (e 6) w) → Q .ret e w) (e : Env) (w : World) (h : m5_5 R (e 0) (e 1) (e 2) w) : W5 k5_5 Q e w := by
  unfold m5_5 at h
  refine seA ?_
  have hN : ∀ e w, (m5_6 R (e 6) w) → (thenE (W5 k5_6 Q) Q) .normal e w := fun e w h => then_N (s5_6 (R := R) (Q := Q) hR e w h)
  exact rgA 8 (fun e w => m5_6 R (e 6) w) h hN
theorem s5_4 {R : VP} {Q : EQ} (hR : ∀ e w, (R (e 6) w) → Q .ret e w) (e : Env) (w : World) (h : m5_4 R (e 0) (e 1) (e 2) w) : W5 k5_4 Q e w := by
  unfold m5_4 at h
  refine seA ?_
  have hN : ∀ e w, (m5_5 R (e 0) (e 1) (e 2) w) → (thenE (W5 k5_5 Q) Q) .normal e w := fun e w h => then_N (s5_5 (R := R) (Q := Q) hR e w h)
  exact rgA 7 (fun e w => m5_5 R (e 0) (e 1) (e 2) w) h hN
theorem s5_3 {R : VP} {Q : EQ} (hR : ∀ e w, (R (e 6) w) → Q .ret e w) (e : Env) (w : World) (h : m5_3 R (e 0) (e 1) (e 2) w) : W5 k5_3 Q e w := by
  unfold m5_3 at h
  refine seA ?_
  have hN : ∀ e w, (m5_4 R (e 0) (e 1) (e 2) w) → (thenE (W5 k5_4 Q) Q) .normal e w := fun e w h => then_N (s5_4 (R := R) (Q := Q) hR e w h)
  exact rgA 6 (fun e w => m5_4 R (e 0) (e 1) (e 2) w) h hN
theorem s5_11 {R : VP} {K1 : VP} {Q : EQ} (hN : ∀ e w, (m5_9 R K1 (e 0) (e 1) (e 2) (e 7) w) → Q .normal e w) (hX0 : ∀ e w, (m5_3 R (e 0) (e 1) (e 2) w) → Q (.exit 0) e w) (e : Env) (w : World) (h : m5_11 R K1 (e 0) (e 1) (e 2) (e 7) (e 13) w) : W5 k5_11 Q e w := by
  unfold m5_11 at h
  refine coA (Operand.tmp 13) h (fun h1 => ?_) (fun h1 => ?_)
  · exact skA (hN _ _ h1)
  · exact exA 0 (hX0 _ _ h1)
theorem s5_8 {R : VP} {K1 : VP} {Q : EQ} (hN : ∀ e w, (K1 (e 7) w) → Q .normal e w) (hX0 : ∀ e w, (m5_3 R (e 0) (e 1) (e 2) w) → Q (.exit 0) e w) (e : Env) (w : World) (h : m5_8 R K1 (e 0) (e 1) (e 2) (e 7) w) : W5 k5_8 Q e w := by
  unfold m5_8 at h
  refine seA ?_
  have hN : ∀ e w, (m5_9 R K1 (e 0) (e 1) (e 2) (e 7) w) → (thenE (W5 k5_9 Q) Q) .normal e w := fun e w h => then_N (s5_9 (R := R) (Q := Q) (K1 := K1) hN e w h)
  have hX0 : ∀ e w, (m5_3 R (e 0) (e 1) (e 2) w) → (thenE (W5 k5_9 Q) Q) (.exit 0) e w := fun e w h => then_X (hX0 e w h)
  refine seA ?_
  have hN : ∀ e w, (m5_11 R K1 (e 0) (e 1) (e 2) (e 7) (e 13) w) → (thenE (W5 k5_11 (thenE (W5 k5_9 Q) Q)) (thenE (W5 k5_9 Q) Q)) .normal e w := fun e w h => then_N (s5_11 (R := R) (Q := (thenE (W5 k5_9 Q) Q)) (K1 := K1) hN hX0 e w h)
  exact rgA 3 (fun e w => m5_11 R K1 (e 0) (e 1) (e 2) (e 7) (e 13) w) h hN
theorem s5_7 {R : VP} {Q : EQ} (hN : ∀ e w, (m5_3 R (e 0) (e 1) (e 2) w) → Q .normal e w) (e : Env) (w : World) (h : m5_7 R (e 0) (e 1) (e 2) (e 7) w) : W5 k5_7 Q e w := by
  unfold m5_7 at h
  refine block_ok 0 (by kernel_rfl) ?_
  have hX0 : ∀ e w, (m5_3 R (e 0) (e 1) (e 2) w) → (inBlockE 0 Q) (.exit 0) e w := fun e w h => inBlock_same (Q := Q) 0 (hN e w h)
  refine loop_ok' (fun (e : Env) => e 7) [0, 1, 2] (by kernel_rfl) (by kernel_rfl) h (fun K e' w' hk h' => ?_)
  have r0 : e' 0 = e 0 := hk 0 (by decide)
  have r1 : e' 1 = e 1 := hk 1 (by decide)
  have r2 : e' 2 = e 2 := hk 2 (by decide)
  have hX0 : ∀ e w, (m5_3 R (e 0) (e 1) (e 2) w) → (thenE (fun (e : Env) w => K (e 7) w) (inBlockE 0 Q)) (.exit 0) e w := fun e w h => then_X (hX0 e w h)
  exact s5_8 (R := R) (Q := (thenE (fun (e : Env) w => K (e 7) w) (inBlockE 0 Q))) (K1 := K) (fun _ _ h => then_N h) hX0 e' w' (by rw [r0, r1, r2]; exact h')
theorem s5_2 {R : VP} {Q : EQ} (hR : ∀ e w, (R (e 6) w) → Q .ret e w) (e : Env) (w : World) (h : m5_2 R (e 0) (e 1) (e 2) w) : W5 k5_2 Q e w := by
  unfold m5_2 at h
  refine seA ?_
  have hN : ∀ e w, (m5_3 R (e 0) (e 1) (e 2) w) → (thenE (W5 k5_3 Q) Q) .normal e w := fun e w h => then_N (s5_3 (R := R) (Q := Q) hR e w h)
  refine seA ?_
  have hN : ∀ e w, (m5_7 R (e 0) (e 1) (e 2) (e 7) w) → (thenE (W5 k5_7 (thenE (W5 k5_3 Q) Q)) (thenE (W5 k5_3 Q) Q)) .normal e w := fun e w h => then_N (s5_7 (R := R) (Q := (thenE (W5 k5_3 Q) Q)) hN e w h)
  exact rgA 2 (fun e w => m5_7 R (e 0) (e 1) (e 2) (e 7) w) h hN
theorem s5_1 {R : VP} {Q : EQ} (hR : ∀ e w, (R (e 6) w) → Q .ret e w) (e : Env) (w : World) (h : m5_1 R (e 0) (e 1) (e 2) w) : W5 k5_1 Q e w := by
  unfold m5_1 at h
  refine seA ?_
  have hN : ∀ e w, (m5_2 R (e 0) (e 1) (e 2) w) → (thenE (W5 k5_2 Q) Q) .normal e w := fun e w h => then_N (s5_2 (R := R) (Q := Q) hR e w h)
  exact rgA 1 (fun e w => m5_2 R (e 0) (e 1) (e 2) w) h hN
theorem s5_0 {R : VP} {Q : EQ} (hR : ∀ e w, (R (e 6) w) → Q .ret e w) (e : Env) (w : World) (h : m5_0 R (e 0) (e 1) (e 2) w) : W5 k5_0 Q e w := by
  unfold m5_0 at h
  refine seA ?_
  have hN : ∀ e w, (m5_1 R (e 0) (e 1) (e 2) w) → (thenE (W5 k5_1 Q) Q) .normal e w := fun e w h => then_N (s5_1 (R := R) (Q := Q) hR e w h)
  exact rgA 0 (fun e w => m5_1 R (e 0) (e 1) (e 2) w) h hN
abbrev m5 (R : VP) (l0 upto1 more2 : Value) (w : World) : Prop := m5_0 R l0 upto1 more2 w
theorem s5 (l0 upto1 more2 : Value) {R : VP} {w : World} (h : m5 R l0 upto1 more2 w) :
    Calls Try.prog 5 #[l0, upto1, more2] w fun e w' => ∃ v, e = .returned v ∧ R v w' :=
  calls_of_cwp (st := (fun i => 0)) (c := k5_0) (by kernel_rfl) Try.func5 (by kernel_rfl) (Nat.le_of_ble_eq_true (by kernel_rfl)) (by kernel_rfl)
    (s5_0 (R := R) (Q := endE Try.prog Try.f5 R) (fun e w h => kcast (by kernel_rfl) h) (argsE #[l0, upto1, more2]) w (kcast (by kernel_rfl) h))
end Go.Proofs.Ytcdnkbplplghmaa.M
