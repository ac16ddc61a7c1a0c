/- What functions' texts ask of their ends, told over values that have names; printed by a program of this work. -/
import Derived.Test.YtlgafiekogajfaaFw
import Derived.Test.YtlgafiekogajfaaProg
namespace Go.Proofs.Ytlgafiekogajfaa.M
open Go.Proofs.Ytlgafiekogajfaa.F
set_option linter.unusedVariables false
set_option maxRecDepth 100000
/-! ### headgate/headgatelaw09.some -/
def m10_5 (R : Value → World → Prop) (t2 : Value) (w : World) : Prop :=
  R t2 w
def m10_3 (R : Value → World → Prop) (t2 : Value) (w : World) : Prop :=
  R t2 w
def m10_2 (R : Value → World → Prop) (l0 : Value) (w : World) : Prop :=
  m10_3 R l0 w
def m10_4 (R : Value → World → Prop) (l0 : Value) (t5 : Value) (w : World) : Prop :=
  condP t5
  (valP Try.prog (Instr.sliceAt 22 l0 none (some (Value.int IntKind.i64 70)) none) w fun t7 w =>
  m10_5 R t7 w)
  (m10_2 R l0 w)
def m10_1 (R : Value → World → Prop) (l0 : Value) (w : World) : Prop :=
  builtinP Try.prog Builtin.len #[22] 3 #[false] #[l0] w fun t4 w =>
  valP Try.prog (binS BinOp.gtr 3 (Operand.tmp 4) (Operand.const (Value.int IntKind.i64 70)) t4 (Value.int IntKind.i64 70)) w fun t5 w =>
  m10_4 R l0 t5 w
def m10_0 (R : Value → World → Prop) (l0 : Value) (w : World) : Prop :=
  m10_1 R l0 w
abbrev W10 := cwp Try.prog (fun i => 0)
noncomputable def k10_0 : Code := (bodyOf Try.f10)
noncomputable def k10_1 : Code := (c2 k10_0)
noncomputable def k10_2 : Code := (c2 k10_1)
noncomputable def k10_3 : Code := (c2 k10_2)
noncomputable def k10_4 : Code := (c2 (c1 k10_1))
noncomputable def k10_5 : Code := (c2 (c1 k10_4))
theorem s10_5 {R : Value → World → Prop} {Q : Exit → Env → World → Prop} (hR : ∀ e w, (R (e 2) w) → Q .ret e w) (e : Env) (w : World) (h : m10_5 R (e 2) w) : W10 k10_5 Q e w := by
  unfold m10_5 at h
  exact ret_ok (by kernel_rfl) (hR _ _ h)
theorem s10_3 {R : Value → World → Prop} {Q : Exit → Env → World → Prop} (hR : ∀ e w, (R (e 2) w) → Q .ret e w) (e : Env) (w : World) (h : m10_3 R (e 2) w) : W10 k10_3 Q e w := by
  unfold m10_3 at h
  exact ret_ok (by kernel_rfl) (hR _ _ h)
theorem s10_2 {R : Value → World → Prop} {Q : Exit → Env → World → Prop} (hR : ∀ e w, (R (e 2) w) → Q .ret e w) (e : Env) (w : World) (h : m10_2 R (e 0) w) : W10 k10_2 Q e w := by
  unfold m10_2 at h
  refine seq_ok' (by kernel_rfl) ?_
  have hN' : ∀ e w, (m10_3 R (e 2) w) → (thenE (W10 k10_3 Q) Q) .normal e w := fun e w h => then_N (s10_3 (R := R) (Q := Q) hR e w h)
  have hN := hN'
  exact region_ok 3 (fun e w => m10_3 R (e 2) w) (by kernel_rfl) (kcast (by kernel_rfl) h) hN (by kernel_rfl)
theorem s10_4 {R : Value → World → Prop} {Q : Exit → Env → World → Prop} (hN : ∀ e w, (m10_2 R (e 0) w) → Q .normal e w) (hR : ∀ e w, (R (e 2) w) → Q .ret e w) (e : Env) (w : World) (h : m10_4 R (e 0) (e 5) w) : W10 k10_4 Q e w := by
  unfold m10_4 at h
  refine cond_ok (Operand.tmp 5) (by kernel_rfl) h (fun h1 => ?_) (fun h1 => ?_)
  · refine seq_ok' (by kernel_rfl) ?_
    have hN' : ∀ e w, (m10_5 R (e 2) w) → (thenE (W10 k10_5 Q) Q) .normal e w := fun e w h => then_N (s10_5 (R := R) (Q := Q) hR e w h)
    have hN := hN'
    exact region_ok 2 (fun e w => m10_5 R (e 2) w) (by kernel_rfl) (kcast (by kernel_rfl) h1) hN (by kernel_rfl)
  · exact skip_ok (by kernel_rfl) (hN _ _ h1)
theorem s10_1 {R : Value → World → Prop} {Q : Exit → Env → World → Prop} (hR : ∀ e w, (R (e 2) w) → Q .ret e w) (e : Env) (w : World) (h : m10_1 R (e 0) w) : W10 k10_1 Q e w := by
  unfold m10_1 at h
  refine seq_ok' (by kernel_rfl) ?_
  have hN' : ∀ e w, (m10_2 R (e 0) w) → (thenE (W10 k10_2 Q) Q) .normal e w := fun e w h => then_N (s10_2 (R := R) (Q := Q) hR e w h)
  have hR : ∀ e w, (R (e 2) w) → (thenE (W10 k10_2 Q) Q) .ret e w := fun e w h => then_R (hR e w h)
  have hN := hN'
  refine seq_ok' (by kernel_rfl) ?_
  have hN' : ∀ e w, (m10_4 R (e 0) (e 5) w) → (thenE (W10 k10_4 (thenE (W10 k10_2 Q) Q)) (thenE (W10 k10_2 Q) Q)) .normal e w := fun e w h => then_N (s10_4 (R := R) (Q := (thenE (W10 k10_2 Q) Q)) hN hR e w h)
  have hN := hN'
  exact region_ok 1 (fun e w => m10_4 R (e 0) (e 5) w) (by kernel_rfl) (kcast (by kernel_rfl) h) hN (by kernel_rfl)
theorem s10_0 {R : Value → World → Prop} {Q : Exit → Env → World → Prop} (hR : ∀ e w, (R (e 2) w) → Q .ret e w) (e : Env) (w : World) (h : m10_0 R (e 0) w) : W10 k10_0 Q e w := by
  unfold m10_0 at h
  refine seq_ok' (by kernel_rfl) ?_
  have hN' : ∀ e w, (m10_1 R (e 0) w) → (thenE (W10 k10_1 Q) Q) .normal e w := fun e w h => then_N (s10_1 (R := R) (Q := Q) hR e w h)
  have hN := hN'
  exact region_ok 0 (fun e w => m10_1 R (e 0) w) (by kernel_rfl) (kcast (by kernel_rfl) h) hN (by kernel_rfl)
abbrev m10 (R : Value → World → Prop) (l0 : Value) (w : World) : Prop := m10_0 R l0 w
theorem s10 (l0 : Value) {R : Value → World → Prop} {w : World} (h : m10 R l0 w) :
    Calls Try.prog 10 #[l0] w fun e w' => ∃ v, e = .returned v ∧ R v w' :=
  calls_of_cwp (st := (fun i => 0)) (c := k10_0) (by kernel_rfl) Try.func10 (by kernel_rfl) (Nat.le_of_ble_eq_true (by kernel_rfl)) (by kernel_rfl)
    (s10_0 (R := R) (Q := endE Try.prog Try.f10 R) (fun e w h => kcast (by kernel_rfl) h) (argsE #[l0]) w (kcast (by kernel_rfl) h))
/-! ### headgate/headgateref01.Same -/
def m13_13 (R : Value → World → Prop) (t4 : Value) (w : World) : Prop :=
  R t4 w
def m13_10 (R : Value → World → Prop) (K1 : Value → World → Prop) (t4 : Value) (w : World) : Prop :=
  R t4 w
def m13_8 (R : Value → World → Prop) (K1 : Value → World → Prop) (a0 : Value) (b1 : Value) (i5 : Value) (w : World) : Prop :=
  valP Try.prog (binS BinOp.add 3 (Operand.tmp 15) (Operand.const (Value.int IntKind.i64 1)) i5 (Value.int IntKind.i64 1)) w fun t16 w =>
  K1 t16 w
def m13_9 (R : Value → World → Prop) (K1 : Value → World → Prop) (a0 : Value) (b1 : Value) (i5 : Value) (t25 : Value) (w : World) : Prop :=
  condP t25
  (m13_10 R K1 (Value.bool false) w)
  (m13_8 R K1 a0 b1 i5 w)
def m13_7 (R : Value → World → Prop) (K1 : Value → World → Prop) (a0 : Value) (b1 : Value) (i5 : Value) (w : World) : Prop :=
  valQ Try.prog (Instr.indexAt 22 a0 i5) w fun t19 =>
  valQ Try.prog (Instr.loadAt 3 t19) w fun t20 =>
  valQ Try.prog (Instr.indexAt 22 b1 i5) w fun t23 =>
  valQ Try.prog (Instr.loadAt 3 t23) w fun t24 =>
  valQ Try.prog (binS BinOp.neq 3 (Operand.tmp 20) (Operand.tmp 24) t20 t24) w fun t25 =>
  anyDraw w fun w =>
  m13_9 R K1 a0 b1 i5 t25 w
def m13_4 (R : Value → World → Prop) (t4 : Value) (w : World) : Prop :=
  R t4 w
def m13_3 (R : Value → World → Prop) (w : World) : Prop :=
  m13_4 R (Value.bool true) w
def m13_11 (R : Value → World → Prop) (K1 : Value → World → Prop) (a0 : Value) (b1 : Value) (i5 : Value) (t14 : Value) (w : World) : Prop :=
  condP t14
  (m13_7 R K1 a0 b1 i5 w)
  (m13_3 R w)
def m13_6 (R : Value → World → Prop) (K1 : Value → World → Prop) (a0 : Value) (b1 : Value) (i5 : Value) (w : World) : Prop :=
  builtinP Try.prog Builtin.len #[22] 3 #[false] #[a0] w fun t13 w =>
  valP Try.prog (binS BinOp.lss 3 (Operand.tmp 11) (Operand.tmp 13) i5 t13) w fun t14 w =>
  m13_11 R K1 a0 b1 i5 t14 w
def m13_5 (R : Value → World → Prop) (a0 : Value) (b1 : Value) (i5 : Value) (w : World) : Prop :=
  loopP (fun (K1 : Value → World → Prop) (s : Value) w => m13_6 R K1 a0 b1 s w) i5 w
def m13_2 (R : Value → World → Prop) (a0 : Value) (b1 : Value) (w : World) : Prop :=
  m13_5 R a0 b1 (Value.int IntKind.i64 0) w
def m13_12 (R : Value → World → Prop) (a0 : Value) (b1 : Value) (t10 : Value) (w : World) : Prop :=
  condP t10
  (m13_13 R (Value.bool false) w)
  (m13_2 R a0 b1 w)
def m13_1 (R : Value → World → Prop) (a0 : Value) (b1 : Value) (w : World) : Prop :=
  builtinP Try.prog Builtin.len #[22] 3 #[false] #[a0] w fun t7 w =>
  builtinP Try.prog Builtin.len #[22] 3 #[false] #[b1] w fun t9 w =>
  valP Try.prog (binS BinOp.neq 3 (Operand.tmp 7) (Operand.tmp 9) t7 t9) w fun t10 w =>
  m13_12 R a0 b1 t10 w
def m13_0 (R : Value → World → Prop) (a0 : Value) (b1 : Value) (w : World) : Prop :=
  m13_1 R a0 b1 w
abbrev W13 := cwp Try.prog (fun i => cond (Nat.beq i 6) 1 (0))
noncomputable def k13_0 : Code := (bodyOf Try.f13)
noncomputable def k13_1 : Code := (c2 k13_0)
noncomputable def k13_2 : Code := (c2 k13_1)
noncomputable def k13_3 : Code := (c2 k13_2)
noncomputable def k13_4 : Code := (c2 k13_3)
noncomputable def k13_5 : Code := (c2 (c1 k13_2))
noncomputable def k13_6 : Code := (c1 (c1 k13_5))
noncomputable def k13_7 : Code := (c2 k13_6)
noncomputable def k13_8 : Code := (c2 k13_7)
noncomputable def k13_9 : Code := (c2 (c1 (c1 k13_7)))
noncomputable def k13_10 : Code := (c2 (c1 k13_9))
noncomputable def k13_11 : Code := (c2 (c1 k13_6))
noncomputable def k13_12 : Code := (c2 (c1 k13_1))
noncomputable def k13_13 : Code := (c2 (c1 k13_12))
theorem s13_13 {R : Value → World → Prop} {Q : Exit → Env → World → Prop} (hR : ∀ e w, (R (e 4) w) → Q .ret e w) (e : Env) (w : World) (h : m13_13 R (e 4) w) : W13 k13_13 Q e w := by
  unfold m13_13 at h
  exact ret_ok (by kernel_rfl) (hR _ _ h)
theorem s13_10 {R : Value → World → Prop} {K1 : Value → World → Prop} {Q : Exit → Env → World → Prop} (hR : ∀ e w, (R (e 4) w) → Q .ret e w) (e : Env) (w : World) (h : m13_10 R K1 (e 4) w) : W13 k13_10 Q e w := by
  unfold m13_10 at h
  exact ret_ok (by kernel_rfl) (hR _ _ h)
theorem s13_8 {R : Value → World → Prop} {K1 : Value → World → Prop} {Q : Exit → Env → World → Prop} (hN : ∀ e w, (K1 (e 5) w) → Q .normal e w) (e : Env) (w : World) (h : m13_8 R K1 (e 0) (e 1) (e 5) w) : W13 k13_8 Q e w := by
  unfold m13_8 at h
  exact region_ok 5 (fun e w => K1 (e 5) w) (by kernel_rfl) (kcast (by kernel_rfl) h) hN (by kernel_rfl)
theorem s13_9 {R : Value → World → Prop} {K1 : Value → World → Prop} {Q : Exit → Env → World → Prop} (hN : ∀ e w, (m13_8 R K1 (e 0) (e 1) (e 5) w) → Q .normal e w) (hR : ∀ e w, (R (e 4) w) → Q .ret e w) (e : Env) (w : World) (h : m13_9 R K1 (e 0) (e 1) (e 5) (e 25) w) : W13 k13_9 Q e w := by
  unfold m13_9 at h
  refine cond_ok (Operand.tmp 25) (by kernel_rfl) h (fun h1 => ?_) (fun h1 => ?_)
  · refine seq_ok' (by kernel_rfl) ?_
    have hN' : ∀ e w, (m13_10 R K1 (e 4) w) → (thenE (W13 k13_10 Q) Q) .normal e w := fun e w h => then_N (s13_10 (R := R) (Q := Q) (K1 := K1) hR e w h)
    have hN := hN'
    exact region_ok 7 (fun e w => m13_10 R K1 (e 4) w) (by kernel_rfl) (kcast (by kernel_rfl) h1) hN (by kernel_rfl)
  · exact skip_ok (by kernel_rfl) (hN _ _ h1)
theorem s13_7 {R : Value → World → Prop} {K1 : Value → World → Prop} {Q : Exit → Env → World → Prop} (hN : ∀ e w, (K1 (e 5) w) → Q .normal e w) (hR : ∀ e w, (R (e 4) w) → Q .ret e w) (e : Env) (w : World) (h : m13_7 R K1 (e 0) (e 1) (e 5) w) : W13 k13_7 Q e w := by
  unfold m13_7 at h
  refine seq_ok' (by kernel_rfl) ?_
  have hN' : ∀ e w, (m13_8 R K1 (e 0) (e 1) (e 5) w) → (thenE (W13 k13_8 Q) Q) .normal e w := fun e w h => then_N (s13_8 (R := R) (Q := Q) (K1 := K1) hN e w h)
  have hR : ∀ e w, (R (e 4) w) → (thenE (W13 k13_8 Q) Q) .ret e w := fun e w h => then_R (hR e w h)
  have hN := hN'
  refine block_ok 1 (by kernel_rfl) ?_
  have hN : ∀ e w, (m13_8 R K1 (e 0) (e 1) (e 5) w) → (inBlockE 1 (thenE (W13 k13_8 Q) Q)) .normal e w := fun e w h => block_N (hN e w h)
  have hR : ∀ e w, (R (e 4) w) → (inBlockE 1 (thenE (W13 k13_8 Q) Q)) .ret e w := fun e w h => block_R (hR e w h)
  refine seq_ok' (by kernel_rfl) ?_
  have hN' : ∀ e w, (m13_9 R K1 (e 0) (e 1) (e 5) (e 25) w) → (thenE (W13 k13_9 (inBlockE 1 (thenE (W13 k13_8 Q) Q))) (inBlockE 1 (thenE (W13 k13_8 Q) Q))) .normal e w := fun e w h => then_N (s13_9 (R := R) (Q := (inBlockE 1 (thenE (W13 k13_8 Q) Q))) (K1 := K1) hN hR e w h)
  have hN := hN'
  exact quiet_ok 6 (fun e w => m13_9 R K1 (e 0) (e 1) (e 5) (e 25) w) (by kernel_rfl) (by kernel_rfl) (by kernel_rfl) (kcast (by kernel_rfl) h) hN (by kernel_rfl)
theorem s13_4 {R : Value → World → Prop} {Q : Exit → Env → World → Prop} (hR : ∀ e w, (R (e 4) w) → Q .ret e w) (e : Env) (w : World) (h : m13_4 R (e 4) w) : W13 k13_4 Q e w := by
  unfold m13_4 at h
  exact ret_ok (by kernel_rfl) (hR _ _ h)
theorem s13_3 {R : Value → World → Prop} {Q : Exit → Env → World → Prop} (hR : ∀ e w, (R (e 4) w) → Q .ret e w) (e : Env) (w : World) (h : m13_3 R w) : W13 k13_3 Q e w := by
  unfold m13_3 at h
  refine seq_ok' (by kernel_rfl) ?_
  have hN' : ∀ e w, (m13_4 R (e 4) w) → (thenE (W13 k13_4 Q) Q) .normal e w := fun e w h => then_N (s13_4 (R := R) (Q := Q) hR e w h)
  have hN := hN'
  exact region_ok 8 (fun e w => m13_4 R (e 4) w) (by kernel_rfl) (kcast (by kernel_rfl) h) hN (by kernel_rfl)
theorem s13_11 {R : Value → World → Prop} {K1 : Value → World → Prop} {Q : Exit → Env → World → Prop} (hN : ∀ e w, (m13_7 R K1 (e 0) (e 1) (e 5) w) → Q .normal e w) (hX0 : ∀ e w, (m13_3 R w) → Q (.exit 0) e w) (e : Env) (w : World) (h : m13_11 R K1 (e 0) (e 1) (e 5) (e 14) w) : W13 k13_11 Q e w := by
  unfold m13_11 at h
  refine cond_ok (Operand.tmp 14) (by kernel_rfl) h (fun h1 => ?_) (fun h1 => ?_)
  · exact skip_ok (by kernel_rfl) (hN _ _ h1)
  · exact exit_ok 0 (by kernel_rfl) (hX0 _ _ h1)
theorem s13_6 {R : Value → World → Prop} {K1 : Value → World → Prop} {Q : Exit → Env → World → Prop} (hN : ∀ e w, (K1 (e 5) w) → Q .normal e w) (hR : ∀ e w, (R (e 4) w) → Q .ret e w) (hX0 : ∀ e w, (m13_3 R w) → Q (.exit 0) e w) (e : Env) (w : World) (h : m13_6 R K1 (e 0) (e 1) (e 5) w) : W13 k13_6 Q e w := by
  unfold m13_6 at h
  refine seq_ok' (by kernel_rfl) ?_
  have hN' : ∀ e w, (m13_7 R K1 (e 0) (e 1) (e 5) w) → (thenE (W13 k13_7 Q) Q) .normal e w := fun e w h => then_N (s13_7 (R := R) (Q := Q) (K1 := K1) hN hR e w h)
  have hX0 : ∀ e w, (m13_3 R w) → (thenE (W13 k13_7 Q) Q) (.exit 0) e w := fun e w h => then_X (hX0 e w h)
  have hN := hN'
  refine seq_ok' (by kernel_rfl) ?_
  have hN' : ∀ e w, (m13_11 R K1 (e 0) (e 1) (e 5) (e 14) w) → (thenE (W13 k13_11 (thenE (W13 k13_7 Q) Q)) (thenE (W13 k13_7 Q) Q)) .normal e w := fun e w h => then_N (s13_11 (R := R) (Q := (thenE (W13 k13_7 Q) Q)) (K1 := K1) hN hX0 e w h)
  have hN := hN'
  exact region_ok 4 (fun e w => m13_11 R K1 (e 0) (e 1) (e 5) (e 14) w) (by kernel_rfl) (kcast (by kernel_rfl) h) hN (by kernel_rfl)
theorem s13_5 {R : Value → World → Prop} {Q : Exit → Env → World → Prop} (hN : ∀ e w, (m13_3 R w) → Q .normal e w) (hR : ∀ e w, (R (e 4) w) → Q .ret e w) (e : Env) (w : World) (h : m13_5 R (e 0) (e 1) (e 5) w) : W13 k13_5 Q e w := by
  unfold m13_5 at h
  refine block_ok 0 (by kernel_rfl) ?_
  have hX0 : ∀ e w, (m13_3 R w) → (inBlockE 0 Q) (.exit 0) e w := fun e w h => inBlock_same (Q := Q) 0 (hN e w h)
  have hR : ∀ e w, (R (e 4) w) → (inBlockE 0 Q) .ret e w := fun e w h => block_R (hR e w h)
  refine loop_ok' (fun (e : Env) => e 5) [0, 1] (by kernel_rfl) (by kernel_rfl) h (fun K e' w' hk h' => ?_)
  have r0 : e' 0 = e 0 := hk 0 (by decide)
  have r1 : e' 1 = e 1 := hk 1 (by decide)
  have hR : ∀ e w, (R (e 4) w) → (thenE (fun (e : Env) w => K (e 5) w) (inBlockE 0 Q)) .ret e w := fun e w h => then_R (hR e w h)
  have hX0 : ∀ e w, (m13_3 R w) → (thenE (fun (e : Env) w => K (e 5) w) (inBlockE 0 Q)) (.exit 0) e w := fun e w h => then_X (hX0 e w h)
  exact s13_6 (R := R) (Q := (thenE (fun (e : Env) w => K (e 5) w) (inBlockE 0 Q))) (K1 := K) (fun _ _ h => then_N h) hR hX0 e' w' (by rw [r0, r1]; exact h')
theorem s13_2 {R : Value → World → Prop} {Q : Exit → Env → World → Prop} (hR : ∀ e w, (R (e 4) w) → Q .ret e w) (e : Env) (w : World) (h : m13_2 R (e 0) (e 1) w) : W13 k13_2 Q e w := by
  unfold m13_2 at h
  refine seq_ok' (by kernel_rfl) ?_
  have hN' : ∀ e w, (m13_3 R w) → (thenE (W13 k13_3 Q) Q) .normal e w := fun e w h => then_N (s13_3 (R := R) (Q := Q) hR e w h)
  have hR : ∀ e w, (R (e 4) w) → (thenE (W13 k13_3 Q) Q) .ret e w := fun e w h => then_R (hR e w h)
  have hN := hN'
  refine seq_ok' (by kernel_rfl) ?_
  have hN' : ∀ e w, (m13_5 R (e 0) (e 1) (e 5) w) → (thenE (W13 k13_5 (thenE (W13 k13_3 Q) Q)) (thenE (W13 k13_3 Q) Q)) .normal e w := fun e w h => then_N (s13_5 (R := R) (Q := (thenE (W13 k13_3 Q) Q)) hN hR e w h)
  have hN := hN'
  exact region_ok 3 (fun e w => m13_5 R (e 0) (e 1) (e 5) w) (by kernel_rfl) (kcast (by kernel_rfl) h) hN (by kernel_rfl)
theorem s13_12 {R : Value → World → Prop} {Q : Exit → Env → World → Prop} (hN : ∀ e w, (m13_2 R (e 0) (e 1) w) → Q .normal e w) (hR : ∀ e w, (R (e 4) w) → Q .ret e w) (e : Env) (w : World) (h : m13_12 R (e 0) (e 1) (e 10) w) : W13 k13_12 Q e w := by
  unfold m13_12 at h
  refine cond_ok (Operand.tmp 10) (by kernel_rfl) h (fun h1 => ?_) (fun h1 => ?_)
  · refine seq_ok' (by kernel_rfl) ?_
    have hN' : ∀ e w, (m13_13 R (e 4) w) → (thenE (W13 k13_13 Q) Q) .normal e w := fun e w h => then_N (s13_13 (R := R) (Q := Q) hR e w h)
    have hN := hN'
    exact region_ok 2 (fun e w => m13_13 R (e 4) w) (by kernel_rfl) (kcast (by kernel_rfl) h1) hN (by kernel_rfl)
  · exact skip_ok (by kernel_rfl) (hN _ _ h1)
theorem s13_1 {R : Value → World → Prop} {Q : Exit → Env → World → Prop} (hR : ∀ e w, (R (e 4) w) → Q .ret e w) (e : Env) (w : World) (h : m13_1 R (e 0) (e 1) w) : W13 k13_1 Q e w := by
  unfold m13_1 at h
  refine seq_ok' (by kernel_rfl) ?_
  have hN' : ∀ e w, (m13_2 R (e 0) (e 1) w) → (thenE (W13 k13_2 Q) Q) .normal e w := fun e w h => then_N (s13_2 (R := R) (Q := Q) hR e w h)
  have hR : ∀ e w, (R (e 4) w) → (thenE (W13 k13_2 Q) Q) .ret e w := fun e w h => then_R (hR e w h)
  have hN := hN'
  refine seq_ok' (by kernel_rfl) ?_
  have hN' : ∀ e w, (m13_12 R (e 0) (e 1) (e 10) w) → (thenE (W13 k13_12 (thenE (W13 k13_2 Q) Q)) (thenE (W13 k13_2 Q) Q)) .normal e w := fun e w h => then_N (s13_12 (R := R) (Q := (thenE (W13 k13_2 Q) Q)) hN hR e w h)
  have hN := hN'
  exact region_ok 1 (fun e w => m13_12 R (e 0) (e 1) (e 10) w) (by kernel_rfl) (kcast (by kernel_rfl) h) hN (by kernel_rfl)
theorem s13_0 {R : Value → World → Prop} {Q : Exit → Env → World → Prop} (hR : ∀ e w, (R (e 4) w) → Q .ret e w) (e : Env) (w : World) (h : m13_0 R (e 0) (e 1) w) : W13 k13_0 Q e w := by
  unfold m13_0 at h
  refine seq_ok' (by kernel_rfl) ?_
  have hN' : ∀ e w, (m13_1 R (e 0) (e 1) w) → (thenE (W13 k13_1 Q) Q) .normal e w := fun e w h => then_N (s13_1 (R := R) (Q := Q) hR e w h)
  have hN := hN'
  exact region_ok 0 (fun e w => m13_1 R (e 0) (e 1) w) (by kernel_rfl) (kcast (by kernel_rfl) h) hN (by kernel_rfl)
abbrev m13 (R : Value → World → Prop) (a0 : Value) (b1 : Value) (w : World) : Prop := m13_0 R a0 b1 w
theorem s13 (a0 : Value) (b1 : Value) {R : Value → World → Prop} {w : World} (h : m13 R a0 b1 w) :
    Calls Try.prog 13 #[a0, b1] w fun e w' => ∃ v, e = .returned v ∧ R v w' :=
  calls_of_cwp (st := (fun i => cond (Nat.beq i 6) 1 (0))) (c := k13_0) (by kernel_rfl) Try.func13 (by kernel_rfl) (Nat.le_of_ble_eq_true (by kernel_rfl)) (by kernel_rfl)
    (s13_0 (R := R) (Q := endE Try.prog Try.f13 R) (fun e w h => kcast (by kernel_rfl) h) (argsE #[a0, b1]) w (kcast (by kernel_rfl) h))
/-! ### headgate/headgateref09.Count -/
def m19_8 (R : Value → World → Prop) (K1 : (Value × Value) → World → Prop) (l0 : Value) (m1 : Value) (n5 : Value) (i6 : Value) (w : World) : Prop :=
  valP Try.prog (binS BinOp.add 3 (Operand.tmp 11) (Operand.const (Value.int IntKind.i64 1)) i6 (Value.int IntKind.i64 1)) w fun t12 w =>
  K1 (n5, t12) w
def m19_9 (R : Value → World → Prop) (K1 : (Value × Value) → World → Prop) (l0 : Value) (m1 : Value) (n5 : Value) (i6 : Value) (t18 : Value) (w : World) : Prop :=
  condP t18
  (valP Try.prog (binS BinOp.add 3 (Operand.tmp 19) (Operand.const (Value.int IntKind.i64 1)) n5 (Value.int IntKind.i64 1)) w fun t20 w =>
  m19_8 R K1 l0 m1 t20 i6 w)
  (m19_8 R K1 l0 m1 n5 i6 w)
def m19_7 (R : Value → World → Prop) (K1 : (Value × Value) → World → Prop) (l0 : Value) (m1 : Value) (n5 : Value) (i6 : Value) (w : World) : Prop :=
  valP Try.prog (Instr.indexAt 22 l0 i6) w fun t15 w =>
  valP Try.prog (Instr.loadAt 3 t15) w fun t16 w =>
  valP Try.prog (binS BinOp.eql 3 (Operand.tmp 16) (Operand.tmp 17) t16 m1) w fun t18 w =>
  m19_9 R K1 l0 m1 n5 i6 t18 w
def m19_4 (R : Value → World → Prop) (t4 : Value) (w : World) : Prop :=
  R t4 w
def m19_3 (R : Value → World → Prop) (n5 : Value) (w : World) : Prop :=
  m19_4 R n5 w
def m19_10 (R : Value → World → Prop) (K1 : (Value × Value) → World → Prop) (l0 : Value) (m1 : Value) (n5 : Value) (i6 : Value) (t10 : Value) (w : World) : Prop :=
  condP t10
  (m19_7 R K1 l0 m1 n5 i6 w)
  (m19_3 R n5 w)
def m19_6 (R : Value → World → Prop) (K1 : (Value × Value) → World → Prop) (l0 : Value) (m1 : Value) (n5 : Value) (i6 : Value) (w : World) : Prop :=
  builtinP Try.prog Builtin.len #[22] 3 #[false] #[l0] w fun t9 w =>
  valP Try.prog (binS BinOp.lss 3 (Operand.tmp 7) (Operand.tmp 9) i6 t9) w fun t10 w =>
  m19_10 R K1 l0 m1 n5 i6 t10 w
def m19_5 (R : Value → World → Prop) (l0 : Value) (m1 : Value) (n5 : Value) (i6 : Value) (w : World) : Prop :=
  loopP (fun (K1 : (Value × Value) → World → Prop) (s : Value × Value) w => m19_6 R K1 l0 m1 s.1 s.2 w) (n5, i6) w
def m19_2 (R : Value → World → Prop) (l0 : Value) (m1 : Value) (n5 : Value) (w : World) : Prop :=
  m19_5 R l0 m1 n5 (Value.int IntKind.i64 0) w
def m19_1 (R : Value → World → Prop) (l0 : Value) (m1 : Value) (w : World) : Prop :=
  m19_2 R l0 m1 (Value.int IntKind.i64 0) w
def m19_0 (R : Value → World → Prop) (l0 : Value) (m1 : Value) (w : World) : Prop :=
  m19_1 R l0 m1 w
abbrev W19 := cwp Try.prog (fun i => 0)
noncomputable def k19_0 : Code := (bodyOf Try.f19)
noncomputable def k19_1 : Code := (c2 k19_0)
noncomputable def k19_2 : Code := (c2 k19_1)
noncomputable def k19_3 : Code := (c2 k19_2)
noncomputable def k19_4 : Code := (c2 k19_3)
noncomputable def k19_5 : Code := (c2 (c1 k19_2))
noncomputable def k19_6 : Code := (c1 (c1 k19_5))
noncomputable def k19_7 : Code := (c2 k19_6)
noncomputable def k19_8 : Code := (c2 k19_7)
noncomputable def k19_9 : Code := (c2 (c1 (c1 k19_7)))
noncomputable def k19_10 : Code := (c2 (c1 k19_6))
theorem s19_8 {R : Value → World → Prop} {K1 : (Value × Value) → World → Prop} {Q : Exit → Env → World → Prop} (hN : ∀ e w, (K1 ((e 5), (e 6)) w) → Q .normal e w) (e : Env) (w : World) (h : m19_8 R K1 (e 0) (e 1) (e 5) (e 6) w) : W19 k19_8 Q e w := by
  unfold m19_8 at h
  exact region_ok 4 (fun e w => K1 ((e 5), (e 6)) w) (by kernel_rfl) (kcast (by kernel_rfl) h) hN (by kernel_rfl)
theorem s19_9 {R : Value → World → Prop} {K1 : (Value × Value) → World → Prop} {Q : Exit → Env → World → Prop} (hN : ∀ e w, (m19_8 R K1 (e 0) (e 1) (e 5) (e 6) w) → Q .normal e w) (e : Env) (w : World) (h : m19_9 R K1 (e 0) (e 1) (e 5) (e 6) (e 18) w) : W19 k19_9 Q e w := by
  unfold m19_9 at h
  refine cond_ok (Operand.tmp 18) (by kernel_rfl) h (fun h1 => ?_) (fun h1 => ?_)
  · exact region_ok 6 (fun e w => m19_8 R K1 (e 0) (e 1) (e 5) (e 6) w) (by kernel_rfl) (kcast (by kernel_rfl) h1) hN (by kernel_rfl)
  · exact skip_ok (by kernel_rfl) (hN _ _ h1)
theorem s19_7 {R : Value → World → Prop} {K1 : (Value × Value) → World → Prop} {Q : Exit → Env → World → Prop} (hN : ∀ e w, (K1 ((e 5), (e 6)) w) → Q .normal e w) (e : Env) (w : World) (h : m19_7 R K1 (e 0) (e 1) (e 5) (e 6) w) : W19 k19_7 Q e w := by
  unfold m19_7 at h
  refine seq_ok' (by kernel_rfl) ?_
  have hN' : ∀ e w, (m19_8 R K1 (e 0) (e 1) (e 5) (e 6) w) → (thenE (W19 k19_8 Q) Q) .normal e w := fun e w h => then_N (s19_8 (R := R) (Q := Q) (K1 := K1) hN e w h)
  have hN := hN'
  refine block_ok 1 (by kernel_rfl) ?_
  have hN : ∀ e w, (m19_8 R K1 (e 0) (e 1) (e 5) (e 6) w) → (inBlockE 1 (thenE (W19 k19_8 Q) Q)) .normal e w := fun e w h => block_N (hN e w h)
  refine seq_ok' (by kernel_rfl) ?_
  have hN' : ∀ e w, (m19_9 R K1 (e 0) (e 1) (e 5) (e 6) (e 18) w) → (thenE (W19 k19_9 (inBlockE 1 (thenE (W19 k19_8 Q) Q))) (inBlockE 1 (thenE (W19 k19_8 Q) Q))) .normal e w := fun e w h => then_N (s19_9 (R := R) (Q := (inBlockE 1 (thenE (W19 k19_8 Q) Q))) (K1 := K1) hN e w h)
  have hN := hN'
  exact region_ok 5 (fun e w => m19_9 R K1 (e 0) (e 1) (e 5) (e 6) (e 18) w) (by kernel_rfl) (kcast (by kernel_rfl) h) hN (by kernel_rfl)
theorem s19_4 {R : Value → World → Prop} {Q : Exit → Env → World → Prop} (hR : ∀ e w, (R (e 4) w) → Q .ret e w) (e : Env) (w : World) (h : m19_4 R (e 4) w) : W19 k19_4 Q e w := by
  unfold m19_4 at h
  exact ret_ok (by kernel_rfl) (hR _ _ h)
theorem s19_3 {R : Value → World → Prop} {Q : Exit → Env → World → Prop} (hR : ∀ e w, (R (e 4) w) → Q .ret e w) (e : Env) (w : World) (h : m19_3 R (e 5) w) : W19 k19_3 Q e w := by
  unfold m19_3 at h
  refine seq_ok' (by kernel_rfl) ?_
  have hN' : ∀ e w, (m19_4 R (e 4) w) → (thenE (W19 k19_4 Q) Q) .normal e w := fun e w h => then_N (s19_4 (R := R) (Q := Q) hR e w h)
  have hN := hN'
  exact region_ok 7 (fun e w => m19_4 R (e 4) w) (by kernel_rfl) (kcast (by kernel_rfl) h) hN (by kernel_rfl)
theorem s19_10 {R : Value → World → Prop} {K1 : (Value × Value) → World → Prop} {Q : Exit → Env → World → Prop} (hN : ∀ e w, (m19_7 R K1 (e 0) (e 1) (e 5) (e 6) w) → Q .normal e w) (hX0 : ∀ e w, (m19_3 R (e 5) w) → Q (.exit 0) e w) (e : Env) (w : World) (h : m19_10 R K1 (e 0) (e 1) (e 5) (e 6) (e 10) w) : W19 k19_10 Q e w := by
  unfold m19_10 at h
  refine cond_ok (Operand.tmp 10) (by kernel_rfl) h (fun h1 => ?_) (fun h1 => ?_)
  · exact skip_ok (by kernel_rfl) (hN _ _ h1)
  · exact exit_ok 0 (by kernel_rfl) (hX0 _ _ h1)
theorem s19_6 {R : Value → World → Prop} {K1 : (Value × Value) → World → Prop} {Q : Exit → Env → World → Prop} (hN : ∀ e w, (K1 ((e 5), (e 6)) w) → Q .normal e w) (hX0 : ∀ e w, (m19_3 R (e 5) w) → Q (.exit 0) e w) (e : Env) (w : World) (h : m19_6 R K1 (e 0) (e 1) (e 5) (e 6) w) : W19 k19_6 Q e w := by
  unfold m19_6 at h
  refine seq_ok' (by kernel_rfl) ?_
  have hN' : ∀ e w, (m19_7 R K1 (e 0) (e 1) (e 5) (e 6) w) → (thenE (W19 k19_7 Q) Q) .normal e w := fun e w h => then_N (s19_7 (R := R) (Q := Q) (K1 := K1) hN e w h)
  have hX0 : ∀ e w, (m19_3 R (e 5) w) → (thenE (W19 k19_7 Q) Q) (.exit 0) e w := fun e w h => then_X (hX0 e w h)
  have hN := hN'
  refine seq_ok' (by kernel_rfl) ?_
  have hN' : ∀ e w, (m19_10 R K1 (e 0) (e 1) (e 5) (e 6) (e 10) w) → (thenE (W19 k19_10 (thenE (W19 k19_7 Q) Q)) (thenE (W19 k19_7 Q) Q)) .normal e w := fun e w h => then_N (s19_10 (R := R) (Q := (thenE (W19 k19_7 Q) Q)) (K1 := K1) hN hX0 e w h)
  have hN := hN'
  exact region_ok 3 (fun e w => m19_10 R K1 (e 0) (e 1) (e 5) (e 6) (e 10) w) (by kernel_rfl) (kcast (by kernel_rfl) h) hN (by kernel_rfl)
theorem s19_5 {R : Value → World → Prop} {Q : Exit → Env → World → Prop} (hN : ∀ e w, (m19_3 R (e 5) w) → Q .normal e w) (e : Env) (w : World) (h : m19_5 R (e 0) (e 1) (e 5) (e 6) w) : W19 k19_5 Q e w := by
  unfold m19_5 at h
  refine block_ok 0 (by kernel_rfl) ?_
  have hX0 : ∀ e w, (m19_3 R (e 5) w) → (inBlockE 0 Q) (.exit 0) e w := fun e w h => inBlock_same (Q := Q) 0 (hN e w h)
  refine loop_ok' (fun (e : Env) => (e 5, e 6)) [0, 1] (by kernel_rfl) (by kernel_rfl) h (fun K e' w' hk h' => ?_)
  have r0 : e' 0 = e 0 := hk 0 (by decide)
  have r1 : e' 1 = e 1 := hk 1 (by decide)
  have hX0 : ∀ e w, (m19_3 R (e 5) w) → (thenE (fun (e : Env) w => K ((e 5), (e 6)) w) (inBlockE 0 Q)) (.exit 0) e w := fun e w h => then_X (hX0 e w h)
  exact s19_6 (R := R) (Q := (thenE (fun (e : Env) w => K ((e 5), (e 6)) w) (inBlockE 0 Q))) (K1 := K) (fun _ _ h => then_N h) hX0 e' w' (by rw [r0, r1]; exact h')
theorem s19_2 {R : Value → World → Prop} {Q : Exit → Env → World → Prop} (hR : ∀ e w, (R (e 4) w) → Q .ret e w) (e : Env) (w : World) (h : m19_2 R (e 0) (e 1) (e 5) w) : W19 k19_2 Q e w := by
  unfold m19_2 at h
  refine seq_ok' (by kernel_rfl) ?_
  have hN' : ∀ e w, (m19_3 R (e 5) w) → (thenE (W19 k19_3 Q) Q) .normal e w := fun e w h => then_N (s19_3 (R := R) (Q := Q) hR e w h)
  have hN := hN'
  refine seq_ok' (by kernel_rfl) ?_
  have hN' : ∀ e w, (m19_5 R (e 0) (e 1) (e 5) (e 6) w) → (thenE (W19 k19_5 (thenE (W19 k19_3 Q) Q)) (thenE (W19 k19_3 Q) Q)) .normal e w := fun e w h => then_N (s19_5 (R := R) (Q := (thenE (W19 k19_3 Q) Q)) hN e w h)
  have hN := hN'
  exact region_ok 2 (fun e w => m19_5 R (e 0) (e 1) (e 5) (e 6) w) (by kernel_rfl) (kcast (by kernel_rfl) h) hN (by kernel_rfl)
theorem s19_1 {R : Value → World → Prop} {Q : Exit → Env → World → Prop} (hR : ∀ e w, (R (e 4) w) → Q .ret e w) (e : Env) (w : World) (h : m19_1 R (e 0) (e 1) w) : W19 k19_1 Q e w := by
  unfold m19_1 at h
  refine seq_ok' (by kernel_rfl) ?_
  have hN' : ∀ e w, (m19_2 R (e 0) (e 1) (e 5) w) → (thenE (W19 k19_2 Q) Q) .normal e w := fun e w h => then_N (s19_2 (R := R) (Q := Q) hR e w h)
  have hN := hN'
  exact region_ok 1 (fun e w => m19_2 R (e 0) (e 1) (e 5) w) (by kernel_rfl) (kcast (by kernel_rfl) h) hN (by kernel_rfl)
theorem s19_0 {R : Value → World → Prop} {Q : Exit → Env → World → Prop} (hR : ∀ e w, (R (e 4) w) → Q .ret e w) (e : Env) (w : World) (h : m19_0 R (e 0) (e 1) w) : W19 k19_0 Q e w := by
  unfold m19_0 at h
  refine seq_ok' (by kernel_rfl) ?_
  have hN' : ∀ e w, (m19_1 R (e 0) (e 1) w) → (thenE (W19 k19_1 Q) Q) .normal e w := fun e w h => then_N (s19_1 (R := R) (Q := Q) hR e w h)
  have hN := hN'
  exact region_ok 0 (fun e w => m19_1 R (e 0) (e 1) w) (by kernel_rfl) (kcast (by kernel_rfl) h) hN (by kernel_rfl)
abbrev m19 (R : Value → World → Prop) (l0 : Value) (m1 : Value) (w : World) : Prop := m19_0 R l0 m1 w
theorem s19 (l0 : Value) (m1 : Value) {R : Value → World → Prop} {w : World} (h : m19 R l0 m1 w) :
    Calls Try.prog 19 #[l0, m1] w fun e w' => ∃ v, e = .returned v ∧ R v w' :=
  calls_of_cwp (st := (fun i => 0)) (c := k19_0) (by kernel_rfl) Try.func19 (by kernel_rfl) (Nat.le_of_ble_eq_true (by kernel_rfl)) (by kernel_rfl)
    (s19_0 (R := R) (Q := endE Try.prog Try.f19 R) (fun e w h => kcast (by kernel_rfl) h) (argsE #[l0, m1]) w (kcast (by kernel_rfl) h))
/-! ### headgate/headgateref09.has -/
def m23_2 (R : Value → World → Prop) (t4 : Value) (w : World) : Prop :=
  R t4 w
def m23_1 (R : Value → World → Prop) (l0 : Value) (m1 : Value) (w : World) : Prop :=
  callP Try.prog (fnV 19) #[l0, m1] w fun t7 w =>
  valP Try.prog (binS BinOp.gtr 3 (Operand.tmp 7) (Operand.const (Value.int IntKind.i64 0)) t7 (Value.int IntKind.i64 0)) w fun t8 w =>
  m23_2 R t8 w
def m23_0 (R : Value → World → Prop) (l0 : Value) (m1 : Value) (w : World) : Prop :=
  m23_1 R l0 m1 w
abbrev W23 := cwp Try.prog (fun i => 0)
noncomputable def k23_0 : Code := (bodyOf Try.f23)
noncomputable def k23_1 : Code := (c2 k23_0)
noncomputable def k23_2 : Code := (c2 k23_1)
theorem s23_2 {R : Value → World → Prop} {Q : Exit → Env → World → Prop} (hR : ∀ e w, (R (e 4) w) → Q .ret e w) (e : Env) (w : World) (h : m23_2 R (e 4) w) : W23 k23_2 Q e w := by
  unfold m23_2 at h
  exact ret_ok (by kernel_rfl) (hR _ _ h)
theorem s23_1 {R : Value → World → Prop} {Q : Exit → Env → World → Prop} (hR : ∀ e w, (R (e 4) w) → Q .ret e w) (e : Env) (w : World) (h : m23_1 R (e 0) (e 1) w) : W23 k23_1 Q e w := by
  unfold m23_1 at h
  refine seq_ok' (by kernel_rfl) ?_
  have hN' : ∀ e w, (m23_2 R (e 4) w) → (thenE (W23 k23_2 Q) Q) .normal e w := fun e w h => then_N (s23_2 (R := R) (Q := Q) hR e w h)
  have hN := hN'
  exact region_ok 1 (fun e w => m23_2 R (e 4) w) (by kernel_rfl) (kcast (by kernel_rfl) h) hN (by kernel_rfl)
theorem s23_0 {R : Value → World → Prop} {Q : Exit → Env → World → Prop} (hR : ∀ e w, (R (e 4) w) → Q .ret e w) (e : Env) (w : World) (h : m23_0 R (e 0) (e 1) w) : W23 k23_0 Q e w := by
  unfold m23_0 at h
  refine seq_ok' (by kernel_rfl) ?_
  have hN' : ∀ e w, (m23_1 R (e 0) (e 1) w) → (thenE (W23 k23_1 Q) Q) .normal e w := fun e w h => then_N (s23_1 (R := R) (Q := Q) hR e w h)
  have hN := hN'
  exact region_ok 0 (fun e w => m23_1 R (e 0) (e 1) w) (by kernel_rfl) (kcast (by kernel_rfl) h) hN (by kernel_rfl)
abbrev m23 (R : Value → World → Prop) (l0 : Value) (m1 : Value) (w : World) : Prop := m23_0 R l0 m1 w
theorem s23 (l0 : Value) (m1 : Value) {R : Value → World → Prop} {w : World} (h : m23 R l0 m1 w) :
    Calls Try.prog 23 #[l0, m1] w fun e w' => ∃ v, e = .returned v ∧ R v w' :=
  calls_of_cwp (st := (fun i => 0)) (c := k23_0) (by kernel_rfl) Try.func23 (by kernel_rfl) (Nat.le_of_ble_eq_true (by kernel_rfl)) (by kernel_rfl)
    (s23_0 (R := R) (Q := endE Try.prog Try.f23 R) (fun e w h => kcast (by kernel_rfl) h) (argsE #[l0, m1]) w (kcast (by kernel_rfl) h))
/-! ### headgate/headgateref09.above -/
def m24_8 (R : Value → World → Prop) (K1 : (Value × Value) → World → Prop) (l0 : Value) (members1 : Value) (n2 : Value) (k7 : Value) (i8 : Value) (w : World) : Prop :=
  valP Try.prog (binS BinOp.add 3 (Operand.tmp 13) (Operand.const (Value.int IntKind.i64 1)) i8 (Value.int IntKind.i64 1)) w fun t14 w =>
  K1 (k7, t14) w
def m24_9 (R : Value → World → Prop) (K1 : (Value × Value) → World → Prop) (l0 : Value) (members1 : Value) (n2 : Value) (k7 : Value) (i8 : Value) (t22 : Value) (w : World) : Prop :=
  condP t22
  (valP Try.prog (binS BinOp.add 3 (Operand.tmp 23) (Operand.const (Value.int IntKind.i64 1)) k7 (Value.int IntKind.i64 1)) w fun t24 w =>
  m24_8 R K1 l0 members1 n2 t24 i8 w)
  (m24_8 R K1 l0 members1 n2 k7 i8 w)
def m24_7 (R : Value → World → Prop) (K1 : (Value × Value) → World → Prop) (l0 : Value) (members1 : Value) (n2 : Value) (k7 : Value) (i8 : Value) (w : World) : Prop :=
  valP Try.prog (Instr.indexAt 22 members1 i8) w fun t18 w =>
  valP Try.prog (Instr.loadAt 3 t18) w fun t19 w =>
  callP Try.prog (fnV 19) #[l0, t19] w fun t20 w =>
  valP Try.prog (binS BinOp.gtr 3 (Operand.tmp 20) (Operand.tmp 21) t20 n2) w fun t22 w =>
  m24_9 R K1 l0 members1 n2 k7 i8 t22 w
def m24_4 (R : Value → World → Prop) (t6 : Value) (w : World) : Prop :=
  R t6 w
def m24_3 (R : Value → World → Prop) (k7 : Value) (w : World) : Prop :=
  m24_4 R k7 w
def m24_10 (R : Value → World → Prop) (K1 : (Value × Value) → World → Prop) (l0 : Value) (members1 : Value) (n2 : Value) (k7 : Value) (i8 : Value) (t12 : Value) (w : World) : Prop :=
  condP t12
  (m24_7 R K1 l0 members1 n2 k7 i8 w)
  (m24_3 R k7 w)
def m24_6 (R : Value → World → Prop) (K1 : (Value × Value) → World → Prop) (l0 : Value) (members1 : Value) (n2 : Value) (k7 : Value) (i8 : Value) (w : World) : Prop :=
  builtinP Try.prog Builtin.len #[22] 3 #[false] #[members1] w fun t11 w =>
  valP Try.prog (binS BinOp.lss 3 (Operand.tmp 9) (Operand.tmp 11) i8 t11) w fun t12 w =>
  m24_10 R K1 l0 members1 n2 k7 i8 t12 w
def m24_5 (R : Value → World → Prop) (l0 : Value) (members1 : Value) (n2 : Value) (k7 : Value) (i8 : Value) (w : World) : Prop :=
  loopP (fun (K1 : (Value × Value) → World → Prop) (s : Value × Value) w => m24_6 R K1 l0 members1 n2 s.1 s.2 w) (k7, i8) w
def m24_2 (R : Value → World → Prop) (l0 : Value) (members1 : Value) (n2 : Value) (k7 : Value) (w : World) : Prop :=
  m24_5 R l0 members1 n2 k7 (Value.int IntKind.i64 0) w
def m24_1 (R : Value → World → Prop) (l0 : Value) (members1 : Value) (n2 : Value) (w : World) : Prop :=
  m24_2 R l0 members1 n2 (Value.int IntKind.i64 0) w
def m24_0 (R : Value → World → Prop) (l0 : Value) (members1 : Value) (n2 : Value) (w : World) : Prop :=
  m24_1 R l0 members1 n2 w
abbrev W24 := cwp Try.prog (fun i => 0)
noncomputable def k24_0 : Code := (bodyOf Try.f24)
noncomputable def k24_1 : Code := (c2 k24_0)
noncomputable def k24_2 : Code := (c2 k24_1)
noncomputable def k24_3 : Code := (c2 k24_2)
noncomputable def k24_4 : Code := (c2 k24_3)
noncomputable def k24_5 : Code := (c2 (c1 k24_2))
noncomputable def k24_6 : Code := (c1 (c1 k24_5))
noncomputable def k24_7 : Code := (c2 k24_6)
noncomputable def k24_8 : Code := (c2 k24_7)
noncomputable def k24_9 : Code := (c2 (c1 (c1 k24_7)))
noncomputable def k24_10 : Code := (c2 (c1 k24_6))
theorem s24_8 {R : Value → World → Prop} {K1 : (Value × Value) → World → Prop} {Q : Exit → Env → World → Prop} (hN : ∀ e w, (K1 ((e 7), (e 8)) w) → Q .normal e w) (e : Env) (w : World) (h : m24_8 R K1 (e 0) (e 1) (e 2) (e 7) (e 8) w) : W24 k24_8 Q e w := by
  unfold m24_8 at h
  exact region_ok 4 (fun e w => K1 ((e 7), (e 8)) w) (by kernel_rfl) (kcast (by kernel_rfl) h) hN (by kernel_rfl)
theorem s24_9 {R : Value → World → Prop} {K1 : (Value × Value) → World → Prop} {Q : Exit → Env → World → Prop} (hN : ∀ e w, (m24_8 R K1 (e 0) (e 1) (e 2) (e 7) (e 8) w) → Q .normal e w) (e : Env) (w : World) (h : m24_9 R K1 (e 0) (e 1) (e 2) (e 7) (e 8) (e 22) w) : W24 k24_9 Q e w := by
  unfold m24_9 at h
  refine cond_ok (Operand.tmp 22) (by kernel_rfl) h (fun h1 => ?_) (fun h1 => ?_)
  · exact region_ok 6 (fun e w => m24_8 R K1 (e 0) (e 1) (e 2) (e 7) (e 8) w) (by kernel_rfl) (kcast (by kernel_rfl) h1) hN (by kernel_rfl)
  · exact skip_ok (by kernel_rfl) (hN _ _ h1)
theorem s24_7 {R : Value → World → Prop} {K1 : (Value × Value) → World → Prop} {Q : Exit → Env → World → Prop} (hN : ∀ e w, (K1 ((e 7), (e 8)) w) → Q .normal e w) (e : Env) (w : World) (h : m24_7 R K1 (e 0) (e 1) (e 2) (e 7) (e 8) w) : W24 k24_7 Q e w := by
  unfold m24_7 at h
  refine seq_ok' (by kernel_rfl) ?_
  have hN' : ∀ e w, (m24_8 R K1 (e 0) (e 1) (e 2) (e 7) (e 8) w) → (thenE (W24 k24_8 Q) Q) .normal e w := fun e w h => then_N (s24_8 (R := R) (Q := Q) (K1 := K1) hN e w h)
  have hN := hN'
  refine block_ok 1 (by kernel_rfl) ?_
  have hN : ∀ e w, (m24_8 R K1 (e 0) (e 1) (e 2) (e 7) (e 8) w) → (inBlockE 1 (thenE (W24 k24_8 Q) Q)) .normal e w := fun e w h => block_N (hN e w h)
  refine seq_ok' (by kernel_rfl) ?_
  have hN' : ∀ e w, (m24_9 R K1 (e 0) (e 1) (e 2) (e 7) (e 8) (e 22) w) → (thenE (W24 k24_9 (inBlockE 1 (thenE (W24 k24_8 Q) Q))) (inBlockE 1 (thenE (W24 k24_8 Q) Q))) .normal e w := fun e w h => then_N (s24_9 (R := R) (Q := (inBlockE 1 (thenE (W24 k24_8 Q) Q))) (K1 := K1) hN e w h)
  have hN := hN'
  exact region_ok 5 (fun e w => m24_9 R K1 (e 0) (e 1) (e 2) (e 7) (e 8) (e 22) w) (by kernel_rfl) (kcast (by kernel_rfl) h) hN (by kernel_rfl)
theorem s24_4 {R : Value → World → Prop} {Q : Exit → Env → World → Prop} (hR : ∀ e w, (R (e 6) w) → Q .ret e w) (e : Env) (w : World) (h : m24_4 R (e 6) w) : W24 k24_4 Q e w := by
  unfold m24_4 at h
  exact ret_ok (by kernel_rfl) (hR _ _ h)
theorem s24_3 {R : Value → World → Prop} {Q : Exit → Env → World → Prop} (hR : ∀ e w, (R (e 6) w) → Q .ret e w) (e : Env) (w : World) (h : m24_3 R (e 7) w) : W24 k24_3 Q e w := by
  unfold m24_3 at h
  refine seq_ok' (by kernel_rfl) ?_
  have hN' : ∀ e w, (m24_4 R (e 6) w) → (thenE (W24 k24_4 Q) Q) .normal e w := fun e w h => then_N (s24_4 (R := R) (Q := Q) hR e w h)
  have hN := hN'
  exact region_ok 7 (fun e w => m24_4 R (e 6) w) (by kernel_rfl) (kcast (by kernel_rfl) h) hN (by kernel_rfl)
theorem s24_10 {R : Value → World → Prop} {K1 : (Value × Value) → World → Prop} {Q : Exit → Env → World → Prop} (hN : ∀ e w, (m24_7 R K1 (e 0) (e 1) (e 2) (e 7) (e 8) w) → Q .normal e w) (hX0 : ∀ e w, (m24_3 R (e 7) w) → Q (.exit 0) e w) (e : Env) (w : World) (h : m24_10 R K1 (e 0) (e 1) (e 2) (e 7) (e 8) (e 12) w) : W24 k24_10 Q e w := by
  unfold m24_10 at h
  refine cond_ok (Operand.tmp 12) (by kernel_rfl) h (fun h1 => ?_) (fun h1 => ?_)
  · exact skip_ok (by kernel_rfl) (hN _ _ h1)
  · exact exit_ok 0 (by kernel_rfl) (hX0 _ _ h1)
theorem s24_6 {R : Value → World → Prop} {K1 : (Value × Value) → World → Prop} {Q : Exit → Env → World → Prop} (hN : ∀ e w, (K1 ((e 7), (e 8)) w) → Q .normal e w) (hX0 : ∀ e w, (m24_3 R (e 7) w) → Q (.exit 0) e w) (e : Env) (w : World) (h : m24_6 R K1 (e 0) (e 1) (e 2) (e 7) (e 8) w) : W24 k24_6 Q e w := by
  unfold m24_6 at h
  refine seq_ok' (by kernel_rfl) ?_
  have hN' : ∀ e w, (m24_7 R K1 (e 0) (e 1) (e 2) (e 7) (e 8) w) → (thenE (W24 k24_7 Q) Q) .normal e w := fun e w h => then_N (s24_7 (R := R) (Q := Q) (K1 := K1) hN e w h)
  have hX0 : ∀ e w, (m24_3 R (e 7) w) → (thenE (W24 k24_7 Q) Q) (.exit 0) e w := fun e w h => then_X (hX0 e w h)
  have hN := hN'
  refine seq_ok' (by kernel_rfl) ?_
  have hN' : ∀ e w, (m24_10 R K1 (e 0) (e 1) (e 2) (e 7) (e 8) (e 12) w) → (thenE (W24 k24_10 (thenE (W24 k24_7 Q) Q)) (thenE (W24 k24_7 Q) Q)) .normal e w := fun e w h => then_N (s24_10 (R := R) (Q := (thenE (W24 k24_7 Q) Q)) (K1 := K1) hN hX0 e w h)
  have hN := hN'
  exact region_ok 3 (fun e w => m24_10 R K1 (e 0) (e 1) (e 2) (e 7) (e 8) (e 12) w) (by kernel_rfl) (kcast (by kernel_rfl) h) hN (by kernel_rfl)
theorem s24_5 {R : Value → World → Prop} {Q : Exit → Env → World → Prop} (hN : ∀ e w, (m24_3 R (e 7) w) → Q .normal e w) (e : Env) (w : World) (h : m24_5 R (e 0) (e 1) (e 2) (e 7) (e 8) w) : W24 k24_5 Q e w := by
  unfold m24_5 at h
  refine block_ok 0 (by kernel_rfl) ?_
  have hX0 : ∀ e w, (m24_3 R (e 7) w) → (inBlockE 0 Q) (.exit 0) e w := fun e w h => inBlock_same (Q := Q) 0 (hN e w h)
  refine loop_ok' (fun (e : Env) => (e 7, e 8)) [0, 1, 2] (by kernel_rfl) (by kernel_rfl) h (fun K e' w' hk h' => ?_)
  have r0 : e' 0 = e 0 := hk 0 (by decide)
  have r1 : e' 1 = e 1 := hk 1 (by decide)
  have r2 : e' 2 = e 2 := hk 2 (by decide)
  have hX0 : ∀ e w, (m24_3 R (e 7) w) → (thenE (fun (e : Env) w => K ((e 7), (e 8)) w) (inBlockE 0 Q)) (.exit 0) e w := fun e w h => then_X (hX0 e w h)
  exact s24_6 (R := R) (Q := (thenE (fun (e : Env) w => K ((e 7), (e 8)) w) (inBlockE 0 Q))) (K1 := K) (fun _ _ h => then_N h) hX0 e' w' (by rw [r0, r1, r2]; exact h')
theorem s24_2 {R : Value → World → Prop} {Q : Exit → Env → World → Prop} (hR : ∀ e w, (R (e 6) w) → Q .ret e w) (e : Env) (w : World) (h : m24_2 R (e 0) (e 1) (e 2) (e 7) w) : W24 k24_2 Q e w := by
  unfold m24_2 at h
  refine seq_ok' (by kernel_rfl) ?_
  have hN' : ∀ e w, (m24_3 R (e 7) w) → (thenE (W24 k24_3 Q) Q) .normal e w := fun e w h => then_N (s24_3 (R := R) (Q := Q) hR e w h)
  have hN := hN'
  refine seq_ok' (by kernel_rfl) ?_
  have hN' : ∀ e w, (m24_5 R (e 0) (e 1) (e 2) (e 7) (e 8) w) → (thenE (W24 k24_5 (thenE (W24 k24_3 Q) Q)) (thenE (W24 k24_3 Q) Q)) .normal e w := fun e w h => then_N (s24_5 (R := R) (Q := (thenE (W24 k24_3 Q) Q)) hN e w h)
  have hN := hN'
  exact region_ok 2 (fun e w => m24_5 R (e 0) (e 1) (e 2) (e 7) (e 8) w) (by kernel_rfl) (kcast (by kernel_rfl) h) hN (by kernel_rfl)
theorem s24_1 {R : Value → World → Prop} {Q : Exit → Env → World → Prop} (hR : ∀ e w, (R (e 6) w) → Q .ret e w) (e : Env) (w : World) (h : m24_1 R (e 0) (e 1) (e 2) w) : W24 k24_1 Q e w := by
  unfold m24_1 at h
  refine seq_ok' (by kernel_rfl) ?_
  have hN' : ∀ e w, (m24_2 R (e 0) (e 1) (e 2) (e 7) w) → (thenE (W24 k24_2 Q) Q) .normal e w := fun e w h => then_N (s24_2 (R := R) (Q := Q) hR e w h)
  have hN := hN'
  exact region_ok 1 (fun e w => m24_2 R (e 0) (e 1) (e 2) (e 7) w) (by kernel_rfl) (kcast (by kernel_rfl) h) hN (by kernel_rfl)
theorem s24_0 {R : Value → World → Prop} {Q : Exit → Env → World → Prop} (hR : ∀ e w, (R (e 6) w) → Q .ret e w) (e : Env) (w : World) (h : m24_0 R (e 0) (e 1) (e 2) w) : W24 k24_0 Q e w := by
  unfold m24_0 at h
  refine seq_ok' (by kernel_rfl) ?_
  have hN' : ∀ e w, (m24_1 R (e 0) (e 1) (e 2) w) → (thenE (W24 k24_1 Q) Q) .normal e w := fun e w h => then_N (s24_1 (R := R) (Q := Q) hR e w h)
  have hN := hN'
  exact region_ok 0 (fun e w => m24_1 R (e 0) (e 1) (e 2) w) (by kernel_rfl) (kcast (by kernel_rfl) h) hN (by kernel_rfl)
abbrev m24 (R : Value → World → Prop) (l0 : Value) (members1 : Value) (n2 : Value) (w : World) : Prop := m24_0 R l0 members1 n2 w
theorem s24 (l0 : Value) (members1 : Value) (n2 : Value) {R : Value → World → Prop} {w : World} (h : m24 R l0 members1 n2 w) :
    Calls Try.prog 24 #[l0, members1, n2] w fun e w' => ∃ v, e = .returned v ∧ R v w' :=
  calls_of_cwp (st := (fun i => 0)) (c := k24_0) (by kernel_rfl) Try.func24 (by kernel_rfl) (Nat.le_of_ble_eq_true (by kernel_rfl)) (by kernel_rfl)
    (s24_0 (R := R) (Q := endE Try.prog Try.f24 R) (fun e w h => kcast (by kernel_rfl) h) (argsE #[l0, members1, n2]) w (kcast (by kernel_rfl) h))
/-! ### headgate/headgateref09.Members -/
def m18_8 (R : Value → World → Prop) (K1 : (Value × Value) → World → Prop) (l0 : Value) (out3 : Value) (i4 : Value) (w : World) : Prop :=
  valP Try.prog (binS BinOp.add 3 (Operand.tmp 11) (Operand.const (Value.int IntKind.i64 1)) i4 (Value.int IntKind.i64 1)) w fun t12 w =>
  K1 (out3, t12) w
def m18_19 (R : Value → World → Prop) (K1 : (Value × Value) → World → Prop) (K2 : (Value × Value) → World → Prop) (l0 : Value) (out3 : Value) (i4 : Value) (more5 : Value) (k6 : Value) (w : World) : Prop :=
  valP Try.prog (binS BinOp.add 3 (Operand.tmp 40) (Operand.const (Value.int IntKind.i64 1)) k6 (Value.int IntKind.i64 1)) w fun t41 w =>
  K2 (more5, t41) w
def m18_18 (R : Value → World → Prop) (K1 : (Value × Value) → World → Prop) (K2 : (Value × Value) → World → Prop) (l0 : Value) (out3 : Value) (i4 : Value) (more5 : Value) (k6 : Value) (w : World) : Prop :=
  valP Try.prog (Instr.indexAt 22 out3 k6) w fun t36 w =>
  valP Try.prog (Instr.loadAt 3 t36) w fun t37 w =>
  valP Try.prog (Instr.buildSlice 22 1 #[(0, t37)]) w fun t38 w =>
  builtinP Try.prog Builtin.append #[22, 22] 22 #[false, false] #[more5, t38] w fun t39 w =>
  m18_19 R K1 K2 l0 out3 i4 t39 k6 w
def m18_15 (R : Value → World → Prop) (K1 : (Value × Value) → World → Prop) (l0 : Value) (i4 : Value) (more5 : Value) (w : World) : Prop :=
  m18_8 R K1 l0 more5 i4 w
def m18_14 (R : Value → World → Prop) (K1 : (Value × Value) → World → Prop) (l0 : Value) (out3 : Value) (i4 : Value) (more5 : Value) (k6 : Value) (w : World) : Prop :=
  valP Try.prog (Instr.sliceAt 22 out3 (some k6) none none) w fun t69 w =>
  builtinP Try.prog Builtin.append #[22, 22] 22 #[false, false] #[more5, t69] w fun t70 w =>
  m18_15 R K1 l0 i4 t70 w
def m18_16 (R : Value → World → Prop) (K1 : (Value × Value) → World → Prop) (l0 : Value) (out3 : Value) (i4 : Value) (more5 : Value) (k6 : Value) (t63 : Value) (w : World) : Prop :=
  condP t63
  (valP Try.prog (binS BinOp.add 3 (Operand.tmp 64) (Operand.const (Value.int IntKind.i64 1)) k6 (Value.int IntKind.i64 1)) w fun t65 w =>
  m18_14 R K1 l0 out3 i4 more5 t65 w)
  (m18_14 R K1 l0 out3 i4 more5 k6 w)
def m18_13 (R : Value → World → Prop) (K1 : (Value × Value) → World → Prop) (l0 : Value) (out3 : Value) (i4 : Value) (more5 : Value) (k6 : Value) (w : World) : Prop :=
  builtinQ Try.prog Builtin.len #[22] 3 #[false] #[out3] w fun t51 =>
  valQ Try.prog (binS BinOp.lss 3 (Operand.tmp 49) (Operand.tmp 51) k6 t51) w fun t52 =>
  condP t52
  (valQ Try.prog (Instr.indexAt 22 out3 k6) w fun t56 =>
  valQ Try.prog (Instr.loadAt 3 t56) w fun t57 =>
  valQ Try.prog (Instr.indexAt 22 l0 i4) w fun t60 =>
  valQ Try.prog (Instr.loadAt 3 t60) w fun t61 =>
  valQ Try.prog (binS BinOp.eql 3 (Operand.tmp 57) (Operand.tmp 61) t57 t61) w fun t62 =>
  pickP t52 t62 (Value.bool false) fun t63 =>
  anyDraw w fun w =>
  m18_16 R K1 l0 out3 i4 more5 k6 t63 w)
  (pickP t52 undef (Value.bool false) fun t63 =>
  anyDraw w fun w =>
  m18_16 R K1 l0 out3 i4 more5 k6 t63 w)
def m18_12 (R : Value → World → Prop) (K1 : (Value × Value) → World → Prop) (l0 : Value) (out3 : Value) (i4 : Value) (more5 : Value) (k6 : Value) (w : World) : Prop :=
  valP Try.prog (Instr.indexAt 22 l0 i4) w fun t45 w =>
  valP Try.prog (Instr.loadAt 3 t45) w fun t46 w =>
  valP Try.prog (Instr.buildSlice 22 1 #[(0, t46)]) w fun t47 w =>
  builtinP Try.prog Builtin.append #[22, 22] 22 #[false, false] #[more5, t47] w fun t48 w =>
  m18_13 R K1 l0 out3 i4 t48 k6 w
def m18_20 (R : Value → World → Prop) (K1 : (Value × Value) → World → Prop) (K2 : (Value × Value) → World → Prop) (l0 : Value) (out3 : Value) (i4 : Value) (more5 : Value) (k6 : Value) (t32 : Value) (w : World) : Prop :=
  condP t32
  (m18_18 R K1 K2 l0 out3 i4 more5 k6 w)
  (m18_12 R K1 l0 out3 i4 more5 k6 w)
def m18_17 (R : Value → World → Prop) (K1 : (Value × Value) → World → Prop) (K2 : (Value × Value) → World → Prop) (l0 : Value) (out3 : Value) (i4 : Value) (more5 : Value) (k6 : Value) (w : World) : Prop :=
  builtinQ Try.prog Builtin.len #[22] 3 #[false] #[out3] w fun t20 =>
  valQ Try.prog (binS BinOp.lss 3 (Operand.tmp 18) (Operand.tmp 20) k6 t20) w fun t21 =>
  condP t21
  (valQ Try.prog (Instr.indexAt 22 out3 k6) w fun t25 =>
  valQ Try.prog (Instr.loadAt 3 t25) w fun t26 =>
  valQ Try.prog (Instr.indexAt 22 l0 i4) w fun t29 =>
  valQ Try.prog (Instr.loadAt 3 t29) w fun t30 =>
  valQ Try.prog (binS BinOp.lss 3 (Operand.tmp 26) (Operand.tmp 30) t26 t30) w fun t31 =>
  pickP t21 t31 (Value.bool false) fun t32 =>
  anyDraw w fun w =>
  m18_20 R K1 K2 l0 out3 i4 more5 k6 t32 w)
  (pickP t21 undef (Value.bool false) fun t32 =>
  anyDraw w fun w =>
  m18_20 R K1 K2 l0 out3 i4 more5 k6 t32 w)
def m18_11 (R : Value → World → Prop) (K1 : (Value × Value) → World → Prop) (l0 : Value) (out3 : Value) (i4 : Value) (more5 : Value) (k6 : Value) (w : World) : Prop :=
  loopP (fun (K2 : (Value × Value) → World → Prop) (s : Value × Value) w => m18_17 R K1 K2 l0 out3 i4 s.1 s.2 w) (more5, k6) w
def m18_10 (R : Value → World → Prop) (K1 : (Value × Value) → World → Prop) (l0 : Value) (out3 : Value) (i4 : Value) (more5 : Value) (w : World) : Prop :=
  m18_11 R K1 l0 out3 i4 more5 (Value.int IntKind.i64 0) w
def m18_9 (R : Value → World → Prop) (K1 : (Value × Value) → World → Prop) (l0 : Value) (out3 : Value) (i4 : Value) (w : World) : Prop :=
  m18_10 R K1 l0 out3 i4 (Value.slice none 0 0) w
def m18_21 (R : Value → World → Prop) (K1 : (Value × Value) → World → Prop) (l0 : Value) (out3 : Value) (i4 : Value) (t17 : Value) (w : World) : Prop :=
  condP t17
  (m18_8 R K1 l0 out3 i4 w)
  (m18_9 R K1 l0 out3 i4 w)
def m18_7 (R : Value → World → Prop) (K1 : (Value × Value) → World → Prop) (l0 : Value) (out3 : Value) (i4 : Value) (w : World) : Prop :=
  valP Try.prog (Instr.indexAt 22 l0 i4) w fun t15 w =>
  valP Try.prog (Instr.loadAt 3 t15) w fun t16 w =>
  valP Try.prog (binS BinOp.leq 3 (Operand.tmp 16) (Operand.const (Value.int IntKind.i64 0)) t16 (Value.int IntKind.i64 0)) w fun t17 w =>
  m18_21 R K1 l0 out3 i4 t17 w
def m18_4 (R : Value → World → Prop) (t2 : Value) (w : World) : Prop :=
  R t2 w
def m18_3 (R : Value → World → Prop) (out3 : Value) (w : World) : Prop :=
  m18_4 R out3 w
def m18_22 (R : Value → World → Prop) (K1 : (Value × Value) → World → Prop) (l0 : Value) (out3 : Value) (i4 : Value) (t10 : Value) (w : World) : Prop :=
  condP t10
  (m18_7 R K1 l0 out3 i4 w)
  (m18_3 R out3 w)
def m18_6 (R : Value → World → Prop) (K1 : (Value × Value) → World → Prop) (l0 : Value) (out3 : Value) (i4 : Value) (w : World) : Prop :=
  builtinP Try.prog Builtin.len #[22] 3 #[false] #[l0] w fun t9 w =>
  valP Try.prog (binS BinOp.lss 3 (Operand.tmp 7) (Operand.tmp 9) i4 t9) w fun t10 w =>
  m18_22 R K1 l0 out3 i4 t10 w
def m18_5 (R : Value → World → Prop) (l0 : Value) (out3 : Value) (i4 : Value) (w : World) : Prop :=
  loopP (fun (K1 : (Value × Value) → World → Prop) (s : Value × Value) w => m18_6 R K1 l0 s.1 s.2 w) (out3, i4) w
def m18_2 (R : Value → World → Prop) (l0 : Value) (out3 : Value) (w : World) : Prop :=
  m18_5 R l0 out3 (Value.int IntKind.i64 0) w
def m18_1 (R : Value → World → Prop) (l0 : Value) (w : World) : Prop :=
  m18_2 R l0 (Value.slice none 0 0) w
def m18_0 (R : Value → World → Prop) (l0 : Value) (w : World) : Prop :=
  m18_1 R l0 w
abbrev W18 := cwp Try.prog (fun i => cond (Nat.beq i 12) 1 (cond (Nat.beq i 8) 1 (0)))
noncomputable def k18_0 : Code := (bodyOf Try.f18)
noncomputable def k18_1 : Code := (c2 k18_0)
noncomputable def k18_2 : Code := (c2 k18_1)
noncomputable def k18_3 : Code := (c2 k18_2)
noncomputable def k18_4 : Code := (c2 k18_3)
noncomputable def k18_5 : Code := (c2 (c1 k18_2))
noncomputable def k18_6 : Code := (c1 (c1 k18_5))
noncomputable def k18_7 : Code := (c2 k18_6)
noncomputable def k18_8 : Code := (c2 k18_7)
noncomputable def k18_9 : Code := (c2 (c1 (c1 k18_7)))
noncomputable def k18_10 : Code := (c2 k18_9)
noncomputable def k18_11 : Code := (c2 k18_10)
noncomputable def k18_12 : Code := (c2 k18_11)
noncomputable def k18_13 : Code := (c2 k18_12)
noncomputable def k18_14 : Code := (c2 k18_13)
noncomputable def k18_15 : Code := (c2 k18_14)
noncomputable def k18_16 : Code := (c2 (c1 k18_13))
noncomputable def k18_17 : Code := (c1 (c1 (c1 k18_11)))
noncomputable def k18_18 : Code := (c2 k18_17)
noncomputable def k18_19 : Code := (c2 (c1 k18_18))
noncomputable def k18_20 : Code := (c2 (c1 k18_17))
noncomputable def k18_21 : Code := (c2 (c1 (c1 (c1 k18_7))))
noncomputable def k18_22 : Code := (c2 (c1 k18_6))
theorem s18_8 {R : Value → World → Prop} {K1 : (Value × Value) → World → Prop} {Q : Exit → Env → World → Prop} (hN : ∀ e w, (K1 ((e 3), (e 4)) w) → Q .normal e w) (e : Env) (w : World) (h : m18_8 R K1 (e 0) (e 3) (e 4) w) : W18 k18_8 Q e w := by
  unfold m18_8 at h
  exact region_ok 4 (fun e w => K1 ((e 3), (e 4)) w) (by kernel_rfl) (kcast (by kernel_rfl) h) hN (by kernel_rfl)
theorem s18_19 {R : Value → World → Prop} {K1 : (Value × Value) → World → Prop} {K2 : (Value × Value) → World → Prop} {Q : Exit → Env → World → Prop} (hN : ∀ e w, (K2 ((e 5), (e 6)) w) → Q .normal e w) (e : Env) (w : World) (h : m18_19 R K1 K2 (e 0) (e 3) (e 4) (e 5) (e 6) w) : W18 k18_19 Q e w := by
  unfold m18_19 at h
  exact region_ok 10 (fun e w => K2 ((e 5), (e 6)) w) (by kernel_rfl) (kcast (by kernel_rfl) h) hN (by kernel_rfl)
theorem s18_18 {R : Value → World → Prop} {K1 : (Value × Value) → World → Prop} {K2 : (Value × Value) → World → Prop} {Q : Exit → Env → World → Prop} (hN : ∀ e w, (K2 ((e 5), (e 6)) w) → Q .normal e w) (e : Env) (w : World) (h : m18_18 R K1 K2 (e 0) (e 3) (e 4) (e 5) (e 6) w) : W18 k18_18 Q e w := by
  unfold m18_18 at h
  refine block_ok 3 (by kernel_rfl) ?_
  have hN : ∀ e w, (K2 ((e 5), (e 6)) w) → (inBlockE 3 Q) .normal e w := fun e w h => block_N (hN e w h)
  refine seq_ok' (by kernel_rfl) ?_
  have hN' : ∀ e w, (m18_19 R K1 K2 (e 0) (e 3) (e 4) (e 5) (e 6) w) → (thenE (W18 k18_19 (inBlockE 3 Q)) (inBlockE 3 Q)) .normal e w := fun e w h => then_N (s18_19 (R := R) (Q := (inBlockE 3 Q)) (K1 := K1) (K2 := K2) hN e w h)
  have hN := hN'
  exact region_ok 9 (fun e w => m18_19 R K1 K2 (e 0) (e 3) (e 4) (e 5) (e 6) w) (by kernel_rfl) (kcast (by kernel_rfl) h) hN (by kernel_rfl)
theorem s18_15 {R : Value → World → Prop} {K1 : (Value × Value) → World → Prop} {Q : Exit → Env → World → Prop} (hN : ∀ e w, (m18_8 R K1 (e 0) (e 3) (e 4) w) → Q .normal e w) (e : Env) (w : World) (h : m18_15 R K1 (e 0) (e 4) (e 5) w) : W18 k18_15 Q e w := by
  unfold m18_15 at h
  exact region_ok 15 (fun e w => m18_8 R K1 (e 0) (e 3) (e 4) w) (by kernel_rfl) (kcast (by kernel_rfl) h) hN (by kernel_rfl)
theorem s18_14 {R : Value → World → Prop} {K1 : (Value × Value) → World → Prop} {Q : Exit → Env → World → Prop} (hN : ∀ e w, (m18_8 R K1 (e 0) (e 3) (e 4) w) → Q .normal e w) (e : Env) (w : World) (h : m18_14 R K1 (e 0) (e 3) (e 4) (e 5) (e 6) w) : W18 k18_14 Q e w := by
  unfold m18_14 at h
  refine seq_ok' (by kernel_rfl) ?_
  have hN' : ∀ e w, (m18_15 R K1 (e 0) (e 4) (e 5) w) → (thenE (W18 k18_15 Q) Q) .normal e w := fun e w h => then_N (s18_15 (R := R) (Q := Q) (K1 := K1) hN e w h)
  have hN := hN'
  exact region_ok 14 (fun e w => m18_15 R K1 (e 0) (e 4) (e 5) w) (by kernel_rfl) (kcast (by kernel_rfl) h) hN (by kernel_rfl)
theorem s18_16 {R : Value → World → Prop} {K1 : (Value × Value) → World → Prop} {Q : Exit → Env → World → Prop} (hN : ∀ e w, (m18_14 R K1 (e 0) (e 3) (e 4) (e 5) (e 6) w) → Q .normal e w) (e : Env) (w : World) (h : m18_16 R K1 (e 0) (e 3) (e 4) (e 5) (e 6) (e 63) w) : W18 k18_16 Q e w := by
  unfold m18_16 at h
  refine cond_ok (Operand.tmp 63) (by kernel_rfl) h (fun h1 => ?_) (fun h1 => ?_)
  · exact region_ok 13 (fun e w => m18_14 R K1 (e 0) (e 3) (e 4) (e 5) (e 6) w) (by kernel_rfl) (kcast (by kernel_rfl) h1) hN (by kernel_rfl)
  · exact skip_ok (by kernel_rfl) (hN _ _ h1)
theorem s18_13 {R : Value → World → Prop} {K1 : (Value × Value) → World → Prop} {Q : Exit → Env → World → Prop} (hN : ∀ e w, (m18_8 R K1 (e 0) (e 3) (e 4) w) → Q .normal e w) (e : Env) (w : World) (h : m18_13 R K1 (e 0) (e 3) (e 4) (e 5) (e 6) w) : W18 k18_13 Q e w := by
  unfold m18_13 at h
  refine seq_ok' (by kernel_rfl) ?_
  have hN' : ∀ e w, (m18_14 R K1 (e 0) (e 3) (e 4) (e 5) (e 6) w) → (thenE (W18 k18_14 Q) Q) .normal e w := fun e w h => then_N (s18_14 (R := R) (Q := Q) (K1 := K1) hN e w h)
  have hN := hN'
  refine seq_ok' (by kernel_rfl) ?_
  have hN' : ∀ e w, (m18_16 R K1 (e 0) (e 3) (e 4) (e 5) (e 6) (e 63) w) → (thenE (W18 k18_16 (thenE (W18 k18_14 Q) Q)) (thenE (W18 k18_14 Q) Q)) .normal e w := fun e w h => then_N (s18_16 (R := R) (Q := (thenE (W18 k18_14 Q) Q)) (K1 := K1) hN e w h)
  have hN := hN'
  exact quiet_ok 12 (fun e w => m18_16 R K1 (e 0) (e 3) (e 4) (e 5) (e 6) (e 63) w) (by kernel_rfl) (by kernel_rfl) (by kernel_rfl) (kcast (by kernel_rfl) h) hN (by kernel_rfl)
theorem s18_12 {R : Value → World → Prop} {K1 : (Value × Value) → World → Prop} {Q : Exit → Env → World → Prop} (hN : ∀ e w, (m18_8 R K1 (e 0) (e 3) (e 4) w) → Q .normal e w) (e : Env) (w : World) (h : m18_12 R K1 (e 0) (e 3) (e 4) (e 5) (e 6) w) : W18 k18_12 Q e w := by
  unfold m18_12 at h
  refine seq_ok' (by kernel_rfl) ?_
  have hN' : ∀ e w, (m18_13 R K1 (e 0) (e 3) (e 4) (e 5) (e 6) w) → (thenE (W18 k18_13 Q) Q) .normal e w := fun e w h => then_N (s18_13 (R := R) (Q := Q) (K1 := K1) hN e w h)
  have hN := hN'
  exact region_ok 11 (fun e w => m18_13 R K1 (e 0) (e 3) (e 4) (e 5) (e 6) w) (by kernel_rfl) (kcast (by kernel_rfl) h) hN (by kernel_rfl)
theorem s18_20 {R : Value → World → Prop} {K1 : (Value × Value) → World → Prop} {K2 : (Value × Value) → World → Prop} {Q : Exit → Env → World → Prop} (hN : ∀ e w, (m18_18 R K1 K2 (e 0) (e 3) (e 4) (e 5) (e 6) w) → Q .normal e w) (hX2 : ∀ e w, (m18_12 R K1 (e 0) (e 3) (e 4) (e 5) (e 6) w) → Q (.exit 2) e w) (e : Env) (w : World) (h : m18_20 R K1 K2 (e 0) (e 3) (e 4) (e 5) (e 6) (e 32) w) : W18 k18_20 Q e w := by
  unfold m18_20 at h
  refine cond_ok (Operand.tmp 32) (by kernel_rfl) h (fun h1 => ?_) (fun h1 => ?_)
  · exact skip_ok (by kernel_rfl) (hN _ _ h1)
  · exact exit_ok 2 (by kernel_rfl) (hX2 _ _ h1)
theorem s18_17 {R : Value → World → Prop} {K1 : (Value × Value) → World → Prop} {K2 : (Value × Value) → World → Prop} {Q : Exit → Env → World → Prop} (hN : ∀ e w, (K2 ((e 5), (e 6)) w) → Q .normal e w) (hX2 : ∀ e w, (m18_12 R K1 (e 0) (e 3) (e 4) (e 5) (e 6) w) → Q (.exit 2) e w) (e : Env) (w : World) (h : m18_17 R K1 K2 (e 0) (e 3) (e 4) (e 5) (e 6) w) : W18 k18_17 Q e w := by
  unfold m18_17 at h
  refine seq_ok' (by kernel_rfl) ?_
  have hN' : ∀ e w, (m18_18 R K1 K2 (e 0) (e 3) (e 4) (e 5) (e 6) w) → (thenE (W18 k18_18 Q) Q) .normal e w := fun e w h => then_N (s18_18 (R := R) (Q := Q) (K1 := K1) (K2 := K2) hN e w h)
  have hX2 : ∀ e w, (m18_12 R K1 (e 0) (e 3) (e 4) (e 5) (e 6) w) → (thenE (W18 k18_18 Q) Q) (.exit 2) e w := fun e w h => then_X (hX2 e w h)
  have hN := hN'
  refine seq_ok' (by kernel_rfl) ?_
  have hN' : ∀ e w, (m18_20 R K1 K2 (e 0) (e 3) (e 4) (e 5) (e 6) (e 32) w) → (thenE (W18 k18_20 (thenE (W18 k18_18 Q) Q)) (thenE (W18 k18_18 Q) Q)) .normal e w := fun e w h => then_N (s18_20 (R := R) (Q := (thenE (W18 k18_18 Q) Q)) (K1 := K1) (K2 := K2) hN hX2 e w h)
  have hN := hN'
  exact quiet_ok 8 (fun e w => m18_20 R K1 K2 (e 0) (e 3) (e 4) (e 5) (e 6) (e 32) w) (by kernel_rfl) (by kernel_rfl) (by kernel_rfl) (kcast (by kernel_rfl) h) hN (by kernel_rfl)
theorem s18_11 {R : Value → World → Prop} {K1 : (Value × Value) → World → Prop} {Q : Exit → Env → World → Prop} (hN : ∀ e w, (m18_8 R K1 (e 0) (e 3) (e 4) w) → Q .normal e w) (e : Env) (w : World) (h : m18_11 R K1 (e 0) (e 3) (e 4) (e 5) (e 6) w) : W18 k18_11 Q e w := by
  unfold m18_11 at h
  refine seq_ok' (by kernel_rfl) ?_
  have hN' : ∀ e w, (m18_12 R K1 (e 0) (e 3) (e 4) (e 5) (e 6) w) → (thenE (W18 k18_12 Q) Q) .normal e w := fun e w h => then_N (s18_12 (R := R) (Q := Q) (K1 := K1) hN e w h)
  have hN := hN'
  refine block_ok 2 (by kernel_rfl) ?_
  have hX2 : ∀ e w, (m18_12 R K1 (e 0) (e 3) (e 4) (e 5) (e 6) w) → (inBlockE 2 (thenE (W18 k18_12 Q) Q)) (.exit 2) e w := fun e w h => inBlock_same (Q := (thenE (W18 k18_12 Q) Q)) 2 (hN e w h)
  refine loop_ok' (fun (e : Env) => (e 5, e 6)) [0, 3, 4] (by kernel_rfl) (by kernel_rfl) h (fun K e' w' hk h' => ?_)
  have r0 : e' 0 = e 0 := hk 0 (by decide)
  have r3 : e' 3 = e 3 := hk 3 (by decide)
  have r4 : e' 4 = e 4 := hk 4 (by decide)
  have hX2 : ∀ e w, (m18_12 R K1 (e 0) (e 3) (e 4) (e 5) (e 6) w) → (thenE (fun (e : Env) w => K ((e 5), (e 6)) w) (inBlockE 2 (thenE (W18 k18_12 Q) Q))) (.exit 2) e w := fun e w h => then_X (hX2 e w h)
  exact s18_17 (R := R) (Q := (thenE (fun (e : Env) w => K ((e 5), (e 6)) w) (inBlockE 2 (thenE (W18 k18_12 Q) Q)))) (K1 := K1) (K2 := K) (fun _ _ h => then_N h) hX2 e' w' (by rw [r0, r3, r4]; exact h')
theorem s18_10 {R : Value → World → Prop} {K1 : (Value × Value) → World → Prop} {Q : Exit → Env → World → Prop} (hN : ∀ e w, (m18_8 R K1 (e 0) (e 3) (e 4) w) → Q .normal e w) (e : Env) (w : World) (h : m18_10 R K1 (e 0) (e 3) (e 4) (e 5) w) : W18 k18_10 Q e w := by
  unfold m18_10 at h
  refine seq_ok' (by kernel_rfl) ?_
  have hN' : ∀ e w, (m18_11 R K1 (e 0) (e 3) (e 4) (e 5) (e 6) w) → (thenE (W18 k18_11 Q) Q) .normal e w := fun e w h => then_N (s18_11 (R := R) (Q := Q) (K1 := K1) hN e w h)
  have hN := hN'
  exact region_ok 7 (fun e w => m18_11 R K1 (e 0) (e 3) (e 4) (e 5) (e 6) w) (by kernel_rfl) (kcast (by kernel_rfl) h) hN (by kernel_rfl)
theorem s18_9 {R : Value → World → Prop} {K1 : (Value × Value) → World → Prop} {Q : Exit → Env → World → Prop} (hN : ∀ e w, (m18_8 R K1 (e 0) (e 3) (e 4) w) → Q .normal e w) (e : Env) (w : World) (h : m18_9 R K1 (e 0) (e 3) (e 4) w) : W18 k18_9 Q e w := by
  unfold m18_9 at h
  refine seq_ok' (by kernel_rfl) ?_
  have hN' : ∀ e w, (m18_10 R K1 (e 0) (e 3) (e 4) (e 5) w) → (thenE (W18 k18_10 Q) Q) .normal e w := fun e w h => then_N (s18_10 (R := R) (Q := Q) (K1 := K1) hN e w h)
  have hN := hN'
  exact region_ok 6 (fun e w => m18_10 R K1 (e 0) (e 3) (e 4) (e 5) w) (by kernel_rfl) (kcast (by kernel_rfl) h) hN (by kernel_rfl)
theorem s18_21 {R : Value → World → Prop} {K1 : (Value × Value) → World → Prop} {Q : Exit → Env → World → Prop} (hN : ∀ e w, (m18_9 R K1 (e 0) (e 3) (e 4) w) → Q .normal e w) (hX1 : ∀ e w, (m18_8 R K1 (e 0) (e 3) (e 4) w) → Q (.exit 1) e w) (e : Env) (w : World) (h : m18_21 R K1 (e 0) (e 3) (e 4) (e 17) w) : W18 k18_21 Q e w := by
  unfold m18_21 at h
  refine cond_ok (Operand.tmp 17) (by kernel_rfl) h (fun h1 => ?_) (fun h1 => ?_)
  · exact exit_ok 1 (by kernel_rfl) (hX1 _ _ h1)
  · exact skip_ok (by kernel_rfl) (hN _ _ h1)
theorem s18_7 {R : Value → World → Prop} {K1 : (Value × Value) → World → Prop} {Q : Exit → Env → World → Prop} (hN : ∀ e w, (K1 ((e 3), (e 4)) w) → Q .normal e w) (e : Env) (w : World) (h : m18_7 R K1 (e 0) (e 3) (e 4) w) : W18 k18_7 Q e w := by
  unfold m18_7 at h
  refine seq_ok' (by kernel_rfl) ?_
  have hN' : ∀ e w, (m18_8 R K1 (e 0) (e 3) (e 4) w) → (thenE (W18 k18_8 Q) Q) .normal e w := fun e w h => then_N (s18_8 (R := R) (Q := Q) (K1 := K1) hN e w h)
  have hN := hN'
  refine block_ok 1 (by kernel_rfl) ?_
  have hX1 : ∀ e w, (m18_8 R K1 (e 0) (e 3) (e 4) w) → (inBlockE 1 (thenE (W18 k18_8 Q) Q)) (.exit 1) e w := fun e w h => inBlock_same (Q := (thenE (W18 k18_8 Q) Q)) 1 (hN e w h)
  have hN : ∀ e w, (m18_8 R K1 (e 0) (e 3) (e 4) w) → (inBlockE 1 (thenE (W18 k18_8 Q) Q)) .normal e w := fun e w h => block_N (hN e w h)
  refine seq_ok' (by kernel_rfl) ?_
  have hN' : ∀ e w, (m18_9 R K1 (e 0) (e 3) (e 4) w) → (thenE (W18 k18_9 (inBlockE 1 (thenE (W18 k18_8 Q) Q))) (inBlockE 1 (thenE (W18 k18_8 Q) Q))) .normal e w := fun e w h => then_N (s18_9 (R := R) (Q := (inBlockE 1 (thenE (W18 k18_8 Q) Q))) (K1 := K1) hN e w h)
  have hX1 : ∀ e w, (m18_8 R K1 (e 0) (e 3) (e 4) w) → (thenE (W18 k18_9 (inBlockE 1 (thenE (W18 k18_8 Q) Q))) (inBlockE 1 (thenE (W18 k18_8 Q) Q))) (.exit 1) e w := fun e w h => then_X (hX1 e w h)
  have hN := hN'
  refine seq_ok' (by kernel_rfl) ?_
  have hN' : ∀ e w, (m18_21 R K1 (e 0) (e 3) (e 4) (e 17) w) → (thenE (W18 k18_21 (thenE (W18 k18_9 (inBlockE 1 (thenE (W18 k18_8 Q) Q))) (inBlockE 1 (thenE (W18 k18_8 Q) Q)))) (thenE (W18 k18_9 (inBlockE 1 (thenE (W18 k18_8 Q) Q))) (inBlockE 1 (thenE (W18 k18_8 Q) Q)))) .normal e w := fun e w h => then_N (s18_21 (R := R) (Q := (thenE (W18 k18_9 (inBlockE 1 (thenE (W18 k18_8 Q) Q))) (inBlockE 1 (thenE (W18 k18_8 Q) Q)))) (K1 := K1) hN hX1 e w h)
  have hN := hN'
  exact region_ok 5 (fun e w => m18_21 R K1 (e 0) (e 3) (e 4) (e 17) w) (by kernel_rfl) (kcast (by kernel_rfl) h) hN (by kernel_rfl)
theorem s18_4 {R : Value → World → Prop} {Q : Exit → Env → World → Prop} (hR : ∀ e w, (R (e 2) w) → Q .ret e w) (e : Env) (w : World) (h : m18_4 R (e 2) w) : W18 k18_4 Q e w := by
  unfold m18_4 at h
  exact ret_ok (by kernel_rfl) (hR _ _ h)
theorem s18_3 {R : Value → World → Prop} {Q : Exit → Env → World → Prop} (hR : ∀ e w, (R (e 2) w) → Q .ret e w) (e : Env) (w : World) (h : m18_3 R (e 3) w) : W18 k18_3 Q e w := by
  unfold m18_3 at h
  refine seq_ok' (by kernel_rfl) ?_
  have hN' : ∀ e w, (m18_4 R (e 2) w) → (thenE (W18 k18_4 Q) Q) .normal e w := fun e w h => then_N (s18_4 (R := R) (Q := Q) hR e w h)
  have hN := hN'
  exact region_ok 16 (fun e w => m18_4 R (e 2) w) (by kernel_rfl) (kcast (by kernel_rfl) h) hN (by kernel_rfl)
theorem s18_22 {R : Value → World → Prop} {K1 : (Value × Value) → World → Prop} {Q : Exit → Env → World → Prop} (hN : ∀ e w, (m18_7 R K1 (e 0) (e 3) (e 4) w) → Q .normal e w) (hX0 : ∀ e w, (m18_3 R (e 3) w) → Q (.exit 0) e w) (e : Env) (w : World) (h : m18_22 R K1 (e 0) (e 3) (e 4) (e 10) w) : W18 k18_22 Q e w := by
  unfold m18_22 at h
  refine cond_ok (Operand.tmp 10) (by kernel_rfl) h (fun h1 => ?_) (fun h1 => ?_)
  · exact skip_ok (by kernel_rfl) (hN _ _ h1)
  · exact exit_ok 0 (by kernel_rfl) (hX0 _ _ h1)
theorem s18_6 {R : Value → World → Prop} {K1 : (Value × Value) → World → Prop} {Q : Exit → Env → World → Prop} (hN : ∀ e w, (K1 ((e 3), (e 4)) w) → Q .normal e w) (hX0 : ∀ e w, (m18_3 R (e 3) w) → Q (.exit 0) e w) (e : Env) (w : World) (h : m18_6 R K1 (e 0) (e 3) (e 4) w) : W18 k18_6 Q e w := by
  unfold m18_6 at h
  refine seq_ok' (by kernel_rfl) ?_
  have hN' : ∀ e w, (m18_7 R K1 (e 0) (e 3) (e 4) w) → (thenE (W18 k18_7 Q) Q) .normal e w := fun e w h => then_N (s18_7 (R := R) (Q := Q) (K1 := K1) hN e w h)
  have hX0 : ∀ e w, (m18_3 R (e 3) w) → (thenE (W18 k18_7 Q) Q) (.exit 0) e w := fun e w h => then_X (hX0 e w h)
  have hN := hN'
  refine seq_ok' (by kernel_rfl) ?_
  have hN' : ∀ e w, (m18_22 R K1 (e 0) (e 3) (e 4) (e 10) w) → (thenE (W18 k18_22 (thenE (W18 k18_7 Q) Q)) (thenE (W18 k18_7 Q) Q)) .normal e w := fun e w h => then_N (s18_22 (R := R) (Q := (thenE (W18 k18_7 Q) Q)) (K1 := K1) hN hX0 e w h)
  have hN := hN'
  exact region_ok 3 (fun e w => m18_22 R K1 (e 0) (e 3) (e 4) (e 10) w) (by kernel_rfl) (kcast (by kernel_rfl) h) hN (by kernel_rfl)
theorem s18_5 {R : Value → World → Prop} {Q : Exit → Env → World → Prop} (hN : ∀ e w, (m18_3 R (e 3) w) → Q .normal e w) (e : Env) (w : World) (h : m18_5 R (e 0) (e 3) (e 4) w) : W18 k18_5 Q e w := by
  unfold m18_5 at h
  refine block_ok 0 (by kernel_rfl) ?_
  have hX0 : ∀ e w, (m18_3 R (e 3) w) → (inBlockE 0 Q) (.exit 0) e w := fun e w h => inBlock_same (Q := Q) 0 (hN e w h)
  refine loop_ok' (fun (e : Env) => (e 3, e 4)) [0] (by kernel_rfl) (by kernel_rfl) h (fun K e' w' hk h' => ?_)
  have r0 : e' 0 = e 0 := hk 0 (by decide)
  have hX0 : ∀ e w, (m18_3 R (e 3) w) → (thenE (fun (e : Env) w => K ((e 3), (e 4)) w) (inBlockE 0 Q)) (.exit 0) e w := fun e w h => then_X (hX0 e w h)
  exact s18_6 (R := R) (Q := (thenE (fun (e : Env) w => K ((e 3), (e 4)) w) (inBlockE 0 Q))) (K1 := K) (fun _ _ h => then_N h) hX0 e' w' (by rw [r0]; exact h')
theorem s18_2 {R : Value → World → Prop} {Q : Exit → Env → World → Prop} (hR : ∀ e w, (R (e 2) w) → Q .ret e w) (e : Env) (w : World) (h : m18_2 R (e 0) (e 3) w) : W18 k18_2 Q e w := by
  unfold m18_2 at h
  refine seq_ok' (by kernel_rfl) ?_
  have hN' : ∀ e w, (m18_3 R (e 3) w) → (thenE (W18 k18_3 Q) Q) .normal e w := fun e w h => then_N (s18_3 (R := R) (Q := Q) hR e w h)
  have hN := hN'
  refine seq_ok' (by kernel_rfl) ?_
  have hN' : ∀ e w, (m18_5 R (e 0) (e 3) (e 4) w) → (thenE (W18 k18_5 (thenE (W18 k18_3 Q) Q)) (thenE (W18 k18_3 Q) Q)) .normal e w := fun e w h => then_N (s18_5 (R := R) (Q := (thenE (W18 k18_3 Q) Q)) hN e w h)
  have hN := hN'
  exact region_ok 2 (fun e w => m18_5 R (e 0) (e 3) (e 4) w) (by kernel_rfl) (kcast (by kernel_rfl) h) hN (by kernel_rfl)
theorem s18_1 {R : Value → World → Prop} {Q : Exit → Env → World → Prop} (hR : ∀ e w, (R (e 2) w) → Q .ret e w) (e : Env) (w : World) (h : m18_1 R (e 0) w) : W18 k18_1 Q e w := by
  unfold m18_1 at h
  refine seq_ok' (by kernel_rfl) ?_
  have hN' : ∀ e w, (m18_2 R (e 0) (e 3) w) → (thenE (W18 k18_2 Q) Q) .normal e w := fun e w h => then_N (s18_2 (R := R) (Q := Q) hR e w h)
  have hN := hN'
  exact region_ok 1 (fun e w => m18_2 R (e 0) (e 3) w) (by kernel_rfl) (kcast (by kernel_rfl) h) hN (by kernel_rfl)
theorem s18_0 {R : Value → World → Prop} {Q : Exit → Env → World → Prop} (hR : ∀ e w, (R (e 2) w) → Q .ret e w) (e : Env) (w : World) (h : m18_0 R (e 0) w) : W18 k18_0 Q e w := by
  unfold m18_0 at h
  refine seq_ok' (by kernel_rfl) ?_
  have hN' : ∀ e w, (m18_1 R (e 0) w) → (thenE (W18 k18_1 Q) Q) .normal e w := fun e w h => then_N (s18_1 (R := R) (Q := Q) hR e w h)
  have hN := hN'
  exact region_ok 0 (fun e w => m18_1 R (e 0) w) (by kernel_rfl) (kcast (by kernel_rfl) h) hN (by kernel_rfl)
abbrev m18 (R : Value → World → Prop) (l0 : Value) (w : World) : Prop := m18_0 R l0 w
theorem s18 (l0 : Value) {R : Value → World → Prop} {w : World} (h : m18 R l0 w) :
    Calls Try.prog 18 #[l0] w fun e w' => ∃ v, e = .returned v ∧ R v w' :=
  calls_of_cwp (st := (fun i => cond (Nat.beq i 12) 1 (cond (Nat.beq i 8) 1 (0)))) (c := k18_0) (by kernel_rfl) Try.func18 (by kernel_rfl) (Nat.le_of_ble_eq_true (by kernel_rfl)) (by kernel_rfl)
    (s18_0 (R := R) (Q := endE Try.prog Try.f18 R) (fun e w h => kcast (by kernel_rfl) h) (argsE #[l0]) w (kcast (by kernel_rfl) h))
/-! ### headgate/headgateref09.Range -/
def m12_25 (R : Value → World → Prop) (t4 : Value) (t5 : Value) (w : World) : Prop :=
  R (Value.tuple #[t4, t5]) w
def m12_20 (R : Value → World → Prop) (K1 : (Value × Value) → World → Prop) (K2 : (Value × Value) → World → Prop) (parts0 : Value) (m6 : Value) (out7 : Value) (i8 : Value) (n9 : Value) (k10 : Value) (w : World) : Prop :=
  valP Try.prog (binS BinOp.add 3 (Operand.tmp 40) (Operand.const (Value.int IntKind.i64 1)) k10 (Value.int IntKind.i64 1)) w fun t41 w =>
  K2 (out7, t41) w
def m12_19 (R : Value → World → Prop) (K1 : (Value × Value) → World → Prop) (K2 : (Value × Value) → World → Prop) (parts0 : Value) (m6 : Value) (out7 : Value) (i8 : Value) (n9 : Value) (k10 : Value) (w : World) : Prop :=
  valP Try.prog (Instr.indexAt 22 m6 i8) w fun t45 w =>
  valP Try.prog (Instr.loadAt 3 t45) w fun t46 w =>
  valP Try.prog (Instr.buildSlice 22 1 #[(0, t46)]) w fun t47 w =>
  builtinP Try.prog Builtin.append #[22, 22] 22 #[false, false] #[out7, t47] w fun t48 w =>
  m12_20 R K1 K2 parts0 m6 t48 i8 n9 k10 w
def m12_14 (R : Value → World → Prop) (K1 : (Value × Value) → World → Prop) (parts0 : Value) (m6 : Value) (out7 : Value) (i8 : Value) (w : World) : Prop :=
  valP Try.prog (binS BinOp.add 3 (Operand.tmp 23) (Operand.const (Value.int IntKind.i64 1)) i8 (Value.int IntKind.i64 1)) w fun t24 w =>
  K1 (out7, t24) w
def m12_21 (R : Value → World → Prop) (K1 : (Value × Value) → World → Prop) (K2 : (Value × Value) → World → Prop) (parts0 : Value) (m6 : Value) (out7 : Value) (i8 : Value) (n9 : Value) (k10 : Value) (t39 : Value) (w : World) : Prop :=
  condP t39
  (m12_19 R K1 K2 parts0 m6 out7 i8 n9 k10 w)
  (m12_14 R K1 parts0 m6 out7 i8 w)
def m12_18 (R : Value → World → Prop) (K1 : (Value × Value) → World → Prop) (K2 : (Value × Value) → World → Prop) (parts0 : Value) (m6 : Value) (out7 : Value) (i8 : Value) (n9 : Value) (k10 : Value) (w : World) : Prop :=
  valP Try.prog (binS BinOp.lss 3 (Operand.tmp 37) (Operand.tmp 38) k10 n9) w fun t39 w =>
  m12_21 R K1 K2 parts0 m6 out7 i8 n9 k10 t39 w
def m12_17 (R : Value → World → Prop) (K1 : (Value × Value) → World → Prop) (parts0 : Value) (m6 : Value) (out7 : Value) (i8 : Value) (n9 : Value) (k10 : Value) (w : World) : Prop :=
  loopP (fun (K2 : (Value × Value) → World → Prop) (s : Value × Value) w => m12_18 R K1 K2 parts0 m6 s.1 i8 n9 s.2 w) (out7, k10) w
def m12_16 (R : Value → World → Prop) (K1 : (Value × Value) → World → Prop) (parts0 : Value) (m6 : Value) (out7 : Value) (i8 : Value) (n9 : Value) (w : World) : Prop :=
  m12_17 R K1 parts0 m6 out7 i8 n9 (Value.int IntKind.i64 0) w
def m12_22 (R : Value → World → Prop) (K1 : (Value × Value) → World → Prop) (parts0 : Value) (m6 : Value) (out7 : Value) (i8 : Value) (n9 : Value) (t34 : Value) (w : World) : Prop :=
  condP t34
  (valP Try.prog (binS BinOp.add 3 (Operand.tmp 35) (Operand.const (Value.int IntKind.i64 1)) n9 (Value.int IntKind.i64 1)) w fun t36 w =>
  m12_16 R K1 parts0 m6 out7 i8 t36 w)
  (m12_16 R K1 parts0 m6 out7 i8 n9 w)
def m12_15 (R : Value → World → Prop) (K1 : (Value × Value) → World → Prop) (parts0 : Value) (m6 : Value) (out7 : Value) (i8 : Value) (n9 : Value) (w : World) : Prop :=
  builtinP Try.prog Builtin.len #[22] 3 #[false] #[m6] w fun t32 w =>
  valP Try.prog (binS BinOp.rem 3 (Operand.tmp 30) (Operand.tmp 32) parts0 t32) w fun t33 w =>
  valP Try.prog (binS BinOp.lss 3 (Operand.tmp 29) (Operand.tmp 33) i8 t33) w fun t34 w =>
  m12_22 R K1 parts0 m6 out7 i8 n9 t34 w
def m12_13 (R : Value → World → Prop) (K1 : (Value × Value) → World → Prop) (parts0 : Value) (m6 : Value) (out7 : Value) (i8 : Value) (w : World) : Prop :=
  builtinP Try.prog Builtin.len #[22] 3 #[false] #[m6] w fun t27 w =>
  valP Try.prog (binS BinOp.quo 3 (Operand.tmp 25) (Operand.tmp 27) parts0 t27) w fun t28 w =>
  m12_15 R K1 parts0 m6 out7 i8 t28 w
def m12_9 (R : Value → World → Prop) (K1 : Value → World → Prop) (parts0 : Value) (out7 : Value) (w : World) : Prop :=
  valP Try.prog (Instr.buildSlice 22 1 #[(0, (Value.int IntKind.i64 0))]) w fun t54 w =>
  builtinP Try.prog Builtin.append #[22, 22] 22 #[false, false] #[out7, t54] w fun t55 w =>
  K1 t55 w
def m12_7 (R : Value → World → Prop) (t4 : Value) (t5 : Value) (w : World) : Prop :=
  R (Value.tuple #[t4, t5]) w
def m12_6 (R : Value → World → Prop) (out7 : Value) (w : World) : Prop :=
  m12_7 R out7 (Value.int IntKind.i64 0) w
def m12_10 (R : Value → World → Prop) (K1 : Value → World → Prop) (parts0 : Value) (out7 : Value) (t52 : Value) (w : World) : Prop :=
  condP t52
  (m12_9 R K1 parts0 out7 w)
  (m12_6 R out7 w)
def m12_8 (R : Value → World → Prop) (K1 : Value → World → Prop) (parts0 : Value) (out7 : Value) (w : World) : Prop :=
  builtinP Try.prog Builtin.len #[22] 3 #[false] #[out7] w fun t50 w =>
  valP Try.prog (binS BinOp.lss 3 (Operand.tmp 50) (Operand.tmp 51) t50 parts0) w fun t52 w =>
  m12_10 R K1 parts0 out7 t52 w
def m12_5 (R : Value → World → Prop) (parts0 : Value) (out7 : Value) (w : World) : Prop :=
  loopP (fun (K1 : Value → World → Prop) (s : Value) w => m12_8 R K1 parts0 s w) out7 w
def m12_23 (R : Value → World → Prop) (K1 : (Value × Value) → World → Prop) (parts0 : Value) (m6 : Value) (out7 : Value) (i8 : Value) (t22 : Value) (w : World) : Prop :=
  condP t22
  (m12_13 R K1 parts0 m6 out7 i8 w)
  (m12_5 R parts0 out7 w)
def m12_12 (R : Value → World → Prop) (K1 : (Value × Value) → World → Prop) (parts0 : Value) (m6 : Value) (out7 : Value) (i8 : Value) (w : World) : Prop :=
  builtinP Try.prog Builtin.len #[22] 3 #[false] #[m6] w fun t21 w =>
  valP Try.prog (binS BinOp.lss 3 (Operand.tmp 19) (Operand.tmp 21) i8 t21) w fun t22 w =>
  m12_23 R K1 parts0 m6 out7 i8 t22 w
def m12_11 (R : Value → World → Prop) (parts0 : Value) (m6 : Value) (out7 : Value) (i8 : Value) (w : World) : Prop :=
  loopP (fun (K1 : (Value × Value) → World → Prop) (s : Value × Value) w => m12_12 R K1 parts0 m6 s.1 s.2 w) (out7, i8) w
def m12_4 (R : Value → World → Prop) (parts0 : Value) (m6 : Value) (out7 : Value) (w : World) : Prop :=
  m12_11 R parts0 m6 out7 (Value.int IntKind.i64 0) w
def m12_3 (R : Value → World → Prop) (parts0 : Value) (m6 : Value) (w : World) : Prop :=
  m12_4 R parts0 m6 (Value.slice none 0 0) w
def m12_2 (R : Value → World → Prop) (parts0 : Value) (members1 : Value) (w : World) : Prop :=
  callP Try.prog (fnV 18) #[members1] w fun t18 w =>
  m12_3 R parts0 t18 w
def m12_24 (R : Value → World → Prop) (parts0 : Value) (members1 : Value) (t16 : Value) (w : World) : Prop :=
  condP t16
  (m12_25 R (Value.slice none 0 0) (Value.int IntKind.i64 1) w)
  (m12_2 R parts0 members1 w)
def m12_1 (R : Value → World → Prop) (parts0 : Value) (members1 : Value) (w : World) : Prop :=
  valP Try.prog (binS BinOp.lss 3 (Operand.tmp 11) (Operand.const (Value.int IntKind.i64 1)) parts0 (Value.int IntKind.i64 1)) w fun t12 w =>
  condP t12
  (pickP t12 (Value.bool true) undef fun t16 =>
  m12_24 R parts0 members1 t16 w)
  (valP Try.prog (binS BinOp.gtr 3 (Operand.tmp 14) (Operand.const (Value.int IntKind.i64 64)) parts0 (Value.int IntKind.i64 64)) w fun t15 w =>
  pickP t12 (Value.bool true) t15 fun t16 =>
  m12_24 R parts0 members1 t16 w)
def m12_0 (R : Value → World → Prop) (parts0 : Value) (members1 : Value) (w : World) : Prop :=
  m12_1 R parts0 members1 w
abbrev W12 := cwp Try.prog (fun i => 0)
noncomputable def k12_0 : Code := (bodyOf Try.f12)
noncomputable def k12_1 : Code := (c2 k12_0)
noncomputable def k12_2 : Code := (c2 k12_1)
noncomputable def k12_3 : Code := (c2 k12_2)
noncomputable def k12_4 : Code := (c2 k12_3)
noncomputable def k12_5 : Code := (c2 k12_4)
noncomputable def k12_6 : Code := (c2 k12_5)
noncomputable def k12_7 : Code := (c2 k12_6)
noncomputable def k12_8 : Code := (c1 (c1 (c1 k12_5)))
noncomputable def k12_9 : Code := (c2 k12_8)
noncomputable def k12_10 : Code := (c2 (c1 k12_8))
noncomputable def k12_11 : Code := (c2 (c1 k12_4))
noncomputable def k12_12 : Code := (c1 (c1 k12_11))
noncomputable def k12_13 : Code := (c2 k12_12)
noncomputable def k12_14 : Code := (c2 k12_13)
noncomputable def k12_15 : Code := (c2 (c1 (c1 k12_13)))
noncomputable def k12_16 : Code := (c2 k12_15)
noncomputable def k12_17 : Code := (c2 k12_16)
noncomputable def k12_18 : Code := (c1 (c1 k12_17))
noncomputable def k12_19 : Code := (c2 k12_18)
noncomputable def k12_20 : Code := (c2 k12_19)
noncomputable def k12_21 : Code := (c2 (c1 k12_18))
noncomputable def k12_22 : Code := (c2 (c1 k12_15))
noncomputable def k12_23 : Code := (c2 (c1 k12_12))
noncomputable def k12_24 : Code := (c2 (c1 k12_1))
noncomputable def k12_25 : Code := (c2 (c1 k12_24))
theorem s12_25 {R : Value → World → Prop} {Q : Exit → Env → World → Prop} (hR : ∀ e w, (R (Value.tuple #[(e 4), (e 5)]) w) → Q .ret e w) (e : Env) (w : World) (h : m12_25 R (e 4) (e 5) w) : W12 k12_25 Q e w := by
  unfold m12_25 at h
  exact ret_ok (by kernel_rfl) (hR _ _ h)
theorem s12_20 {R : Value → World → Prop} {K1 : (Value × Value) → World → Prop} {K2 : (Value × Value) → World → Prop} {Q : Exit → Env → World → Prop} (hN : ∀ e w, (K2 ((e 7), (e 10)) w) → Q .normal e w) (e : Env) (w : World) (h : m12_20 R K1 K2 (e 0) (e 6) (e 7) (e 8) (e 9) (e 10) w) : W12 k12_20 Q e w := by
  unfold m12_20 at h
  exact region_ok 13 (fun e w => K2 ((e 7), (e 10)) w) (by kernel_rfl) (kcast (by kernel_rfl) h) hN (by kernel_rfl)
theorem s12_19 {R : Value → World → Prop} {K1 : (Value × Value) → World → Prop} {K2 : (Value × Value) → World → Prop} {Q : Exit → Env → World → Prop} (hN : ∀ e w, (K2 ((e 7), (e 10)) w) → Q .normal e w) (e : Env) (w : World) (h : m12_19 R K1 K2 (e 0) (e 6) (e 7) (e 8) (e 9) (e 10) w) : W12 k12_19 Q e w := by
  unfold m12_19 at h
  refine seq_ok' (by kernel_rfl) ?_
  have hN' : ∀ e w, (m12_20 R K1 K2 (e 0) (e 6) (e 7) (e 8) (e 9) (e 10) w) → (thenE (W12 k12_20 Q) Q) .normal e w := fun e w h => then_N (s12_20 (R := R) (Q := Q) (K1 := K1) (K2 := K2) hN e w h)
  have hN := hN'
  refine block_ok 3 (by kernel_rfl) ?_
  have hN : ∀ e w, (m12_20 R K1 K2 (e 0) (e 6) (e 7) (e 8) (e 9) (e 10) w) → (inBlockE 3 (thenE (W12 k12_20 Q) Q)) .normal e w := fun e w h => block_N (hN e w h)
  exact region_ok 14 (fun e w => m12_20 R K1 K2 (e 0) (e 6) (e 7) (e 8) (e 9) (e 10) w) (by kernel_rfl) (kcast (by kernel_rfl) h) hN (by kernel_rfl)
theorem s12_14 {R : Value → World → Prop} {K1 : (Value × Value) → World → Prop} {Q : Exit → Env → World → Prop} (hN : ∀ e w, (K1 ((e 7), (e 8)) w) → Q .normal e w) (e : Env) (w : World) (h : m12_14 R K1 (e 0) (e 6) (e 7) (e 8) w) : W12 k12_14 Q e w := by
  unfold m12_14 at h
  exact region_ok 7 (fun e w => K1 ((e 7), (e 8)) w) (by kernel_rfl) (kcast (by kernel_rfl) h) hN (by kernel_rfl)
theorem s12_21 {R : Value → World → Prop} {K1 : (Value × Value) → World → Prop} {K2 : (Value × Value) → World → Prop} {Q : Exit → Env → World → Prop} (hN : ∀ e w, (m12_19 R K1 K2 (e 0) (e 6) (e 7) (e 8) (e 9) (e 10) w) → Q .normal e w) (hX2 : ∀ e w, (m12_14 R K1 (e 0) (e 6) (e 7) (e 8) w) → Q (.exit 2) e w) (e : Env) (w : World) (h : m12_21 R K1 K2 (e 0) (e 6) (e 7) (e 8) (e 9) (e 10) (e 39) w) : W12 k12_21 Q e w := by
  unfold m12_21 at h
  refine cond_ok (Operand.tmp 39) (by kernel_rfl) h (fun h1 => ?_) (fun h1 => ?_)
  · exact skip_ok (by kernel_rfl) (hN _ _ h1)
  · exact exit_ok 2 (by kernel_rfl) (hX2 _ _ h1)
theorem s12_18 {R : Value → World → Prop} {K1 : (Value × Value) → World → Prop} {K2 : (Value × Value) → World → Prop} {Q : Exit → Env → World → Prop} (hN : ∀ e w, (K2 ((e 7), (e 10)) w) → Q .normal e w) (hX2 : ∀ e w, (m12_14 R K1 (e 0) (e 6) (e 7) (e 8) w) → Q (.exit 2) e w) (e : Env) (w : World) (h : m12_18 R K1 K2 (e 0) (e 6) (e 7) (e 8) (e 9) (e 10) w) : W12 k12_18 Q e w := by
  unfold m12_18 at h
  refine seq_ok' (by kernel_rfl) ?_
  have hN' : ∀ e w, (m12_19 R K1 K2 (e 0) (e 6) (e 7) (e 8) (e 9) (e 10) w) → (thenE (W12 k12_19 Q) Q) .normal e w := fun e w h => then_N (s12_19 (R := R) (Q := Q) (K1 := K1) (K2 := K2) hN e w h)
  have hX2 : ∀ e w, (m12_14 R K1 (e 0) (e 6) (e 7) (e 8) w) → (thenE (W12 k12_19 Q) Q) (.exit 2) e w := fun e w h => then_X (hX2 e w h)
  have hN := hN'
  refine seq_ok' (by kernel_rfl) ?_
  have hN' : ∀ e w, (m12_21 R K1 K2 (e 0) (e 6) (e 7) (e 8) (e 9) (e 10) (e 39) w) → (thenE (W12 k12_21 (thenE (W12 k12_19 Q) Q)) (thenE (W12 k12_19 Q) Q)) .normal e w := fun e w h => then_N (s12_21 (R := R) (Q := (thenE (W12 k12_19 Q) Q)) (K1 := K1) (K2 := K2) hN hX2 e w h)
  have hN := hN'
  exact region_ok 12 (fun e w => m12_21 R K1 K2 (e 0) (e 6) (e 7) (e 8) (e 9) (e 10) (e 39) w) (by kernel_rfl) (kcast (by kernel_rfl) h) hN (by kernel_rfl)
theorem s12_17 {R : Value → World → Prop} {K1 : (Value × Value) → World → Prop} {Q : Exit → Env → World → Prop} (hN : ∀ e w, (m12_14 R K1 (e 0) (e 6) (e 7) (e 8) w) → Q .normal e w) (e : Env) (w : World) (h : m12_17 R K1 (e 0) (e 6) (e 7) (e 8) (e 9) (e 10) w) : W12 k12_17 Q e w := by
  unfold m12_17 at h
  refine block_ok 2 (by kernel_rfl) ?_
  have hX2 : ∀ e w, (m12_14 R K1 (e 0) (e 6) (e 7) (e 8) w) → (inBlockE 2 Q) (.exit 2) e w := fun e w h => inBlock_same (Q := Q) 2 (hN e w h)
  refine loop_ok' (fun (e : Env) => (e 7, e 10)) [0, 6, 8, 9] (by kernel_rfl) (by kernel_rfl) h (fun K e' w' hk h' => ?_)
  have r0 : e' 0 = e 0 := hk 0 (by decide)
  have r6 : e' 6 = e 6 := hk 6 (by decide)
  have r8 : e' 8 = e 8 := hk 8 (by decide)
  have r9 : e' 9 = e 9 := hk 9 (by decide)
  have hX2 : ∀ e w, (m12_14 R K1 (e 0) (e 6) (e 7) (e 8) w) → (thenE (fun (e : Env) w => K ((e 7), (e 10)) w) (inBlockE 2 Q)) (.exit 2) e w := fun e w h => then_X (hX2 e w h)
  exact s12_18 (R := R) (Q := (thenE (fun (e : Env) w => K ((e 7), (e 10)) w) (inBlockE 2 Q))) (K1 := K1) (K2 := K) (fun _ _ h => then_N h) hX2 e' w' (by rw [r0, r6, r8, r9]; exact h')
theorem s12_16 {R : Value → World → Prop} {K1 : (Value × Value) → World → Prop} {Q : Exit → Env → World → Prop} (hN : ∀ e w, (m12_14 R K1 (e 0) (e 6) (e 7) (e 8) w) → Q .normal e w) (e : Env) (w : World) (h : m12_16 R K1 (e 0) (e 6) (e 7) (e 8) (e 9) w) : W12 k12_16 Q e w := by
  unfold m12_16 at h
  refine seq_ok' (by kernel_rfl) ?_
  have hN' : ∀ e w, (m12_17 R K1 (e 0) (e 6) (e 7) (e 8) (e 9) (e 10) w) → (thenE (W12 k12_17 Q) Q) .normal e w := fun e w h => then_N (s12_17 (R := R) (Q := Q) (K1 := K1) hN e w h)
  have hN := hN'
  exact region_ok 11 (fun e w => m12_17 R K1 (e 0) (e 6) (e 7) (e 8) (e 9) (e 10) w) (by kernel_rfl) (kcast (by kernel_rfl) h) hN (by kernel_rfl)
theorem s12_22 {R : Value → World → Prop} {K1 : (Value × Value) → World → Prop} {Q : Exit → Env → World → Prop} (hN : ∀ e w, (m12_16 R K1 (e 0) (e 6) (e 7) (e 8) (e 9) w) → Q .normal e w) (e : Env) (w : World) (h : m12_22 R K1 (e 0) (e 6) (e 7) (e 8) (e 9) (e 34) w) : W12 k12_22 Q e w := by
  unfold m12_22 at h
  refine cond_ok (Operand.tmp 34) (by kernel_rfl) h (fun h1 => ?_) (fun h1 => ?_)
  · exact region_ok 10 (fun e w => m12_16 R K1 (e 0) (e 6) (e 7) (e 8) (e 9) w) (by kernel_rfl) (kcast (by kernel_rfl) h1) hN (by kernel_rfl)
  · exact skip_ok (by kernel_rfl) (hN _ _ h1)
theorem s12_15 {R : Value → World → Prop} {K1 : (Value × Value) → World → Prop} {Q : Exit → Env → World → Prop} (hN : ∀ e w, (m12_14 R K1 (e 0) (e 6) (e 7) (e 8) w) → Q .normal e w) (e : Env) (w : World) (h : m12_15 R K1 (e 0) (e 6) (e 7) (e 8) (e 9) w) : W12 k12_15 Q e w := by
  unfold m12_15 at h
  refine seq_ok' (by kernel_rfl) ?_
  have hN' : ∀ e w, (m12_16 R K1 (e 0) (e 6) (e 7) (e 8) (e 9) w) → (thenE (W12 k12_16 Q) Q) .normal e w := fun e w h => then_N (s12_16 (R := R) (Q := Q) (K1 := K1) hN e w h)
  have hN := hN'
  refine seq_ok' (by kernel_rfl) ?_
  have hN' : ∀ e w, (m12_22 R K1 (e 0) (e 6) (e 7) (e 8) (e 9) (e 34) w) → (thenE (W12 k12_22 (thenE (W12 k12_16 Q) Q)) (thenE (W12 k12_16 Q) Q)) .normal e w := fun e w h => then_N (s12_22 (R := R) (Q := (thenE (W12 k12_16 Q) Q)) (K1 := K1) hN e w h)
  have hN := hN'
  exact region_ok 9 (fun e w => m12_22 R K1 (e 0) (e 6) (e 7) (e 8) (e 9) (e 34) w) (by kernel_rfl) (kcast (by kernel_rfl) h) hN (by kernel_rfl)
theorem s12_13 {R : Value → World → Prop} {K1 : (Value × Value) → World → Prop} {Q : Exit → Env → World → Prop} (hN : ∀ e w, (K1 ((e 7), (e 8)) w) → Q .normal e w) (e : Env) (w : World) (h : m12_13 R K1 (e 0) (e 6) (e 7) (e 8) w) : W12 k12_13 Q e w := by
  unfold m12_13 at h
  refine seq_ok' (by kernel_rfl) ?_
  have hN' : ∀ e w, (m12_14 R K1 (e 0) (e 6) (e 7) (e 8) w) → (thenE (W12 k12_14 Q) Q) .normal e w := fun e w h => then_N (s12_14 (R := R) (Q := Q) (K1 := K1) hN e w h)
  have hN := hN'
  refine block_ok 1 (by kernel_rfl) ?_
  have hN : ∀ e w, (m12_14 R K1 (e 0) (e 6) (e 7) (e 8) w) → (inBlockE 1 (thenE (W12 k12_14 Q) Q)) .normal e w := fun e w h => block_N (hN e w h)
  refine seq_ok' (by kernel_rfl) ?_
  have hN' : ∀ e w, (m12_15 R K1 (e 0) (e 6) (e 7) (e 8) (e 9) w) → (thenE (W12 k12_15 (inBlockE 1 (thenE (W12 k12_14 Q) Q))) (inBlockE 1 (thenE (W12 k12_14 Q) Q))) .normal e w := fun e w h => then_N (s12_15 (R := R) (Q := (inBlockE 1 (thenE (W12 k12_14 Q) Q))) (K1 := K1) hN e w h)
  have hN := hN'
  exact region_ok 8 (fun e w => m12_15 R K1 (e 0) (e 6) (e 7) (e 8) (e 9) w) (by kernel_rfl) (kcast (by kernel_rfl) h) hN (by kernel_rfl)
theorem s12_9 {R : Value → World → Prop} {K1 : Value → World → Prop} {Q : Exit → Env → World → Prop} (hN : ∀ e w, (K1 (e 7) w) → Q .normal e w) (e : Env) (w : World) (h : m12_9 R K1 (e 0) (e 7) w) : W12 k12_9 Q e w := by
  unfold m12_9 at h
  refine block_ok 5 (by kernel_rfl) ?_
  have hN : ∀ e w, (K1 (e 7) w) → (inBlockE 5 Q) .normal e w := fun e w h => block_N (hN e w h)
  exact region_ok 16 (fun e w => K1 (e 7) w) (by kernel_rfl) (kcast (by kernel_rfl) h) hN (by kernel_rfl)
theorem s12_7 {R : Value → World → Prop} {Q : Exit → Env → World → Prop} (hR : ∀ e w, (R (Value.tuple #[(e 4), (e 5)]) w) → Q .ret e w) (e : Env) (w : World) (h : m12_7 R (e 4) (e 5) w) : W12 k12_7 Q e w := by
  unfold m12_7 at h
  exact ret_ok (by kernel_rfl) (hR _ _ h)
theorem s12_6 {R : Value → World → Prop} {Q : Exit → Env → World → Prop} (hR : ∀ e w, (R (Value.tuple #[(e 4), (e 5)]) w) → Q .ret e w) (e : Env) (w : World) (h : m12_6 R (e 7) w) : W12 k12_6 Q e w := by
  unfold m12_6 at h
  refine seq_ok' (by kernel_rfl) ?_
  have hN' : ∀ e w, (m12_7 R (e 4) (e 5) w) → (thenE (W12 k12_7 Q) Q) .normal e w := fun e w h => then_N (s12_7 (R := R) (Q := Q) hR e w h)
  have hN := hN'
  exact region_ok 17 (fun e w => m12_7 R (e 4) (e 5) w) (by kernel_rfl) (kcast (by kernel_rfl) h) hN (by kernel_rfl)
theorem s12_10 {R : Value → World → Prop} {K1 : Value → World → Prop} {Q : Exit → Env → World → Prop} (hN : ∀ e w, (m12_9 R K1 (e 0) (e 7) w) → Q .normal e w) (hX4 : ∀ e w, (m12_6 R (e 7) w) → Q (.exit 4) e w) (e : Env) (w : World) (h : m12_10 R K1 (e 0) (e 7) (e 52) w) : W12 k12_10 Q e w := by
  unfold m12_10 at h
  refine cond_ok (Operand.tmp 52) (by kernel_rfl) h (fun h1 => ?_) (fun h1 => ?_)
  · exact skip_ok (by kernel_rfl) (hN _ _ h1)
  · exact exit_ok 4 (by kernel_rfl) (hX4 _ _ h1)
theorem s12_8 {R : Value → World → Prop} {K1 : Value → World → Prop} {Q : Exit → Env → World → Prop} (hN : ∀ e w, (K1 (e 7) w) → Q .normal e w) (hX4 : ∀ e w, (m12_6 R (e 7) w) → Q (.exit 4) e w) (e : Env) (w : World) (h : m12_8 R K1 (e 0) (e 7) w) : W12 k12_8 Q e w := by
  unfold m12_8 at h
  refine seq_ok' (by kernel_rfl) ?_
  have hN' : ∀ e w, (m12_9 R K1 (e 0) (e 7) w) → (thenE (W12 k12_9 Q) Q) .normal e w := fun e w h => then_N (s12_9 (R := R) (Q := Q) (K1 := K1) hN e w h)
  have hX4 : ∀ e w, (m12_6 R (e 7) w) → (thenE (W12 k12_9 Q) Q) (.exit 4) e w := fun e w h => then_X (hX4 e w h)
  have hN := hN'
  refine seq_ok' (by kernel_rfl) ?_
  have hN' : ∀ e w, (m12_10 R K1 (e 0) (e 7) (e 52) w) → (thenE (W12 k12_10 (thenE (W12 k12_9 Q) Q)) (thenE (W12 k12_9 Q) Q)) .normal e w := fun e w h => then_N (s12_10 (R := R) (Q := (thenE (W12 k12_9 Q) Q)) (K1 := K1) hN hX4 e w h)
  have hN := hN'
  exact region_ok 15 (fun e w => m12_10 R K1 (e 0) (e 7) (e 52) w) (by kernel_rfl) (kcast (by kernel_rfl) h) hN (by kernel_rfl)
theorem s12_5 {R : Value → World → Prop} {Q : Exit → Env → World → Prop} (hR : ∀ e w, (R (Value.tuple #[(e 4), (e 5)]) w) → Q .ret e w) (e : Env) (w : World) (h : m12_5 R (e 0) (e 7) w) : W12 k12_5 Q e w := by
  unfold m12_5 at h
  refine seq_ok' (by kernel_rfl) ?_
  have hN' : ∀ e w, (m12_6 R (e 7) w) → (thenE (W12 k12_6 Q) Q) .normal e w := fun e w h => then_N (s12_6 (R := R) (Q := Q) hR e w h)
  have hN := hN'
  refine block_ok 4 (by kernel_rfl) ?_
  have hX4 : ∀ e w, (m12_6 R (e 7) w) → (inBlockE 4 (thenE (W12 k12_6 Q) Q)) (.exit 4) e w := fun e w h => inBlock_same (Q := (thenE (W12 k12_6 Q) Q)) 4 (hN e w h)
  refine loop_ok' (fun (e : Env) => e 7) [0] (by kernel_rfl) (by kernel_rfl) h (fun K e' w' hk h' => ?_)
  have r0 : e' 0 = e 0 := hk 0 (by decide)
  have hX4 : ∀ e w, (m12_6 R (e 7) w) → (thenE (fun (e : Env) w => K (e 7) w) (inBlockE 4 (thenE (W12 k12_6 Q) Q))) (.exit 4) e w := fun e w h => then_X (hX4 e w h)
  exact s12_8 (R := R) (Q := (thenE (fun (e : Env) w => K (e 7) w) (inBlockE 4 (thenE (W12 k12_6 Q) Q)))) (K1 := K) (fun _ _ h => then_N h) hX4 e' w' (by rw [r0]; exact h')
theorem s12_23 {R : Value → World → Prop} {K1 : (Value × Value) → World → Prop} {Q : Exit → Env → World → Prop} (hN : ∀ e w, (m12_13 R K1 (e 0) (e 6) (e 7) (e 8) w) → Q .normal e w) (hX0 : ∀ e w, (m12_5 R (e 0) (e 7) w) → Q (.exit 0) e w) (e : Env) (w : World) (h : m12_23 R K1 (e 0) (e 6) (e 7) (e 8) (e 22) w) : W12 k12_23 Q e w := by
  unfold m12_23 at h
  refine cond_ok (Operand.tmp 22) (by kernel_rfl) h (fun h1 => ?_) (fun h1 => ?_)
  · exact skip_ok (by kernel_rfl) (hN _ _ h1)
  · exact exit_ok 0 (by kernel_rfl) (hX0 _ _ h1)
theorem s12_12 {R : Value → World → Prop} {K1 : (Value × Value) → World → Prop} {Q : Exit → Env → World → Prop} (hN : ∀ e w, (K1 ((e 7), (e 8)) w) → Q .normal e w) (hX0 : ∀ e w, (m12_5 R (e 0) (e 7) w) → Q (.exit 0) e w) (e : Env) (w : World) (h : m12_12 R K1 (e 0) (e 6) (e 7) (e 8) w) : W12 k12_12 Q e w := by
  unfold m12_12 at h
  refine seq_ok' (by kernel_rfl) ?_
  have hN' : ∀ e w, (m12_13 R K1 (e 0) (e 6) (e 7) (e 8) w) → (thenE (W12 k12_13 Q) Q) .normal e w := fun e w h => then_N (s12_13 (R := R) (Q := Q) (K1 := K1) hN e w h)
  have hX0 : ∀ e w, (m12_5 R (e 0) (e 7) w) → (thenE (W12 k12_13 Q) Q) (.exit 0) e w := fun e w h => then_X (hX0 e w h)
  have hN := hN'
  refine seq_ok' (by kernel_rfl) ?_
  have hN' : ∀ e w, (m12_23 R K1 (e 0) (e 6) (e 7) (e 8) (e 22) w) → (thenE (W12 k12_23 (thenE (W12 k12_13 Q) Q)) (thenE (W12 k12_13 Q) Q)) .normal e w := fun e w h => then_N (s12_23 (R := R) (Q := (thenE (W12 k12_13 Q) Q)) (K1 := K1) hN hX0 e w h)
  have hN := hN'
  exact region_ok 6 (fun e w => m12_23 R K1 (e 0) (e 6) (e 7) (e 8) (e 22) w) (by kernel_rfl) (kcast (by kernel_rfl) h) hN (by kernel_rfl)
theorem s12_11 {R : Value → World → Prop} {Q : Exit → Env → World → Prop} (hN : ∀ e w, (m12_5 R (e 0) (e 7) w) → Q .normal e w) (e : Env) (w : World) (h : m12_11 R (e 0) (e 6) (e 7) (e 8) w) : W12 k12_11 Q e w := by
  unfold m12_11 at h
  refine block_ok 0 (by kernel_rfl) ?_
  have hX0 : ∀ e w, (m12_5 R (e 0) (e 7) w) → (inBlockE 0 Q) (.exit 0) e w := fun e w h => inBlock_same (Q := Q) 0 (hN e w h)
  refine loop_ok' (fun (e : Env) => (e 7, e 8)) [0, 6] (by kernel_rfl) (by kernel_rfl) h (fun K e' w' hk h' => ?_)
  have r0 : e' 0 = e 0 := hk 0 (by decide)
  have r6 : e' 6 = e 6 := hk 6 (by decide)
  have hX0 : ∀ e w, (m12_5 R (e 0) (e 7) w) → (thenE (fun (e : Env) w => K ((e 7), (e 8)) w) (inBlockE 0 Q)) (.exit 0) e w := fun e w h => then_X (hX0 e w h)
  exact s12_12 (R := R) (Q := (thenE (fun (e : Env) w => K ((e 7), (e 8)) w) (inBlockE 0 Q))) (K1 := K) (fun _ _ h => then_N h) hX0 e' w' (by rw [r0, r6]; exact h')
theorem s12_4 {R : Value → World → Prop} {Q : Exit → Env → World → Prop} (hR : ∀ e w, (R (Value.tuple #[(e 4), (e 5)]) w) → Q .ret e w) (e : Env) (w : World) (h : m12_4 R (e 0) (e 6) (e 7) w) : W12 k12_4 Q e w := by
  unfold m12_4 at h
  refine seq_ok' (by kernel_rfl) ?_
  have hN' : ∀ e w, (m12_5 R (e 0) (e 7) w) → (thenE (W12 k12_5 Q) Q) .normal e w := fun e w h => then_N (s12_5 (R := R) (Q := Q) hR e w h)
  have hN := hN'
  refine seq_ok' (by kernel_rfl) ?_
  have hN' : ∀ e w, (m12_11 R (e 0) (e 6) (e 7) (e 8) w) → (thenE (W12 k12_11 (thenE (W12 k12_5 Q) Q)) (thenE (W12 k12_5 Q) Q)) .normal e w := fun e w h => then_N (s12_11 (R := R) (Q := (thenE (W12 k12_5 Q) Q)) hN e w h)
  have hN := hN'
  exact region_ok 5 (fun e w => m12_11 R (e 0) (e 6) (e 7) (e 8) w) (by kernel_rfl) (kcast (by kernel_rfl) h) hN (by kernel_rfl)
theorem s12_3 {R : Value → World → Prop} {Q : Exit → Env → World → Prop} (hR : ∀ e w, (R (Value.tuple #[(e 4), (e 5)]) w) → Q .ret e w) (e : Env) (w : World) (h : m12_3 R (e 0) (e 6) w) : W12 k12_3 Q e w := by
  unfold m12_3 at h
  refine seq_ok' (by kernel_rfl) ?_
  have hN' : ∀ e w, (m12_4 R (e 0) (e 6) (e 7) w) → (thenE (W12 k12_4 Q) Q) .normal e w := fun e w h => then_N (s12_4 (R := R) (Q := Q) hR e w h)
  have hN := hN'
  exact region_ok 4 (fun e w => m12_4 R (e 0) (e 6) (e 7) w) (by kernel_rfl) (kcast (by kernel_rfl) h) hN (by kernel_rfl)
theorem s12_2 {R : Value → World → Prop} {Q : Exit → Env → World → Prop} (hR : ∀ e w, (R (Value.tuple #[(e 4), (e 5)]) w) → Q .ret e w) (e : Env) (w : World) (h : m12_2 R (e 0) (e 1) w) : W12 k12_2 Q e w := by
  unfold m12_2 at h
  refine seq_ok' (by kernel_rfl) ?_
  have hN' : ∀ e w, (m12_3 R (e 0) (e 6) w) → (thenE (W12 k12_3 Q) Q) .normal e w := fun e w h => then_N (s12_3 (R := R) (Q := Q) hR e w h)
  have hN := hN'
  exact region_ok 3 (fun e w => m12_3 R (e 0) (e 6) w) (by kernel_rfl) (kcast (by kernel_rfl) h) hN (by kernel_rfl)
theorem s12_24 {R : Value → World → Prop} {Q : Exit → Env → World → Prop} (hN : ∀ e w, (m12_2 R (e 0) (e 1) w) → Q .normal e w) (hR : ∀ e w, (R (Value.tuple #[(e 4), (e 5)]) w) → Q .ret e w) (e : Env) (w : World) (h : m12_24 R (e 0) (e 1) (e 16) w) : W12 k12_24 Q e w := by
  unfold m12_24 at h
  refine cond_ok (Operand.tmp 16) (by kernel_rfl) h (fun h1 => ?_) (fun h1 => ?_)
  · refine seq_ok' (by kernel_rfl) ?_
    have hN' : ∀ e w, (m12_25 R (e 4) (e 5) w) → (thenE (W12 k12_25 Q) Q) .normal e w := fun e w h => then_N (s12_25 (R := R) (Q := Q) hR e w h)
    have hN := hN'
    exact region_ok 2 (fun e w => m12_25 R (e 4) (e 5) w) (by kernel_rfl) (kcast (by kernel_rfl) h1) hN (by kernel_rfl)
  · exact skip_ok (by kernel_rfl) (hN _ _ h1)
theorem s12_1 {R : Value → World → Prop} {Q : Exit → Env → World → Prop} (hR : ∀ e w, (R (Value.tuple #[(e 4), (e 5)]) w) → Q .ret e w) (e : Env) (w : World) (h : m12_1 R (e 0) (e 1) w) : W12 k12_1 Q e w := by
  unfold m12_1 at h
  refine seq_ok' (by kernel_rfl) ?_
  have hN' : ∀ e w, (m12_2 R (e 0) (e 1) w) → (thenE (W12 k12_2 Q) Q) .normal e w := fun e w h => then_N (s12_2 (R := R) (Q := Q) hR e w h)
  have hR : ∀ e w, (R (Value.tuple #[(e 4), (e 5)]) w) → (thenE (W12 k12_2 Q) Q) .ret e w := fun e w h => then_R (hR e w h)
  have hN := hN'
  refine seq_ok' (by kernel_rfl) ?_
  have hN' : ∀ e w, (m12_24 R (e 0) (e 1) (e 16) w) → (thenE (W12 k12_24 (thenE (W12 k12_2 Q) Q)) (thenE (W12 k12_2 Q) Q)) .normal e w := fun e w h => then_N (s12_24 (R := R) (Q := (thenE (W12 k12_2 Q) Q)) hN hR e w h)
  have hN := hN'
  exact region_ok 1 (fun e w => m12_24 R (e 0) (e 1) (e 16) w) (by kernel_rfl) (kcast (by kernel_rfl) h) hN (by kernel_rfl)
theorem s12_0 {R : Value → World → Prop} {Q : Exit → Env → World → Prop} (hR : ∀ e w, (R (Value.tuple #[(e 4), (e 5)]) w) → Q .ret e w) (e : Env) (w : World) (h : m12_0 R (e 0) (e 1) w) : W12 k12_0 Q e w := by
  unfold m12_0 at h
  refine seq_ok' (by kernel_rfl) ?_
  have hN' : ∀ e w, (m12_1 R (e 0) (e 1) w) → (thenE (W12 k12_1 Q) Q) .normal e w := fun e w h => then_N (s12_1 (R := R) (Q := Q) hR e w h)
  have hN := hN'
  exact region_ok 0 (fun e w => m12_1 R (e 0) (e 1) w) (by kernel_rfl) (kcast (by kernel_rfl) h) hN (by kernel_rfl)
abbrev m12 (R : Value → World → Prop) (parts0 : Value) (members1 : Value) (w : World) : Prop := m12_0 R parts0 members1 w
theorem s12 (parts0 : Value) (members1 : Value) {R : Value → World → Prop} {w : World} (h : m12 R parts0 members1 w) :
    Calls Try.prog 12 #[parts0, members1] w fun e w' => ∃ v, e = .returned v ∧ R v w' :=
  calls_of_cwp (st := (fun i => 0)) (c := k12_0) (by kernel_rfl) Try.func12 (by kernel_rfl) (Nat.le_of_ble_eq_true (by kernel_rfl)) (by kernel_rfl)
    (s12_0 (R := R) (Q := endE Try.prog Try.f12 R) (fun e w h => kcast (by kernel_rfl) h) (argsE #[parts0, members1]) w (kcast (by kernel_rfl) h))
/-! ### headgate/headgatelaw09.awake -/
def m14_4 (R : Value → World → Prop) (t0 : Value) (w : World) : Prop :=
  R t0 w
def m14_3 (R : Value → World → Prop) (a1 : Value) (e2 : Value) (b3 : Value) (f4 : Value) (w : World) : Prop :=
  valP Try.prog (binS BinOp.eql 24 (Operand.tmp 16) (Operand.const (Value.int IntKind.i64 0)) e2 (Value.int IntKind.i64 0)) w fun t17 w =>
  condP t17
  (valP Try.prog (binS BinOp.eql 24 (Operand.tmp 19) (Operand.const (Value.int IntKind.i64 0)) f4 (Value.int IntKind.i64 0)) w fun t20 w =>
  pickP t17 t20 (Value.bool false) fun t21 =>
  condP t21
  (valP Try.prog (Instr.buildSlice 22 5 #[(0, (Value.int IntKind.i64 3)), (1, (Value.int IntKind.i64 3)), (2, (Value.int IntKind.i64 3)), (3, (Value.int IntKind.i64 7)), (4, (Value.int IntKind.i64 7))]) w fun t24 w =>
  callP Try.prog (fnV 13) #[a1, t24] w fun t25 w =>
  pickP t21 t25 (Value.bool false) fun t26 =>
  condP t26
  (valP Try.prog (Instr.buildSlice 22 5 #[(0, (Value.int IntKind.i64 3)), (1, (Value.int IntKind.i64 3)), (2, (Value.int IntKind.i64 9)), (3, (Value.int IntKind.i64 7)), (4, (Value.int IntKind.i64 7))]) w fun t29 w =>
  callP Try.prog (fnV 13) #[b3, t29] w fun t30 w =>
  pickP t26 t30 (Value.bool false) fun t31 =>
  m14_4 R t31 w)
  (pickP t26 undef (Value.bool false) fun t31 =>
  m14_4 R t31 w))
  (pickP t21 undef (Value.bool false) fun t26 =>
  condP t26
  (valP Try.prog (Instr.buildSlice 22 5 #[(0, (Value.int IntKind.i64 3)), (1, (Value.int IntKind.i64 3)), (2, (Value.int IntKind.i64 9)), (3, (Value.int IntKind.i64 7)), (4, (Value.int IntKind.i64 7))]) w fun t29 w =>
  callP Try.prog (fnV 13) #[b3, t29] w fun t30 w =>
  pickP t26 t30 (Value.bool false) fun t31 =>
  m14_4 R t31 w)
  (pickP t26 undef (Value.bool false) fun t31 =>
  m14_4 R t31 w)))
  (pickP t17 undef (Value.bool false) fun t21 =>
  condP t21
  (valP Try.prog (Instr.buildSlice 22 5 #[(0, (Value.int IntKind.i64 3)), (1, (Value.int IntKind.i64 3)), (2, (Value.int IntKind.i64 3)), (3, (Value.int IntKind.i64 7)), (4, (Value.int IntKind.i64 7))]) w fun t24 w =>
  callP Try.prog (fnV 13) #[a1, t24] w fun t25 w =>
  pickP t21 t25 (Value.bool false) fun t26 =>
  condP t26
  (valP Try.prog (Instr.buildSlice 22 5 #[(0, (Value.int IntKind.i64 3)), (1, (Value.int IntKind.i64 3)), (2, (Value.int IntKind.i64 9)), (3, (Value.int IntKind.i64 7)), (4, (Value.int IntKind.i64 7))]) w fun t29 w =>
  callP Try.prog (fnV 13) #[b3, t29] w fun t30 w =>
  pickP t26 t30 (Value.bool false) fun t31 =>
  m14_4 R t31 w)
  (pickP t26 undef (Value.bool false) fun t31 =>
  m14_4 R t31 w))
  (pickP t21 undef (Value.bool false) fun t26 =>
  condP t26
  (valP Try.prog (Instr.buildSlice 22 5 #[(0, (Value.int IntKind.i64 3)), (1, (Value.int IntKind.i64 3)), (2, (Value.int IntKind.i64 9)), (3, (Value.int IntKind.i64 7)), (4, (Value.int IntKind.i64 7))]) w fun t29 w =>
  callP Try.prog (fnV 13) #[b3, t29] w fun t30 w =>
  pickP t26 t30 (Value.bool false) fun t31 =>
  m14_4 R t31 w)
  (pickP t26 undef (Value.bool false) fun t31 =>
  m14_4 R t31 w)))
def m14_2 (R : Value → World → Prop) (a1 : Value) (e2 : Value) (w : World) : Prop :=
  valP Try.prog (Instr.buildSlice 22 3 #[(0, (Value.int IntKind.i64 3)), (1, (Value.int IntKind.i64 7)), (2, (Value.int IntKind.i64 9))]) w fun t11 w =>
  callP Try.prog (fnV 15) #[(Value.int IntKind.i64 5), t11, a1] w fun t13 w =>
  valP Try.prog (Instr.extract t13 0) w fun t14 w =>
  valP Try.prog (Instr.extract t13 1) w fun t15 w =>
  m14_3 R a1 e2 t14 t15 w
def m14_1 (R : Value → World → Prop) (w : World) : Prop :=
  valP Try.prog (Instr.buildSlice 22 2 #[(0, (Value.int IntKind.i64 7)), (1, (Value.int IntKind.i64 3))]) w fun t6 w =>
  callP Try.prog (fnV 11) #[(Value.int IntKind.i64 5), t6] w fun t7 w =>
  valP Try.prog (Instr.extract t7 0) w fun t8 w =>
  valP Try.prog (Instr.extract t7 1) w fun t9 w =>
  m14_2 R t8 t9 w
def m14_0 (R : Value → World → Prop) (w : World) : Prop :=
  m14_1 R w
abbrev W14 := cwp Try.prog (fun i => 0)
noncomputable def k14_0 : Code := (bodyOf Try.f14)
noncomputable def k14_1 : Code := (c2 k14_0)
noncomputable def k14_2 : Code := (c2 k14_1)
noncomputable def k14_3 : Code := (c2 k14_2)
noncomputable def k14_4 : Code := (c2 k14_3)
theorem s14_4 {R : Value → World → Prop} {Q : Exit → Env → World → Prop} (hR : ∀ e w, (R (e 0) w) → Q .ret e w) (e : Env) (w : World) (h : m14_4 R (e 0) w) : W14 k14_4 Q e w := by
  unfold m14_4 at h
  exact ret_ok (by kernel_rfl) (hR _ _ h)
theorem s14_3 {R : Value → World → Prop} {Q : Exit → Env → World → Prop} (hR : ∀ e w, (R (e 0) w) → Q .ret e w) (e : Env) (w : World) (h : m14_3 R (e 1) (e 2) (e 3) (e 4) w) : W14 k14_3 Q e w := by
  unfold m14_3 at h
  refine seq_ok' (by kernel_rfl) ?_
  have hN' : ∀ e w, (m14_4 R (e 0) w) → (thenE (W14 k14_4 Q) Q) .normal e w := fun e w h => then_N (s14_4 (R := R) (Q := Q) hR e w h)
  have hN := hN'
  exact region_ok 3 (fun e w => m14_4 R (e 0) w) (by kernel_rfl) (kcast (by kernel_rfl) h) hN (by kernel_rfl)
theorem s14_2 {R : Value → World → Prop} {Q : Exit → Env → World → Prop} (hR : ∀ e w, (R (e 0) w) → Q .ret e w) (e : Env) (w : World) (h : m14_2 R (e 1) (e 2) w) : W14 k14_2 Q e w := by
  unfold m14_2 at h
  refine seq_ok' (by kernel_rfl) ?_
  have hN' : ∀ e w, (m14_3 R (e 1) (e 2) (e 3) (e 4) w) → (thenE (W14 k14_3 Q) Q) .normal e w := fun e w h => then_N (s14_3 (R := R) (Q := Q) hR e w h)
  have hN := hN'
  exact region_ok 2 (fun e w => m14_3 R (e 1) (e 2) (e 3) (e 4) w) (by kernel_rfl) (kcast (by kernel_rfl) h) hN (by kernel_rfl)
theorem s14_1 {R : Value → World → Prop} {Q : Exit → Env → World → Prop} (hR : ∀ e w, (R (e 0) w) → Q .ret e w) (e : Env) (w : World) (h : m14_1 R w) : W14 k14_1 Q e w := by
  unfold m14_1 at h
  refine seq_ok' (by kernel_rfl) ?_
  have hN' : ∀ e w, (m14_2 R (e 1) (e 2) w) → (thenE (W14 k14_2 Q) Q) .normal e w := fun e w h => then_N (s14_2 (R := R) (Q := Q) hR e w h)
  have hN := hN'
  exact region_ok 1 (fun e w => m14_2 R (e 1) (e 2) w) (by kernel_rfl) (kcast (by kernel_rfl) h) hN (by kernel_rfl)
theorem s14_0 {R : Value → World → Prop} {Q : Exit → Env → World → Prop} (hR : ∀ e w, (R (e 0) w) → Q .ret e w) (e : Env) (w : World) (h : m14_0 R w) : W14 k14_0 Q e w := by
  unfold m14_0 at h
  refine seq_ok' (by kernel_rfl) ?_
  have hN' : ∀ e w, (m14_1 R w) → (thenE (W14 k14_1 Q) Q) .normal e w := fun e w h => then_N (s14_1 (R := R) (Q := Q) hR e w h)
  have hN := hN'
  exact region_ok 0 (fun e w => m14_1 R w) (by kernel_rfl) (kcast (by kernel_rfl) h) hN (by kernel_rfl)
abbrev m14 (R : Value → World → Prop) (w : World) : Prop := m14_0 R w
theorem s14  {R : Value → World → Prop} {w : World} (h : m14 R  w) :
    Calls Try.prog 14 #[] w fun e w' => ∃ v, e = .returned v ∧ R v w' :=
  calls_of_cwp (st := (fun i => 0)) (c := k14_0) (by kernel_rfl) Try.func14 (by kernel_rfl) (Nat.le_of_ble_eq_true (by kernel_rfl)) (by kernel_rfl)
    (s14_0 (R := R) (Q := endE Try.prog Try.f14 R) (fun e w h => kcast (by kernel_rfl) h) (argsE #[]) w (kcast (by kernel_rfl) h))
end Go.Proofs.Ytlgafiekogajfaa.M
