/- What functions' texts ask of their ends, told over values that have names; printed by a program of this work. -/
import Derived.Test.YtlgafiekogajfaaFw
import Derived.Test.YtlgafiekogajfaaProg
namespace Go.Proofs.Ytlgafiekogajfaa.M
open Go.Proofs.Ytlgafiekogajfaa.F
set_option linter.unusedVariables false
set_option maxRecDepth 100000
/-! ### slices.BinarySearch[[]int,int] -/
def m30_9 (R : Value → World → Prop) (K1 : (Value × Value) → World → Prop) (x0 : Value) (target1 : Value) (n6 : Value) (i7 : Value) (j8 : Value) (h9 : Value) (t27 : Value) (w : World) : Prop :=
  condP t27
  (valP Try.prog (binS BinOp.add 3 (Operand.tmp 28) (Operand.const (Value.int IntKind.i64 1)) h9 (Value.int IntKind.i64 1)) w fun t29 w =>
  K1 (t29, j8) w)
  (K1 (i7, h9) w)
def m30_8 (R : Value → World → Prop) (K1 : (Value × Value) → World → Prop) (x0 : Value) (target1 : Value) (n6 : Value) (i7 : Value) (j8 : Value) (h9 : Value) (w : World) : Prop :=
  valP Try.prog (Instr.indexAt 22 x0 h9) w fun t24 w =>
  valP Try.prog (Instr.loadAt 3 t24) w fun t25 w =>
  callP Try.prog (fnV 37) #[t25, target1] w fun t27 w =>
  m30_9 R K1 x0 target1 n6 i7 j8 h9 t27 w
def m30_7 (R : Value → World → Prop) (K1 : (Value × Value) → World → Prop) (x0 : Value) (target1 : Value) (n6 : Value) (i7 : Value) (j8 : Value) (w : World) : Prop :=
  valP Try.prog (binS BinOp.add 3 (Operand.tmp 16) (Operand.tmp 17) i7 j8) w fun t18 w =>
  valP Try.prog (convert 3 61 t18) w fun t19 w =>
  valP Try.prog (binS BinOp.shr 61 (Operand.tmp 19) (Operand.const (Value.int IntKind.u64 1)) t19 (Value.int IntKind.u64 1)) w fun t20 w =>
  valP Try.prog (convert 61 3 t20) w fun t21 w =>
  m30_8 R K1 x0 target1 n6 i7 j8 t21 w
def m30_5 (R : Value → World → Prop) (t4 : Value) (t5 : Value) (w : World) : Prop :=
  R (Value.tuple #[t4, t5]) w
def m30_4 (R : Value → World → Prop) (x0 : Value) (target1 : Value) (n6 : Value) (i7 : Value) (w : World) : Prop :=
  valP Try.prog (binS BinOp.lss 3 (Operand.tmp 32) (Operand.tmp 33) i7 n6) w fun t34 w =>
  condP t34
  (valP Try.prog (Instr.indexAt 22 x0 i7) w fun t38 w =>
  valP Try.prog (Instr.loadAt 3 t38) w fun t39 w =>
  valP Try.prog (binS BinOp.eql 3 (Operand.tmp 39) (Operand.tmp 40) t39 target1) w fun t41 w =>
  condP t41
  (pickP t41 (Value.bool true) undef fun t52 =>
  pickP t34 t52 (Value.bool false) fun t53 =>
  m30_5 R i7 t53 w)
  (valP Try.prog (Instr.indexAt 22 x0 i7) w fun t45 w =>
  valP Try.prog (Instr.loadAt 3 t45) w fun t46 w =>
  callP Try.prog (fnV 38) #[t46] w fun t47 w =>
  condP t47
  (callP Try.prog (fnV 38) #[target1] w fun t50 w =>
  pickP t47 t50 (Value.bool false) fun t51 =>
  pickP t41 (Value.bool true) t51 fun t52 =>
  pickP t34 t52 (Value.bool false) fun t53 =>
  m30_5 R i7 t53 w)
  (pickP t47 undef (Value.bool false) fun t51 =>
  pickP t41 (Value.bool true) t51 fun t52 =>
  pickP t34 t52 (Value.bool false) fun t53 =>
  m30_5 R i7 t53 w)))
  (pickP t34 undef (Value.bool false) fun t53 =>
  m30_5 R i7 t53 w)
def m30_10 (R : Value → World → Prop) (K1 : (Value × Value) → World → Prop) (x0 : Value) (target1 : Value) (n6 : Value) (i7 : Value) (j8 : Value) (t15 : Value) (w : World) : Prop :=
  condP t15
  (m30_7 R K1 x0 target1 n6 i7 j8 w)
  (m30_4 R x0 target1 n6 i7 w)
def m30_6 (R : Value → World → Prop) (K1 : (Value × Value) → World → Prop) (x0 : Value) (target1 : Value) (n6 : Value) (i7 : Value) (j8 : Value) (w : World) : Prop :=
  valP Try.prog (binS BinOp.lss 3 (Operand.tmp 13) (Operand.tmp 14) i7 j8) w fun t15 w =>
  m30_10 R K1 x0 target1 n6 i7 j8 t15 w
def m30_3 (R : Value → World → Prop) (x0 : Value) (target1 : Value) (n6 : Value) (i7 : Value) (j8 : Value) (w : World) : Prop :=
  loopP (fun (K1 : (Value × Value) → World → Prop) (s : Value × Value) w => m30_6 R K1 x0 target1 n6 s.1 s.2 w) (i7, j8) w
def m30_2 (R : Value → World → Prop) (x0 : Value) (target1 : Value) (n6 : Value) (w : World) : Prop :=
  m30_3 R x0 target1 n6 (Value.int IntKind.i64 0) n6 w
def m30_1 (R : Value → World → Prop) (x0 : Value) (target1 : Value) (w : World) : Prop :=
  builtinP Try.prog Builtin.len #[22] 3 #[false] #[x0] w fun t11 w =>
  m30_2 R x0 target1 t11 w
def m30_0 (R : Value → World → Prop) (x0 : Value) (target1 : Value) (w : World) : Prop :=
  m30_1 R x0 target1 w
abbrev W30 := cwp Try.prog (fun i => 0)
noncomputable def k30_0 : Code := (bodyOf Try.f30)
noncomputable def k30_1 : Code := (c2 k30_0)
noncomputable def k30_2 : Code := (c2 k30_1)
noncomputable def k30_3 : Code := (c2 k30_2)
noncomputable def k30_4 : Code := (c2 k30_3)
noncomputable def k30_5 : Code := (c2 k30_4)
noncomputable def k30_6 : Code := (c1 (c1 (c1 k30_3)))
noncomputable def k30_7 : Code := (c2 k30_6)
noncomputable def k30_8 : Code := (c2 (c1 k30_7))
noncomputable def k30_9 : Code := (c2 k30_8)
noncomputable def k30_10 : Code := (c2 (c1 k30_6))
theorem s30_9 {R : Value → World → Prop} {K1 : (Value × Value) → World → Prop} {Q : Exit → Env → World → Prop} (hN : ∀ e w, (K1 ((e 7), (e 8)) w) → Q .normal e w) (e : Env) (w : World) (h : m30_9 R K1 (e 0) (e 1) (e 6) (e 7) (e 8) (e 9) (e 27) w) : W30 k30_9 Q e w := by
  unfold m30_9 at h
  refine cond_ok (Operand.tmp 27) (by kernel_rfl) h (fun h1 => ?_) (fun h1 => ?_)
  · exact region_ok 6 (fun e w => K1 ((e 7), (e 8)) w) (by kernel_rfl) (kcast (by kernel_rfl) h1) hN (by kernel_rfl)
  · exact region_ok 7 (fun e w => K1 ((e 7), (e 8)) w) (by kernel_rfl) (kcast (by kernel_rfl) h1) hN (by kernel_rfl)
theorem s30_8 {R : Value → World → Prop} {K1 : (Value × Value) → World → Prop} {Q : Exit → Env → World → Prop} (hN : ∀ e w, (K1 ((e 7), (e 8)) w) → Q .normal e w) (e : Env) (w : World) (h : m30_8 R K1 (e 0) (e 1) (e 6) (e 7) (e 8) (e 9) w) : W30 k30_8 Q e w := by
  unfold m30_8 at h
  refine seq_ok' (by kernel_rfl) ?_
  have hN' : ∀ e w, (m30_9 R K1 (e 0) (e 1) (e 6) (e 7) (e 8) (e 9) (e 27) w) → (thenE (W30 k30_9 Q) Q) .normal e w := fun e w h => then_N (s30_9 (R := R) (Q := Q) (K1 := K1) hN e w h)
  have hN := hN'
  exact region_ok 5 (fun e w => m30_9 R K1 (e 0) (e 1) (e 6) (e 7) (e 8) (e 9) (e 27) w) (by kernel_rfl) (kcast (by kernel_rfl) h) hN (by kernel_rfl)
theorem s30_7 {R : Value → World → Prop} {K1 : (Value × Value) → World → Prop} {Q : Exit → Env → World → Prop} (hN : ∀ e w, (K1 ((e 7), (e 8)) w) → Q .normal e w) (e : Env) (w : World) (h : m30_7 R K1 (e 0) (e 1) (e 6) (e 7) (e 8) w) : W30 k30_7 Q e w := by
  unfold m30_7 at h
  refine block_ok 1 (by kernel_rfl) ?_
  have hN : ∀ e w, (K1 ((e 7), (e 8)) w) → (inBlockE 1 Q) .normal e w := fun e w h => block_N (hN e w h)
  refine seq_ok' (by kernel_rfl) ?_
  have hN' : ∀ e w, (m30_8 R K1 (e 0) (e 1) (e 6) (e 7) (e 8) (e 9) w) → (thenE (W30 k30_8 (inBlockE 1 Q)) (inBlockE 1 Q)) .normal e w := fun e w h => then_N (s30_8 (R := R) (Q := (inBlockE 1 Q)) (K1 := K1) hN e w h)
  have hN := hN'
  exact region_ok 4 (fun e w => m30_8 R K1 (e 0) (e 1) (e 6) (e 7) (e 8) (e 9) w) (by kernel_rfl) (kcast (by kernel_rfl) h) hN (by kernel_rfl)
theorem s30_5 {R : Value → World → Prop} {Q : Exit → Env → World → Prop} (hR : ∀ e w, (R (Value.tuple #[(e 4), (e 5)]) w) → Q .ret e w) (e : Env) (w : World) (h : m30_5 R (e 4) (e 5) w) : W30 k30_5 Q e w := by
  unfold m30_5 at h
  exact ret_ok (by kernel_rfl) (hR _ _ h)
theorem s30_4 {R : Value → World → Prop} {Q : Exit → Env → World → Prop} (hR : ∀ e w, (R (Value.tuple #[(e 4), (e 5)]) w) → Q .ret e w) (e : Env) (w : World) (h : m30_4 R (e 0) (e 1) (e 6) (e 7) w) : W30 k30_4 Q e w := by
  unfold m30_4 at h
  refine seq_ok' (by kernel_rfl) ?_
  have hN' : ∀ e w, (m30_5 R (e 4) (e 5) w) → (thenE (W30 k30_5 Q) Q) .normal e w := fun e w h => then_N (s30_5 (R := R) (Q := Q) hR e w h)
  have hN := hN'
  exact region_ok 8 (fun e w => m30_5 R (e 4) (e 5) w) (by kernel_rfl) (kcast (by kernel_rfl) h) hN (by kernel_rfl)
theorem s30_10 {R : Value → World → Prop} {K1 : (Value × Value) → World → Prop} {Q : Exit → Env → World → Prop} (hN : ∀ e w, (m30_7 R K1 (e 0) (e 1) (e 6) (e 7) (e 8) w) → Q .normal e w) (hX0 : ∀ e w, (m30_4 R (e 0) (e 1) (e 6) (e 7) w) → Q (.exit 0) e w) (e : Env) (w : World) (h : m30_10 R K1 (e 0) (e 1) (e 6) (e 7) (e 8) (e 15) w) : W30 k30_10 Q e w := by
  unfold m30_10 at h
  refine cond_ok (Operand.tmp 15) (by kernel_rfl) h (fun h1 => ?_) (fun h1 => ?_)
  · exact skip_ok (by kernel_rfl) (hN _ _ h1)
  · exact exit_ok 0 (by kernel_rfl) (hX0 _ _ h1)
theorem s30_6 {R : Value → World → Prop} {K1 : (Value × Value) → World → Prop} {Q : Exit → Env → World → Prop} (hN : ∀ e w, (K1 ((e 7), (e 8)) w) → Q .normal e w) (hX0 : ∀ e w, (m30_4 R (e 0) (e 1) (e 6) (e 7) w) → Q (.exit 0) e w) (e : Env) (w : World) (h : m30_6 R K1 (e 0) (e 1) (e 6) (e 7) (e 8) w) : W30 k30_6 Q e w := by
  unfold m30_6 at h
  refine seq_ok' (by kernel_rfl) ?_
  have hN' : ∀ e w, (m30_7 R K1 (e 0) (e 1) (e 6) (e 7) (e 8) w) → (thenE (W30 k30_7 Q) Q) .normal e w := fun e w h => then_N (s30_7 (R := R) (Q := Q) (K1 := K1) hN e w h)
  have hX0 : ∀ e w, (m30_4 R (e 0) (e 1) (e 6) (e 7) w) → (thenE (W30 k30_7 Q) Q) (.exit 0) e w := fun e w h => then_X (hX0 e w h)
  have hN := hN'
  refine seq_ok' (by kernel_rfl) ?_
  have hN' : ∀ e w, (m30_10 R K1 (e 0) (e 1) (e 6) (e 7) (e 8) (e 15) w) → (thenE (W30 k30_10 (thenE (W30 k30_7 Q) Q)) (thenE (W30 k30_7 Q) Q)) .normal e w := fun e w h => then_N (s30_10 (R := R) (Q := (thenE (W30 k30_7 Q) Q)) (K1 := K1) hN hX0 e w h)
  have hN := hN'
  exact region_ok 3 (fun e w => m30_10 R K1 (e 0) (e 1) (e 6) (e 7) (e 8) (e 15) w) (by kernel_rfl) (kcast (by kernel_rfl) h) hN (by kernel_rfl)
theorem s30_3 {R : Value → World → Prop} {Q : Exit → Env → World → Prop} (hR : ∀ e w, (R (Value.tuple #[(e 4), (e 5)]) w) → Q .ret e w) (e : Env) (w : World) (h : m30_3 R (e 0) (e 1) (e 6) (e 7) (e 8) w) : W30 k30_3 Q e w := by
  unfold m30_3 at h
  refine seq_ok' (by kernel_rfl) ?_
  have hN' : ∀ e w, (m30_4 R (e 0) (e 1) (e 6) (e 7) w) → (thenE (W30 k30_4 Q) Q) .normal e w := fun e w h => then_N (s30_4 (R := R) (Q := Q) hR e w h)
  have hN := hN'
  refine block_ok 0 (by kernel_rfl) ?_
  have hX0 : ∀ e w, (m30_4 R (e 0) (e 1) (e 6) (e 7) w) → (inBlockE 0 (thenE (W30 k30_4 Q) Q)) (.exit 0) e w := fun e w h => inBlock_same (Q := (thenE (W30 k30_4 Q) Q)) 0 (hN e w h)
  refine loop_ok' (fun (e : Env) => (e 7, e 8)) [0, 1, 6] (by kernel_rfl) (by kernel_rfl) h (fun K e' w' hk h' => ?_)
  have r0 : e' 0 = e 0 := hk 0 (by decide)
  have r1 : e' 1 = e 1 := hk 1 (by decide)
  have r6 : e' 6 = e 6 := hk 6 (by decide)
  have hX0 : ∀ e w, (m30_4 R (e 0) (e 1) (e 6) (e 7) w) → (thenE (fun (e : Env) w => K ((e 7), (e 8)) w) (inBlockE 0 (thenE (W30 k30_4 Q) Q))) (.exit 0) e w := fun e w h => then_X (hX0 e w h)
  exact s30_6 (R := R) (Q := (thenE (fun (e : Env) w => K ((e 7), (e 8)) w) (inBlockE 0 (thenE (W30 k30_4 Q) Q)))) (K1 := K) (fun _ _ h => then_N h) hX0 e' w' (by rw [r0, r1, r6]; exact h')
theorem s30_2 {R : Value → World → Prop} {Q : Exit → Env → World → Prop} (hR : ∀ e w, (R (Value.tuple #[(e 4), (e 5)]) w) → Q .ret e w) (e : Env) (w : World) (h : m30_2 R (e 0) (e 1) (e 6) w) : W30 k30_2 Q e w := by
  unfold m30_2 at h
  refine seq_ok' (by kernel_rfl) ?_
  have hN' : ∀ e w, (m30_3 R (e 0) (e 1) (e 6) (e 7) (e 8) w) → (thenE (W30 k30_3 Q) Q) .normal e w := fun e w h => then_N (s30_3 (R := R) (Q := Q) hR e w h)
  have hN := hN'
  exact region_ok 2 (fun e w => m30_3 R (e 0) (e 1) (e 6) (e 7) (e 8) w) (by kernel_rfl) (kcast (by kernel_rfl) h) hN (by kernel_rfl)
theorem s30_1 {R : Value → World → Prop} {Q : Exit → Env → World → Prop} (hR : ∀ e w, (R (Value.tuple #[(e 4), (e 5)]) w) → Q .ret e w) (e : Env) (w : World) (h : m30_1 R (e 0) (e 1) w) : W30 k30_1 Q e w := by
  unfold m30_1 at h
  refine seq_ok' (by kernel_rfl) ?_
  have hN' : ∀ e w, (m30_2 R (e 0) (e 1) (e 6) w) → (thenE (W30 k30_2 Q) Q) .normal e w := fun e w h => then_N (s30_2 (R := R) (Q := Q) hR e w h)
  have hN := hN'
  exact region_ok 1 (fun e w => m30_2 R (e 0) (e 1) (e 6) w) (by kernel_rfl) (kcast (by kernel_rfl) h) hN (by kernel_rfl)
theorem s30_0 {R : Value → World → Prop} {Q : Exit → Env → World → Prop} (hR : ∀ e w, (R (Value.tuple #[(e 4), (e 5)]) w) → Q .ret e w) (e : Env) (w : World) (h : m30_0 R (e 0) (e 1) w) : W30 k30_0 Q e w := by
  unfold m30_0 at h
  refine seq_ok' (by kernel_rfl) ?_
  have hN' : ∀ e w, (m30_1 R (e 0) (e 1) w) → (thenE (W30 k30_1 Q) Q) .normal e w := fun e w h => then_N (s30_1 (R := R) (Q := Q) hR e w h)
  have hN := hN'
  exact region_ok 0 (fun e w => m30_1 R (e 0) (e 1) w) (by kernel_rfl) (kcast (by kernel_rfl) h) hN (by kernel_rfl)
abbrev m30 (R : Value → World → Prop) (x0 : Value) (target1 : Value) (w : World) : Prop := m30_0 R x0 target1 w
theorem s30 (x0 : Value) (target1 : Value) {R : Value → World → Prop} {w : World} (h : m30 R x0 target1 w) :
    Calls Try.prog 30 #[x0, target1] w fun e w' => ∃ v, e = .returned v ∧ R v w' :=
  calls_of_cwp (st := (fun i => 0)) (c := k30_0) (by kernel_rfl) Try.func30 (by kernel_rfl) (Nat.le_of_ble_eq_true (by kernel_rfl)) (by kernel_rfl)
    (s30_0 (R := R) (Q := endE Try.prog Try.f30 R) (fun e w h => kcast (by kernel_rfl) h) (argsE #[x0, target1]) w (kcast (by kernel_rfl) h))
/-! ### slices.MinFunc[[]int,int] -/
def m31_9 (R : Value → World → Prop) (K1 : (Value × Value) → World → Prop) (x0 : Value) (cmp1 : Value) (m5 : Value) (i6 : Value) (w : World) : Prop :=
  valP Try.prog (binS BinOp.add 3 (Operand.tmp 18) (Operand.const (Value.int IntKind.i64 1)) i6 (Value.int IntKind.i64 1)) w fun t19 w =>
  K1 (m5, t19) w
def m31_10 (R : Value → World → Prop) (K1 : (Value × Value) → World → Prop) (x0 : Value) (cmp1 : Value) (m5 : Value) (i6 : Value) (t27 : Value) (w : World) : Prop :=
  condP t27
  (valP Try.prog (Instr.indexAt 22 x0 i6) w fun t30 w =>
  valP Try.prog (Instr.loadAt 3 t30) w fun t31 w =>
  m31_9 R K1 x0 cmp1 t31 i6 w)
  (m31_9 R K1 x0 cmp1 m5 i6 w)
def m31_8 (R : Value → World → Prop) (K1 : (Value × Value) → World → Prop) (x0 : Value) (cmp1 : Value) (m5 : Value) (i6 : Value) (w : World) : Prop :=
  valP Try.prog (Instr.indexAt 22 x0 i6) w fun t23 w =>
  valP Try.prog (Instr.loadAt 3 t23) w fun t24 w =>
  callP Try.prog cmp1 #[t24, m5] w fun t26 w =>
  valP Try.prog (binS BinOp.lss 3 (Operand.tmp 26) (Operand.const (Value.int IntKind.i64 0)) t26 (Value.int IntKind.i64 0)) w fun t27 w =>
  m31_10 R K1 x0 cmp1 m5 i6 t27 w
def m31_5 (R : Value → World → Prop) (t4 : Value) (w : World) : Prop :=
  R t4 w
def m31_4 (R : Value → World → Prop) (m5 : Value) (w : World) : Prop :=
  m31_5 R m5 w
def m31_11 (R : Value → World → Prop) (K1 : (Value × Value) → World → Prop) (x0 : Value) (cmp1 : Value) (m5 : Value) (i6 : Value) (t17 : Value) (w : World) : Prop :=
  condP t17
  (m31_8 R K1 x0 cmp1 m5 i6 w)
  (m31_4 R m5 w)
def m31_7 (R : Value → World → Prop) (K1 : (Value × Value) → World → Prop) (x0 : Value) (cmp1 : Value) (m5 : Value) (i6 : Value) (w : World) : Prop :=
  builtinP Try.prog Builtin.len #[22] 3 #[false] #[x0] w fun t16 w =>
  valP Try.prog (binS BinOp.lss 3 (Operand.tmp 14) (Operand.tmp 16) i6 t16) w fun t17 w =>
  m31_11 R K1 x0 cmp1 m5 i6 t17 w
def m31_6 (R : Value → World → Prop) (x0 : Value) (cmp1 : Value) (m5 : Value) (i6 : Value) (w : World) : Prop :=
  loopP (fun (K1 : (Value × Value) → World → Prop) (s : Value × Value) w => m31_7 R K1 x0 cmp1 s.1 s.2 w) (m5, i6) w
def m31_3 (R : Value → World → Prop) (x0 : Value) (cmp1 : Value) (m5 : Value) (w : World) : Prop :=
  m31_6 R x0 cmp1 m5 (Value.int IntKind.i64 1) w
def m31_2 (R : Value → World → Prop) (x0 : Value) (cmp1 : Value) (w : World) : Prop :=
  valP Try.prog (Instr.indexAt 22 x0 (Value.int IntKind.i64 0)) w fun t12 w =>
  valP Try.prog (Instr.loadAt 3 t12) w fun t13 w =>
  m31_3 R x0 cmp1 t13 w
def m31_12 (R : Value → World → Prop) (x0 : Value) (cmp1 : Value) (t9 : Value) (w : World) : Prop :=
  condP t9
  (False)
  (m31_2 R x0 cmp1 w)
def m31_1 (R : Value → World → Prop) (x0 : Value) (cmp1 : Value) (w : World) : Prop :=
  builtinP Try.prog Builtin.len #[22] 3 #[false] #[x0] w fun t8 w =>
  valP Try.prog (binS BinOp.lss 3 (Operand.tmp 8) (Operand.const (Value.int IntKind.i64 1)) t8 (Value.int IntKind.i64 1)) w fun t9 w =>
  m31_12 R x0 cmp1 t9 w
def m31_0 (R : Value → World → Prop) (x0 : Value) (cmp1 : Value) (w : World) : Prop :=
  m31_1 R x0 cmp1 w
abbrev W31 := cwp Try.prog (fun i => 0)
noncomputable def k31_0 : Code := (bodyOf Try.f31)
noncomputable def k31_1 : Code := (c2 k31_0)
noncomputable def k31_2 : Code := (c2 k31_1)
noncomputable def k31_3 : Code := (c2 k31_2)
noncomputable def k31_4 : Code := (c2 k31_3)
noncomputable def k31_5 : Code := (c2 k31_4)
noncomputable def k31_6 : Code := (c2 (c1 k31_3))
noncomputable def k31_7 : Code := (c1 (c1 k31_6))
noncomputable def k31_8 : Code := (c2 k31_7)
noncomputable def k31_9 : Code := (c2 k31_8)
noncomputable def k31_10 : Code := (c2 (c1 (c1 k31_8)))
noncomputable def k31_11 : Code := (c2 (c1 k31_7))
noncomputable def k31_12 : Code := (c2 (c1 k31_1))
theorem s31_9 {R : Value → World → Prop} {K1 : (Value × Value) → World → Prop} {Q : Exit → Env → World → Prop} (hN : ∀ e w, (K1 ((e 5), (e 6)) w) → Q .normal e w) (e : Env) (w : World) (h : m31_9 R K1 (e 0) (e 1) (e 5) (e 6) w) : W31 k31_9 Q e w := by
  unfold m31_9 at h
  exact region_ok 6 (fun e w => K1 ((e 5), (e 6)) w) (by kernel_rfl) (kcast (by kernel_rfl) h) hN (by kernel_rfl)
theorem s31_10 {R : Value → World → Prop} {K1 : (Value × Value) → World → Prop} {Q : Exit → Env → World → Prop} (hN : ∀ e w, (m31_9 R K1 (e 0) (e 1) (e 5) (e 6) w) → Q .normal e w) (e : Env) (w : World) (h : m31_10 R K1 (e 0) (e 1) (e 5) (e 6) (e 27) w) : W31 k31_10 Q e w := by
  unfold m31_10 at h
  refine cond_ok (Operand.tmp 27) (by kernel_rfl) h (fun h1 => ?_) (fun h1 => ?_)
  · exact region_ok 8 (fun e w => m31_9 R K1 (e 0) (e 1) (e 5) (e 6) w) (by kernel_rfl) (kcast (by kernel_rfl) h1) hN (by kernel_rfl)
  · exact skip_ok (by kernel_rfl) (hN _ _ h1)
theorem s31_8 {R : Value → World → Prop} {K1 : (Value × Value) → World → Prop} {Q : Exit → Env → World → Prop} (hN : ∀ e w, (K1 ((e 5), (e 6)) w) → Q .normal e w) (e : Env) (w : World) (h : m31_8 R K1 (e 0) (e 1) (e 5) (e 6) w) : W31 k31_8 Q e w := by
  unfold m31_8 at h
  refine seq_ok' (by kernel_rfl) ?_
  have hN' : ∀ e w, (m31_9 R K1 (e 0) (e 1) (e 5) (e 6) w) → (thenE (W31 k31_9 Q) Q) .normal e w := fun e w h => then_N (s31_9 (R := R) (Q := Q) (K1 := K1) hN e w h)
  have hN := hN'
  refine block_ok 1 (by kernel_rfl) ?_
  have hN : ∀ e w, (m31_9 R K1 (e 0) (e 1) (e 5) (e 6) w) → (inBlockE 1 (thenE (W31 k31_9 Q) Q)) .normal e w := fun e w h => block_N (hN e w h)
  refine seq_ok' (by kernel_rfl) ?_
  have hN' : ∀ e w, (m31_10 R K1 (e 0) (e 1) (e 5) (e 6) (e 27) w) → (thenE (W31 k31_10 (inBlockE 1 (thenE (W31 k31_9 Q) Q))) (inBlockE 1 (thenE (W31 k31_9 Q) Q))) .normal e w := fun e w h => then_N (s31_10 (R := R) (Q := (inBlockE 1 (thenE (W31 k31_9 Q) Q))) (K1 := K1) hN e w h)
  have hN := hN'
  exact region_ok 7 (fun e w => m31_10 R K1 (e 0) (e 1) (e 5) (e 6) (e 27) w) (by kernel_rfl) (kcast (by kernel_rfl) h) hN (by kernel_rfl)
theorem s31_5 {R : Value → World → Prop} {Q : Exit → Env → World → Prop} (hR : ∀ e w, (R (e 4) w) → Q .ret e w) (e : Env) (w : World) (h : m31_5 R (e 4) w) : W31 k31_5 Q e w := by
  unfold m31_5 at h
  exact ret_ok (by kernel_rfl) (hR _ _ h)
theorem s31_4 {R : Value → World → Prop} {Q : Exit → Env → World → Prop} (hR : ∀ e w, (R (e 4) w) → Q .ret e w) (e : Env) (w : World) (h : m31_4 R (e 5) w) : W31 k31_4 Q e w := by
  unfold m31_4 at h
  refine seq_ok' (by kernel_rfl) ?_
  have hN' : ∀ e w, (m31_5 R (e 4) w) → (thenE (W31 k31_5 Q) Q) .normal e w := fun e w h => then_N (s31_5 (R := R) (Q := Q) hR e w h)
  have hN := hN'
  exact region_ok 9 (fun e w => m31_5 R (e 4) w) (by kernel_rfl) (kcast (by kernel_rfl) h) hN (by kernel_rfl)
theorem s31_11 {R : Value → World → Prop} {K1 : (Value × Value) → World → Prop} {Q : Exit → Env → World → Prop} (hN : ∀ e w, (m31_8 R K1 (e 0) (e 1) (e 5) (e 6) w) → Q .normal e w) (hX0 : ∀ e w, (m31_4 R (e 5) w) → Q (.exit 0) e w) (e : Env) (w : World) (h : m31_11 R K1 (e 0) (e 1) (e 5) (e 6) (e 17) w) : W31 k31_11 Q e w := by
  unfold m31_11 at h
  refine cond_ok (Operand.tmp 17) (by kernel_rfl) h (fun h1 => ?_) (fun h1 => ?_)
  · exact skip_ok (by kernel_rfl) (hN _ _ h1)
  · exact exit_ok 0 (by kernel_rfl) (hX0 _ _ h1)
theorem s31_7 {R : Value → World → Prop} {K1 : (Value × Value) → World → Prop} {Q : Exit → Env → World → Prop} (hN : ∀ e w, (K1 ((e 5), (e 6)) w) → Q .normal e w) (hX0 : ∀ e w, (m31_4 R (e 5) w) → Q (.exit 0) e w) (e : Env) (w : World) (h : m31_7 R K1 (e 0) (e 1) (e 5) (e 6) w) : W31 k31_7 Q e w := by
  unfold m31_7 at h
  refine seq_ok' (by kernel_rfl) ?_
  have hN' : ∀ e w, (m31_8 R K1 (e 0) (e 1) (e 5) (e 6) w) → (thenE (W31 k31_8 Q) Q) .normal e w := fun e w h => then_N (s31_8 (R := R) (Q := Q) (K1 := K1) hN e w h)
  have hX0 : ∀ e w, (m31_4 R (e 5) w) → (thenE (W31 k31_8 Q) Q) (.exit 0) e w := fun e w h => then_X (hX0 e w h)
  have hN := hN'
  refine seq_ok' (by kernel_rfl) ?_
  have hN' : ∀ e w, (m31_11 R K1 (e 0) (e 1) (e 5) (e 6) (e 17) w) → (thenE (W31 k31_11 (thenE (W31 k31_8 Q) Q)) (thenE (W31 k31_8 Q) Q)) .normal e w := fun e w h => then_N (s31_11 (R := R) (Q := (thenE (W31 k31_8 Q) Q)) (K1 := K1) hN hX0 e w h)
  have hN := hN'
  exact region_ok 5 (fun e w => m31_11 R K1 (e 0) (e 1) (e 5) (e 6) (e 17) w) (by kernel_rfl) (kcast (by kernel_rfl) h) hN (by kernel_rfl)
theorem s31_6 {R : Value → World → Prop} {Q : Exit → Env → World → Prop} (hN : ∀ e w, (m31_4 R (e 5) w) → Q .normal e w) (e : Env) (w : World) (h : m31_6 R (e 0) (e 1) (e 5) (e 6) w) : W31 k31_6 Q e w := by
  unfold m31_6 at h
  refine block_ok 0 (by kernel_rfl) ?_
  have hX0 : ∀ e w, (m31_4 R (e 5) w) → (inBlockE 0 Q) (.exit 0) e w := fun e w h => inBlock_same (Q := Q) 0 (hN e w h)
  refine loop_ok' (fun (e : Env) => (e 5, e 6)) [0, 1] (by kernel_rfl) (by kernel_rfl) h (fun K e' w' hk h' => ?_)
  have r0 : e' 0 = e 0 := hk 0 (by decide)
  have r1 : e' 1 = e 1 := hk 1 (by decide)
  have hX0 : ∀ e w, (m31_4 R (e 5) w) → (thenE (fun (e : Env) w => K ((e 5), (e 6)) w) (inBlockE 0 Q)) (.exit 0) e w := fun e w h => then_X (hX0 e w h)
  exact s31_7 (R := R) (Q := (thenE (fun (e : Env) w => K ((e 5), (e 6)) w) (inBlockE 0 Q))) (K1 := K) (fun _ _ h => then_N h) hX0 e' w' (by rw [r0, r1]; exact h')
theorem s31_3 {R : Value → World → Prop} {Q : Exit → Env → World → Prop} (hR : ∀ e w, (R (e 4) w) → Q .ret e w) (e : Env) (w : World) (h : m31_3 R (e 0) (e 1) (e 5) w) : W31 k31_3 Q e w := by
  unfold m31_3 at h
  refine seq_ok' (by kernel_rfl) ?_
  have hN' : ∀ e w, (m31_4 R (e 5) w) → (thenE (W31 k31_4 Q) Q) .normal e w := fun e w h => then_N (s31_4 (R := R) (Q := Q) hR e w h)
  have hN := hN'
  refine seq_ok' (by kernel_rfl) ?_
  have hN' : ∀ e w, (m31_6 R (e 0) (e 1) (e 5) (e 6) w) → (thenE (W31 k31_6 (thenE (W31 k31_4 Q) Q)) (thenE (W31 k31_4 Q) Q)) .normal e w := fun e w h => then_N (s31_6 (R := R) (Q := (thenE (W31 k31_4 Q) Q)) hN e w h)
  have hN := hN'
  exact region_ok 4 (fun e w => m31_6 R (e 0) (e 1) (e 5) (e 6) w) (by kernel_rfl) (kcast (by kernel_rfl) h) hN (by kernel_rfl)
theorem s31_2 {R : Value → World → Prop} {Q : Exit → Env → World → Prop} (hR : ∀ e w, (R (e 4) w) → Q .ret e w) (e : Env) (w : World) (h : m31_2 R (e 0) (e 1) w) : W31 k31_2 Q e w := by
  unfold m31_2 at h
  refine seq_ok' (by kernel_rfl) ?_
  have hN' : ∀ e w, (m31_3 R (e 0) (e 1) (e 5) w) → (thenE (W31 k31_3 Q) Q) .normal e w := fun e w h => then_N (s31_3 (R := R) (Q := Q) hR e w h)
  have hN := hN'
  exact region_ok 3 (fun e w => m31_3 R (e 0) (e 1) (e 5) w) (by kernel_rfl) (kcast (by kernel_rfl) h) hN (by kernel_rfl)
theorem s31_12 {R : Value → World → Prop} {Q : Exit → Env → World → Prop} (hN : ∀ e w, (m31_2 R (e 0) (e 1) w) → Q .normal e w) (e : Env) (w : World) (h : m31_12 R (e 0) (e 1) (e 9) w) : W31 k31_12 Q e w := by
  unfold m31_12 at h
  refine cond_ok (Operand.tmp 9) (by kernel_rfl) h (fun h1 => ?_) (fun h1 => ?_)
  · exact region_ok 2 (fun e w => m31_2 R (e 0) (e 1) w) (by kernel_rfl) (kcast (by kernel_rfl) h1) hN (by kernel_rfl)
  · exact skip_ok (by kernel_rfl) (hN _ _ h1)
theorem s31_1 {R : Value → World → Prop} {Q : Exit → Env → World → Prop} (hR : ∀ e w, (R (e 4) w) → Q .ret e w) (e : Env) (w : World) (h : m31_1 R (e 0) (e 1) w) : W31 k31_1 Q e w := by
  unfold m31_1 at h
  refine seq_ok' (by kernel_rfl) ?_
  have hN' : ∀ e w, (m31_2 R (e 0) (e 1) w) → (thenE (W31 k31_2 Q) Q) .normal e w := fun e w h => then_N (s31_2 (R := R) (Q := Q) hR e w h)
  have hN := hN'
  refine seq_ok' (by kernel_rfl) ?_
  have hN' : ∀ e w, (m31_12 R (e 0) (e 1) (e 9) w) → (thenE (W31 k31_12 (thenE (W31 k31_2 Q) Q)) (thenE (W31 k31_2 Q) Q)) .normal e w := fun e w h => then_N (s31_12 (R := R) (Q := (thenE (W31 k31_2 Q) Q)) hN e w h)
  have hN := hN'
  exact region_ok 1 (fun e w => m31_12 R (e 0) (e 1) (e 9) w) (by kernel_rfl) (kcast (by kernel_rfl) h) hN (by kernel_rfl)
theorem s31_0 {R : Value → World → Prop} {Q : Exit → Env → World → Prop} (hR : ∀ e w, (R (e 4) w) → Q .ret e w) (e : Env) (w : World) (h : m31_0 R (e 0) (e 1) w) : W31 k31_0 Q e w := by
  unfold m31_0 at h
  refine seq_ok' (by kernel_rfl) ?_
  have hN' : ∀ e w, (m31_1 R (e 0) (e 1) w) → (thenE (W31 k31_1 Q) Q) .normal e w := fun e w h => then_N (s31_1 (R := R) (Q := Q) hR e w h)
  have hN := hN'
  exact region_ok 0 (fun e w => m31_1 R (e 0) (e 1) w) (by kernel_rfl) (kcast (by kernel_rfl) h) hN (by kernel_rfl)
abbrev m31 (R : Value → World → Prop) (x0 : Value) (cmp1 : Value) (w : World) : Prop := m31_0 R x0 cmp1 w
theorem s31 (x0 : Value) (cmp1 : Value) {R : Value → World → Prop} {w : World} (h : m31 R x0 cmp1 w) :
    Calls Try.prog 31 #[x0, cmp1] w fun e w' => ∃ v, e = .returned v ∧ R v w' :=
  calls_of_cwp (st := (fun i => 0)) (c := k31_0) (by kernel_rfl) Try.func31 (by kernel_rfl) (Nat.le_of_ble_eq_true (by kernel_rfl)) (by kernel_rfl)
    (s31_0 (R := R) (Q := endE Try.prog Try.f31 R) (fun e w h => kcast (by kernel_rfl) h) (argsE #[x0, cmp1]) w (kcast (by kernel_rfl) h))
/-! ### (*headgate/assign.shares).least$1 -/
def m32_2 (R : Value → World → Prop) (t5 : Value) (w : World) : Prop :=
  R t5 w
def m32_1 (R : Value → World → Prop) (a0 : Value) (b1 : Value) (t2 : Value) (w : World) : Prop :=
  valQ Try.prog (Instr.loadAt 40 t2) w fun t6 =>
  nilCheckP t6 fun t7 =>
  valQ Try.prog (Instr.fieldAt 45 t7 1) w fun t8 =>
  valQ Try.prog (Instr.loadAt 43 t8) w fun t9 =>
  valQ Try.prog (Instr.lookup 43 t9 a0 false) w fun t11 =>
  valQ Try.prog (Instr.loadAt 40 t2) w fun t12 =>
  nilCheckP t12 fun t13 =>
  valQ Try.prog (Instr.fieldAt 45 t13 1) w fun t14 =>
  valQ Try.prog (Instr.loadAt 43 t14) w fun t15 =>
  valQ Try.prog (Instr.lookup 43 t15 b1 false) w fun t17 =>
  valQ Try.prog (binS BinOp.sub 3 (Operand.tmp 11) (Operand.tmp 17) t11 t17) w fun t18 =>
  anyDraw w fun w =>
  m32_2 R t18 w
def m32_0 (R : Value → World → Prop) (a0 : Value) (b1 : Value) (t2 : Value) (w : World) : Prop :=
  m32_1 R a0 b1 t2 w
abbrev W32 := cwp Try.prog (fun i => cond (Nat.beq i 1) 1 (0))
noncomputable def k32_0 : Code := (bodyOf Try.f32)
noncomputable def k32_1 : Code := (c2 k32_0)
noncomputable def k32_2 : Code := (c2 k32_1)
theorem s32_2 {R : Value → World → Prop} {Q : Exit → Env → World → Prop} (hR : ∀ e w, (R (e 5) w) → Q .ret e w) (e : Env) (w : World) (h : m32_2 R (e 5) w) : W32 k32_2 Q e w := by
  unfold m32_2 at h
  exact ret_ok (by kernel_rfl) (hR _ _ h)
theorem s32_1 {R : Value → World → Prop} {Q : Exit → Env → World → Prop} (hR : ∀ e w, (R (e 5) w) → Q .ret e w) (e : Env) (w : World) (h : m32_1 R (e 0) (e 1) (e 2) w) : W32 k32_1 Q e w := by
  unfold m32_1 at h
  refine seq_ok' (by kernel_rfl) ?_
  have hN' : ∀ e w, (m32_2 R (e 5) w) → (thenE (W32 k32_2 Q) Q) .normal e w := fun e w h => then_N (s32_2 (R := R) (Q := Q) hR e w h)
  have hN := hN'
  exact quiet_ok 1 (fun e w => m32_2 R (e 5) w) (by kernel_rfl) (by kernel_rfl) (by kernel_rfl) (kcast (by kernel_rfl) h) hN (by kernel_rfl)
theorem s32_0 {R : Value → World → Prop} {Q : Exit → Env → World → Prop} (hR : ∀ e w, (R (e 5) w) → Q .ret e w) (e : Env) (w : World) (h : m32_0 R (e 0) (e 1) (e 2) w) : W32 k32_0 Q e w := by
  unfold m32_0 at h
  refine seq_ok' (by kernel_rfl) ?_
  have hN' : ∀ e w, (m32_1 R (e 0) (e 1) (e 2) w) → (thenE (W32 k32_1 Q) Q) .normal e w := fun e w h => then_N (s32_1 (R := R) (Q := Q) hR e w h)
  have hN := hN'
  exact region_ok 0 (fun e w => m32_1 R (e 0) (e 1) (e 2) w) (by kernel_rfl) (kcast (by kernel_rfl) h) hN (by kernel_rfl)
abbrev m32 (R : Value → World → Prop) (a0 : Value) (b1 : Value) (t2 : Value) (w : World) : Prop := m32_0 R a0 b1 t2 w
theorem s32 (a0 : Value) (b1 : Value) (t2 : Value) {R : Value → World → Prop} {w : World} (h : m32 R a0 b1 t2 w) :
    Calls Try.prog 32 #[a0, b1, t2] w fun e w' => ∃ v, e = .returned v ∧ R v w' :=
  calls_of_cwp (st := (fun i => cond (Nat.beq i 1) 1 (0))) (c := k32_0) (by kernel_rfl) Try.func32 (by kernel_rfl) (Nat.le_of_ble_eq_true (by kernel_rfl)) (by kernel_rfl)
    (s32_0 (R := R) (Q := endE Try.prog Try.f32 R) (fun e w h => kcast (by kernel_rfl) h) (argsE #[a0, b1, t2]) w (kcast (by kernel_rfl) h))
/-! ### (*headgate/assign.shares).keeps -/
def m21_13 (R : Value → World → Prop) (t4 : Value) (w : World) : Prop :=
  R t4 w
def m21_10 (R : Value → World → Prop) (t4 : Value) (w : World) : Prop :=
  R t4 w
def m21_7 (R : Value → World → Prop) (t4 : Value) (w : World) : Prop :=
  R t4 w
def m21_6 (R : Value → World → Prop) (w : World) : Prop :=
  m21_7 R (Value.bool true) w
def m21_5 (R : Value → World → Prop) (s0 : Value) (m1 : Value) (w : World) : Prop :=
  nilCheckP s0 fun t60 =>
  valP Try.prog (Instr.fieldAt 45 t60 1) w fun t61 w =>
  valP Try.prog (Instr.loadAt 43 t61) w fun t62 w =>
  valP Try.prog (Instr.lookup 43 t62 m1 false) w fun t64 w =>
  valP Try.prog (binS BinOp.add 3 (Operand.tmp 64) (Operand.const (Value.int IntKind.i64 1)) t64 (Value.int IntKind.i64 1)) w fun t65 w =>
  unitP Try.prog (Instr.mapUpdate 43 t62 m1 t65) w fun _ w =>
  m21_6 R w
def m21_8 (R : Value → World → Prop) (s0 : Value) (m1 : Value) (t51 : Value) (w : World) : Prop :=
  condP t51
  (nilCheckP s0 fun t53 =>
  valP Try.prog (Instr.fieldAt 45 t53 3) w fun t54 w =>
  valP Try.prog (Instr.loadAt 3 t54) w fun t55 w =>
  valP Try.prog (binS BinOp.sub 3 (Operand.tmp 55) (Operand.const (Value.int IntKind.i64 1)) t55 (Value.int IntKind.i64 1)) w fun t56 w =>
  nilCheckP s0 fun t57 =>
  valP Try.prog (Instr.fieldAt 45 t57 3) w fun t58 w =>
  unitP Try.prog (Instr.storeAt 3 t58 t56) w fun _ w =>
  m21_5 R s0 m1 w)
  (m21_5 R s0 m1 w)
def m21_4 (R : Value → World → Prop) (s0 : Value) (m1 : Value) (n7 : Value) (w : World) : Prop :=
  nilCheckP s0 fun t48 =>
  valP Try.prog (Instr.fieldAt 45 t48 2) w fun t49 w =>
  valP Try.prog (Instr.loadAt 3 t49) w fun t50 w =>
  valP Try.prog (binS BinOp.eql 3 (Operand.tmp 46) (Operand.tmp 50) n7 t50) w fun t51 w =>
  m21_8 R s0 m1 t51 w
def m21_9 (R : Value → World → Prop) (s0 : Value) (m1 : Value) (n7 : Value) (t45 : Value) (w : World) : Prop :=
  condP t45
  (m21_10 R (Value.bool false) w)
  (m21_4 R s0 m1 n7 w)
def m21_3 (R : Value → World → Prop) (s0 : Value) (m1 : Value) (n7 : Value) (w : World) : Prop :=
  nilCheckP s0 fun t27 =>
  valP Try.prog (Instr.fieldAt 45 t27 2) w fun t28 w =>
  valP Try.prog (Instr.loadAt 3 t28) w fun t29 w =>
  valP Try.prog (binS BinOp.gtr 3 (Operand.tmp 25) (Operand.tmp 29) n7 t29) w fun t30 w =>
  condP t30
  (pickP t30 (Value.bool true) undef fun t45 =>
  m21_9 R s0 m1 n7 t45 w)
  (nilCheckP s0 fun t34 =>
  valP Try.prog (Instr.fieldAt 45 t34 2) w fun t35 w =>
  valP Try.prog (Instr.loadAt 3 t35) w fun t36 w =>
  valP Try.prog (binS BinOp.eql 3 (Operand.tmp 32) (Operand.tmp 36) n7 t36) w fun t37 w =>
  condP t37
  (nilCheckP s0 fun t40 =>
  valP Try.prog (Instr.fieldAt 45 t40 3) w fun t41 w =>
  valP Try.prog (Instr.loadAt 3 t41) w fun t42 w =>
  valP Try.prog (binS BinOp.eql 3 (Operand.tmp 42) (Operand.const (Value.int IntKind.i64 0)) t42 (Value.int IntKind.i64 0)) w fun t43 w =>
  pickP t37 t43 (Value.bool false) fun t44 =>
  pickP t30 (Value.bool true) t44 fun t45 =>
  m21_9 R s0 m1 n7 t45 w)
  (pickP t37 undef (Value.bool false) fun t44 =>
  pickP t30 (Value.bool true) t44 fun t45 =>
  m21_9 R s0 m1 n7 t45 w))
def m21_2 (R : Value → World → Prop) (s0 : Value) (m1 : Value) (w : World) : Prop :=
  nilCheckP s0 fun t20 =>
  valP Try.prog (Instr.fieldAt 45 t20 1) w fun t21 w =>
  valP Try.prog (Instr.loadAt 43 t21) w fun t22 w =>
  valP Try.prog (Instr.lookup 43 t22 m1 false) w fun t24 w =>
  m21_3 R s0 m1 t24 w
def m21_12 (R : Value → World → Prop) (s0 : Value) (m1 : Value) (t18 : Value) (w : World) : Prop :=
  condP t18
  (m21_13 R (Value.bool false) w)
  (m21_2 R s0 m1 w)
def m21_11 (R : Value → World → Prop) (s0 : Value) (m1 : Value) (ok6 : Value) (w : World) : Prop :=
  valP Try.prog (Op.unary UnOp.not ok6) w fun t18 w =>
  m21_12 R s0 m1 t18 w
def m21_1 (R : Value → World → Prop) (s0 : Value) (m1 : Value) (w : World) : Prop :=
  nilCheckP s0 fun t10 =>
  valP Try.prog (Instr.fieldAt 45 t10 0) w fun t11 w =>
  valP Try.prog (Instr.loadAt 22 t11) w fun t12 w =>
  callP Try.prog (fnV 30) #[t12, m1] w fun t14 w =>
  valP Try.prog (Instr.extract t14 0) w fun t15 w =>
  valP Try.prog (Instr.extract t14 1) w fun t16 w =>
  m21_11 R s0 m1 t16 w
def m21_0 (R : Value → World → Prop) (s0 : Value) (m1 : Value) (w : World) : Prop :=
  m21_1 R s0 m1 w
abbrev W21 := cwp Try.prog (fun i => 0)
noncomputable def k21_0 : Code := (bodyOf Try.f21)
noncomputable def k21_1 : Code := (c2 k21_0)
noncomputable def k21_2 : Code := (c2 k21_1)
noncomputable def k21_3 : Code := (c2 k21_2)
noncomputable def k21_4 : Code := (c2 k21_3)
noncomputable def k21_5 : Code := (c2 k21_4)
noncomputable def k21_6 : Code := (c2 k21_5)
noncomputable def k21_7 : Code := (c2 k21_6)
noncomputable def k21_8 : Code := (c2 (c1 k21_4))
noncomputable def k21_9 : Code := (c2 (c1 k21_3))
noncomputable def k21_10 : Code := (c2 (c1 k21_9))
noncomputable def k21_11 : Code := (c2 (c1 k21_1))
noncomputable def k21_12 : Code := (c2 k21_11)
noncomputable def k21_13 : Code := (c2 (c1 k21_12))
theorem s21_13 {R : Value → World → Prop} {Q : Exit → Env → World → Prop} (hR : ∀ e w, (R (e 4) w) → Q .ret e w) (e : Env) (w : World) (h : m21_13 R (e 4) w) : W21 k21_13 Q e w := by
  unfold m21_13 at h
  exact ret_ok (by kernel_rfl) (hR _ _ h)
theorem s21_10 {R : Value → World → Prop} {Q : Exit → Env → World → Prop} (hR : ∀ e w, (R (e 4) w) → Q .ret e w) (e : Env) (w : World) (h : m21_10 R (e 4) w) : W21 k21_10 Q e w := by
  unfold m21_10 at h
  exact ret_ok (by kernel_rfl) (hR _ _ h)
theorem s21_7 {R : Value → World → Prop} {Q : Exit → Env → World → Prop} (hR : ∀ e w, (R (e 4) w) → Q .ret e w) (e : Env) (w : World) (h : m21_7 R (e 4) w) : W21 k21_7 Q e w := by
  unfold m21_7 at h
  exact ret_ok (by kernel_rfl) (hR _ _ h)
theorem s21_6 {R : Value → World → Prop} {Q : Exit → Env → World → Prop} (hR : ∀ e w, (R (e 4) w) → Q .ret e w) (e : Env) (w : World) (h : m21_6 R w) : W21 k21_6 Q e w := by
  unfold m21_6 at h
  refine seq_ok' (by kernel_rfl) ?_
  have hN' : ∀ e w, (m21_7 R (e 4) w) → (thenE (W21 k21_7 Q) Q) .normal e w := fun e w h => then_N (s21_7 (R := R) (Q := Q) hR e w h)
  have hN := hN'
  exact region_ok 10 (fun e w => m21_7 R (e 4) w) (by kernel_rfl) (kcast (by kernel_rfl) h) hN (by kernel_rfl)
theorem s21_5 {R : Value → World → Prop} {Q : Exit → Env → World → Prop} (hR : ∀ e w, (R (e 4) w) → Q .ret e w) (e : Env) (w : World) (h : m21_5 R (e 0) (e 1) w) : W21 k21_5 Q e w := by
  unfold m21_5 at h
  refine seq_ok' (by kernel_rfl) ?_
  have hN' : ∀ e w, (m21_6 R w) → (thenE (W21 k21_6 Q) Q) .normal e w := fun e w h => then_N (s21_6 (R := R) (Q := Q) hR e w h)
  have hN := hN'
  exact region_ok 9 (fun e w => m21_6 R w) (by kernel_rfl) (kcast (by kernel_rfl) h) hN (by kernel_rfl)
theorem s21_8 {R : Value → World → Prop} {Q : Exit → Env → World → Prop} (hN : ∀ e w, (m21_5 R (e 0) (e 1) w) → Q .normal e w) (e : Env) (w : World) (h : m21_8 R (e 0) (e 1) (e 51) w) : W21 k21_8 Q e w := by
  unfold m21_8 at h
  refine cond_ok (Operand.tmp 51) (by kernel_rfl) h (fun h1 => ?_) (fun h1 => ?_)
  · exact region_ok 8 (fun e w => m21_5 R (e 0) (e 1) w) (by kernel_rfl) (kcast (by kernel_rfl) h1) hN (by kernel_rfl)
  · exact skip_ok (by kernel_rfl) (hN _ _ h1)
theorem s21_4 {R : Value → World → Prop} {Q : Exit → Env → World → Prop} (hR : ∀ e w, (R (e 4) w) → Q .ret e w) (e : Env) (w : World) (h : m21_4 R (e 0) (e 1) (e 7) w) : W21 k21_4 Q e w := by
  unfold m21_4 at h
  refine seq_ok' (by kernel_rfl) ?_
  have hN' : ∀ e w, (m21_5 R (e 0) (e 1) w) → (thenE (W21 k21_5 Q) Q) .normal e w := fun e w h => then_N (s21_5 (R := R) (Q := Q) hR e w h)
  have hN := hN'
  refine seq_ok' (by kernel_rfl) ?_
  have hN' : ∀ e w, (m21_8 R (e 0) (e 1) (e 51) w) → (thenE (W21 k21_8 (thenE (W21 k21_5 Q) Q)) (thenE (W21 k21_5 Q) Q)) .normal e w := fun e w h => then_N (s21_8 (R := R) (Q := (thenE (W21 k21_5 Q) Q)) hN e w h)
  have hN := hN'
  exact region_ok 7 (fun e w => m21_8 R (e 0) (e 1) (e 51) w) (by kernel_rfl) (kcast (by kernel_rfl) h) hN (by kernel_rfl)
theorem s21_9 {R : Value → World → Prop} {Q : Exit → Env → World → Prop} (hN : ∀ e w, (m21_4 R (e 0) (e 1) (e 7) w) → Q .normal e w) (hR : ∀ e w, (R (e 4) w) → Q .ret e w) (e : Env) (w : World) (h : m21_9 R (e 0) (e 1) (e 7) (e 45) w) : W21 k21_9 Q e w := by
  unfold m21_9 at h
  refine cond_ok (Operand.tmp 45) (by kernel_rfl) h (fun h1 => ?_) (fun h1 => ?_)
  · refine seq_ok' (by kernel_rfl) ?_
    have hN' : ∀ e w, (m21_10 R (e 4) w) → (thenE (W21 k21_10 Q) Q) .normal e w := fun e w h => then_N (s21_10 (R := R) (Q := Q) hR e w h)
    have hN := hN'
    exact region_ok 6 (fun e w => m21_10 R (e 4) w) (by kernel_rfl) (kcast (by kernel_rfl) h1) hN (by kernel_rfl)
  · exact skip_ok (by kernel_rfl) (hN _ _ h1)
theorem s21_3 {R : Value → World → Prop} {Q : Exit → Env → World → Prop} (hR : ∀ e w, (R (e 4) w) → Q .ret e w) (e : Env) (w : World) (h : m21_3 R (e 0) (e 1) (e 7) w) : W21 k21_3 Q e w := by
  unfold m21_3 at h
  refine seq_ok' (by kernel_rfl) ?_
  have hN' : ∀ e w, (m21_4 R (e 0) (e 1) (e 7) w) → (thenE (W21 k21_4 Q) Q) .normal e w := fun e w h => then_N (s21_4 (R := R) (Q := Q) hR e w h)
  have hR : ∀ e w, (R (e 4) w) → (thenE (W21 k21_4 Q) Q) .ret e w := fun e w h => then_R (hR e w h)
  have hN := hN'
  refine seq_ok' (by kernel_rfl) ?_
  have hN' : ∀ e w, (m21_9 R (e 0) (e 1) (e 7) (e 45) w) → (thenE (W21 k21_9 (thenE (W21 k21_4 Q) Q)) (thenE (W21 k21_4 Q) Q)) .normal e w := fun e w h => then_N (s21_9 (R := R) (Q := (thenE (W21 k21_4 Q) Q)) hN hR e w h)
  have hN := hN'
  exact region_ok 5 (fun e w => m21_9 R (e 0) (e 1) (e 7) (e 45) w) (by kernel_rfl) (kcast (by kernel_rfl) h) hN (by kernel_rfl)
theorem s21_2 {R : Value → World → Prop} {Q : Exit → Env → World → Prop} (hR : ∀ e w, (R (e 4) w) → Q .ret e w) (e : Env) (w : World) (h : m21_2 R (e 0) (e 1) w) : W21 k21_2 Q e w := by
  unfold m21_2 at h
  refine seq_ok' (by kernel_rfl) ?_
  have hN' : ∀ e w, (m21_3 R (e 0) (e 1) (e 7) w) → (thenE (W21 k21_3 Q) Q) .normal e w := fun e w h => then_N (s21_3 (R := R) (Q := Q) hR e w h)
  have hN := hN'
  exact region_ok 4 (fun e w => m21_3 R (e 0) (e 1) (e 7) w) (by kernel_rfl) (kcast (by kernel_rfl) h) hN (by kernel_rfl)
theorem s21_12 {R : Value → World → Prop} {Q : Exit → Env → World → Prop} (hN : ∀ e w, (m21_2 R (e 0) (e 1) w) → Q .normal e w) (hR : ∀ e w, (R (e 4) w) → Q .ret e w) (e : Env) (w : World) (h : m21_12 R (e 0) (e 1) (e 18) w) : W21 k21_12 Q e w := by
  unfold m21_12 at h
  refine cond_ok (Operand.tmp 18) (by kernel_rfl) h (fun h1 => ?_) (fun h1 => ?_)
  · refine seq_ok' (by kernel_rfl) ?_
    have hN' : ∀ e w, (m21_13 R (e 4) w) → (thenE (W21 k21_13 Q) Q) .normal e w := fun e w h => then_N (s21_13 (R := R) (Q := Q) hR e w h)
    have hN := hN'
    exact region_ok 3 (fun e w => m21_13 R (e 4) w) (by kernel_rfl) (kcast (by kernel_rfl) h1) hN (by kernel_rfl)
  · exact skip_ok (by kernel_rfl) (hN _ _ h1)
theorem s21_11 {R : Value → World → Prop} {Q : Exit → Env → World → Prop} (hN : ∀ e w, (m21_2 R (e 0) (e 1) w) → Q .normal e w) (hR : ∀ e w, (R (e 4) w) → Q .ret e w) (e : Env) (w : World) (h : m21_11 R (e 0) (e 1) (e 6) w) : W21 k21_11 Q e w := by
  unfold m21_11 at h
  refine seq_ok' (by kernel_rfl) ?_
  have hN' : ∀ e w, (m21_12 R (e 0) (e 1) (e 18) w) → (thenE (W21 k21_12 Q) Q) .normal e w := fun e w h => then_N (s21_12 (R := R) (Q := Q) hN hR e w h)
  have hN := hN'
  exact region_ok 2 (fun e w => m21_12 R (e 0) (e 1) (e 18) w) (by kernel_rfl) (kcast (by kernel_rfl) h) hN (by kernel_rfl)
theorem s21_1 {R : Value → World → Prop} {Q : Exit → Env → World → Prop} (hR : ∀ e w, (R (e 4) w) → Q .ret e w) (e : Env) (w : World) (h : m21_1 R (e 0) (e 1) w) : W21 k21_1 Q e w := by
  unfold m21_1 at h
  refine seq_ok' (by kernel_rfl) ?_
  have hN' : ∀ e w, (m21_2 R (e 0) (e 1) w) → (thenE (W21 k21_2 Q) Q) .normal e w := fun e w h => then_N (s21_2 (R := R) (Q := Q) hR e w h)
  have hR : ∀ e w, (R (e 4) w) → (thenE (W21 k21_2 Q) Q) .ret e w := fun e w h => then_R (hR e w h)
  have hN := hN'
  refine seq_ok' (by kernel_rfl) ?_
  have hN' : ∀ e w, (m21_11 R (e 0) (e 1) (e 6) w) → (thenE (W21 k21_11 (thenE (W21 k21_2 Q) Q)) (thenE (W21 k21_2 Q) Q)) .normal e w := fun e w h => then_N (s21_11 (R := R) (Q := (thenE (W21 k21_2 Q) Q)) hN hR e w h)
  have hN := hN'
  exact region_ok 1 (fun e w => m21_11 R (e 0) (e 1) (e 6) w) (by kernel_rfl) (kcast (by kernel_rfl) h) hN (by kernel_rfl)
theorem s21_0 {R : Value → World → Prop} {Q : Exit → Env → World → Prop} (hR : ∀ e w, (R (e 4) w) → Q .ret e w) (e : Env) (w : World) (h : m21_0 R (e 0) (e 1) w) : W21 k21_0 Q e w := by
  unfold m21_0 at h
  refine seq_ok' (by kernel_rfl) ?_
  have hN' : ∀ e w, (m21_1 R (e 0) (e 1) w) → (thenE (W21 k21_1 Q) Q) .normal e w := fun e w h => then_N (s21_1 (R := R) (Q := Q) hR e w h)
  have hN := hN'
  exact region_ok 0 (fun e w => m21_1 R (e 0) (e 1) w) (by kernel_rfl) (kcast (by kernel_rfl) h) hN (by kernel_rfl)
abbrev m21 (R : Value → World → Prop) (s0 : Value) (m1 : Value) (w : World) : Prop := m21_0 R s0 m1 w
theorem s21 (s0 : Value) (m1 : Value) {R : Value → World → Prop} {w : World} (h : m21 R s0 m1 w) :
    Calls Try.prog 21 #[s0, m1] w fun e w' => ∃ v, e = .returned v ∧ R v w' :=
  calls_of_cwp (st := (fun i => 0)) (c := k21_0) (by kernel_rfl) Try.func21 (by kernel_rfl) (Nat.le_of_ble_eq_true (by kernel_rfl)) (by kernel_rfl)
    (s21_0 (R := R) (Q := endE Try.prog Try.f21 R) (fun e w h => kcast (by kernel_rfl) h) (argsE #[s0, m1]) w (kcast (by kernel_rfl) h))
/-! ### (*headgate/assign.shares).least -/
def m22_2 (R : Value → World → Prop) (t2 : Value) (w : World) : Prop :=
  R t2 w
def m22_1 (R : Value → World → Prop) (s1 : Value) (w : World) : Prop :=
  valP Try.prog (Instr.loadAt 40 s1) w fun t3 w =>
  nilCheckP t3 fun t4 =>
  valP Try.prog (Instr.fieldAt 45 t4 0) w fun t5 w =>
  valP Try.prog (Instr.loadAt 22 t5) w fun t6 w =>
  valP Try.prog (Instr.makeFunc (Fn.func 32) #[] #[s1]) w fun t7 w =>
  callP Try.prog (fnV 31) #[t6, t7] w fun t8 w =>
  m22_2 R t8 w
def m22_0 (R : Value → World → Prop) (s0 : Value) (w : World) : Prop :=
  valP Try.prog (Instr.box 40 s0) w fun s1 w =>
  m22_1 R s1 w
abbrev W22 := cwp Try.prog (fun i => 0)
noncomputable def k22_0 : Code := (bodyOf Try.f22)
noncomputable def k22_1 : Code := (c2 k22_0)
noncomputable def k22_2 : Code := (c2 k22_1)
theorem s22_2 {R : Value → World → Prop} {Q : Exit → Env → World → Prop} (hR : ∀ e w, (R (e 2) w) → Q .ret e w) (e : Env) (w : World) (h : m22_2 R (e 2) w) : W22 k22_2 Q e w := by
  unfold m22_2 at h
  exact ret_ok (by kernel_rfl) (hR _ _ h)
theorem s22_1 {R : Value → World → Prop} {Q : Exit → Env → World → Prop} (hR : ∀ e w, (R (e 2) w) → Q .ret e w) (e : Env) (w : World) (h : m22_1 R (e 1) w) : W22 k22_1 Q e w := by
  unfold m22_1 at h
  refine seq_ok' (by kernel_rfl) ?_
  have hN' : ∀ e w, (m22_2 R (e 2) w) → (thenE (W22 k22_2 Q) Q) .normal e w := fun e w h => then_N (s22_2 (R := R) (Q := Q) hR e w h)
  have hN := hN'
  exact region_ok 1 (fun e w => m22_2 R (e 2) w) (by kernel_rfl) (kcast (by kernel_rfl) h) hN (by kernel_rfl)
theorem s22_0 {R : Value → World → Prop} {Q : Exit → Env → World → Prop} (hR : ∀ e w, (R (e 2) w) → Q .ret e w) (e : Env) (w : World) (h : m22_0 R (e 0) w) : W22 k22_0 Q e w := by
  unfold m22_0 at h
  refine seq_ok' (by kernel_rfl) ?_
  have hN' : ∀ e w, (m22_1 R (e 1) w) → (thenE (W22 k22_1 Q) Q) .normal e w := fun e w h => then_N (s22_1 (R := R) (Q := Q) hR e w h)
  have hN := hN'
  exact region_ok 0 (fun e w => m22_1 R (e 1) w) (by kernel_rfl) (kcast (by kernel_rfl) h) hN (by kernel_rfl)
abbrev m22 (R : Value → World → Prop) (s0 : Value) (w : World) : Prop := m22_0 R s0 w
theorem s22 (s0 : Value) {R : Value → World → Prop} {w : World} (h : m22 R s0 w) :
    Calls Try.prog 22 #[s0] w fun e w' => ∃ v, e = .returned v ∧ R v w' :=
  calls_of_cwp (st := (fun i => 0)) (c := k22_0) (by kernel_rfl) Try.func22 (by kernel_rfl) (Nat.le_of_ble_eq_true (by kernel_rfl)) (by kernel_rfl)
    (s22_0 (R := R) (Q := endE Try.prog Try.f22 R) (fun e w h => kcast (by kernel_rfl) h) (argsE #[s0]) w (kcast (by kernel_rfl) h))
/-! ### headgate/assign.Range -/
def m11_26 (R : Value → World → Prop) (t4 : Value) (t5 : Value) (w : World) : Prop :=
  R (Value.tuple #[t4, t5]) w
def m11_23 (R : Value → World → Prop) (K1 : (Value × Value) → World → Prop) (K2 : (Value × Value) → World → Prop) (parts0 : Value) (s6 : Value) (l8 : Value) (m10 : Value) (t25 : Value) (t26 : Value) (t27 : Value) (t44 : Value) (t45 : Value) (w : World) : Prop :=
  valP Try.prog (binS BinOp.add 3 (Operand.tmp 45) (Operand.const (Value.int IntKind.i64 1)) t45 (Value.int IntKind.i64 1)) w fun t51 w =>
  K2 (l8, t51) w
def m11_22 (R : Value → World → Prop) (K1 : (Value × Value) → World → Prop) (K2 : (Value × Value) → World → Prop) (parts0 : Value) (s6 : Value) (l8 : Value) (m10 : Value) (t25 : Value) (t26 : Value) (t27 : Value) (t44 : Value) (t45 : Value) (w : World) : Prop :=
  valP Try.prog (Instr.buildSlice 22 1 #[(0, m10)]) w fun t49 w =>
  builtinP Try.prog Builtin.append #[22, 22] 22 #[false, false] #[l8, t49] w fun t50 w =>
  m11_23 R K1 K2 parts0 s6 t50 m10 t25 t26 t27 t44 t45 w
def m11_15 (R : Value → World → Prop) (K1 : (Value × Value) → World → Prop) (parts0 : Value) (s6 : Value) (l8 : Value) (t25 : Value) (t26 : Value) (t27 : Value) (w : World) : Prop :=
  valP Try.prog (binS BinOp.add 3 (Operand.tmp 27) (Operand.const (Value.int IntKind.i64 1)) t27 (Value.int IntKind.i64 1)) w fun t52 w =>
  K1 (l8, t52) w
def m11_21 (R : Value → World → Prop) (K1 : (Value × Value) → World → Prop) (K2 : (Value × Value) → World → Prop) (parts0 : Value) (s6 : Value) (l8 : Value) (m10 : Value) (t25 : Value) (t26 : Value) (t27 : Value) (t44 : Value) (t45 : Value) (t46 : Value) (w : World) : Prop :=
  condP t46
  (m11_22 R K1 K2 parts0 s6 l8 m10 t25 t26 t27 t44 t45 w)
  (m11_15 R K1 parts0 s6 l8 t25 t26 t27 w)
def m11_20 (R : Value → World → Prop) (K1 : (Value × Value) → World → Prop) (K2 : (Value × Value) → World → Prop) (parts0 : Value) (s6 : Value) (l8 : Value) (m10 : Value) (t25 : Value) (t26 : Value) (t27 : Value) (t44 : Value) (t45 : Value) (w : World) : Prop :=
  valP Try.prog (binS BinOp.lss 3 (Operand.tmp 45) (Operand.tmp 44) t45 t44) w fun t46 w =>
  m11_21 R K1 K2 parts0 s6 l8 m10 t25 t26 t27 t44 t45 t46 w
def m11_19 (R : Value → World → Prop) (K1 : (Value × Value) → World → Prop) (parts0 : Value) (s6 : Value) (l8 : Value) (m10 : Value) (t25 : Value) (t26 : Value) (t27 : Value) (t44 : Value) (t45 : Value) (w : World) : Prop :=
  loopP (fun (K2 : (Value × Value) → World → Prop) (s : Value × Value) w => m11_20 R K1 K2 parts0 s6 s.1 m10 t25 t26 t27 t44 s.2 w) (l8, t45) w
def m11_18 (R : Value → World → Prop) (K1 : (Value × Value) → World → Prop) (parts0 : Value) (s6 : Value) (l8 : Value) (m10 : Value) (n11 : Value) (t25 : Value) (t26 : Value) (t27 : Value) (w : World) : Prop :=
  m11_19 R K1 parts0 s6 l8 m10 t25 t26 t27 n11 (Value.int IntKind.i64 0) w
def m11_24 (R : Value → World → Prop) (K1 : (Value × Value) → World → Prop) (parts0 : Value) (s6 : Value) (l8 : Value) (m10 : Value) (n11 : Value) (t25 : Value) (t26 : Value) (t27 : Value) (t41 : Value) (w : World) : Prop :=
  condP t41
  (valP Try.prog (binS BinOp.add 3 (Operand.tmp 42) (Operand.const (Value.int IntKind.i64 1)) n11 (Value.int IntKind.i64 1)) w fun t43 w =>
  m11_18 R K1 parts0 s6 l8 m10 t43 t25 t26 t27 w)
  (m11_18 R K1 parts0 s6 l8 m10 n11 t25 t26 t27 w)
def m11_17 (R : Value → World → Prop) (K1 : (Value × Value) → World → Prop) (parts0 : Value) (s6 : Value) (l8 : Value) (i9 : Value) (m10 : Value) (n11 : Value) (t25 : Value) (t26 : Value) (t27 : Value) (w : World) : Prop :=
  nilCheckP s6 fun t38 =>
  valP Try.prog (Instr.fieldAt 45 t38 3) w fun t39 w =>
  valP Try.prog (Instr.loadAt 3 t39) w fun t40 w =>
  valP Try.prog (binS BinOp.lss 3 (Operand.tmp 36) (Operand.tmp 40) i9 t40) w fun t41 w =>
  m11_24 R K1 parts0 s6 l8 m10 n11 t25 t26 t27 t41 w
def m11_16 (R : Value → World → Prop) (K1 : (Value × Value) → World → Prop) (parts0 : Value) (s6 : Value) (l8 : Value) (i9 : Value) (m10 : Value) (t25 : Value) (t26 : Value) (t27 : Value) (w : World) : Prop :=
  nilCheckP s6 fun t33 =>
  valP Try.prog (Instr.fieldAt 45 t33 2) w fun t34 w =>
  valP Try.prog (Instr.loadAt 3 t34) w fun t35 w =>
  m11_17 R K1 parts0 s6 l8 i9 m10 t35 t25 t26 t27 w
def m11_14 (R : Value → World → Prop) (K1 : (Value × Value) → World → Prop) (parts0 : Value) (s6 : Value) (l8 : Value) (t25 : Value) (t26 : Value) (t27 : Value) (w : World) : Prop :=
  valP Try.prog (Instr.indexAt 22 t25 t27) w fun t30 w =>
  valP Try.prog (Instr.loadAt 3 t30) w fun t31 w =>
  m11_16 R K1 parts0 s6 l8 t27 t31 t25 t26 t27 w
def m11_9 (R : Value → World → Prop) (K1 : Value → World → Prop) (parts0 : Value) (l8 : Value) (w : World) : Prop :=
  valP Try.prog (Instr.buildSlice 22 1 #[(0, (Value.int IntKind.i64 0))]) w fun t58 w =>
  builtinP Try.prog Builtin.append #[22, 22] 22 #[false, false] #[l8, t58] w fun t59 w =>
  K1 t59 w
def m11_7 (R : Value → World → Prop) (t4 : Value) (t5 : Value) (w : World) : Prop :=
  R (Value.tuple #[t4, t5]) w
def m11_6 (R : Value → World → Prop) (l8 : Value) (w : World) : Prop :=
  m11_7 R l8 (Value.int IntKind.i64 0) w
def m11_10 (R : Value → World → Prop) (K1 : Value → World → Prop) (parts0 : Value) (l8 : Value) (t56 : Value) (w : World) : Prop :=
  condP t56
  (m11_9 R K1 parts0 l8 w)
  (m11_6 R l8 w)
def m11_8 (R : Value → World → Prop) (K1 : Value → World → Prop) (parts0 : Value) (l8 : Value) (w : World) : Prop :=
  builtinP Try.prog Builtin.len #[22] 3 #[false] #[l8] w fun t54 w =>
  valP Try.prog (binS BinOp.lss 3 (Operand.tmp 54) (Operand.tmp 55) t54 parts0) w fun t56 w =>
  m11_10 R K1 parts0 l8 t56 w
def m11_5 (R : Value → World → Prop) (parts0 : Value) (l8 : Value) (w : World) : Prop :=
  loopP (fun (K1 : Value → World → Prop) (s : Value) w => m11_8 R K1 parts0 s w) l8 w
def m11_13 (R : Value → World → Prop) (K1 : (Value × Value) → World → Prop) (parts0 : Value) (s6 : Value) (l8 : Value) (t25 : Value) (t26 : Value) (t27 : Value) (t28 : Value) (w : World) : Prop :=
  condP t28
  (m11_14 R K1 parts0 s6 l8 t25 t26 t27 w)
  (m11_5 R parts0 l8 w)
def m11_12 (R : Value → World → Prop) (K1 : (Value × Value) → World → Prop) (parts0 : Value) (s6 : Value) (l8 : Value) (t25 : Value) (t26 : Value) (t27 : Value) (w : World) : Prop :=
  valP Try.prog (binS BinOp.lss 3 (Operand.tmp 27) (Operand.tmp 26) t27 t26) w fun t28 w =>
  m11_13 R K1 parts0 s6 l8 t25 t26 t27 t28 w
def m11_11 (R : Value → World → Prop) (parts0 : Value) (s6 : Value) (l8 : Value) (t25 : Value) (t26 : Value) (t27 : Value) (w : World) : Prop :=
  loopP (fun (K1 : (Value × Value) → World → Prop) (s : Value × Value) w => m11_12 R K1 parts0 s6 s.1 t25 t26 s.2 w) (l8, t27) w
def m11_4 (R : Value → World → Prop) (parts0 : Value) (s6 : Value) (l8 : Value) (w : World) : Prop :=
  nilCheckP s6 fun t23 =>
  valP Try.prog (Instr.fieldAt 45 t23 0) w fun t24 w =>
  valP Try.prog (Instr.loadAt 22 t24) w fun t25 w =>
  builtinP Try.prog Builtin.len #[22] 3 #[false] #[t25] w fun t26 w =>
  m11_11 R parts0 s6 l8 t25 t26 (Value.int IntKind.i64 0) w
def m11_3 (R : Value → World → Prop) (parts0 : Value) (s6 : Value) (w : World) : Prop :=
  valP Try.prog (Instr.makeSlice 22 (Value.int IntKind.i64 0) parts0) w fun t21 w =>
  m11_4 R parts0 s6 t21 w
def m11_25 (R : Value → World → Prop) (parts0 : Value) (s6 : Value) (t19 : Value) (w : World) : Prop :=
  condP t19
  (m11_26 R (Value.slice none 0 0) (Value.int IntKind.i64 1) w)
  (m11_3 R parts0 s6 w)
def m11_2 (R : Value → World → Prop) (parts0 : Value) (s6 : Value) (ok7 : Value) (w : World) : Prop :=
  valP Try.prog (Op.unary UnOp.not ok7) w fun t19 w =>
  m11_25 R parts0 s6 t19 w
def m11_1 (R : Value → World → Prop) (parts0 : Value) (members1 : Value) (w : World) : Prop :=
  callP Try.prog (fnV 20) #[parts0, members1] w fun t15 w =>
  valP Try.prog (Instr.extract t15 0) w fun t16 w =>
  valP Try.prog (Instr.extract t15 1) w fun t17 w =>
  m11_2 R parts0 t16 t17 w
def m11_0 (R : Value → World → Prop) (parts0 : Value) (members1 : Value) (w : World) : Prop :=
  m11_1 R parts0 members1 w
abbrev W11 := cwp Try.prog (fun i => 0)
noncomputable def k11_0 : Code := (bodyOf Try.f11)
noncomputable def k11_1 : Code := (c2 k11_0)
noncomputable def k11_2 : Code := (c2 k11_1)
noncomputable def k11_3 : Code := (c2 k11_2)
noncomputable def k11_4 : Code := (c2 k11_3)
noncomputable def k11_5 : Code := (c2 k11_4)
noncomputable def k11_6 : Code := (c2 k11_5)
noncomputable def k11_7 : Code := (c2 k11_6)
noncomputable def k11_8 : Code := (c1 (c1 (c1 k11_5)))
noncomputable def k11_9 : Code := (c2 k11_8)
noncomputable def k11_10 : Code := (c2 (c1 k11_8))
noncomputable def k11_11 : Code := (c2 (c1 k11_4))
noncomputable def k11_12 : Code := (c1 (c1 k11_11))
noncomputable def k11_13 : Code := (c2 k11_12)
noncomputable def k11_14 : Code := (c2 k11_13)
noncomputable def k11_15 : Code := (c2 k11_14)
noncomputable def k11_16 : Code := (c2 (c1 (c1 k11_14)))
noncomputable def k11_17 : Code := (c2 k11_16)
noncomputable def k11_18 : Code := (c2 k11_17)
noncomputable def k11_19 : Code := (c2 k11_18)
noncomputable def k11_20 : Code := (c1 (c1 k11_19))
noncomputable def k11_21 : Code := (c2 k11_20)
noncomputable def k11_22 : Code := (c2 k11_21)
noncomputable def k11_23 : Code := (c2 k11_22)
noncomputable def k11_24 : Code := (c2 (c1 k11_17))
noncomputable def k11_25 : Code := (c2 (c1 k11_2))
noncomputable def k11_26 : Code := (c2 (c1 k11_25))
theorem s11_26 {R : Value → World → Prop} {Q : Exit → Env → World → Prop} (hR : ∀ e w, (R (Value.tuple #[(e 4), (e 5)]) w) → Q .ret e w) (e : Env) (w : World) (h : m11_26 R (e 4) (e 5) w) : W11 k11_26 Q e w := by
  unfold m11_26 at h
  exact ret_ok (by kernel_rfl) (hR _ _ h)
theorem s11_23 {R : Value → World → Prop} {K1 : (Value × Value) → World → Prop} {K2 : (Value × Value) → World → Prop} {Q : Exit → Env → World → Prop} (hN : ∀ e w, (K2 ((e 8), (e 45)) w) → Q .normal e w) (e : Env) (w : World) (h : m11_23 R K1 K2 (e 0) (e 6) (e 8) (e 10) (e 25) (e 26) (e 27) (e 44) (e 45) w) : W11 k11_23 Q e w := by
  unfold m11_23 at h
  exact region_ok 14 (fun e w => K2 ((e 8), (e 45)) w) (by kernel_rfl) (kcast (by kernel_rfl) h) hN (by kernel_rfl)
theorem s11_22 {R : Value → World → Prop} {K1 : (Value × Value) → World → Prop} {K2 : (Value × Value) → World → Prop} {Q : Exit → Env → World → Prop} (hN : ∀ e w, (K2 ((e 8), (e 45)) w) → Q .normal e w) (e : Env) (w : World) (h : m11_22 R K1 K2 (e 0) (e 6) (e 8) (e 10) (e 25) (e 26) (e 27) (e 44) (e 45) w) : W11 k11_22 Q e w := by
  unfold m11_22 at h
  refine seq_ok' (by kernel_rfl) ?_
  have hN' : ∀ e w, (m11_23 R K1 K2 (e 0) (e 6) (e 8) (e 10) (e 25) (e 26) (e 27) (e 44) (e 45) w) → (thenE (W11 k11_23 Q) Q) .normal e w := fun e w h => then_N (s11_23 (R := R) (Q := Q) (K1 := K1) (K2 := K2) hN e w h)
  have hN := hN'
  refine block_ok 3 (by kernel_rfl) ?_
  have hN : ∀ e w, (m11_23 R K1 K2 (e 0) (e 6) (e 8) (e 10) (e 25) (e 26) (e 27) (e 44) (e 45) w) → (inBlockE 3 (thenE (W11 k11_23 Q) Q)) .normal e w := fun e w h => block_N (hN e w h)
  exact region_ok 13 (fun e w => m11_23 R K1 K2 (e 0) (e 6) (e 8) (e 10) (e 25) (e 26) (e 27) (e 44) (e 45) w) (by kernel_rfl) (kcast (by kernel_rfl) h) hN (by kernel_rfl)
theorem s11_15 {R : Value → World → Prop} {K1 : (Value × Value) → World → Prop} {Q : Exit → Env → World → Prop} (hN : ∀ e w, (K1 ((e 8), (e 27)) w) → Q .normal e w) (e : Env) (w : World) (h : m11_15 R K1 (e 0) (e 6) (e 8) (e 25) (e 26) (e 27) w) : W11 k11_15 Q e w := by
  unfold m11_15 at h
  exact region_ok 15 (fun e w => K1 ((e 8), (e 27)) w) (by kernel_rfl) (kcast (by kernel_rfl) h) hN (by kernel_rfl)
theorem s11_21 {R : Value → World → Prop} {K1 : (Value × Value) → World → Prop} {K2 : (Value × Value) → World → Prop} {Q : Exit → Env → World → Prop} (hN : ∀ e w, (K2 ((e 8), (e 45)) w) → Q .normal e w) (hX2 : ∀ e w, (m11_15 R K1 (e 0) (e 6) (e 8) (e 25) (e 26) (e 27) w) → Q (.exit 2) e w) (e : Env) (w : World) (h : m11_21 R K1 K2 (e 0) (e 6) (e 8) (e 10) (e 25) (e 26) (e 27) (e 44) (e 45) (e 46) w) : W11 k11_21 Q e w := by
  unfold m11_21 at h
  refine seq_ok' (by kernel_rfl) ?_
  have hN' : ∀ e w, (m11_22 R K1 K2 (e 0) (e 6) (e 8) (e 10) (e 25) (e 26) (e 27) (e 44) (e 45) w) → (thenE (W11 k11_22 Q) Q) .normal e w := fun e w h => then_N (s11_22 (R := R) (Q := Q) (K1 := K1) (K2 := K2) hN e w h)
  have hX2 : ∀ e w, (m11_15 R K1 (e 0) (e 6) (e 8) (e 25) (e 26) (e 27) w) → (thenE (W11 k11_22 Q) Q) (.exit 2) e w := fun e w h => then_X (hX2 e w h)
  have hN := hN'
  refine cond_ok (Operand.tmp 46) (by kernel_rfl) h (fun h1 => ?_) (fun h1 => ?_)
  · exact skip_ok (by kernel_rfl) (hN _ _ h1)
  · exact exit_ok 2 (by kernel_rfl) (hX2 _ _ h1)
theorem s11_20 {R : Value → World → Prop} {K1 : (Value × Value) → World → Prop} {K2 : (Value × Value) → World → Prop} {Q : Exit → Env → World → Prop} (hN : ∀ e w, (K2 ((e 8), (e 45)) w) → Q .normal e w) (hX2 : ∀ e w, (m11_15 R K1 (e 0) (e 6) (e 8) (e 25) (e 26) (e 27) w) → Q (.exit 2) e w) (e : Env) (w : World) (h : m11_20 R K1 K2 (e 0) (e 6) (e 8) (e 10) (e 25) (e 26) (e 27) (e 44) (e 45) w) : W11 k11_20 Q e w := by
  unfold m11_20 at h
  refine seq_ok' (by kernel_rfl) ?_
  have hN' : ∀ e w, (m11_21 R K1 K2 (e 0) (e 6) (e 8) (e 10) (e 25) (e 26) (e 27) (e 44) (e 45) (e 46) w) → (thenE (W11 k11_21 Q) Q) .normal e w := fun e w h => then_N (s11_21 (R := R) (Q := Q) (K1 := K1) (K2 := K2) hN hX2 e w h)
  have hN := hN'
  exact region_ok 12 (fun e w => m11_21 R K1 K2 (e 0) (e 6) (e 8) (e 10) (e 25) (e 26) (e 27) (e 44) (e 45) (e 46) w) (by kernel_rfl) (kcast (by kernel_rfl) h) hN (by kernel_rfl)
theorem s11_19 {R : Value → World → Prop} {K1 : (Value × Value) → World → Prop} {Q : Exit → Env → World → Prop} (hN : ∀ e w, (m11_15 R K1 (e 0) (e 6) (e 8) (e 25) (e 26) (e 27) w) → Q .normal e w) (e : Env) (w : World) (h : m11_19 R K1 (e 0) (e 6) (e 8) (e 10) (e 25) (e 26) (e 27) (e 44) (e 45) w) : W11 k11_19 Q e w := by
  unfold m11_19 at h
  refine block_ok 2 (by kernel_rfl) ?_
  have hX2 : ∀ e w, (m11_15 R K1 (e 0) (e 6) (e 8) (e 25) (e 26) (e 27) w) → (inBlockE 2 Q) (.exit 2) e w := fun e w h => inBlock_same (Q := Q) 2 (hN e w h)
  refine loop_ok' (fun (e : Env) => (e 8, e 45)) [0, 6, 10, 25, 26, 27, 44] (by kernel_rfl) (by kernel_rfl) h (fun K e' w' hk h' => ?_)
  have r0 : e' 0 = e 0 := hk 0 (by decide)
  have r6 : e' 6 = e 6 := hk 6 (by decide)
  have r10 : e' 10 = e 10 := hk 10 (by decide)
  have r25 : e' 25 = e 25 := hk 25 (by decide)
  have r26 : e' 26 = e 26 := hk 26 (by decide)
  have r27 : e' 27 = e 27 := hk 27 (by decide)
  have r44 : e' 44 = e 44 := hk 44 (by decide)
  have hX2 : ∀ e w, (m11_15 R K1 (e 0) (e 6) (e 8) (e 25) (e 26) (e 27) w) → (thenE (fun (e : Env) w => K ((e 8), (e 45)) w) (inBlockE 2 Q)) (.exit 2) e w := fun e w h => then_X (hX2 e w h)
  exact s11_20 (R := R) (Q := (thenE (fun (e : Env) w => K ((e 8), (e 45)) w) (inBlockE 2 Q))) (K1 := K1) (K2 := K) (fun _ _ h => then_N h) hX2 e' w' (by rw [r0, r6, r10, r25, r26, r27, r44]; exact h')
theorem s11_18 {R : Value → World → Prop} {K1 : (Value × Value) → World → Prop} {Q : Exit → Env → World → Prop} (hN : ∀ e w, (m11_15 R K1 (e 0) (e 6) (e 8) (e 25) (e 26) (e 27) w) → Q .normal e w) (e : Env) (w : World) (h : m11_18 R K1 (e 0) (e 6) (e 8) (e 10) (e 11) (e 25) (e 26) (e 27) w) : W11 k11_18 Q e w := by
  unfold m11_18 at h
  refine seq_ok' (by kernel_rfl) ?_
  have hN' : ∀ e w, (m11_19 R K1 (e 0) (e 6) (e 8) (e 10) (e 25) (e 26) (e 27) (e 44) (e 45) w) → (thenE (W11 k11_19 Q) Q) .normal e w := fun e w h => then_N (s11_19 (R := R) (Q := Q) (K1 := K1) hN e w h)
  have hN := hN'
  exact region_ok 11 (fun e w => m11_19 R K1 (e 0) (e 6) (e 8) (e 10) (e 25) (e 26) (e 27) (e 44) (e 45) w) (by kernel_rfl) (kcast (by kernel_rfl) h) hN (by kernel_rfl)
theorem s11_24 {R : Value → World → Prop} {K1 : (Value × Value) → World → Prop} {Q : Exit → Env → World → Prop} (hN : ∀ e w, (m11_18 R K1 (e 0) (e 6) (e 8) (e 10) (e 11) (e 25) (e 26) (e 27) w) → Q .normal e w) (e : Env) (w : World) (h : m11_24 R K1 (e 0) (e 6) (e 8) (e 10) (e 11) (e 25) (e 26) (e 27) (e 41) w) : W11 k11_24 Q e w := by
  unfold m11_24 at h
  refine cond_ok (Operand.tmp 41) (by kernel_rfl) h (fun h1 => ?_) (fun h1 => ?_)
  · exact region_ok 10 (fun e w => m11_18 R K1 (e 0) (e 6) (e 8) (e 10) (e 11) (e 25) (e 26) (e 27) w) (by kernel_rfl) (kcast (by kernel_rfl) h1) hN (by kernel_rfl)
  · exact skip_ok (by kernel_rfl) (hN _ _ h1)
theorem s11_17 {R : Value → World → Prop} {K1 : (Value × Value) → World → Prop} {Q : Exit → Env → World → Prop} (hN : ∀ e w, (m11_15 R K1 (e 0) (e 6) (e 8) (e 25) (e 26) (e 27) w) → Q .normal e w) (e : Env) (w : World) (h : m11_17 R K1 (e 0) (e 6) (e 8) (e 9) (e 10) (e 11) (e 25) (e 26) (e 27) w) : W11 k11_17 Q e w := by
  unfold m11_17 at h
  refine seq_ok' (by kernel_rfl) ?_
  have hN' : ∀ e w, (m11_18 R K1 (e 0) (e 6) (e 8) (e 10) (e 11) (e 25) (e 26) (e 27) w) → (thenE (W11 k11_18 Q) Q) .normal e w := fun e w h => then_N (s11_18 (R := R) (Q := Q) (K1 := K1) hN e w h)
  have hN := hN'
  refine seq_ok' (by kernel_rfl) ?_
  have hN' : ∀ e w, (m11_24 R K1 (e 0) (e 6) (e 8) (e 10) (e 11) (e 25) (e 26) (e 27) (e 41) w) → (thenE (W11 k11_24 (thenE (W11 k11_18 Q) Q)) (thenE (W11 k11_18 Q) Q)) .normal e w := fun e w h => then_N (s11_24 (R := R) (Q := (thenE (W11 k11_18 Q) Q)) (K1 := K1) hN e w h)
  have hN := hN'
  exact region_ok 9 (fun e w => m11_24 R K1 (e 0) (e 6) (e 8) (e 10) (e 11) (e 25) (e 26) (e 27) (e 41) w) (by kernel_rfl) (kcast (by kernel_rfl) h) hN (by kernel_rfl)
theorem s11_16 {R : Value → World → Prop} {K1 : (Value × Value) → World → Prop} {Q : Exit → Env → World → Prop} (hN : ∀ e w, (m11_15 R K1 (e 0) (e 6) (e 8) (e 25) (e 26) (e 27) w) → Q .normal e w) (e : Env) (w : World) (h : m11_16 R K1 (e 0) (e 6) (e 8) (e 9) (e 10) (e 25) (e 26) (e 27) w) : W11 k11_16 Q e w := by
  unfold m11_16 at h
  refine seq_ok' (by kernel_rfl) ?_
  have hN' : ∀ e w, (m11_17 R K1 (e 0) (e 6) (e 8) (e 9) (e 10) (e 11) (e 25) (e 26) (e 27) w) → (thenE (W11 k11_17 Q) Q) .normal e w := fun e w h => then_N (s11_17 (R := R) (Q := Q) (K1 := K1) hN e w h)
  have hN := hN'
  exact region_ok 8 (fun e w => m11_17 R K1 (e 0) (e 6) (e 8) (e 9) (e 10) (e 11) (e 25) (e 26) (e 27) w) (by kernel_rfl) (kcast (by kernel_rfl) h) hN (by kernel_rfl)
theorem s11_14 {R : Value → World → Prop} {K1 : (Value × Value) → World → Prop} {Q : Exit → Env → World → Prop} (hN : ∀ e w, (K1 ((e 8), (e 27)) w) → Q .normal e w) (e : Env) (w : World) (h : m11_14 R K1 (e 0) (e 6) (e 8) (e 25) (e 26) (e 27) w) : W11 k11_14 Q e w := by
  unfold m11_14 at h
  refine seq_ok' (by kernel_rfl) ?_
  have hN' : ∀ e w, (m11_15 R K1 (e 0) (e 6) (e 8) (e 25) (e 26) (e 27) w) → (thenE (W11 k11_15 Q) Q) .normal e w := fun e w h => then_N (s11_15 (R := R) (Q := Q) (K1 := K1) hN e w h)
  have hN := hN'
  refine block_ok 1 (by kernel_rfl) ?_
  have hN : ∀ e w, (m11_15 R K1 (e 0) (e 6) (e 8) (e 25) (e 26) (e 27) w) → (inBlockE 1 (thenE (W11 k11_15 Q) Q)) .normal e w := fun e w h => block_N (hN e w h)
  refine seq_ok' (by kernel_rfl) ?_
  have hN' : ∀ e w, (m11_16 R K1 (e 0) (e 6) (e 8) (e 9) (e 10) (e 25) (e 26) (e 27) w) → (thenE (W11 k11_16 (inBlockE 1 (thenE (W11 k11_15 Q) Q))) (inBlockE 1 (thenE (W11 k11_15 Q) Q))) .normal e w := fun e w h => then_N (s11_16 (R := R) (Q := (inBlockE 1 (thenE (W11 k11_15 Q) Q))) (K1 := K1) hN e w h)
  have hN := hN'
  exact region_ok 7 (fun e w => m11_16 R K1 (e 0) (e 6) (e 8) (e 9) (e 10) (e 25) (e 26) (e 27) w) (by kernel_rfl) (kcast (by kernel_rfl) h) hN (by kernel_rfl)
theorem s11_9 {R : Value → World → Prop} {K1 : Value → World → Prop} {Q : Exit → Env → World → Prop} (hN : ∀ e w, (K1 (e 8) w) → Q .normal e w) (e : Env) (w : World) (h : m11_9 R K1 (e 0) (e 8) w) : W11 k11_9 Q e w := by
  unfold m11_9 at h
  refine block_ok 5 (by kernel_rfl) ?_
  have hN : ∀ e w, (K1 (e 8) w) → (inBlockE 5 Q) .normal e w := fun e w h => block_N (hN e w h)
  exact region_ok 17 (fun e w => K1 (e 8) w) (by kernel_rfl) (kcast (by kernel_rfl) h) hN (by kernel_rfl)
theorem s11_7 {R : Value → World → Prop} {Q : Exit → Env → World → Prop} (hR : ∀ e w, (R (Value.tuple #[(e 4), (e 5)]) w) → Q .ret e w) (e : Env) (w : World) (h : m11_7 R (e 4) (e 5) w) : W11 k11_7 Q e w := by
  unfold m11_7 at h
  exact ret_ok (by kernel_rfl) (hR _ _ h)
theorem s11_6 {R : Value → World → Prop} {Q : Exit → Env → World → Prop} (hR : ∀ e w, (R (Value.tuple #[(e 4), (e 5)]) w) → Q .ret e w) (e : Env) (w : World) (h : m11_6 R (e 8) w) : W11 k11_6 Q e w := by
  unfold m11_6 at h
  refine seq_ok' (by kernel_rfl) ?_
  have hN' : ∀ e w, (m11_7 R (e 4) (e 5) w) → (thenE (W11 k11_7 Q) Q) .normal e w := fun e w h => then_N (s11_7 (R := R) (Q := Q) hR e w h)
  have hN := hN'
  exact region_ok 18 (fun e w => m11_7 R (e 4) (e 5) w) (by kernel_rfl) (kcast (by kernel_rfl) h) hN (by kernel_rfl)
theorem s11_10 {R : Value → World → Prop} {K1 : Value → World → Prop} {Q : Exit → Env → World → Prop} (hN : ∀ e w, (m11_9 R K1 (e 0) (e 8) w) → Q .normal e w) (hX4 : ∀ e w, (m11_6 R (e 8) w) → Q (.exit 4) e w) (e : Env) (w : World) (h : m11_10 R K1 (e 0) (e 8) (e 56) w) : W11 k11_10 Q e w := by
  unfold m11_10 at h
  refine cond_ok (Operand.tmp 56) (by kernel_rfl) h (fun h1 => ?_) (fun h1 => ?_)
  · exact skip_ok (by kernel_rfl) (hN _ _ h1)
  · exact exit_ok 4 (by kernel_rfl) (hX4 _ _ h1)
theorem s11_8 {R : Value → World → Prop} {K1 : Value → World → Prop} {Q : Exit → Env → World → Prop} (hN : ∀ e w, (K1 (e 8) w) → Q .normal e w) (hX4 : ∀ e w, (m11_6 R (e 8) w) → Q (.exit 4) e w) (e : Env) (w : World) (h : m11_8 R K1 (e 0) (e 8) w) : W11 k11_8 Q e w := by
  unfold m11_8 at h
  refine seq_ok' (by kernel_rfl) ?_
  have hN' : ∀ e w, (m11_9 R K1 (e 0) (e 8) w) → (thenE (W11 k11_9 Q) Q) .normal e w := fun e w h => then_N (s11_9 (R := R) (Q := Q) (K1 := K1) hN e w h)
  have hX4 : ∀ e w, (m11_6 R (e 8) w) → (thenE (W11 k11_9 Q) Q) (.exit 4) e w := fun e w h => then_X (hX4 e w h)
  have hN := hN'
  refine seq_ok' (by kernel_rfl) ?_
  have hN' : ∀ e w, (m11_10 R K1 (e 0) (e 8) (e 56) w) → (thenE (W11 k11_10 (thenE (W11 k11_9 Q) Q)) (thenE (W11 k11_9 Q) Q)) .normal e w := fun e w h => then_N (s11_10 (R := R) (Q := (thenE (W11 k11_9 Q) Q)) (K1 := K1) hN hX4 e w h)
  have hN := hN'
  exact region_ok 16 (fun e w => m11_10 R K1 (e 0) (e 8) (e 56) w) (by kernel_rfl) (kcast (by kernel_rfl) h) hN (by kernel_rfl)
theorem s11_5 {R : Value → World → Prop} {Q : Exit → Env → World → Prop} (hR : ∀ e w, (R (Value.tuple #[(e 4), (e 5)]) w) → Q .ret e w) (e : Env) (w : World) (h : m11_5 R (e 0) (e 8) w) : W11 k11_5 Q e w := by
  unfold m11_5 at h
  refine seq_ok' (by kernel_rfl) ?_
  have hN' : ∀ e w, (m11_6 R (e 8) w) → (thenE (W11 k11_6 Q) Q) .normal e w := fun e w h => then_N (s11_6 (R := R) (Q := Q) hR e w h)
  have hN := hN'
  refine block_ok 4 (by kernel_rfl) ?_
  have hX4 : ∀ e w, (m11_6 R (e 8) w) → (inBlockE 4 (thenE (W11 k11_6 Q) Q)) (.exit 4) e w := fun e w h => inBlock_same (Q := (thenE (W11 k11_6 Q) Q)) 4 (hN e w h)
  refine loop_ok' (fun (e : Env) => e 8) [0] (by kernel_rfl) (by kernel_rfl) h (fun K e' w' hk h' => ?_)
  have r0 : e' 0 = e 0 := hk 0 (by decide)
  have hX4 : ∀ e w, (m11_6 R (e 8) w) → (thenE (fun (e : Env) w => K (e 8) w) (inBlockE 4 (thenE (W11 k11_6 Q) Q))) (.exit 4) e w := fun e w h => then_X (hX4 e w h)
  exact s11_8 (R := R) (Q := (thenE (fun (e : Env) w => K (e 8) w) (inBlockE 4 (thenE (W11 k11_6 Q) Q)))) (K1 := K) (fun _ _ h => then_N h) hX4 e' w' (by rw [r0]; exact h')
theorem s11_13 {R : Value → World → Prop} {K1 : (Value × Value) → World → Prop} {Q : Exit → Env → World → Prop} (hN : ∀ e w, (K1 ((e 8), (e 27)) w) → Q .normal e w) (hX0 : ∀ e w, (m11_5 R (e 0) (e 8) w) → Q (.exit 0) e w) (e : Env) (w : World) (h : m11_13 R K1 (e 0) (e 6) (e 8) (e 25) (e 26) (e 27) (e 28) w) : W11 k11_13 Q e w := by
  unfold m11_13 at h
  refine seq_ok' (by kernel_rfl) ?_
  have hN' : ∀ e w, (m11_14 R K1 (e 0) (e 6) (e 8) (e 25) (e 26) (e 27) w) → (thenE (W11 k11_14 Q) Q) .normal e w := fun e w h => then_N (s11_14 (R := R) (Q := Q) (K1 := K1) hN e w h)
  have hX0 : ∀ e w, (m11_5 R (e 0) (e 8) w) → (thenE (W11 k11_14 Q) Q) (.exit 0) e w := fun e w h => then_X (hX0 e w h)
  have hN := hN'
  refine cond_ok (Operand.tmp 28) (by kernel_rfl) h (fun h1 => ?_) (fun h1 => ?_)
  · exact skip_ok (by kernel_rfl) (hN _ _ h1)
  · exact exit_ok 0 (by kernel_rfl) (hX0 _ _ h1)
theorem s11_12 {R : Value → World → Prop} {K1 : (Value × Value) → World → Prop} {Q : Exit → Env → World → Prop} (hN : ∀ e w, (K1 ((e 8), (e 27)) w) → Q .normal e w) (hX0 : ∀ e w, (m11_5 R (e 0) (e 8) w) → Q (.exit 0) e w) (e : Env) (w : World) (h : m11_12 R K1 (e 0) (e 6) (e 8) (e 25) (e 26) (e 27) w) : W11 k11_12 Q e w := by
  unfold m11_12 at h
  refine seq_ok' (by kernel_rfl) ?_
  have hN' : ∀ e w, (m11_13 R K1 (e 0) (e 6) (e 8) (e 25) (e 26) (e 27) (e 28) w) → (thenE (W11 k11_13 Q) Q) .normal e w := fun e w h => then_N (s11_13 (R := R) (Q := Q) (K1 := K1) hN hX0 e w h)
  have hN := hN'
  exact region_ok 6 (fun e w => m11_13 R K1 (e 0) (e 6) (e 8) (e 25) (e 26) (e 27) (e 28) w) (by kernel_rfl) (kcast (by kernel_rfl) h) hN (by kernel_rfl)
theorem s11_11 {R : Value → World → Prop} {Q : Exit → Env → World → Prop} (hN : ∀ e w, (m11_5 R (e 0) (e 8) w) → Q .normal e w) (e : Env) (w : World) (h : m11_11 R (e 0) (e 6) (e 8) (e 25) (e 26) (e 27) w) : W11 k11_11 Q e w := by
  unfold m11_11 at h
  refine block_ok 0 (by kernel_rfl) ?_
  have hX0 : ∀ e w, (m11_5 R (e 0) (e 8) w) → (inBlockE 0 Q) (.exit 0) e w := fun e w h => inBlock_same (Q := Q) 0 (hN e w h)
  refine loop_ok' (fun (e : Env) => (e 8, e 27)) [0, 6, 25, 26] (by kernel_rfl) (by kernel_rfl) h (fun K e' w' hk h' => ?_)
  have r0 : e' 0 = e 0 := hk 0 (by decide)
  have r6 : e' 6 = e 6 := hk 6 (by decide)
  have r25 : e' 25 = e 25 := hk 25 (by decide)
  have r26 : e' 26 = e 26 := hk 26 (by decide)
  have hX0 : ∀ e w, (m11_5 R (e 0) (e 8) w) → (thenE (fun (e : Env) w => K ((e 8), (e 27)) w) (inBlockE 0 Q)) (.exit 0) e w := fun e w h => then_X (hX0 e w h)
  exact s11_12 (R := R) (Q := (thenE (fun (e : Env) w => K ((e 8), (e 27)) w) (inBlockE 0 Q))) (K1 := K) (fun _ _ h => then_N h) hX0 e' w' (by rw [r0, r6, r25, r26]; exact h')
theorem s11_4 {R : Value → World → Prop} {Q : Exit → Env → World → Prop} (hR : ∀ e w, (R (Value.tuple #[(e 4), (e 5)]) w) → Q .ret e w) (e : Env) (w : World) (h : m11_4 R (e 0) (e 6) (e 8) w) : W11 k11_4 Q e w := by
  unfold m11_4 at h
  refine seq_ok' (by kernel_rfl) ?_
  have hN' : ∀ e w, (m11_5 R (e 0) (e 8) w) → (thenE (W11 k11_5 Q) Q) .normal e w := fun e w h => then_N (s11_5 (R := R) (Q := Q) hR e w h)
  have hN := hN'
  refine seq_ok' (by kernel_rfl) ?_
  have hN' : ∀ e w, (m11_11 R (e 0) (e 6) (e 8) (e 25) (e 26) (e 27) w) → (thenE (W11 k11_11 (thenE (W11 k11_5 Q) Q)) (thenE (W11 k11_5 Q) Q)) .normal e w := fun e w h => then_N (s11_11 (R := R) (Q := (thenE (W11 k11_5 Q) Q)) hN e w h)
  have hN := hN'
  exact region_ok 5 (fun e w => m11_11 R (e 0) (e 6) (e 8) (e 25) (e 26) (e 27) w) (by kernel_rfl) (kcast (by kernel_rfl) h) hN (by kernel_rfl)
theorem s11_3 {R : Value → World → Prop} {Q : Exit → Env → World → Prop} (hR : ∀ e w, (R (Value.tuple #[(e 4), (e 5)]) w) → Q .ret e w) (e : Env) (w : World) (h : m11_3 R (e 0) (e 6) w) : W11 k11_3 Q e w := by
  unfold m11_3 at h
  refine seq_ok' (by kernel_rfl) ?_
  have hN' : ∀ e w, (m11_4 R (e 0) (e 6) (e 8) w) → (thenE (W11 k11_4 Q) Q) .normal e w := fun e w h => then_N (s11_4 (R := R) (Q := Q) hR e w h)
  have hN := hN'
  exact region_ok 4 (fun e w => m11_4 R (e 0) (e 6) (e 8) w) (by kernel_rfl) (kcast (by kernel_rfl) h) hN (by kernel_rfl)
theorem s11_25 {R : Value → World → Prop} {Q : Exit → Env → World → Prop} (hN : ∀ e w, (m11_3 R (e 0) (e 6) w) → Q .normal e w) (hR : ∀ e w, (R (Value.tuple #[(e 4), (e 5)]) w) → Q .ret e w) (e : Env) (w : World) (h : m11_25 R (e 0) (e 6) (e 19) w) : W11 k11_25 Q e w := by
  unfold m11_25 at h
  refine cond_ok (Operand.tmp 19) (by kernel_rfl) h (fun h1 => ?_) (fun h1 => ?_)
  · refine seq_ok' (by kernel_rfl) ?_
    have hN' : ∀ e w, (m11_26 R (e 4) (e 5) w) → (thenE (W11 k11_26 Q) Q) .normal e w := fun e w h => then_N (s11_26 (R := R) (Q := Q) hR e w h)
    have hN := hN'
    exact region_ok 3 (fun e w => m11_26 R (e 4) (e 5) w) (by kernel_rfl) (kcast (by kernel_rfl) h1) hN (by kernel_rfl)
  · exact skip_ok (by kernel_rfl) (hN _ _ h1)
theorem s11_2 {R : Value → World → Prop} {Q : Exit → Env → World → Prop} (hR : ∀ e w, (R (Value.tuple #[(e 4), (e 5)]) w) → Q .ret e w) (e : Env) (w : World) (h : m11_2 R (e 0) (e 6) (e 7) w) : W11 k11_2 Q e w := by
  unfold m11_2 at h
  refine seq_ok' (by kernel_rfl) ?_
  have hN' : ∀ e w, (m11_3 R (e 0) (e 6) w) → (thenE (W11 k11_3 Q) Q) .normal e w := fun e w h => then_N (s11_3 (R := R) (Q := Q) hR e w h)
  have hR : ∀ e w, (R (Value.tuple #[(e 4), (e 5)]) w) → (thenE (W11 k11_3 Q) Q) .ret e w := fun e w h => then_R (hR e w h)
  have hN := hN'
  refine seq_ok' (by kernel_rfl) ?_
  have hN' : ∀ e w, (m11_25 R (e 0) (e 6) (e 19) w) → (thenE (W11 k11_25 (thenE (W11 k11_3 Q) Q)) (thenE (W11 k11_3 Q) Q)) .normal e w := fun e w h => then_N (s11_25 (R := R) (Q := (thenE (W11 k11_3 Q) Q)) hN hR e w h)
  have hN := hN'
  exact region_ok 2 (fun e w => m11_25 R (e 0) (e 6) (e 19) w) (by kernel_rfl) (kcast (by kernel_rfl) h) hN (by kernel_rfl)
theorem s11_1 {R : Value → World → Prop} {Q : Exit → Env → World → Prop} (hR : ∀ e w, (R (Value.tuple #[(e 4), (e 5)]) w) → Q .ret e w) (e : Env) (w : World) (h : m11_1 R (e 0) (e 1) w) : W11 k11_1 Q e w := by
  unfold m11_1 at h
  refine seq_ok' (by kernel_rfl) ?_
  have hN' : ∀ e w, (m11_2 R (e 0) (e 6) (e 7) w) → (thenE (W11 k11_2 Q) Q) .normal e w := fun e w h => then_N (s11_2 (R := R) (Q := Q) hR e w h)
  have hN := hN'
  exact region_ok 1 (fun e w => m11_2 R (e 0) (e 6) (e 7) w) (by kernel_rfl) (kcast (by kernel_rfl) h) hN (by kernel_rfl)
theorem s11_0 {R : Value → World → Prop} {Q : Exit → Env → World → Prop} (hR : ∀ e w, (R (Value.tuple #[(e 4), (e 5)]) w) → Q .ret e w) (e : Env) (w : World) (h : m11_0 R (e 0) (e 1) w) : W11 k11_0 Q e w := by
  unfold m11_0 at h
  refine seq_ok' (by kernel_rfl) ?_
  have hN' : ∀ e w, (m11_1 R (e 0) (e 1) w) → (thenE (W11 k11_1 Q) Q) .normal e w := fun e w h => then_N (s11_1 (R := R) (Q := Q) hR e w h)
  have hN := hN'
  exact region_ok 0 (fun e w => m11_1 R (e 0) (e 1) w) (by kernel_rfl) (kcast (by kernel_rfl) h) hN (by kernel_rfl)
abbrev m11 (R : Value → World → Prop) (parts0 : Value) (members1 : Value) (w : World) : Prop := m11_0 R parts0 members1 w
theorem s11 (parts0 : Value) (members1 : Value) {R : Value → World → Prop} {w : World} (h : m11 R parts0 members1 w) :
    Calls Try.prog 11 #[parts0, members1] w fun e w' => ∃ v, e = .returned v ∧ R v w' :=
  calls_of_cwp (st := (fun i => 0)) (c := k11_0) (by kernel_rfl) Try.func11 (by kernel_rfl) (Nat.le_of_ble_eq_true (by kernel_rfl)) (by kernel_rfl)
    (s11_0 (R := R) (Q := endE Try.prog Try.f11 R) (fun e w h => kcast (by kernel_rfl) h) (argsE #[parts0, members1]) w (kcast (by kernel_rfl) h))
/-! ### headgate/assign.Sticky -/
def m15_27 (R : Value → World → Prop) (t6 : Value) (t7 : Value) (w : World) : Prop :=
  R (Value.tuple #[t6, t7]) w
def m15_25 (R : Value → World → Prop) (t6 : Value) (t7 : Value) (w : World) : Prop :=
  R (Value.tuple #[t6, t7]) w
def m15_21 (R : Value → World → Prop) (K1 : Value → World → Prop) (old2 : Value) (s8 : Value) (l10 : Value) (t33 : Value) (t34 : Value) (w : World) : Prop :=
  valP Try.prog (binS BinOp.add 3 (Operand.tmp 34) (Operand.const (Value.int IntKind.i64 1)) t34 (Value.int IntKind.i64 1)) w fun t50 w =>
  K1 t50 w
def m15_23 (R : Value → World → Prop) (K1 : Value → World → Prop) (old2 : Value) (s8 : Value) (l10 : Value) (p11 : Value) (t33 : Value) (t34 : Value) (t42 : Value) (w : World) : Prop :=
  condP t42
  (valP Try.prog (Instr.indexAt 22 old2 p11) w fun t47 w =>
  valP Try.prog (Instr.loadAt 3 t47) w fun t48 w =>
  valP Try.prog (Instr.indexAt 22 l10 p11) w fun t49 w =>
  unitP Try.prog (Instr.storeAt 3 t49 t48) w fun _ w =>
  m15_21 R K1 old2 s8 l10 t33 t34 w)
  (m15_21 R K1 old2 s8 l10 t33 t34 w)
def m15_22 (R : Value → World → Prop) (K1 : Value → World → Prop) (old2 : Value) (s8 : Value) (l10 : Value) (p11 : Value) (t33 : Value) (t34 : Value) (w : World) : Prop :=
  valP Try.prog (Instr.indexAt 22 old2 p11) w fun t40 w =>
  valP Try.prog (Instr.loadAt 3 t40) w fun t41 w =>
  callP Try.prog (fnV 21) #[s8, t41] w fun t42 w =>
  m15_23 R K1 old2 s8 l10 p11 t33 t34 t42 w
def m15_20 (R : Value → World → Prop) (K1 : Value → World → Prop) (old2 : Value) (s8 : Value) (l10 : Value) (t33 : Value) (t34 : Value) (w : World) : Prop :=
  m15_22 R K1 old2 s8 l10 t34 t33 t34 w
def m15_13 (R : Value → World → Prop) (K1 : Value → World → Prop) (s8 : Value) (l10 : Value) (t52 : Value) (t53 : Value) (w : World) : Prop :=
  valP Try.prog (binS BinOp.add 3 (Operand.tmp 53) (Operand.const (Value.int IntKind.i64 1)) t53 (Value.int IntKind.i64 1)) w fun t76 w =>
  K1 t76 w
def m15_16 (R : Value → World → Prop) (K1 : Value → World → Prop) (s8 : Value) (l10 : Value) (p12 : Value) (t52 : Value) (t53 : Value) (w : World) : Prop :=
  anyDraw w fun w =>
  nilCheckP s8 fun t67 =>
  valS Try.prog (Instr.fieldAt 45 t67 1) w fun t68 =>
  valS Try.prog (Instr.loadAt 43 t68) w fun t69 =>
  valS Try.prog (Instr.indexAt 22 l10 p12) w fun t72 =>
  valS Try.prog (Instr.loadAt 3 t72) w fun t73 =>
  valS Try.prog (Instr.lookup 43 t69 t73 false) w fun t74 =>
  valS Try.prog (binS BinOp.add 3 (Operand.tmp 74) (Operand.const (Value.int IntKind.i64 1)) t74 (Value.int IntKind.i64 1)) w fun t75 =>
  unitP Try.prog (Instr.mapUpdate 43 t69 t73 t75) w fun _ w =>
  m15_13 R K1 s8 l10 t52 t53 w
def m15_15 (R : Value → World → Prop) (K1 : Value → World → Prop) (s8 : Value) (l10 : Value) (p12 : Value) (t52 : Value) (t53 : Value) (t60 : Value) (w : World) : Prop :=
  condP t60
  (callP Try.prog (fnV 22) #[s8] w fun t64 w =>
  valP Try.prog (Instr.indexAt 22 l10 p12) w fun t65 w =>
  unitP Try.prog (Instr.storeAt 3 t65 t64) w fun _ w =>
  m15_16 R K1 s8 l10 p12 t52 t53 w)
  (m15_13 R K1 s8 l10 t52 t53 w)
def m15_14 (R : Value → World → Prop) (K1 : Value → World → Prop) (s8 : Value) (l10 : Value) (p12 : Value) (t52 : Value) (t53 : Value) (w : World) : Prop :=
  valP Try.prog (Instr.indexAt 22 l10 p12) w fun t58 w =>
  valP Try.prog (Instr.loadAt 3 t58) w fun t59 w =>
  valP Try.prog (binS BinOp.eql 3 (Operand.tmp 59) (Operand.const (Value.int IntKind.i64 0)) t59 (Value.int IntKind.i64 0)) w fun t60 w =>
  m15_15 R K1 s8 l10 p12 t52 t53 t60 w
def m15_12 (R : Value → World → Prop) (K1 : Value → World → Prop) (s8 : Value) (l10 : Value) (t52 : Value) (t53 : Value) (w : World) : Prop :=
  m15_14 R K1 s8 l10 t53 t52 t53 w
def m15_8 (R : Value → World → Prop) (t6 : Value) (t7 : Value) (w : World) : Prop :=
  R (Value.tuple #[t6, t7]) w
def m15_7 (R : Value → World → Prop) (l10 : Value) (w : World) : Prop :=
  m15_8 R l10 (Value.int IntKind.i64 0) w
def m15_11 (R : Value → World → Prop) (K1 : Value → World → Prop) (s8 : Value) (l10 : Value) (t52 : Value) (t53 : Value) (t54 : Value) (w : World) : Prop :=
  condP t54
  (m15_12 R K1 s8 l10 t52 t53 w)
  (m15_7 R l10 w)
def m15_10 (R : Value → World → Prop) (K1 : Value → World → Prop) (s8 : Value) (l10 : Value) (t52 : Value) (t53 : Value) (w : World) : Prop :=
  valP Try.prog (binS BinOp.lss 3 (Operand.tmp 53) (Operand.tmp 52) t53 t52) w fun t54 w =>
  m15_11 R K1 s8 l10 t52 t53 t54 w
def m15_9 (R : Value → World → Prop) (s8 : Value) (l10 : Value) (t52 : Value) (t53 : Value) (w : World) : Prop :=
  loopP (fun (K1 : Value → World → Prop) (s : Value) w => m15_10 R K1 s8 l10 t52 s w) t53 w
def m15_6 (R : Value → World → Prop) (s8 : Value) (l10 : Value) (w : World) : Prop :=
  builtinP Try.prog Builtin.len #[22] 3 #[false] #[l10] w fun t52 w =>
  m15_9 R s8 l10 t52 (Value.int IntKind.i64 0) w
def m15_19 (R : Value → World → Prop) (K1 : Value → World → Prop) (old2 : Value) (s8 : Value) (l10 : Value) (t33 : Value) (t34 : Value) (t35 : Value) (w : World) : Prop :=
  condP t35
  (m15_20 R K1 old2 s8 l10 t33 t34 w)
  (m15_6 R s8 l10 w)
def m15_18 (R : Value → World → Prop) (K1 : Value → World → Prop) (old2 : Value) (s8 : Value) (l10 : Value) (t33 : Value) (t34 : Value) (w : World) : Prop :=
  valP Try.prog (binS BinOp.lss 3 (Operand.tmp 34) (Operand.tmp 33) t34 t33) w fun t35 w =>
  m15_19 R K1 old2 s8 l10 t33 t34 t35 w
def m15_17 (R : Value → World → Prop) (old2 : Value) (s8 : Value) (l10 : Value) (t33 : Value) (t34 : Value) (w : World) : Prop :=
  loopP (fun (K1 : Value → World → Prop) (s : Value) w => m15_18 R K1 old2 s8 l10 t33 s w) t34 w
def m15_5 (R : Value → World → Prop) (parts0 : Value) (old2 : Value) (s8 : Value) (l10 : Value) (w : World) : Prop :=
  builtinP Try.prog Builtin.len #[22] 3 #[false] #[old2] w fun t32 w =>
  builtinP Try.prog Builtin.min #[3, 3] 3 #[false, false] #[parts0, t32] w fun t33 w =>
  m15_17 R old2 s8 l10 t33 (Value.int IntKind.i64 0) w
def m15_24 (R : Value → World → Prop) (parts0 : Value) (old2 : Value) (s8 : Value) (l10 : Value) (t28 : Value) (w : World) : Prop :=
  condP t28
  (m15_25 R l10 (Value.int IntKind.i64 0) w)
  (m15_5 R parts0 old2 s8 l10 w)
def m15_4 (R : Value → World → Prop) (parts0 : Value) (old2 : Value) (s8 : Value) (l10 : Value) (w : World) : Prop :=
  nilCheckP s8 fun t24 =>
  valP Try.prog (Instr.fieldAt 45 t24 0) w fun t25 w =>
  valP Try.prog (Instr.loadAt 22 t25) w fun t26 w =>
  builtinP Try.prog Builtin.len #[22] 3 #[false] #[t26] w fun t27 w =>
  valP Try.prog (binS BinOp.eql 3 (Operand.tmp 27) (Operand.const (Value.int IntKind.i64 0)) t27 (Value.int IntKind.i64 0)) w fun t28 w =>
  m15_24 R parts0 old2 s8 l10 t28 w
def m15_3 (R : Value → World → Prop) (parts0 : Value) (old2 : Value) (s8 : Value) (w : World) : Prop :=
  valP Try.prog (Instr.makeSlice 22 parts0 parts0) w fun t22 w =>
  m15_4 R parts0 old2 s8 t22 w
def m15_26 (R : Value → World → Prop) (parts0 : Value) (old2 : Value) (s8 : Value) (t20 : Value) (w : World) : Prop :=
  condP t20
  (m15_27 R (Value.slice none 0 0) (Value.int IntKind.i64 1) w)
  (m15_3 R parts0 old2 s8 w)
def m15_2 (R : Value → World → Prop) (parts0 : Value) (old2 : Value) (s8 : Value) (ok9 : Value) (w : World) : Prop :=
  valP Try.prog (Op.unary UnOp.not ok9) w fun t20 w =>
  m15_26 R parts0 old2 s8 t20 w
def m15_1 (R : Value → World → Prop) (parts0 : Value) (members1 : Value) (old2 : Value) (w : World) : Prop :=
  callP Try.prog (fnV 20) #[parts0, members1] w fun t16 w =>
  valP Try.prog (Instr.extract t16 0) w fun t17 w =>
  valP Try.prog (Instr.extract t16 1) w fun t18 w =>
  m15_2 R parts0 old2 t17 t18 w
def m15_0 (R : Value → World → Prop) (parts0 : Value) (members1 : Value) (old2 : Value) (w : World) : Prop :=
  m15_1 R parts0 members1 old2 w
abbrev W15 := cwp Try.prog (fun i => cond (Nat.beq i 18) 12 (0))
noncomputable def k15_0 : Code := (bodyOf Try.f15)
noncomputable def k15_1 : Code := (c2 k15_0)
noncomputable def k15_2 : Code := (c2 k15_1)
noncomputable def k15_3 : Code := (c2 k15_2)
noncomputable def k15_4 : Code := (c2 k15_3)
noncomputable def k15_5 : Code := (c2 k15_4)
noncomputable def k15_6 : Code := (c2 k15_5)
noncomputable def k15_7 : Code := (c2 k15_6)
noncomputable def k15_8 : Code := (c2 k15_7)
noncomputable def k15_9 : Code := (c2 (c1 k15_6))
noncomputable def k15_10 : Code := (c1 (c1 k15_9))
noncomputable def k15_11 : Code := (c2 k15_10)
noncomputable def k15_12 : Code := (c2 k15_11)
noncomputable def k15_13 : Code := (c2 k15_12)
noncomputable def k15_14 : Code := (c2 (c1 (c1 k15_12)))
noncomputable def k15_15 : Code := (c2 k15_14)
noncomputable def k15_16 : Code := (c2 (c1 k15_15))
noncomputable def k15_17 : Code := (c2 (c1 k15_5))
noncomputable def k15_18 : Code := (c1 (c1 k15_17))
noncomputable def k15_19 : Code := (c2 k15_18)
noncomputable def k15_20 : Code := (c2 k15_19)
noncomputable def k15_21 : Code := (c2 k15_20)
noncomputable def k15_22 : Code := (c2 (c1 (c1 k15_20)))
noncomputable def k15_23 : Code := (c2 k15_22)
noncomputable def k15_24 : Code := (c2 (c1 k15_4))
noncomputable def k15_25 : Code := (c2 (c1 k15_24))
noncomputable def k15_26 : Code := (c2 (c1 k15_2))
noncomputable def k15_27 : Code := (c2 (c1 k15_26))
theorem s15_27 {R : Value → World → Prop} {Q : Exit → Env → World → Prop} (hR : ∀ e w, (R (Value.tuple #[(e 6), (e 7)]) w) → Q .ret e w) (e : Env) (w : World) (h : m15_27 R (e 6) (e 7) w) : W15 k15_27 Q e w := by
  unfold m15_27 at h
  exact ret_ok (by kernel_rfl) (hR _ _ h)
theorem s15_25 {R : Value → World → Prop} {Q : Exit → Env → World → Prop} (hR : ∀ e w, (R (Value.tuple #[(e 6), (e 7)]) w) → Q .ret e w) (e : Env) (w : World) (h : m15_25 R (e 6) (e 7) w) : W15 k15_25 Q e w := by
  unfold m15_25 at h
  exact ret_ok (by kernel_rfl) (hR _ _ h)
theorem s15_21 {R : Value → World → Prop} {K1 : Value → World → Prop} {Q : Exit → Env → World → Prop} (hN : ∀ e w, (K1 (e 34) w) → Q .normal e w) (e : Env) (w : World) (h : m15_21 R K1 (e 2) (e 8) (e 10) (e 33) (e 34) w) : W15 k15_21 Q e w := by
  unfold m15_21 at h
  exact region_ok 12 (fun e w => K1 (e 34) w) (by kernel_rfl) (kcast (by kernel_rfl) h) hN (by kernel_rfl)
theorem s15_23 {R : Value → World → Prop} {K1 : Value → World → Prop} {Q : Exit → Env → World → Prop} (hN : ∀ e w, (m15_21 R K1 (e 2) (e 8) (e 10) (e 33) (e 34) w) → Q .normal e w) (e : Env) (w : World) (h : m15_23 R K1 (e 2) (e 8) (e 10) (e 11) (e 33) (e 34) (e 42) w) : W15 k15_23 Q e w := by
  unfold m15_23 at h
  refine cond_ok (Operand.tmp 42) (by kernel_rfl) h (fun h1 => ?_) (fun h1 => ?_)
  · exact region_ok 11 (fun e w => m15_21 R K1 (e 2) (e 8) (e 10) (e 33) (e 34) w) (by kernel_rfl) (kcast (by kernel_rfl) h1) hN (by kernel_rfl)
  · exact skip_ok (by kernel_rfl) (hN _ _ h1)
theorem s15_22 {R : Value → World → Prop} {K1 : Value → World → Prop} {Q : Exit → Env → World → Prop} (hN : ∀ e w, (m15_21 R K1 (e 2) (e 8) (e 10) (e 33) (e 34) w) → Q .normal e w) (e : Env) (w : World) (h : m15_22 R K1 (e 2) (e 8) (e 10) (e 11) (e 33) (e 34) w) : W15 k15_22 Q e w := by
  unfold m15_22 at h
  refine seq_ok' (by kernel_rfl) ?_
  have hN' : ∀ e w, (m15_23 R K1 (e 2) (e 8) (e 10) (e 11) (e 33) (e 34) (e 42) w) → (thenE (W15 k15_23 Q) Q) .normal e w := fun e w h => then_N (s15_23 (R := R) (Q := Q) (K1 := K1) hN e w h)
  have hN := hN'
  exact region_ok 10 (fun e w => m15_23 R K1 (e 2) (e 8) (e 10) (e 11) (e 33) (e 34) (e 42) w) (by kernel_rfl) (kcast (by kernel_rfl) h) hN (by kernel_rfl)
theorem s15_20 {R : Value → World → Prop} {K1 : Value → World → Prop} {Q : Exit → Env → World → Prop} (hN : ∀ e w, (K1 (e 34) w) → Q .normal e w) (e : Env) (w : World) (h : m15_20 R K1 (e 2) (e 8) (e 10) (e 33) (e 34) w) : W15 k15_20 Q e w := by
  unfold m15_20 at h
  refine seq_ok' (by kernel_rfl) ?_
  have hN' : ∀ e w, (m15_21 R K1 (e 2) (e 8) (e 10) (e 33) (e 34) w) → (thenE (W15 k15_21 Q) Q) .normal e w := fun e w h => then_N (s15_21 (R := R) (Q := Q) (K1 := K1) hN e w h)
  have hN := hN'
  refine block_ok 1 (by kernel_rfl) ?_
  have hN : ∀ e w, (m15_21 R K1 (e 2) (e 8) (e 10) (e 33) (e 34) w) → (inBlockE 1 (thenE (W15 k15_21 Q) Q)) .normal e w := fun e w h => block_N (hN e w h)
  refine seq_ok' (by kernel_rfl) ?_
  have hN' : ∀ e w, (m15_22 R K1 (e 2) (e 8) (e 10) (e 11) (e 33) (e 34) w) → (thenE (W15 k15_22 (inBlockE 1 (thenE (W15 k15_21 Q) Q))) (inBlockE 1 (thenE (W15 k15_21 Q) Q))) .normal e w := fun e w h => then_N (s15_22 (R := R) (Q := (inBlockE 1 (thenE (W15 k15_21 Q) Q))) (K1 := K1) hN e w h)
  have hN := hN'
  exact region_ok 9 (fun e w => m15_22 R K1 (e 2) (e 8) (e 10) (e 11) (e 33) (e 34) w) (by kernel_rfl) (kcast (by kernel_rfl) h) hN (by kernel_rfl)
theorem s15_13 {R : Value → World → Prop} {K1 : Value → World → Prop} {Q : Exit → Env → World → Prop} (hN : ∀ e w, (K1 (e 53) w) → Q .normal e w) (e : Env) (w : World) (h : m15_13 R K1 (e 8) (e 10) (e 52) (e 53) w) : W15 k15_13 Q e w := by
  unfold m15_13 at h
  exact region_ok 19 (fun e w => K1 (e 53) w) (by kernel_rfl) (kcast (by kernel_rfl) h) hN (by kernel_rfl)
theorem s15_16 {R : Value → World → Prop} {K1 : Value → World → Prop} {Q : Exit → Env → World → Prop} (hN : ∀ e w, (m15_13 R K1 (e 8) (e 10) (e 52) (e 53) w) → Q .normal e w) (e : Env) (w : World) (h : m15_16 R K1 (e 8) (e 10) (e 12) (e 52) (e 53) w) : W15 k15_16 Q e w := by
  unfold m15_16 at h
  exact tail_ok 18 10 (fun e w => m15_13 R K1 (e 8) (e 10) (e 52) (e 53) w) (by kernel_rfl) (by kernel_rfl) (by kernel_rfl) (kcast (by kernel_rfl) h) hN (by kernel_rfl)
theorem s15_15 {R : Value → World → Prop} {K1 : Value → World → Prop} {Q : Exit → Env → World → Prop} (hN : ∀ e w, (m15_13 R K1 (e 8) (e 10) (e 52) (e 53) w) → Q .normal e w) (e : Env) (w : World) (h : m15_15 R K1 (e 8) (e 10) (e 12) (e 52) (e 53) (e 60) w) : W15 k15_15 Q e w := by
  unfold m15_15 at h
  refine cond_ok (Operand.tmp 60) (by kernel_rfl) h (fun h1 => ?_) (fun h1 => ?_)
  · refine seq_ok' (by kernel_rfl) ?_
    have hN' : ∀ e w, (m15_16 R K1 (e 8) (e 10) (e 12) (e 52) (e 53) w) → (thenE (W15 k15_16 Q) Q) .normal e w := fun e w h => then_N (s15_16 (R := R) (Q := Q) (K1 := K1) hN e w h)
    have hN := hN'
    exact region_ok 17 (fun e w => m15_16 R K1 (e 8) (e 10) (e 12) (e 52) (e 53) w) (by kernel_rfl) (kcast (by kernel_rfl) h1) hN (by kernel_rfl)
  · exact skip_ok (by kernel_rfl) (hN _ _ h1)
theorem s15_14 {R : Value → World → Prop} {K1 : Value → World → Prop} {Q : Exit → Env → World → Prop} (hN : ∀ e w, (m15_13 R K1 (e 8) (e 10) (e 52) (e 53) w) → Q .normal e w) (e : Env) (w : World) (h : m15_14 R K1 (e 8) (e 10) (e 12) (e 52) (e 53) w) : W15 k15_14 Q e w := by
  unfold m15_14 at h
  refine seq_ok' (by kernel_rfl) ?_
  have hN' : ∀ e w, (m15_15 R K1 (e 8) (e 10) (e 12) (e 52) (e 53) (e 60) w) → (thenE (W15 k15_15 Q) Q) .normal e w := fun e w h => then_N (s15_15 (R := R) (Q := Q) (K1 := K1) hN e w h)
  have hN := hN'
  exact region_ok 16 (fun e w => m15_15 R K1 (e 8) (e 10) (e 12) (e 52) (e 53) (e 60) w) (by kernel_rfl) (kcast (by kernel_rfl) h) hN (by kernel_rfl)
theorem s15_12 {R : Value → World → Prop} {K1 : Value → World → Prop} {Q : Exit → Env → World → Prop} (hN : ∀ e w, (K1 (e 53) w) → Q .normal e w) (e : Env) (w : World) (h : m15_12 R K1 (e 8) (e 10) (e 52) (e 53) w) : W15 k15_12 Q e w := by
  unfold m15_12 at h
  refine seq_ok' (by kernel_rfl) ?_
  have hN' : ∀ e w, (m15_13 R K1 (e 8) (e 10) (e 52) (e 53) w) → (thenE (W15 k15_13 Q) Q) .normal e w := fun e w h => then_N (s15_13 (R := R) (Q := Q) (K1 := K1) hN e w h)
  have hN := hN'
  refine block_ok 3 (by kernel_rfl) ?_
  have hN : ∀ e w, (m15_13 R K1 (e 8) (e 10) (e 52) (e 53) w) → (inBlockE 3 (thenE (W15 k15_13 Q) Q)) .normal e w := fun e w h => block_N (hN e w h)
  refine seq_ok' (by kernel_rfl) ?_
  have hN' : ∀ e w, (m15_14 R K1 (e 8) (e 10) (e 12) (e 52) (e 53) w) → (thenE (W15 k15_14 (inBlockE 3 (thenE (W15 k15_13 Q) Q))) (inBlockE 3 (thenE (W15 k15_13 Q) Q))) .normal e w := fun e w h => then_N (s15_14 (R := R) (Q := (inBlockE 3 (thenE (W15 k15_13 Q) Q))) (K1 := K1) hN e w h)
  have hN := hN'
  exact region_ok 15 (fun e w => m15_14 R K1 (e 8) (e 10) (e 12) (e 52) (e 53) w) (by kernel_rfl) (kcast (by kernel_rfl) h) hN (by kernel_rfl)
theorem s15_8 {R : Value → World → Prop} {Q : Exit → Env → World → Prop} (hR : ∀ e w, (R (Value.tuple #[(e 6), (e 7)]) w) → Q .ret e w) (e : Env) (w : World) (h : m15_8 R (e 6) (e 7) w) : W15 k15_8 Q e w := by
  unfold m15_8 at h
  exact ret_ok (by kernel_rfl) (hR _ _ h)
theorem s15_7 {R : Value → World → Prop} {Q : Exit → Env → World → Prop} (hR : ∀ e w, (R (Value.tuple #[(e 6), (e 7)]) w) → Q .ret e w) (e : Env) (w : World) (h : m15_7 R (e 10) w) : W15 k15_7 Q e w := by
  unfold m15_7 at h
  refine seq_ok' (by kernel_rfl) ?_
  have hN' : ∀ e w, (m15_8 R (e 6) (e 7) w) → (thenE (W15 k15_8 Q) Q) .normal e w := fun e w h => then_N (s15_8 (R := R) (Q := Q) hR e w h)
  have hN := hN'
  exact region_ok 20 (fun e w => m15_8 R (e 6) (e 7) w) (by kernel_rfl) (kcast (by kernel_rfl) h) hN (by kernel_rfl)
theorem s15_11 {R : Value → World → Prop} {K1 : Value → World → Prop} {Q : Exit → Env → World → Prop} (hN : ∀ e w, (K1 (e 53) w) → Q .normal e w) (hX2 : ∀ e w, (m15_7 R (e 10) w) → Q (.exit 2) e w) (e : Env) (w : World) (h : m15_11 R K1 (e 8) (e 10) (e 52) (e 53) (e 54) w) : W15 k15_11 Q e w := by
  unfold m15_11 at h
  refine seq_ok' (by kernel_rfl) ?_
  have hN' : ∀ e w, (m15_12 R K1 (e 8) (e 10) (e 52) (e 53) w) → (thenE (W15 k15_12 Q) Q) .normal e w := fun e w h => then_N (s15_12 (R := R) (Q := Q) (K1 := K1) hN e w h)
  have hX2 : ∀ e w, (m15_7 R (e 10) w) → (thenE (W15 k15_12 Q) Q) (.exit 2) e w := fun e w h => then_X (hX2 e w h)
  have hN := hN'
  refine cond_ok (Operand.tmp 54) (by kernel_rfl) h (fun h1 => ?_) (fun h1 => ?_)
  · exact skip_ok (by kernel_rfl) (hN _ _ h1)
  · exact exit_ok 2 (by kernel_rfl) (hX2 _ _ h1)
theorem s15_10 {R : Value → World → Prop} {K1 : Value → World → Prop} {Q : Exit → Env → World → Prop} (hN : ∀ e w, (K1 (e 53) w) → Q .normal e w) (hX2 : ∀ e w, (m15_7 R (e 10) w) → Q (.exit 2) e w) (e : Env) (w : World) (h : m15_10 R K1 (e 8) (e 10) (e 52) (e 53) w) : W15 k15_10 Q e w := by
  unfold m15_10 at h
  refine seq_ok' (by kernel_rfl) ?_
  have hN' : ∀ e w, (m15_11 R K1 (e 8) (e 10) (e 52) (e 53) (e 54) w) → (thenE (W15 k15_11 Q) Q) .normal e w := fun e w h => then_N (s15_11 (R := R) (Q := Q) (K1 := K1) hN hX2 e w h)
  have hN := hN'
  exact region_ok 14 (fun e w => m15_11 R K1 (e 8) (e 10) (e 52) (e 53) (e 54) w) (by kernel_rfl) (kcast (by kernel_rfl) h) hN (by kernel_rfl)
theorem s15_9 {R : Value → World → Prop} {Q : Exit → Env → World → Prop} (hN : ∀ e w, (m15_7 R (e 10) w) → Q .normal e w) (e : Env) (w : World) (h : m15_9 R (e 8) (e 10) (e 52) (e 53) w) : W15 k15_9 Q e w := by
  unfold m15_9 at h
  refine block_ok 2 (by kernel_rfl) ?_
  have hX2 : ∀ e w, (m15_7 R (e 10) w) → (inBlockE 2 Q) (.exit 2) e w := fun e w h => inBlock_same (Q := Q) 2 (hN e w h)
  refine loop_ok' (fun (e : Env) => e 53) [8, 10, 52] (by kernel_rfl) (by kernel_rfl) h (fun K e' w' hk h' => ?_)
  have r8 : e' 8 = e 8 := hk 8 (by decide)
  have r10 : e' 10 = e 10 := hk 10 (by decide)
  have r52 : e' 52 = e 52 := hk 52 (by decide)
  have hX2 : ∀ e w, (m15_7 R (e 10) w) → (thenE (fun (e : Env) w => K (e 53) w) (inBlockE 2 Q)) (.exit 2) e w := fun e w h => then_X (hX2 e w h)
  exact s15_10 (R := R) (Q := (thenE (fun (e : Env) w => K (e 53) w) (inBlockE 2 Q))) (K1 := K) (fun _ _ h => then_N h) hX2 e' w' (by rw [r8, r10, r52]; exact h')
theorem s15_6 {R : Value → World → Prop} {Q : Exit → Env → World → Prop} (hR : ∀ e w, (R (Value.tuple #[(e 6), (e 7)]) w) → Q .ret e w) (e : Env) (w : World) (h : m15_6 R (e 8) (e 10) w) : W15 k15_6 Q e w := by
  unfold m15_6 at h
  refine seq_ok' (by kernel_rfl) ?_
  have hN' : ∀ e w, (m15_7 R (e 10) w) → (thenE (W15 k15_7 Q) Q) .normal e w := fun e w h => then_N (s15_7 (R := R) (Q := Q) hR e w h)
  have hN := hN'
  refine seq_ok' (by kernel_rfl) ?_
  have hN' : ∀ e w, (m15_9 R (e 8) (e 10) (e 52) (e 53) w) → (thenE (W15 k15_9 (thenE (W15 k15_7 Q) Q)) (thenE (W15 k15_7 Q) Q)) .normal e w := fun e w h => then_N (s15_9 (R := R) (Q := (thenE (W15 k15_7 Q) Q)) hN e w h)
  have hN := hN'
  exact region_ok 13 (fun e w => m15_9 R (e 8) (e 10) (e 52) (e 53) w) (by kernel_rfl) (kcast (by kernel_rfl) h) hN (by kernel_rfl)
theorem s15_19 {R : Value → World → Prop} {K1 : Value → World → Prop} {Q : Exit → Env → World → Prop} (hN : ∀ e w, (K1 (e 34) w) → Q .normal e w) (hX0 : ∀ e w, (m15_6 R (e 8) (e 10) w) → Q (.exit 0) e w) (e : Env) (w : World) (h : m15_19 R K1 (e 2) (e 8) (e 10) (e 33) (e 34) (e 35) w) : W15 k15_19 Q e w := by
  unfold m15_19 at h
  refine seq_ok' (by kernel_rfl) ?_
  have hN' : ∀ e w, (m15_20 R K1 (e 2) (e 8) (e 10) (e 33) (e 34) w) → (thenE (W15 k15_20 Q) Q) .normal e w := fun e w h => then_N (s15_20 (R := R) (Q := Q) (K1 := K1) hN e w h)
  have hX0 : ∀ e w, (m15_6 R (e 8) (e 10) w) → (thenE (W15 k15_20 Q) Q) (.exit 0) e w := fun e w h => then_X (hX0 e w h)
  have hN := hN'
  refine cond_ok (Operand.tmp 35) (by kernel_rfl) h (fun h1 => ?_) (fun h1 => ?_)
  · exact skip_ok (by kernel_rfl) (hN _ _ h1)
  · exact exit_ok 0 (by kernel_rfl) (hX0 _ _ h1)
theorem s15_18 {R : Value → World → Prop} {K1 : Value → World → Prop} {Q : Exit → Env → World → Prop} (hN : ∀ e w, (K1 (e 34) w) → Q .normal e w) (hX0 : ∀ e w, (m15_6 R (e 8) (e 10) w) → Q (.exit 0) e w) (e : Env) (w : World) (h : m15_18 R K1 (e 2) (e 8) (e 10) (e 33) (e 34) w) : W15 k15_18 Q e w := by
  unfold m15_18 at h
  refine seq_ok' (by kernel_rfl) ?_
  have hN' : ∀ e w, (m15_19 R K1 (e 2) (e 8) (e 10) (e 33) (e 34) (e 35) w) → (thenE (W15 k15_19 Q) Q) .normal e w := fun e w h => then_N (s15_19 (R := R) (Q := Q) (K1 := K1) hN hX0 e w h)
  have hN := hN'
  exact region_ok 8 (fun e w => m15_19 R K1 (e 2) (e 8) (e 10) (e 33) (e 34) (e 35) w) (by kernel_rfl) (kcast (by kernel_rfl) h) hN (by kernel_rfl)
theorem s15_17 {R : Value → World → Prop} {Q : Exit → Env → World → Prop} (hN : ∀ e w, (m15_6 R (e 8) (e 10) w) → Q .normal e w) (e : Env) (w : World) (h : m15_17 R (e 2) (e 8) (e 10) (e 33) (e 34) w) : W15 k15_17 Q e w := by
  unfold m15_17 at h
  refine block_ok 0 (by kernel_rfl) ?_
  have hX0 : ∀ e w, (m15_6 R (e 8) (e 10) w) → (inBlockE 0 Q) (.exit 0) e w := fun e w h => inBlock_same (Q := Q) 0 (hN e w h)
  refine loop_ok' (fun (e : Env) => e 34) [2, 8, 10, 33] (by kernel_rfl) (by kernel_rfl) h (fun K e' w' hk h' => ?_)
  have r2 : e' 2 = e 2 := hk 2 (by decide)
  have r8 : e' 8 = e 8 := hk 8 (by decide)
  have r10 : e' 10 = e 10 := hk 10 (by decide)
  have r33 : e' 33 = e 33 := hk 33 (by decide)
  have hX0 : ∀ e w, (m15_6 R (e 8) (e 10) w) → (thenE (fun (e : Env) w => K (e 34) w) (inBlockE 0 Q)) (.exit 0) e w := fun e w h => then_X (hX0 e w h)
  exact s15_18 (R := R) (Q := (thenE (fun (e : Env) w => K (e 34) w) (inBlockE 0 Q))) (K1 := K) (fun _ _ h => then_N h) hX0 e' w' (by rw [r2, r8, r10, r33]; exact h')
theorem s15_5 {R : Value → World → Prop} {Q : Exit → Env → World → Prop} (hR : ∀ e w, (R (Value.tuple #[(e 6), (e 7)]) w) → Q .ret e w) (e : Env) (w : World) (h : m15_5 R (e 0) (e 2) (e 8) (e 10) w) : W15 k15_5 Q e w := by
  unfold m15_5 at h
  refine seq_ok' (by kernel_rfl) ?_
  have hN' : ∀ e w, (m15_6 R (e 8) (e 10) w) → (thenE (W15 k15_6 Q) Q) .normal e w := fun e w h => then_N (s15_6 (R := R) (Q := Q) hR e w h)
  have hN := hN'
  refine seq_ok' (by kernel_rfl) ?_
  have hN' : ∀ e w, (m15_17 R (e 2) (e 8) (e 10) (e 33) (e 34) w) → (thenE (W15 k15_17 (thenE (W15 k15_6 Q) Q)) (thenE (W15 k15_6 Q) Q)) .normal e w := fun e w h => then_N (s15_17 (R := R) (Q := (thenE (W15 k15_6 Q) Q)) hN e w h)
  have hN := hN'
  exact region_ok 7 (fun e w => m15_17 R (e 2) (e 8) (e 10) (e 33) (e 34) w) (by kernel_rfl) (kcast (by kernel_rfl) h) hN (by kernel_rfl)
theorem s15_24 {R : Value → World → Prop} {Q : Exit → Env → World → Prop} (hN : ∀ e w, (m15_5 R (e 0) (e 2) (e 8) (e 10) w) → Q .normal e w) (hR : ∀ e w, (R (Value.tuple #[(e 6), (e 7)]) w) → Q .ret e w) (e : Env) (w : World) (h : m15_24 R (e 0) (e 2) (e 8) (e 10) (e 28) w) : W15 k15_24 Q e w := by
  unfold m15_24 at h
  refine cond_ok (Operand.tmp 28) (by kernel_rfl) h (fun h1 => ?_) (fun h1 => ?_)
  · refine seq_ok' (by kernel_rfl) ?_
    have hN' : ∀ e w, (m15_25 R (e 6) (e 7) w) → (thenE (W15 k15_25 Q) Q) .normal e w := fun e w h => then_N (s15_25 (R := R) (Q := Q) hR e w h)
    have hN := hN'
    exact region_ok 6 (fun e w => m15_25 R (e 6) (e 7) w) (by kernel_rfl) (kcast (by kernel_rfl) h1) hN (by kernel_rfl)
  · exact skip_ok (by kernel_rfl) (hN _ _ h1)
theorem s15_4 {R : Value → World → Prop} {Q : Exit → Env → World → Prop} (hR : ∀ e w, (R (Value.tuple #[(e 6), (e 7)]) w) → Q .ret e w) (e : Env) (w : World) (h : m15_4 R (e 0) (e 2) (e 8) (e 10) w) : W15 k15_4 Q e w := by
  unfold m15_4 at h
  refine seq_ok' (by kernel_rfl) ?_
  have hN' : ∀ e w, (m15_5 R (e 0) (e 2) (e 8) (e 10) w) → (thenE (W15 k15_5 Q) Q) .normal e w := fun e w h => then_N (s15_5 (R := R) (Q := Q) hR e w h)
  have hR : ∀ e w, (R (Value.tuple #[(e 6), (e 7)]) w) → (thenE (W15 k15_5 Q) Q) .ret e w := fun e w h => then_R (hR e w h)
  have hN := hN'
  refine seq_ok' (by kernel_rfl) ?_
  have hN' : ∀ e w, (m15_24 R (e 0) (e 2) (e 8) (e 10) (e 28) w) → (thenE (W15 k15_24 (thenE (W15 k15_5 Q) Q)) (thenE (W15 k15_5 Q) Q)) .normal e w := fun e w h => then_N (s15_24 (R := R) (Q := (thenE (W15 k15_5 Q) Q)) hN hR e w h)
  have hN := hN'
  exact region_ok 5 (fun e w => m15_24 R (e 0) (e 2) (e 8) (e 10) (e 28) w) (by kernel_rfl) (kcast (by kernel_rfl) h) hN (by kernel_rfl)
theorem s15_3 {R : Value → World → Prop} {Q : Exit → Env → World → Prop} (hR : ∀ e w, (R (Value.tuple #[(e 6), (e 7)]) w) → Q .ret e w) (e : Env) (w : World) (h : m15_3 R (e 0) (e 2) (e 8) w) : W15 k15_3 Q e w := by
  unfold m15_3 at h
  refine seq_ok' (by kernel_rfl) ?_
  have hN' : ∀ e w, (m15_4 R (e 0) (e 2) (e 8) (e 10) w) → (thenE (W15 k15_4 Q) Q) .normal e w := fun e w h => then_N (s15_4 (R := R) (Q := Q) hR e w h)
  have hN := hN'
  exact region_ok 4 (fun e w => m15_4 R (e 0) (e 2) (e 8) (e 10) w) (by kernel_rfl) (kcast (by kernel_rfl) h) hN (by kernel_rfl)
theorem s15_26 {R : Value → World → Prop} {Q : Exit → Env → World → Prop} (hN : ∀ e w, (m15_3 R (e 0) (e 2) (e 8) w) → Q .normal e w) (hR : ∀ e w, (R (Value.tuple #[(e 6), (e 7)]) w) → Q .ret e w) (e : Env) (w : World) (h : m15_26 R (e 0) (e 2) (e 8) (e 20) w) : W15 k15_26 Q e w := by
  unfold m15_26 at h
  refine cond_ok (Operand.tmp 20) (by kernel_rfl) h (fun h1 => ?_) (fun h1 => ?_)
  · refine seq_ok' (by kernel_rfl) ?_
    have hN' : ∀ e w, (m15_27 R (e 6) (e 7) w) → (thenE (W15 k15_27 Q) Q) .normal e w := fun e w h => then_N (s15_27 (R := R) (Q := Q) hR e w h)
    have hN := hN'
    exact region_ok 3 (fun e w => m15_27 R (e 6) (e 7) w) (by kernel_rfl) (kcast (by kernel_rfl) h1) hN (by kernel_rfl)
  · exact skip_ok (by kernel_rfl) (hN _ _ h1)
theorem s15_2 {R : Value → World → Prop} {Q : Exit → Env → World → Prop} (hR : ∀ e w, (R (Value.tuple #[(e 6), (e 7)]) w) → Q .ret e w) (e : Env) (w : World) (h : m15_2 R (e 0) (e 2) (e 8) (e 9) w) : W15 k15_2 Q e w := by
  unfold m15_2 at h
  refine seq_ok' (by kernel_rfl) ?_
  have hN' : ∀ e w, (m15_3 R (e 0) (e 2) (e 8) w) → (thenE (W15 k15_3 Q) Q) .normal e w := fun e w h => then_N (s15_3 (R := R) (Q := Q) hR e w h)
  have hR : ∀ e w, (R (Value.tuple #[(e 6), (e 7)]) w) → (thenE (W15 k15_3 Q) Q) .ret e w := fun e w h => then_R (hR e w h)
  have hN := hN'
  refine seq_ok' (by kernel_rfl) ?_
  have hN' : ∀ e w, (m15_26 R (e 0) (e 2) (e 8) (e 20) w) → (thenE (W15 k15_26 (thenE (W15 k15_3 Q) Q)) (thenE (W15 k15_3 Q) Q)) .normal e w := fun e w h => then_N (s15_26 (R := R) (Q := (thenE (W15 k15_3 Q) Q)) hN hR e w h)
  have hN := hN'
  exact region_ok 2 (fun e w => m15_26 R (e 0) (e 2) (e 8) (e 20) w) (by kernel_rfl) (kcast (by kernel_rfl) h) hN (by kernel_rfl)
theorem s15_1 {R : Value → World → Prop} {Q : Exit → Env → World → Prop} (hR : ∀ e w, (R (Value.tuple #[(e 6), (e 7)]) w) → Q .ret e w) (e : Env) (w : World) (h : m15_1 R (e 0) (e 1) (e 2) w) : W15 k15_1 Q e w := by
  unfold m15_1 at h
  refine seq_ok' (by kernel_rfl) ?_
  have hN' : ∀ e w, (m15_2 R (e 0) (e 2) (e 8) (e 9) w) → (thenE (W15 k15_2 Q) Q) .normal e w := fun e w h => then_N (s15_2 (R := R) (Q := Q) hR e w h)
  have hN := hN'
  exact region_ok 1 (fun e w => m15_2 R (e 0) (e 2) (e 8) (e 9) w) (by kernel_rfl) (kcast (by kernel_rfl) h) hN (by kernel_rfl)
theorem s15_0 {R : Value → World → Prop} {Q : Exit → Env → World → Prop} (hR : ∀ e w, (R (Value.tuple #[(e 6), (e 7)]) w) → Q .ret e w) (e : Env) (w : World) (h : m15_0 R (e 0) (e 1) (e 2) w) : W15 k15_0 Q e w := by
  unfold m15_0 at h
  refine seq_ok' (by kernel_rfl) ?_
  have hN' : ∀ e w, (m15_1 R (e 0) (e 1) (e 2) w) → (thenE (W15 k15_1 Q) Q) .normal e w := fun e w h => then_N (s15_1 (R := R) (Q := Q) hR e w h)
  have hN := hN'
  exact region_ok 0 (fun e w => m15_1 R (e 0) (e 1) (e 2) w) (by kernel_rfl) (kcast (by kernel_rfl) h) hN (by kernel_rfl)
abbrev m15 (R : Value → World → Prop) (parts0 : Value) (members1 : Value) (old2 : Value) (w : World) : Prop := m15_0 R parts0 members1 old2 w
theorem s15 (parts0 : Value) (members1 : Value) (old2 : Value) {R : Value → World → Prop} {w : World} (h : m15 R parts0 members1 old2 w) :
    Calls Try.prog 15 #[parts0, members1, old2] w fun e w' => ∃ v, e = .returned v ∧ R v w' :=
  calls_of_cwp (st := (fun i => cond (Nat.beq i 18) 12 (0))) (c := k15_0) (by kernel_rfl) Try.func15 (by kernel_rfl) (Nat.le_of_ble_eq_true (by kernel_rfl)) (by kernel_rfl)
    (s15_0 (R := R) (Q := endE Try.prog Try.f15 R) (fun e w h => kcast (by kernel_rfl) h) (argsE #[parts0, members1, old2]) w (kcast (by kernel_rfl) h))
/-! ### headgate/headgatelaw09.AssignRanges -/
def m3_5 (R : Value → World → Prop) (t4 : Value) (w : World) : Prop :=
  R t4 w
def m3_4 (R : Value → World → Prop) (a5 : Value) (e6 : Value) (b7 : Value) (f8 : Value) (w : World) : Prop :=
  callP Try.prog (fnV 13) #[a5, b7] w fun t25 w =>
  condP t25
  (valP Try.prog (binS BinOp.eql 3 (Operand.tmp 27) (Operand.tmp 28) e6 f8) w fun t29 w =>
  pickP t25 t29 (Value.bool false) fun t30 =>
  condP t30
  (callP Try.prog (fnV 14) #[] w fun t32 w =>
  pickP t30 t32 (Value.bool false) fun t33 =>
  m3_5 R t33 w)
  (pickP t30 undef (Value.bool false) fun t33 =>
  m3_5 R t33 w))
  (pickP t25 undef (Value.bool false) fun t30 =>
  condP t30
  (callP Try.prog (fnV 14) #[] w fun t32 w =>
  pickP t30 t32 (Value.bool false) fun t33 =>
  m3_5 R t33 w)
  (pickP t30 undef (Value.bool false) fun t33 =>
  m3_5 R t33 w))
def m3_3 (R : Value → World → Prop) (parts0 : Value) (members1 : Value) (a5 : Value) (e6 : Value) (w : World) : Prop :=
  callP Try.prog (fnV 12) #[parts0, members1] w fun t20 w =>
  valP Try.prog (Instr.extract t20 0) w fun t21 w =>
  valP Try.prog (Instr.extract t20 1) w fun t22 w =>
  m3_4 R a5 e6 t21 t22 w
def m3_2 (R : Value → World → Prop) (parts0 : Value) (members1 : Value) (w : World) : Prop :=
  callP Try.prog (fnV 11) #[parts0, members1] w fun t14 w =>
  valP Try.prog (Instr.extract t14 0) w fun t15 w =>
  valP Try.prog (Instr.extract t14 1) w fun t16 w =>
  m3_3 R parts0 members1 t15 t16 w
def m3_1 (R : Value → World → Prop) (parts0 : Value) (members1 : Value) (w : World) : Prop :=
  callP Try.prog (fnV 10) #[members1] w fun t10 w =>
  m3_2 R parts0 t10 w
def m3_0 (R : Value → World → Prop) (parts0 : Value) (members1 : Value) (w : World) : Prop :=
  m3_1 R parts0 members1 w
abbrev W3 := cwp Try.prog (fun i => 0)
noncomputable def k3_0 : Code := (bodyOf Try.f3)
noncomputable def k3_1 : Code := (c2 k3_0)
noncomputable def k3_2 : Code := (c2 k3_1)
noncomputable def k3_3 : Code := (c2 k3_2)
noncomputable def k3_4 : Code := (c2 k3_3)
noncomputable def k3_5 : Code := (c2 k3_4)
theorem s3_5 {R : Value → World → Prop} {Q : Exit → Env → World → Prop} (hR : ∀ e w, (R (e 4) w) → Q .ret e w) (e : Env) (w : World) (h : m3_5 R (e 4) w) : W3 k3_5 Q e w := by
  unfold m3_5 at h
  exact ret_ok (by kernel_rfl) (hR _ _ h)
theorem s3_4 {R : Value → World → Prop} {Q : Exit → Env → World → Prop} (hR : ∀ e w, (R (e 4) w) → Q .ret e w) (e : Env) (w : World) (h : m3_4 R (e 5) (e 6) (e 7) (e 8) w) : W3 k3_4 Q e w := by
  unfold m3_4 at h
  refine seq_ok' (by kernel_rfl) ?_
  have hN' : ∀ e w, (m3_5 R (e 4) w) → (thenE (W3 k3_5 Q) Q) .normal e w := fun e w h => then_N (s3_5 (R := R) (Q := Q) hR e w h)
  have hN := hN'
  exact region_ok 4 (fun e w => m3_5 R (e 4) w) (by kernel_rfl) (kcast (by kernel_rfl) h) hN (by kernel_rfl)
theorem s3_3 {R : Value → World → Prop} {Q : Exit → Env → World → Prop} (hR : ∀ e w, (R (e 4) w) → Q .ret e w) (e : Env) (w : World) (h : m3_3 R (e 0) (e 1) (e 5) (e 6) w) : W3 k3_3 Q e w := by
  unfold m3_3 at h
  refine seq_ok' (by kernel_rfl) ?_
  have hN' : ∀ e w, (m3_4 R (e 5) (e 6) (e 7) (e 8) w) → (thenE (W3 k3_4 Q) Q) .normal e w := fun e w h => then_N (s3_4 (R := R) (Q := Q) hR e w h)
  have hN := hN'
  exact region_ok 3 (fun e w => m3_4 R (e 5) (e 6) (e 7) (e 8) w) (by kernel_rfl) (kcast (by kernel_rfl) h) hN (by kernel_rfl)
theorem s3_2 {R : Value → World → Prop} {Q : Exit → Env → World → Prop} (hR : ∀ e w, (R (e 4) w) → Q .ret e w) (e : Env) (w : World) (h : m3_2 R (e 0) (e 1) w) : W3 k3_2 Q e w := by
  unfold m3_2 at h
  refine seq_ok' (by kernel_rfl) ?_
  have hN' : ∀ e w, (m3_3 R (e 0) (e 1) (e 5) (e 6) w) → (thenE (W3 k3_3 Q) Q) .normal e w := fun e w h => then_N (s3_3 (R := R) (Q := Q) hR e w h)
  have hN := hN'
  exact region_ok 2 (fun e w => m3_3 R (e 0) (e 1) (e 5) (e 6) w) (by kernel_rfl) (kcast (by kernel_rfl) h) hN (by kernel_rfl)
theorem s3_1 {R : Value → World → Prop} {Q : Exit → Env → World → Prop} (hR : ∀ e w, (R (e 4) w) → Q .ret e w) (e : Env) (w : World) (h : m3_1 R (e 0) (e 1) w) : W3 k3_1 Q e w := by
  unfold m3_1 at h
  refine seq_ok' (by kernel_rfl) ?_
  have hN' : ∀ e w, (m3_2 R (e 0) (e 1) w) → (thenE (W3 k3_2 Q) Q) .normal e w := fun e w h => then_N (s3_2 (R := R) (Q := Q) hR e w h)
  have hN := hN'
  exact region_ok 1 (fun e w => m3_2 R (e 0) (e 1) w) (by kernel_rfl) (kcast (by kernel_rfl) h) hN (by kernel_rfl)
theorem s3_0 {R : Value → World → Prop} {Q : Exit → Env → World → Prop} (hR : ∀ e w, (R (e 4) w) → Q .ret e w) (e : Env) (w : World) (h : m3_0 R (e 0) (e 1) w) : W3 k3_0 Q e w := by
  unfold m3_0 at h
  refine seq_ok' (by kernel_rfl) ?_
  have hN' : ∀ e w, (m3_1 R (e 0) (e 1) w) → (thenE (W3 k3_1 Q) Q) .normal e w := fun e w h => then_N (s3_1 (R := R) (Q := Q) hR e w h)
  have hN := hN'
  exact region_ok 0 (fun e w => m3_1 R (e 0) (e 1) w) (by kernel_rfl) (kcast (by kernel_rfl) h) hN (by kernel_rfl)
abbrev m3 (R : Value → World → Prop) (parts0 : Value) (members1 : Value) (w : World) : Prop := m3_0 R parts0 members1 w
theorem s3 (parts0 : Value) (members1 : Value) {R : Value → World → Prop} {w : World} (h : m3 R parts0 members1 w) :
    Calls Try.prog 3 #[parts0, members1] w fun e w' => ∃ v, e = .returned v ∧ R v w' :=
  calls_of_cwp (st := (fun i => 0)) (c := k3_0) (by kernel_rfl) Try.func3 (by kernel_rfl) (Nat.le_of_ble_eq_true (by kernel_rfl)) (by kernel_rfl)
    (s3_0 (R := R) (Q := endE Try.prog Try.f3 R) (fun e w h => kcast (by kernel_rfl) h) (argsE #[parts0, members1]) w (kcast (by kernel_rfl) h))
/-! ### headgate/headgatelaw09.AssignSticks -/
def m4_8 (R : Value → World → Prop) (t6 : Value) (w : World) : Prop :=
  R t6 w
def m4_7 (R : Value → World → Prop) (members1 : Value) (old2 : Value) (was7 : Value) (had8 : Value) (a9 : Value) (e10 : Value) (b11 : Value) (f12 : Value) (w : World) : Prop :=
  callP Try.prog (fnV 13) #[a9, b11] w fun t39 w =>
  condP t39
  (valP Try.prog (binS BinOp.eql 3 (Operand.tmp 41) (Operand.tmp 42) e10 f12) w fun t43 w =>
  pickP t39 t43 (Value.bool false) fun t44 =>
  condP t44
  (callP Try.prog (fnV 13) #[members1, was7] w fun t48 w =>
  pickP t44 t48 (Value.bool false) fun t49 =>
  condP t49
  (callP Try.prog (fnV 13) #[old2, had8] w fun t53 w =>
  pickP t49 t53 (Value.bool false) fun t54 =>
  condP t54
  (callP Try.prog (fnV 14) #[] w fun t56 w =>
  pickP t54 t56 (Value.bool false) fun t57 =>
  m4_8 R t57 w)
  (pickP t54 undef (Value.bool false) fun t57 =>
  m4_8 R t57 w))
  (pickP t49 undef (Value.bool false) fun t54 =>
  condP t54
  (callP Try.prog (fnV 14) #[] w fun t56 w =>
  pickP t54 t56 (Value.bool false) fun t57 =>
  m4_8 R t57 w)
  (pickP t54 undef (Value.bool false) fun t57 =>
  m4_8 R t57 w)))
  (pickP t44 undef (Value.bool false) fun t49 =>
  condP t49
  (callP Try.prog (fnV 13) #[old2, had8] w fun t53 w =>
  pickP t49 t53 (Value.bool false) fun t54 =>
  condP t54
  (callP Try.prog (fnV 14) #[] w fun t56 w =>
  pickP t54 t56 (Value.bool false) fun t57 =>
  m4_8 R t57 w)
  (pickP t54 undef (Value.bool false) fun t57 =>
  m4_8 R t57 w))
  (pickP t49 undef (Value.bool false) fun t54 =>
  condP t54
  (callP Try.prog (fnV 14) #[] w fun t56 w =>
  pickP t54 t56 (Value.bool false) fun t57 =>
  m4_8 R t57 w)
  (pickP t54 undef (Value.bool false) fun t57 =>
  m4_8 R t57 w))))
  (pickP t39 undef (Value.bool false) fun t44 =>
  condP t44
  (callP Try.prog (fnV 13) #[members1, was7] w fun t48 w =>
  pickP t44 t48 (Value.bool false) fun t49 =>
  condP t49
  (callP Try.prog (fnV 13) #[old2, had8] w fun t53 w =>
  pickP t49 t53 (Value.bool false) fun t54 =>
  condP t54
  (callP Try.prog (fnV 14) #[] w fun t56 w =>
  pickP t54 t56 (Value.bool false) fun t57 =>
  m4_8 R t57 w)
  (pickP t54 undef (Value.bool false) fun t57 =>
  m4_8 R t57 w))
  (pickP t49 undef (Value.bool false) fun t54 =>
  condP t54
  (callP Try.prog (fnV 14) #[] w fun t56 w =>
  pickP t54 t56 (Value.bool false) fun t57 =>
  m4_8 R t57 w)
  (pickP t54 undef (Value.bool false) fun t57 =>
  m4_8 R t57 w)))
  (pickP t44 undef (Value.bool false) fun t49 =>
  condP t49
  (callP Try.prog (fnV 13) #[old2, had8] w fun t53 w =>
  pickP t49 t53 (Value.bool false) fun t54 =>
  condP t54
  (callP Try.prog (fnV 14) #[] w fun t56 w =>
  pickP t54 t56 (Value.bool false) fun t57 =>
  m4_8 R t57 w)
  (pickP t54 undef (Value.bool false) fun t57 =>
  m4_8 R t57 w))
  (pickP t49 undef (Value.bool false) fun t54 =>
  condP t54
  (callP Try.prog (fnV 14) #[] w fun t56 w =>
  pickP t54 t56 (Value.bool false) fun t57 =>
  m4_8 R t57 w)
  (pickP t54 undef (Value.bool false) fun t57 =>
  m4_8 R t57 w))))
def m4_6 (R : Value → World → Prop) (parts0 : Value) (members1 : Value) (old2 : Value) (was7 : Value) (had8 : Value) (a9 : Value) (e10 : Value) (w : World) : Prop :=
  callP Try.prog (fnV 16) #[parts0, was7, had8] w fun t34 w =>
  valP Try.prog (Instr.extract t34 0) w fun t35 w =>
  valP Try.prog (Instr.extract t34 1) w fun t36 w =>
  m4_7 R members1 old2 was7 had8 a9 e10 t35 t36 w
def m4_5 (R : Value → World → Prop) (parts0 : Value) (members1 : Value) (old2 : Value) (was7 : Value) (had8 : Value) (w : World) : Prop :=
  callP Try.prog (fnV 15) #[parts0, members1, old2] w fun t27 w =>
  valP Try.prog (Instr.extract t27 0) w fun t28 w =>
  valP Try.prog (Instr.extract t27 1) w fun t29 w =>
  m4_6 R parts0 members1 old2 was7 had8 t28 t29 w
def m4_4 (R : Value → World → Prop) (parts0 : Value) (members1 : Value) (old2 : Value) (was7 : Value) (had8 : Value) (w : World) : Prop :=
  builtinP Try.prog Builtin.append #[22, 22] 22 #[false, false] #[had8, old2] w fun t22 w =>
  m4_5 R parts0 members1 old2 was7 t22 w
def m4_3 (R : Value → World → Prop) (parts0 : Value) (members1 : Value) (old2 : Value) (was7 : Value) (had8 : Value) (w : World) : Prop :=
  builtinP Try.prog Builtin.append #[22, 22] 22 #[false, false] #[was7, members1] w fun t19 w =>
  m4_4 R parts0 members1 old2 t19 had8 w
def m4_2 (R : Value → World → Prop) (parts0 : Value) (members1 : Value) (old2 : Value) (w : World) : Prop :=
  m4_3 R parts0 members1 old2 (Value.slice none 0 0) (Value.slice none 0 0) w
def m4_1 (R : Value → World → Prop) (parts0 : Value) (members1 : Value) (old2 : Value) (w : World) : Prop :=
  callP Try.prog (fnV 10) #[members1] w fun t14 w =>
  callP Try.prog (fnV 10) #[old2] w fun t16 w =>
  m4_2 R parts0 t14 t16 w
def m4_0 (R : Value → World → Prop) (parts0 : Value) (members1 : Value) (old2 : Value) (w : World) : Prop :=
  m4_1 R parts0 members1 old2 w
abbrev W4 := cwp Try.prog (fun i => 0)
noncomputable def k4_0 : Code := (bodyOf Try.f4)
noncomputable def k4_1 : Code := (c2 k4_0)
noncomputable def k4_2 : Code := (c2 k4_1)
noncomputable def k4_3 : Code := (c2 k4_2)
noncomputable def k4_4 : Code := (c2 k4_3)
noncomputable def k4_5 : Code := (c2 k4_4)
noncomputable def k4_6 : Code := (c2 k4_5)
noncomputable def k4_7 : Code := (c2 k4_6)
noncomputable def k4_8 : Code := (c2 k4_7)
theorem s4_8 {R : Value → World → Prop} {Q : Exit → Env → World → Prop} (hR : ∀ e w, (R (e 6) w) → Q .ret e w) (e : Env) (w : World) (h : m4_8 R (e 6) w) : W4 k4_8 Q e w := by
  unfold m4_8 at h
  exact ret_ok (by kernel_rfl) (hR _ _ h)
theorem s4_7 {R : Value → World → Prop} {Q : Exit → Env → World → Prop} (hR : ∀ e w, (R (e 6) w) → Q .ret e w) (e : Env) (w : World) (h : m4_7 R (e 1) (e 2) (e 7) (e 8) (e 9) (e 10) (e 11) (e 12) w) : W4 k4_7 Q e w := by
  unfold m4_7 at h
  refine seq_ok' (by kernel_rfl) ?_
  have hN' : ∀ e w, (m4_8 R (e 6) w) → (thenE (W4 k4_8 Q) Q) .normal e w := fun e w h => then_N (s4_8 (R := R) (Q := Q) hR e w h)
  have hN := hN'
  exact region_ok 7 (fun e w => m4_8 R (e 6) w) (by kernel_rfl) (kcast (by kernel_rfl) h) hN (by kernel_rfl)
theorem s4_6 {R : Value → World → Prop} {Q : Exit → Env → World → Prop} (hR : ∀ e w, (R (e 6) w) → Q .ret e w) (e : Env) (w : World) (h : m4_6 R (e 0) (e 1) (e 2) (e 7) (e 8) (e 9) (e 10) w) : W4 k4_6 Q e w := by
  unfold m4_6 at h
  refine seq_ok' (by kernel_rfl) ?_
  have hN' : ∀ e w, (m4_7 R (e 1) (e 2) (e 7) (e 8) (e 9) (e 10) (e 11) (e 12) w) → (thenE (W4 k4_7 Q) Q) .normal e w := fun e w h => then_N (s4_7 (R := R) (Q := Q) hR e w h)
  have hN := hN'
  exact region_ok 6 (fun e w => m4_7 R (e 1) (e 2) (e 7) (e 8) (e 9) (e 10) (e 11) (e 12) w) (by kernel_rfl) (kcast (by kernel_rfl) h) hN (by kernel_rfl)
theorem s4_5 {R : Value → World → Prop} {Q : Exit → Env → World → Prop} (hR : ∀ e w, (R (e 6) w) → Q .ret e w) (e : Env) (w : World) (h : m4_5 R (e 0) (e 1) (e 2) (e 7) (e 8) w) : W4 k4_5 Q e w := by
  unfold m4_5 at h
  refine seq_ok' (by kernel_rfl) ?_
  have hN' : ∀ e w, (m4_6 R (e 0) (e 1) (e 2) (e 7) (e 8) (e 9) (e 10) w) → (thenE (W4 k4_6 Q) Q) .normal e w := fun e w h => then_N (s4_6 (R := R) (Q := Q) hR e w h)
  have hN := hN'
  exact region_ok 5 (fun e w => m4_6 R (e 0) (e 1) (e 2) (e 7) (e 8) (e 9) (e 10) w) (by kernel_rfl) (kcast (by kernel_rfl) h) hN (by kernel_rfl)
theorem s4_4 {R : Value → World → Prop} {Q : Exit → Env → World → Prop} (hR : ∀ e w, (R (e 6) w) → Q .ret e w) (e : Env) (w : World) (h : m4_4 R (e 0) (e 1) (e 2) (e 7) (e 8) w) : W4 k4_4 Q e w := by
  unfold m4_4 at h
  refine seq_ok' (by kernel_rfl) ?_
  have hN' : ∀ e w, (m4_5 R (e 0) (e 1) (e 2) (e 7) (e 8) w) → (thenE (W4 k4_5 Q) Q) .normal e w := fun e w h => then_N (s4_5 (R := R) (Q := Q) hR e w h)
  have hN := hN'
  exact region_ok 4 (fun e w => m4_5 R (e 0) (e 1) (e 2) (e 7) (e 8) w) (by kernel_rfl) (kcast (by kernel_rfl) h) hN (by kernel_rfl)
theorem s4_3 {R : Value → World → Prop} {Q : Exit → Env → World → Prop} (hR : ∀ e w, (R (e 6) w) → Q .ret e w) (e : Env) (w : World) (h : m4_3 R (e 0) (e 1) (e 2) (e 7) (e 8) w) : W4 k4_3 Q e w := by
  unfold m4_3 at h
  refine seq_ok' (by kernel_rfl) ?_
  have hN' : ∀ e w, (m4_4 R (e 0) (e 1) (e 2) (e 7) (e 8) w) → (thenE (W4 k4_4 Q) Q) .normal e w := fun e w h => then_N (s4_4 (R := R) (Q := Q) hR e w h)
  have hN := hN'
  exact region_ok 3 (fun e w => m4_4 R (e 0) (e 1) (e 2) (e 7) (e 8) w) (by kernel_rfl) (kcast (by kernel_rfl) h) hN (by kernel_rfl)
theorem s4_2 {R : Value → World → Prop} {Q : Exit → Env → World → Prop} (hR : ∀ e w, (R (e 6) w) → Q .ret e w) (e : Env) (w : World) (h : m4_2 R (e 0) (e 1) (e 2) w) : W4 k4_2 Q e w := by
  unfold m4_2 at h
  refine seq_ok' (by kernel_rfl) ?_
  have hN' : ∀ e w, (m4_3 R (e 0) (e 1) (e 2) (e 7) (e 8) w) → (thenE (W4 k4_3 Q) Q) .normal e w := fun e w h => then_N (s4_3 (R := R) (Q := Q) hR e w h)
  have hN := hN'
  exact region_ok 2 (fun e w => m4_3 R (e 0) (e 1) (e 2) (e 7) (e 8) w) (by kernel_rfl) (kcast (by kernel_rfl) h) hN (by kernel_rfl)
theorem s4_1 {R : Value → World → Prop} {Q : Exit → Env → World → Prop} (hR : ∀ e w, (R (e 6) w) → Q .ret e w) (e : Env) (w : World) (h : m4_1 R (e 0) (e 1) (e 2) w) : W4 k4_1 Q e w := by
  unfold m4_1 at h
  refine seq_ok' (by kernel_rfl) ?_
  have hN' : ∀ e w, (m4_2 R (e 0) (e 1) (e 2) w) → (thenE (W4 k4_2 Q) Q) .normal e w := fun e w h => then_N (s4_2 (R := R) (Q := Q) hR e w h)
  have hN := hN'
  exact region_ok 1 (fun e w => m4_2 R (e 0) (e 1) (e 2) w) (by kernel_rfl) (kcast (by kernel_rfl) h) hN (by kernel_rfl)
theorem s4_0 {R : Value → World → Prop} {Q : Exit → Env → World → Prop} (hR : ∀ e w, (R (e 6) w) → Q .ret e w) (e : Env) (w : World) (h : m4_0 R (e 0) (e 1) (e 2) w) : W4 k4_0 Q e w := by
  unfold m4_0 at h
  refine seq_ok' (by kernel_rfl) ?_
  have hN' : ∀ e w, (m4_1 R (e 0) (e 1) (e 2) w) → (thenE (W4 k4_1 Q) Q) .normal e w := fun e w h => then_N (s4_1 (R := R) (Q := Q) hR e w h)
  have hN := hN'
  exact region_ok 0 (fun e w => m4_1 R (e 0) (e 1) (e 2) w) (by kernel_rfl) (kcast (by kernel_rfl) h) hN (by kernel_rfl)
abbrev m4 (R : Value → World → Prop) (parts0 : Value) (members1 : Value) (old2 : Value) (w : World) : Prop := m4_0 R parts0 members1 old2 w
theorem s4 (parts0 : Value) (members1 : Value) (old2 : Value) {R : Value → World → Prop} {w : World} (h : m4 R parts0 members1 old2 w) :
    Calls Try.prog 4 #[parts0, members1, old2] w fun e w' => ∃ v, e = .returned v ∧ R v w' :=
  calls_of_cwp (st := (fun i => 0)) (c := k4_0) (by kernel_rfl) Try.func4 (by kernel_rfl) (Nat.le_of_ble_eq_true (by kernel_rfl)) (by kernel_rfl)
    (s4_0 (R := R) (Q := endE Try.prog Try.f4 R) (fun e w h => kcast (by kernel_rfl) h) (argsE #[parts0, members1, old2]) w (kcast (by kernel_rfl) h))
/-! ### headgate/headgatelaw09.AssignFair -/
def m5_8 (R : Value → World → Prop) (t6 : Value) (w : World) : Prop :=
  R t6 w
def m5_6 (R : Value → World → Prop) (t6 : Value) (w : World) : Prop :=
  R t6 w
def m5_5 (R : Value → World → Prop) (parts0 : Value) (members1 : Value) (a7 : Value) (e8 : Value) (b9 : Value) (f10 : Value) (w : World) : Prop :=
  valP Try.prog (binS BinOp.eql 24 (Operand.tmp 51) (Operand.const (Value.int IntKind.i64 0)) e8 (Value.int IntKind.i64 0)) w fun t52 w =>
  condP t52
  (valP Try.prog (binS BinOp.eql 24 (Operand.tmp 54) (Operand.const (Value.int IntKind.i64 0)) f10 (Value.int IntKind.i64 0)) w fun t55 w =>
  pickP t52 t55 (Value.bool false) fun t56 =>
  condP t56
  (callP Try.prog (fnV 17) #[a7, members1, parts0] w fun t61 w =>
  pickP t56 t61 (Value.bool false) fun t62 =>
  condP t62
  (callP Try.prog (fnV 17) #[b9, members1, parts0] w fun t67 w =>
  pickP t62 t67 (Value.bool false) fun t68 =>
  condP t68
  (callP Try.prog (fnV 14) #[] w fun t70 w =>
  pickP t68 t70 (Value.bool false) fun t71 =>
  m5_6 R t71 w)
  (pickP t68 undef (Value.bool false) fun t71 =>
  m5_6 R t71 w))
  (pickP t62 undef (Value.bool false) fun t68 =>
  condP t68
  (callP Try.prog (fnV 14) #[] w fun t70 w =>
  pickP t68 t70 (Value.bool false) fun t71 =>
  m5_6 R t71 w)
  (pickP t68 undef (Value.bool false) fun t71 =>
  m5_6 R t71 w)))
  (pickP t56 undef (Value.bool false) fun t62 =>
  condP t62
  (callP Try.prog (fnV 17) #[b9, members1, parts0] w fun t67 w =>
  pickP t62 t67 (Value.bool false) fun t68 =>
  condP t68
  (callP Try.prog (fnV 14) #[] w fun t70 w =>
  pickP t68 t70 (Value.bool false) fun t71 =>
  m5_6 R t71 w)
  (pickP t68 undef (Value.bool false) fun t71 =>
  m5_6 R t71 w))
  (pickP t62 undef (Value.bool false) fun t68 =>
  condP t68
  (callP Try.prog (fnV 14) #[] w fun t70 w =>
  pickP t68 t70 (Value.bool false) fun t71 =>
  m5_6 R t71 w)
  (pickP t68 undef (Value.bool false) fun t71 =>
  m5_6 R t71 w))))
  (pickP t52 undef (Value.bool false) fun t56 =>
  condP t56
  (callP Try.prog (fnV 17) #[a7, members1, parts0] w fun t61 w =>
  pickP t56 t61 (Value.bool false) fun t62 =>
  condP t62
  (callP Try.prog (fnV 17) #[b9, members1, parts0] w fun t67 w =>
  pickP t62 t67 (Value.bool false) fun t68 =>
  condP t68
  (callP Try.prog (fnV 14) #[] w fun t70 w =>
  pickP t68 t70 (Value.bool false) fun t71 =>
  m5_6 R t71 w)
  (pickP t68 undef (Value.bool false) fun t71 =>
  m5_6 R t71 w))
  (pickP t62 undef (Value.bool false) fun t68 =>
  condP t68
  (callP Try.prog (fnV 14) #[] w fun t70 w =>
  pickP t68 t70 (Value.bool false) fun t71 =>
  m5_6 R t71 w)
  (pickP t68 undef (Value.bool false) fun t71 =>
  m5_6 R t71 w)))
  (pickP t56 undef (Value.bool false) fun t62 =>
  condP t62
  (callP Try.prog (fnV 17) #[b9, members1, parts0] w fun t67 w =>
  pickP t62 t67 (Value.bool false) fun t68 =>
  condP t68
  (callP Try.prog (fnV 14) #[] w fun t70 w =>
  pickP t68 t70 (Value.bool false) fun t71 =>
  m5_6 R t71 w)
  (pickP t68 undef (Value.bool false) fun t71 =>
  m5_6 R t71 w))
  (pickP t62 undef (Value.bool false) fun t68 =>
  condP t68
  (callP Try.prog (fnV 14) #[] w fun t70 w =>
  pickP t68 t70 (Value.bool false) fun t71 =>
  m5_6 R t71 w)
  (pickP t68 undef (Value.bool false) fun t71 =>
  m5_6 R t71 w))))
def m5_7 (R : Value → World → Prop) (parts0 : Value) (members1 : Value) (a7 : Value) (e8 : Value) (b9 : Value) (f10 : Value) (t33 : Value) (w : World) : Prop :=
  condP t33
  (valP Try.prog (binS BinOp.eql 24 (Operand.tmp 34) (Operand.const (Value.int IntKind.i64 1)) e8 (Value.int IntKind.i64 1)) w fun t35 w =>
  condP t35
  (valP Try.prog (binS BinOp.eql 24 (Operand.tmp 37) (Operand.const (Value.int IntKind.i64 1)) f10 (Value.int IntKind.i64 1)) w fun t38 w =>
  pickP t35 t38 (Value.bool false) fun t39 =>
  condP t39
  (builtinP Try.prog Builtin.len #[22] 3 #[false] #[a7] w fun t42 w =>
  builtinP Try.prog Builtin.len #[22] 3 #[false] #[b9] w fun t44 w =>
  valP Try.prog (binS BinOp.add 3 (Operand.tmp 42) (Operand.tmp 44) t42 t44) w fun t45 w =>
  valP Try.prog (binS BinOp.eql 3 (Operand.tmp 45) (Operand.const (Value.int IntKind.i64 0)) t45 (Value.int IntKind.i64 0)) w fun t46 w =>
  pickP t39 t46 (Value.bool false) fun t47 =>
  condP t47
  (callP Try.prog (fnV 14) #[] w fun t49 w =>
  pickP t47 t49 (Value.bool false) fun t50 =>
  m5_8 R t50 w)
  (pickP t47 undef (Value.bool false) fun t50 =>
  m5_8 R t50 w))
  (pickP t39 undef (Value.bool false) fun t47 =>
  condP t47
  (callP Try.prog (fnV 14) #[] w fun t49 w =>
  pickP t47 t49 (Value.bool false) fun t50 =>
  m5_8 R t50 w)
  (pickP t47 undef (Value.bool false) fun t50 =>
  m5_8 R t50 w)))
  (pickP t35 undef (Value.bool false) fun t39 =>
  condP t39
  (builtinP Try.prog Builtin.len #[22] 3 #[false] #[a7] w fun t42 w =>
  builtinP Try.prog Builtin.len #[22] 3 #[false] #[b9] w fun t44 w =>
  valP Try.prog (binS BinOp.add 3 (Operand.tmp 42) (Operand.tmp 44) t42 t44) w fun t45 w =>
  valP Try.prog (binS BinOp.eql 3 (Operand.tmp 45) (Operand.const (Value.int IntKind.i64 0)) t45 (Value.int IntKind.i64 0)) w fun t46 w =>
  pickP t39 t46 (Value.bool false) fun t47 =>
  condP t47
  (callP Try.prog (fnV 14) #[] w fun t49 w =>
  pickP t47 t49 (Value.bool false) fun t50 =>
  m5_8 R t50 w)
  (pickP t47 undef (Value.bool false) fun t50 =>
  m5_8 R t50 w))
  (pickP t39 undef (Value.bool false) fun t47 =>
  condP t47
  (callP Try.prog (fnV 14) #[] w fun t49 w =>
  pickP t47 t49 (Value.bool false) fun t50 =>
  m5_8 R t50 w)
  (pickP t47 undef (Value.bool false) fun t50 =>
  m5_8 R t50 w))))
  (m5_5 R parts0 members1 a7 e8 b9 f10 w)
def m5_4 (R : Value → World → Prop) (parts0 : Value) (members1 : Value) (a7 : Value) (e8 : Value) (b9 : Value) (f10 : Value) (w : World) : Prop :=
  valP Try.prog (binS BinOp.lss 3 (Operand.tmp 28) (Operand.const (Value.int IntKind.i64 1)) parts0 (Value.int IntKind.i64 1)) w fun t29 w =>
  condP t29
  (pickP t29 (Value.bool true) undef fun t33 =>
  m5_7 R parts0 members1 a7 e8 b9 f10 t33 w)
  (valP Try.prog (binS BinOp.gtr 3 (Operand.tmp 31) (Operand.const (Value.int IntKind.i64 64)) parts0 (Value.int IntKind.i64 64)) w fun t32 w =>
  pickP t29 (Value.bool true) t32 fun t33 =>
  m5_7 R parts0 members1 a7 e8 b9 f10 t33 w)
def m5_3 (R : Value → World → Prop) (parts0 : Value) (members1 : Value) (old2 : Value) (a7 : Value) (e8 : Value) (w : World) : Prop :=
  callP Try.prog (fnV 15) #[parts0, members1, old2] w fun t25 w =>
  valP Try.prog (Instr.extract t25 0) w fun t26 w =>
  valP Try.prog (Instr.extract t25 1) w fun t27 w =>
  m5_4 R parts0 members1 a7 e8 t26 t27 w
def m5_2 (R : Value → World → Prop) (parts0 : Value) (members1 : Value) (old2 : Value) (w : World) : Prop :=
  callP Try.prog (fnV 11) #[parts0, members1] w fun t18 w =>
  valP Try.prog (Instr.extract t18 0) w fun t19 w =>
  valP Try.prog (Instr.extract t18 1) w fun t20 w =>
  m5_3 R parts0 members1 old2 t19 t20 w
def m5_1 (R : Value → World → Prop) (parts0 : Value) (members1 : Value) (old2 : Value) (w : World) : Prop :=
  callP Try.prog (fnV 10) #[members1] w fun t12 w =>
  callP Try.prog (fnV 10) #[old2] w fun t14 w =>
  m5_2 R parts0 t12 t14 w
def m5_0 (R : Value → World → Prop) (parts0 : Value) (members1 : Value) (old2 : Value) (w : World) : Prop :=
  m5_1 R parts0 members1 old2 w
abbrev W5 := cwp Try.prog (fun i => 0)
noncomputable def k5_0 : Code := (bodyOf Try.f5)
noncomputable def k5_1 : Code := (c2 k5_0)
noncomputable def k5_2 : Code := (c2 k5_1)
noncomputable def k5_3 : Code := (c2 k5_2)
noncomputable def k5_4 : Code := (c2 k5_3)
noncomputable def k5_5 : Code := (c2 k5_4)
noncomputable def k5_6 : Code := (c2 k5_5)
noncomputable def k5_7 : Code := (c2 (c1 k5_4))
noncomputable def k5_8 : Code := (c2 (c1 k5_7))
theorem s5_8 {R : Value → World → Prop} {Q : Exit → Env → World → Prop} (hR : ∀ e w, (R (e 6) w) → Q .ret e w) (e : Env) (w : World) (h : m5_8 R (e 6) w) : W5 k5_8 Q e w := by
  unfold m5_8 at h
  exact ret_ok (by kernel_rfl) (hR _ _ h)
theorem s5_6 {R : Value → World → Prop} {Q : Exit → Env → World → Prop} (hR : ∀ e w, (R (e 6) w) → Q .ret e w) (e : Env) (w : World) (h : m5_6 R (e 6) w) : W5 k5_6 Q e w := by
  unfold m5_6 at h
  exact ret_ok (by kernel_rfl) (hR _ _ h)
theorem s5_5 {R : Value → World → Prop} {Q : Exit → Env → World → Prop} (hR : ∀ e w, (R (e 6) w) → Q .ret e w) (e : Env) (w : World) (h : m5_5 R (e 0) (e 1) (e 7) (e 8) (e 9) (e 10) w) : W5 k5_5 Q e w := by
  unfold m5_5 at h
  refine seq_ok' (by kernel_rfl) ?_
  have hN' : ∀ e w, (m5_6 R (e 6) w) → (thenE (W5 k5_6 Q) Q) .normal e w := fun e w h => then_N (s5_6 (R := R) (Q := Q) hR e w h)
  have hN := hN'
  exact region_ok 6 (fun e w => m5_6 R (e 6) w) (by kernel_rfl) (kcast (by kernel_rfl) h) hN (by kernel_rfl)
theorem s5_7 {R : Value → World → Prop} {Q : Exit → Env → World → Prop} (hN : ∀ e w, (m5_5 R (e 0) (e 1) (e 7) (e 8) (e 9) (e 10) w) → Q .normal e w) (hR : ∀ e w, (R (e 6) w) → Q .ret e w) (e : Env) (w : World) (h : m5_7 R (e 0) (e 1) (e 7) (e 8) (e 9) (e 10) (e 33) w) : W5 k5_7 Q e w := by
  unfold m5_7 at h
  refine cond_ok (Operand.tmp 33) (by kernel_rfl) h (fun h1 => ?_) (fun h1 => ?_)
  · refine seq_ok' (by kernel_rfl) ?_
    have hN' : ∀ e w, (m5_8 R (e 6) w) → (thenE (W5 k5_8 Q) Q) .normal e w := fun e w h => then_N (s5_8 (R := R) (Q := Q) hR e w h)
    have hN := hN'
    exact region_ok 5 (fun e w => m5_8 R (e 6) w) (by kernel_rfl) (kcast (by kernel_rfl) h1) hN (by kernel_rfl)
  · exact skip_ok (by kernel_rfl) (hN _ _ h1)
theorem s5_4 {R : Value → World → Prop} {Q : Exit → Env → World → Prop} (hR : ∀ e w, (R (e 6) w) → Q .ret e w) (e : Env) (w : World) (h : m5_4 R (e 0) (e 1) (e 7) (e 8) (e 9) (e 10) w) : W5 k5_4 Q e w := by
  unfold m5_4 at h
  refine seq_ok' (by kernel_rfl) ?_
  have hN' : ∀ e w, (m5_5 R (e 0) (e 1) (e 7) (e 8) (e 9) (e 10) w) → (thenE (W5 k5_5 Q) Q) .normal e w := fun e w h => then_N (s5_5 (R := R) (Q := Q) hR e w h)
  have hR : ∀ e w, (R (e 6) w) → (thenE (W5 k5_5 Q) Q) .ret e w := fun e w h => then_R (hR e w h)
  have hN := hN'
  refine seq_ok' (by kernel_rfl) ?_
  have hN' : ∀ e w, (m5_7 R (e 0) (e 1) (e 7) (e 8) (e 9) (e 10) (e 33) w) → (thenE (W5 k5_7 (thenE (W5 k5_5 Q) Q)) (thenE (W5 k5_5 Q) Q)) .normal e w := fun e w h => then_N (s5_7 (R := R) (Q := (thenE (W5 k5_5 Q) Q)) hN hR e w h)
  have hN := hN'
  exact region_ok 4 (fun e w => m5_7 R (e 0) (e 1) (e 7) (e 8) (e 9) (e 10) (e 33) w) (by kernel_rfl) (kcast (by kernel_rfl) h) hN (by kernel_rfl)
theorem s5_3 {R : Value → World → Prop} {Q : Exit → Env → World → Prop} (hR : ∀ e w, (R (e 6) w) → Q .ret e w) (e : Env) (w : World) (h : m5_3 R (e 0) (e 1) (e 2) (e 7) (e 8) w) : W5 k5_3 Q e w := by
  unfold m5_3 at h
  refine seq_ok' (by kernel_rfl) ?_
  have hN' : ∀ e w, (m5_4 R (e 0) (e 1) (e 7) (e 8) (e 9) (e 10) w) → (thenE (W5 k5_4 Q) Q) .normal e w := fun e w h => then_N (s5_4 (R := R) (Q := Q) hR e w h)
  have hN := hN'
  exact region_ok 3 (fun e w => m5_4 R (e 0) (e 1) (e 7) (e 8) (e 9) (e 10) w) (by kernel_rfl) (kcast (by kernel_rfl) h) hN (by kernel_rfl)
theorem s5_2 {R : Value → World → Prop} {Q : Exit → Env → World → Prop} (hR : ∀ e w, (R (e 6) w) → Q .ret e w) (e : Env) (w : World) (h : m5_2 R (e 0) (e 1) (e 2) w) : W5 k5_2 Q e w := by
  unfold m5_2 at h
  refine seq_ok' (by kernel_rfl) ?_
  have hN' : ∀ e w, (m5_3 R (e 0) (e 1) (e 2) (e 7) (e 8) w) → (thenE (W5 k5_3 Q) Q) .normal e w := fun e w h => then_N (s5_3 (R := R) (Q := Q) hR e w h)
  have hN := hN'
  exact region_ok 2 (fun e w => m5_3 R (e 0) (e 1) (e 2) (e 7) (e 8) w) (by kernel_rfl) (kcast (by kernel_rfl) h) hN (by kernel_rfl)
theorem s5_1 {R : Value → World → Prop} {Q : Exit → Env → World → Prop} (hR : ∀ e w, (R (e 6) w) → Q .ret e w) (e : Env) (w : World) (h : m5_1 R (e 0) (e 1) (e 2) w) : W5 k5_1 Q e w := by
  unfold m5_1 at h
  refine seq_ok' (by kernel_rfl) ?_
  have hN' : ∀ e w, (m5_2 R (e 0) (e 1) (e 2) w) → (thenE (W5 k5_2 Q) Q) .normal e w := fun e w h => then_N (s5_2 (R := R) (Q := Q) hR e w h)
  have hN := hN'
  exact region_ok 1 (fun e w => m5_2 R (e 0) (e 1) (e 2) w) (by kernel_rfl) (kcast (by kernel_rfl) h) hN (by kernel_rfl)
theorem s5_0 {R : Value → World → Prop} {Q : Exit → Env → World → Prop} (hR : ∀ e w, (R (e 6) w) → Q .ret e w) (e : Env) (w : World) (h : m5_0 R (e 0) (e 1) (e 2) w) : W5 k5_0 Q e w := by
  unfold m5_0 at h
  refine seq_ok' (by kernel_rfl) ?_
  have hN' : ∀ e w, (m5_1 R (e 0) (e 1) (e 2) w) → (thenE (W5 k5_1 Q) Q) .normal e w := fun e w h => then_N (s5_1 (R := R) (Q := Q) hR e w h)
  have hN := hN'
  exact region_ok 0 (fun e w => m5_1 R (e 0) (e 1) (e 2) w) (by kernel_rfl) (kcast (by kernel_rfl) h) hN (by kernel_rfl)
abbrev m5 (R : Value → World → Prop) (parts0 : Value) (members1 : Value) (old2 : Value) (w : World) : Prop := m5_0 R parts0 members1 old2 w
theorem s5 (parts0 : Value) (members1 : Value) (old2 : Value) {R : Value → World → Prop} {w : World} (h : m5 R parts0 members1 old2 w) :
    Calls Try.prog 5 #[parts0, members1, old2] w fun e w' => ∃ v, e = .returned v ∧ R v w' :=
  calls_of_cwp (st := (fun i => 0)) (c := k5_0) (by kernel_rfl) Try.func5 (by kernel_rfl) (Nat.le_of_ble_eq_true (by kernel_rfl)) (by kernel_rfl)
    (s5_0 (R := R) (Q := endE Try.prog Try.f5 R) (fun e w h => kcast (by kernel_rfl) h) (argsE #[parts0, members1, old2]) w (kcast (by kernel_rfl) h))
end Go.Proofs.Ytlgafiekogajfaa.M
