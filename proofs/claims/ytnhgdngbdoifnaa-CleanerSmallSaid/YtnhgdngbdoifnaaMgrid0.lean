/- What functions' texts ask of their ends, told over values that have names; printed by a program of this work. -/
import Derived.Test.YtnhgdngbdoifnaaFw
import Derived.Test.YtnhgdngbdoifnaaProg
namespace Go.Proofs.Ytnhgdngbdoifnaa.M
open Go.Proofs.Ytnhgdngbdoifnaa.F
set_option linter.unusedVariables false
set_option maxRecDepth 100000
/-! ### headgate/headgateref14.May -/
def m27_13 (R : VP) (t2 : Value) (w : World) : Prop :=
  R t2 w
def m27_10 (R : VP) (K1 : VP) (t2 : Value) (w : World) : Prop :=
  R t2 w
def m27_8 (R : VP) (K1 : VP) (g1 k3 : Value) (w : World) : Prop :=
  valP Try.prog (binS BinOp.add 3 (Operand.tmp 36) (Operand.const (Value.int IntKind.i64 1)) k3 (Value.int IntKind.i64 1)) w fun t37 w =>
  K1 t37 w
def m27_9 (R : VP) (K1 : VP) (g1 k3 t44 : Value) (w : World) : Prop :=
  condP t44
  (m27_10 R K1 (Value.bool true) w)
  (m27_8 R K1 g1 k3 w)
def m27_7 (R : VP) (K1 : VP) (g1 k3 : Value) (w : World) : Prop :=
  valP Try.prog (Instr.fieldAt 23 g1 1) w fun t39 w =>
  valP Try.prog (Instr.loadAt 3 t39) w fun t40 w =>
  valP Try.prog (binS BinOp.mul 3 (Operand.tmp 38) (Operand.tmp 40) k3 t40) w fun t41 w =>
  valP Try.prog (Instr.fieldAt 23 g1 0) w fun t42 w =>
  valP Try.prog (Instr.loadAt 3 t42) w fun t43 w =>
  valP Try.prog (binS BinOp.eql 3 (Operand.tmp 41) (Operand.tmp 43) t41 t43) w fun t44 w =>
  m27_9 R K1 g1 k3 t44 w
def m27_4 (R : VP) (t2 : Value) (w : World) : Prop :=
  R t2 w
def m27_3 (R : VP) (w : World) : Prop :=
  m27_4 R (Value.bool false) w
def m27_11 (R : VP) (K1 : VP) (g1 k3 t35 : Value) (w : World) : Prop :=
  condP t35
  (m27_7 R K1 g1 k3 w)
  (m27_3 R w)
def m27_6 (R : VP) (K1 : VP) (g1 k3 : Value) (w : World) : Prop :=
  valP Try.prog (binS BinOp.leq 3 (Operand.tmp 34) (Operand.const (Value.int IntKind.i64 8)) k3 (Value.int IntKind.i64 8)) w fun t35 w =>
  m27_11 R K1 g1 k3 t35 w
def m27_5 (R : VP) (g1 k3 : Value) (w : World) : Prop :=
  loopP (fun (K1 : VP) (s : Value) w => m27_6 R K1 g1 s w) k3 w
def m27_2 (R : VP) (g1 : Value) (w : World) : Prop :=
  m27_5 R g1 (Value.int IntKind.i64 1) w
def m27_12 (R : VP) (g1 t33 : Value) (w : World) : Prop :=
  condP t33
  (m27_13 R (Value.bool false) w)
  (m27_2 R g1 w)
def m27_1 (R : VP) (g1 : Value) (w : World) : Prop :=
  valP Try.prog (Instr.fieldAt 23 g1 0) w fun t4 w =>
  valP Try.prog (Instr.loadAt 3 t4) w fun t5 w =>
  valP Try.prog (binS BinOp.lss 3 (Operand.tmp 5) (Operand.const (Value.int IntKind.i64 1)) t5 (Value.int IntKind.i64 1)) w fun t6 w =>
  condP t6
  (pickP t6 (Value.bool true) undef fun t11 =>
  pickP t11 (Value.bool true) undef fun t16 =>
  pickP t16 (Value.bool true) undef fun t23 =>
  pickP t23 (Value.bool true) undef fun t28 =>
  pickP t28 (Value.bool true) undef fun t33 =>
  m27_12 R g1 t33 w)
  (valP Try.prog (Instr.fieldAt 23 g1 0) w fun t8 w =>
  valP Try.prog (Instr.loadAt 3 t8) w fun t9 w =>
  valP Try.prog (binS BinOp.gtr 3 (Operand.tmp 9) (Operand.const (Value.int IntKind.i64 1048576)) t9 (Value.int IntKind.i64 1048576)) w fun t10 w =>
  pickP t6 (Value.bool true) t10 fun t11 =>
  condP t11
  (pickP t11 (Value.bool true) undef fun t16 =>
  pickP t16 (Value.bool true) undef fun t23 =>
  pickP t23 (Value.bool true) undef fun t28 =>
  pickP t28 (Value.bool true) undef fun t33 =>
  m27_12 R g1 t33 w)
  (valP Try.prog (Instr.fieldAt 23 g1 1) w fun t13 w =>
  valP Try.prog (Instr.loadAt 3 t13) w fun t14 w =>
  valP Try.prog (binS BinOp.lss 3 (Operand.tmp 14) (Operand.const (Value.int IntKind.i64 1)) t14 (Value.int IntKind.i64 1)) w fun t15 w =>
  pickP t11 (Value.bool true) t15 fun t16 =>
  condP t16
  (pickP t16 (Value.bool true) undef fun t23 =>
  pickP t23 (Value.bool true) undef fun t28 =>
  pickP t28 (Value.bool true) undef fun t33 =>
  m27_12 R g1 t33 w)
  (valP Try.prog (Instr.fieldAt 23 g1 1) w fun t18 w =>
  valP Try.prog (Instr.loadAt 3 t18) w fun t19 w =>
  valP Try.prog (Instr.fieldAt 23 g1 0) w fun t20 w =>
  valP Try.prog (Instr.loadAt 3 t20) w fun t21 w =>
  valP Try.prog (binS BinOp.gtr 3 (Operand.tmp 19) (Operand.tmp 21) t19 t21) w fun t22 w =>
  pickP t16 (Value.bool true) t22 fun t23 =>
  condP t23
  (pickP t23 (Value.bool true) undef fun t28 =>
  pickP t28 (Value.bool true) undef fun t33 =>
  m27_12 R g1 t33 w)
  (valP Try.prog (Instr.fieldAt 23 g1 2) w fun t25 w =>
  valP Try.prog (Instr.loadAt 3 t25) w fun t26 w =>
  valP Try.prog (binS BinOp.lss 3 (Operand.tmp 26) (Operand.const (Value.int IntKind.i64 0)) t26 (Value.int IntKind.i64 0)) w fun t27 w =>
  pickP t23 (Value.bool true) t27 fun t28 =>
  condP t28
  (pickP t28 (Value.bool true) undef fun t33 =>
  m27_12 R g1 t33 w)
  (valP Try.prog (Instr.fieldAt 23 g1 2) w fun t30 w =>
  valP Try.prog (Instr.loadAt 3 t30) w fun t31 w =>
  valP Try.prog (binS BinOp.gtr 3 (Operand.tmp 31) (Operand.const (Value.int IntKind.i64 1048576)) t31 (Value.int IntKind.i64 1048576)) w fun t32 w =>
  pickP t28 (Value.bool true) t32 fun t33 =>
  m27_12 R g1 t33 w)))))
def m27_0 (R : VP) (g0 : Value) (w : World) : Prop :=
  valP Try.prog (Instr.box 23 g0) w fun g1 w =>
  m27_1 R g1 w
abbrev W27 := cwp Try.prog (fun i => 0)
noncomputable def k27_0 : Code := (bodyOf Try.f27)
noncomputable def k27_1 : Code := (c2 k27_0)
noncomputable def k27_2 : Code := (c2 k27_1)
noncomputable def k27_3 : Code := (c2 k27_2)
noncomputable def k27_4 : Code := (c2 k27_3)
noncomputable def k27_5 : Code := (c2 (c1 k27_2))
noncomputable def k27_6 : Code := (c1 (c1 k27_5))
noncomputable def k27_7 : Code := (c2 k27_6)
noncomputable def k27_8 : Code := (c2 k27_7)
noncomputable def k27_9 : Code := (c2 (c1 (c1 k27_7)))
noncomputable def k27_10 : Code := (c2 (c1 k27_9))
noncomputable def k27_11 : Code := (c2 (c1 k27_6))
noncomputable def k27_12 : Code := (c2 (c1 k27_1))
noncomputable def k27_13 : Code := (c2 (c1 k27_12))
theorem s27_13 {R : VP} {Q : EQ} (hR : ∀ e w, (R (e 2) w) → Q .ret e w) (e : Env) (w : World) (h : m27_13 R (e 2) w) : W27 k27_13 Q e w := by
  unfold m27_13 at h
  exact reA (hR _ _ h)
theorem s27_10 {R : VP} {K1 : VP} {Q : EQ} (hR : ∀ e w, (R (e 2) w) → Q .ret e w) (e : Env) (w : World) (h : m27_10 R K1 (e 2) w) : W27 k27_10 Q e w := by
  unfold m27_10 at h
  exact reA (hR _ _ h)
theorem s27_8 {R : VP} {K1 : VP} {Q : EQ} (hN : ∀ e w, (K1 (e 3) w) → Q .normal e w) (e : Env) (w : World) (h : m27_8 R K1 (e 1) (e 3) w) : W27 k27_8 Q e w := by
  unfold m27_8 at h
  exact rgA 5 (fun e w => K1 (e 3) w) h hN
theorem s27_9 {R : VP} {K1 : VP} {Q : EQ} (hN : ∀ e w, (m27_8 R K1 (e 1) (e 3) w) → Q .normal e w) (hR : ∀ e w, (R (e 2) w) → Q .ret e w) (e : Env) (w : World) (h : m27_9 R K1 (e 1) (e 3) (e 44) w) : W27 k27_9 Q e w := by
  unfold m27_9 at h
  refine coA (Operand.tmp 44) h (fun h1 => ?_) (fun h1 => ?_)
  · refine seA ?_
    have hN : ∀ e w, (m27_10 R K1 (e 2) w) → (thenE (W27 k27_10 Q) Q) .normal e w := fun e w h => then_N (s27_10 (R := R) (Q := Q) (K1 := K1) hR e w h)
    exact rgA 7 (fun e w => m27_10 R K1 (e 2) w) h1 hN
  · exact skA (hN _ _ h1)
theorem s27_7 {R : VP} {K1 : VP} {Q : EQ} (hN : ∀ e w, (K1 (e 3) w) → Q .normal e w) (hR : ∀ e w, (R (e 2) w) → Q .ret e w) (e : Env) (w : World) (h : m27_7 R K1 (e 1) (e 3) w) : W27 k27_7 Q e w := by
  unfold m27_7 at h
  refine seA ?_
  have hN : ∀ e w, (m27_8 R K1 (e 1) (e 3) w) → (thenE (W27 k27_8 Q) Q) .normal e w := fun e w h => then_N (s27_8 (R := R) (Q := Q) (K1 := K1) hN e w h)
  have hR : ∀ e w, (R (e 2) w) → (thenE (W27 k27_8 Q) Q) .ret e w := fun e w h => then_R (hR e w h)
  refine block_ok 1 (by kernel_rfl) ?_
  have hN : ∀ e w, (m27_8 R K1 (e 1) (e 3) w) → (inBlockE 1 (thenE (W27 k27_8 Q) Q)) .normal e w := fun e w h => block_N (hN e w h)
  have hR : ∀ e w, (R (e 2) w) → (inBlockE 1 (thenE (W27 k27_8 Q) Q)) .ret e w := fun e w h => block_R (hR e w h)
  refine seA ?_
  have hN : ∀ e w, (m27_9 R K1 (e 1) (e 3) (e 44) w) → (thenE (W27 k27_9 (inBlockE 1 (thenE (W27 k27_8 Q) Q))) (inBlockE 1 (thenE (W27 k27_8 Q) Q))) .normal e w := fun e w h => then_N (s27_9 (R := R) (Q := (inBlockE 1 (thenE (W27 k27_8 Q) Q))) (K1 := K1) hN hR e w h)
  exact rgA 6 (fun e w => m27_9 R K1 (e 1) (e 3) (e 44) w) h hN
theorem s27_4 {R : VP} {Q : EQ} (hR : ∀ e w, (R (e 2) w) → Q .ret e w) (e : Env) (w : World) (h : m27_4 R (e 2) w) : W27 k27_4 Q e w := by
  unfold m27_4 at h
  exact reA (hR _ _ h)
theorem s27_3 {R : VP} {Q : EQ} (hR : ∀ e w, (R (e 2) w) → Q .ret e w) (e : Env) (w : World) (h : m27_3 R w) : W27 k27_3 Q e w := by
  unfold m27_3 at h
  refine seA ?_
  have hN : ∀ e w, (m27_4 R (e 2) w) → (thenE (W27 k27_4 Q) Q) .normal e w := fun e w h => then_N (s27_4 (R := R) (Q := Q) hR e w h)
  exact rgA 8 (fun e w => m27_4 R (e 2) w) h hN
theorem s27_11 {R : VP} {K1 : VP} {Q : EQ} (hN : ∀ e w, (m27_7 R K1 (e 1) (e 3) w) → Q .normal e w) (hX0 : ∀ e w, (m27_3 R w) → Q (.exit 0) e w) (e : Env) (w : World) (h : m27_11 R K1 (e 1) (e 3) (e 35) w) : W27 k27_11 Q e w := by
  unfold m27_11 at h
  refine coA (Operand.tmp 35) h (fun h1 => ?_) (fun h1 => ?_)
  · exact skA (hN _ _ h1)
  · exact exA 0 (hX0 _ _ h1)
theorem s27_6 {R : VP} {K1 : VP} {Q : EQ} (hN : ∀ e w, (K1 (e 3) w) → Q .normal e w) (hR : ∀ e w, (R (e 2) w) → Q .ret e w) (hX0 : ∀ e w, (m27_3 R w) → Q (.exit 0) e w) (e : Env) (w : World) (h : m27_6 R K1 (e 1) (e 3) w) : W27 k27_6 Q e w := by
  unfold m27_6 at h
  refine seA ?_
  have hN : ∀ e w, (m27_7 R K1 (e 1) (e 3) w) → (thenE (W27 k27_7 Q) Q) .normal e w := fun e w h => then_N (s27_7 (R := R) (Q := Q) (K1 := K1) hN hR e w h)
  have hX0 : ∀ e w, (m27_3 R w) → (thenE (W27 k27_7 Q) Q) (.exit 0) e w := fun e w h => then_X (hX0 e w h)
  refine seA ?_
  have hN : ∀ e w, (m27_11 R K1 (e 1) (e 3) (e 35) w) → (thenE (W27 k27_11 (thenE (W27 k27_7 Q) Q)) (thenE (W27 k27_7 Q) Q)) .normal e w := fun e w h => then_N (s27_11 (R := R) (Q := (thenE (W27 k27_7 Q) Q)) (K1 := K1) hN hX0 e w h)
  exact rgA 4 (fun e w => m27_11 R K1 (e 1) (e 3) (e 35) w) h hN
theorem s27_5 {R : VP} {Q : EQ} (hN : ∀ e w, (m27_3 R w) → Q .normal e w) (hR : ∀ e w, (R (e 2) w) → Q .ret e w) (e : Env) (w : World) (h : m27_5 R (e 1) (e 3) w) : W27 k27_5 Q e w := by
  unfold m27_5 at h
  refine block_ok 0 (by kernel_rfl) ?_
  have hX0 : ∀ e w, (m27_3 R w) → (inBlockE 0 Q) (.exit 0) e w := fun e w h => inBlock_same (Q := Q) 0 (hN e w h)
  have hR : ∀ e w, (R (e 2) w) → (inBlockE 0 Q) .ret e w := fun e w h => block_R (hR e w h)
  refine loop_ok' (fun (e : Env) => e 3) [1] (by kernel_rfl) (by kernel_rfl) h (fun K e' w' hk h' => ?_)
  have r1 : e' 1 = e 1 := hk 1 (by decide)
  have hR : ∀ e w, (R (e 2) w) → (thenE (fun (e : Env) w => K (e 3) w) (inBlockE 0 Q)) .ret e w := fun e w h => then_R (hR e w h)
  have hX0 : ∀ e w, (m27_3 R w) → (thenE (fun (e : Env) w => K (e 3) w) (inBlockE 0 Q)) (.exit 0) e w := fun e w h => then_X (hX0 e w h)
  exact s27_6 (R := R) (Q := (thenE (fun (e : Env) w => K (e 3) w) (inBlockE 0 Q))) (K1 := K) (fun _ _ h => then_N h) hR hX0 e' w' (by rw [r1]; exact h')
theorem s27_2 {R : VP} {Q : EQ} (hR : ∀ e w, (R (e 2) w) → Q .ret e w) (e : Env) (w : World) (h : m27_2 R (e 1) w) : W27 k27_2 Q e w := by
  unfold m27_2 at h
  refine seA ?_
  have hN : ∀ e w, (m27_3 R w) → (thenE (W27 k27_3 Q) Q) .normal e w := fun e w h => then_N (s27_3 (R := R) (Q := Q) hR e w h)
  have hR : ∀ e w, (R (e 2) w) → (thenE (W27 k27_3 Q) Q) .ret e w := fun e w h => then_R (hR e w h)
  refine seA ?_
  have hN : ∀ e w, (m27_5 R (e 1) (e 3) w) → (thenE (W27 k27_5 (thenE (W27 k27_3 Q) Q)) (thenE (W27 k27_3 Q) Q)) .normal e w := fun e w h => then_N (s27_5 (R := R) (Q := (thenE (W27 k27_3 Q) Q)) hN hR e w h)
  exact rgA 3 (fun e w => m27_5 R (e 1) (e 3) w) h hN
theorem s27_12 {R : VP} {Q : EQ} (hN : ∀ e w, (m27_2 R (e 1) w) → Q .normal e w) (hR : ∀ e w, (R (e 2) w) → Q .ret e w) (e : Env) (w : World) (h : m27_12 R (e 1) (e 33) w) : W27 k27_12 Q e w := by
  unfold m27_12 at h
  refine coA (Operand.tmp 33) h (fun h1 => ?_) (fun h1 => ?_)
  · refine seA ?_
    have hN : ∀ e w, (m27_13 R (e 2) w) → (thenE (W27 k27_13 Q) Q) .normal e w := fun e w h => then_N (s27_13 (R := R) (Q := Q) hR e w h)
    exact rgA 2 (fun e w => m27_13 R (e 2) w) h1 hN
  · exact skA (hN _ _ h1)
theorem s27_1 {R : VP} {Q : EQ} (hR : ∀ e w, (R (e 2) w) → Q .ret e w) (e : Env) (w : World) (h : m27_1 R (e 1) w) : W27 k27_1 Q e w := by
  unfold m27_1 at h
  refine seA ?_
  have hN : ∀ e w, (m27_2 R (e 1) w) → (thenE (W27 k27_2 Q) Q) .normal e w := fun e w h => then_N (s27_2 (R := R) (Q := Q) hR e w h)
  have hR : ∀ e w, (R (e 2) w) → (thenE (W27 k27_2 Q) Q) .ret e w := fun e w h => then_R (hR e w h)
  refine seA ?_
  have hN : ∀ e w, (m27_12 R (e 1) (e 33) w) → (thenE (W27 k27_12 (thenE (W27 k27_2 Q) Q)) (thenE (W27 k27_2 Q) Q)) .normal e w := fun e w h => then_N (s27_12 (R := R) (Q := (thenE (W27 k27_2 Q) Q)) hN hR e w h)
  exact rgK 1 (fun e w => m27_12 R (e 1) (e 33) w) h hN
theorem s27_0 {R : VP} {Q : EQ} (hR : ∀ e w, (R (e 2) w) → Q .ret e w) (e : Env) (w : World) (h : m27_0 R (e 0) w) : W27 k27_0 Q e w := by
  unfold m27_0 at h
  refine seA ?_
  have hN : ∀ e w, (m27_1 R (e 1) w) → (thenE (W27 k27_1 Q) Q) .normal e w := fun e w h => then_N (s27_1 (R := R) (Q := Q) hR e w h)
  exact rgA 0 (fun e w => m27_1 R (e 1) w) h hN
abbrev m27 (R : VP) (g0 : Value) (w : World) : Prop := m27_0 R g0 w
theorem s27 (g0 : Value) {R : VP} {w : World} (h : m27 R g0 w) :
    Calls Try.prog 27 #[g0] w fun e w' => ∃ v, e = .returned v ∧ R v w' :=
  calls_of_cwp (st := (fun i => 0)) (c := k27_0) (by kernel_rfl) Try.func27 (by kernel_rfl) (Nat.le_of_ble_eq_true (by kernel_rfl)) (by kernel_rfl)
    (s27_0 (R := R) (Q := endE Try.prog Try.f27 R) (fun e w h => kcast (by kernel_rfl) h) (argsE #[g0]) w (kcast (by kernel_rfl) h))
/-! ### headgate/headgateref14.Closed -/
def m29_2 (R : VP) (t6 : Value) (w : World) : Prop :=
  R t6 w
def m29_1 (R : VP) (start1 mark2 g3 : Value) (w : World) : Prop :=
  valP Try.prog (Instr.loadAt 23 g3) w fun t7 w =>
  callP Try.prog (fnV 27) #[t7] w fun t8 w =>
  condP t8
  (valP Try.prog (binS BinOp.geq 3 (Operand.tmp 10) (Operand.const (Value.int IntKind.i64 0)) mark2 (Value.int IntKind.i64 0)) w fun t11 w =>
  pickP t8 t11 (Value.bool false) fun t12 =>
  condP t12
  (valP Try.prog (Instr.fieldAt 23 g3 0) w fun t16 w =>
  valP Try.prog (Instr.loadAt 3 t16) w fun t17 w =>
  valP Try.prog (Instr.fieldAt 23 g3 2) w fun t18 w =>
  valP Try.prog (Instr.loadAt 3 t18) w fun t19 w =>
  valP Try.prog (binS BinOp.add 3 (Operand.tmp 17) (Operand.tmp 19) t17 t19) w fun t20 w =>
  valP Try.prog (binS BinOp.sub 3 (Operand.tmp 15) (Operand.tmp 20) mark2 t20) w fun t21 w =>
  valP Try.prog (binS BinOp.leq 3 (Operand.tmp 14) (Operand.tmp 21) start1 t21) w fun t22 w =>
  pickP t12 t22 (Value.bool false) fun t23 =>
  m29_2 R t23 w)
  (pickP t12 undef (Value.bool false) fun t23 =>
  m29_2 R t23 w))
  (pickP t8 undef (Value.bool false) fun t12 =>
  condP t12
  (valP Try.prog (Instr.fieldAt 23 g3 0) w fun t16 w =>
  valP Try.prog (Instr.loadAt 3 t16) w fun t17 w =>
  valP Try.prog (Instr.fieldAt 23 g3 2) w fun t18 w =>
  valP Try.prog (Instr.loadAt 3 t18) w fun t19 w =>
  valP Try.prog (binS BinOp.add 3 (Operand.tmp 17) (Operand.tmp 19) t17 t19) w fun t20 w =>
  valP Try.prog (binS BinOp.sub 3 (Operand.tmp 15) (Operand.tmp 20) mark2 t20) w fun t21 w =>
  valP Try.prog (binS BinOp.leq 3 (Operand.tmp 14) (Operand.tmp 21) start1 t21) w fun t22 w =>
  pickP t12 t22 (Value.bool false) fun t23 =>
  m29_2 R t23 w)
  (pickP t12 undef (Value.bool false) fun t23 =>
  m29_2 R t23 w))
def m29_0 (R : VP) (g0 start1 mark2 : Value) (w : World) : Prop :=
  valP Try.prog (Instr.box 23 g0) w fun g3 w =>
  m29_1 R start1 mark2 g3 w
abbrev W29 := cwp Try.prog (fun i => 0)
noncomputable def k29_0 : Code := (bodyOf Try.f29)
noncomputable def k29_1 : Code := (c2 k29_0)
noncomputable def k29_2 : Code := (c2 k29_1)
theorem s29_2 {R : VP} {Q : EQ} (hR : ∀ e w, (R (e 6) w) → Q .ret e w) (e : Env) (w : World) (h : m29_2 R (e 6) w) : W29 k29_2 Q e w := by
  unfold m29_2 at h
  exact reA (hR _ _ h)
theorem s29_1 {R : VP} {Q : EQ} (hR : ∀ e w, (R (e 6) w) → Q .ret e w) (e : Env) (w : World) (h : m29_1 R (e 1) (e 2) (e 3) w) : W29 k29_1 Q e w := by
  unfold m29_1 at h
  refine seA ?_
  have hN : ∀ e w, (m29_2 R (e 6) w) → (thenE (W29 k29_2 Q) Q) .normal e w := fun e w h => then_N (s29_2 (R := R) (Q := Q) hR e w h)
  exact rgA 1 (fun e w => m29_2 R (e 6) w) h hN
theorem s29_0 {R : VP} {Q : EQ} (hR : ∀ e w, (R (e 6) w) → Q .ret e w) (e : Env) (w : World) (h : m29_0 R (e 0) (e 1) (e 2) w) : W29 k29_0 Q e w := by
  unfold m29_0 at h
  refine seA ?_
  have hN : ∀ e w, (m29_1 R (e 1) (e 2) (e 3) w) → (thenE (W29 k29_1 Q) Q) .normal e w := fun e w h => then_N (s29_1 (R := R) (Q := Q) hR e w h)
  exact rgA 0 (fun e w => m29_1 R (e 1) (e 2) (e 3) w) h hN
abbrev m29 (R : VP) (g0 start1 mark2 : Value) (w : World) : Prop := m29_0 R g0 start1 mark2 w
theorem s29 (g0 start1 mark2 : Value) {R : VP} {w : World} (h : m29 R g0 start1 mark2 w) :
    Calls Try.prog 29 #[g0, start1, mark2] w fun e w' => ∃ v, e = .returned v ∧ R v w' :=
  calls_of_cwp (st := (fun i => 0)) (c := k29_0) (by kernel_rfl) Try.func29 (by kernel_rfl) (Nat.le_of_ble_eq_true (by kernel_rfl)) (by kernel_rfl)
    (s29_0 (R := R) (Q := endE Try.prog Try.f29 R) (fun e w h => kcast (by kernel_rfl) h) (argsE #[g0, start1, mark2]) w (kcast (by kernel_rfl) h))
/-! ### headgate/headgateref14.Starts -/
def m45_19 (R : VP) (t4 t5 : Value) (w : World) : Prop :=
  R (Value.tuple #[t4, t5]) w
def m45_16 (R : VP) (K1 : (Value × Value) → World → Prop) (t1 g2 down6 s7 : Value) (w : World) : Prop :=
  valP Try.prog (Instr.fieldAt 23 g2 1) w fun t39 w =>
  valP Try.prog (Instr.loadAt 3 t39) w fun t40 w =>
  valP Try.prog (binS BinOp.sub 3 (Operand.tmp 38) (Operand.tmp 40) s7 t40) w fun t41 w =>
  K1 (down6, t41) w
def m45_15 (R : VP) (K1 : (Value × Value) → World → Prop) (t1 g2 down6 s7 : Value) (w : World) : Prop :=
  valP Try.prog (Instr.buildSlice 51 1 #[(0, s7)]) w fun t44 w =>
  builtinP Try.prog Builtin.append #[51, 51] 51 #[false, false] #[down6, t44] w fun t45 w =>
  m45_16 R K1 t1 g2 t45 s7 w
def m45_11 (R : VP) (K1 : (Value × Value) → World → Prop) (down6 out8 i9 : Value) (w : World) : Prop :=
  valP Try.prog (binS BinOp.sub 3 (Operand.tmp 51) (Operand.const (Value.int IntKind.i64 1)) i9 (Value.int IntKind.i64 1)) w fun t52 w =>
  K1 (out8, t52) w
def m45_10 (R : VP) (K1 : (Value × Value) → World → Prop) (down6 out8 i9 : Value) (w : World) : Prop :=
  valP Try.prog (Instr.indexAt 51 down6 i9) w fun t56 w =>
  valP Try.prog (Instr.loadAt 3 t56) w fun t57 w =>
  valP Try.prog (Instr.buildSlice 51 1 #[(0, t57)]) w fun t58 w =>
  builtinP Try.prog Builtin.append #[51, 51] 51 #[false, false] #[out8, t58] w fun t59 w =>
  m45_11 R K1 down6 t59 i9 w
def m45_7 (R : VP) (t4 t5 : Value) (w : World) : Prop :=
  R (Value.tuple #[t4, t5]) w
def m45_6 (R : VP) (out8 : Value) (w : World) : Prop :=
  m45_7 R out8 (Value.int IntKind.i64 0) w
def m45_12 (R : VP) (K1 : (Value × Value) → World → Prop) (down6 out8 i9 t50 : Value) (w : World) : Prop :=
  condP t50
  (m45_10 R K1 down6 out8 i9 w)
  (m45_6 R out8 w)
def m45_9 (R : VP) (K1 : (Value × Value) → World → Prop) (down6 out8 i9 : Value) (w : World) : Prop :=
  valP Try.prog (binS BinOp.geq 3 (Operand.tmp 49) (Operand.const (Value.int IntKind.i64 0)) i9 (Value.int IntKind.i64 0)) w fun t50 w =>
  m45_12 R K1 down6 out8 i9 t50 w
def m45_8 (R : VP) (down6 out8 i9 : Value) (w : World) : Prop :=
  loopP (fun (K1 : (Value × Value) → World → Prop) (s : Value × Value) w => m45_9 R K1 down6 s.1 s.2 w) (out8, i9) w
def m45_5 (R : VP) (down6 out8 : Value) (w : World) : Prop :=
  builtinP Try.prog Builtin.len #[51] 3 #[false] #[down6] w fun t47 w =>
  valP Try.prog (binS BinOp.sub 3 (Operand.tmp 47) (Operand.const (Value.int IntKind.i64 1)) t47 (Value.int IntKind.i64 1)) w fun t48 w =>
  m45_8 R down6 out8 t48 w
def m45_4 (R : VP) (down6 : Value) (w : World) : Prop :=
  m45_5 R down6 (Value.slice none 0 0) w
def m45_17 (R : VP) (K1 : (Value × Value) → World → Prop) (t1 g2 down6 s7 t37 : Value) (w : World) : Prop :=
  condP t37
  (m45_15 R K1 t1 g2 down6 s7 w)
  (m45_4 R down6 w)
def m45_14 (R : VP) (K1 : (Value × Value) → World → Prop) (t1 g2 down6 s7 : Value) (w : World) : Prop :=
  valP Try.prog (binS BinOp.geq 3 (Operand.tmp 28) (Operand.const (Value.int IntKind.i64 0)) s7 (Value.int IntKind.i64 0)) w fun t29 w =>
  condP t29
  (valP Try.prog (Instr.fieldAt 23 g2 0) w fun t32 w =>
  valP Try.prog (Instr.loadAt 3 t32) w fun t33 w =>
  valP Try.prog (binS BinOp.add 3 (Operand.tmp 31) (Operand.tmp 33) s7 t33) w fun t34 w =>
  valP Try.prog (binS BinOp.gtr 3 (Operand.tmp 34) (Operand.tmp 35) t34 t1) w fun t36 w =>
  pickP t29 t36 (Value.bool false) fun t37 =>
  m45_17 R K1 t1 g2 down6 s7 t37 w)
  (pickP t29 undef (Value.bool false) fun t37 =>
  m45_17 R K1 t1 g2 down6 s7 t37 w)
def m45_13 (R : VP) (t1 g2 down6 s7 : Value) (w : World) : Prop :=
  loopP (fun (K1 : (Value × Value) → World → Prop) (s : Value × Value) w => m45_14 R K1 t1 g2 s.1 s.2 w) (down6, s7) w
def m45_3 (R : VP) (t1 g2 down6 : Value) (w : World) : Prop :=
  valQ Try.prog (Instr.fieldAt 23 g2 1) w fun t22 =>
  valQ Try.prog (Instr.loadAt 3 t22) w fun t23 =>
  valQ Try.prog (binS BinOp.quo 3 (Operand.tmp 21) (Operand.tmp 23) t1 t23) w fun t24 =>
  valQ Try.prog (Instr.fieldAt 23 g2 1) w fun t25 =>
  valQ Try.prog (Instr.loadAt 3 t25) w fun t26 =>
  valQ Try.prog (binS BinOp.mul 3 (Operand.tmp 24) (Operand.tmp 26) t24 t26) w fun t27 =>
  anyDraw w fun w =>
  m45_13 R t1 g2 down6 t27 w
def m45_2 (R : VP) (t1 g2 : Value) (w : World) : Prop :=
  m45_3 R t1 g2 (Value.slice none 0 0) w
def m45_18 (R : VP) (t1 g2 t20 : Value) (w : World) : Prop :=
  condP t20
  (m45_19 R (Value.slice none 0 0) (Value.int IntKind.i64 1) w)
  (m45_2 R t1 g2 w)
def m45_1 (R : VP) (t1 g2 : Value) (w : World) : Prop :=
  valP Try.prog (Instr.loadAt 23 g2) w fun t10 w =>
  callP Try.prog (fnV 27) #[t10] w fun t11 w =>
  valP Try.prog (Op.unary UnOp.not t11) w fun t12 w =>
  condP t12
  (pickP t12 (Value.bool true) undef fun t16 =>
  condP t16
  (pickP t16 (Value.bool true) undef fun t20 =>
  m45_18 R t1 g2 t20 w)
  (valP Try.prog (binS BinOp.gtr 3 (Operand.tmp 18) (Operand.const (Value.int IntKind.i64 1099511627776)) t1 (Value.int IntKind.i64 1099511627776)) w fun t19 w =>
  pickP t16 (Value.bool true) t19 fun t20 =>
  m45_18 R t1 g2 t20 w))
  (valP Try.prog (binS BinOp.lss 3 (Operand.tmp 14) (Operand.const (Value.int IntKind.i64 0)) t1 (Value.int IntKind.i64 0)) w fun t15 w =>
  pickP t12 (Value.bool true) t15 fun t16 =>
  condP t16
  (pickP t16 (Value.bool true) undef fun t20 =>
  m45_18 R t1 g2 t20 w)
  (valP Try.prog (binS BinOp.gtr 3 (Operand.tmp 18) (Operand.const (Value.int IntKind.i64 1099511627776)) t1 (Value.int IntKind.i64 1099511627776)) w fun t19 w =>
  pickP t16 (Value.bool true) t19 fun t20 =>
  m45_18 R t1 g2 t20 w))
def m45_0 (R : VP) (g0 t1 : Value) (w : World) : Prop :=
  valP Try.prog (Instr.box 23 g0) w fun g2 w =>
  m45_1 R t1 g2 w
abbrev W45 := cwp Try.prog (fun i => cond (Nat.beq i 4) 1 (0))
noncomputable def k45_0 : Code := (bodyOf Try.f45)
noncomputable def k45_1 : Code := (c2 k45_0)
noncomputable def k45_2 : Code := (c2 k45_1)
noncomputable def k45_3 : Code := (c2 k45_2)
noncomputable def k45_4 : Code := (c2 k45_3)
noncomputable def k45_5 : Code := (c2 k45_4)
noncomputable def k45_6 : Code := (c2 k45_5)
noncomputable def k45_7 : Code := (c2 k45_6)
noncomputable def k45_8 : Code := (c2 (c1 k45_5))
noncomputable def k45_9 : Code := (c1 (c1 k45_8))
noncomputable def k45_10 : Code := (c2 k45_9)
noncomputable def k45_11 : Code := (c2 k45_10)
noncomputable def k45_12 : Code := (c2 (c1 k45_9))
noncomputable def k45_13 : Code := (c2 (c1 k45_3))
noncomputable def k45_14 : Code := (c1 (c1 k45_13))
noncomputable def k45_15 : Code := (c2 k45_14)
noncomputable def k45_16 : Code := (c2 k45_15)
noncomputable def k45_17 : Code := (c2 (c1 k45_14))
noncomputable def k45_18 : Code := (c2 (c1 k45_1))
noncomputable def k45_19 : Code := (c2 (c1 k45_18))
theorem s45_19 {R : VP} {Q : EQ} (hR : ∀ e w, (R (Value.tuple #[(e 4), (e 5)]) w) → Q .ret e w) (e : Env) (w : World) (h : m45_19 R (e 4) (e 5) w) : W45 k45_19 Q e w := by
  unfold m45_19 at h
  exact reA (hR _ _ h)
theorem s45_16 {R : VP} {K1 : (Value × Value) → World → Prop} {Q : EQ} (hN : ∀ e w, (K1 ((e 6), (e 7)) w) → Q .normal e w) (e : Env) (w : World) (h : m45_16 R K1 (e 1) (e 2) (e 6) (e 7) w) : W45 k45_16 Q e w := by
  unfold m45_16 at h
  exact rgA 6 (fun e w => K1 ((e 6), (e 7)) w) h hN
theorem s45_15 {R : VP} {K1 : (Value × Value) → World → Prop} {Q : EQ} (hN : ∀ e w, (K1 ((e 6), (e 7)) w) → Q .normal e w) (e : Env) (w : World) (h : m45_15 R K1 (e 1) (e 2) (e 6) (e 7) w) : W45 k45_15 Q e w := by
  unfold m45_15 at h
  refine seA ?_
  have hN : ∀ e w, (m45_16 R K1 (e 1) (e 2) (e 6) (e 7) w) → (thenE (W45 k45_16 Q) Q) .normal e w := fun e w h => then_N (s45_16 (R := R) (Q := Q) (K1 := K1) hN e w h)
  refine block_ok 1 (by kernel_rfl) ?_
  have hN : ∀ e w, (m45_16 R K1 (e 1) (e 2) (e 6) (e 7) w) → (inBlockE 1 (thenE (W45 k45_16 Q) Q)) .normal e w := fun e w h => block_N (hN e w h)
  exact rgA 7 (fun e w => m45_16 R K1 (e 1) (e 2) (e 6) (e 7) w) h hN
theorem s45_11 {R : VP} {K1 : (Value × Value) → World → Prop} {Q : EQ} (hN : ∀ e w, (K1 ((e 8), (e 9)) w) → Q .normal e w) (e : Env) (w : World) (h : m45_11 R K1 (e 6) (e 8) (e 9) w) : W45 k45_11 Q e w := by
  unfold m45_11 at h
  exact rgA 11 (fun e w => K1 ((e 8), (e 9)) w) h hN
theorem s45_10 {R : VP} {K1 : (Value × Value) → World → Prop} {Q : EQ} (hN : ∀ e w, (K1 ((e 8), (e 9)) w) → Q .normal e w) (e : Env) (w : World) (h : m45_10 R K1 (e 6) (e 8) (e 9) w) : W45 k45_10 Q e w := by
  unfold m45_10 at h
  refine seA ?_
  have hN : ∀ e w, (m45_11 R K1 (e 6) (e 8) (e 9) w) → (thenE (W45 k45_11 Q) Q) .normal e w := fun e w h => then_N (s45_11 (R := R) (Q := Q) (K1 := K1) hN e w h)
  refine block_ok 3 (by kernel_rfl) ?_
  have hN : ∀ e w, (m45_11 R K1 (e 6) (e 8) (e 9) w) → (inBlockE 3 (thenE (W45 k45_11 Q) Q)) .normal e w := fun e w h => block_N (hN e w h)
  exact rgA 12 (fun e w => m45_11 R K1 (e 6) (e 8) (e 9) w) h hN
theorem s45_7 {R : VP} {Q : EQ} (hR : ∀ e w, (R (Value.tuple #[(e 4), (e 5)]) w) → Q .ret e w) (e : Env) (w : World) (h : m45_7 R (e 4) (e 5) w) : W45 k45_7 Q e w := by
  unfold m45_7 at h
  exact reA (hR _ _ h)
theorem s45_6 {R : VP} {Q : EQ} (hR : ∀ e w, (R (Value.tuple #[(e 4), (e 5)]) w) → Q .ret e w) (e : Env) (w : World) (h : m45_6 R (e 8) w) : W45 k45_6 Q e w := by
  unfold m45_6 at h
  refine seA ?_
  have hN : ∀ e w, (m45_7 R (e 4) (e 5) w) → (thenE (W45 k45_7 Q) Q) .normal e w := fun e w h => then_N (s45_7 (R := R) (Q := Q) hR e w h)
  exact rgA 13 (fun e w => m45_7 R (e 4) (e 5) w) h hN
theorem s45_12 {R : VP} {K1 : (Value × Value) → World → Prop} {Q : EQ} (hN : ∀ e w, (m45_10 R K1 (e 6) (e 8) (e 9) w) → Q .normal e w) (hX2 : ∀ e w, (m45_6 R (e 8) w) → Q (.exit 2) e w) (e : Env) (w : World) (h : m45_12 R K1 (e 6) (e 8) (e 9) (e 50) w) : W45 k45_12 Q e w := by
  unfold m45_12 at h
  refine coA (Operand.tmp 50) h (fun h1 => ?_) (fun h1 => ?_)
  · exact skA (hN _ _ h1)
  · exact exA 2 (hX2 _ _ h1)
theorem s45_9 {R : VP} {K1 : (Value × Value) → World → Prop} {Q : EQ} (hN : ∀ e w, (K1 ((e 8), (e 9)) w) → Q .normal e w) (hX2 : ∀ e w, (m45_6 R (e 8) w) → Q (.exit 2) e w) (e : Env) (w : World) (h : m45_9 R K1 (e 6) (e 8) (e 9) w) : W45 k45_9 Q e w := by
  unfold m45_9 at h
  refine seA ?_
  have hN : ∀ e w, (m45_10 R K1 (e 6) (e 8) (e 9) w) → (thenE (W45 k45_10 Q) Q) .normal e w := fun e w h => then_N (s45_10 (R := R) (Q := Q) (K1 := K1) hN e w h)
  have hX2 : ∀ e w, (m45_6 R (e 8) w) → (thenE (W45 k45_10 Q) Q) (.exit 2) e w := fun e w h => then_X (hX2 e w h)
  refine seA ?_
  have hN : ∀ e w, (m45_12 R K1 (e 6) (e 8) (e 9) (e 50) w) → (thenE (W45 k45_12 (thenE (W45 k45_10 Q) Q)) (thenE (W45 k45_10 Q) Q)) .normal e w := fun e w h => then_N (s45_12 (R := R) (Q := (thenE (W45 k45_10 Q) Q)) (K1 := K1) hN hX2 e w h)
  exact rgA 10 (fun e w => m45_12 R K1 (e 6) (e 8) (e 9) (e 50) w) h hN
theorem s45_8 {R : VP} {Q : EQ} (hN : ∀ e w, (m45_6 R (e 8) w) → Q .normal e w) (e : Env) (w : World) (h : m45_8 R (e 6) (e 8) (e 9) w) : W45 k45_8 Q e w := by
  unfold m45_8 at h
  refine block_ok 2 (by kernel_rfl) ?_
  have hX2 : ∀ e w, (m45_6 R (e 8) w) → (inBlockE 2 Q) (.exit 2) e w := fun e w h => inBlock_same (Q := Q) 2 (hN e w h)
  refine loop_ok' (fun (e : Env) => (e 8, e 9)) [6] (by kernel_rfl) (by kernel_rfl) h (fun K e' w' hk h' => ?_)
  have r6 : e' 6 = e 6 := hk 6 (by decide)
  have hX2 : ∀ e w, (m45_6 R (e 8) w) → (thenE (fun (e : Env) w => K ((e 8), (e 9)) w) (inBlockE 2 Q)) (.exit 2) e w := fun e w h => then_X (hX2 e w h)
  exact s45_9 (R := R) (Q := (thenE (fun (e : Env) w => K ((e 8), (e 9)) w) (inBlockE 2 Q))) (K1 := K) (fun _ _ h => then_N h) hX2 e' w' (by rw [r6]; exact h')
theorem s45_5 {R : VP} {Q : EQ} (hR : ∀ e w, (R (Value.tuple #[(e 4), (e 5)]) w) → Q .ret e w) (e : Env) (w : World) (h : m45_5 R (e 6) (e 8) w) : W45 k45_5 Q e w := by
  unfold m45_5 at h
  refine seA ?_
  have hN : ∀ e w, (m45_6 R (e 8) w) → (thenE (W45 k45_6 Q) Q) .normal e w := fun e w h => then_N (s45_6 (R := R) (Q := Q) hR e w h)
  refine seA ?_
  have hN : ∀ e w, (m45_8 R (e 6) (e 8) (e 9) w) → (thenE (W45 k45_8 (thenE (W45 k45_6 Q) Q)) (thenE (W45 k45_6 Q) Q)) .normal e w := fun e w h => then_N (s45_8 (R := R) (Q := (thenE (W45 k45_6 Q) Q)) hN e w h)
  exact rgA 9 (fun e w => m45_8 R (e 6) (e 8) (e 9) w) h hN
theorem s45_4 {R : VP} {Q : EQ} (hR : ∀ e w, (R (Value.tuple #[(e 4), (e 5)]) w) → Q .ret e w) (e : Env) (w : World) (h : m45_4 R (e 6) w) : W45 k45_4 Q e w := by
  unfold m45_4 at h
  refine seA ?_
  have hN : ∀ e w, (m45_5 R (e 6) (e 8) w) → (thenE (W45 k45_5 Q) Q) .normal e w := fun e w h => then_N (s45_5 (R := R) (Q := Q) hR e w h)
  exact rgA 8 (fun e w => m45_5 R (e 6) (e 8) w) h hN
theorem s45_17 {R : VP} {K1 : (Value × Value) → World → Prop} {Q : EQ} (hN : ∀ e w, (m45_15 R K1 (e 1) (e 2) (e 6) (e 7) w) → Q .normal e w) (hX0 : ∀ e w, (m45_4 R (e 6) w) → Q (.exit 0) e w) (e : Env) (w : World) (h : m45_17 R K1 (e 1) (e 2) (e 6) (e 7) (e 37) w) : W45 k45_17 Q e w := by
  unfold m45_17 at h
  refine coA (Operand.tmp 37) h (fun h1 => ?_) (fun h1 => ?_)
  · exact skA (hN _ _ h1)
  · exact exA 0 (hX0 _ _ h1)
theorem s45_14 {R : VP} {K1 : (Value × Value) → World → Prop} {Q : EQ} (hN : ∀ e w, (K1 ((e 6), (e 7)) w) → Q .normal e w) (hX0 : ∀ e w, (m45_4 R (e 6) w) → Q (.exit 0) e w) (e : Env) (w : World) (h : m45_14 R K1 (e 1) (e 2) (e 6) (e 7) w) : W45 k45_14 Q e w := by
  unfold m45_14 at h
  refine seA ?_
  have hN : ∀ e w, (m45_15 R K1 (e 1) (e 2) (e 6) (e 7) w) → (thenE (W45 k45_15 Q) Q) .normal e w := fun e w h => then_N (s45_15 (R := R) (Q := Q) (K1 := K1) hN e w h)
  have hX0 : ∀ e w, (m45_4 R (e 6) w) → (thenE (W45 k45_15 Q) Q) (.exit 0) e w := fun e w h => then_X (hX0 e w h)
  refine seA ?_
  have hN : ∀ e w, (m45_17 R K1 (e 1) (e 2) (e 6) (e 7) (e 37) w) → (thenE (W45 k45_17 (thenE (W45 k45_15 Q) Q)) (thenE (W45 k45_15 Q) Q)) .normal e w := fun e w h => then_N (s45_17 (R := R) (Q := (thenE (W45 k45_15 Q) Q)) (K1 := K1) hN hX0 e w h)
  exact rgA 5 (fun e w => m45_17 R K1 (e 1) (e 2) (e 6) (e 7) (e 37) w) h hN
theorem s45_13 {R : VP} {Q : EQ} (hN : ∀ e w, (m45_4 R (e 6) w) → Q .normal e w) (e : Env) (w : World) (h : m45_13 R (e 1) (e 2) (e 6) (e 7) w) : W45 k45_13 Q e w := by
  unfold m45_13 at h
  refine block_ok 0 (by kernel_rfl) ?_
  have hX0 : ∀ e w, (m45_4 R (e 6) w) → (inBlockE 0 Q) (.exit 0) e w := fun e w h => inBlock_same (Q := Q) 0 (hN e w h)
  refine loop_ok' (fun (e : Env) => (e 6, e 7)) [1, 2] (by kernel_rfl) (by kernel_rfl) h (fun K e' w' hk h' => ?_)
  have r1 : e' 1 = e 1 := hk 1 (by decide)
  have r2 : e' 2 = e 2 := hk 2 (by decide)
  have hX0 : ∀ e w, (m45_4 R (e 6) w) → (thenE (fun (e : Env) w => K ((e 6), (e 7)) w) (inBlockE 0 Q)) (.exit 0) e w := fun e w h => then_X (hX0 e w h)
  exact s45_14 (R := R) (Q := (thenE (fun (e : Env) w => K ((e 6), (e 7)) w) (inBlockE 0 Q))) (K1 := K) (fun _ _ h => then_N h) hX0 e' w' (by rw [r1, r2]; exact h')
theorem s45_3 {R : VP} {Q : EQ} (hR : ∀ e w, (R (Value.tuple #[(e 4), (e 5)]) w) → Q .ret e w) (e : Env) (w : World) (h : m45_3 R (e 1) (e 2) (e 6) w) : W45 k45_3 Q e w := by
  unfold m45_3 at h
  refine seA ?_
  have hN : ∀ e w, (m45_4 R (e 6) w) → (thenE (W45 k45_4 Q) Q) .normal e w := fun e w h => then_N (s45_4 (R := R) (Q := Q) hR e w h)
  refine seA ?_
  have hN : ∀ e w, (m45_13 R (e 1) (e 2) (e 6) (e 7) w) → (thenE (W45 k45_13 (thenE (W45 k45_4 Q) Q)) (thenE (W45 k45_4 Q) Q)) .normal e w := fun e w h => then_N (s45_13 (R := R) (Q := (thenE (W45 k45_4 Q) Q)) hN e w h)
  exact quA 4 (fun e w => m45_13 R (e 1) (e 2) (e 6) (e 7) w) h hN
theorem s45_2 {R : VP} {Q : EQ} (hR : ∀ e w, (R (Value.tuple #[(e 4), (e 5)]) w) → Q .ret e w) (e : Env) (w : World) (h : m45_2 R (e 1) (e 2) w) : W45 k45_2 Q e w := by
  unfold m45_2 at h
  refine seA ?_
  have hN : ∀ e w, (m45_3 R (e 1) (e 2) (e 6) w) → (thenE (W45 k45_3 Q) Q) .normal e w := fun e w h => then_N (s45_3 (R := R) (Q := Q) hR e w h)
  exact rgA 3 (fun e w => m45_3 R (e 1) (e 2) (e 6) w) h hN
theorem s45_18 {R : VP} {Q : EQ} (hN : ∀ e w, (m45_2 R (e 1) (e 2) w) → Q .normal e w) (hR : ∀ e w, (R (Value.tuple #[(e 4), (e 5)]) w) → Q .ret e w) (e : Env) (w : World) (h : m45_18 R (e 1) (e 2) (e 20) w) : W45 k45_18 Q e w := by
  unfold m45_18 at h
  refine coA (Operand.tmp 20) h (fun h1 => ?_) (fun h1 => ?_)
  · refine seA ?_
    have hN : ∀ e w, (m45_19 R (e 4) (e 5) w) → (thenE (W45 k45_19 Q) Q) .normal e w := fun e w h => then_N (s45_19 (R := R) (Q := Q) hR e w h)
    exact rgA 2 (fun e w => m45_19 R (e 4) (e 5) w) h1 hN
  · exact skA (hN _ _ h1)
theorem s45_1 {R : VP} {Q : EQ} (hR : ∀ e w, (R (Value.tuple #[(e 4), (e 5)]) w) → Q .ret e w) (e : Env) (w : World) (h : m45_1 R (e 1) (e 2) w) : W45 k45_1 Q e w := by
  unfold m45_1 at h
  refine seA ?_
  have hN : ∀ e w, (m45_2 R (e 1) (e 2) w) → (thenE (W45 k45_2 Q) Q) .normal e w := fun e w h => then_N (s45_2 (R := R) (Q := Q) hR e w h)
  have hR : ∀ e w, (R (Value.tuple #[(e 4), (e 5)]) w) → (thenE (W45 k45_2 Q) Q) .ret e w := fun e w h => then_R (hR e w h)
  refine seA ?_
  have hN : ∀ e w, (m45_18 R (e 1) (e 2) (e 20) w) → (thenE (W45 k45_18 (thenE (W45 k45_2 Q) Q)) (thenE (W45 k45_2 Q) Q)) .normal e w := fun e w h => then_N (s45_18 (R := R) (Q := (thenE (W45 k45_2 Q) Q)) hN hR e w h)
  exact rgA 1 (fun e w => m45_18 R (e 1) (e 2) (e 20) w) h hN
theorem s45_0 {R : VP} {Q : EQ} (hR : ∀ e w, (R (Value.tuple #[(e 4), (e 5)]) w) → Q .ret e w) (e : Env) (w : World) (h : m45_0 R (e 0) (e 1) w) : W45 k45_0 Q e w := by
  unfold m45_0 at h
  refine seA ?_
  have hN : ∀ e w, (m45_1 R (e 1) (e 2) w) → (thenE (W45 k45_1 Q) Q) .normal e w := fun e w h => then_N (s45_1 (R := R) (Q := Q) hR e w h)
  exact rgA 0 (fun e w => m45_1 R (e 1) (e 2) w) h hN
abbrev m45 (R : VP) (g0 t1 : Value) (w : World) : Prop := m45_0 R g0 t1 w
theorem s45 (g0 t1 : Value) {R : VP} {w : World} (h : m45 R g0 t1 w) :
    Calls Try.prog 45 #[g0, t1] w fun e w' => ∃ v, e = .returned v ∧ R v w' :=
  calls_of_cwp (st := (fun i => cond (Nat.beq i 4) 1 (0))) (c := k45_0) (by kernel_rfl) Try.func45 (by kernel_rfl) (Nat.le_of_ble_eq_true (by kernel_rfl)) (by kernel_rfl)
    (s45_0 (R := R) (Q := endE Try.prog Try.f45 R) (fun e w h => kcast (by kernel_rfl) h) (argsE #[g0, t1]) w (kcast (by kernel_rfl) h))
end Go.Proofs.Ytnhgdngbdoifnaa.M
