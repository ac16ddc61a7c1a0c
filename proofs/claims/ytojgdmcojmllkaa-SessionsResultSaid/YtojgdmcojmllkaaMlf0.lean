/- What functions' texts ask of their ends, told over values that have names; printed by a program of this work. -/
import Derived.Test.YtojgdmcojmllkaaFw
import Derived.Test.YtojgdmcojmllkaaProg
namespace Go.Proofs.Ytojgdmcojmllkaa.M
open Go.Proofs.Ytojgdmcojmllkaa.F
set_option linter.unusedVariables false
set_option maxRecDepth 100000
/-! ### headgate/headgatelaw28.SessionsResult -/
def m8_7 (R : VP) (t2 : Value) (w : World) : Prop :=
  R t2 w
def m8_5 (R : VP) (t2 : Value) (w : World) : Prop :=
  R t2 w
def m8_4 (R : VP) (a3 b4 x5 c6 d7 y8 : Value) (w : World) : Prop :=
  valP Try.prog (binS BinOp.eql 3 (Operand.tmp 26) (Operand.tmp 27) a3 c6) w fun t28 w =>
  condP t28
  (valP Try.prog (binS BinOp.eql 3 (Operand.tmp 30) (Operand.tmp 31) b4 d7) w fun t32 w =>
  pickP t28 t32 (Value.bool false) fun t33 =>
  condP t33
  (valP Try.prog (Instr.loadAt 58 x5) w fun t35 w =>
  valP Try.prog (Instr.loadAt 58 y8) w fun t36 w =>
  valP Try.prog (binS BinOp.eql 58 (Operand.tmp 35) (Operand.tmp 36) t35 t36) w fun t37 w =>
  pickP t33 t37 (Value.bool false) fun t38 =>
  condP t38
  (callP Try.prog (fnV 10) #[] w fun t40 w =>
  pickP t38 t40 (Value.bool false) fun t41 =>
  m8_5 R t41 w)
  (pickP t38 undef (Value.bool false) fun t41 =>
  m8_5 R t41 w))
  (pickP t33 undef (Value.bool false) fun t38 =>
  condP t38
  (callP Try.prog (fnV 10) #[] w fun t40 w =>
  pickP t38 t40 (Value.bool false) fun t41 =>
  m8_5 R t41 w)
  (pickP t38 undef (Value.bool false) fun t41 =>
  m8_5 R t41 w)))
  (pickP t28 undef (Value.bool false) fun t33 =>
  condP t33
  (valP Try.prog (Instr.loadAt 58 x5) w fun t35 w =>
  valP Try.prog (Instr.loadAt 58 y8) w fun t36 w =>
  valP Try.prog (binS BinOp.eql 58 (Operand.tmp 35) (Operand.tmp 36) t35 t36) w fun t37 w =>
  pickP t33 t37 (Value.bool false) fun t38 =>
  condP t38
  (callP Try.prog (fnV 10) #[] w fun t40 w =>
  pickP t38 t40 (Value.bool false) fun t41 =>
  m8_5 R t41 w)
  (pickP t38 undef (Value.bool false) fun t41 =>
  m8_5 R t41 w))
  (pickP t33 undef (Value.bool false) fun t38 =>
  condP t38
  (callP Try.prog (fnV 10) #[] w fun t40 w =>
  pickP t38 t40 (Value.bool false) fun t41 =>
  m8_5 R t41 w)
  (pickP t38 undef (Value.bool false) fun t41 =>
  m8_5 R t41 w)))
def m8_3 (R : VP) (s1 a3 b4 x5 : Value) (w : World) : Prop :=
  valP Try.prog (Instr.loadAt 33 s1) w fun t21 w =>
  callP Try.prog (fnV 24) #[t21] w fun t22 w =>
  valP Try.prog (Instr.extract t22 0) w fun t23 w =>
  valP Try.prog (Instr.extract t22 1) w fun t24 w =>
  valP Try.prog (Instr.extract t22 2) w fun t25 w =>
  valP Try.prog (Instr.alloc 58 true (.tuple #[])) w fun y8 w =>
  unitP Try.prog (Instr.storeAt 58 y8 t25) w fun _ w =>
  m8_4 R a3 b4 x5 t23 t24 y8 w
def m8_2 (R : VP) (s1 : Value) (w : World) : Prop :=
  valP Try.prog (Instr.loadAt 33 s1) w fun t15 w =>
  callP Try.prog (fnV 23) #[t15] w fun t16 w =>
  valP Try.prog (Instr.extract t16 0) w fun t17 w =>
  valP Try.prog (Instr.extract t16 1) w fun t18 w =>
  valP Try.prog (Instr.extract t16 2) w fun t19 w =>
  valP Try.prog (Instr.alloc 58 true (.tuple #[])) w fun x5 w =>
  unitP Try.prog (Instr.storeAt 58 x5 t19) w fun _ w =>
  m8_3 R s1 t17 t18 x5 w
def m8_6 (R : VP) (s1 t12 : Value) (w : World) : Prop :=
  condP t12
  (callP Try.prog (fnV 10) #[] w fun t13 w =>
  m8_7 R t13 w)
  (m8_2 R s1 w)
def m8_1 (R : VP) (s1 : Value) (w : World) : Prop :=
  valP Try.prog (Instr.fieldAt 33 s1 1) w fun t9 w =>
  valP Try.prog (Instr.loadAt 31 t9) w fun t10 w =>
  builtinP Try.prog Builtin.len #[31] 3 #[false] #[t10] w fun t11 w =>
  valP Try.prog (binS BinOp.gtr 3 (Operand.tmp 11) (Operand.const (Value.int IntKind.i64 1000)) t11 (Value.int IntKind.i64 1000)) w fun t12 w =>
  m8_6 R s1 t12 w
def m8_0 (R : VP) (s0 : Value) (w : World) : Prop :=
  valP Try.prog (Instr.box 33 s0) w fun s1 w =>
  m8_1 R s1 w
abbrev W8 := cwp Try.prog (fun i => 0)
noncomputable def k8_0 : Code := (bodyOf Try.f8)
noncomputable def k8_1 : Code := (c2 k8_0)
noncomputable def k8_2 : Code := (c2 k8_1)
noncomputable def k8_3 : Code := (c2 k8_2)
noncomputable def k8_4 : Code := (c2 k8_3)
noncomputable def k8_5 : Code := (c2 k8_4)
noncomputable def k8_6 : Code := (c2 (c1 k8_1))
noncomputable def k8_7 : Code := (c2 (c1 k8_6))
theorem s8_7 {R : VP} {Q : EQ} (hR : ∀ e w, (R (e 2) w) → Q .ret e w) (e : Env) (w : World) (h : m8_7 R (e 2) w) : W8 k8_7 Q e w := by
  unfold m8_7 at h
  exact reA (hR _ _ h)
theorem s8_5 {R : VP} {Q : EQ} (hR : ∀ e w, (R (e 2) w) → Q .ret e w) (e : Env) (w : World) (h : m8_5 R (e 2) w) : W8 k8_5 Q e w := by
  unfold m8_5 at h
  exact reA (hR _ _ h)
theorem s8_4 {R : VP} {Q : EQ} (hR : ∀ e w, (R (e 2) w) → Q .ret e w) (e : Env) (w : World) (h : m8_4 R (e 3) (e 4) (e 5) (e 6) (e 7) (e 8) w) : W8 k8_4 Q e w := by
  unfold m8_4 at h
  refine seA ?_
  have hN : ∀ e w, (m8_5 R (e 2) w) → (thenE (W8 k8_5 Q) Q) .normal e w := fun e w h => then_N (s8_5 (R := R) (Q := Q) hR e w h)
  exact rgA 5 (fun e w => m8_5 R (e 2) w) h hN
theorem s8_3 {R : VP} {Q : EQ} (hR : ∀ e w, (R (e 2) w) → Q .ret e w) (e : Env) (w : World) (h : m8_3 R (e 1) (e 3) (e 4) (e 5) w) : W8 k8_3 Q e w := by
  unfold m8_3 at h
  refine seA ?_
  have hN : ∀ e w, (m8_4 R (e 3) (e 4) (e 5) (e 6) (e 7) (e 8) w) → (thenE (W8 k8_4 Q) Q) .normal e w := fun e w h => then_N (s8_4 (R := R) (Q := Q) hR e w h)
  exact rgA 4 (fun e w => m8_4 R (e 3) (e 4) (e 5) (e 6) (e 7) (e 8) w) h hN
theorem s8_2 {R : VP} {Q : EQ} (hR : ∀ e w, (R (e 2) w) → Q .ret e w) (e : Env) (w : World) (h : m8_2 R (e 1) w) : W8 k8_2 Q e w := by
  unfold m8_2 at h
  refine seA ?_
  have hN : ∀ e w, (m8_3 R (e 1) (e 3) (e 4) (e 5) w) → (thenE (W8 k8_3 Q) Q) .normal e w := fun e w h => then_N (s8_3 (R := R) (Q := Q) hR e w h)
  exact rgA 3 (fun e w => m8_3 R (e 1) (e 3) (e 4) (e 5) w) h hN
theorem s8_6 {R : VP} {Q : EQ} (hN : ∀ e w, (m8_2 R (e 1) w) → Q .normal e w) (hR : ∀ e w, (R (e 2) w) → Q .ret e w) (e : Env) (w : World) (h : m8_6 R (e 1) (e 12) w) : W8 k8_6 Q e w := by
  unfold m8_6 at h
  refine coA (Operand.tmp 12) h (fun h1 => ?_) (fun h1 => ?_)
  · refine seA ?_
    have hN : ∀ e w, (m8_7 R (e 2) w) → (thenE (W8 k8_7 Q) Q) .normal e w := fun e w h => then_N (s8_7 (R := R) (Q := Q) hR e w h)
    exact rgA 2 (fun e w => m8_7 R (e 2) w) h1 hN
  · exact skA (hN _ _ h1)
theorem s8_1 {R : VP} {Q : EQ} (hR : ∀ e w, (R (e 2) w) → Q .ret e w) (e : Env) (w : World) (h : m8_1 R (e 1) w) : W8 k8_1 Q e w := by
  unfold m8_1 at h
  refine seA ?_
  have hN : ∀ e w, (m8_2 R (e 1) w) → (thenE (W8 k8_2 Q) Q) .normal e w := fun e w h => then_N (s8_2 (R := R) (Q := Q) hR e w h)
  have hR : ∀ e w, (R (e 2) w) → (thenE (W8 k8_2 Q) Q) .ret e w := fun e w h => then_R (hR e w h)
  refine seA ?_
  have hN : ∀ e w, (m8_6 R (e 1) (e 12) w) → (thenE (W8 k8_6 (thenE (W8 k8_2 Q) Q)) (thenE (W8 k8_2 Q) Q)) .normal e w := fun e w h => then_N (s8_6 (R := R) (Q := (thenE (W8 k8_2 Q) Q)) hN hR e w h)
  exact rgA 1 (fun e w => m8_6 R (e 1) (e 12) w) h hN
theorem s8_0 {R : VP} {Q : EQ} (hR : ∀ e w, (R (e 2) w) → Q .ret e w) (e : Env) (w : World) (h : m8_0 R (e 0) w) : W8 k8_0 Q e w := by
  unfold m8_0 at h
  refine seA ?_
  have hN : ∀ e w, (m8_1 R (e 1) w) → (thenE (W8 k8_1 Q) Q) .normal e w := fun e w h => then_N (s8_1 (R := R) (Q := Q) hR e w h)
  exact rgA 0 (fun e w => m8_1 R (e 1) w) h hN
abbrev m8 (R : VP) (s0 : Value) (w : World) : Prop := m8_0 R s0 w
theorem s8 (s0 : Value) {R : VP} {w : World} (h : m8 R s0 w) :
    Calls Try.prog 8 #[s0] w fun e w' => ∃ v, e = .returned v ∧ R v w' :=
  calls_of_cwp (st := (fun i => 0)) (c := k8_0) (by kernel_rfl) Try.func8 (by kernel_rfl) (Nat.le_of_ble_eq_true (by kernel_rfl)) (by kernel_rfl)
    (s8_0 (R := R) (Q := endE Try.prog Try.f8 R) (fun e w h => kcast (by kernel_rfl) h) (argsE #[s0]) w (kcast (by kernel_rfl) h))
end Go.Proofs.Ytojgdmcojmllkaa.M
