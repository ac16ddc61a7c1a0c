/- What functions' texts ask of their ends, told over values that have names; printed by a program of this work. -/
import Derived.Test.YtnhgdngbdoifnaaFw
import Derived.Test.YtnhgdngbdoifnaaProg
namespace Go.Proofs.Ytnhgdngbdoifnaa.M
open Go.Proofs.Ytnhgdngbdoifnaa.F
set_option linter.unusedVariables false
set_option maxRecDepth 100000
/-! ### headgate/headgateref15.Plus -/
def m60_8 (R : VP) (t4 : Value) (w : World) : Prop :=
  R t4 w
def m60_6 (R : VP) (t4 : Value) (w : World) : Prop :=
  R t4 w
def m60_4 (R : VP) (t4 : Value) (w : World) : Prop :=
  R t4 w
def m60_3 (R : VP) (a0 b1 : Value) (w : World) : Prop :=
  valP Try.prog (binS BinOp.add 3 (Operand.tmp 21) (Operand.tmp 22) a0 b1) w fun t23 w =>
  m60_4 R t23 w
def m60_5 (R : VP) (a0 b1 t20 : Value) (w : World) : Prop :=
  condP t20
  (m60_6 R (Value.int IntKind.i64 (-9223372036854775808)) w)
  (m60_3 R a0 b1 w)
def m60_2 (R : VP) (a0 b1 : Value) (w : World) : Prop :=
  valP Try.prog (binS BinOp.lss 3 (Operand.tmp 13) (Operand.const (Value.int IntKind.i64 0)) b1 (Value.int IntKind.i64 0)) w fun t14 w =>
  condP t14
  (valP Try.prog (binS BinOp.sub 3 (Operand.const (Value.int IntKind.i64 (-9223372036854775808))) (Operand.tmp 17) (Value.int IntKind.i64 (-9223372036854775808)) b1) w fun t18 w =>
  valP Try.prog (binS BinOp.lss 3 (Operand.tmp 16) (Operand.tmp 18) a0 t18) w fun t19 w =>
  pickP t14 t19 (Value.bool false) fun t20 =>
  m60_5 R a0 b1 t20 w)
  (pickP t14 undef (Value.bool false) fun t20 =>
  m60_5 R a0 b1 t20 w)
def m60_7 (R : VP) (a0 b1 t12 : Value) (w : World) : Prop :=
  condP t12
  (m60_8 R (Value.int IntKind.i64 9223372036854775807) w)
  (m60_2 R a0 b1 w)
def m60_1 (R : VP) (a0 b1 : Value) (w : World) : Prop :=
  valP Try.prog (binS BinOp.gtr 3 (Operand.tmp 5) (Operand.const (Value.int IntKind.i64 0)) b1 (Value.int IntKind.i64 0)) w fun t6 w =>
  condP t6
  (valP Try.prog (binS BinOp.sub 3 (Operand.const (Value.int IntKind.i64 9223372036854775807)) (Operand.tmp 9) (Value.int IntKind.i64 9223372036854775807) b1) w fun t10 w =>
  valP Try.prog (binS BinOp.gtr 3 (Operand.tmp 8) (Operand.tmp 10) a0 t10) w fun t11 w =>
  pickP t6 t11 (Value.bool false) fun t12 =>
  m60_7 R a0 b1 t12 w)
  (pickP t6 undef (Value.bool false) fun t12 =>
  m60_7 R a0 b1 t12 w)
def m60_0 (R : VP) (a0 b1 : Value) (w : World) : Prop :=
  m60_1 R a0 b1 w
abbrev W60 := cwp Try.prog (fun i => 0)
noncomputable def k60_0 : Code := (bodyOf Try.f60)
noncomputable def k60_1 : Code := (c2 k60_0)
noncomputable def k60_2 : Code := (c2 k60_1)
noncomputable def k60_3 : Code := (c2 k60_2)
noncomputable def k60_4 : Code := (c2 k60_3)
noncomputable def k60_5 : Code := (c2 (c1 k60_2))
noncomputable def k60_6 : Code := (c2 (c1 k60_5))
noncomputable def k60_7 : Code := (c2 (c1 k60_1))
noncomputable def k60_8 : Code := (c2 (c1 k60_7))
theorem s60_8 {R : VP} {Q : EQ} (hR : ∀ e w, (R (e 4) w) → Q .ret e w) (e : Env) (w : World) (h : m60_8 R (e 4) w) : W60 k60_8 Q e w := by
  unfold m60_8 at h
  exact reA (hR _ _ h)
theorem s60_6 {R : VP} {Q : EQ} (hR : ∀ e w, (R (e 4) w) → Q .ret e w) (e : Env) (w : World) (h : m60_6 R (e 4) w) : W60 k60_6 Q e w := by
  unfold m60_6 at h
  exact reA (hR _ _ h)
theorem s60_4 {R : VP} {Q : EQ} (hR : ∀ e w, (R (e 4) w) → Q .ret e w) (e : Env) (w : World) (h : m60_4 R (e 4) w) : W60 k60_4 Q e w := by
  unfold m60_4 at h
  exact reA (hR _ _ h)
theorem s60_3 {R : VP} {Q : EQ} (hR : ∀ e w, (R (e 4) w) → Q .ret e w) (e : Env) (w : World) (h : m60_3 R (e 0) (e 1) w) : W60 k60_3 Q e w := by
  unfold m60_3 at h
  refine seA ?_
  have hN : ∀ e w, (m60_4 R (e 4) w) → (thenE (W60 k60_4 Q) Q) .normal e w := fun e w h => then_N (s60_4 (R := R) (Q := Q) hR e w h)
  exact rgA 5 (fun e w => m60_4 R (e 4) w) h hN
theorem s60_5 {R : VP} {Q : EQ} (hN : ∀ e w, (m60_3 R (e 0) (e 1) w) → Q .normal e w) (hR : ∀ e w, (R (e 4) w) → Q .ret e w) (e : Env) (w : World) (h : m60_5 R (e 0) (e 1) (e 20) w) : W60 k60_5 Q e w := by
  unfold m60_5 at h
  refine coA (Operand.tmp 20) h (fun h1 => ?_) (fun h1 => ?_)
  · refine seA ?_
    have hN : ∀ e w, (m60_6 R (e 4) w) → (thenE (W60 k60_6 Q) Q) .normal e w := fun e w h => then_N (s60_6 (R := R) (Q := Q) hR e w h)
    exact rgA 4 (fun e w => m60_6 R (e 4) w) h1 hN
  · exact skA (hN _ _ h1)
theorem s60_2 {R : VP} {Q : EQ} (hR : ∀ e w, (R (e 4) w) → Q .ret e w) (e : Env) (w : World) (h : m60_2 R (e 0) (e 1) w) : W60 k60_2 Q e w := by
  unfold m60_2 at h
  refine seA ?_
  have hN : ∀ e w, (m60_3 R (e 0) (e 1) w) → (thenE (W60 k60_3 Q) Q) .normal e w := fun e w h => then_N (s60_3 (R := R) (Q := Q) hR e w h)
  have hR : ∀ e w, (R (e 4) w) → (thenE (W60 k60_3 Q) Q) .ret e w := fun e w h => then_R (hR e w h)
  refine seA ?_
  have hN : ∀ e w, (m60_5 R (e 0) (e 1) (e 20) w) → (thenE (W60 k60_5 (thenE (W60 k60_3 Q) Q)) (thenE (W60 k60_3 Q) Q)) .normal e w := fun e w h => then_N (s60_5 (R := R) (Q := (thenE (W60 k60_3 Q) Q)) hN hR e w h)
  exact rgA 3 (fun e w => m60_5 R (e 0) (e 1) (e 20) w) h hN
theorem s60_7 {R : VP} {Q : EQ} (hN : ∀ e w, (m60_2 R (e 0) (e 1) w) → Q .normal e w) (hR : ∀ e w, (R (e 4) w) → Q .ret e w) (e : Env) (w : World) (h : m60_7 R (e 0) (e 1) (e 12) w) : W60 k60_7 Q e w := by
  unfold m60_7 at h
  refine coA (Operand.tmp 12) h (fun h1 => ?_) (fun h1 => ?_)
  · refine seA ?_
    have hN : ∀ e w, (m60_8 R (e 4) w) → (thenE (W60 k60_8 Q) Q) .normal e w := fun e w h => then_N (s60_8 (R := R) (Q := Q) hR e w h)
    exact rgA 2 (fun e w => m60_8 R (e 4) w) h1 hN
  · exact skA (hN _ _ h1)
theorem s60_1 {R : VP} {Q : EQ} (hR : ∀ e w, (R (e 4) w) → Q .ret e w) (e : Env) (w : World) (h : m60_1 R (e 0) (e 1) w) : W60 k60_1 Q e w := by
  unfold m60_1 at h
  refine seA ?_
  have hN : ∀ e w, (m60_2 R (e 0) (e 1) w) → (thenE (W60 k60_2 Q) Q) .normal e w := fun e w h => then_N (s60_2 (R := R) (Q := Q) hR e w h)
  have hR : ∀ e w, (R (e 4) w) → (thenE (W60 k60_2 Q) Q) .ret e w := fun e w h => then_R (hR e w h)
  refine seA ?_
  have hN : ∀ e w, (m60_7 R (e 0) (e 1) (e 12) w) → (thenE (W60 k60_7 (thenE (W60 k60_2 Q) Q)) (thenE (W60 k60_2 Q) Q)) .normal e w := fun e w h => then_N (s60_7 (R := R) (Q := (thenE (W60 k60_2 Q) Q)) hN hR e w h)
  exact rgA 1 (fun e w => m60_7 R (e 0) (e 1) (e 12) w) h hN
theorem s60_0 {R : VP} {Q : EQ} (hR : ∀ e w, (R (e 4) w) → Q .ret e w) (e : Env) (w : World) (h : m60_0 R (e 0) (e 1) w) : W60 k60_0 Q e w := by
  unfold m60_0 at h
  refine seA ?_
  have hN : ∀ e w, (m60_1 R (e 0) (e 1) w) → (thenE (W60 k60_1 Q) Q) .normal e w := fun e w h => then_N (s60_1 (R := R) (Q := Q) hR e w h)
  exact rgA 0 (fun e w => m60_1 R (e 0) (e 1) w) h hN
abbrev m60 (R : VP) (a0 b1 : Value) (w : World) : Prop := m60_0 R a0 b1 w
theorem s60 (a0 b1 : Value) {R : VP} {w : World} (h : m60 R a0 b1 w) :
    Calls Try.prog 60 #[a0, b1] w fun e w' => ∃ v, e = .returned v ∧ R v w' :=
  calls_of_cwp (st := (fun i => 0)) (c := k60_0) (by kernel_rfl) Try.func60 (by kernel_rfl) (Nat.le_of_ble_eq_true (by kernel_rfl)) (by kernel_rfl)
    (s60_0 (R := R) (Q := endE Try.prog Try.f60 R) (fun e w h => kcast (by kernel_rfl) h) (argsE #[a0, b1]) w (kcast (by kernel_rfl) h))
/-! ### headgate/headgateref15.Sort -/
def m61_11 (R : VP) (t2 : Value) (w : World) : Prop :=
  R t2 w
def m61_9 (R : VP) (t2 : Value) (w : World) : Prop :=
  R t2 w
def m61_7 (R : VP) (t2 : Value) (w : World) : Prop :=
  R t2 w
def m61_5 (R : VP) (t2 : Value) (w : World) : Prop :=
  R t2 w
def m61_4 (R : VP) (w : World) : Prop :=
  m61_5 R (Value.int IntKind.i64 0) w
def m61_6 (R : VP) (t8 : Value) (w : World) : Prop :=
  condP t8
  (m61_7 R (Value.int IntKind.i64 1) w)
  (m61_4 R w)
def m61_3 (R : VP) (v0 : Value) (w : World) : Prop :=
  valP Try.prog (binS BinOp.geq 3 (Operand.tmp 7) (Operand.const (Value.int IntKind.i64 0)) v0 (Value.int IntKind.i64 0)) w fun t8 w =>
  m61_6 R t8 w
def m61_8 (R : VP) (v0 t6 : Value) (w : World) : Prop :=
  condP t6
  (m61_9 R (Value.int IntKind.i64 2) w)
  (m61_3 R v0 w)
def m61_2 (R : VP) (v0 : Value) (w : World) : Prop :=
  valP Try.prog (binS BinOp.geq 3 (Operand.tmp 5) (Operand.const (Value.int IntKind.i64 10)) v0 (Value.int IntKind.i64 10)) w fun t6 w =>
  m61_8 R v0 t6 w
def m61_10 (R : VP) (v0 t4 : Value) (w : World) : Prop :=
  condP t4
  (m61_11 R (Value.int IntKind.i64 3) w)
  (m61_2 R v0 w)
def m61_1 (R : VP) (v0 : Value) (w : World) : Prop :=
  valP Try.prog (binS BinOp.geq 3 (Operand.tmp 3) (Operand.const (Value.int IntKind.i64 100)) v0 (Value.int IntKind.i64 100)) w fun t4 w =>
  m61_10 R v0 t4 w
def m61_0 (R : VP) (v0 : Value) (w : World) : Prop :=
  m61_1 R v0 w
abbrev W61 := cwp Try.prog (fun i => 0)
noncomputable def k61_0 : Code := (bodyOf Try.f61)
noncomputable def k61_1 : Code := (c2 k61_0)
noncomputable def k61_2 : Code := (c2 k61_1)
noncomputable def k61_3 : Code := (c2 k61_2)
noncomputable def k61_4 : Code := (c2 k61_3)
noncomputable def k61_5 : Code := (c2 k61_4)
noncomputable def k61_6 : Code := (c2 (c1 k61_3))
noncomputable def k61_7 : Code := (c2 (c1 k61_6))
noncomputable def k61_8 : Code := (c2 (c1 k61_2))
noncomputable def k61_9 : Code := (c2 (c1 k61_8))
noncomputable def k61_10 : Code := (c2 (c1 k61_1))
noncomputable def k61_11 : Code := (c2 (c1 k61_10))
theorem s61_11 {R : VP} {Q : EQ} (hR : ∀ e w, (R (e 2) w) → Q .ret e w) (e : Env) (w : World) (h : m61_11 R (e 2) w) : W61 k61_11 Q e w := by
  unfold m61_11 at h
  exact reA (hR _ _ h)
theorem s61_9 {R : VP} {Q : EQ} (hR : ∀ e w, (R (e 2) w) → Q .ret e w) (e : Env) (w : World) (h : m61_9 R (e 2) w) : W61 k61_9 Q e w := by
  unfold m61_9 at h
  exact reA (hR _ _ h)
theorem s61_7 {R : VP} {Q : EQ} (hR : ∀ e w, (R (e 2) w) → Q .ret e w) (e : Env) (w : World) (h : m61_7 R (e 2) w) : W61 k61_7 Q e w := by
  unfold m61_7 at h
  exact reA (hR _ _ h)
theorem s61_5 {R : VP} {Q : EQ} (hR : ∀ e w, (R (e 2) w) → Q .ret e w) (e : Env) (w : World) (h : m61_5 R (e 2) w) : W61 k61_5 Q e w := by
  unfold m61_5 at h
  exact reA (hR _ _ h)
theorem s61_4 {R : VP} {Q : EQ} (hR : ∀ e w, (R (e 2) w) → Q .ret e w) (e : Env) (w : World) (h : m61_4 R w) : W61 k61_4 Q e w := by
  unfold m61_4 at h
  refine seA ?_
  have hN : ∀ e w, (m61_5 R (e 2) w) → (thenE (W61 k61_5 Q) Q) .normal e w := fun e w h => then_N (s61_5 (R := R) (Q := Q) hR e w h)
  exact rgA 7 (fun e w => m61_5 R (e 2) w) h hN
theorem s61_6 {R : VP} {Q : EQ} (hN : ∀ e w, (m61_4 R w) → Q .normal e w) (hR : ∀ e w, (R (e 2) w) → Q .ret e w) (e : Env) (w : World) (h : m61_6 R (e 8) w) : W61 k61_6 Q e w := by
  unfold m61_6 at h
  refine coA (Operand.tmp 8) h (fun h1 => ?_) (fun h1 => ?_)
  · refine seA ?_
    have hN : ∀ e w, (m61_7 R (e 2) w) → (thenE (W61 k61_7 Q) Q) .normal e w := fun e w h => then_N (s61_7 (R := R) (Q := Q) hR e w h)
    exact rgA 6 (fun e w => m61_7 R (e 2) w) h1 hN
  · exact skA (hN _ _ h1)
theorem s61_3 {R : VP} {Q : EQ} (hR : ∀ e w, (R (e 2) w) → Q .ret e w) (e : Env) (w : World) (h : m61_3 R (e 0) w) : W61 k61_3 Q e w := by
  unfold m61_3 at h
  refine seA ?_
  have hN : ∀ e w, (m61_4 R w) → (thenE (W61 k61_4 Q) Q) .normal e w := fun e w h => then_N (s61_4 (R := R) (Q := Q) hR e w h)
  have hR : ∀ e w, (R (e 2) w) → (thenE (W61 k61_4 Q) Q) .ret e w := fun e w h => then_R (hR e w h)
  refine seA ?_
  have hN : ∀ e w, (m61_6 R (e 8) w) → (thenE (W61 k61_6 (thenE (W61 k61_4 Q) Q)) (thenE (W61 k61_4 Q) Q)) .normal e w := fun e w h => then_N (s61_6 (R := R) (Q := (thenE (W61 k61_4 Q) Q)) hN hR e w h)
  exact rgA 5 (fun e w => m61_6 R (e 8) w) h hN
theorem s61_8 {R : VP} {Q : EQ} (hN : ∀ e w, (m61_3 R (e 0) w) → Q .normal e w) (hR : ∀ e w, (R (e 2) w) → Q .ret e w) (e : Env) (w : World) (h : m61_8 R (e 0) (e 6) w) : W61 k61_8 Q e w := by
  unfold m61_8 at h
  refine coA (Operand.tmp 6) h (fun h1 => ?_) (fun h1 => ?_)
  · refine seA ?_
    have hN : ∀ e w, (m61_9 R (e 2) w) → (thenE (W61 k61_9 Q) Q) .normal e w := fun e w h => then_N (s61_9 (R := R) (Q := Q) hR e w h)
    exact rgA 4 (fun e w => m61_9 R (e 2) w) h1 hN
  · exact skA (hN _ _ h1)
theorem s61_2 {R : VP} {Q : EQ} (hR : ∀ e w, (R (e 2) w) → Q .ret e w) (e : Env) (w : World) (h : m61_2 R (e 0) w) : W61 k61_2 Q e w := by
  unfold m61_2 at h
  refine seA ?_
  have hN : ∀ e w, (m61_3 R (e 0) w) → (thenE (W61 k61_3 Q) Q) .normal e w := fun e w h => then_N (s61_3 (R := R) (Q := Q) hR e w h)
  have hR : ∀ e w, (R (e 2) w) → (thenE (W61 k61_3 Q) Q) .ret e w := fun e w h => then_R (hR e w h)
  refine seA ?_
  have hN : ∀ e w, (m61_8 R (e 0) (e 6) w) → (thenE (W61 k61_8 (thenE (W61 k61_3 Q) Q)) (thenE (W61 k61_3 Q) Q)) .normal e w := fun e w h => then_N (s61_8 (R := R) (Q := (thenE (W61 k61_3 Q) Q)) hN hR e w h)
  exact rgA 3 (fun e w => m61_8 R (e 0) (e 6) w) h hN
theorem s61_10 {R : VP} {Q : EQ} (hN : ∀ e w, (m61_2 R (e 0) w) → Q .normal e w) (hR : ∀ e w, (R (e 2) w) → Q .ret e w) (e : Env) (w : World) (h : m61_10 R (e 0) (e 4) w) : W61 k61_10 Q e w := by
  unfold m61_10 at h
  refine coA (Operand.tmp 4) h (fun h1 => ?_) (fun h1 => ?_)
  · refine seA ?_
    have hN : ∀ e w, (m61_11 R (e 2) w) → (thenE (W61 k61_11 Q) Q) .normal e w := fun e w h => then_N (s61_11 (R := R) (Q := Q) hR e w h)
    exact rgA 2 (fun e w => m61_11 R (e 2) w) h1 hN
  · exact skA (hN _ _ h1)
theorem s61_1 {R : VP} {Q : EQ} (hR : ∀ e w, (R (e 2) w) → Q .ret e w) (e : Env) (w : World) (h : m61_1 R (e 0) w) : W61 k61_1 Q e w := by
  unfold m61_1 at h
  refine seA ?_
  have hN : ∀ e w, (m61_2 R (e 0) w) → (thenE (W61 k61_2 Q) Q) .normal e w := fun e w h => then_N (s61_2 (R := R) (Q := Q) hR e w h)
  have hR : ∀ e w, (R (e 2) w) → (thenE (W61 k61_2 Q) Q) .ret e w := fun e w h => then_R (hR e w h)
  refine seA ?_
  have hN : ∀ e w, (m61_10 R (e 0) (e 4) w) → (thenE (W61 k61_10 (thenE (W61 k61_2 Q) Q)) (thenE (W61 k61_2 Q) Q)) .normal e w := fun e w h => then_N (s61_10 (R := R) (Q := (thenE (W61 k61_2 Q) Q)) hN hR e w h)
  exact rgA 1 (fun e w => m61_10 R (e 0) (e 4) w) h hN
theorem s61_0 {R : VP} {Q : EQ} (hR : ∀ e w, (R (e 2) w) → Q .ret e w) (e : Env) (w : World) (h : m61_0 R (e 0) w) : W61 k61_0 Q e w := by
  unfold m61_0 at h
  refine seA ?_
  have hN : ∀ e w, (m61_1 R (e 0) w) → (thenE (W61 k61_1 Q) Q) .normal e w := fun e w h => then_N (s61_1 (R := R) (Q := Q) hR e w h)
  exact rgA 0 (fun e w => m61_1 R (e 0) w) h hN
abbrev m61 (R : VP) (v0 : Value) (w : World) : Prop := m61_0 R v0 w
theorem s61 (v0 : Value) {R : VP} {w : World} (h : m61 R v0 w) :
    Calls Try.prog 61 #[v0] w fun e w' => ∃ v, e = .returned v ∧ R v w' :=
  calls_of_cwp (st := (fun i => 0)) (c := k61_0) (by kernel_rfl) Try.func61 (by kernel_rfl) (Nat.le_of_ble_eq_true (by kernel_rfl)) (by kernel_rfl)
    (s61_0 (R := R) (Q := endE Try.prog Try.f61 R) (fun e w h => kcast (by kernel_rfl) h) (argsE #[v0]) w (kcast (by kernel_rfl) h))
/-! ### headgate/headgateref15.Add -/
def m56_14 (R : VP) (t4 : Value) (w : World) : Prop :=
  valS Try.prog (loadC 65 t4) w fun r0 =>
  R r0 w
def m56_13 (R : VP) (t4 b5 : Value) (w : World) : Prop :=
  valP Try.prog (Instr.loadAt 65 b5) w fun t78 w =>
  unitP Try.prog (Instr.storeAt 65 t4 t78) w fun _ w =>
  m56_14 R t4 w
def m56_15 (R : VP) (a2 t4 b5 t73 : Value) (w : World) : Prop :=
  condP t73
  (valP Try.prog (Instr.fieldAt 65 a2 6) w fun t74 w =>
  valP Try.prog (Instr.loadAt 3 t74) w fun t75 w =>
  callP Try.prog (fnV 60) #[t75, (Value.int IntKind.i64 (-1))] w fun t76 w =>
  valP Try.prog (Instr.fieldAt 65 b5 6) w fun t77 w =>
  unitP Try.prog (Instr.storeAt 3 t77 t76) w fun _ w =>
  m56_13 R t4 b5 w)
  (m56_13 R t4 b5 w)
def m56_12 (R : VP) (a2 t4 b5 quarter7 : Value) (w : World) : Prop :=
  valP Try.prog (binS BinOp.eql 3 (Operand.tmp 72) (Operand.const (Value.int IntKind.i64 3)) quarter7 (Value.int IntKind.i64 3)) w fun t73 w =>
  m56_15 R a2 t4 b5 t73 w
def m56_16 (R : VP) (a2 t4 b5 quarter7 t67 : Value) (w : World) : Prop :=
  condP t67
  (valP Try.prog (Instr.fieldAt 65 a2 5) w fun t68 w =>
  valP Try.prog (Instr.loadAt 3 t68) w fun t69 w =>
  callP Try.prog (fnV 60) #[t69, (Value.int IntKind.i64 (-1))] w fun t70 w =>
  valP Try.prog (Instr.fieldAt 65 b5 5) w fun t71 w =>
  unitP Try.prog (Instr.storeAt 3 t71 t70) w fun _ w =>
  m56_12 R a2 t4 b5 quarter7 w)
  (m56_12 R a2 t4 b5 quarter7 w)
def m56_11 (R : VP) (a2 t4 b5 quarter7 : Value) (w : World) : Prop :=
  valP Try.prog (binS BinOp.eql 3 (Operand.tmp 66) (Operand.const (Value.int IntKind.i64 2)) quarter7 (Value.int IntKind.i64 2)) w fun t67 w =>
  m56_16 R a2 t4 b5 quarter7 t67 w
def m56_17 (R : VP) (a2 t4 b5 quarter7 t61 : Value) (w : World) : Prop :=
  condP t61
  (valP Try.prog (Instr.fieldAt 65 a2 6) w fun t62 w =>
  valP Try.prog (Instr.loadAt 3 t62) w fun t63 w =>
  callP Try.prog (fnV 60) #[t63, (Value.int IntKind.i64 1)] w fun t64 w =>
  valP Try.prog (Instr.fieldAt 65 b5 6) w fun t65 w =>
  unitP Try.prog (Instr.storeAt 3 t65 t64) w fun _ w =>
  m56_11 R a2 t4 b5 quarter7 w)
  (m56_11 R a2 t4 b5 quarter7 w)
def m56_10 (R : VP) (a2 t4 b5 quarter7 : Value) (w : World) : Prop :=
  valP Try.prog (binS BinOp.eql 3 (Operand.tmp 60) (Operand.const (Value.int IntKind.i64 1)) quarter7 (Value.int IntKind.i64 1)) w fun t61 w =>
  m56_17 R a2 t4 b5 quarter7 t61 w
def m56_18 (R : VP) (a2 t4 b5 quarter7 t55 : Value) (w : World) : Prop :=
  condP t55
  (valP Try.prog (Instr.fieldAt 65 a2 5) w fun t56 w =>
  valP Try.prog (Instr.loadAt 3 t56) w fun t57 w =>
  callP Try.prog (fnV 60) #[t57, (Value.int IntKind.i64 1)] w fun t58 w =>
  valP Try.prog (Instr.fieldAt 65 b5 5) w fun t59 w =>
  unitP Try.prog (Instr.storeAt 3 t59 t58) w fun _ w =>
  m56_10 R a2 t4 b5 quarter7 w)
  (m56_10 R a2 t4 b5 quarter7 w)
def m56_9 (R : VP) (a2 t4 b5 quarter7 : Value) (w : World) : Prop :=
  valP Try.prog (binS BinOp.eql 3 (Operand.tmp 54) (Operand.const (Value.int IntKind.i64 0)) quarter7 (Value.int IntKind.i64 0)) w fun t55 w =>
  m56_18 R a2 t4 b5 quarter7 t55 w
def m56_8 (R : VP) (v1 a2 t4 b5 : Value) (w : World) : Prop :=
  valP Try.prog (binS BinOp.rem 3 (Operand.tmp 50) (Operand.const (Value.int IntKind.i64 4)) v1 (Value.int IntKind.i64 4)) w fun t51 w =>
  valP Try.prog (binS BinOp.add 3 (Operand.tmp 51) (Operand.const (Value.int IntKind.i64 4)) t51 (Value.int IntKind.i64 4)) w fun t52 w =>
  valP Try.prog (binS BinOp.rem 3 (Operand.tmp 52) (Operand.const (Value.int IntKind.i64 4)) t52 (Value.int IntKind.i64 4)) w fun t53 w =>
  m56_9 R a2 t4 b5 t53 w
def m56_7 (R : VP) (v1 a2 t4 b5 k6 : Value) (w : World) : Prop :=
  valP Try.prog (Instr.fieldAt 65 a2 4) w fun t44 w =>
  valP Try.prog (Instr.indexAt 63 t44 k6) w fun t45 w =>
  valP Try.prog (Instr.loadAt 3 t45) w fun t46 w =>
  callP Try.prog (fnV 60) #[t46, (Value.int IntKind.i64 1)] w fun t47 w =>
  valP Try.prog (Instr.fieldAt 65 b5 4) w fun t48 w =>
  valP Try.prog (Instr.indexAt 63 t48 k6) w fun t49 w =>
  unitP Try.prog (Instr.storeAt 3 t49 t47) w fun _ w =>
  m56_8 R v1 a2 t4 b5 w
def m56_6 (R : VP) (v1 a2 t4 b5 : Value) (w : World) : Prop :=
  callP Try.prog (fnV 61) #[v1] w fun t41 w =>
  m56_7 R v1 a2 t4 b5 t41 w
def m56_5 (R : VP) (v1 a2 t4 b5 : Value) (w : World) : Prop :=
  valP Try.prog (Instr.fieldAt 65 a2 1) w fun t35 w =>
  valP Try.prog (Instr.loadAt 3 t35) w fun t36 w =>
  callP Try.prog (fnV 60) #[t36, v1] w fun t38 w =>
  valP Try.prog (Instr.fieldAt 65 b5 1) w fun t39 w =>
  unitP Try.prog (Instr.storeAt 3 t39 t38) w fun _ w =>
  m56_6 R v1 a2 t4 b5 w
def m56_4 (R : VP) (v1 a2 t4 b5 : Value) (w : World) : Prop :=
  valP Try.prog (Instr.fieldAt 65 a2 0) w fun t31 w =>
  valP Try.prog (Instr.loadAt 3 t31) w fun t32 w =>
  callP Try.prog (fnV 60) #[t32, (Value.int IntKind.i64 1)] w fun t33 w =>
  valP Try.prog (Instr.fieldAt 65 b5 0) w fun t34 w =>
  unitP Try.prog (Instr.storeAt 3 t34 t33) w fun _ w =>
  m56_5 R v1 a2 t4 b5 w
def m56_19 (R : VP) (v1 a2 t4 b5 t28 : Value) (w : World) : Prop :=
  condP t28
  (valP Try.prog (Instr.fieldAt 65 b5 3) w fun t30 w =>
  unitP Try.prog (Instr.storeAt 3 t30 v1) w fun _ w =>
  m56_4 R v1 a2 t4 b5 w)
  (m56_4 R v1 a2 t4 b5 w)
def m56_3 (R : VP) (v1 a2 t4 b5 : Value) (w : World) : Prop :=
  valP Try.prog (Instr.fieldAt 65 a2 0) w fun t20 w =>
  valP Try.prog (Instr.loadAt 3 t20) w fun t21 w =>
  valP Try.prog (binS BinOp.eql 3 (Operand.tmp 21) (Operand.const (Value.int IntKind.i64 0)) t21 (Value.int IntKind.i64 0)) w fun t22 w =>
  condP t22
  (pickP t22 (Value.bool true) undef fun t28 =>
  m56_19 R v1 a2 t4 b5 t28 w)
  (valP Try.prog (Instr.fieldAt 65 a2 3) w fun t25 w =>
  valP Try.prog (Instr.loadAt 3 t25) w fun t26 w =>
  valP Try.prog (binS BinOp.gtr 3 (Operand.tmp 24) (Operand.tmp 26) v1 t26) w fun t27 w =>
  pickP t22 (Value.bool true) t27 fun t28 =>
  m56_19 R v1 a2 t4 b5 t28 w)
def m56_20 (R : VP) (v1 a2 t4 b5 t17 : Value) (w : World) : Prop :=
  condP t17
  (valP Try.prog (Instr.fieldAt 65 b5 2) w fun t19 w =>
  unitP Try.prog (Instr.storeAt 3 t19 v1) w fun _ w =>
  m56_3 R v1 a2 t4 b5 w)
  (m56_3 R v1 a2 t4 b5 w)
def m56_2 (R : VP) (v1 a2 t4 b5 : Value) (w : World) : Prop :=
  valP Try.prog (Instr.fieldAt 65 a2 0) w fun t9 w =>
  valP Try.prog (Instr.loadAt 3 t9) w fun t10 w =>
  valP Try.prog (binS BinOp.eql 3 (Operand.tmp 10) (Operand.const (Value.int IntKind.i64 0)) t10 (Value.int IntKind.i64 0)) w fun t11 w =>
  condP t11
  (pickP t11 (Value.bool true) undef fun t17 =>
  m56_20 R v1 a2 t4 b5 t17 w)
  (valP Try.prog (Instr.fieldAt 65 a2 2) w fun t14 w =>
  valP Try.prog (Instr.loadAt 3 t14) w fun t15 w =>
  valP Try.prog (binS BinOp.lss 3 (Operand.tmp 13) (Operand.tmp 15) v1 t15) w fun t16 w =>
  pickP t11 (Value.bool true) t16 fun t17 =>
  m56_20 R v1 a2 t4 b5 t17 w)
def m56_1 (R : VP) (v1 a2 t4 : Value) (w : World) : Prop :=
  valP Try.prog (Instr.loadAt 65 a2) w fun t8 w =>
  valP Try.prog (Instr.alloc 65 true (.tuple #[])) w fun b5 w =>
  unitP Try.prog (Instr.storeAt 65 b5 t8) w fun _ w =>
  m56_2 R v1 a2 t4 b5 w
def m56_0 (R : VP) (a0 v1 : Value) (w : World) : Prop :=
  valP Try.prog (Instr.box 65 a0) w fun a2 w =>
  valP Try.prog (Instr.alloc 65 true (.tuple #[])) w fun t4 w =>
  m56_1 R v1 a2 t4 w
abbrev W56 := cwp Try.prog (fun i => 0)
noncomputable def k56_0 : Code := (bodyOf Try.f56)
noncomputable def k56_1 : Code := (c2 k56_0)
noncomputable def k56_2 : Code := (c2 k56_1)
noncomputable def k56_3 : Code := (c2 k56_2)
noncomputable def k56_4 : Code := (c2 k56_3)
noncomputable def k56_5 : Code := (c2 k56_4)
noncomputable def k56_6 : Code := (c2 k56_5)
noncomputable def k56_7 : Code := (c2 k56_6)
noncomputable def k56_8 : Code := (c2 k56_7)
noncomputable def k56_9 : Code := (c2 k56_8)
noncomputable def k56_10 : Code := (c2 k56_9)
noncomputable def k56_11 : Code := (c2 k56_10)
noncomputable def k56_12 : Code := (c2 k56_11)
noncomputable def k56_13 : Code := (c2 k56_12)
noncomputable def k56_14 : Code := (c2 k56_13)
noncomputable def k56_15 : Code := (c2 (c1 k56_12))
noncomputable def k56_16 : Code := (c2 (c1 k56_11))
noncomputable def k56_17 : Code := (c2 (c1 k56_10))
noncomputable def k56_18 : Code := (c2 (c1 k56_9))
noncomputable def k56_19 : Code := (c2 (c1 k56_3))
noncomputable def k56_20 : Code := (c2 (c1 k56_2))
theorem s56_14 {R : VP} {Q : EQ} (hR : ∀ e w, (valS Try.prog (loadC 65 (e 4)) w fun r0 =>
R r0 w) → Q .ret e w) (e : Env) (w : World) (h : m56_14 R (e 4) w) : W56 k56_14 Q e w := by
  unfold m56_14 at h
  exact reA (hR _ _ h)
theorem s56_13 {R : VP} {Q : EQ} (hR : ∀ e w, (valS Try.prog (loadC 65 (e 4)) w fun r0 =>
R r0 w) → Q .ret e w) (e : Env) (w : World) (h : m56_13 R (e 4) (e 5) w) : W56 k56_13 Q e w := by
  unfold m56_13 at h
  refine seA ?_
  have hN : ∀ e w, (m56_14 R (e 4) w) → (thenE (W56 k56_14 Q) Q) .normal e w := fun e w h => then_N (s56_14 (R := R) (Q := Q) hR e w h)
  exact rgA 19 (fun e w => m56_14 R (e 4) w) h hN
theorem s56_15 {R : VP} {Q : EQ} (hN : ∀ e w, (m56_13 R (e 4) (e 5) w) → Q .normal e w) (e : Env) (w : World) (h : m56_15 R (e 2) (e 4) (e 5) (e 73) w) : W56 k56_15 Q e w := by
  unfold m56_15 at h
  refine coA (Operand.tmp 73) h (fun h1 => ?_) (fun h1 => ?_)
  · exact rgA 18 (fun e w => m56_13 R (e 4) (e 5) w) h1 hN
  · exact skA (hN _ _ h1)
theorem s56_12 {R : VP} {Q : EQ} (hR : ∀ e w, (valS Try.prog (loadC 65 (e 4)) w fun r0 =>
R r0 w) → Q .ret e w) (e : Env) (w : World) (h : m56_12 R (e 2) (e 4) (e 5) (e 7) w) : W56 k56_12 Q e w := by
  unfold m56_12 at h
  refine seA ?_
  have hN : ∀ e w, (m56_13 R (e 4) (e 5) w) → (thenE (W56 k56_13 Q) Q) .normal e w := fun e w h => then_N (s56_13 (R := R) (Q := Q) hR e w h)
  refine seA ?_
  have hN : ∀ e w, (m56_15 R (e 2) (e 4) (e 5) (e 73) w) → (thenE (W56 k56_15 (thenE (W56 k56_13 Q) Q)) (thenE (W56 k56_13 Q) Q)) .normal e w := fun e w h => then_N (s56_15 (R := R) (Q := (thenE (W56 k56_13 Q) Q)) hN e w h)
  exact rgA 17 (fun e w => m56_15 R (e 2) (e 4) (e 5) (e 73) w) h hN
theorem s56_16 {R : VP} {Q : EQ} (hN : ∀ e w, (m56_12 R (e 2) (e 4) (e 5) (e 7) w) → Q .normal e w) (e : Env) (w : World) (h : m56_16 R (e 2) (e 4) (e 5) (e 7) (e 67) w) : W56 k56_16 Q e w := by
  unfold m56_16 at h
  refine coA (Operand.tmp 67) h (fun h1 => ?_) (fun h1 => ?_)
  · exact rgA 16 (fun e w => m56_12 R (e 2) (e 4) (e 5) (e 7) w) h1 hN
  · exact skA (hN _ _ h1)
theorem s56_11 {R : VP} {Q : EQ} (hR : ∀ e w, (valS Try.prog (loadC 65 (e 4)) w fun r0 =>
R r0 w) → Q .ret e w) (e : Env) (w : World) (h : m56_11 R (e 2) (e 4) (e 5) (e 7) w) : W56 k56_11 Q e w := by
  unfold m56_11 at h
  refine seA ?_
  have hN : ∀ e w, (m56_12 R (e 2) (e 4) (e 5) (e 7) w) → (thenE (W56 k56_12 Q) Q) .normal e w := fun e w h => then_N (s56_12 (R := R) (Q := Q) hR e w h)
  refine seA ?_
  have hN : ∀ e w, (m56_16 R (e 2) (e 4) (e 5) (e 7) (e 67) w) → (thenE (W56 k56_16 (thenE (W56 k56_12 Q) Q)) (thenE (W56 k56_12 Q) Q)) .normal e w := fun e w h => then_N (s56_16 (R := R) (Q := (thenE (W56 k56_12 Q) Q)) hN e w h)
  exact rgA 15 (fun e w => m56_16 R (e 2) (e 4) (e 5) (e 7) (e 67) w) h hN
theorem s56_17 {R : VP} {Q : EQ} (hN : ∀ e w, (m56_11 R (e 2) (e 4) (e 5) (e 7) w) → Q .normal e w) (e : Env) (w : World) (h : m56_17 R (e 2) (e 4) (e 5) (e 7) (e 61) w) : W56 k56_17 Q e w := by
  unfold m56_17 at h
  refine coA (Operand.tmp 61) h (fun h1 => ?_) (fun h1 => ?_)
  · exact rgA 14 (fun e w => m56_11 R (e 2) (e 4) (e 5) (e 7) w) h1 hN
  · exact skA (hN _ _ h1)
theorem s56_10 {R : VP} {Q : EQ} (hR : ∀ e w, (valS Try.prog (loadC 65 (e 4)) w fun r0 =>
R r0 w) → Q .ret e w) (e : Env) (w : World) (h : m56_10 R (e 2) (e 4) (e 5) (e 7) w) : W56 k56_10 Q e w := by
  unfold m56_10 at h
  refine seA ?_
  have hN : ∀ e w, (m56_11 R (e 2) (e 4) (e 5) (e 7) w) → (thenE (W56 k56_11 Q) Q) .normal e w := fun e w h => then_N (s56_11 (R := R) (Q := Q) hR e w h)
  refine seA ?_
  have hN : ∀ e w, (m56_17 R (e 2) (e 4) (e 5) (e 7) (e 61) w) → (thenE (W56 k56_17 (thenE (W56 k56_11 Q) Q)) (thenE (W56 k56_11 Q) Q)) .normal e w := fun e w h => then_N (s56_17 (R := R) (Q := (thenE (W56 k56_11 Q) Q)) hN e w h)
  exact rgA 13 (fun e w => m56_17 R (e 2) (e 4) (e 5) (e 7) (e 61) w) h hN
theorem s56_18 {R : VP} {Q : EQ} (hN : ∀ e w, (m56_10 R (e 2) (e 4) (e 5) (e 7) w) → Q .normal e w) (e : Env) (w : World) (h : m56_18 R (e 2) (e 4) (e 5) (e 7) (e 55) w) : W56 k56_18 Q e w := by
  unfold m56_18 at h
  refine coA (Operand.tmp 55) h (fun h1 => ?_) (fun h1 => ?_)
  · exact rgA 12 (fun e w => m56_10 R (e 2) (e 4) (e 5) (e 7) w) h1 hN
  · exact skA (hN _ _ h1)
theorem s56_9 {R : VP} {Q : EQ} (hR : ∀ e w, (valS Try.prog (loadC 65 (e 4)) w fun r0 =>
R r0 w) → Q .ret e w) (e : Env) (w : World) (h : m56_9 R (e 2) (e 4) (e 5) (e 7) w) : W56 k56_9 Q e w := by
  unfold m56_9 at h
  refine seA ?_
  have hN : ∀ e w, (m56_10 R (e 2) (e 4) (e 5) (e 7) w) → (thenE (W56 k56_10 Q) Q) .normal e w := fun e w h => then_N (s56_10 (R := R) (Q := Q) hR e w h)
  refine seA ?_
  have hN : ∀ e w, (m56_18 R (e 2) (e 4) (e 5) (e 7) (e 55) w) → (thenE (W56 k56_18 (thenE (W56 k56_10 Q) Q)) (thenE (W56 k56_10 Q) Q)) .normal e w := fun e w h => then_N (s56_18 (R := R) (Q := (thenE (W56 k56_10 Q) Q)) hN e w h)
  exact rgA 11 (fun e w => m56_18 R (e 2) (e 4) (e 5) (e 7) (e 55) w) h hN
theorem s56_8 {R : VP} {Q : EQ} (hR : ∀ e w, (valS Try.prog (loadC 65 (e 4)) w fun r0 =>
R r0 w) → Q .ret e w) (e : Env) (w : World) (h : m56_8 R (e 1) (e 2) (e 4) (e 5) w) : W56 k56_8 Q e w := by
  unfold m56_8 at h
  refine seA ?_
  have hN : ∀ e w, (m56_9 R (e 2) (e 4) (e 5) (e 7) w) → (thenE (W56 k56_9 Q) Q) .normal e w := fun e w h => then_N (s56_9 (R := R) (Q := Q) hR e w h)
  exact rgA 10 (fun e w => m56_9 R (e 2) (e 4) (e 5) (e 7) w) h hN
theorem s56_7 {R : VP} {Q : EQ} (hR : ∀ e w, (valS Try.prog (loadC 65 (e 4)) w fun r0 =>
R r0 w) → Q .ret e w) (e : Env) (w : World) (h : m56_7 R (e 1) (e 2) (e 4) (e 5) (e 6) w) : W56 k56_7 Q e w := by
  unfold m56_7 at h
  refine seA ?_
  have hN : ∀ e w, (m56_8 R (e 1) (e 2) (e 4) (e 5) w) → (thenE (W56 k56_8 Q) Q) .normal e w := fun e w h => then_N (s56_8 (R := R) (Q := Q) hR e w h)
  exact rgA 9 (fun e w => m56_8 R (e 1) (e 2) (e 4) (e 5) w) h hN
theorem s56_6 {R : VP} {Q : EQ} (hR : ∀ e w, (valS Try.prog (loadC 65 (e 4)) w fun r0 =>
R r0 w) → Q .ret e w) (e : Env) (w : World) (h : m56_6 R (e 1) (e 2) (e 4) (e 5) w) : W56 k56_6 Q e w := by
  unfold m56_6 at h
  refine seA ?_
  have hN : ∀ e w, (m56_7 R (e 1) (e 2) (e 4) (e 5) (e 6) w) → (thenE (W56 k56_7 Q) Q) .normal e w := fun e w h => then_N (s56_7 (R := R) (Q := Q) hR e w h)
  exact rgA 8 (fun e w => m56_7 R (e 1) (e 2) (e 4) (e 5) (e 6) w) h hN
theorem s56_5 {R : VP} {Q : EQ} (hR : ∀ e w, (valS Try.prog (loadC 65 (e 4)) w fun r0 =>
R r0 w) → Q .ret e w) (e : Env) (w : World) (h : m56_5 R (e 1) (e 2) (e 4) (e 5) w) : W56 k56_5 Q e w := by
  unfold m56_5 at h
  refine seA ?_
  have hN : ∀ e w, (m56_6 R (e 1) (e 2) (e 4) (e 5) w) → (thenE (W56 k56_6 Q) Q) .normal e w := fun e w h => then_N (s56_6 (R := R) (Q := Q) hR e w h)
  exact rgA 7 (fun e w => m56_6 R (e 1) (e 2) (e 4) (e 5) w) h hN
theorem s56_4 {R : VP} {Q : EQ} (hR : ∀ e w, (valS Try.prog (loadC 65 (e 4)) w fun r0 =>
R r0 w) → Q .ret e w) (e : Env) (w : World) (h : m56_4 R (e 1) (e 2) (e 4) (e 5) w) : W56 k56_4 Q e w := by
  unfold m56_4 at h
  refine seA ?_
  have hN : ∀ e w, (m56_5 R (e 1) (e 2) (e 4) (e 5) w) → (thenE (W56 k56_5 Q) Q) .normal e w := fun e w h => then_N (s56_5 (R := R) (Q := Q) hR e w h)
  exact rgA 6 (fun e w => m56_5 R (e 1) (e 2) (e 4) (e 5) w) h hN
theorem s56_19 {R : VP} {Q : EQ} (hN : ∀ e w, (m56_4 R (e 1) (e 2) (e 4) (e 5) w) → Q .normal e w) (e : Env) (w : World) (h : m56_19 R (e 1) (e 2) (e 4) (e 5) (e 28) w) : W56 k56_19 Q e w := by
  unfold m56_19 at h
  refine coA (Operand.tmp 28) h (fun h1 => ?_) (fun h1 => ?_)
  · exact rgA 5 (fun e w => m56_4 R (e 1) (e 2) (e 4) (e 5) w) h1 hN
  · exact skA (hN _ _ h1)
theorem s56_3 {R : VP} {Q : EQ} (hR : ∀ e w, (valS Try.prog (loadC 65 (e 4)) w fun r0 =>
R r0 w) → Q .ret e w) (e : Env) (w : World) (h : m56_3 R (e 1) (e 2) (e 4) (e 5) w) : W56 k56_3 Q e w := by
  unfold m56_3 at h
  refine seA ?_
  have hN : ∀ e w, (m56_4 R (e 1) (e 2) (e 4) (e 5) w) → (thenE (W56 k56_4 Q) Q) .normal e w := fun e w h => then_N (s56_4 (R := R) (Q := Q) hR e w h)
  refine seA ?_
  have hN : ∀ e w, (m56_19 R (e 1) (e 2) (e 4) (e 5) (e 28) w) → (thenE (W56 k56_19 (thenE (W56 k56_4 Q) Q)) (thenE (W56 k56_4 Q) Q)) .normal e w := fun e w h => then_N (s56_19 (R := R) (Q := (thenE (W56 k56_4 Q) Q)) hN e w h)
  exact rgA 4 (fun e w => m56_19 R (e 1) (e 2) (e 4) (e 5) (e 28) w) h hN
theorem s56_20 {R : VP} {Q : EQ} (hN : ∀ e w, (m56_3 R (e 1) (e 2) (e 4) (e 5) w) → Q .normal e w) (e : Env) (w : World) (h : m56_20 R (e 1) (e 2) (e 4) (e 5) (e 17) w) : W56 k56_20 Q e w := by
  unfold m56_20 at h
  refine coA (Operand.tmp 17) h (fun h1 => ?_) (fun h1 => ?_)
  · exact rgA 3 (fun e w => m56_3 R (e 1) (e 2) (e 4) (e 5) w) h1 hN
  · exact skA (hN _ _ h1)
theorem s56_2 {R : VP} {Q : EQ} (hR : ∀ e w, (valS Try.prog (loadC 65 (e 4)) w fun r0 =>
R r0 w) → Q .ret e w) (e : Env) (w : World) (h : m56_2 R (e 1) (e 2) (e 4) (e 5) w) : W56 k56_2 Q e w := by
  unfold m56_2 at h
  refine seA ?_
  have hN : ∀ e w, (m56_3 R (e 1) (e 2) (e 4) (e 5) w) → (thenE (W56 k56_3 Q) Q) .normal e w := fun e w h => then_N (s56_3 (R := R) (Q := Q) hR e w h)
  refine seA ?_
  have hN : ∀ e w, (m56_20 R (e 1) (e 2) (e 4) (e 5) (e 17) w) → (thenE (W56 k56_20 (thenE (W56 k56_3 Q) Q)) (thenE (W56 k56_3 Q) Q)) .normal e w := fun e w h => then_N (s56_20 (R := R) (Q := (thenE (W56 k56_3 Q) Q)) hN e w h)
  exact rgA 2 (fun e w => m56_20 R (e 1) (e 2) (e 4) (e 5) (e 17) w) h hN
theorem s56_1 {R : VP} {Q : EQ} (hR : ∀ e w, (valS Try.prog (loadC 65 (e 4)) w fun r0 =>
R r0 w) → Q .ret e w) (e : Env) (w : World) (h : m56_1 R (e 1) (e 2) (e 4) w) : W56 k56_1 Q e w := by
  unfold m56_1 at h
  refine seA ?_
  have hN : ∀ e w, (m56_2 R (e 1) (e 2) (e 4) (e 5) w) → (thenE (W56 k56_2 Q) Q) .normal e w := fun e w h => then_N (s56_2 (R := R) (Q := Q) hR e w h)
  exact rgA 1 (fun e w => m56_2 R (e 1) (e 2) (e 4) (e 5) w) h hN
theorem s56_0 {R : VP} {Q : EQ} (hR : ∀ e w, (valS Try.prog (loadC 65 (e 4)) w fun r0 =>
R r0 w) → Q .ret e w) (e : Env) (w : World) (h : m56_0 R (e 0) (e 1) w) : W56 k56_0 Q e w := by
  unfold m56_0 at h
  refine seA ?_
  have hN : ∀ e w, (m56_1 R (e 1) (e 2) (e 4) w) → (thenE (W56 k56_1 Q) Q) .normal e w := fun e w h => then_N (s56_1 (R := R) (Q := Q) hR e w h)
  exact rgA 0 (fun e w => m56_1 R (e 1) (e 2) (e 4) w) h hN
abbrev m56 (R : VP) (a0 v1 : Value) (w : World) : Prop := m56_0 R a0 v1 w
theorem s56 (a0 v1 : Value) {R : VP} {w : World} (h : m56 R a0 v1 w) :
    Calls Try.prog 56 #[a0, v1] w fun e w' => ∃ v, e = .returned v ∧ R v w' :=
  calls_of_cwp (st := (fun i => 0)) (c := k56_0) (by kernel_rfl) Try.func56 (by kernel_rfl) (Nat.le_of_ble_eq_true (by kernel_rfl)) (by kernel_rfl)
    (s56_0 (R := R) (Q := endE Try.prog Try.f56 R) (fun e w h => kcast (by kernel_rfl) h) (argsE #[a0, v1]) w (kcast (by kernel_rfl) h))
/-! ### headgate/headgateref15.May -/
def m30_23 (R : VP) (t2 : Value) (w : World) : Prop :=
  R t2 w
def m30_20 (R : VP) (K1 : (Value × Value) → World → Prop) (t2 : Value) (w : World) : Prop :=
  R t2 w
def m30_17 (R : VP) (K1 : (Value × Value) → World → Prop) (a1 n3 k4 : Value) (w : World) : Prop :=
  valP Try.prog (binS BinOp.add 3 (Operand.tmp 24) (Operand.const (Value.int IntKind.i64 1)) k4 (Value.int IntKind.i64 1)) w fun t25 w =>
  K1 (n3, t25) w
def m30_18 (R : VP) (K1 : (Value × Value) → World → Prop) (a1 n3 k4 : Value) (w : World) : Prop :=
  valP Try.prog (Instr.fieldAt 65 a1 4) w fun t40 w =>
  valP Try.prog (Instr.indexAt 63 t40 k4) w fun t41 w =>
  valP Try.prog (Instr.loadAt 3 t41) w fun t42 w =>
  valP Try.prog (binS BinOp.add 3 (Operand.tmp 38) (Operand.tmp 42) n3 t42) w fun t43 w =>
  m30_17 R K1 a1 t43 k4 w
def m30_19 (R : VP) (K1 : (Value × Value) → World → Prop) (a1 n3 k4 t37 : Value) (w : World) : Prop :=
  condP t37
  (m30_20 R K1 (Value.bool false) w)
  (m30_18 R K1 a1 n3 k4 w)
def m30_16 (R : VP) (K1 : (Value × Value) → World → Prop) (a1 n3 k4 : Value) (w : World) : Prop :=
  valP Try.prog (Instr.fieldAt 65 a1 4) w fun t27 w =>
  valP Try.prog (Instr.indexAt 63 t27 k4) w fun t28 w =>
  valP Try.prog (Instr.loadAt 3 t28) w fun t29 w =>
  valP Try.prog (binS BinOp.lss 3 (Operand.tmp 29) (Operand.const (Value.int IntKind.i64 0)) t29 (Value.int IntKind.i64 0)) w fun t30 w =>
  condP t30
  (pickP t30 (Value.bool true) undef fun t37 =>
  m30_19 R K1 a1 n3 k4 t37 w)
  (valP Try.prog (Instr.fieldAt 65 a1 4) w fun t33 w =>
  valP Try.prog (Instr.indexAt 63 t33 k4) w fun t34 w =>
  valP Try.prog (Instr.loadAt 3 t34) w fun t35 w =>
  valP Try.prog (binS BinOp.gtr 3 (Operand.tmp 35) (Operand.const (Value.int IntKind.i64 1099511627776)) t35 (Value.int IntKind.i64 1099511627776)) w fun t36 w =>
  pickP t30 (Value.bool true) t36 fun t37 =>
  m30_19 R K1 a1 n3 k4 t37 w)
def m30_13 (R : VP) (t2 : Value) (w : World) : Prop :=
  R t2 w
def m30_9 (R : VP) (t2 : Value) (w : World) : Prop :=
  R t2 w
def m30_8 (R : VP) (a1 x5 y6 : Value) (w : World) : Prop :=
  valP Try.prog (binS BinOp.add 3 (Operand.tmp 80) (Operand.tmp 81) x5 y6) w fun t82 w =>
  valP Try.prog (Instr.fieldAt 65 a1 0) w fun t83 w =>
  valP Try.prog (Instr.loadAt 3 t83) w fun t84 w =>
  valP Try.prog (binS BinOp.leq 3 (Operand.tmp 82) (Operand.tmp 84) t82 t84) w fun t85 w =>
  m30_9 R t85 w
def m30_10 (R : VP) (a1 x5 y6 t77 : Value) (w : World) : Prop :=
  condP t77
  (valP Try.prog (Op.unary UnOp.neg y6) w fun t79 w =>
  m30_8 R a1 x5 t79 w)
  (m30_8 R a1 x5 y6 w)
def m30_7 (R : VP) (a1 x5 y6 : Value) (w : World) : Prop :=
  valP Try.prog (binS BinOp.lss 3 (Operand.tmp 76) (Operand.const (Value.int IntKind.i64 0)) y6 (Value.int IntKind.i64 0)) w fun t77 w =>
  m30_10 R a1 x5 y6 t77 w
def m30_11 (R : VP) (a1 x5 y6 t73 : Value) (w : World) : Prop :=
  condP t73
  (valP Try.prog (Op.unary UnOp.neg x5) w fun t75 w =>
  m30_7 R a1 t75 y6 w)
  (m30_7 R a1 x5 y6 w)
def m30_6 (R : VP) (a1 x5 y6 : Value) (w : World) : Prop :=
  valP Try.prog (binS BinOp.lss 3 (Operand.tmp 72) (Operand.const (Value.int IntKind.i64 0)) x5 (Value.int IntKind.i64 0)) w fun t73 w =>
  m30_11 R a1 x5 y6 t73 w
def m30_5 (R : VP) (a1 : Value) (w : World) : Prop :=
  valQ Try.prog (Instr.fieldAt 65 a1 5) w fun t68 =>
  valQ Try.prog (Instr.loadAt 3 t68) w fun t69 =>
  valQ Try.prog (Instr.fieldAt 65 a1 6) w fun t70 =>
  valQ Try.prog (Instr.loadAt 3 t70) w fun t71 =>
  anyDraw w fun w =>
  m30_6 R a1 t69 t71 w
def m30_12 (R : VP) (a1 t67 : Value) (w : World) : Prop :=
  condP t67
  (m30_13 R (Value.bool false) w)
  (m30_5 R a1 w)
def m30_4 (R : VP) (a1 n3 : Value) (w : World) : Prop :=
  valP Try.prog (Instr.fieldAt 65 a1 0) w fun t45 w =>
  valP Try.prog (Instr.loadAt 3 t45) w fun t46 w =>
  valP Try.prog (binS BinOp.neq 3 (Operand.tmp 44) (Operand.tmp 46) n3 t46) w fun t47 w =>
  condP t47
  (pickP t47 (Value.bool true) undef fun t52 =>
  pickP t52 (Value.bool true) undef fun t57 =>
  pickP t57 (Value.bool true) undef fun t62 =>
  pickP t62 (Value.bool true) undef fun t67 =>
  m30_12 R a1 t67 w)
  (valP Try.prog (Instr.fieldAt 65 a1 5) w fun t49 w =>
  valP Try.prog (Instr.loadAt 3 t49) w fun t50 w =>
  valP Try.prog (binS BinOp.lss 3 (Operand.tmp 50) (Operand.const (Value.int IntKind.i64 (-1099511627776))) t50 (Value.int IntKind.i64 (-1099511627776))) w fun t51 w =>
  pickP t47 (Value.bool true) t51 fun t52 =>
  condP t52
  (pickP t52 (Value.bool true) undef fun t57 =>
  pickP t57 (Value.bool true) undef fun t62 =>
  pickP t62 (Value.bool true) undef fun t67 =>
  m30_12 R a1 t67 w)
  (valP Try.prog (Instr.fieldAt 65 a1 5) w fun t54 w =>
  valP Try.prog (Instr.loadAt 3 t54) w fun t55 w =>
  valP Try.prog (binS BinOp.gtr 3 (Operand.tmp 55) (Operand.const (Value.int IntKind.i64 1099511627776)) t55 (Value.int IntKind.i64 1099511627776)) w fun t56 w =>
  pickP t52 (Value.bool true) t56 fun t57 =>
  condP t57
  (pickP t57 (Value.bool true) undef fun t62 =>
  pickP t62 (Value.bool true) undef fun t67 =>
  m30_12 R a1 t67 w)
  (valP Try.prog (Instr.fieldAt 65 a1 6) w fun t59 w =>
  valP Try.prog (Instr.loadAt 3 t59) w fun t60 w =>
  valP Try.prog (binS BinOp.lss 3 (Operand.tmp 60) (Operand.const (Value.int IntKind.i64 (-1099511627776))) t60 (Value.int IntKind.i64 (-1099511627776))) w fun t61 w =>
  pickP t57 (Value.bool true) t61 fun t62 =>
  condP t62
  (pickP t62 (Value.bool true) undef fun t67 =>
  m30_12 R a1 t67 w)
  (valP Try.prog (Instr.fieldAt 65 a1 6) w fun t64 w =>
  valP Try.prog (Instr.loadAt 3 t64) w fun t65 w =>
  valP Try.prog (binS BinOp.gtr 3 (Operand.tmp 65) (Operand.const (Value.int IntKind.i64 1099511627776)) t65 (Value.int IntKind.i64 1099511627776)) w fun t66 w =>
  pickP t62 (Value.bool true) t66 fun t67 =>
  m30_12 R a1 t67 w))))
def m30_21 (R : VP) (K1 : (Value × Value) → World → Prop) (a1 n3 k4 t23 : Value) (w : World) : Prop :=
  condP t23
  (m30_16 R K1 a1 n3 k4 w)
  (m30_4 R a1 n3 w)
def m30_15 (R : VP) (K1 : (Value × Value) → World → Prop) (a1 n3 k4 : Value) (w : World) : Prop :=
  valP Try.prog (binS BinOp.lss 3 (Operand.tmp 22) (Operand.const (Value.int IntKind.i64 4)) k4 (Value.int IntKind.i64 4)) w fun t23 w =>
  m30_21 R K1 a1 n3 k4 t23 w
def m30_14 (R : VP) (a1 n3 k4 : Value) (w : World) : Prop :=
  loopP (fun (K1 : (Value × Value) → World → Prop) (s : Value × Value) w => m30_15 R K1 a1 s.1 s.2 w) (n3, k4) w
def m30_3 (R : VP) (a1 n3 : Value) (w : World) : Prop :=
  m30_14 R a1 n3 (Value.int IntKind.i64 0) w
def m30_2 (R : VP) (a1 : Value) (w : World) : Prop :=
  m30_3 R a1 (Value.int IntKind.i64 0) w
def m30_22 (R : VP) (a1 t21 : Value) (w : World) : Prop :=
  condP t21
  (m30_23 R (Value.bool false) w)
  (m30_2 R a1 w)
def m30_1 (R : VP) (a1 : Value) (w : World) : Prop :=
  valP Try.prog (Instr.fieldAt 65 a1 0) w fun t7 w =>
  valP Try.prog (Instr.loadAt 3 t7) w fun t8 w =>
  valP Try.prog (binS BinOp.lss 3 (Operand.tmp 8) (Operand.const (Value.int IntKind.i64 1)) t8 (Value.int IntKind.i64 1)) w fun t9 w =>
  condP t9
  (pickP t9 (Value.bool true) undef fun t14 =>
  condP t14
  (pickP t14 (Value.bool true) undef fun t21 =>
  m30_22 R a1 t21 w)
  (valP Try.prog (Instr.fieldAt 65 a1 2) w fun t16 w =>
  valP Try.prog (Instr.loadAt 3 t16) w fun t17 w =>
  valP Try.prog (Instr.fieldAt 65 a1 3) w fun t18 w =>
  valP Try.prog (Instr.loadAt 3 t18) w fun t19 w =>
  valP Try.prog (binS BinOp.gtr 3 (Operand.tmp 17) (Operand.tmp 19) t17 t19) w fun t20 w =>
  pickP t14 (Value.bool true) t20 fun t21 =>
  m30_22 R a1 t21 w))
  (valP Try.prog (Instr.fieldAt 65 a1 0) w fun t11 w =>
  valP Try.prog (Instr.loadAt 3 t11) w fun t12 w =>
  valP Try.prog (binS BinOp.gtr 3 (Operand.tmp 12) (Operand.const (Value.int IntKind.i64 1099511627776)) t12 (Value.int IntKind.i64 1099511627776)) w fun t13 w =>
  pickP t9 (Value.bool true) t13 fun t14 =>
  condP t14
  (pickP t14 (Value.bool true) undef fun t21 =>
  m30_22 R a1 t21 w)
  (valP Try.prog (Instr.fieldAt 65 a1 2) w fun t16 w =>
  valP Try.prog (Instr.loadAt 3 t16) w fun t17 w =>
  valP Try.prog (Instr.fieldAt 65 a1 3) w fun t18 w =>
  valP Try.prog (Instr.loadAt 3 t18) w fun t19 w =>
  valP Try.prog (binS BinOp.gtr 3 (Operand.tmp 17) (Operand.tmp 19) t17 t19) w fun t20 w =>
  pickP t14 (Value.bool true) t20 fun t21 =>
  m30_22 R a1 t21 w))
def m30_0 (R : VP) (a0 : Value) (w : World) : Prop :=
  valP Try.prog (Instr.box 65 a0) w fun a1 w =>
  m30_1 R a1 w
abbrev W30 := cwp Try.prog (fun i => cond (Nat.beq i 12) 1 (0))
noncomputable def k30_0 : Code := (bodyOf Try.f30)
noncomputable def k30_1 : Code := (c2 k30_0)
noncomputable def k30_2 : Code := (c2 k30_1)
noncomputable def k30_3 : Code := (c2 k30_2)
noncomputable def k30_4 : Code := (c2 k30_3)
noncomputable def k30_5 : Code := (c2 k30_4)
noncomputable def k30_6 : Code := (c2 k30_5)
noncomputable def k30_7 : Code := (c2 k30_6)
noncomputable def k30_8 : Code := (c2 k30_7)
noncomputable def k30_9 : Code := (c2 k30_8)
noncomputable def k30_10 : Code := (c2 (c1 k30_7))
noncomputable def k30_11 : Code := (c2 (c1 k30_6))
noncomputable def k30_12 : Code := (c2 (c1 k30_4))
noncomputable def k30_13 : Code := (c2 (c1 k30_12))
noncomputable def k30_14 : Code := (c2 (c1 k30_3))
noncomputable def k30_15 : Code := (c1 (c1 k30_14))
noncomputable def k30_16 : Code := (c2 k30_15)
noncomputable def k30_17 : Code := (c2 k30_16)
noncomputable def k30_18 : Code := (c2 (c1 (c1 k30_16)))
noncomputable def k30_19 : Code := (c2 (c1 (c1 (c1 k30_16))))
noncomputable def k30_20 : Code := (c2 (c1 k30_19))
noncomputable def k30_21 : Code := (c2 (c1 k30_15))
noncomputable def k30_22 : Code := (c2 (c1 k30_1))
noncomputable def k30_23 : Code := (c2 (c1 k30_22))
theorem s30_23 {R : VP} {Q : EQ} (hR : ∀ e w, (R (e 2) w) → Q .ret e w) (e : Env) (w : World) (h : m30_23 R (e 2) w) : W30 k30_23 Q e w := by
  unfold m30_23 at h
  exact reA (hR _ _ h)
theorem s30_20 {R : VP} {K1 : (Value × Value) → World → Prop} {Q : EQ} (hR : ∀ e w, (R (e 2) w) → Q .ret e w) (e : Env) (w : World) (h : m30_20 R K1 (e 2) w) : W30 k30_20 Q e w := by
  unfold m30_20 at h
  exact reA (hR _ _ h)
theorem s30_17 {R : VP} {K1 : (Value × Value) → World → Prop} {Q : EQ} (hN : ∀ e w, (K1 ((e 3), (e 4)) w) → Q .normal e w) (e : Env) (w : World) (h : m30_17 R K1 (e 1) (e 3) (e 4) w) : W30 k30_17 Q e w := by
  unfold m30_17 at h
  exact rgA 6 (fun e w => K1 ((e 3), (e 4)) w) h hN
theorem s30_18 {R : VP} {K1 : (Value × Value) → World → Prop} {Q : EQ} (hN : ∀ e w, (m30_17 R K1 (e 1) (e 3) (e 4) w) → Q .normal e w) (e : Env) (w : World) (h : m30_18 R K1 (e 1) (e 3) (e 4) w) : W30 k30_18 Q e w := by
  unfold m30_18 at h
  exact rgA 9 (fun e w => m30_17 R K1 (e 1) (e 3) (e 4) w) h hN
theorem s30_19 {R : VP} {K1 : (Value × Value) → World → Prop} {Q : EQ} (hN : ∀ e w, (m30_18 R K1 (e 1) (e 3) (e 4) w) → Q .normal e w) (hR : ∀ e w, (R (e 2) w) → Q .ret e w) (e : Env) (w : World) (h : m30_19 R K1 (e 1) (e 3) (e 4) (e 37) w) : W30 k30_19 Q e w := by
  unfold m30_19 at h
  refine coA (Operand.tmp 37) h (fun h1 => ?_) (fun h1 => ?_)
  · refine seA ?_
    have hN : ∀ e w, (m30_20 R K1 (e 2) w) → (thenE (W30 k30_20 Q) Q) .normal e w := fun e w h => then_N (s30_20 (R := R) (Q := Q) (K1 := K1) hR e w h)
    exact rgA 8 (fun e w => m30_20 R K1 (e 2) w) h1 hN
  · exact skA (hN _ _ h1)
theorem s30_16 {R : VP} {K1 : (Value × Value) → World → Prop} {Q : EQ} (hN : ∀ e w, (K1 ((e 3), (e 4)) w) → Q .normal e w) (hR : ∀ e w, (R (e 2) w) → Q .ret e w) (e : Env) (w : World) (h : m30_16 R K1 (e 1) (e 3) (e 4) w) : W30 k30_16 Q e w := by
  unfold m30_16 at h
  refine seA ?_
  have hN : ∀ e w, (m30_17 R K1 (e 1) (e 3) (e 4) w) → (thenE (W30 k30_17 Q) Q) .normal e w := fun e w h => then_N (s30_17 (R := R) (Q := Q) (K1 := K1) hN e w h)
  have hR : ∀ e w, (R (e 2) w) → (thenE (W30 k30_17 Q) Q) .ret e w := fun e w h => then_R (hR e w h)
  refine block_ok 1 (by kernel_rfl) ?_
  have hN : ∀ e w, (m30_17 R K1 (e 1) (e 3) (e 4) w) → (inBlockE 1 (thenE (W30 k30_17 Q) Q)) .normal e w := fun e w h => block_N (hN e w h)
  have hR : ∀ e w, (R (e 2) w) → (inBlockE 1 (thenE (W30 k30_17 Q) Q)) .ret e w := fun e w h => block_R (hR e w h)
  refine seA ?_
  have hN : ∀ e w, (m30_18 R K1 (e 1) (e 3) (e 4) w) → (thenE (W30 k30_18 (inBlockE 1 (thenE (W30 k30_17 Q) Q))) (inBlockE 1 (thenE (W30 k30_17 Q) Q))) .normal e w := fun e w h => then_N (s30_18 (R := R) (Q := (inBlockE 1 (thenE (W30 k30_17 Q) Q))) (K1 := K1) hN e w h)
  have hR : ∀ e w, (R (e 2) w) → (thenE (W30 k30_18 (inBlockE 1 (thenE (W30 k30_17 Q) Q))) (inBlockE 1 (thenE (W30 k30_17 Q) Q))) .ret e w := fun e w h => then_R (hR e w h)
  refine seA ?_
  have hN : ∀ e w, (m30_19 R K1 (e 1) (e 3) (e 4) (e 37) w) → (thenE (W30 k30_19 (thenE (W30 k30_18 (inBlockE 1 (thenE (W30 k30_17 Q) Q))) (inBlockE 1 (thenE (W30 k30_17 Q) Q)))) (thenE (W30 k30_18 (inBlockE 1 (thenE (W30 k30_17 Q) Q))) (inBlockE 1 (thenE (W30 k30_17 Q) Q)))) .normal e w := fun e w h => then_N (s30_19 (R := R) (Q := (thenE (W30 k30_18 (inBlockE 1 (thenE (W30 k30_17 Q) Q))) (inBlockE 1 (thenE (W30 k30_17 Q) Q)))) (K1 := K1) hN hR e w h)
  exact rgA 7 (fun e w => m30_19 R K1 (e 1) (e 3) (e 4) (e 37) w) h hN
theorem s30_13 {R : VP} {Q : EQ} (hR : ∀ e w, (R (e 2) w) → Q .ret e w) (e : Env) (w : World) (h : m30_13 R (e 2) w) : W30 k30_13 Q e w := by
  unfold m30_13 at h
  exact reA (hR _ _ h)
theorem s30_9 {R : VP} {Q : EQ} (hR : ∀ e w, (R (e 2) w) → Q .ret e w) (e : Env) (w : World) (h : m30_9 R (e 2) w) : W30 k30_9 Q e w := by
  unfold m30_9 at h
  exact reA (hR _ _ h)
theorem s30_8 {R : VP} {Q : EQ} (hR : ∀ e w, (R (e 2) w) → Q .ret e w) (e : Env) (w : World) (h : m30_8 R (e 1) (e 5) (e 6) w) : W30 k30_8 Q e w := by
  unfold m30_8 at h
  refine seA ?_
  have hN : ∀ e w, (m30_9 R (e 2) w) → (thenE (W30 k30_9 Q) Q) .normal e w := fun e w h => then_N (s30_9 (R := R) (Q := Q) hR e w h)
  exact rgA 17 (fun e w => m30_9 R (e 2) w) h hN
theorem s30_10 {R : VP} {Q : EQ} (hN : ∀ e w, (m30_8 R (e 1) (e 5) (e 6) w) → Q .normal e w) (e : Env) (w : World) (h : m30_10 R (e 1) (e 5) (e 6) (e 77) w) : W30 k30_10 Q e w := by
  unfold m30_10 at h
  refine coA (Operand.tmp 77) h (fun h1 => ?_) (fun h1 => ?_)
  · exact rgA 16 (fun e w => m30_8 R (e 1) (e 5) (e 6) w) h1 hN
  · exact skA (hN _ _ h1)
theorem s30_7 {R : VP} {Q : EQ} (hR : ∀ e w, (R (e 2) w) → Q .ret e w) (e : Env) (w : World) (h : m30_7 R (e 1) (e 5) (e 6) w) : W30 k30_7 Q e w := by
  unfold m30_7 at h
  refine seA ?_
  have hN : ∀ e w, (m30_8 R (e 1) (e 5) (e 6) w) → (thenE (W30 k30_8 Q) Q) .normal e w := fun e w h => then_N (s30_8 (R := R) (Q := Q) hR e w h)
  refine seA ?_
  have hN : ∀ e w, (m30_10 R (e 1) (e 5) (e 6) (e 77) w) → (thenE (W30 k30_10 (thenE (W30 k30_8 Q) Q)) (thenE (W30 k30_8 Q) Q)) .normal e w := fun e w h => then_N (s30_10 (R := R) (Q := (thenE (W30 k30_8 Q) Q)) hN e w h)
  exact rgA 15 (fun e w => m30_10 R (e 1) (e 5) (e 6) (e 77) w) h hN
theorem s30_11 {R : VP} {Q : EQ} (hN : ∀ e w, (m30_7 R (e 1) (e 5) (e 6) w) → Q .normal e w) (e : Env) (w : World) (h : m30_11 R (e 1) (e 5) (e 6) (e 73) w) : W30 k30_11 Q e w := by
  unfold m30_11 at h
  refine coA (Operand.tmp 73) h (fun h1 => ?_) (fun h1 => ?_)
  · exact rgA 14 (fun e w => m30_7 R (e 1) (e 5) (e 6) w) h1 hN
  · exact skA (hN _ _ h1)
theorem s30_6 {R : VP} {Q : EQ} (hR : ∀ e w, (R (e 2) w) → Q .ret e w) (e : Env) (w : World) (h : m30_6 R (e 1) (e 5) (e 6) w) : W30 k30_6 Q e w := by
  unfold m30_6 at h
  refine seA ?_
  have hN : ∀ e w, (m30_7 R (e 1) (e 5) (e 6) w) → (thenE (W30 k30_7 Q) Q) .normal e w := fun e w h => then_N (s30_7 (R := R) (Q := Q) hR e w h)
  refine seA ?_
  have hN : ∀ e w, (m30_11 R (e 1) (e 5) (e 6) (e 73) w) → (thenE (W30 k30_11 (thenE (W30 k30_7 Q) Q)) (thenE (W30 k30_7 Q) Q)) .normal e w := fun e w h => then_N (s30_11 (R := R) (Q := (thenE (W30 k30_7 Q) Q)) hN e w h)
  exact rgA 13 (fun e w => m30_11 R (e 1) (e 5) (e 6) (e 73) w) h hN
theorem s30_5 {R : VP} {Q : EQ} (hR : ∀ e w, (R (e 2) w) → Q .ret e w) (e : Env) (w : World) (h : m30_5 R (e 1) w) : W30 k30_5 Q e w := by
  unfold m30_5 at h
  refine seA ?_
  have hN : ∀ e w, (m30_6 R (e 1) (e 5) (e 6) w) → (thenE (W30 k30_6 Q) Q) .normal e w := fun e w h => then_N (s30_6 (R := R) (Q := Q) hR e w h)
  exact quA 12 (fun e w => m30_6 R (e 1) (e 5) (e 6) w) h hN
theorem s30_12 {R : VP} {Q : EQ} (hN : ∀ e w, (m30_5 R (e 1) w) → Q .normal e w) (hR : ∀ e w, (R (e 2) w) → Q .ret e w) (e : Env) (w : World) (h : m30_12 R (e 1) (e 67) w) : W30 k30_12 Q e w := by
  unfold m30_12 at h
  refine coA (Operand.tmp 67) h (fun h1 => ?_) (fun h1 => ?_)
  · refine seA ?_
    have hN : ∀ e w, (m30_13 R (e 2) w) → (thenE (W30 k30_13 Q) Q) .normal e w := fun e w h => then_N (s30_13 (R := R) (Q := Q) hR e w h)
    exact rgA 11 (fun e w => m30_13 R (e 2) w) h1 hN
  · exact skA (hN _ _ h1)
theorem s30_4 {R : VP} {Q : EQ} (hR : ∀ e w, (R (e 2) w) → Q .ret e w) (e : Env) (w : World) (h : m30_4 R (e 1) (e 3) w) : W30 k30_4 Q e w := by
  unfold m30_4 at h
  refine seA ?_
  have hN : ∀ e w, (m30_5 R (e 1) w) → (thenE (W30 k30_5 Q) Q) .normal e w := fun e w h => then_N (s30_5 (R := R) (Q := Q) hR e w h)
  have hR : ∀ e w, (R (e 2) w) → (thenE (W30 k30_5 Q) Q) .ret e w := fun e w h => then_R (hR e w h)
  refine seA ?_
  have hN : ∀ e w, (m30_12 R (e 1) (e 67) w) → (thenE (W30 k30_12 (thenE (W30 k30_5 Q) Q)) (thenE (W30 k30_5 Q) Q)) .normal e w := fun e w h => then_N (s30_12 (R := R) (Q := (thenE (W30 k30_5 Q) Q)) hN hR e w h)
  exact rgK 10 (fun e w => m30_12 R (e 1) (e 67) w) h hN
theorem s30_21 {R : VP} {K1 : (Value × Value) → World → Prop} {Q : EQ} (hN : ∀ e w, (m30_16 R K1 (e 1) (e 3) (e 4) w) → Q .normal e w) (hX0 : ∀ e w, (m30_4 R (e 1) (e 3) w) → Q (.exit 0) e w) (e : Env) (w : World) (h : m30_21 R K1 (e 1) (e 3) (e 4) (e 23) w) : W30 k30_21 Q e w := by
  unfold m30_21 at h
  refine coA (Operand.tmp 23) h (fun h1 => ?_) (fun h1 => ?_)
  · exact skA (hN _ _ h1)
  · exact exA 0 (hX0 _ _ h1)
theorem s30_15 {R : VP} {K1 : (Value × Value) → World → Prop} {Q : EQ} (hN : ∀ e w, (K1 ((e 3), (e 4)) w) → Q .normal e w) (hR : ∀ e w, (R (e 2) w) → Q .ret e w) (hX0 : ∀ e w, (m30_4 R (e 1) (e 3) w) → Q (.exit 0) e w) (e : Env) (w : World) (h : m30_15 R K1 (e 1) (e 3) (e 4) w) : W30 k30_15 Q e w := by
  unfold m30_15 at h
  refine seA ?_
  have hN : ∀ e w, (m30_16 R K1 (e 1) (e 3) (e 4) w) → (thenE (W30 k30_16 Q) Q) .normal e w := fun e w h => then_N (s30_16 (R := R) (Q := Q) (K1 := K1) hN hR e w h)
  have hX0 : ∀ e w, (m30_4 R (e 1) (e 3) w) → (thenE (W30 k30_16 Q) Q) (.exit 0) e w := fun e w h => then_X (hX0 e w h)
  refine seA ?_
  have hN : ∀ e w, (m30_21 R K1 (e 1) (e 3) (e 4) (e 23) w) → (thenE (W30 k30_21 (thenE (W30 k30_16 Q) Q)) (thenE (W30 k30_16 Q) Q)) .normal e w := fun e w h => then_N (s30_21 (R := R) (Q := (thenE (W30 k30_16 Q) Q)) (K1 := K1) hN hX0 e w h)
  exact rgA 5 (fun e w => m30_21 R K1 (e 1) (e 3) (e 4) (e 23) w) h hN
theorem s30_14 {R : VP} {Q : EQ} (hN : ∀ e w, (m30_4 R (e 1) (e 3) w) → Q .normal e w) (hR : ∀ e w, (R (e 2) w) → Q .ret e w) (e : Env) (w : World) (h : m30_14 R (e 1) (e 3) (e 4) w) : W30 k30_14 Q e w := by
  unfold m30_14 at h
  refine block_ok 0 (by kernel_rfl) ?_
  have hX0 : ∀ e w, (m30_4 R (e 1) (e 3) w) → (inBlockE 0 Q) (.exit 0) e w := fun e w h => inBlock_same (Q := Q) 0 (hN e w h)
  have hR : ∀ e w, (R (e 2) w) → (inBlockE 0 Q) .ret e w := fun e w h => block_R (hR e w h)
  refine loop_ok' (fun (e : Env) => (e 3, e 4)) [1] (by kernel_rfl) (by kernel_rfl) h (fun K e' w' hk h' => ?_)
  have r1 : e' 1 = e 1 := hk 1 (by decide)
  have hR : ∀ e w, (R (e 2) w) → (thenE (fun (e : Env) w => K ((e 3), (e 4)) w) (inBlockE 0 Q)) .ret e w := fun e w h => then_R (hR e w h)
  have hX0 : ∀ e w, (m30_4 R (e 1) (e 3) w) → (thenE (fun (e : Env) w => K ((e 3), (e 4)) w) (inBlockE 0 Q)) (.exit 0) e w := fun e w h => then_X (hX0 e w h)
  exact s30_15 (R := R) (Q := (thenE (fun (e : Env) w => K ((e 3), (e 4)) w) (inBlockE 0 Q))) (K1 := K) (fun _ _ h => then_N h) hR hX0 e' w' (by rw [r1]; exact h')
theorem s30_3 {R : VP} {Q : EQ} (hR : ∀ e w, (R (e 2) w) → Q .ret e w) (e : Env) (w : World) (h : m30_3 R (e 1) (e 3) w) : W30 k30_3 Q e w := by
  unfold m30_3 at h
  refine seA ?_
  have hN : ∀ e w, (m30_4 R (e 1) (e 3) w) → (thenE (W30 k30_4 Q) Q) .normal e w := fun e w h => then_N (s30_4 (R := R) (Q := Q) hR e w h)
  have hR : ∀ e w, (R (e 2) w) → (thenE (W30 k30_4 Q) Q) .ret e w := fun e w h => then_R (hR e w h)
  refine seA ?_
  have hN : ∀ e w, (m30_14 R (e 1) (e 3) (e 4) w) → (thenE (W30 k30_14 (thenE (W30 k30_4 Q) Q)) (thenE (W30 k30_4 Q) Q)) .normal e w := fun e w h => then_N (s30_14 (R := R) (Q := (thenE (W30 k30_4 Q) Q)) hN hR e w h)
  exact rgA 4 (fun e w => m30_14 R (e 1) (e 3) (e 4) w) h hN
theorem s30_2 {R : VP} {Q : EQ} (hR : ∀ e w, (R (e 2) w) → Q .ret e w) (e : Env) (w : World) (h : m30_2 R (e 1) w) : W30 k30_2 Q e w := by
  unfold m30_2 at h
  refine seA ?_
  have hN : ∀ e w, (m30_3 R (e 1) (e 3) w) → (thenE (W30 k30_3 Q) Q) .normal e w := fun e w h => then_N (s30_3 (R := R) (Q := Q) hR e w h)
  exact rgA 3 (fun e w => m30_3 R (e 1) (e 3) w) h hN
theorem s30_22 {R : VP} {Q : EQ} (hN : ∀ e w, (m30_2 R (e 1) w) → Q .normal e w) (hR : ∀ e w, (R (e 2) w) → Q .ret e w) (e : Env) (w : World) (h : m30_22 R (e 1) (e 21) w) : W30 k30_22 Q e w := by
  unfold m30_22 at h
  refine coA (Operand.tmp 21) h (fun h1 => ?_) (fun h1 => ?_)
  · refine seA ?_
    have hN : ∀ e w, (m30_23 R (e 2) w) → (thenE (W30 k30_23 Q) Q) .normal e w := fun e w h => then_N (s30_23 (R := R) (Q := Q) hR e w h)
    exact rgA 2 (fun e w => m30_23 R (e 2) w) h1 hN
  · exact skA (hN _ _ h1)
theorem s30_1 {R : VP} {Q : EQ} (hR : ∀ e w, (R (e 2) w) → Q .ret e w) (e : Env) (w : World) (h : m30_1 R (e 1) w) : W30 k30_1 Q e w := by
  unfold m30_1 at h
  refine seA ?_
  have hN : ∀ e w, (m30_2 R (e 1) w) → (thenE (W30 k30_2 Q) Q) .normal e w := fun e w h => then_N (s30_2 (R := R) (Q := Q) hR e w h)
  have hR : ∀ e w, (R (e 2) w) → (thenE (W30 k30_2 Q) Q) .ret e w := fun e w h => then_R (hR e w h)
  refine seA ?_
  have hN : ∀ e w, (m30_22 R (e 1) (e 21) w) → (thenE (W30 k30_22 (thenE (W30 k30_2 Q) Q)) (thenE (W30 k30_2 Q) Q)) .normal e w := fun e w h => then_N (s30_22 (R := R) (Q := (thenE (W30 k30_2 Q) Q)) hN hR e w h)
  exact rgA 1 (fun e w => m30_22 R (e 1) (e 21) w) h hN
theorem s30_0 {R : VP} {Q : EQ} (hR : ∀ e w, (R (e 2) w) → Q .ret e w) (e : Env) (w : World) (h : m30_0 R (e 0) w) : W30 k30_0 Q e w := by
  unfold m30_0 at h
  refine seA ?_
  have hN : ∀ e w, (m30_1 R (e 1) w) → (thenE (W30 k30_1 Q) Q) .normal e w := fun e w h => then_N (s30_1 (R := R) (Q := Q) hR e w h)
  exact rgA 0 (fun e w => m30_1 R (e 1) w) h hN
abbrev m30 (R : VP) (a0 : Value) (w : World) : Prop := m30_0 R a0 w
theorem s30 (a0 : Value) {R : VP} {w : World} (h : m30 R a0 w) :
    Calls Try.prog 30 #[a0] w fun e w' => ∃ v, e = .returned v ∧ R v w' :=
  calls_of_cwp (st := (fun i => cond (Nat.beq i 12) 1 (0))) (c := k30_0) (by kernel_rfl) Try.func30 (by kernel_rfl) (Nat.le_of_ble_eq_true (by kernel_rfl)) (by kernel_rfl)
    (s30_0 (R := R) (Q := endE Try.prog Try.f30 R) (fun e w h => kcast (by kernel_rfl) h) (argsE #[a0]) w (kcast (by kernel_rfl) h))
/-! ### headgate/headgateref15.Encode -/
def m47_5 (R : VP) (t2 t3 : Value) (w : World) : Prop :=
  R (Value.tuple #[t2, t3]) w
def m47_3 (R : VP) (t2 t3 : Value) (w : World) : Prop :=
  R (Value.tuple #[t2, t3]) w
def m47_2 (R : VP) (a1 : Value) (w : World) : Prop :=
  valP Try.prog (Instr.fieldAt 65 a1 0) w fun t7 w =>
  valP Try.prog (Instr.loadAt 3 t7) w fun t8 w =>
  valP Try.prog (Instr.fieldAt 65 a1 1) w fun t9 w =>
  valP Try.prog (Instr.loadAt 3 t9) w fun t10 w =>
  valP Try.prog (Instr.fieldAt 65 a1 2) w fun t11 w =>
  valP Try.prog (Instr.loadAt 3 t11) w fun t12 w =>
  valP Try.prog (Instr.fieldAt 65 a1 3) w fun t13 w =>
  valP Try.prog (Instr.loadAt 3 t13) w fun t14 w =>
  valP Try.prog (Instr.fieldAt 65 a1 4) w fun t15 w =>
  valP Try.prog (Instr.indexAt 63 t15 (Value.int IntKind.i64 0)) w fun t16 w =>
  valP Try.prog (Instr.loadAt 3 t16) w fun t17 w =>
  valP Try.prog (Instr.fieldAt 65 a1 4) w fun t18 w =>
  valP Try.prog (Instr.indexAt 63 t18 (Value.int IntKind.i64 1)) w fun t19 w =>
  valP Try.prog (Instr.loadAt 3 t19) w fun t20 w =>
  valP Try.prog (Instr.fieldAt 65 a1 4) w fun t21 w =>
  valP Try.prog (Instr.indexAt 63 t21 (Value.int IntKind.i64 2)) w fun t22 w =>
  valP Try.prog (Instr.loadAt 3 t22) w fun t23 w =>
  valP Try.prog (Instr.fieldAt 65 a1 4) w fun t24 w =>
  valP Try.prog (Instr.indexAt 63 t24 (Value.int IntKind.i64 3)) w fun t25 w =>
  valP Try.prog (Instr.loadAt 3 t25) w fun t26 w =>
  valP Try.prog (Instr.fieldAt 65 a1 5) w fun t27 w =>
  valP Try.prog (Instr.loadAt 3 t27) w fun t28 w =>
  valP Try.prog (Instr.fieldAt 65 a1 6) w fun t29 w =>
  valP Try.prog (Instr.loadAt 3 t29) w fun t30 w =>
  valP Try.prog (Instr.buildSlice 51 10 #[(0, t8), (1, t10), (2, t12), (3, t14), (4, t17), (5, t20), (6, t23), (7, t26), (8, t28), (9, t30)]) w fun t31 w =>
  callP Try.prog (fnV 16) #[t31] w fun t32 w =>
  m47_3 R t32 (Value.int IntKind.i64 0) w
def m47_4 (R : VP) (a1 t6 : Value) (w : World) : Prop :=
  condP t6
  (m47_5 R (Value.string ⟨#[]⟩) (Value.int IntKind.i64 1) w)
  (m47_2 R a1 w)
def m47_1 (R : VP) (a1 : Value) (w : World) : Prop :=
  valP Try.prog (Instr.loadAt 65 a1) w fun t4 w =>
  callP Try.prog (fnV 30) #[t4] w fun t5 w =>
  valP Try.prog (Op.unary UnOp.not t5) w fun t6 w =>
  m47_4 R a1 t6 w
def m47_0 (R : VP) (a0 : Value) (w : World) : Prop :=
  valP Try.prog (Instr.box 65 a0) w fun a1 w =>
  m47_1 R a1 w
abbrev W47 := cwp Try.prog (fun i => 0)
noncomputable def k47_0 : Code := (bodyOf Try.f47)
noncomputable def k47_1 : Code := (c2 k47_0)
noncomputable def k47_2 : Code := (c2 k47_1)
noncomputable def k47_3 : Code := (c2 k47_2)
noncomputable def k47_4 : Code := (c2 (c1 k47_1))
noncomputable def k47_5 : Code := (c2 (c1 k47_4))
theorem s47_5 {R : VP} {Q : EQ} (hR : ∀ e w, (R (Value.tuple #[(e 2), (e 3)]) w) → Q .ret e w) (e : Env) (w : World) (h : m47_5 R (e 2) (e 3) w) : W47 k47_5 Q e w := by
  unfold m47_5 at h
  exact reA (hR _ _ h)
theorem s47_3 {R : VP} {Q : EQ} (hR : ∀ e w, (R (Value.tuple #[(e 2), (e 3)]) w) → Q .ret e w) (e : Env) (w : World) (h : m47_3 R (e 2) (e 3) w) : W47 k47_3 Q e w := by
  unfold m47_3 at h
  exact reA (hR _ _ h)
theorem s47_2 {R : VP} {Q : EQ} (hR : ∀ e w, (R (Value.tuple #[(e 2), (e 3)]) w) → Q .ret e w) (e : Env) (w : World) (h : m47_2 R (e 1) w) : W47 k47_2 Q e w := by
  unfold m47_2 at h
  refine seA ?_
  have hN : ∀ e w, (m47_3 R (e 2) (e 3) w) → (thenE (W47 k47_3 Q) Q) .normal e w := fun e w h => then_N (s47_3 (R := R) (Q := Q) hR e w h)
  exact rgA 3 (fun e w => m47_3 R (e 2) (e 3) w) h hN
theorem s47_4 {R : VP} {Q : EQ} (hN : ∀ e w, (m47_2 R (e 1) w) → Q .normal e w) (hR : ∀ e w, (R (Value.tuple #[(e 2), (e 3)]) w) → Q .ret e w) (e : Env) (w : World) (h : m47_4 R (e 1) (e 6) w) : W47 k47_4 Q e w := by
  unfold m47_4 at h
  refine coA (Operand.tmp 6) h (fun h1 => ?_) (fun h1 => ?_)
  · refine seA ?_
    have hN : ∀ e w, (m47_5 R (e 2) (e 3) w) → (thenE (W47 k47_5 Q) Q) .normal e w := fun e w h => then_N (s47_5 (R := R) (Q := Q) hR e w h)
    exact rgA 2 (fun e w => m47_5 R (e 2) (e 3) w) h1 hN
  · exact skA (hN _ _ h1)
theorem s47_1 {R : VP} {Q : EQ} (hR : ∀ e w, (R (Value.tuple #[(e 2), (e 3)]) w) → Q .ret e w) (e : Env) (w : World) (h : m47_1 R (e 1) w) : W47 k47_1 Q e w := by
  unfold m47_1 at h
  refine seA ?_
  have hN : ∀ e w, (m47_2 R (e 1) w) → (thenE (W47 k47_2 Q) Q) .normal e w := fun e w h => then_N (s47_2 (R := R) (Q := Q) hR e w h)
  have hR : ∀ e w, (R (Value.tuple #[(e 2), (e 3)]) w) → (thenE (W47 k47_2 Q) Q) .ret e w := fun e w h => then_R (hR e w h)
  refine seA ?_
  have hN : ∀ e w, (m47_4 R (e 1) (e 6) w) → (thenE (W47 k47_4 (thenE (W47 k47_2 Q) Q)) (thenE (W47 k47_2 Q) Q)) .normal e w := fun e w h => then_N (s47_4 (R := R) (Q := (thenE (W47 k47_2 Q) Q)) hN hR e w h)
  exact rgA 1 (fun e w => m47_4 R (e 1) (e 6) w) h hN
theorem s47_0 {R : VP} {Q : EQ} (hR : ∀ e w, (R (Value.tuple #[(e 2), (e 3)]) w) → Q .ret e w) (e : Env) (w : World) (h : m47_0 R (e 0) w) : W47 k47_0 Q e w := by
  unfold m47_0 at h
  refine seA ?_
  have hN : ∀ e w, (m47_1 R (e 1) w) → (thenE (W47 k47_1 Q) Q) .normal e w := fun e w h => then_N (s47_1 (R := R) (Q := Q) hR e w h)
  exact rgA 0 (fun e w => m47_1 R (e 1) w) h hN
abbrev m47 (R : VP) (a0 : Value) (w : World) : Prop := m47_0 R a0 w
theorem s47 (a0 : Value) {R : VP} {w : World} (h : m47 R a0 w) :
    Calls Try.prog 47 #[a0] w fun e w' => ∃ v, e = .returned v ∧ R v w' :=
  calls_of_cwp (st := (fun i => 0)) (c := k47_0) (by kernel_rfl) Try.func47 (by kernel_rfl) (Nat.le_of_ble_eq_true (by kernel_rfl)) (by kernel_rfl)
    (s47_0 (R := R) (Q := endE Try.prog Try.f47 R) (fun e w h => kcast (by kernel_rfl) h) (argsE #[a0]) w (kcast (by kernel_rfl) h))
end Go.Proofs.Ytnhgdngbdoifnaa.M
