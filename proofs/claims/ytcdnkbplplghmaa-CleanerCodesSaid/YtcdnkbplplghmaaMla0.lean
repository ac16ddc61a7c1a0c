/- What functions' texts ask of their ends, told over values that have names; printed by a program of this work. -/
import Derived.Test.YtcdnkbplplghmaaFw
import Derived.Test.YtcdnkbplplghmaaProg
namespace Go.Proofs.Ytcdnkbplplghmaa.M
open Go.Proofs.Ytcdnkbplplghmaa.F
set_option linter.unusedVariables false
set_option maxRecDepth 100000
/-! ### headgate/headgatelaw33.CleanerCleans -/
def m3_5 (R : VP) (t4 : Value) (w : World) : Prop :=
  R t4 w
def m3_4 (R : VP) (l0 upto1 kept5 : Value) (w : World) : Prop :=
  callP Try.prog (fnV 10) #[l0, upto1] w fun t13 w =>
  callP Try.prog (fnV 11) #[kept5, upto1] w fun t16 w =>
  callP Try.prog (fnV 9) #[t13, t16] w fun t17 w =>
  condP t17
  (callP Try.prog (fnV 9) #[l0, kept5] w fun t21 w =>
  pickP t17 t21 (Value.bool false) fun t22 =>
  condP t22
  (callP Try.prog (fnV 12) #[] w fun t24 w =>
  pickP t22 t24 (Value.bool false) fun t25 =>
  m3_5 R t25 w)
  (pickP t22 undef (Value.bool false) fun t25 =>
  m3_5 R t25 w))
  (pickP t17 undef (Value.bool false) fun t22 =>
  condP t22
  (callP Try.prog (fnV 12) #[] w fun t24 w =>
  pickP t22 t24 (Value.bool false) fun t25 =>
  m3_5 R t25 w)
  (pickP t22 undef (Value.bool false) fun t25 =>
  m3_5 R t25 w))
def m3_3 (R : VP) (l0 upto1 kept5 : Value) (w : World) : Prop :=
  builtinP Try.prog Builtin.append #[22, 22] 22 #[false, false] #[kept5, l0] w fun t10 w =>
  m3_4 R l0 upto1 t10 w
def m3_2 (R : VP) (l0 upto1 : Value) (w : World) : Prop :=
  m3_3 R l0 upto1 (Value.slice none 0 0) w
def m3_1 (R : VP) (l0 upto1 : Value) (w : World) : Prop :=
  callP Try.prog (fnV 8) #[l0] w fun t7 w =>
  m3_2 R t7 upto1 w
def m3_0 (R : VP) (l0 upto1 : Value) (w : World) : Prop :=
  m3_1 R l0 upto1 w
abbrev W3 := cwp Try.prog (fun i => 0)
noncomputable def k3_0 : Code := (bodyOf Try.f3)
noncomputable def k3_1 : Code := (c2 k3_0)
noncomputable def k3_2 : Code := (c2 k3_1)
noncomputable def k3_3 : Code := (c2 k3_2)
noncomputable def k3_4 : Code := (c2 k3_3)
noncomputable def k3_5 : Code := (c2 k3_4)
theorem s3_5 {R : VP} {Q : EQ} (hR : ∀ e w, (R (e 4) w) → Q .ret e w) (e : Env) (w : World) (h : m3_5 R (e 4) w) : W3 k3_5 Q e w := by
  unfold m3_5 at h
  exact reA (hR _ _ h)
theorem s3_4 {R : VP} {Q : EQ} (hR : ∀ e w, (R (e 4) w) → Q .ret e w) (e : Env) (w : World) (h : m3_4 R (e 0) (e 1) (e 5) w) : W3 k3_4 Q e w := by
  unfold m3_4 at h
  refine seA ?_
  have hN : ∀ e w, (m3_5 R (e 4) w) → (thenE (W3 k3_5 Q) Q) .normal e w := fun e w h => then_N (s3_5 (R := R) (Q := Q) hR e w h)
  exact rgA 4 (fun e w => m3_5 R (e 4) w) h hN
theorem s3_3 {R : VP} {Q : EQ} (hR : ∀ e w, (R (e 4) w) → Q .ret e w) (e : Env) (w : World) (h : m3_3 R (e 0) (e 1) (e 5) w) : W3 k3_3 Q e w := by
  unfold m3_3 at h
  refine seA ?_
  have hN : ∀ e w, (m3_4 R (e 0) (e 1) (e 5) w) → (thenE (W3 k3_4 Q) Q) .normal e w := fun e w h => then_N (s3_4 (R := R) (Q := Q) hR e w h)
  exact rgA 3 (fun e w => m3_4 R (e 0) (e 1) (e 5) w) h hN
theorem s3_2 {R : VP} {Q : EQ} (hR : ∀ e w, (R (e 4) w) → Q .ret e w) (e : Env) (w : World) (h : m3_2 R (e 0) (e 1) w) : W3 k3_2 Q e w := by
  unfold m3_2 at h
  refine seA ?_
  have hN : ∀ e w, (m3_3 R (e 0) (e 1) (e 5) w) → (thenE (W3 k3_3 Q) Q) .normal e w := fun e w h => then_N (s3_3 (R := R) (Q := Q) hR e w h)
  exact rgA 2 (fun e w => m3_3 R (e 0) (e 1) (e 5) w) h hN
theorem s3_1 {R : VP} {Q : EQ} (hR : ∀ e w, (R (e 4) w) → Q .ret e w) (e : Env) (w : World) (h : m3_1 R (e 0) (e 1) w) : W3 k3_1 Q e w := by
  unfold m3_1 at h
  refine seA ?_
  have hN : ∀ e w, (m3_2 R (e 0) (e 1) w) → (thenE (W3 k3_2 Q) Q) .normal e w := fun e w h => then_N (s3_2 (R := R) (Q := Q) hR e w h)
  exact rgA 1 (fun e w => m3_2 R (e 0) (e 1) w) h hN
theorem s3_0 {R : VP} {Q : EQ} (hR : ∀ e w, (R (e 4) w) → Q .ret e w) (e : Env) (w : World) (h : m3_0 R (e 0) (e 1) w) : W3 k3_0 Q e w := by
  unfold m3_0 at h
  refine seA ?_
  have hN : ∀ e w, (m3_1 R (e 0) (e 1) w) → (thenE (W3 k3_1 Q) Q) .normal e w := fun e w h => then_N (s3_1 (R := R) (Q := Q) hR e w h)
  exact rgA 0 (fun e w => m3_1 R (e 0) (e 1) w) h hN
abbrev m3 (R : VP) (l0 upto1 : Value) (w : World) : Prop := m3_0 R l0 upto1 w
theorem s3 (l0 upto1 : Value) {R : VP} {w : World} (h : m3 R l0 upto1 w) :
    Calls Try.prog 3 #[l0, upto1] w fun e w' => ∃ v, e = .returned v ∧ R v w' :=
  calls_of_cwp (st := (fun i => 0)) (c := k3_0) (by kernel_rfl) Try.func3 (by kernel_rfl) (Nat.le_of_ble_eq_true (by kernel_rfl)) (by kernel_rfl)
    (s3_0 (R := R) (Q := endE Try.prog Try.f3 R) (fun e w h => kcast (by kernel_rfl) h) (argsE #[l0, upto1]) w (kcast (by kernel_rfl) h))
end Go.Proofs.Ytcdnkbplplghmaa.M
