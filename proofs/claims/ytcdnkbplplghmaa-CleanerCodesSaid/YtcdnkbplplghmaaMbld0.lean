/- What functions' texts ask of their ends, told over values that have names; printed by a program of this work. -/
import Derived.Test.YtcdnkbplplghmaaFw
import Derived.Test.YtcdnkbplplghmaaProg
namespace Go.Proofs.Ytcdnkbplplghmaa.M
open Go.Proofs.Ytcdnkbplplghmaa.F
set_option linter.unusedVariables false
set_option maxRecDepth 100000
/-! ### (*strings.Builder).WriteString -/
def m31_4 (R : VP) (t4 t5 : Value) (w : World) : Prop :=
  R (Value.tuple #[t4, t5]) w
def m31_3 (R : VP) (s1 : Value) (w : World) : Prop :=
  builtinP Try.prog Builtin.len #[9] 3 #[false] #[s1] w fun t18 w =>
  m31_4 R t18 Value.nilIface w
def m31_2 (R : VP) (b0 s1 : Value) (w : World) : Prop :=
  nilCheckP b0 fun t10 =>
  valP Try.prog (Instr.fieldAt 73 t10 1) w fun t11 w =>
  valP Try.prog (Instr.loadAt 71 t11) w fun t12 w =>
  builtinP Try.prog Builtin.append #[71, 9] 71 #[false, false] #[t12, s1] w fun t14 w =>
  nilCheckP b0 fun t15 =>
  valP Try.prog (Instr.fieldAt 73 t15 1) w fun t16 w =>
  unitP Try.prog (Instr.storeAt 71 t16 t14) w fun _ w =>
  m31_3 R s1 w
def m31_1 (R : VP) (b0 s1 : Value) (w : World) : Prop :=
  callP Try.prog (fnV 57) #[b0] w fun t7 w =>
  m31_2 R b0 s1 w
def m31_0 (R : VP) (b0 s1 : Value) (w : World) : Prop :=
  m31_1 R b0 s1 w
abbrev W31 := cwp Try.prog (fun i => 0)
noncomputable def k31_0 : Code := (bodyOf Try.f31)
noncomputable def k31_1 : Code := (c2 k31_0)
noncomputable def k31_2 : Code := (c2 k31_1)
noncomputable def k31_3 : Code := (c2 k31_2)
noncomputable def k31_4 : Code := (c2 k31_3)
theorem s31_4 {R : VP} {Q : EQ} (hR : ∀ e w, (R (Value.tuple #[(e 4), (e 5)]) w) → Q .ret e w) (e : Env) (w : World) (h : m31_4 R (e 4) (e 5) w) : W31 k31_4 Q e w := by
  unfold m31_4 at h
  exact reA (hR _ _ h)
theorem s31_3 {R : VP} {Q : EQ} (hR : ∀ e w, (R (Value.tuple #[(e 4), (e 5)]) w) → Q .ret e w) (e : Env) (w : World) (h : m31_3 R (e 1) w) : W31 k31_3 Q e w := by
  unfold m31_3 at h
  refine seA ?_
  have hN : ∀ e w, (m31_4 R (e 4) (e 5) w) → (thenE (W31 k31_4 Q) Q) .normal e w := fun e w h => then_N (s31_4 (R := R) (Q := Q) hR e w h)
  exact rgA 3 (fun e w => m31_4 R (e 4) (e 5) w) h hN
theorem s31_2 {R : VP} {Q : EQ} (hR : ∀ e w, (R (Value.tuple #[(e 4), (e 5)]) w) → Q .ret e w) (e : Env) (w : World) (h : m31_2 R (e 0) (e 1) w) : W31 k31_2 Q e w := by
  unfold m31_2 at h
  refine seA ?_
  have hN : ∀ e w, (m31_3 R (e 1) w) → (thenE (W31 k31_3 Q) Q) .normal e w := fun e w h => then_N (s31_3 (R := R) (Q := Q) hR e w h)
  exact rgA 2 (fun e w => m31_3 R (e 1) w) h hN
theorem s31_1 {R : VP} {Q : EQ} (hR : ∀ e w, (R (Value.tuple #[(e 4), (e 5)]) w) → Q .ret e w) (e : Env) (w : World) (h : m31_1 R (e 0) (e 1) w) : W31 k31_1 Q e w := by
  unfold m31_1 at h
  refine seA ?_
  have hN : ∀ e w, (m31_2 R (e 0) (e 1) w) → (thenE (W31 k31_2 Q) Q) .normal e w := fun e w h => then_N (s31_2 (R := R) (Q := Q) hR e w h)
  exact rgA 1 (fun e w => m31_2 R (e 0) (e 1) w) h hN
theorem s31_0 {R : VP} {Q : EQ} (hR : ∀ e w, (R (Value.tuple #[(e 4), (e 5)]) w) → Q .ret e w) (e : Env) (w : World) (h : m31_0 R (e 0) (e 1) w) : W31 k31_0 Q e w := by
  unfold m31_0 at h
  refine seA ?_
  have hN : ∀ e w, (m31_1 R (e 0) (e 1) w) → (thenE (W31 k31_1 Q) Q) .normal e w := fun e w h => then_N (s31_1 (R := R) (Q := Q) hR e w h)
  exact rgA 0 (fun e w => m31_1 R (e 0) (e 1) w) h hN
abbrev m31 (R : VP) (b0 s1 : Value) (w : World) : Prop := m31_0 R b0 s1 w
theorem s31 (b0 s1 : Value) {R : VP} {w : World} (h : m31 R b0 s1 w) :
    Calls Try.prog 31 #[b0, s1] w fun e w' => ∃ v, e = .returned v ∧ R v w' :=
  calls_of_cwp (st := (fun i => 0)) (c := k31_0) (by kernel_rfl) Try.func31 (by kernel_rfl) (Nat.le_of_ble_eq_true (by kernel_rfl)) (by kernel_rfl)
    (s31_0 (R := R) (Q := endE Try.prog Try.f31 R) (fun e w h => kcast (by kernel_rfl) h) (argsE #[b0, s1]) w (kcast (by kernel_rfl) h))
/-! ### (*strings.Builder).String -/
def m35_2 (R : VP) (t2 : Value) (w : World) : Prop :=
  R t2 w
def m35_1 (R : VP) (b0 : Value) (w : World) : Prop :=
  anyDraw w fun w =>
  heldP w fun J =>
  nilCheckP b0 fun t4 =>
  valJ Try.prog J (Instr.fieldAt 73 t4 1) fun t5 =>
  valJ Try.prog J (Instr.loadAt 71 t5) fun t6 =>
  nilCheckP b0 fun t9 =>
  valJ Try.prog J (Instr.fieldAt 73 t9 1) fun t10 =>
  valJ Try.prog J (Instr.loadAt 71 t10) fun t11 =>
  builtinJ Try.prog J Builtin.len #[71] 3 #[false] #[t11] fun t12 =>
  builtinP Try.prog Builtin.unsafeSliceData #[71] 115 #[false] #[t6] w fun t7 w =>
  stayP J w
  (builtinP Try.prog Builtin.unsafeString #[115, 3] 9 #[false, false] #[t7, t12] w fun t13 w =>
  stayP J w
  (m35_2 R t13 w))
def m35_0 (R : VP) (b0 : Value) (w : World) : Prop :=
  m35_1 R b0 w
abbrev W35 := cwp Try.prog (fun i => 0)
noncomputable def k35_0 : Code := (bodyOf Try.f35)
noncomputable def k35_1 : Code := (c2 k35_0)
noncomputable def k35_2 : Code := (c2 k35_1)
theorem s35_2 {R : VP} {Q : EQ} (hR : ∀ e w, (R (e 2) w) → Q .ret e w) (e : Env) (w : World) (h : m35_2 R (e 2) w) : W35 k35_2 Q e w := by
  unfold m35_2 at h
  exact reA (hR _ _ h)
theorem s35_1 {R : VP} {Q : EQ} (hR : ∀ e w, (R (e 2) w) → Q .ret e w) (e : Env) (w : World) (h : m35_1 R (e 0) w) : W35 k35_1 Q e w := by
  unfold m35_1 at h
  refine seA ?_
  have hN : ∀ e w, (m35_2 R (e 2) w) → (thenE (W35 k35_2 Q) Q) .normal e w := fun e w h => then_N (s35_2 (R := R) (Q := Q) hR e w h)
  exact treeJ_ok 1 12 [false, false, false, false, false, false, false, false, false, false, false, false] (.take 0 [true, false, false, false, false, false, false, false, false, false, false, false] (.take 1 [true, true, false, false, false, false, false, false, false, false, false, false] (.take 2 [true, true, true, false, false, false, false, false, false, false, false, false] (.take 3 [true, true, true, true, false, false, false, false, false, false, false, false] (.take 5 [true, true, true, true, false, true, false, false, false, false, false, false] (.take 6 [true, true, true, true, false, true, true, false, false, false, false, false] (.take 7 [true, true, true, true, false, true, true, true, false, false, false, false] (.take 8 [true, true, true, true, false, true, true, true, true, false, false, false] (.take 9 [true, true, true, true, false, true, true, true, true, true, false, false] (.alt 4 [true, true, true, true, true, true, true, true, true, true, false, false] (.alt 10 [true, true, true, true, true, true, true, true, true, true, true, false] (.take 11 [true, true, true, true, true, true, true, true, true, true, true, true] .done) .stop) .stop)))))))))) (fun e w => m35_2 R (e 2) w) (by kernel_rfl) (by kernel_rfl) (by kernel_rfl) (by kernel_rfl) (by kernel_rfl) (by kernel_rfl) (kcast (by kernel_rfl) h) hN (by kernel_rfl)
theorem s35_0 {R : VP} {Q : EQ} (hR : ∀ e w, (R (e 2) w) → Q .ret e w) (e : Env) (w : World) (h : m35_0 R (e 0) w) : W35 k35_0 Q e w := by
  unfold m35_0 at h
  refine seA ?_
  have hN : ∀ e w, (m35_1 R (e 0) w) → (thenE (W35 k35_1 Q) Q) .normal e w := fun e w h => then_N (s35_1 (R := R) (Q := Q) hR e w h)
  exact rgA 0 (fun e w => m35_1 R (e 0) w) h hN
abbrev m35 (R : VP) (b0 : Value) (w : World) : Prop := m35_0 R b0 w
theorem s35 (b0 : Value) {R : VP} {w : World} (h : m35 R b0 w) :
    Calls Try.prog 35 #[b0] w fun e w' => ∃ v, e = .returned v ∧ R v w' :=
  calls_of_cwp (st := (fun i => 0)) (c := k35_0) (by kernel_rfl) Try.func35 (by kernel_rfl) (Nat.le_of_ble_eq_true (by kernel_rfl)) (by kernel_rfl)
    (s35_0 (R := R) (Q := endE Try.prog Try.f35 R) (fun e w h => kcast (by kernel_rfl) h) (argsE #[b0]) w (kcast (by kernel_rfl) h))
end Go.Proofs.Ytcdnkbplplghmaa.M
