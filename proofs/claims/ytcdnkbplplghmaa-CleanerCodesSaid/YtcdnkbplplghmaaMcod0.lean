/- What functions' texts ask of their ends, told over values that have names; printed by a program of this work. -/
import Derived.Test.YtcdnkbplplghmaaFw
import Derived.Test.YtcdnkbplplghmaaProg
namespace Go.Proofs.Ytcdnkbplplghmaa.M
open Go.Proofs.Ytcdnkbplplghmaa.F
set_option linter.unusedVariables false
set_option maxRecDepth 100000
/-! ### headgate/cleaner.Encode -/
def m14_15 (R : VP) (t2 t3 : Value) (w : World) : Prop :=
  R (Value.tuple #[t2, t3]) w
def m14_11 (R : VP) (K1 : VP) (b5 t17 t18 t19 : Value) (w : World) : Prop :=
  valP Try.prog (binS BinOp.add 3 (Operand.tmp 19) (Operand.const (Value.int IntKind.i64 1)) t19 (Value.int IntKind.i64 1)) w fun t31 w =>
  K1 t31 w
def m14_12 (R : VP) (K1 : VP) (b5 g7 t17 t18 t19 : Value) (w : World) : Prop :=
  anyDraw w fun w =>
  heldP w fun J =>
  valJ Try.prog J (Instr.fieldAt 40 g7 0) fun t23 =>
  valJ Try.prog J (Instr.loadAt 3 t23) fun t24 =>
  valJ Try.prog J (Instr.fieldAt 40 g7 1) fun t26 =>
  valJ Try.prog J (Instr.loadAt 38 t26) fun t27 =>
  callP Try.prog (fnV 32) #[t24] w fun t25 w =>
  stayP J w
  (callP Try.prog (fnV 33) #[t27] w fun t28 w =>
  stayP J w
  (valJ Try.prog J (binS BinOp.add 9 (Operand.tmp 25) (Operand.tmp 28) t25 t28) fun t29 =>
  callP Try.prog (fnV 31) #[b5, t29] w fun t30 w =>
  stayP J w
  (m14_11 R K1 b5 t17 t18 t19 w)))
def m14_10 (R : VP) (K1 : VP) (b5 t17 t18 t19 : Value) (w : World) : Prop :=
  valP Try.prog (Instr.indexAt 22 t17 t19) w fun t21 w =>
  valP Try.prog (Instr.loadAt 40 t21) w fun t22 w =>
  valP Try.prog (Instr.alloc 40 true (.tuple #[])) w fun g7 w =>
  unitP Try.prog (Instr.storeAt 40 g7 t22) w fun _ w =>
  m14_12 R K1 b5 g7 t17 t18 t19 w
def m14_6 (R : VP) (t2 t3 : Value) (w : World) : Prop :=
  R (Value.tuple #[t2, t3]) w
def m14_5 (R : VP) (b5 : Value) (w : World) : Prop :=
  callP Try.prog (fnV 35) #[b5] w fun t32 w =>
  callP Try.prog (fnV 34) #[t32] w fun t33 w =>
  m14_6 R t33 (Value.int IntKind.i64 0) w
def m14_9 (R : VP) (K1 : VP) (b5 t17 t18 t19 t20 : Value) (w : World) : Prop :=
  condP t20
  (m14_10 R K1 b5 t17 t18 t19 w)
  (m14_5 R b5 w)
def m14_8 (R : VP) (K1 : VP) (b5 t17 t18 t19 : Value) (w : World) : Prop :=
  valP Try.prog (binS BinOp.lss 3 (Operand.tmp 19) (Operand.tmp 18) t19 t18) w fun t20 w =>
  m14_9 R K1 b5 t17 t18 t19 t20 w
def m14_7 (R : VP) (b5 t17 t18 t19 : Value) (w : World) : Prop :=
  loopP (fun (K1 : VP) (s : Value) w => m14_8 R K1 b5 t17 t18 s w) t19 w
def m14_4 (R : VP) (l0 b5 : Value) (w : World) : Prop :=
  builtinP Try.prog Builtin.len #[22] 3 #[false] #[l0] w fun t18 w =>
  m14_7 R b5 l0 t18 (Value.int IntKind.i64 0) w
def m14_3 (R : VP) (l0 b5 : Value) (w : World) : Prop :=
  builtinP Try.prog Builtin.len #[22] 3 #[false] #[l0] w fun t14 w =>
  callP Try.prog (fnV 32) #[t14] w fun t15 w =>
  callP Try.prog (fnV 31) #[b5, t15] w fun t16 w =>
  m14_4 R l0 b5 w
def m14_2 (R : VP) (l0 : Value) (w : World) : Prop :=
  valP Try.prog (Instr.alloc 73 true (.tuple #[])) w fun b5 w =>
  m14_3 R l0 b5 w
def m14_14 (R : VP) (l0 e4 t11 : Value) (w : World) : Prop :=
  condP t11
  (m14_15 R (Value.string ⟨#[]⟩) e4 w)
  (m14_2 R l0 w)
def m14_13 (R : VP) (l0 e4 : Value) (w : World) : Prop :=
  valP Try.prog (binS BinOp.neq 42 (Operand.tmp 10) (Operand.const (Value.int IntKind.i64 0)) e4 (Value.int IntKind.i64 0)) w fun t11 w =>
  m14_14 R l0 e4 t11 w
def m14_1 (R : VP) (l0 : Value) (w : World) : Prop :=
  callP Try.prog (fnV 18) #[l0] w fun t9 w =>
  m14_13 R l0 t9 w
def m14_0 (R : VP) (l0 : Value) (w : World) : Prop :=
  m14_1 R l0 w
abbrev W14 := cwp Try.prog (fun i => 0)
noncomputable def k14_0 : Code := (bodyOf Try.f14)
noncomputable def k14_1 : Code := (c2 k14_0)
noncomputable def k14_2 : Code := (c2 k14_1)
noncomputable def k14_3 : Code := (c2 k14_2)
noncomputable def k14_4 : Code := (c2 k14_3)
noncomputable def k14_5 : Code := (c2 k14_4)
noncomputable def k14_6 : Code := (c2 k14_5)
noncomputable def k14_7 : Code := (c2 (c1 k14_4))
noncomputable def k14_8 : Code := (c1 (c1 k14_7))
noncomputable def k14_9 : Code := (c2 k14_8)
noncomputable def k14_10 : Code := (c2 k14_9)
noncomputable def k14_11 : Code := (c2 k14_10)
noncomputable def k14_12 : Code := (c2 (c1 (c1 k14_10)))
noncomputable def k14_13 : Code := (c2 (c1 k14_1))
noncomputable def k14_14 : Code := (c2 k14_13)
noncomputable def k14_15 : Code := (c2 (c1 k14_14))
theorem s14_15 {R : VP} {Q : EQ} (hR : ∀ e w, (R (Value.tuple #[(e 2), (e 3)]) w) → Q .ret e w) (e : Env) (w : World) (h : m14_15 R (e 2) (e 3) w) : W14 k14_15 Q e w := by
  unfold m14_15 at h
  exact reA (hR _ _ h)
theorem s14_11 {R : VP} {K1 : VP} {Q : EQ} (hN : ∀ e w, (K1 (e 19) w) → Q .normal e w) (e : Env) (w : World) (h : m14_11 R K1 (e 5) (e 17) (e 18) (e 19) w) : W14 k14_11 Q e w := by
  unfold m14_11 at h
  exact rgA 10 (fun e w => K1 (e 19) w) h hN
theorem s14_12 {R : VP} {K1 : VP} {Q : EQ} (hN : ∀ e w, (m14_11 R K1 (e 5) (e 17) (e 18) (e 19) w) → Q .normal e w) (e : Env) (w : World) (h : m14_12 R K1 (e 5) (e 7) (e 17) (e 18) (e 19) w) : W14 k14_12 Q e w := by
  unfold m14_12 at h
  exact treeJ_ok 9 8 [false, false, false, false, false, false, false, false] (.take 0 [true, false, false, false, false, false, false, false] (.take 1 [true, true, false, false, false, false, false, false] (.take 3 [true, true, false, true, false, false, false, false] (.take 4 [true, true, false, true, true, false, false, false] (.alt 2 [true, true, true, true, true, false, false, false] (.alt 5 [true, true, true, true, true, true, false, false] (.take 6 [true, true, true, true, true, true, true, false] (.alt 7 [true, true, true, true, true, true, true, true] .done .stop)) .stop) .stop))))) (fun e w => m14_11 R K1 (e 5) (e 17) (e 18) (e 19) w) (by kernel_rfl) (by kernel_rfl) (by kernel_rfl) (by kernel_rfl) (by kernel_rfl) (by kernel_rfl) (kcast (by kernel_rfl) h) hN (by kernel_rfl)
theorem s14_10 {R : VP} {K1 : VP} {Q : EQ} (hN : ∀ e w, (K1 (e 19) w) → Q .normal e w) (e : Env) (w : World) (h : m14_10 R K1 (e 5) (e 17) (e 18) (e 19) w) : W14 k14_10 Q e w := by
  unfold m14_10 at h
  refine seA ?_
  have hN : ∀ e w, (m14_11 R K1 (e 5) (e 17) (e 18) (e 19) w) → (thenE (W14 k14_11 Q) Q) .normal e w := fun e w h => then_N (s14_11 (R := R) (Q := Q) (K1 := K1) hN e w h)
  refine block_ok 1 (by kernel_rfl) ?_
  have hN : ∀ e w, (m14_11 R K1 (e 5) (e 17) (e 18) (e 19) w) → (inBlockE 1 (thenE (W14 k14_11 Q) Q)) .normal e w := fun e w h => block_N (hN e w h)
  refine seA ?_
  have hN : ∀ e w, (m14_12 R K1 (e 5) (e 7) (e 17) (e 18) (e 19) w) → (thenE (W14 k14_12 (inBlockE 1 (thenE (W14 k14_11 Q) Q))) (inBlockE 1 (thenE (W14 k14_11 Q) Q))) .normal e w := fun e w h => then_N (s14_12 (R := R) (Q := (inBlockE 1 (thenE (W14 k14_11 Q) Q))) (K1 := K1) hN e w h)
  exact rgA 8 (fun e w => m14_12 R K1 (e 5) (e 7) (e 17) (e 18) (e 19) w) h hN
theorem s14_6 {R : VP} {Q : EQ} (hR : ∀ e w, (R (Value.tuple #[(e 2), (e 3)]) w) → Q .ret e w) (e : Env) (w : World) (h : m14_6 R (e 2) (e 3) w) : W14 k14_6 Q e w := by
  unfold m14_6 at h
  exact reA (hR _ _ h)
theorem s14_5 {R : VP} {Q : EQ} (hR : ∀ e w, (R (Value.tuple #[(e 2), (e 3)]) w) → Q .ret e w) (e : Env) (w : World) (h : m14_5 R (e 5) w) : W14 k14_5 Q e w := by
  unfold m14_5 at h
  refine seA ?_
  have hN : ∀ e w, (m14_6 R (e 2) (e 3) w) → (thenE (W14 k14_6 Q) Q) .normal e w := fun e w h => then_N (s14_6 (R := R) (Q := Q) hR e w h)
  exact rgA 11 (fun e w => m14_6 R (e 2) (e 3) w) h hN
theorem s14_9 {R : VP} {K1 : VP} {Q : EQ} (hN : ∀ e w, (K1 (e 19) w) → Q .normal e w) (hX0 : ∀ e w, (m14_5 R (e 5) w) → Q (.exit 0) e w) (e : Env) (w : World) (h : m14_9 R K1 (e 5) (e 17) (e 18) (e 19) (e 20) w) : W14 k14_9 Q e w := by
  unfold m14_9 at h
  refine seA ?_
  have hN : ∀ e w, (m14_10 R K1 (e 5) (e 17) (e 18) (e 19) w) → (thenE (W14 k14_10 Q) Q) .normal e w := fun e w h => then_N (s14_10 (R := R) (Q := Q) (K1 := K1) hN e w h)
  have hX0 : ∀ e w, (m14_5 R (e 5) w) → (thenE (W14 k14_10 Q) Q) (.exit 0) e w := fun e w h => then_X (hX0 e w h)
  refine coA (Operand.tmp 20) h (fun h1 => ?_) (fun h1 => ?_)
  · exact skA (hN _ _ h1)
  · exact exA 0 (hX0 _ _ h1)
theorem s14_8 {R : VP} {K1 : VP} {Q : EQ} (hN : ∀ e w, (K1 (e 19) w) → Q .normal e w) (hX0 : ∀ e w, (m14_5 R (e 5) w) → Q (.exit 0) e w) (e : Env) (w : World) (h : m14_8 R K1 (e 5) (e 17) (e 18) (e 19) w) : W14 k14_8 Q e w := by
  unfold m14_8 at h
  refine seA ?_
  have hN : ∀ e w, (m14_9 R K1 (e 5) (e 17) (e 18) (e 19) (e 20) w) → (thenE (W14 k14_9 Q) Q) .normal e w := fun e w h => then_N (s14_9 (R := R) (Q := Q) (K1 := K1) hN hX0 e w h)
  exact rgA 7 (fun e w => m14_9 R K1 (e 5) (e 17) (e 18) (e 19) (e 20) w) h hN
theorem s14_7 {R : VP} {Q : EQ} (hN : ∀ e w, (m14_5 R (e 5) w) → Q .normal e w) (e : Env) (w : World) (h : m14_7 R (e 5) (e 17) (e 18) (e 19) w) : W14 k14_7 Q e w := by
  unfold m14_7 at h
  refine block_ok 0 (by kernel_rfl) ?_
  have hX0 : ∀ e w, (m14_5 R (e 5) w) → (inBlockE 0 Q) (.exit 0) e w := fun e w h => inBlock_same (Q := Q) 0 (hN e w h)
  refine loop_ok' (fun (e : Env) => e 19) [5, 17, 18] (by kernel_rfl) (by kernel_rfl) h (fun K e' w' hk h' => ?_)
  have r5 : e' 5 = e 5 := hk 5 (by decide)
  have r17 : e' 17 = e 17 := hk 17 (by decide)
  have r18 : e' 18 = e 18 := hk 18 (by decide)
  have hX0 : ∀ e w, (m14_5 R (e 5) w) → (thenE (fun (e : Env) w => K (e 19) w) (inBlockE 0 Q)) (.exit 0) e w := fun e w h => then_X (hX0 e w h)
  exact s14_8 (R := R) (Q := (thenE (fun (e : Env) w => K (e 19) w) (inBlockE 0 Q))) (K1 := K) (fun _ _ h => then_N h) hX0 e' w' (by rw [r5, r17, r18]; exact h')
theorem s14_4 {R : VP} {Q : EQ} (hR : ∀ e w, (R (Value.tuple #[(e 2), (e 3)]) w) → Q .ret e w) (e : Env) (w : World) (h : m14_4 R (e 0) (e 5) w) : W14 k14_4 Q e w := by
  unfold m14_4 at h
  refine seA ?_
  have hN : ∀ e w, (m14_5 R (e 5) w) → (thenE (W14 k14_5 Q) Q) .normal e w := fun e w h => then_N (s14_5 (R := R) (Q := Q) hR e w h)
  refine seA ?_
  have hN : ∀ e w, (m14_7 R (e 5) (e 17) (e 18) (e 19) w) → (thenE (W14 k14_7 (thenE (W14 k14_5 Q) Q)) (thenE (W14 k14_5 Q) Q)) .normal e w := fun e w h => then_N (s14_7 (R := R) (Q := (thenE (W14 k14_5 Q) Q)) hN e w h)
  exact rgA 6 (fun e w => m14_7 R (e 5) (e 17) (e 18) (e 19) w) h hN
theorem s14_3 {R : VP} {Q : EQ} (hR : ∀ e w, (R (Value.tuple #[(e 2), (e 3)]) w) → Q .ret e w) (e : Env) (w : World) (h : m14_3 R (e 0) (e 5) w) : W14 k14_3 Q e w := by
  unfold m14_3 at h
  refine seA ?_
  have hN : ∀ e w, (m14_4 R (e 0) (e 5) w) → (thenE (W14 k14_4 Q) Q) .normal e w := fun e w h => then_N (s14_4 (R := R) (Q := Q) hR e w h)
  exact rgA 5 (fun e w => m14_4 R (e 0) (e 5) w) h hN
theorem s14_2 {R : VP} {Q : EQ} (hR : ∀ e w, (R (Value.tuple #[(e 2), (e 3)]) w) → Q .ret e w) (e : Env) (w : World) (h : m14_2 R (e 0) w) : W14 k14_2 Q e w := by
  unfold m14_2 at h
  refine seA ?_
  have hN : ∀ e w, (m14_3 R (e 0) (e 5) w) → (thenE (W14 k14_3 Q) Q) .normal e w := fun e w h => then_N (s14_3 (R := R) (Q := Q) hR e w h)
  exact rgA 4 (fun e w => m14_3 R (e 0) (e 5) w) h hN
theorem s14_14 {R : VP} {Q : EQ} (hN : ∀ e w, (m14_2 R (e 0) w) → Q .normal e w) (hR : ∀ e w, (R (Value.tuple #[(e 2), (e 3)]) w) → Q .ret e w) (e : Env) (w : World) (h : m14_14 R (e 0) (e 4) (e 11) w) : W14 k14_14 Q e w := by
  unfold m14_14 at h
  refine coA (Operand.tmp 11) h (fun h1 => ?_) (fun h1 => ?_)
  · refine seA ?_
    have hN : ∀ e w, (m14_15 R (e 2) (e 3) w) → (thenE (W14 k14_15 Q) Q) .normal e w := fun e w h => then_N (s14_15 (R := R) (Q := Q) hR e w h)
    exact rgA 3 (fun e w => m14_15 R (e 2) (e 3) w) h1 hN
  · exact skA (hN _ _ h1)
theorem s14_13 {R : VP} {Q : EQ} (hN : ∀ e w, (m14_2 R (e 0) w) → Q .normal e w) (hR : ∀ e w, (R (Value.tuple #[(e 2), (e 3)]) w) → Q .ret e w) (e : Env) (w : World) (h : m14_13 R (e 0) (e 4) w) : W14 k14_13 Q e w := by
  unfold m14_13 at h
  refine seA ?_
  have hN : ∀ e w, (m14_14 R (e 0) (e 4) (e 11) w) → (thenE (W14 k14_14 Q) Q) .normal e w := fun e w h => then_N (s14_14 (R := R) (Q := Q) hN hR e w h)
  exact rgA 2 (fun e w => m14_14 R (e 0) (e 4) (e 11) w) h hN
theorem s14_1 {R : VP} {Q : EQ} (hR : ∀ e w, (R (Value.tuple #[(e 2), (e 3)]) w) → Q .ret e w) (e : Env) (w : World) (h : m14_1 R (e 0) w) : W14 k14_1 Q e w := by
  unfold m14_1 at h
  refine seA ?_
  have hN : ∀ e w, (m14_2 R (e 0) w) → (thenE (W14 k14_2 Q) Q) .normal e w := fun e w h => then_N (s14_2 (R := R) (Q := Q) hR e w h)
  have hR : ∀ e w, (R (Value.tuple #[(e 2), (e 3)]) w) → (thenE (W14 k14_2 Q) Q) .ret e w := fun e w h => then_R (hR e w h)
  refine seA ?_
  have hN : ∀ e w, (m14_13 R (e 0) (e 4) w) → (thenE (W14 k14_13 (thenE (W14 k14_2 Q) Q)) (thenE (W14 k14_2 Q) Q)) .normal e w := fun e w h => then_N (s14_13 (R := R) (Q := (thenE (W14 k14_2 Q) Q)) hN hR e w h)
  exact rgA 1 (fun e w => m14_13 R (e 0) (e 4) w) h hN
theorem s14_0 {R : VP} {Q : EQ} (hR : ∀ e w, (R (Value.tuple #[(e 2), (e 3)]) w) → Q .ret e w) (e : Env) (w : World) (h : m14_0 R (e 0) w) : W14 k14_0 Q e w := by
  unfold m14_0 at h
  refine seA ?_
  have hN : ∀ e w, (m14_1 R (e 0) w) → (thenE (W14 k14_1 Q) Q) .normal e w := fun e w h => then_N (s14_1 (R := R) (Q := Q) hR e w h)
  exact rgA 0 (fun e w => m14_1 R (e 0) w) h hN
abbrev m14 (R : VP) (l0 : Value) (w : World) : Prop := m14_0 R l0 w
theorem s14 (l0 : Value) {R : VP} {w : World} (h : m14 R l0 w) :
    Calls Try.prog 14 #[l0] w fun e w' => ∃ v, e = .returned v ∧ R v w' :=
  calls_of_cwp (st := (fun i => 0)) (c := k14_0) (by kernel_rfl) Try.func14 (by kernel_rfl) (Nat.le_of_ble_eq_true (by kernel_rfl)) (by kernel_rfl)
    (s14_0 (R := R) (Q := endE Try.prog Try.f14 R) (fun e w h => kcast (by kernel_rfl) h) (argsE #[l0]) w (kcast (by kernel_rfl) h))
/-! ### headgate/headgateref33.Encode -/
def m15_12 (R : VP) (t2 t3 : Value) (w : World) : Prop :=
  R (Value.tuple #[t2, t3]) w
def m15_9 (R : VP) (K1 : (Value × Value) → World → Prop) (l0 s4 i5 : Value) (w : World) : Prop :=
  valP Try.prog (binS BinOp.add 3 (Operand.tmp 16) (Operand.const (Value.int IntKind.i64 1)) i5 (Value.int IntKind.i64 1)) w fun t17 w =>
  K1 (s4, t17) w
def m15_8 (R : VP) (K1 : (Value × Value) → World → Prop) (l0 s4 i5 : Value) (w : World) : Prop :=
  anyDraw w fun w =>
  heldP w fun J =>
  valJ Try.prog J (Instr.indexAt 22 l0 i5) fun t21 =>
  valJ Try.prog J (Instr.fieldAt 40 t21 0) fun t22 =>
  valJ Try.prog J (Instr.loadAt 3 t22) fun t23 =>
  valJ Try.prog J (Instr.indexAt 22 l0 i5) fun t28 =>
  valJ Try.prog J (Instr.fieldAt 40 t28 1) fun t29 =>
  valJ Try.prog J (Instr.loadAt 38 t29) fun t30 =>
  callP Try.prog (fnV 26) #[t23] w fun t24 w =>
  stayP J w
  (valJ Try.prog J (binS BinOp.add 9 (Operand.tmp 18) (Operand.tmp 24) s4 t24) fun t25 =>
  callP Try.prog (fnV 37) #[t30] w fun t31 w =>
  stayP J w
  (valJ Try.prog J (binS BinOp.add 9 (Operand.tmp 25) (Operand.tmp 31) t25 t31) fun t32 =>
  m15_9 R K1 l0 t32 i5 w))
def m15_5 (R : VP) (t2 t3 : Value) (w : World) : Prop :=
  R (Value.tuple #[t2, t3]) w
def m15_4 (R : VP) (s4 : Value) (w : World) : Prop :=
  callP Try.prog (fnV 38) #[s4] w fun t34 w =>
  m15_5 R t34 (Value.int IntKind.i64 0) w
def m15_10 (R : VP) (K1 : (Value × Value) → World → Prop) (l0 s4 i5 t15 : Value) (w : World) : Prop :=
  condP t15
  (m15_8 R K1 l0 s4 i5 w)
  (m15_4 R s4 w)
def m15_7 (R : VP) (K1 : (Value × Value) → World → Prop) (l0 s4 i5 : Value) (w : World) : Prop :=
  builtinP Try.prog Builtin.len #[22] 3 #[false] #[l0] w fun t14 w =>
  valP Try.prog (binS BinOp.lss 3 (Operand.tmp 12) (Operand.tmp 14) i5 t14) w fun t15 w =>
  m15_10 R K1 l0 s4 i5 t15 w
def m15_6 (R : VP) (l0 s4 i5 : Value) (w : World) : Prop :=
  loopP (fun (K1 : (Value × Value) → World → Prop) (s : Value × Value) w => m15_7 R K1 l0 s.1 s.2 w) (s4, i5) w
def m15_3 (R : VP) (l0 s4 : Value) (w : World) : Prop :=
  m15_6 R l0 s4 (Value.int IntKind.i64 0) w
def m15_2 (R : VP) (l0 : Value) (w : World) : Prop :=
  builtinP Try.prog Builtin.len #[22] 3 #[false] #[l0] w fun t10 w =>
  callP Try.prog (fnV 26) #[t10] w fun t11 w =>
  m15_3 R l0 t11 w
def m15_11 (R : VP) (l0 t8 : Value) (w : World) : Prop :=
  condP t8
  (m15_12 R (Value.string ⟨#[]⟩) (Value.int IntKind.i64 1) w)
  (m15_2 R l0 w)
def m15_1 (R : VP) (l0 : Value) (w : World) : Prop :=
  callP Try.prog (fnV 36) #[l0] w fun t7 w =>
  valP Try.prog (Op.unary UnOp.not t7) w fun t8 w =>
  m15_11 R l0 t8 w
def m15_0 (R : VP) (l0 : Value) (w : World) : Prop :=
  m15_1 R l0 w
abbrev W15 := cwp Try.prog (fun i => 0)
noncomputable def k15_0 : Code := (bodyOf Try.f15)
noncomputable def k15_1 : Code := (c2 k15_0)
noncomputable def k15_2 : Code := (c2 k15_1)
noncomputable def k15_3 : Code := (c2 k15_2)
noncomputable def k15_4 : Code := (c2 k15_3)
noncomputable def k15_5 : Code := (c2 k15_4)
noncomputable def k15_6 : Code := (c2 (c1 k15_3))
noncomputable def k15_7 : Code := (c1 (c1 k15_6))
noncomputable def k15_8 : Code := (c2 k15_7)
noncomputable def k15_9 : Code := (c2 k15_8)
noncomputable def k15_10 : Code := (c2 (c1 k15_7))
noncomputable def k15_11 : Code := (c2 (c1 k15_1))
noncomputable def k15_12 : Code := (c2 (c1 k15_11))
theorem s15_12 {R : VP} {Q : EQ} (hR : ∀ e w, (R (Value.tuple #[(e 2), (e 3)]) w) → Q .ret e w) (e : Env) (w : World) (h : m15_12 R (e 2) (e 3) w) : W15 k15_12 Q e w := by
  unfold m15_12 at h
  exact reA (hR _ _ h)
theorem s15_9 {R : VP} {K1 : (Value × Value) → World → Prop} {Q : EQ} (hN : ∀ e w, (K1 ((e 4), (e 5)) w) → Q .normal e w) (e : Env) (w : World) (h : m15_9 R K1 (e 0) (e 4) (e 5) w) : W15 k15_9 Q e w := by
  unfold m15_9 at h
  exact rgA 6 (fun e w => K1 ((e 4), (e 5)) w) h hN
theorem s15_8 {R : VP} {K1 : (Value × Value) → World → Prop} {Q : EQ} (hN : ∀ e w, (K1 ((e 4), (e 5)) w) → Q .normal e w) (e : Env) (w : World) (h : m15_8 R K1 (e 0) (e 4) (e 5) w) : W15 k15_8 Q e w := by
  unfold m15_8 at h
  refine seA ?_
  have hN : ∀ e w, (m15_9 R K1 (e 0) (e 4) (e 5) w) → (thenE (W15 k15_9 Q) Q) .normal e w := fun e w h => then_N (s15_9 (R := R) (Q := Q) (K1 := K1) hN e w h)
  refine block_ok 1 (by kernel_rfl) ?_
  have hN : ∀ e w, (m15_9 R K1 (e 0) (e 4) (e 5) w) → (inBlockE 1 (thenE (W15 k15_9 Q) Q)) .normal e w := fun e w h => block_N (hN e w h)
  exact treeJ_ok 7 16 [false, false, false, false, false, false, false, false, false, false, false, false, false, false, false, false] (.take 0 [true, false, false, false, false, false, false, false, false, false, false, false, false, false, false, false] (.take 1 [true, true, false, false, false, false, false, false, false, false, false, false, false, false, false, false] (.take 2 [true, true, true, false, false, false, false, false, false, false, false, false, false, false, false, false] (.take 3 [true, true, true, true, false, false, false, false, false, false, false, false, false, false, false, false] (.take 4 [true, true, true, true, true, false, false, false, false, false, false, false, false, false, false, false] (.take 5 [true, true, true, true, true, true, false, false, false, false, false, false, false, false, false, false] (.take 8 [true, true, true, true, true, true, false, false, true, false, false, false, false, false, false, false] (.take 9 [true, true, true, true, true, true, false, false, true, true, false, false, false, false, false, false] (.take 10 [true, true, true, true, true, true, false, false, true, true, true, false, false, false, false, false] (.take 11 [true, true, true, true, true, true, false, false, true, true, true, true, false, false, false, false] (.take 12 [true, true, true, true, true, true, false, false, true, true, true, true, true, false, false, false] (.alt 6 [true, true, true, true, true, true, true, false, true, true, true, true, true, false, false, false] (.take 7 [true, true, true, true, true, true, true, true, true, true, true, true, true, false, false, false] (.alt 13 [true, true, true, true, true, true, true, true, true, true, true, true, true, true, false, false] (.take 14 [true, true, true, true, true, true, true, true, true, true, true, true, true, true, true, false] (.take 15 [true, true, true, true, true, true, true, true, true, true, true, true, true, true, true, true] .done)) .stop)) .stop)))))))))))) (fun e w => m15_9 R K1 (e 0) (e 4) (e 5) w) (by kernel_rfl) (by kernel_rfl) (by kernel_rfl) (by kernel_rfl) (by kernel_rfl) (by kernel_rfl) (kcast (by kernel_rfl) h) hN (by kernel_rfl)
theorem s15_5 {R : VP} {Q : EQ} (hR : ∀ e w, (R (Value.tuple #[(e 2), (e 3)]) w) → Q .ret e w) (e : Env) (w : World) (h : m15_5 R (e 2) (e 3) w) : W15 k15_5 Q e w := by
  unfold m15_5 at h
  exact reA (hR _ _ h)
theorem s15_4 {R : VP} {Q : EQ} (hR : ∀ e w, (R (Value.tuple #[(e 2), (e 3)]) w) → Q .ret e w) (e : Env) (w : World) (h : m15_4 R (e 4) w) : W15 k15_4 Q e w := by
  unfold m15_4 at h
  refine seA ?_
  have hN : ∀ e w, (m15_5 R (e 2) (e 3) w) → (thenE (W15 k15_5 Q) Q) .normal e w := fun e w h => then_N (s15_5 (R := R) (Q := Q) hR e w h)
  exact rgA 8 (fun e w => m15_5 R (e 2) (e 3) w) h hN
theorem s15_10 {R : VP} {K1 : (Value × Value) → World → Prop} {Q : EQ} (hN : ∀ e w, (m15_8 R K1 (e 0) (e 4) (e 5) w) → Q .normal e w) (hX0 : ∀ e w, (m15_4 R (e 4) w) → Q (.exit 0) e w) (e : Env) (w : World) (h : m15_10 R K1 (e 0) (e 4) (e 5) (e 15) w) : W15 k15_10 Q e w := by
  unfold m15_10 at h
  refine coA (Operand.tmp 15) h (fun h1 => ?_) (fun h1 => ?_)
  · exact skA (hN _ _ h1)
  · exact exA 0 (hX0 _ _ h1)
theorem s15_7 {R : VP} {K1 : (Value × Value) → World → Prop} {Q : EQ} (hN : ∀ e w, (K1 ((e 4), (e 5)) w) → Q .normal e w) (hX0 : ∀ e w, (m15_4 R (e 4) w) → Q (.exit 0) e w) (e : Env) (w : World) (h : m15_7 R K1 (e 0) (e 4) (e 5) w) : W15 k15_7 Q e w := by
  unfold m15_7 at h
  refine seA ?_
  have hN : ∀ e w, (m15_8 R K1 (e 0) (e 4) (e 5) w) → (thenE (W15 k15_8 Q) Q) .normal e w := fun e w h => then_N (s15_8 (R := R) (Q := Q) (K1 := K1) hN e w h)
  have hX0 : ∀ e w, (m15_4 R (e 4) w) → (thenE (W15 k15_8 Q) Q) (.exit 0) e w := fun e w h => then_X (hX0 e w h)
  refine seA ?_
  have hN : ∀ e w, (m15_10 R K1 (e 0) (e 4) (e 5) (e 15) w) → (thenE (W15 k15_10 (thenE (W15 k15_8 Q) Q)) (thenE (W15 k15_8 Q) Q)) .normal e w := fun e w h => then_N (s15_10 (R := R) (Q := (thenE (W15 k15_8 Q) Q)) (K1 := K1) hN hX0 e w h)
  exact rgA 5 (fun e w => m15_10 R K1 (e 0) (e 4) (e 5) (e 15) w) h hN
theorem s15_6 {R : VP} {Q : EQ} (hN : ∀ e w, (m15_4 R (e 4) w) → Q .normal e w) (e : Env) (w : World) (h : m15_6 R (e 0) (e 4) (e 5) w) : W15 k15_6 Q e w := by
  unfold m15_6 at h
  refine block_ok 0 (by kernel_rfl) ?_
  have hX0 : ∀ e w, (m15_4 R (e 4) w) → (inBlockE 0 Q) (.exit 0) e w := fun e w h => inBlock_same (Q := Q) 0 (hN e w h)
  refine loop_ok' (fun (e : Env) => (e 4, e 5)) [0] (by kernel_rfl) (by kernel_rfl) h (fun K e' w' hk h' => ?_)
  have r0 : e' 0 = e 0 := hk 0 (by decide)
  have hX0 : ∀ e w, (m15_4 R (e 4) w) → (thenE (fun (e : Env) w => K ((e 4), (e 5)) w) (inBlockE 0 Q)) (.exit 0) e w := fun e w h => then_X (hX0 e w h)
  exact s15_7 (R := R) (Q := (thenE (fun (e : Env) w => K ((e 4), (e 5)) w) (inBlockE 0 Q))) (K1 := K) (fun _ _ h => then_N h) hX0 e' w' (by rw [r0]; exact h')
theorem s15_3 {R : VP} {Q : EQ} (hR : ∀ e w, (R (Value.tuple #[(e 2), (e 3)]) w) → Q .ret e w) (e : Env) (w : World) (h : m15_3 R (e 0) (e 4) w) : W15 k15_3 Q e w := by
  unfold m15_3 at h
  refine seA ?_
  have hN : ∀ e w, (m15_4 R (e 4) w) → (thenE (W15 k15_4 Q) Q) .normal e w := fun e w h => then_N (s15_4 (R := R) (Q := Q) hR e w h)
  refine seA ?_
  have hN : ∀ e w, (m15_6 R (e 0) (e 4) (e 5) w) → (thenE (W15 k15_6 (thenE (W15 k15_4 Q) Q)) (thenE (W15 k15_4 Q) Q)) .normal e w := fun e w h => then_N (s15_6 (R := R) (Q := (thenE (W15 k15_4 Q) Q)) hN e w h)
  exact rgA 4 (fun e w => m15_6 R (e 0) (e 4) (e 5) w) h hN
theorem s15_2 {R : VP} {Q : EQ} (hR : ∀ e w, (R (Value.tuple #[(e 2), (e 3)]) w) → Q .ret e w) (e : Env) (w : World) (h : m15_2 R (e 0) w) : W15 k15_2 Q e w := by
  unfold m15_2 at h
  refine seA ?_
  have hN : ∀ e w, (m15_3 R (e 0) (e 4) w) → (thenE (W15 k15_3 Q) Q) .normal e w := fun e w h => then_N (s15_3 (R := R) (Q := Q) hR e w h)
  exact rgA 3 (fun e w => m15_3 R (e 0) (e 4) w) h hN
theorem s15_11 {R : VP} {Q : EQ} (hN : ∀ e w, (m15_2 R (e 0) w) → Q .normal e w) (hR : ∀ e w, (R (Value.tuple #[(e 2), (e 3)]) w) → Q .ret e w) (e : Env) (w : World) (h : m15_11 R (e 0) (e 8) w) : W15 k15_11 Q e w := by
  unfold m15_11 at h
  refine coA (Operand.tmp 8) h (fun h1 => ?_) (fun h1 => ?_)
  · refine seA ?_
    have hN : ∀ e w, (m15_12 R (e 2) (e 3) w) → (thenE (W15 k15_12 Q) Q) .normal e w := fun e w h => then_N (s15_12 (R := R) (Q := Q) hR e w h)
    exact rgA 2 (fun e w => m15_12 R (e 2) (e 3) w) h1 hN
  · exact skA (hN _ _ h1)
theorem s15_1 {R : VP} {Q : EQ} (hR : ∀ e w, (R (Value.tuple #[(e 2), (e 3)]) w) → Q .ret e w) (e : Env) (w : World) (h : m15_1 R (e 0) w) : W15 k15_1 Q e w := by
  unfold m15_1 at h
  refine seA ?_
  have hN : ∀ e w, (m15_2 R (e 0) w) → (thenE (W15 k15_2 Q) Q) .normal e w := fun e w h => then_N (s15_2 (R := R) (Q := Q) hR e w h)
  have hR : ∀ e w, (R (Value.tuple #[(e 2), (e 3)]) w) → (thenE (W15 k15_2 Q) Q) .ret e w := fun e w h => then_R (hR e w h)
  refine seA ?_
  have hN : ∀ e w, (m15_11 R (e 0) (e 8) w) → (thenE (W15 k15_11 (thenE (W15 k15_2 Q) Q)) (thenE (W15 k15_2 Q) Q)) .normal e w := fun e w h => then_N (s15_11 (R := R) (Q := (thenE (W15 k15_2 Q) Q)) hN hR e w h)
  exact rgA 1 (fun e w => m15_11 R (e 0) (e 8) w) h hN
theorem s15_0 {R : VP} {Q : EQ} (hR : ∀ e w, (R (Value.tuple #[(e 2), (e 3)]) w) → Q .ret e w) (e : Env) (w : World) (h : m15_0 R (e 0) w) : W15 k15_0 Q e w := by
  unfold m15_0 at h
  refine seA ?_
  have hN : ∀ e w, (m15_1 R (e 0) w) → (thenE (W15 k15_1 Q) Q) .normal e w := fun e w h => then_N (s15_1 (R := R) (Q := Q) hR e w h)
  exact rgA 0 (fun e w => m15_1 R (e 0) w) h hN
abbrev m15 (R : VP) (l0 : Value) (w : World) : Prop := m15_0 R l0 w
theorem s15 (l0 : Value) {R : VP} {w : World} (h : m15 R l0 w) :
    Calls Try.prog 15 #[l0] w fun e w' => ∃ v, e = .returned v ∧ R v w' :=
  calls_of_cwp (st := (fun i => 0)) (c := k15_0) (by kernel_rfl) Try.func15 (by kernel_rfl) (Nat.le_of_ble_eq_true (by kernel_rfl)) (by kernel_rfl)
    (s15_0 (R := R) (Q := endE Try.prog Try.f15 R) (fun e w h => kcast (by kernel_rfl) h) (argsE #[l0]) w (kcast (by kernel_rfl) h))
/-! ### headgate/cleaner.Decode -/
def m16_29 (R : VP) (t2 t3 : Value) (w : World) : Prop :=
  R (Value.tuple #[t2, t3]) w
def m16_27 (R : VP) (t2 t3 : Value) (w : World) : Prop :=
  R (Value.tuple #[t2, t3]) w
def m16_25 (R : VP) (K1 : (Value × Value × Value) → World → Prop) (t2 t3 : Value) (w : World) : Prop :=
  R (Value.tuple #[t2, t3]) w
def m16_23 (R : VP) (K1 : (Value × Value × Value) → World → Prop) (t2 t3 : Value) (w : World) : Prop :=
  R (Value.tuple #[t2, t3]) w
def m16_16 (R : VP) (K1 : (Value × Value × Value) → World → Prop) (t4 l7 t36 t37 : Value) (w : World) : Prop :=
  valP Try.prog (binS BinOp.add 3 (Operand.tmp 37) (Operand.const (Value.int IntKind.i64 1)) t37 (Value.int IntKind.i64 1)) w fun t64 w =>
  K1 (t4, l7, t64) w
def m16_21 (R : VP) (K1 : (Value × Value × Value) → World → Prop) (l7 rest9 t36 t37 : Value) (w : World) : Prop :=
  m16_16 R K1 rest9 l7 t36 t37 w
def m16_20 (R : VP) (K1 : (Value × Value × Value) → World → Prop) (l7 off8 rest9 r11 t36 t37 : Value) (w : World) : Prop :=
  valP Try.prog (Instr.loadAt 38 r11) w fun t59 w =>
  valP Try.prog (Instr.build 40 #[(0, off8), (1, t59)]) w fun t60 w =>
  valP Try.prog (Instr.buildSlice 22 1 #[(0, t60)]) w fun t61 w =>
  builtinP Try.prog Builtin.append #[22, 22] 22 #[false, false] #[l7, t61] w fun t62 w =>
  m16_21 R K1 t62 rest9 t36 t37 w
def m16_22 (R : VP) (K1 : (Value × Value × Value) → World → Prop) (l7 off8 rest9 e10 r11 t36 t37 t55 : Value) (w : World) : Prop :=
  condP t55
  (m16_23 R K1 (Value.slice none 0 0) e10 w)
  (m16_20 R K1 l7 off8 rest9 r11 t36 t37 w)
def m16_19 (R : VP) (K1 : (Value × Value × Value) → World → Prop) (l7 off8 rest9 e10 r11 t36 t37 : Value) (w : World) : Prop :=
  valP Try.prog (binS BinOp.neq 42 (Operand.tmp 54) (Operand.const (Value.int IntKind.i64 0)) e10 (Value.int IntKind.i64 0)) w fun t55 w =>
  m16_22 R K1 l7 off8 rest9 e10 r11 t36 t37 t55 w
def m16_18 (R : VP) (K1 : (Value × Value × Value) → World → Prop) (l7 off8 rest9 t36 t37 : Value) (w : World) : Prop :=
  callP Try.prog (fnV 41) #[rest9] w fun t50 w =>
  valP Try.prog (Instr.extract t50 0) w fun t51 w =>
  valP Try.prog (Instr.extract t50 1) w fun t52 w =>
  valP Try.prog (Instr.extract t50 2) w fun t53 w =>
  valP Try.prog (Instr.alloc 38 true (.tuple #[])) w fun r11 w =>
  unitP Try.prog (Instr.storeAt 38 r11 t51) w fun _ w =>
  m16_19 R K1 l7 off8 t52 t53 r11 t36 t37 w
def m16_24 (R : VP) (K1 : (Value × Value × Value) → World → Prop) (l7 off8 rest9 e10 t36 t37 t46 : Value) (w : World) : Prop :=
  condP t46
  (m16_25 R K1 (Value.slice none 0 0) e10 w)
  (m16_18 R K1 l7 off8 rest9 t36 t37 w)
def m16_17 (R : VP) (K1 : (Value × Value × Value) → World → Prop) (l7 off8 rest9 e10 t36 t37 : Value) (w : World) : Prop :=
  valP Try.prog (binS BinOp.neq 42 (Operand.tmp 45) (Operand.const (Value.int IntKind.i64 0)) e10 (Value.int IntKind.i64 0)) w fun t46 w =>
  m16_24 R K1 l7 off8 rest9 e10 t36 t37 t46 w
def m16_15 (R : VP) (K1 : (Value × Value × Value) → World → Prop) (t4 l7 t36 t37 : Value) (w : World) : Prop :=
  callP Try.prog (fnV 40) #[t4] w fun t41 w =>
  valP Try.prog (Instr.extract t41 0) w fun t42 w =>
  valP Try.prog (Instr.extract t41 1) w fun t43 w =>
  valP Try.prog (Instr.extract t41 2) w fun t44 w =>
  m16_17 R K1 l7 t42 t43 t44 t36 t37 w
def m16_11 (R : VP) (t2 t3 : Value) (w : World) : Prop :=
  R (Value.tuple #[t2, t3]) w
def m16_9 (R : VP) (t2 t3 : Value) (w : World) : Prop :=
  R (Value.tuple #[t2, t3]) w
def m16_8 (R : VP) (l7 : Value) (w : World) : Prop :=
  m16_9 R l7 (Value.int IntKind.i64 0) w
def m16_10 (R : VP) (l7 t71 : Value) (w : World) : Prop :=
  condP t71
  (m16_11 R (Value.slice none 0 0) (Value.int IntKind.i64 2) w)
  (m16_8 R l7 w)
def m16_7 (R : VP) (t4 l7 : Value) (w : World) : Prop :=
  valP Try.prog (binS BinOp.neq 9 (Operand.tmp 65) (Operand.const (Value.string ⟨#[]⟩)) t4 (Value.string ⟨#[]⟩)) w fun t66 w =>
  condP t66
  (pickP t66 (Value.bool true) undef fun t71 =>
  m16_10 R l7 t71 w)
  (callP Try.prog (fnV 18) #[l7] w fun t69 w =>
  valP Try.prog (binS BinOp.neq 42 (Operand.tmp 69) (Operand.const (Value.int IntKind.i64 0)) t69 (Value.int IntKind.i64 0)) w fun t70 w =>
  pickP t66 (Value.bool true) t70 fun t71 =>
  m16_10 R l7 t71 w)
def m16_14 (R : VP) (K1 : (Value × Value × Value) → World → Prop) (t4 l7 t36 t37 t38 : Value) (w : World) : Prop :=
  condP t38
  (m16_15 R K1 t4 l7 t36 t37 w)
  (m16_7 R t4 l7 w)
def m16_13 (R : VP) (K1 : (Value × Value × Value) → World → Prop) (t4 l7 t36 t37 : Value) (w : World) : Prop :=
  valP Try.prog (binS BinOp.lss 3 (Operand.tmp 37) (Operand.tmp 36) t37 t36) w fun t38 w =>
  m16_14 R K1 t4 l7 t36 t37 t38 w
def m16_12 (R : VP) (t4 l7 t36 t37 : Value) (w : World) : Prop :=
  loopP (fun (K1 : (Value × Value × Value) → World → Prop) (s : Value × Value × Value) w => m16_13 R K1 s.1 s.2.1 t36 s.2.2 w) (t4, l7, t37) w
def m16_6 (R : VP) (t4 n6 l7 : Value) (w : World) : Prop :=
  m16_12 R t4 l7 n6 (Value.int IntKind.i64 0) w
def m16_5 (R : VP) (t4 n6 : Value) (w : World) : Prop :=
  m16_6 R t4 n6 (Value.slice none 0 0) w
def m16_26 (R : VP) (t4 n6 t35 : Value) (w : World) : Prop :=
  condP t35
  (m16_27 R (Value.slice none 0 0) (Value.int IntKind.i64 2) w)
  (m16_5 R t4 n6 w)
def m16_4 (R : VP) (t4 e5 n6 : Value) (w : World) : Prop :=
  valP Try.prog (binS BinOp.neq 42 (Operand.tmp 26) (Operand.const (Value.int IntKind.i64 0)) e5 (Value.int IntKind.i64 0)) w fun t27 w =>
  condP t27
  (pickP t27 (Value.bool true) undef fun t31 =>
  condP t31
  (pickP t31 (Value.bool true) undef fun t35 =>
  m16_26 R t4 n6 t35 w)
  (valP Try.prog (binS BinOp.gtr 3 (Operand.tmp 33) (Operand.const (Value.int IntKind.i64 4096)) n6 (Value.int IntKind.i64 4096)) w fun t34 w =>
  pickP t31 (Value.bool true) t34 fun t35 =>
  m16_26 R t4 n6 t35 w))
  (valP Try.prog (binS BinOp.lss 3 (Operand.tmp 29) (Operand.const (Value.int IntKind.i64 0)) n6 (Value.int IntKind.i64 0)) w fun t30 w =>
  pickP t27 (Value.bool true) t30 fun t31 =>
  condP t31
  (pickP t31 (Value.bool true) undef fun t35 =>
  m16_26 R t4 n6 t35 w)
  (valP Try.prog (binS BinOp.gtr 3 (Operand.tmp 33) (Operand.const (Value.int IntKind.i64 4096)) n6 (Value.int IntKind.i64 4096)) w fun t34 w =>
  pickP t31 (Value.bool true) t34 fun t35 =>
  m16_26 R t4 n6 t35 w))
def m16_3 (R : VP) (t4 : Value) (w : World) : Prop :=
  callP Try.prog (fnV 40) #[t4] w fun t22 w =>
  valP Try.prog (Instr.extract t22 0) w fun t23 w =>
  valP Try.prog (Instr.extract t22 1) w fun t24 w =>
  valP Try.prog (Instr.extract t22 2) w fun t25 w =>
  m16_4 R t24 t25 t23 w
def m16_28 (R : VP) (t4 e5 t18 : Value) (w : World) : Prop :=
  condP t18
  (m16_29 R (Value.slice none 0 0) e5 w)
  (m16_3 R t4 w)
def m16_2 (R : VP) (t4 e5 : Value) (w : World) : Prop :=
  valP Try.prog (binS BinOp.neq 42 (Operand.tmp 17) (Operand.const (Value.int IntKind.i64 0)) e5 (Value.int IntKind.i64 0)) w fun t18 w =>
  m16_28 R t4 e5 t18 w
def m16_1 (R : VP) (s0 : Value) (w : World) : Prop :=
  callP Try.prog (fnV 39) #[s0] w fun t14 w =>
  valP Try.prog (Instr.extract t14 0) w fun t15 w =>
  valP Try.prog (Instr.extract t14 1) w fun t16 w =>
  m16_2 R t15 t16 w
def m16_0 (R : VP) (s0 : Value) (w : World) : Prop :=
  m16_1 R s0 w
abbrev W16 := cwp Try.prog (fun i => 0)
noncomputable def k16_0 : Code := (bodyOf Try.f16)
noncomputable def k16_1 : Code := (c2 k16_0)
noncomputable def k16_2 : Code := (c2 k16_1)
noncomputable def k16_3 : Code := (c2 k16_2)
noncomputable def k16_4 : Code := (c2 k16_3)
noncomputable def k16_5 : Code := (c2 k16_4)
noncomputable def k16_6 : Code := (c2 k16_5)
noncomputable def k16_7 : Code := (c2 k16_6)
noncomputable def k16_8 : Code := (c2 k16_7)
noncomputable def k16_9 : Code := (c2 k16_8)
noncomputable def k16_10 : Code := (c2 (c1 k16_7))
noncomputable def k16_11 : Code := (c2 (c1 k16_10))
noncomputable def k16_12 : Code := (c2 (c1 k16_6))
noncomputable def k16_13 : Code := (c1 (c1 k16_12))
noncomputable def k16_14 : Code := (c2 k16_13)
noncomputable def k16_15 : Code := (c2 k16_14)
noncomputable def k16_16 : Code := (c2 k16_15)
noncomputable def k16_17 : Code := (c2 (c1 (c1 k16_15)))
noncomputable def k16_18 : Code := (c2 k16_17)
noncomputable def k16_19 : Code := (c2 k16_18)
noncomputable def k16_20 : Code := (c2 k16_19)
noncomputable def k16_21 : Code := (c2 k16_20)
noncomputable def k16_22 : Code := (c2 (c1 k16_19))
noncomputable def k16_23 : Code := (c2 (c1 k16_22))
noncomputable def k16_24 : Code := (c2 (c1 k16_17))
noncomputable def k16_25 : Code := (c2 (c1 k16_24))
noncomputable def k16_26 : Code := (c2 (c1 k16_4))
noncomputable def k16_27 : Code := (c2 (c1 k16_26))
noncomputable def k16_28 : Code := (c2 (c1 k16_2))
noncomputable def k16_29 : Code := (c2 (c1 k16_28))
theorem s16_29 {R : VP} {Q : EQ} (hR : ∀ e w, (R (Value.tuple #[(e 2), (e 3)]) w) → Q .ret e w) (e : Env) (w : World) (h : m16_29 R (e 2) (e 3) w) : W16 k16_29 Q e w := by
  unfold m16_29 at h
  exact reA (hR _ _ h)
theorem s16_27 {R : VP} {Q : EQ} (hR : ∀ e w, (R (Value.tuple #[(e 2), (e 3)]) w) → Q .ret e w) (e : Env) (w : World) (h : m16_27 R (e 2) (e 3) w) : W16 k16_27 Q e w := by
  unfold m16_27 at h
  exact reA (hR _ _ h)
theorem s16_25 {R : VP} {K1 : (Value × Value × Value) → World → Prop} {Q : EQ} (hR : ∀ e w, (R (Value.tuple #[(e 2), (e 3)]) w) → Q .ret e w) (e : Env) (w : World) (h : m16_25 R K1 (e 2) (e 3) w) : W16 k16_25 Q e w := by
  unfold m16_25 at h
  exact reA (hR _ _ h)
theorem s16_23 {R : VP} {K1 : (Value × Value × Value) → World → Prop} {Q : EQ} (hR : ∀ e w, (R (Value.tuple #[(e 2), (e 3)]) w) → Q .ret e w) (e : Env) (w : World) (h : m16_23 R K1 (e 2) (e 3) w) : W16 k16_23 Q e w := by
  unfold m16_23 at h
  exact reA (hR _ _ h)
theorem s16_16 {R : VP} {K1 : (Value × Value × Value) → World → Prop} {Q : EQ} (hN : ∀ e w, (K1 ((e 4), (e 7), (e 37)) w) → Q .normal e w) (e : Env) (w : World) (h : m16_16 R K1 (e 4) (e 7) (e 36) (e 37) w) : W16 k16_16 Q e w := by
  unfold m16_16 at h
  exact rgA 18 (fun e w => K1 ((e 4), (e 7), (e 37)) w) h hN
theorem s16_21 {R : VP} {K1 : (Value × Value × Value) → World → Prop} {Q : EQ} (hN : ∀ e w, (m16_16 R K1 (e 4) (e 7) (e 36) (e 37) w) → Q .normal e w) (e : Env) (w : World) (h : m16_21 R K1 (e 7) (e 9) (e 36) (e 37) w) : W16 k16_21 Q e w := by
  unfold m16_21 at h
  exact rgA 17 (fun e w => m16_16 R K1 (e 4) (e 7) (e 36) (e 37) w) h hN
theorem s16_20 {R : VP} {K1 : (Value × Value × Value) → World → Prop} {Q : EQ} (hN : ∀ e w, (m16_16 R K1 (e 4) (e 7) (e 36) (e 37) w) → Q .normal e w) (e : Env) (w : World) (h : m16_20 R K1 (e 7) (e 8) (e 9) (e 11) (e 36) (e 37) w) : W16 k16_20 Q e w := by
  unfold m16_20 at h
  refine seA ?_
  have hN : ∀ e w, (m16_21 R K1 (e 7) (e 9) (e 36) (e 37) w) → (thenE (W16 k16_21 Q) Q) .normal e w := fun e w h => then_N (s16_21 (R := R) (Q := Q) (K1 := K1) hN e w h)
  exact rgA 16 (fun e w => m16_21 R K1 (e 7) (e 9) (e 36) (e 37) w) h hN
theorem s16_22 {R : VP} {K1 : (Value × Value × Value) → World → Prop} {Q : EQ} (hN : ∀ e w, (m16_20 R K1 (e 7) (e 8) (e 9) (e 11) (e 36) (e 37) w) → Q .normal e w) (hR : ∀ e w, (R (Value.tuple #[(e 2), (e 3)]) w) → Q .ret e w) (e : Env) (w : World) (h : m16_22 R K1 (e 7) (e 8) (e 9) (e 10) (e 11) (e 36) (e 37) (e 55) w) : W16 k16_22 Q e w := by
  unfold m16_22 at h
  refine coA (Operand.tmp 55) h (fun h1 => ?_) (fun h1 => ?_)
  · refine seA ?_
    have hN : ∀ e w, (m16_23 R K1 (e 2) (e 3) w) → (thenE (W16 k16_23 Q) Q) .normal e w := fun e w h => then_N (s16_23 (R := R) (Q := Q) (K1 := K1) hR e w h)
    exact rgA 15 (fun e w => m16_23 R K1 (e 2) (e 3) w) h1 hN
  · exact skA (hN _ _ h1)
theorem s16_19 {R : VP} {K1 : (Value × Value × Value) → World → Prop} {Q : EQ} (hN : ∀ e w, (m16_16 R K1 (e 4) (e 7) (e 36) (e 37) w) → Q .normal e w) (hR : ∀ e w, (R (Value.tuple #[(e 2), (e 3)]) w) → Q .ret e w) (e : Env) (w : World) (h : m16_19 R K1 (e 7) (e 8) (e 9) (e 10) (e 11) (e 36) (e 37) w) : W16 k16_19 Q e w := by
  unfold m16_19 at h
  refine seA ?_
  have hN : ∀ e w, (m16_20 R K1 (e 7) (e 8) (e 9) (e 11) (e 36) (e 37) w) → (thenE (W16 k16_20 Q) Q) .normal e w := fun e w h => then_N (s16_20 (R := R) (Q := Q) (K1 := K1) hN e w h)
  have hR : ∀ e w, (R (Value.tuple #[(e 2), (e 3)]) w) → (thenE (W16 k16_20 Q) Q) .ret e w := fun e w h => then_R (hR e w h)
  refine seA ?_
  have hN : ∀ e w, (m16_22 R K1 (e 7) (e 8) (e 9) (e 10) (e 11) (e 36) (e 37) (e 55) w) → (thenE (W16 k16_22 (thenE (W16 k16_20 Q) Q)) (thenE (W16 k16_20 Q) Q)) .normal e w := fun e w h => then_N (s16_22 (R := R) (Q := (thenE (W16 k16_20 Q) Q)) (K1 := K1) hN hR e w h)
  exact rgA 14 (fun e w => m16_22 R K1 (e 7) (e 8) (e 9) (e 10) (e 11) (e 36) (e 37) (e 55) w) h hN
theorem s16_18 {R : VP} {K1 : (Value × Value × Value) → World → Prop} {Q : EQ} (hN : ∀ e w, (m16_16 R K1 (e 4) (e 7) (e 36) (e 37) w) → Q .normal e w) (hR : ∀ e w, (R (Value.tuple #[(e 2), (e 3)]) w) → Q .ret e w) (e : Env) (w : World) (h : m16_18 R K1 (e 7) (e 8) (e 9) (e 36) (e 37) w) : W16 k16_18 Q e w := by
  unfold m16_18 at h
  refine seA ?_
  have hN : ∀ e w, (m16_19 R K1 (e 7) (e 8) (e 9) (e 10) (e 11) (e 36) (e 37) w) → (thenE (W16 k16_19 Q) Q) .normal e w := fun e w h => then_N (s16_19 (R := R) (Q := Q) (K1 := K1) hN hR e w h)
  exact rgA 13 (fun e w => m16_19 R K1 (e 7) (e 8) (e 9) (e 10) (e 11) (e 36) (e 37) w) h hN
theorem s16_24 {R : VP} {K1 : (Value × Value × Value) → World → Prop} {Q : EQ} (hN : ∀ e w, (m16_18 R K1 (e 7) (e 8) (e 9) (e 36) (e 37) w) → Q .normal e w) (hR : ∀ e w, (R (Value.tuple #[(e 2), (e 3)]) w) → Q .ret e w) (e : Env) (w : World) (h : m16_24 R K1 (e 7) (e 8) (e 9) (e 10) (e 36) (e 37) (e 46) w) : W16 k16_24 Q e w := by
  unfold m16_24 at h
  refine coA (Operand.tmp 46) h (fun h1 => ?_) (fun h1 => ?_)
  · refine seA ?_
    have hN : ∀ e w, (m16_25 R K1 (e 2) (e 3) w) → (thenE (W16 k16_25 Q) Q) .normal e w := fun e w h => then_N (s16_25 (R := R) (Q := Q) (K1 := K1) hR e w h)
    exact rgA 12 (fun e w => m16_25 R K1 (e 2) (e 3) w) h1 hN
  · exact skA (hN _ _ h1)
theorem s16_17 {R : VP} {K1 : (Value × Value × Value) → World → Prop} {Q : EQ} (hN : ∀ e w, (m16_16 R K1 (e 4) (e 7) (e 36) (e 37) w) → Q .normal e w) (hR : ∀ e w, (R (Value.tuple #[(e 2), (e 3)]) w) → Q .ret e w) (e : Env) (w : World) (h : m16_17 R K1 (e 7) (e 8) (e 9) (e 10) (e 36) (e 37) w) : W16 k16_17 Q e w := by
  unfold m16_17 at h
  refine seA ?_
  have hN : ∀ e w, (m16_18 R K1 (e 7) (e 8) (e 9) (e 36) (e 37) w) → (thenE (W16 k16_18 Q) Q) .normal e w := fun e w h => then_N (s16_18 (R := R) (Q := Q) (K1 := K1) hN hR e w h)
  have hR : ∀ e w, (R (Value.tuple #[(e 2), (e 3)]) w) → (thenE (W16 k16_18 Q) Q) .ret e w := fun e w h => then_R (hR e w h)
  refine seA ?_
  have hN : ∀ e w, (m16_24 R K1 (e 7) (e 8) (e 9) (e 10) (e 36) (e 37) (e 46) w) → (thenE (W16 k16_24 (thenE (W16 k16_18 Q) Q)) (thenE (W16 k16_18 Q) Q)) .normal e w := fun e w h => then_N (s16_24 (R := R) (Q := (thenE (W16 k16_18 Q) Q)) (K1 := K1) hN hR e w h)
  exact rgA 11 (fun e w => m16_24 R K1 (e 7) (e 8) (e 9) (e 10) (e 36) (e 37) (e 46) w) h hN
theorem s16_15 {R : VP} {K1 : (Value × Value × Value) → World → Prop} {Q : EQ} (hN : ∀ e w, (K1 ((e 4), (e 7), (e 37)) w) → Q .normal e w) (hR : ∀ e w, (R (Value.tuple #[(e 2), (e 3)]) w) → Q .ret e w) (e : Env) (w : World) (h : m16_15 R K1 (e 4) (e 7) (e 36) (e 37) w) : W16 k16_15 Q e w := by
  unfold m16_15 at h
  refine seA ?_
  have hN : ∀ e w, (m16_16 R K1 (e 4) (e 7) (e 36) (e 37) w) → (thenE (W16 k16_16 Q) Q) .normal e w := fun e w h => then_N (s16_16 (R := R) (Q := Q) (K1 := K1) hN e w h)
  have hR : ∀ e w, (R (Value.tuple #[(e 2), (e 3)]) w) → (thenE (W16 k16_16 Q) Q) .ret e w := fun e w h => then_R (hR e w h)
  refine block_ok 1 (by kernel_rfl) ?_
  have hN : ∀ e w, (m16_16 R K1 (e 4) (e 7) (e 36) (e 37) w) → (inBlockE 1 (thenE (W16 k16_16 Q) Q)) .normal e w := fun e w h => block_N (hN e w h)
  have hR : ∀ e w, (R (Value.tuple #[(e 2), (e 3)]) w) → (inBlockE 1 (thenE (W16 k16_16 Q) Q)) .ret e w := fun e w h => block_R (hR e w h)
  refine seA ?_
  have hN : ∀ e w, (m16_17 R K1 (e 7) (e 8) (e 9) (e 10) (e 36) (e 37) w) → (thenE (W16 k16_17 (inBlockE 1 (thenE (W16 k16_16 Q) Q))) (inBlockE 1 (thenE (W16 k16_16 Q) Q))) .normal e w := fun e w h => then_N (s16_17 (R := R) (Q := (inBlockE 1 (thenE (W16 k16_16 Q) Q))) (K1 := K1) hN hR e w h)
  exact rgA 10 (fun e w => m16_17 R K1 (e 7) (e 8) (e 9) (e 10) (e 36) (e 37) w) h hN
theorem s16_11 {R : VP} {Q : EQ} (hR : ∀ e w, (R (Value.tuple #[(e 2), (e 3)]) w) → Q .ret e w) (e : Env) (w : World) (h : m16_11 R (e 2) (e 3) w) : W16 k16_11 Q e w := by
  unfold m16_11 at h
  exact reA (hR _ _ h)
theorem s16_9 {R : VP} {Q : EQ} (hR : ∀ e w, (R (Value.tuple #[(e 2), (e 3)]) w) → Q .ret e w) (e : Env) (w : World) (h : m16_9 R (e 2) (e 3) w) : W16 k16_9 Q e w := by
  unfold m16_9 at h
  exact reA (hR _ _ h)
theorem s16_8 {R : VP} {Q : EQ} (hR : ∀ e w, (R (Value.tuple #[(e 2), (e 3)]) w) → Q .ret e w) (e : Env) (w : World) (h : m16_8 R (e 7) w) : W16 k16_8 Q e w := by
  unfold m16_8 at h
  refine seA ?_
  have hN : ∀ e w, (m16_9 R (e 2) (e 3) w) → (thenE (W16 k16_9 Q) Q) .normal e w := fun e w h => then_N (s16_9 (R := R) (Q := Q) hR e w h)
  exact rgA 21 (fun e w => m16_9 R (e 2) (e 3) w) h hN
theorem s16_10 {R : VP} {Q : EQ} (hN : ∀ e w, (m16_8 R (e 7) w) → Q .normal e w) (hR : ∀ e w, (R (Value.tuple #[(e 2), (e 3)]) w) → Q .ret e w) (e : Env) (w : World) (h : m16_10 R (e 7) (e 71) w) : W16 k16_10 Q e w := by
  unfold m16_10 at h
  refine coA (Operand.tmp 71) h (fun h1 => ?_) (fun h1 => ?_)
  · refine seA ?_
    have hN : ∀ e w, (m16_11 R (e 2) (e 3) w) → (thenE (W16 k16_11 Q) Q) .normal e w := fun e w h => then_N (s16_11 (R := R) (Q := Q) hR e w h)
    exact rgA 20 (fun e w => m16_11 R (e 2) (e 3) w) h1 hN
  · exact skA (hN _ _ h1)
theorem s16_7 {R : VP} {Q : EQ} (hR : ∀ e w, (R (Value.tuple #[(e 2), (e 3)]) w) → Q .ret e w) (e : Env) (w : World) (h : m16_7 R (e 4) (e 7) w) : W16 k16_7 Q e w := by
  unfold m16_7 at h
  refine seA ?_
  have hN : ∀ e w, (m16_8 R (e 7) w) → (thenE (W16 k16_8 Q) Q) .normal e w := fun e w h => then_N (s16_8 (R := R) (Q := Q) hR e w h)
  have hR : ∀ e w, (R (Value.tuple #[(e 2), (e 3)]) w) → (thenE (W16 k16_8 Q) Q) .ret e w := fun e w h => then_R (hR e w h)
  refine seA ?_
  have hN : ∀ e w, (m16_10 R (e 7) (e 71) w) → (thenE (W16 k16_10 (thenE (W16 k16_8 Q) Q)) (thenE (W16 k16_8 Q) Q)) .normal e w := fun e w h => then_N (s16_10 (R := R) (Q := (thenE (W16 k16_8 Q) Q)) hN hR e w h)
  exact rgA 19 (fun e w => m16_10 R (e 7) (e 71) w) h hN
theorem s16_14 {R : VP} {K1 : (Value × Value × Value) → World → Prop} {Q : EQ} (hN : ∀ e w, (K1 ((e 4), (e 7), (e 37)) w) → Q .normal e w) (hR : ∀ e w, (R (Value.tuple #[(e 2), (e 3)]) w) → Q .ret e w) (hX0 : ∀ e w, (m16_7 R (e 4) (e 7) w) → Q (.exit 0) e w) (e : Env) (w : World) (h : m16_14 R K1 (e 4) (e 7) (e 36) (e 37) (e 38) w) : W16 k16_14 Q e w := by
  unfold m16_14 at h
  refine seA ?_
  have hN : ∀ e w, (m16_15 R K1 (e 4) (e 7) (e 36) (e 37) w) → (thenE (W16 k16_15 Q) Q) .normal e w := fun e w h => then_N (s16_15 (R := R) (Q := Q) (K1 := K1) hN hR e w h)
  have hX0 : ∀ e w, (m16_7 R (e 4) (e 7) w) → (thenE (W16 k16_15 Q) Q) (.exit 0) e w := fun e w h => then_X (hX0 e w h)
  refine coA (Operand.tmp 38) h (fun h1 => ?_) (fun h1 => ?_)
  · exact skA (hN _ _ h1)
  · exact exA 0 (hX0 _ _ h1)
theorem s16_13 {R : VP} {K1 : (Value × Value × Value) → World → Prop} {Q : EQ} (hN : ∀ e w, (K1 ((e 4), (e 7), (e 37)) w) → Q .normal e w) (hR : ∀ e w, (R (Value.tuple #[(e 2), (e 3)]) w) → Q .ret e w) (hX0 : ∀ e w, (m16_7 R (e 4) (e 7) w) → Q (.exit 0) e w) (e : Env) (w : World) (h : m16_13 R K1 (e 4) (e 7) (e 36) (e 37) w) : W16 k16_13 Q e w := by
  unfold m16_13 at h
  refine seA ?_
  have hN : ∀ e w, (m16_14 R K1 (e 4) (e 7) (e 36) (e 37) (e 38) w) → (thenE (W16 k16_14 Q) Q) .normal e w := fun e w h => then_N (s16_14 (R := R) (Q := Q) (K1 := K1) hN hR hX0 e w h)
  exact rgA 9 (fun e w => m16_14 R K1 (e 4) (e 7) (e 36) (e 37) (e 38) w) h hN
theorem s16_12 {R : VP} {Q : EQ} (hN : ∀ e w, (m16_7 R (e 4) (e 7) w) → Q .normal e w) (hR : ∀ e w, (R (Value.tuple #[(e 2), (e 3)]) w) → Q .ret e w) (e : Env) (w : World) (h : m16_12 R (e 4) (e 7) (e 36) (e 37) w) : W16 k16_12 Q e w := by
  unfold m16_12 at h
  refine block_ok 0 (by kernel_rfl) ?_
  have hX0 : ∀ e w, (m16_7 R (e 4) (e 7) w) → (inBlockE 0 Q) (.exit 0) e w := fun e w h => inBlock_same (Q := Q) 0 (hN e w h)
  have hR : ∀ e w, (R (Value.tuple #[(e 2), (e 3)]) w) → (inBlockE 0 Q) .ret e w := fun e w h => block_R (hR e w h)
  refine loop_ok' (fun (e : Env) => (e 4, e 7, e 37)) [36] (by kernel_rfl) (by kernel_rfl) h (fun K e' w' hk h' => ?_)
  have r36 : e' 36 = e 36 := hk 36 (by decide)
  have hR : ∀ e w, (R (Value.tuple #[(e 2), (e 3)]) w) → (thenE (fun (e : Env) w => K ((e 4), (e 7), (e 37)) w) (inBlockE 0 Q)) .ret e w := fun e w h => then_R (hR e w h)
  have hX0 : ∀ e w, (m16_7 R (e 4) (e 7) w) → (thenE (fun (e : Env) w => K ((e 4), (e 7), (e 37)) w) (inBlockE 0 Q)) (.exit 0) e w := fun e w h => then_X (hX0 e w h)
  exact s16_13 (R := R) (Q := (thenE (fun (e : Env) w => K ((e 4), (e 7), (e 37)) w) (inBlockE 0 Q))) (K1 := K) (fun _ _ h => then_N h) hR hX0 e' w' (by rw [r36]; exact h')
theorem s16_6 {R : VP} {Q : EQ} (hR : ∀ e w, (R (Value.tuple #[(e 2), (e 3)]) w) → Q .ret e w) (e : Env) (w : World) (h : m16_6 R (e 4) (e 6) (e 7) w) : W16 k16_6 Q e w := by
  unfold m16_6 at h
  refine seA ?_
  have hN : ∀ e w, (m16_7 R (e 4) (e 7) w) → (thenE (W16 k16_7 Q) Q) .normal e w := fun e w h => then_N (s16_7 (R := R) (Q := Q) hR e w h)
  have hR : ∀ e w, (R (Value.tuple #[(e 2), (e 3)]) w) → (thenE (W16 k16_7 Q) Q) .ret e w := fun e w h => then_R (hR e w h)
  refine seA ?_
  have hN : ∀ e w, (m16_12 R (e 4) (e 7) (e 36) (e 37) w) → (thenE (W16 k16_12 (thenE (W16 k16_7 Q) Q)) (thenE (W16 k16_7 Q) Q)) .normal e w := fun e w h => then_N (s16_12 (R := R) (Q := (thenE (W16 k16_7 Q) Q)) hN hR e w h)
  exact rgA 8 (fun e w => m16_12 R (e 4) (e 7) (e 36) (e 37) w) h hN
theorem s16_5 {R : VP} {Q : EQ} (hR : ∀ e w, (R (Value.tuple #[(e 2), (e 3)]) w) → Q .ret e w) (e : Env) (w : World) (h : m16_5 R (e 4) (e 6) w) : W16 k16_5 Q e w := by
  unfold m16_5 at h
  refine seA ?_
  have hN : ∀ e w, (m16_6 R (e 4) (e 6) (e 7) w) → (thenE (W16 k16_6 Q) Q) .normal e w := fun e w h => then_N (s16_6 (R := R) (Q := Q) hR e w h)
  exact rgA 7 (fun e w => m16_6 R (e 4) (e 6) (e 7) w) h hN
theorem s16_26 {R : VP} {Q : EQ} (hN : ∀ e w, (m16_5 R (e 4) (e 6) w) → Q .normal e w) (hR : ∀ e w, (R (Value.tuple #[(e 2), (e 3)]) w) → Q .ret e w) (e : Env) (w : World) (h : m16_26 R (e 4) (e 6) (e 35) w) : W16 k16_26 Q e w := by
  unfold m16_26 at h
  refine coA (Operand.tmp 35) h (fun h1 => ?_) (fun h1 => ?_)
  · refine seA ?_
    have hN : ∀ e w, (m16_27 R (e 2) (e 3) w) → (thenE (W16 k16_27 Q) Q) .normal e w := fun e w h => then_N (s16_27 (R := R) (Q := Q) hR e w h)
    exact rgA 6 (fun e w => m16_27 R (e 2) (e 3) w) h1 hN
  · exact skA (hN _ _ h1)
theorem s16_4 {R : VP} {Q : EQ} (hR : ∀ e w, (R (Value.tuple #[(e 2), (e 3)]) w) → Q .ret e w) (e : Env) (w : World) (h : m16_4 R (e 4) (e 5) (e 6) w) : W16 k16_4 Q e w := by
  unfold m16_4 at h
  refine seA ?_
  have hN : ∀ e w, (m16_5 R (e 4) (e 6) w) → (thenE (W16 k16_5 Q) Q) .normal e w := fun e w h => then_N (s16_5 (R := R) (Q := Q) hR e w h)
  have hR : ∀ e w, (R (Value.tuple #[(e 2), (e 3)]) w) → (thenE (W16 k16_5 Q) Q) .ret e w := fun e w h => then_R (hR e w h)
  refine seA ?_
  have hN : ∀ e w, (m16_26 R (e 4) (e 6) (e 35) w) → (thenE (W16 k16_26 (thenE (W16 k16_5 Q) Q)) (thenE (W16 k16_5 Q) Q)) .normal e w := fun e w h => then_N (s16_26 (R := R) (Q := (thenE (W16 k16_5 Q) Q)) hN hR e w h)
  exact rgA 5 (fun e w => m16_26 R (e 4) (e 6) (e 35) w) h hN
theorem s16_3 {R : VP} {Q : EQ} (hR : ∀ e w, (R (Value.tuple #[(e 2), (e 3)]) w) → Q .ret e w) (e : Env) (w : World) (h : m16_3 R (e 4) w) : W16 k16_3 Q e w := by
  unfold m16_3 at h
  refine seA ?_
  have hN : ∀ e w, (m16_4 R (e 4) (e 5) (e 6) w) → (thenE (W16 k16_4 Q) Q) .normal e w := fun e w h => then_N (s16_4 (R := R) (Q := Q) hR e w h)
  exact rgA 4 (fun e w => m16_4 R (e 4) (e 5) (e 6) w) h hN
theorem s16_28 {R : VP} {Q : EQ} (hN : ∀ e w, (m16_3 R (e 4) w) → Q .normal e w) (hR : ∀ e w, (R (Value.tuple #[(e 2), (e 3)]) w) → Q .ret e w) (e : Env) (w : World) (h : m16_28 R (e 4) (e 5) (e 18) w) : W16 k16_28 Q e w := by
  unfold m16_28 at h
  refine coA (Operand.tmp 18) h (fun h1 => ?_) (fun h1 => ?_)
  · refine seA ?_
    have hN : ∀ e w, (m16_29 R (e 2) (e 3) w) → (thenE (W16 k16_29 Q) Q) .normal e w := fun e w h => then_N (s16_29 (R := R) (Q := Q) hR e w h)
    exact rgA 3 (fun e w => m16_29 R (e 2) (e 3) w) h1 hN
  · exact skA (hN _ _ h1)
theorem s16_2 {R : VP} {Q : EQ} (hR : ∀ e w, (R (Value.tuple #[(e 2), (e 3)]) w) → Q .ret e w) (e : Env) (w : World) (h : m16_2 R (e 4) (e 5) w) : W16 k16_2 Q e w := by
  unfold m16_2 at h
  refine seA ?_
  have hN : ∀ e w, (m16_3 R (e 4) w) → (thenE (W16 k16_3 Q) Q) .normal e w := fun e w h => then_N (s16_3 (R := R) (Q := Q) hR e w h)
  have hR : ∀ e w, (R (Value.tuple #[(e 2), (e 3)]) w) → (thenE (W16 k16_3 Q) Q) .ret e w := fun e w h => then_R (hR e w h)
  refine seA ?_
  have hN : ∀ e w, (m16_28 R (e 4) (e 5) (e 18) w) → (thenE (W16 k16_28 (thenE (W16 k16_3 Q) Q)) (thenE (W16 k16_3 Q) Q)) .normal e w := fun e w h => then_N (s16_28 (R := R) (Q := (thenE (W16 k16_3 Q) Q)) hN hR e w h)
  exact rgA 2 (fun e w => m16_28 R (e 4) (e 5) (e 18) w) h hN
theorem s16_1 {R : VP} {Q : EQ} (hR : ∀ e w, (R (Value.tuple #[(e 2), (e 3)]) w) → Q .ret e w) (e : Env) (w : World) (h : m16_1 R (e 0) w) : W16 k16_1 Q e w := by
  unfold m16_1 at h
  refine seA ?_
  have hN : ∀ e w, (m16_2 R (e 4) (e 5) w) → (thenE (W16 k16_2 Q) Q) .normal e w := fun e w h => then_N (s16_2 (R := R) (Q := Q) hR e w h)
  exact rgA 1 (fun e w => m16_2 R (e 4) (e 5) w) h hN
theorem s16_0 {R : VP} {Q : EQ} (hR : ∀ e w, (R (Value.tuple #[(e 2), (e 3)]) w) → Q .ret e w) (e : Env) (w : World) (h : m16_0 R (e 0) w) : W16 k16_0 Q e w := by
  unfold m16_0 at h
  refine seA ?_
  have hN : ∀ e w, (m16_1 R (e 0) w) → (thenE (W16 k16_1 Q) Q) .normal e w := fun e w h => then_N (s16_1 (R := R) (Q := Q) hR e w h)
  exact rgA 0 (fun e w => m16_1 R (e 0) w) h hN
abbrev m16 (R : VP) (s0 : Value) (w : World) : Prop := m16_0 R s0 w
theorem s16 (s0 : Value) {R : VP} {w : World} (h : m16 R s0 w) :
    Calls Try.prog 16 #[s0] w fun e w' => ∃ v, e = .returned v ∧ R v w' :=
  calls_of_cwp (st := (fun i => 0)) (c := k16_0) (by kernel_rfl) Try.func16 (by kernel_rfl) (Nat.le_of_ble_eq_true (by kernel_rfl)) (by kernel_rfl)
    (s16_0 (R := R) (Q := endE Try.prog Try.f16 R) (fun e w h => kcast (by kernel_rfl) h) (argsE #[s0]) w (kcast (by kernel_rfl) h))
/-! ### headgate/headgateref33.Decode -/
def m17_23 (R : VP) (t2 t3 : Value) (w : World) : Prop :=
  R (Value.tuple #[t2, t3]) w
def m17_20 (R : VP) (K1 : (Value × Value × Value) → World → Prop) (t2 t3 : Value) (w : World) : Prop :=
  R (Value.tuple #[t2, t3]) w
def m17_14 (R : VP) (K1 : (Value × Value × Value) → World → Prop) (n6 rest7 l9 i10 : Value) (w : World) : Prop :=
  valP Try.prog (binS BinOp.add 3 (Operand.tmp 45) (Operand.const (Value.int IntKind.i64 1)) i10 (Value.int IntKind.i64 1)) w fun t46 w =>
  K1 (rest7, l9, t46) w
def m17_18 (R : VP) (K1 : (Value × Value × Value) → World → Prop) (n6 l9 i10 b15 : Value) (w : World) : Prop :=
  m17_14 R K1 n6 b15 l9 i10 w
def m17_17 (R : VP) (K1 : (Value × Value × Value) → World → Prop) (n6 l9 i10 off11 r14 b15 : Value) (w : World) : Prop :=
  valP Try.prog (Instr.loadAt 38 r14) w fun t67 w =>
  valP Try.prog (Instr.build 40 #[(0, off11), (1, t67)]) w fun t68 w =>
  valP Try.prog (Instr.buildSlice 22 1 #[(0, t68)]) w fun t69 w =>
  builtinP Try.prog Builtin.append #[22, 22] 22 #[false, false] #[l9, t69] w fun t70 w =>
  m17_18 R K1 n6 t70 i10 b15 w
def m17_19 (R : VP) (K1 : (Value × Value × Value) → World → Prop) (n6 l9 i10 off11 r14 b15 t64 : Value) (w : World) : Prop :=
  condP t64
  (m17_20 R K1 (Value.slice none 0 0) (Value.int IntKind.i64 2) w)
  (m17_17 R K1 n6 l9 i10 off11 r14 b15 w)
def m17_16 (R : VP) (K1 : (Value × Value × Value) → World → Prop) (n6 l9 i10 off11 e113 r14 b15 e216 : Value) (w : World) : Prop :=
  valP Try.prog (binS BinOp.neq 3 (Operand.tmp 59) (Operand.const (Value.int IntKind.i64 0)) e113 (Value.int IntKind.i64 0)) w fun t60 w =>
  condP t60
  (pickP t60 (Value.bool true) undef fun t64 =>
  m17_19 R K1 n6 l9 i10 off11 r14 b15 t64 w)
  (valP Try.prog (binS BinOp.neq 3 (Operand.tmp 62) (Operand.const (Value.int IntKind.i64 0)) e216 (Value.int IntKind.i64 0)) w fun t63 w =>
  pickP t60 (Value.bool true) t63 fun t64 =>
  m17_19 R K1 n6 l9 i10 off11 r14 b15 t64 w)
def m17_15 (R : VP) (K1 : (Value × Value × Value) → World → Prop) (n6 l9 i10 off11 a12 e113 : Value) (w : World) : Prop :=
  callP Try.prog (fnV 44) #[a12] w fun t55 w =>
  valP Try.prog (Instr.extract t55 0) w fun t56 w =>
  valP Try.prog (Instr.extract t55 1) w fun t57 w =>
  valP Try.prog (Instr.extract t55 2) w fun t58 w =>
  valP Try.prog (Instr.alloc 38 true (.tuple #[])) w fun r14 w =>
  unitP Try.prog (Instr.storeAt 38 r14 t56) w fun _ w =>
  m17_16 R K1 n6 l9 i10 off11 e113 r14 t57 t58 w
def m17_13 (R : VP) (K1 : (Value × Value × Value) → World → Prop) (n6 rest7 l9 i10 : Value) (w : World) : Prop :=
  callP Try.prog (fnV 43) #[rest7] w fun t49 w =>
  valP Try.prog (Instr.extract t49 0) w fun t50 w =>
  valP Try.prog (Instr.extract t49 1) w fun t51 w =>
  valP Try.prog (Instr.extract t49 2) w fun t52 w =>
  m17_15 R K1 n6 l9 i10 t50 t51 t52 w
def m17_10 (R : VP) (t2 t3 : Value) (w : World) : Prop :=
  R (Value.tuple #[t2, t3]) w
def m17_8 (R : VP) (t2 t3 : Value) (w : World) : Prop :=
  R (Value.tuple #[t2, t3]) w
def m17_7 (R : VP) (l9 : Value) (w : World) : Prop :=
  m17_8 R l9 (Value.int IntKind.i64 0) w
def m17_9 (R : VP) (l9 t79 : Value) (w : World) : Prop :=
  condP t79
  (m17_10 R (Value.slice none 0 0) (Value.int IntKind.i64 2) w)
  (m17_7 R l9 w)
def m17_6 (R : VP) (rest7 l9 : Value) (w : World) : Prop :=
  builtinP Try.prog Builtin.len #[9] 3 #[false] #[rest7] w fun t73 w =>
  valP Try.prog (binS BinOp.gtr 3 (Operand.tmp 73) (Operand.const (Value.int IntKind.i64 0)) t73 (Value.int IntKind.i64 0)) w fun t74 w =>
  condP t74
  (pickP t74 (Value.bool true) undef fun t79 =>
  m17_9 R l9 t79 w)
  (callP Try.prog (fnV 36) #[l9] w fun t77 w =>
  valP Try.prog (Op.unary UnOp.not t77) w fun t78 w =>
  pickP t74 (Value.bool true) t78 fun t79 =>
  m17_9 R l9 t79 w)
def m17_21 (R : VP) (K1 : (Value × Value × Value) → World → Prop) (n6 rest7 l9 i10 t44 : Value) (w : World) : Prop :=
  condP t44
  (m17_13 R K1 n6 rest7 l9 i10 w)
  (m17_6 R rest7 l9 w)
def m17_12 (R : VP) (K1 : (Value × Value × Value) → World → Prop) (n6 rest7 l9 i10 : Value) (w : World) : Prop :=
  valP Try.prog (binS BinOp.lss 3 (Operand.tmp 42) (Operand.tmp 43) i10 n6) w fun t44 w =>
  m17_21 R K1 n6 rest7 l9 i10 t44 w
def m17_11 (R : VP) (n6 rest7 l9 i10 : Value) (w : World) : Prop :=
  loopP (fun (K1 : (Value × Value × Value) → World → Prop) (s : Value × Value × Value) w => m17_12 R K1 n6 s.1 s.2.1 s.2.2 w) (rest7, l9, i10) w
def m17_5 (R : VP) (n6 rest7 l9 : Value) (w : World) : Prop :=
  m17_11 R n6 rest7 l9 (Value.int IntKind.i64 0) w
def m17_4 (R : VP) (n6 rest7 : Value) (w : World) : Prop :=
  m17_5 R n6 rest7 (Value.slice none 0 0) w
def m17_22 (R : VP) (n6 rest7 t41 : Value) (w : World) : Prop :=
  condP t41
  (m17_23 R (Value.slice none 0 0) (Value.int IntKind.i64 2) w)
  (m17_4 R n6 rest7 w)
def m17_3 (R : VP) (e5 n6 rest7 f8 : Value) (w : World) : Prop :=
  valP Try.prog (binS BinOp.neq 3 (Operand.tmp 28) (Operand.const (Value.int IntKind.i64 0)) e5 (Value.int IntKind.i64 0)) w fun t29 w =>
  condP t29
  (pickP t29 (Value.bool true) undef fun t33 =>
  condP t33
  (pickP t33 (Value.bool true) undef fun t37 =>
  condP t37
  (pickP t37 (Value.bool true) undef fun t41 =>
  m17_22 R n6 rest7 t41 w)
  (valP Try.prog (binS BinOp.gtr 3 (Operand.tmp 39) (Operand.const (Value.int IntKind.i64 4096)) n6 (Value.int IntKind.i64 4096)) w fun t40 w =>
  pickP t37 (Value.bool true) t40 fun t41 =>
  m17_22 R n6 rest7 t41 w))
  (valP Try.prog (binS BinOp.lss 3 (Operand.tmp 35) (Operand.const (Value.int IntKind.i64 0)) n6 (Value.int IntKind.i64 0)) w fun t36 w =>
  pickP t33 (Value.bool true) t36 fun t37 =>
  condP t37
  (pickP t37 (Value.bool true) undef fun t41 =>
  m17_22 R n6 rest7 t41 w)
  (valP Try.prog (binS BinOp.gtr 3 (Operand.tmp 39) (Operand.const (Value.int IntKind.i64 4096)) n6 (Value.int IntKind.i64 4096)) w fun t40 w =>
  pickP t37 (Value.bool true) t40 fun t41 =>
  m17_22 R n6 rest7 t41 w)))
  (valP Try.prog (binS BinOp.neq 3 (Operand.tmp 31) (Operand.const (Value.int IntKind.i64 0)) f8 (Value.int IntKind.i64 0)) w fun t32 w =>
  pickP t29 (Value.bool true) t32 fun t33 =>
  condP t33
  (pickP t33 (Value.bool true) undef fun t37 =>
  condP t37
  (pickP t37 (Value.bool true) undef fun t41 =>
  m17_22 R n6 rest7 t41 w)
  (valP Try.prog (binS BinOp.gtr 3 (Operand.tmp 39) (Operand.const (Value.int IntKind.i64 4096)) n6 (Value.int IntKind.i64 4096)) w fun t40 w =>
  pickP t37 (Value.bool true) t40 fun t41 =>
  m17_22 R n6 rest7 t41 w))
  (valP Try.prog (binS BinOp.lss 3 (Operand.tmp 35) (Operand.const (Value.int IntKind.i64 0)) n6 (Value.int IntKind.i64 0)) w fun t36 w =>
  pickP t33 (Value.bool true) t36 fun t37 =>
  condP t37
  (pickP t37 (Value.bool true) undef fun t41 =>
  m17_22 R n6 rest7 t41 w)
  (valP Try.prog (binS BinOp.gtr 3 (Operand.tmp 39) (Operand.const (Value.int IntKind.i64 4096)) n6 (Value.int IntKind.i64 4096)) w fun t40 w =>
  pickP t37 (Value.bool true) t40 fun t41 =>
  m17_22 R n6 rest7 t41 w)))
def m17_2 (R : VP) (t4 e5 : Value) (w : World) : Prop :=
  callP Try.prog (fnV 43) #[t4] w fun t24 w =>
  valP Try.prog (Instr.extract t24 0) w fun t25 w =>
  valP Try.prog (Instr.extract t24 1) w fun t26 w =>
  valP Try.prog (Instr.extract t24 2) w fun t27 w =>
  m17_3 R e5 t25 t26 t27 w
def m17_1 (R : VP) (s0 : Value) (w : World) : Prop :=
  callP Try.prog (fnV 42) #[s0] w fun t19 w =>
  valP Try.prog (Instr.extract t19 0) w fun t20 w =>
  valP Try.prog (Instr.extract t19 1) w fun t21 w =>
  m17_2 R t20 t21 w
def m17_0 (R : VP) (s0 : Value) (w : World) : Prop :=
  m17_1 R s0 w
abbrev W17 := cwp Try.prog (fun i => 0)
noncomputable def k17_0 : Code := (bodyOf Try.f17)
noncomputable def k17_1 : Code := (c2 k17_0)
noncomputable def k17_2 : Code := (c2 k17_1)
noncomputable def k17_3 : Code := (c2 k17_2)
noncomputable def k17_4 : Code := (c2 k17_3)
noncomputable def k17_5 : Code := (c2 k17_4)
noncomputable def k17_6 : Code := (c2 k17_5)
noncomputable def k17_7 : Code := (c2 k17_6)
noncomputable def k17_8 : Code := (c2 k17_7)
noncomputable def k17_9 : Code := (c2 (c1 k17_6))
noncomputable def k17_10 : Code := (c2 (c1 k17_9))
noncomputable def k17_11 : Code := (c2 (c1 k17_5))
noncomputable def k17_12 : Code := (c1 (c1 k17_11))
noncomputable def k17_13 : Code := (c2 k17_12)
noncomputable def k17_14 : Code := (c2 k17_13)
noncomputable def k17_15 : Code := (c2 (c1 (c1 k17_13)))
noncomputable def k17_16 : Code := (c2 k17_15)
noncomputable def k17_17 : Code := (c2 k17_16)
noncomputable def k17_18 : Code := (c2 k17_17)
noncomputable def k17_19 : Code := (c2 (c1 k17_16))
noncomputable def k17_20 : Code := (c2 (c1 k17_19))
noncomputable def k17_21 : Code := (c2 (c1 k17_12))
noncomputable def k17_22 : Code := (c2 (c1 k17_3))
noncomputable def k17_23 : Code := (c2 (c1 k17_22))
theorem s17_23 {R : VP} {Q : EQ} (hR : ∀ e w, (R (Value.tuple #[(e 2), (e 3)]) w) → Q .ret e w) (e : Env) (w : World) (h : m17_23 R (e 2) (e 3) w) : W17 k17_23 Q e w := by
  unfold m17_23 at h
  exact reA (hR _ _ h)
theorem s17_20 {R : VP} {K1 : (Value × Value × Value) → World → Prop} {Q : EQ} (hR : ∀ e w, (R (Value.tuple #[(e 2), (e 3)]) w) → Q .ret e w) (e : Env) (w : World) (h : m17_20 R K1 (e 2) (e 3) w) : W17 k17_20 Q e w := by
  unfold m17_20 at h
  exact reA (hR _ _ h)
theorem s17_14 {R : VP} {K1 : (Value × Value × Value) → World → Prop} {Q : EQ} (hN : ∀ e w, (K1 ((e 7), (e 9), (e 10)) w) → Q .normal e w) (e : Env) (w : World) (h : m17_14 R K1 (e 6) (e 7) (e 9) (e 10) w) : W17 k17_14 Q e w := by
  unfold m17_14 at h
  exact rgA 8 (fun e w => K1 ((e 7), (e 9), (e 10)) w) h hN
theorem s17_18 {R : VP} {K1 : (Value × Value × Value) → World → Prop} {Q : EQ} (hN : ∀ e w, (m17_14 R K1 (e 6) (e 7) (e 9) (e 10) w) → Q .normal e w) (e : Env) (w : World) (h : m17_18 R K1 (e 6) (e 9) (e 10) (e 15) w) : W17 k17_18 Q e w := by
  unfold m17_18 at h
  exact rgA 14 (fun e w => m17_14 R K1 (e 6) (e 7) (e 9) (e 10) w) h hN
theorem s17_17 {R : VP} {K1 : (Value × Value × Value) → World → Prop} {Q : EQ} (hN : ∀ e w, (m17_14 R K1 (e 6) (e 7) (e 9) (e 10) w) → Q .normal e w) (e : Env) (w : World) (h : m17_17 R K1 (e 6) (e 9) (e 10) (e 11) (e 14) (e 15) w) : W17 k17_17 Q e w := by
  unfold m17_17 at h
  refine seA ?_
  have hN : ∀ e w, (m17_18 R K1 (e 6) (e 9) (e 10) (e 15) w) → (thenE (W17 k17_18 Q) Q) .normal e w := fun e w h => then_N (s17_18 (R := R) (Q := Q) (K1 := K1) hN e w h)
  exact rgA 13 (fun e w => m17_18 R K1 (e 6) (e 9) (e 10) (e 15) w) h hN
theorem s17_19 {R : VP} {K1 : (Value × Value × Value) → World → Prop} {Q : EQ} (hN : ∀ e w, (m17_17 R K1 (e 6) (e 9) (e 10) (e 11) (e 14) (e 15) w) → Q .normal e w) (hR : ∀ e w, (R (Value.tuple #[(e 2), (e 3)]) w) → Q .ret e w) (e : Env) (w : World) (h : m17_19 R K1 (e 6) (e 9) (e 10) (e 11) (e 14) (e 15) (e 64) w) : W17 k17_19 Q e w := by
  unfold m17_19 at h
  refine coA (Operand.tmp 64) h (fun h1 => ?_) (fun h1 => ?_)
  · refine seA ?_
    have hN : ∀ e w, (m17_20 R K1 (e 2) (e 3) w) → (thenE (W17 k17_20 Q) Q) .normal e w := fun e w h => then_N (s17_20 (R := R) (Q := Q) (K1 := K1) hR e w h)
    exact rgA 12 (fun e w => m17_20 R K1 (e 2) (e 3) w) h1 hN
  · exact skA (hN _ _ h1)
theorem s17_16 {R : VP} {K1 : (Value × Value × Value) → World → Prop} {Q : EQ} (hN : ∀ e w, (m17_14 R K1 (e 6) (e 7) (e 9) (e 10) w) → Q .normal e w) (hR : ∀ e w, (R (Value.tuple #[(e 2), (e 3)]) w) → Q .ret e w) (e : Env) (w : World) (h : m17_16 R K1 (e 6) (e 9) (e 10) (e 11) (e 13) (e 14) (e 15) (e 16) w) : W17 k17_16 Q e w := by
  unfold m17_16 at h
  refine seA ?_
  have hN : ∀ e w, (m17_17 R K1 (e 6) (e 9) (e 10) (e 11) (e 14) (e 15) w) → (thenE (W17 k17_17 Q) Q) .normal e w := fun e w h => then_N (s17_17 (R := R) (Q := Q) (K1 := K1) hN e w h)
  have hR : ∀ e w, (R (Value.tuple #[(e 2), (e 3)]) w) → (thenE (W17 k17_17 Q) Q) .ret e w := fun e w h => then_R (hR e w h)
  refine seA ?_
  have hN : ∀ e w, (m17_19 R K1 (e 6) (e 9) (e 10) (e 11) (e 14) (e 15) (e 64) w) → (thenE (W17 k17_19 (thenE (W17 k17_17 Q) Q)) (thenE (W17 k17_17 Q) Q)) .normal e w := fun e w h => then_N (s17_19 (R := R) (Q := (thenE (W17 k17_17 Q) Q)) (K1 := K1) hN hR e w h)
  exact rgA 11 (fun e w => m17_19 R K1 (e 6) (e 9) (e 10) (e 11) (e 14) (e 15) (e 64) w) h hN
theorem s17_15 {R : VP} {K1 : (Value × Value × Value) → World → Prop} {Q : EQ} (hN : ∀ e w, (m17_14 R K1 (e 6) (e 7) (e 9) (e 10) w) → Q .normal e w) (hR : ∀ e w, (R (Value.tuple #[(e 2), (e 3)]) w) → Q .ret e w) (e : Env) (w : World) (h : m17_15 R K1 (e 6) (e 9) (e 10) (e 11) (e 12) (e 13) w) : W17 k17_15 Q e w := by
  unfold m17_15 at h
  refine seA ?_
  have hN : ∀ e w, (m17_16 R K1 (e 6) (e 9) (e 10) (e 11) (e 13) (e 14) (e 15) (e 16) w) → (thenE (W17 k17_16 Q) Q) .normal e w := fun e w h => then_N (s17_16 (R := R) (Q := Q) (K1 := K1) hN hR e w h)
  exact rgA 10 (fun e w => m17_16 R K1 (e 6) (e 9) (e 10) (e 11) (e 13) (e 14) (e 15) (e 16) w) h hN
theorem s17_13 {R : VP} {K1 : (Value × Value × Value) → World → Prop} {Q : EQ} (hN : ∀ e w, (K1 ((e 7), (e 9), (e 10)) w) → Q .normal e w) (hR : ∀ e w, (R (Value.tuple #[(e 2), (e 3)]) w) → Q .ret e w) (e : Env) (w : World) (h : m17_13 R K1 (e 6) (e 7) (e 9) (e 10) w) : W17 k17_13 Q e w := by
  unfold m17_13 at h
  refine seA ?_
  have hN : ∀ e w, (m17_14 R K1 (e 6) (e 7) (e 9) (e 10) w) → (thenE (W17 k17_14 Q) Q) .normal e w := fun e w h => then_N (s17_14 (R := R) (Q := Q) (K1 := K1) hN e w h)
  have hR : ∀ e w, (R (Value.tuple #[(e 2), (e 3)]) w) → (thenE (W17 k17_14 Q) Q) .ret e w := fun e w h => then_R (hR e w h)
  refine block_ok 1 (by kernel_rfl) ?_
  have hN : ∀ e w, (m17_14 R K1 (e 6) (e 7) (e 9) (e 10) w) → (inBlockE 1 (thenE (W17 k17_14 Q) Q)) .normal e w := fun e w h => block_N (hN e w h)
  have hR : ∀ e w, (R (Value.tuple #[(e 2), (e 3)]) w) → (inBlockE 1 (thenE (W17 k17_14 Q) Q)) .ret e w := fun e w h => block_R (hR e w h)
  refine seA ?_
  have hN : ∀ e w, (m17_15 R K1 (e 6) (e 9) (e 10) (e 11) (e 12) (e 13) w) → (thenE (W17 k17_15 (inBlockE 1 (thenE (W17 k17_14 Q) Q))) (inBlockE 1 (thenE (W17 k17_14 Q) Q))) .normal e w := fun e w h => then_N (s17_15 (R := R) (Q := (inBlockE 1 (thenE (W17 k17_14 Q) Q))) (K1 := K1) hN hR e w h)
  exact rgA 9 (fun e w => m17_15 R K1 (e 6) (e 9) (e 10) (e 11) (e 12) (e 13) w) h hN
theorem s17_10 {R : VP} {Q : EQ} (hR : ∀ e w, (R (Value.tuple #[(e 2), (e 3)]) w) → Q .ret e w) (e : Env) (w : World) (h : m17_10 R (e 2) (e 3) w) : W17 k17_10 Q e w := by
  unfold m17_10 at h
  exact reA (hR _ _ h)
theorem s17_8 {R : VP} {Q : EQ} (hR : ∀ e w, (R (Value.tuple #[(e 2), (e 3)]) w) → Q .ret e w) (e : Env) (w : World) (h : m17_8 R (e 2) (e 3) w) : W17 k17_8 Q e w := by
  unfold m17_8 at h
  exact reA (hR _ _ h)
theorem s17_7 {R : VP} {Q : EQ} (hR : ∀ e w, (R (Value.tuple #[(e 2), (e 3)]) w) → Q .ret e w) (e : Env) (w : World) (h : m17_7 R (e 9) w) : W17 k17_7 Q e w := by
  unfold m17_7 at h
  refine seA ?_
  have hN : ∀ e w, (m17_8 R (e 2) (e 3) w) → (thenE (W17 k17_8 Q) Q) .normal e w := fun e w h => then_N (s17_8 (R := R) (Q := Q) hR e w h)
  exact rgA 17 (fun e w => m17_8 R (e 2) (e 3) w) h hN
theorem s17_9 {R : VP} {Q : EQ} (hN : ∀ e w, (m17_7 R (e 9) w) → Q .normal e w) (hR : ∀ e w, (R (Value.tuple #[(e 2), (e 3)]) w) → Q .ret e w) (e : Env) (w : World) (h : m17_9 R (e 9) (e 79) w) : W17 k17_9 Q e w := by
  unfold m17_9 at h
  refine coA (Operand.tmp 79) h (fun h1 => ?_) (fun h1 => ?_)
  · refine seA ?_
    have hN : ∀ e w, (m17_10 R (e 2) (e 3) w) → (thenE (W17 k17_10 Q) Q) .normal e w := fun e w h => then_N (s17_10 (R := R) (Q := Q) hR e w h)
    exact rgA 16 (fun e w => m17_10 R (e 2) (e 3) w) h1 hN
  · exact skA (hN _ _ h1)
theorem s17_6 {R : VP} {Q : EQ} (hR : ∀ e w, (R (Value.tuple #[(e 2), (e 3)]) w) → Q .ret e w) (e : Env) (w : World) (h : m17_6 R (e 7) (e 9) w) : W17 k17_6 Q e w := by
  unfold m17_6 at h
  refine seA ?_
  have hN : ∀ e w, (m17_7 R (e 9) w) → (thenE (W17 k17_7 Q) Q) .normal e w := fun e w h => then_N (s17_7 (R := R) (Q := Q) hR e w h)
  have hR : ∀ e w, (R (Value.tuple #[(e 2), (e 3)]) w) → (thenE (W17 k17_7 Q) Q) .ret e w := fun e w h => then_R (hR e w h)
  refine seA ?_
  have hN : ∀ e w, (m17_9 R (e 9) (e 79) w) → (thenE (W17 k17_9 (thenE (W17 k17_7 Q) Q)) (thenE (W17 k17_7 Q) Q)) .normal e w := fun e w h => then_N (s17_9 (R := R) (Q := (thenE (W17 k17_7 Q) Q)) hN hR e w h)
  exact rgA 15 (fun e w => m17_9 R (e 9) (e 79) w) h hN
theorem s17_21 {R : VP} {K1 : (Value × Value × Value) → World → Prop} {Q : EQ} (hN : ∀ e w, (m17_13 R K1 (e 6) (e 7) (e 9) (e 10) w) → Q .normal e w) (hX0 : ∀ e w, (m17_6 R (e 7) (e 9) w) → Q (.exit 0) e w) (e : Env) (w : World) (h : m17_21 R K1 (e 6) (e 7) (e 9) (e 10) (e 44) w) : W17 k17_21 Q e w := by
  unfold m17_21 at h
  refine coA (Operand.tmp 44) h (fun h1 => ?_) (fun h1 => ?_)
  · exact skA (hN _ _ h1)
  · exact exA 0 (hX0 _ _ h1)
theorem s17_12 {R : VP} {K1 : (Value × Value × Value) → World → Prop} {Q : EQ} (hN : ∀ e w, (K1 ((e 7), (e 9), (e 10)) w) → Q .normal e w) (hR : ∀ e w, (R (Value.tuple #[(e 2), (e 3)]) w) → Q .ret e w) (hX0 : ∀ e w, (m17_6 R (e 7) (e 9) w) → Q (.exit 0) e w) (e : Env) (w : World) (h : m17_12 R K1 (e 6) (e 7) (e 9) (e 10) w) : W17 k17_12 Q e w := by
  unfold m17_12 at h
  refine seA ?_
  have hN : ∀ e w, (m17_13 R K1 (e 6) (e 7) (e 9) (e 10) w) → (thenE (W17 k17_13 Q) Q) .normal e w := fun e w h => then_N (s17_13 (R := R) (Q := Q) (K1 := K1) hN hR e w h)
  have hX0 : ∀ e w, (m17_6 R (e 7) (e 9) w) → (thenE (W17 k17_13 Q) Q) (.exit 0) e w := fun e w h => then_X (hX0 e w h)
  refine seA ?_
  have hN : ∀ e w, (m17_21 R K1 (e 6) (e 7) (e 9) (e 10) (e 44) w) → (thenE (W17 k17_21 (thenE (W17 k17_13 Q) Q)) (thenE (W17 k17_13 Q) Q)) .normal e w := fun e w h => then_N (s17_21 (R := R) (Q := (thenE (W17 k17_13 Q) Q)) (K1 := K1) hN hX0 e w h)
  exact rgA 7 (fun e w => m17_21 R K1 (e 6) (e 7) (e 9) (e 10) (e 44) w) h hN
theorem s17_11 {R : VP} {Q : EQ} (hN : ∀ e w, (m17_6 R (e 7) (e 9) w) → Q .normal e w) (hR : ∀ e w, (R (Value.tuple #[(e 2), (e 3)]) w) → Q .ret e w) (e : Env) (w : World) (h : m17_11 R (e 6) (e 7) (e 9) (e 10) w) : W17 k17_11 Q e w := by
  unfold m17_11 at h
  refine block_ok 0 (by kernel_rfl) ?_
  have hX0 : ∀ e w, (m17_6 R (e 7) (e 9) w) → (inBlockE 0 Q) (.exit 0) e w := fun e w h => inBlock_same (Q := Q) 0 (hN e w h)
  have hR : ∀ e w, (R (Value.tuple #[(e 2), (e 3)]) w) → (inBlockE 0 Q) .ret e w := fun e w h => block_R (hR e w h)
  refine loop_ok' (fun (e : Env) => (e 7, e 9, e 10)) [6] (by kernel_rfl) (by kernel_rfl) h (fun K e' w' hk h' => ?_)
  have r6 : e' 6 = e 6 := hk 6 (by decide)
  have hR : ∀ e w, (R (Value.tuple #[(e 2), (e 3)]) w) → (thenE (fun (e : Env) w => K ((e 7), (e 9), (e 10)) w) (inBlockE 0 Q)) .ret e w := fun e w h => then_R (hR e w h)
  have hX0 : ∀ e w, (m17_6 R (e 7) (e 9) w) → (thenE (fun (e : Env) w => K ((e 7), (e 9), (e 10)) w) (inBlockE 0 Q)) (.exit 0) e w := fun e w h => then_X (hX0 e w h)
  exact s17_12 (R := R) (Q := (thenE (fun (e : Env) w => K ((e 7), (e 9), (e 10)) w) (inBlockE 0 Q))) (K1 := K) (fun _ _ h => then_N h) hR hX0 e' w' (by rw [r6]; exact h')
theorem s17_5 {R : VP} {Q : EQ} (hR : ∀ e w, (R (Value.tuple #[(e 2), (e 3)]) w) → Q .ret e w) (e : Env) (w : World) (h : m17_5 R (e 6) (e 7) (e 9) w) : W17 k17_5 Q e w := by
  unfold m17_5 at h
  refine seA ?_
  have hN : ∀ e w, (m17_6 R (e 7) (e 9) w) → (thenE (W17 k17_6 Q) Q) .normal e w := fun e w h => then_N (s17_6 (R := R) (Q := Q) hR e w h)
  have hR : ∀ e w, (R (Value.tuple #[(e 2), (e 3)]) w) → (thenE (W17 k17_6 Q) Q) .ret e w := fun e w h => then_R (hR e w h)
  refine seA ?_
  have hN : ∀ e w, (m17_11 R (e 6) (e 7) (e 9) (e 10) w) → (thenE (W17 k17_11 (thenE (W17 k17_6 Q) Q)) (thenE (W17 k17_6 Q) Q)) .normal e w := fun e w h => then_N (s17_11 (R := R) (Q := (thenE (W17 k17_6 Q) Q)) hN hR e w h)
  exact rgA 6 (fun e w => m17_11 R (e 6) (e 7) (e 9) (e 10) w) h hN
theorem s17_4 {R : VP} {Q : EQ} (hR : ∀ e w, (R (Value.tuple #[(e 2), (e 3)]) w) → Q .ret e w) (e : Env) (w : World) (h : m17_4 R (e 6) (e 7) w) : W17 k17_4 Q e w := by
  unfold m17_4 at h
  refine seA ?_
  have hN : ∀ e w, (m17_5 R (e 6) (e 7) (e 9) w) → (thenE (W17 k17_5 Q) Q) .normal e w := fun e w h => then_N (s17_5 (R := R) (Q := Q) hR e w h)
  exact rgA 5 (fun e w => m17_5 R (e 6) (e 7) (e 9) w) h hN
theorem s17_22 {R : VP} {Q : EQ} (hN : ∀ e w, (m17_4 R (e 6) (e 7) w) → Q .normal e w) (hR : ∀ e w, (R (Value.tuple #[(e 2), (e 3)]) w) → Q .ret e w) (e : Env) (w : World) (h : m17_22 R (e 6) (e 7) (e 41) w) : W17 k17_22 Q e w := by
  unfold m17_22 at h
  refine coA (Operand.tmp 41) h (fun h1 => ?_) (fun h1 => ?_)
  · refine seA ?_
    have hN : ∀ e w, (m17_23 R (e 2) (e 3) w) → (thenE (W17 k17_23 Q) Q) .normal e w := fun e w h => then_N (s17_23 (R := R) (Q := Q) hR e w h)
    exact rgA 4 (fun e w => m17_23 R (e 2) (e 3) w) h1 hN
  · exact skA (hN _ _ h1)
theorem s17_3 {R : VP} {Q : EQ} (hR : ∀ e w, (R (Value.tuple #[(e 2), (e 3)]) w) → Q .ret e w) (e : Env) (w : World) (h : m17_3 R (e 5) (e 6) (e 7) (e 8) w) : W17 k17_3 Q e w := by
  unfold m17_3 at h
  refine seA ?_
  have hN : ∀ e w, (m17_4 R (e 6) (e 7) w) → (thenE (W17 k17_4 Q) Q) .normal e w := fun e w h => then_N (s17_4 (R := R) (Q := Q) hR e w h)
  have hR : ∀ e w, (R (Value.tuple #[(e 2), (e 3)]) w) → (thenE (W17 k17_4 Q) Q) .ret e w := fun e w h => then_R (hR e w h)
  refine seA ?_
  have hN : ∀ e w, (m17_22 R (e 6) (e 7) (e 41) w) → (thenE (W17 k17_22 (thenE (W17 k17_4 Q) Q)) (thenE (W17 k17_4 Q) Q)) .normal e w := fun e w h => then_N (s17_22 (R := R) (Q := (thenE (W17 k17_4 Q) Q)) hN hR e w h)
  exact rgA 3 (fun e w => m17_22 R (e 6) (e 7) (e 41) w) h hN
theorem s17_2 {R : VP} {Q : EQ} (hR : ∀ e w, (R (Value.tuple #[(e 2), (e 3)]) w) → Q .ret e w) (e : Env) (w : World) (h : m17_2 R (e 4) (e 5) w) : W17 k17_2 Q e w := by
  unfold m17_2 at h
  refine seA ?_
  have hN : ∀ e w, (m17_3 R (e 5) (e 6) (e 7) (e 8) w) → (thenE (W17 k17_3 Q) Q) .normal e w := fun e w h => then_N (s17_3 (R := R) (Q := Q) hR e w h)
  exact rgA 2 (fun e w => m17_3 R (e 5) (e 6) (e 7) (e 8) w) h hN
theorem s17_1 {R : VP} {Q : EQ} (hR : ∀ e w, (R (Value.tuple #[(e 2), (e 3)]) w) → Q .ret e w) (e : Env) (w : World) (h : m17_1 R (e 0) w) : W17 k17_1 Q e w := by
  unfold m17_1 at h
  refine seA ?_
  have hN : ∀ e w, (m17_2 R (e 4) (e 5) w) → (thenE (W17 k17_2 Q) Q) .normal e w := fun e w h => then_N (s17_2 (R := R) (Q := Q) hR e w h)
  exact rgA 1 (fun e w => m17_2 R (e 4) (e 5) w) h hN
theorem s17_0 {R : VP} {Q : EQ} (hR : ∀ e w, (R (Value.tuple #[(e 2), (e 3)]) w) → Q .ret e w) (e : Env) (w : World) (h : m17_0 R (e 0) w) : W17 k17_0 Q e w := by
  unfold m17_0 at h
  refine seA ?_
  have hN : ∀ e w, (m17_1 R (e 0) w) → (thenE (W17 k17_1 Q) Q) .normal e w := fun e w h => then_N (s17_1 (R := R) (Q := Q) hR e w h)
  exact rgA 0 (fun e w => m17_1 R (e 0) w) h hN
abbrev m17 (R : VP) (s0 : Value) (w : World) : Prop := m17_0 R s0 w
theorem s17 (s0 : Value) {R : VP} {w : World} (h : m17 R s0 w) :
    Calls Try.prog 17 #[s0] w fun e w' => ∃ v, e = .returned v ∧ R v w' :=
  calls_of_cwp (st := (fun i => 0)) (c := k17_0) (by kernel_rfl) Try.func17 (by kernel_rfl) (Nat.le_of_ble_eq_true (by kernel_rfl)) (by kernel_rfl)
    (s17_0 (R := R) (Q := endE Try.prog Try.f17 R) (fun e w h => kcast (by kernel_rfl) h) (argsE #[s0]) w (kcast (by kernel_rfl) h))
/-! ### headgate/cleaner.Check -/
def m18_15 (R : VP) (K1 : VP) (t2 : Value) (w : World) : Prop :=
  R t2 w
def m18_11 (R : VP) (K1 : VP) (l0 t8 t9 t10 : Value) (w : World) : Prop :=
  valP Try.prog (binS BinOp.add 3 (Operand.tmp 10) (Operand.const (Value.int IntKind.i64 1)) t10 (Value.int IntKind.i64 1)) w fun t34 w =>
  K1 t34 w
def m18_14 (R : VP) (K1 : VP) (l0 t8 t9 t10 t33 : Value) (w : World) : Prop :=
  condP t33
  (m18_15 R K1 (Value.int IntKind.i64 1) w)
  (m18_11 R K1 l0 t8 t9 t10 w)
def m18_13 (R : VP) (K1 : VP) (l0 g4 e7 t8 t9 t10 : Value) (w : World) : Prop :=
  valP Try.prog (binS BinOp.neq 42 (Operand.tmp 22) (Operand.const (Value.int IntKind.i64 0)) e7 (Value.int IntKind.i64 0)) w fun t23 w =>
  condP t23
  (pickP t23 (Value.bool true) undef fun t28 =>
  condP t28
  (pickP t28 (Value.bool true) undef fun t33 =>
  m18_14 R K1 l0 t8 t9 t10 t33 w)
  (valP Try.prog (Instr.fieldAt 40 g4 0) w fun t30 w =>
  valP Try.prog (Instr.loadAt 3 t30) w fun t31 w =>
  valP Try.prog (binS BinOp.gtr 3 (Operand.tmp 31) (Operand.const (Value.int IntKind.i64 1099511627776)) t31 (Value.int IntKind.i64 1099511627776)) w fun t32 w =>
  pickP t28 (Value.bool true) t32 fun t33 =>
  m18_14 R K1 l0 t8 t9 t10 t33 w))
  (valP Try.prog (Instr.fieldAt 40 g4 0) w fun t25 w =>
  valP Try.prog (Instr.loadAt 3 t25) w fun t26 w =>
  valP Try.prog (binS BinOp.lss 3 (Operand.tmp 26) (Operand.const (Value.int IntKind.i64 0)) t26 (Value.int IntKind.i64 0)) w fun t27 w =>
  pickP t23 (Value.bool true) t27 fun t28 =>
  condP t28
  (pickP t28 (Value.bool true) undef fun t33 =>
  m18_14 R K1 l0 t8 t9 t10 t33 w)
  (valP Try.prog (Instr.fieldAt 40 g4 0) w fun t30 w =>
  valP Try.prog (Instr.loadAt 3 t30) w fun t31 w =>
  valP Try.prog (binS BinOp.gtr 3 (Operand.tmp 31) (Operand.const (Value.int IntKind.i64 1099511627776)) t31 (Value.int IntKind.i64 1099511627776)) w fun t32 w =>
  pickP t28 (Value.bool true) t32 fun t33 =>
  m18_14 R K1 l0 t8 t9 t10 t33 w))
def m18_12 (R : VP) (K1 : VP) (l0 g4 t8 t9 t10 : Value) (w : World) : Prop :=
  valP Try.prog (Instr.fieldAt 40 g4 1) w fun t15 w =>
  valP Try.prog (Instr.loadAt 38 t15) w fun t16 w =>
  callP Try.prog (fnV 33) #[t16] w fun t17 w =>
  callP Try.prog (fnV 41) #[t17] w fun t18 w =>
  valP Try.prog (Instr.extract t18 0) w fun t19 w =>
  valP Try.prog (Instr.extract t18 1) w fun t20 w =>
  valP Try.prog (Instr.extract t18 2) w fun t21 w =>
  valP Try.prog (Instr.alloc 38 true (.tuple #[])) w fun t5 w =>
  unitP Try.prog (Instr.storeAt 38 t5 t19) w fun _ w =>
  m18_13 R K1 l0 g4 t21 t8 t9 t10 w
def m18_10 (R : VP) (K1 : VP) (l0 t8 t9 t10 : Value) (w : World) : Prop :=
  valP Try.prog (Instr.indexAt 22 t8 t10) w fun t12 w =>
  valP Try.prog (Instr.loadAt 40 t12) w fun t13 w =>
  valP Try.prog (Instr.alloc 40 true (.tuple #[])) w fun g4 w =>
  unitP Try.prog (Instr.storeAt 40 g4 t13) w fun _ w =>
  m18_12 R K1 l0 g4 t8 t9 t10 w
def m18_6 (R : VP) (t2 : Value) (w : World) : Prop :=
  R t2 w
def m18_4 (R : VP) (t2 : Value) (w : World) : Prop :=
  R t2 w
def m18_3 (R : VP) (w : World) : Prop :=
  m18_4 R (Value.int IntKind.i64 0) w
def m18_5 (R : VP) (t37 : Value) (w : World) : Prop :=
  condP t37
  (m18_6 R (Value.int IntKind.i64 1) w)
  (m18_3 R w)
def m18_2 (R : VP) (l0 : Value) (w : World) : Prop :=
  builtinP Try.prog Builtin.len #[22] 3 #[false] #[l0] w fun t36 w =>
  valP Try.prog (binS BinOp.gtr 3 (Operand.tmp 36) (Operand.const (Value.int IntKind.i64 4096)) t36 (Value.int IntKind.i64 4096)) w fun t37 w =>
  m18_5 R t37 w
def m18_9 (R : VP) (K1 : VP) (l0 t8 t9 t10 t11 : Value) (w : World) : Prop :=
  condP t11
  (m18_10 R K1 l0 t8 t9 t10 w)
  (m18_2 R l0 w)
def m18_8 (R : VP) (K1 : VP) (l0 t8 t9 t10 : Value) (w : World) : Prop :=
  valP Try.prog (binS BinOp.lss 3 (Operand.tmp 10) (Operand.tmp 9) t10 t9) w fun t11 w =>
  m18_9 R K1 l0 t8 t9 t10 t11 w
def m18_7 (R : VP) (l0 t8 t9 t10 : Value) (w : World) : Prop :=
  loopP (fun (K1 : VP) (s : Value) w => m18_8 R K1 l0 t8 t9 s w) t10 w
def m18_1 (R : VP) (l0 : Value) (w : World) : Prop :=
  builtinP Try.prog Builtin.len #[22] 3 #[false] #[l0] w fun t9 w =>
  m18_7 R l0 l0 t9 (Value.int IntKind.i64 0) w
def m18_0 (R : VP) (l0 : Value) (w : World) : Prop :=
  m18_1 R l0 w
abbrev W18 := cwp Try.prog (fun i => 0)
noncomputable def k18_0 : Code := (bodyOf Try.f18)
noncomputable def k18_1 : Code := (c2 k18_0)
noncomputable def k18_2 : Code := (c2 k18_1)
noncomputable def k18_3 : Code := (c2 k18_2)
noncomputable def k18_4 : Code := (c2 k18_3)
noncomputable def k18_5 : Code := (c2 (c1 k18_2))
noncomputable def k18_6 : Code := (c2 (c1 k18_5))
noncomputable def k18_7 : Code := (c2 (c1 k18_1))
noncomputable def k18_8 : Code := (c1 (c1 k18_7))
noncomputable def k18_9 : Code := (c2 k18_8)
noncomputable def k18_10 : Code := (c2 k18_9)
noncomputable def k18_11 : Code := (c2 k18_10)
noncomputable def k18_12 : Code := (c2 (c1 (c1 k18_10)))
noncomputable def k18_13 : Code := (c2 k18_12)
noncomputable def k18_14 : Code := (c2 k18_13)
noncomputable def k18_15 : Code := (c2 (c1 k18_14))
theorem s18_15 {R : VP} {K1 : VP} {Q : EQ} (hR : ∀ e w, (R (e 2) w) → Q .ret e w) (e : Env) (w : World) (h : m18_15 R K1 (e 2) w) : W18 k18_15 Q e w := by
  unfold m18_15 at h
  exact reA (hR _ _ h)
theorem s18_11 {R : VP} {K1 : VP} {Q : EQ} (hN : ∀ e w, (K1 (e 10) w) → Q .normal e w) (e : Env) (w : World) (h : m18_11 R K1 (e 0) (e 8) (e 9) (e 10) w) : W18 k18_11 Q e w := by
  unfold m18_11 at h
  exact rgA 7 (fun e w => K1 (e 10) w) h hN
theorem s18_14 {R : VP} {K1 : VP} {Q : EQ} (hN : ∀ e w, (m18_11 R K1 (e 0) (e 8) (e 9) (e 10) w) → Q .normal e w) (hR : ∀ e w, (R (e 2) w) → Q .ret e w) (e : Env) (w : World) (h : m18_14 R K1 (e 0) (e 8) (e 9) (e 10) (e 33) w) : W18 k18_14 Q e w := by
  unfold m18_14 at h
  refine coA (Operand.tmp 33) h (fun h1 => ?_) (fun h1 => ?_)
  · refine seA ?_
    have hN : ∀ e w, (m18_15 R K1 (e 2) w) → (thenE (W18 k18_15 Q) Q) .normal e w := fun e w h => then_N (s18_15 (R := R) (Q := Q) (K1 := K1) hR e w h)
    exact rgA 6 (fun e w => m18_15 R K1 (e 2) w) h1 hN
  · exact skA (hN _ _ h1)
theorem s18_13 {R : VP} {K1 : VP} {Q : EQ} (hN : ∀ e w, (m18_11 R K1 (e 0) (e 8) (e 9) (e 10) w) → Q .normal e w) (hR : ∀ e w, (R (e 2) w) → Q .ret e w) (e : Env) (w : World) (h : m18_13 R K1 (e 0) (e 4) (e 7) (e 8) (e 9) (e 10) w) : W18 k18_13 Q e w := by
  unfold m18_13 at h
  refine seA ?_
  have hN : ∀ e w, (m18_14 R K1 (e 0) (e 8) (e 9) (e 10) (e 33) w) → (thenE (W18 k18_14 Q) Q) .normal e w := fun e w h => then_N (s18_14 (R := R) (Q := Q) (K1 := K1) hN hR e w h)
  exact rgA 5 (fun e w => m18_14 R K1 (e 0) (e 8) (e 9) (e 10) (e 33) w) h hN
theorem s18_12 {R : VP} {K1 : VP} {Q : EQ} (hN : ∀ e w, (m18_11 R K1 (e 0) (e 8) (e 9) (e 10) w) → Q .normal e w) (hR : ∀ e w, (R (e 2) w) → Q .ret e w) (e : Env) (w : World) (h : m18_12 R K1 (e 0) (e 4) (e 8) (e 9) (e 10) w) : W18 k18_12 Q e w := by
  unfold m18_12 at h
  refine seA ?_
  have hN : ∀ e w, (m18_13 R K1 (e 0) (e 4) (e 7) (e 8) (e 9) (e 10) w) → (thenE (W18 k18_13 Q) Q) .normal e w := fun e w h => then_N (s18_13 (R := R) (Q := Q) (K1 := K1) hN hR e w h)
  exact rgA 4 (fun e w => m18_13 R K1 (e 0) (e 4) (e 7) (e 8) (e 9) (e 10) w) h hN
theorem s18_10 {R : VP} {K1 : VP} {Q : EQ} (hN : ∀ e w, (K1 (e 10) w) → Q .normal e w) (hR : ∀ e w, (R (e 2) w) → Q .ret e w) (e : Env) (w : World) (h : m18_10 R K1 (e 0) (e 8) (e 9) (e 10) w) : W18 k18_10 Q e w := by
  unfold m18_10 at h
  refine seA ?_
  have hN : ∀ e w, (m18_11 R K1 (e 0) (e 8) (e 9) (e 10) w) → (thenE (W18 k18_11 Q) Q) .normal e w := fun e w h => then_N (s18_11 (R := R) (Q := Q) (K1 := K1) hN e w h)
  have hR : ∀ e w, (R (e 2) w) → (thenE (W18 k18_11 Q) Q) .ret e w := fun e w h => then_R (hR e w h)
  refine block_ok 1 (by kernel_rfl) ?_
  have hN : ∀ e w, (m18_11 R K1 (e 0) (e 8) (e 9) (e 10) w) → (inBlockE 1 (thenE (W18 k18_11 Q) Q)) .normal e w := fun e w h => block_N (hN e w h)
  have hR : ∀ e w, (R (e 2) w) → (inBlockE 1 (thenE (W18 k18_11 Q) Q)) .ret e w := fun e w h => block_R (hR e w h)
  refine seA ?_
  have hN : ∀ e w, (m18_12 R K1 (e 0) (e 4) (e 8) (e 9) (e 10) w) → (thenE (W18 k18_12 (inBlockE 1 (thenE (W18 k18_11 Q) Q))) (inBlockE 1 (thenE (W18 k18_11 Q) Q))) .normal e w := fun e w h => then_N (s18_12 (R := R) (Q := (inBlockE 1 (thenE (W18 k18_11 Q) Q))) (K1 := K1) hN hR e w h)
  exact rgA 3 (fun e w => m18_12 R K1 (e 0) (e 4) (e 8) (e 9) (e 10) w) h hN
theorem s18_6 {R : VP} {Q : EQ} (hR : ∀ e w, (R (e 2) w) → Q .ret e w) (e : Env) (w : World) (h : m18_6 R (e 2) w) : W18 k18_6 Q e w := by
  unfold m18_6 at h
  exact reA (hR _ _ h)
theorem s18_4 {R : VP} {Q : EQ} (hR : ∀ e w, (R (e 2) w) → Q .ret e w) (e : Env) (w : World) (h : m18_4 R (e 2) w) : W18 k18_4 Q e w := by
  unfold m18_4 at h
  exact reA (hR _ _ h)
theorem s18_3 {R : VP} {Q : EQ} (hR : ∀ e w, (R (e 2) w) → Q .ret e w) (e : Env) (w : World) (h : m18_3 R w) : W18 k18_3 Q e w := by
  unfold m18_3 at h
  refine seA ?_
  have hN : ∀ e w, (m18_4 R (e 2) w) → (thenE (W18 k18_4 Q) Q) .normal e w := fun e w h => then_N (s18_4 (R := R) (Q := Q) hR e w h)
  exact rgA 10 (fun e w => m18_4 R (e 2) w) h hN
theorem s18_5 {R : VP} {Q : EQ} (hN : ∀ e w, (m18_3 R w) → Q .normal e w) (hR : ∀ e w, (R (e 2) w) → Q .ret e w) (e : Env) (w : World) (h : m18_5 R (e 37) w) : W18 k18_5 Q e w := by
  unfold m18_5 at h
  refine coA (Operand.tmp 37) h (fun h1 => ?_) (fun h1 => ?_)
  · refine seA ?_
    have hN : ∀ e w, (m18_6 R (e 2) w) → (thenE (W18 k18_6 Q) Q) .normal e w := fun e w h => then_N (s18_6 (R := R) (Q := Q) hR e w h)
    exact rgA 9 (fun e w => m18_6 R (e 2) w) h1 hN
  · exact skA (hN _ _ h1)
theorem s18_2 {R : VP} {Q : EQ} (hR : ∀ e w, (R (e 2) w) → Q .ret e w) (e : Env) (w : World) (h : m18_2 R (e 0) w) : W18 k18_2 Q e w := by
  unfold m18_2 at h
  refine seA ?_
  have hN : ∀ e w, (m18_3 R w) → (thenE (W18 k18_3 Q) Q) .normal e w := fun e w h => then_N (s18_3 (R := R) (Q := Q) hR e w h)
  have hR : ∀ e w, (R (e 2) w) → (thenE (W18 k18_3 Q) Q) .ret e w := fun e w h => then_R (hR e w h)
  refine seA ?_
  have hN : ∀ e w, (m18_5 R (e 37) w) → (thenE (W18 k18_5 (thenE (W18 k18_3 Q) Q)) (thenE (W18 k18_3 Q) Q)) .normal e w := fun e w h => then_N (s18_5 (R := R) (Q := (thenE (W18 k18_3 Q) Q)) hN hR e w h)
  exact rgA 8 (fun e w => m18_5 R (e 37) w) h hN
theorem s18_9 {R : VP} {K1 : VP} {Q : EQ} (hN : ∀ e w, (K1 (e 10) w) → Q .normal e w) (hR : ∀ e w, (R (e 2) w) → Q .ret e w) (hX0 : ∀ e w, (m18_2 R (e 0) w) → Q (.exit 0) e w) (e : Env) (w : World) (h : m18_9 R K1 (e 0) (e 8) (e 9) (e 10) (e 11) w) : W18 k18_9 Q e w := by
  unfold m18_9 at h
  refine seA ?_
  have hN : ∀ e w, (m18_10 R K1 (e 0) (e 8) (e 9) (e 10) w) → (thenE (W18 k18_10 Q) Q) .normal e w := fun e w h => then_N (s18_10 (R := R) (Q := Q) (K1 := K1) hN hR e w h)
  have hX0 : ∀ e w, (m18_2 R (e 0) w) → (thenE (W18 k18_10 Q) Q) (.exit 0) e w := fun e w h => then_X (hX0 e w h)
  refine coA (Operand.tmp 11) h (fun h1 => ?_) (fun h1 => ?_)
  · exact skA (hN _ _ h1)
  · exact exA 0 (hX0 _ _ h1)
theorem s18_8 {R : VP} {K1 : VP} {Q : EQ} (hN : ∀ e w, (K1 (e 10) w) → Q .normal e w) (hR : ∀ e w, (R (e 2) w) → Q .ret e w) (hX0 : ∀ e w, (m18_2 R (e 0) w) → Q (.exit 0) e w) (e : Env) (w : World) (h : m18_8 R K1 (e 0) (e 8) (e 9) (e 10) w) : W18 k18_8 Q e w := by
  unfold m18_8 at h
  refine seA ?_
  have hN : ∀ e w, (m18_9 R K1 (e 0) (e 8) (e 9) (e 10) (e 11) w) → (thenE (W18 k18_9 Q) Q) .normal e w := fun e w h => then_N (s18_9 (R := R) (Q := Q) (K1 := K1) hN hR hX0 e w h)
  exact rgA 2 (fun e w => m18_9 R K1 (e 0) (e 8) (e 9) (e 10) (e 11) w) h hN
theorem s18_7 {R : VP} {Q : EQ} (hN : ∀ e w, (m18_2 R (e 0) w) → Q .normal e w) (hR : ∀ e w, (R (e 2) w) → Q .ret e w) (e : Env) (w : World) (h : m18_7 R (e 0) (e 8) (e 9) (e 10) w) : W18 k18_7 Q e w := by
  unfold m18_7 at h
  refine block_ok 0 (by kernel_rfl) ?_
  have hX0 : ∀ e w, (m18_2 R (e 0) w) → (inBlockE 0 Q) (.exit 0) e w := fun e w h => inBlock_same (Q := Q) 0 (hN e w h)
  have hR : ∀ e w, (R (e 2) w) → (inBlockE 0 Q) .ret e w := fun e w h => block_R (hR e w h)
  refine loop_ok' (fun (e : Env) => e 10) [0, 8, 9] (by kernel_rfl) (by kernel_rfl) h (fun K e' w' hk h' => ?_)
  have r0 : e' 0 = e 0 := hk 0 (by decide)
  have r8 : e' 8 = e 8 := hk 8 (by decide)
  have r9 : e' 9 = e 9 := hk 9 (by decide)
  have hR : ∀ e w, (R (e 2) w) → (thenE (fun (e : Env) w => K (e 10) w) (inBlockE 0 Q)) .ret e w := fun e w h => then_R (hR e w h)
  have hX0 : ∀ e w, (m18_2 R (e 0) w) → (thenE (fun (e : Env) w => K (e 10) w) (inBlockE 0 Q)) (.exit 0) e w := fun e w h => then_X (hX0 e w h)
  exact s18_8 (R := R) (Q := (thenE (fun (e : Env) w => K (e 10) w) (inBlockE 0 Q))) (K1 := K) (fun _ _ h => then_N h) hR hX0 e' w' (by rw [r0, r8, r9]; exact h')
theorem s18_1 {R : VP} {Q : EQ} (hR : ∀ e w, (R (e 2) w) → Q .ret e w) (e : Env) (w : World) (h : m18_1 R (e 0) w) : W18 k18_1 Q e w := by
  unfold m18_1 at h
  refine seA ?_
  have hN : ∀ e w, (m18_2 R (e 0) w) → (thenE (W18 k18_2 Q) Q) .normal e w := fun e w h => then_N (s18_2 (R := R) (Q := Q) hR e w h)
  have hR : ∀ e w, (R (e 2) w) → (thenE (W18 k18_2 Q) Q) .ret e w := fun e w h => then_R (hR e w h)
  refine seA ?_
  have hN : ∀ e w, (m18_7 R (e 0) (e 8) (e 9) (e 10) w) → (thenE (W18 k18_7 (thenE (W18 k18_2 Q) Q)) (thenE (W18 k18_2 Q) Q)) .normal e w := fun e w h => then_N (s18_7 (R := R) (Q := (thenE (W18 k18_2 Q) Q)) hN hR e w h)
  exact rgA 1 (fun e w => m18_7 R (e 0) (e 8) (e 9) (e 10) w) h hN
theorem s18_0 {R : VP} {Q : EQ} (hR : ∀ e w, (R (e 2) w) → Q .ret e w) (e : Env) (w : World) (h : m18_0 R (e 0) w) : W18 k18_0 Q e w := by
  unfold m18_0 at h
  refine seA ?_
  have hN : ∀ e w, (m18_1 R (e 0) w) → (thenE (W18 k18_1 Q) Q) .normal e w := fun e w h => then_N (s18_1 (R := R) (Q := Q) hR e w h)
  exact rgA 0 (fun e w => m18_1 R (e 0) w) h hN
abbrev m18 (R : VP) (l0 : Value) (w : World) : Prop := m18_0 R l0 w
theorem s18 (l0 : Value) {R : VP} {w : World} (h : m18 R l0 w) :
    Calls Try.prog 18 #[l0] w fun e w' => ∃ v, e = .returned v ∧ R v w' :=
  calls_of_cwp (st := (fun i => 0)) (c := k18_0) (by kernel_rfl) Try.func18 (by kernel_rfl) (Nat.le_of_ble_eq_true (by kernel_rfl)) (by kernel_rfl)
    (s18_0 (R := R) (Q := endE Try.prog Try.f18 R) (fun e w h => kcast (by kernel_rfl) h) (argsE #[l0]) w (kcast (by kernel_rfl) h))
/-! ### headgate/headgateref33.May -/
def m36_9 (R : VP) (K1 : VP) (t2 : Value) (w : World) : Prop :=
  R t2 w
def m36_7 (R : VP) (K1 : VP) (l0 i3 : Value) (w : World) : Prop :=
  valP Try.prog (binS BinOp.add 3 (Operand.tmp 8) (Operand.const (Value.int IntKind.i64 1)) i3 (Value.int IntKind.i64 1)) w fun t9 w =>
  K1 t9 w
def m36_8 (R : VP) (K1 : VP) (l0 i3 t32 : Value) (w : World) : Prop :=
  condP t32
  (m36_9 R K1 (Value.bool false) w)
  (m36_7 R K1 l0 i3 w)
def m36_6 (R : VP) (K1 : VP) (l0 i3 : Value) (w : World) : Prop :=
  valP Try.prog (Instr.indexAt 22 l0 i3) w fun t12 w =>
  valP Try.prog (Instr.fieldAt 40 t12 0) w fun t13 w =>
  valP Try.prog (Instr.loadAt 3 t13) w fun t14 w =>
  valP Try.prog (binS BinOp.lss 3 (Operand.tmp 14) (Operand.const (Value.int IntKind.i64 0)) t14 (Value.int IntKind.i64 0)) w fun t15 w =>
  condP t15
  (pickP t15 (Value.bool true) undef fun t23 =>
  condP t23
  (pickP t23 (Value.bool true) undef fun t32 =>
  m36_8 R K1 l0 i3 t32 w)
  (valP Try.prog (Instr.indexAt 22 l0 i3) w fun t27 w =>
  valP Try.prog (Instr.fieldAt 40 t27 1) w fun t28 w =>
  valP Try.prog (Instr.loadAt 38 t28) w fun t29 w =>
  callP Try.prog (fnV 61) #[t29] w fun t30 w =>
  valP Try.prog (Op.unary UnOp.not t30) w fun t31 w =>
  pickP t23 (Value.bool true) t31 fun t32 =>
  m36_8 R K1 l0 i3 t32 w))
  (valP Try.prog (Instr.indexAt 22 l0 i3) w fun t19 w =>
  valP Try.prog (Instr.fieldAt 40 t19 0) w fun t20 w =>
  valP Try.prog (Instr.loadAt 3 t20) w fun t21 w =>
  valP Try.prog (binS BinOp.gtr 3 (Operand.tmp 21) (Operand.const (Value.int IntKind.i64 1099511627776)) t21 (Value.int IntKind.i64 1099511627776)) w fun t22 w =>
  pickP t15 (Value.bool true) t22 fun t23 =>
  condP t23
  (pickP t23 (Value.bool true) undef fun t32 =>
  m36_8 R K1 l0 i3 t32 w)
  (valP Try.prog (Instr.indexAt 22 l0 i3) w fun t27 w =>
  valP Try.prog (Instr.fieldAt 40 t27 1) w fun t28 w =>
  valP Try.prog (Instr.loadAt 38 t28) w fun t29 w =>
  callP Try.prog (fnV 61) #[t29] w fun t30 w =>
  valP Try.prog (Op.unary UnOp.not t30) w fun t31 w =>
  pickP t23 (Value.bool true) t31 fun t32 =>
  m36_8 R K1 l0 i3 t32 w))
def m36_3 (R : VP) (t2 : Value) (w : World) : Prop :=
  R t2 w
def m36_2 (R : VP) (l0 : Value) (w : World) : Prop :=
  builtinP Try.prog Builtin.len #[22] 3 #[false] #[l0] w fun t34 w =>
  valP Try.prog (binS BinOp.leq 3 (Operand.tmp 34) (Operand.const (Value.int IntKind.i64 4096)) t34 (Value.int IntKind.i64 4096)) w fun t35 w =>
  m36_3 R t35 w
def m36_10 (R : VP) (K1 : VP) (l0 i3 t7 : Value) (w : World) : Prop :=
  condP t7
  (m36_6 R K1 l0 i3 w)
  (m36_2 R l0 w)
def m36_5 (R : VP) (K1 : VP) (l0 i3 : Value) (w : World) : Prop :=
  builtinP Try.prog Builtin.len #[22] 3 #[false] #[l0] w fun t6 w =>
  valP Try.prog (binS BinOp.lss 3 (Operand.tmp 4) (Operand.tmp 6) i3 t6) w fun t7 w =>
  m36_10 R K1 l0 i3 t7 w
def m36_4 (R : VP) (l0 i3 : Value) (w : World) : Prop :=
  loopP (fun (K1 : VP) (s : Value) w => m36_5 R K1 l0 s w) i3 w
def m36_1 (R : VP) (l0 : Value) (w : World) : Prop :=
  m36_4 R l0 (Value.int IntKind.i64 0) w
def m36_0 (R : VP) (l0 : Value) (w : World) : Prop :=
  m36_1 R l0 w
abbrev W36 := cwp Try.prog (fun i => 0)
noncomputable def k36_0 : Code := (bodyOf Try.f36)
noncomputable def k36_1 : Code := (c2 k36_0)
noncomputable def k36_2 : Code := (c2 k36_1)
noncomputable def k36_3 : Code := (c2 k36_2)
noncomputable def k36_4 : Code := (c2 (c1 k36_1))
noncomputable def k36_5 : Code := (c1 (c1 k36_4))
noncomputable def k36_6 : Code := (c2 k36_5)
noncomputable def k36_7 : Code := (c2 k36_6)
noncomputable def k36_8 : Code := (c2 (c1 (c1 k36_6)))
noncomputable def k36_9 : Code := (c2 (c1 k36_8))
noncomputable def k36_10 : Code := (c2 (c1 k36_5))
theorem s36_9 {R : VP} {K1 : VP} {Q : EQ} (hR : ∀ e w, (R (e 2) w) → Q .ret e w) (e : Env) (w : World) (h : m36_9 R K1 (e 2) w) : W36 k36_9 Q e w := by
  unfold m36_9 at h
  exact reA (hR _ _ h)
theorem s36_7 {R : VP} {K1 : VP} {Q : EQ} (hN : ∀ e w, (K1 (e 3) w) → Q .normal e w) (e : Env) (w : World) (h : m36_7 R K1 (e 0) (e 3) w) : W36 k36_7 Q e w := by
  unfold m36_7 at h
  exact rgA 3 (fun e w => K1 (e 3) w) h hN
theorem s36_8 {R : VP} {K1 : VP} {Q : EQ} (hN : ∀ e w, (m36_7 R K1 (e 0) (e 3) w) → Q .normal e w) (hR : ∀ e w, (R (e 2) w) → Q .ret e w) (e : Env) (w : World) (h : m36_8 R K1 (e 0) (e 3) (e 32) w) : W36 k36_8 Q e w := by
  unfold m36_8 at h
  refine coA (Operand.tmp 32) h (fun h1 => ?_) (fun h1 => ?_)
  · refine seA ?_
    have hN : ∀ e w, (m36_9 R K1 (e 2) w) → (thenE (W36 k36_9 Q) Q) .normal e w := fun e w h => then_N (s36_9 (R := R) (Q := Q) (K1 := K1) hR e w h)
    exact rgA 5 (fun e w => m36_9 R K1 (e 2) w) h1 hN
  · exact skA (hN _ _ h1)
theorem s36_6 {R : VP} {K1 : VP} {Q : EQ} (hN : ∀ e w, (K1 (e 3) w) → Q .normal e w) (hR : ∀ e w, (R (e 2) w) → Q .ret e w) (e : Env) (w : World) (h : m36_6 R K1 (e 0) (e 3) w) : W36 k36_6 Q e w := by
  unfold m36_6 at h
  refine seA ?_
  have hN : ∀ e w, (m36_7 R K1 (e 0) (e 3) w) → (thenE (W36 k36_7 Q) Q) .normal e w := fun e w h => then_N (s36_7 (R := R) (Q := Q) (K1 := K1) hN e w h)
  have hR : ∀ e w, (R (e 2) w) → (thenE (W36 k36_7 Q) Q) .ret e w := fun e w h => then_R (hR e w h)
  refine block_ok 1 (by kernel_rfl) ?_
  have hN : ∀ e w, (m36_7 R K1 (e 0) (e 3) w) → (inBlockE 1 (thenE (W36 k36_7 Q) Q)) .normal e w := fun e w h => block_N (hN e w h)
  have hR : ∀ e w, (R (e 2) w) → (inBlockE 1 (thenE (W36 k36_7 Q) Q)) .ret e w := fun e w h => block_R (hR e w h)
  refine seA ?_
  have hN : ∀ e w, (m36_8 R K1 (e 0) (e 3) (e 32) w) → (thenE (W36 k36_8 (inBlockE 1 (thenE (W36 k36_7 Q) Q))) (inBlockE 1 (thenE (W36 k36_7 Q) Q))) .normal e w := fun e w h => then_N (s36_8 (R := R) (Q := (inBlockE 1 (thenE (W36 k36_7 Q) Q))) (K1 := K1) hN hR e w h)
  exact rgA 4 (fun e w => m36_8 R K1 (e 0) (e 3) (e 32) w) h hN
theorem s36_3 {R : VP} {Q : EQ} (hR : ∀ e w, (R (e 2) w) → Q .ret e w) (e : Env) (w : World) (h : m36_3 R (e 2) w) : W36 k36_3 Q e w := by
  unfold m36_3 at h
  exact reA (hR _ _ h)
theorem s36_2 {R : VP} {Q : EQ} (hR : ∀ e w, (R (e 2) w) → Q .ret e w) (e : Env) (w : World) (h : m36_2 R (e 0) w) : W36 k36_2 Q e w := by
  unfold m36_2 at h
  refine seA ?_
  have hN : ∀ e w, (m36_3 R (e 2) w) → (thenE (W36 k36_3 Q) Q) .normal e w := fun e w h => then_N (s36_3 (R := R) (Q := Q) hR e w h)
  exact rgA 6 (fun e w => m36_3 R (e 2) w) h hN
theorem s36_10 {R : VP} {K1 : VP} {Q : EQ} (hN : ∀ e w, (m36_6 R K1 (e 0) (e 3) w) → Q .normal e w) (hX0 : ∀ e w, (m36_2 R (e 0) w) → Q (.exit 0) e w) (e : Env) (w : World) (h : m36_10 R K1 (e 0) (e 3) (e 7) w) : W36 k36_10 Q e w := by
  unfold m36_10 at h
  refine coA (Operand.tmp 7) h (fun h1 => ?_) (fun h1 => ?_)
  · exact skA (hN _ _ h1)
  · exact exA 0 (hX0 _ _ h1)
theorem s36_5 {R : VP} {K1 : VP} {Q : EQ} (hN : ∀ e w, (K1 (e 3) w) → Q .normal e w) (hR : ∀ e w, (R (e 2) w) → Q .ret e w) (hX0 : ∀ e w, (m36_2 R (e 0) w) → Q (.exit 0) e w) (e : Env) (w : World) (h : m36_5 R K1 (e 0) (e 3) w) : W36 k36_5 Q e w := by
  unfold m36_5 at h
  refine seA ?_
  have hN : ∀ e w, (m36_6 R K1 (e 0) (e 3) w) → (thenE (W36 k36_6 Q) Q) .normal e w := fun e w h => then_N (s36_6 (R := R) (Q := Q) (K1 := K1) hN hR e w h)
  have hX0 : ∀ e w, (m36_2 R (e 0) w) → (thenE (W36 k36_6 Q) Q) (.exit 0) e w := fun e w h => then_X (hX0 e w h)
  refine seA ?_
  have hN : ∀ e w, (m36_10 R K1 (e 0) (e 3) (e 7) w) → (thenE (W36 k36_10 (thenE (W36 k36_6 Q) Q)) (thenE (W36 k36_6 Q) Q)) .normal e w := fun e w h => then_N (s36_10 (R := R) (Q := (thenE (W36 k36_6 Q) Q)) (K1 := K1) hN hX0 e w h)
  exact rgA 2 (fun e w => m36_10 R K1 (e 0) (e 3) (e 7) w) h hN
theorem s36_4 {R : VP} {Q : EQ} (hN : ∀ e w, (m36_2 R (e 0) w) → Q .normal e w) (hR : ∀ e w, (R (e 2) w) → Q .ret e w) (e : Env) (w : World) (h : m36_4 R (e 0) (e 3) w) : W36 k36_4 Q e w := by
  unfold m36_4 at h
  refine block_ok 0 (by kernel_rfl) ?_
  have hX0 : ∀ e w, (m36_2 R (e 0) w) → (inBlockE 0 Q) (.exit 0) e w := fun e w h => inBlock_same (Q := Q) 0 (hN e w h)
  have hR : ∀ e w, (R (e 2) w) → (inBlockE 0 Q) .ret e w := fun e w h => block_R (hR e w h)
  refine loop_ok' (fun (e : Env) => e 3) [0] (by kernel_rfl) (by kernel_rfl) h (fun K e' w' hk h' => ?_)
  have r0 : e' 0 = e 0 := hk 0 (by decide)
  have hR : ∀ e w, (R (e 2) w) → (thenE (fun (e : Env) w => K (e 3) w) (inBlockE 0 Q)) .ret e w := fun e w h => then_R (hR e w h)
  have hX0 : ∀ e w, (m36_2 R (e 0) w) → (thenE (fun (e : Env) w => K (e 3) w) (inBlockE 0 Q)) (.exit 0) e w := fun e w h => then_X (hX0 e w h)
  exact s36_5 (R := R) (Q := (thenE (fun (e : Env) w => K (e 3) w) (inBlockE 0 Q))) (K1 := K) (fun _ _ h => then_N h) hR hX0 e' w' (by rw [r0]; exact h')
theorem s36_1 {R : VP} {Q : EQ} (hR : ∀ e w, (R (e 2) w) → Q .ret e w) (e : Env) (w : World) (h : m36_1 R (e 0) w) : W36 k36_1 Q e w := by
  unfold m36_1 at h
  refine seA ?_
  have hN : ∀ e w, (m36_2 R (e 0) w) → (thenE (W36 k36_2 Q) Q) .normal e w := fun e w h => then_N (s36_2 (R := R) (Q := Q) hR e w h)
  have hR : ∀ e w, (R (e 2) w) → (thenE (W36 k36_2 Q) Q) .ret e w := fun e w h => then_R (hR e w h)
  refine seA ?_
  have hN : ∀ e w, (m36_4 R (e 0) (e 3) w) → (thenE (W36 k36_4 (thenE (W36 k36_2 Q) Q)) (thenE (W36 k36_2 Q) Q)) .normal e w := fun e w h => then_N (s36_4 (R := R) (Q := (thenE (W36 k36_2 Q) Q)) hN hR e w h)
  exact rgA 1 (fun e w => m36_4 R (e 0) (e 3) w) h hN
theorem s36_0 {R : VP} {Q : EQ} (hR : ∀ e w, (R (e 2) w) → Q .ret e w) (e : Env) (w : World) (h : m36_0 R (e 0) w) : W36 k36_0 Q e w := by
  unfold m36_0 at h
  refine seA ?_
  have hN : ∀ e w, (m36_1 R (e 0) w) → (thenE (W36 k36_1 Q) Q) .normal e w := fun e w h => then_N (s36_1 (R := R) (Q := Q) hR e w h)
  exact rgA 0 (fun e w => m36_1 R (e 0) w) h hN
abbrev m36 (R : VP) (l0 : Value) (w : World) : Prop := m36_0 R l0 w
theorem s36 (l0 : Value) {R : VP} {w : World} (h : m36 R l0 w) :
    Calls Try.prog 36 #[l0] w fun e w' => ∃ v, e = .returned v ∧ R v w' :=
  calls_of_cwp (st := (fun i => 0)) (c := k36_0) (by kernel_rfl) Try.func36 (by kernel_rfl) (Nat.le_of_ble_eq_true (by kernel_rfl)) (by kernel_rfl)
    (s36_0 (R := R) (Q := endE Try.prog Try.f36 R) (fun e w h => kcast (by kernel_rfl) h) (argsE #[l0]) w (kcast (by kernel_rfl) h))
/-! ### headgate/headgatelaw33.CleanerCodes -/
def m6_17 (R : VP) (t4 : Value) (w : World) : Prop :=
  R t4 w
def m6_15 (R : VP) (t4 : Value) (w : World) : Prop :=
  R t4 w
def m6_13 (R : VP) (t4 : Value) (w : World) : Prop :=
  R t4 w
def m6_11 (R : VP) (t4 : Value) (w : World) : Prop :=
  R t4 w
def m6_10 (R : VP) (l0 z13 i14 : Value) (w : World) : Prop :=
  callP Try.prog (fnV 9) #[z13, l0] w fun t80 w =>
  condP t80
  (valP Try.prog (binS BinOp.eql 42 (Operand.tmp 82) (Operand.const (Value.int IntKind.i64 0)) i14 (Value.int IntKind.i64 0)) w fun t83 w =>
  pickP t80 t83 (Value.bool false) fun t84 =>
  condP t84
  (callP Try.prog (fnV 12) #[] w fun t86 w =>
  pickP t84 t86 (Value.bool false) fun t87 =>
  m6_11 R t87 w)
  (pickP t84 undef (Value.bool false) fun t87 =>
  m6_11 R t87 w))
  (pickP t80 undef (Value.bool false) fun t84 =>
  condP t84
  (callP Try.prog (fnV 12) #[] w fun t86 w =>
  pickP t84 t86 (Value.bool false) fun t87 =>
  m6_11 R t87 w)
  (pickP t84 undef (Value.bool false) fun t87 =>
  m6_11 R t87 w))
def m6_9 (R : VP) (l0 a5 : Value) (w : World) : Prop :=
  callP Try.prog (fnV 16) #[a5] w fun t75 w =>
  valP Try.prog (Instr.extract t75 0) w fun t76 w =>
  valP Try.prog (Instr.extract t75 1) w fun t77 w =>
  m6_10 R l0 t76 t77 w
def m6_12 (R : VP) (l0 a5 t67 : Value) (w : World) : Prop :=
  condP t67
  (valP Try.prog (binS BinOp.eql 9 (Operand.tmp 68) (Operand.const (Value.string ⟨#[]⟩)) a5 (Value.string ⟨#[]⟩)) w fun t69 w =>
  condP t69
  (callP Try.prog (fnV 12) #[] w fun t71 w =>
  pickP t69 t71 (Value.bool false) fun t72 =>
  m6_13 R t72 w)
  (pickP t69 undef (Value.bool false) fun t72 =>
  m6_13 R t72 w))
  (m6_9 R l0 a5 w)
def m6_8 (R : VP) (l0 a5 e6 : Value) (w : World) : Prop :=
  valP Try.prog (binS BinOp.neq 42 (Operand.tmp 66) (Operand.const (Value.int IntKind.i64 0)) e6 (Value.int IntKind.i64 0)) w fun t67 w =>
  m6_12 R l0 a5 t67 w
def m6_14 (R : VP) (l0 a5 e6 t65 : Value) (w : World) : Prop :=
  condP t65
  (m6_15 R (Value.bool false) w)
  (m6_8 R l0 a5 e6 w)
def m6_7 (R : VP) (l0 a5 e6 b7 f8 x9 g10 y11 h12 : Value) (w : World) : Prop :=
  valP Try.prog (binS BinOp.neq 9 (Operand.tmp 41) (Operand.tmp 42) a5 b7) w fun t43 w =>
  condP t43
  (pickP t43 (Value.bool true) undef fun t48 =>
  pickP t48 (Value.bool true) undef fun t54 =>
  pickP t54 (Value.bool true) undef fun t59 =>
  pickP t59 (Value.bool true) undef fun t65 =>
  m6_14 R l0 a5 e6 t65 w)
  (valP Try.prog (binS BinOp.neq 3 (Operand.tmp 45) (Operand.tmp 46) e6 f8) w fun t47 w =>
  pickP t43 (Value.bool true) t47 fun t48 =>
  condP t48
  (pickP t48 (Value.bool true) undef fun t54 =>
  pickP t54 (Value.bool true) undef fun t59 =>
  pickP t59 (Value.bool true) undef fun t65 =>
  m6_14 R l0 a5 e6 t65 w)
  (callP Try.prog (fnV 9) #[x9, y11] w fun t52 w =>
  valP Try.prog (Op.unary UnOp.not t52) w fun t53 w =>
  pickP t48 (Value.bool true) t53 fun t54 =>
  condP t54
  (pickP t54 (Value.bool true) undef fun t59 =>
  pickP t59 (Value.bool true) undef fun t65 =>
  m6_14 R l0 a5 e6 t65 w)
  (valP Try.prog (binS BinOp.neq 3 (Operand.tmp 56) (Operand.tmp 57) g10 h12) w fun t58 w =>
  pickP t54 (Value.bool true) t58 fun t59 =>
  condP t59
  (pickP t59 (Value.bool true) undef fun t65 =>
  m6_14 R l0 a5 e6 t65 w)
  (callP Try.prog (fnV 18) #[l0] w fun t62 w =>
  valP Try.prog (binS BinOp.neq 42 (Operand.tmp 62) (Operand.tmp 63) t62 e6) w fun t64 w =>
  pickP t59 (Value.bool true) t64 fun t65 =>
  m6_14 R l0 a5 e6 t65 w))))
def m6_6 (R : VP) (l0 s1 a5 e6 b7 f8 x9 g10 : Value) (w : World) : Prop :=
  callP Try.prog (fnV 17) #[s1] w fun t38 w =>
  valP Try.prog (Instr.extract t38 0) w fun t39 w =>
  valP Try.prog (Instr.extract t38 1) w fun t40 w =>
  m6_7 R l0 a5 e6 b7 f8 x9 g10 t39 t40 w
def m6_5 (R : VP) (l0 s1 a5 e6 b7 f8 : Value) (w : World) : Prop :=
  callP Try.prog (fnV 16) #[s1] w fun t33 w =>
  valP Try.prog (Instr.extract t33 0) w fun t34 w =>
  valP Try.prog (Instr.extract t33 1) w fun t35 w =>
  m6_6 R l0 s1 a5 e6 b7 f8 t34 t35 w
def m6_4 (R : VP) (l0 s1 a5 e6 : Value) (w : World) : Prop :=
  callP Try.prog (fnV 15) #[l0] w fun t28 w =>
  valP Try.prog (Instr.extract t28 0) w fun t29 w =>
  valP Try.prog (Instr.extract t28 1) w fun t30 w =>
  m6_5 R l0 s1 a5 e6 t29 t30 w
def m6_3 (R : VP) (l0 s1 : Value) (w : World) : Prop :=
  callP Try.prog (fnV 14) #[l0] w fun t23 w =>
  valP Try.prog (Instr.extract t23 0) w fun t24 w =>
  valP Try.prog (Instr.extract t23 1) w fun t25 w =>
  m6_4 R l0 s1 t24 t25 w
def m6_16 (R : VP) (l0 s1 t19 : Value) (w : World) : Prop :=
  condP t19
  (callP Try.prog (fnV 12) #[] w fun t20 w =>
  m6_17 R t20 w)
  (m6_3 R l0 s1 w)
def m6_2 (R : VP) (l0 s1 : Value) (w : World) : Prop :=
  builtinP Try.prog Builtin.len #[9] 3 #[false] #[s1] w fun t18 w =>
  valP Try.prog (binS BinOp.gtr 3 (Operand.tmp 18) (Operand.const (Value.int IntKind.i64 5000)) t18 (Value.int IntKind.i64 5000)) w fun t19 w =>
  m6_16 R l0 s1 t19 w
def m6_1 (R : VP) (l0 s1 : Value) (w : World) : Prop :=
  callP Try.prog (fnV 8) #[l0] w fun t16 w =>
  m6_2 R t16 s1 w
def m6_0 (R : VP) (l0 s1 : Value) (w : World) : Prop :=
  m6_1 R l0 s1 w
abbrev W6 := cwp Try.prog (fun i => 0)
noncomputable def k6_0 : Code := (bodyOf Try.f6)
noncomputable def k6_1 : Code := (c2 k6_0)
noncomputable def k6_2 : Code := (c2 k6_1)
noncomputable def k6_3 : Code := (c2 k6_2)
noncomputable def k6_4 : Code := (c2 k6_3)
noncomputable def k6_5 : Code := (c2 k6_4)
noncomputable def k6_6 : Code := (c2 k6_5)
noncomputable def k6_7 : Code := (c2 k6_6)
noncomputable def k6_8 : Code := (c2 k6_7)
noncomputable def k6_9 : Code := (c2 k6_8)
noncomputable def k6_10 : Code := (c2 k6_9)
noncomputable def k6_11 : Code := (c2 k6_10)
noncomputable def k6_12 : Code := (c2 (c1 k6_8))
noncomputable def k6_13 : Code := (c2 (c1 k6_12))
noncomputable def k6_14 : Code := (c2 (c1 k6_7))
noncomputable def k6_15 : Code := (c2 (c1 k6_14))
noncomputable def k6_16 : Code := (c2 (c1 k6_2))
noncomputable def k6_17 : Code := (c2 (c1 k6_16))
theorem s6_17 {R : VP} {Q : EQ} (hR : ∀ e w, (R (e 4) w) → Q .ret e w) (e : Env) (w : World) (h : m6_17 R (e 4) w) : W6 k6_17 Q e w := by
  unfold m6_17 at h
  exact reA (hR _ _ h)
theorem s6_15 {R : VP} {Q : EQ} (hR : ∀ e w, (R (e 4) w) → Q .ret e w) (e : Env) (w : World) (h : m6_15 R (e 4) w) : W6 k6_15 Q e w := by
  unfold m6_15 at h
  exact reA (hR _ _ h)
theorem s6_13 {R : VP} {Q : EQ} (hR : ∀ e w, (R (e 4) w) → Q .ret e w) (e : Env) (w : World) (h : m6_13 R (e 4) w) : W6 k6_13 Q e w := by
  unfold m6_13 at h
  exact reA (hR _ _ h)
theorem s6_11 {R : VP} {Q : EQ} (hR : ∀ e w, (R (e 4) w) → Q .ret e w) (e : Env) (w : World) (h : m6_11 R (e 4) w) : W6 k6_11 Q e w := by
  unfold m6_11 at h
  exact reA (hR _ _ h)
theorem s6_10 {R : VP} {Q : EQ} (hR : ∀ e w, (R (e 4) w) → Q .ret e w) (e : Env) (w : World) (h : m6_10 R (e 0) (e 13) (e 14) w) : W6 k6_10 Q e w := by
  unfold m6_10 at h
  refine seA ?_
  have hN : ∀ e w, (m6_11 R (e 4) w) → (thenE (W6 k6_11 Q) Q) .normal e w := fun e w h => then_N (s6_11 (R := R) (Q := Q) hR e w h)
  exact rgA 13 (fun e w => m6_11 R (e 4) w) h hN
theorem s6_9 {R : VP} {Q : EQ} (hR : ∀ e w, (R (e 4) w) → Q .ret e w) (e : Env) (w : World) (h : m6_9 R (e 0) (e 5) w) : W6 k6_9 Q e w := by
  unfold m6_9 at h
  refine seA ?_
  have hN : ∀ e w, (m6_10 R (e 0) (e 13) (e 14) w) → (thenE (W6 k6_10 Q) Q) .normal e w := fun e w h => then_N (s6_10 (R := R) (Q := Q) hR e w h)
  exact rgA 12 (fun e w => m6_10 R (e 0) (e 13) (e 14) w) h hN
theorem s6_12 {R : VP} {Q : EQ} (hN : ∀ e w, (m6_9 R (e 0) (e 5) w) → Q .normal e w) (hR : ∀ e w, (R (e 4) w) → Q .ret e w) (e : Env) (w : World) (h : m6_12 R (e 0) (e 5) (e 67) w) : W6 k6_12 Q e w := by
  unfold m6_12 at h
  refine coA (Operand.tmp 67) h (fun h1 => ?_) (fun h1 => ?_)
  · refine seA ?_
    have hN : ∀ e w, (m6_13 R (e 4) w) → (thenE (W6 k6_13 Q) Q) .normal e w := fun e w h => then_N (s6_13 (R := R) (Q := Q) hR e w h)
    exact rgA 11 (fun e w => m6_13 R (e 4) w) h1 hN
  · exact skA (hN _ _ h1)
theorem s6_8 {R : VP} {Q : EQ} (hR : ∀ e w, (R (e 4) w) → Q .ret e w) (e : Env) (w : World) (h : m6_8 R (e 0) (e 5) (e 6) w) : W6 k6_8 Q e w := by
  unfold m6_8 at h
  refine seA ?_
  have hN : ∀ e w, (m6_9 R (e 0) (e 5) w) → (thenE (W6 k6_9 Q) Q) .normal e w := fun e w h => then_N (s6_9 (R := R) (Q := Q) hR e w h)
  have hR : ∀ e w, (R (e 4) w) → (thenE (W6 k6_9 Q) Q) .ret e w := fun e w h => then_R (hR e w h)
  refine seA ?_
  have hN : ∀ e w, (m6_12 R (e 0) (e 5) (e 67) w) → (thenE (W6 k6_12 (thenE (W6 k6_9 Q) Q)) (thenE (W6 k6_9 Q) Q)) .normal e w := fun e w h => then_N (s6_12 (R := R) (Q := (thenE (W6 k6_9 Q) Q)) hN hR e w h)
  exact rgA 10 (fun e w => m6_12 R (e 0) (e 5) (e 67) w) h hN
theorem s6_14 {R : VP} {Q : EQ} (hN : ∀ e w, (m6_8 R (e 0) (e 5) (e 6) w) → Q .normal e w) (hR : ∀ e w, (R (e 4) w) → Q .ret e w) (e : Env) (w : World) (h : m6_14 R (e 0) (e 5) (e 6) (e 65) w) : W6 k6_14 Q e w := by
  unfold m6_14 at h
  refine coA (Operand.tmp 65) h (fun h1 => ?_) (fun h1 => ?_)
  · refine seA ?_
    have hN : ∀ e w, (m6_15 R (e 4) w) → (thenE (W6 k6_15 Q) Q) .normal e w := fun e w h => then_N (s6_15 (R := R) (Q := Q) hR e w h)
    exact rgA 9 (fun e w => m6_15 R (e 4) w) h1 hN
  · exact skA (hN _ _ h1)
theorem s6_7 {R : VP} {Q : EQ} (hR : ∀ e w, (R (e 4) w) → Q .ret e w) (e : Env) (w : World) (h : m6_7 R (e 0) (e 5) (e 6) (e 7) (e 8) (e 9) (e 10) (e 11) (e 12) w) : W6 k6_7 Q e w := by
  unfold m6_7 at h
  refine seA ?_
  have hN : ∀ e w, (m6_8 R (e 0) (e 5) (e 6) w) → (thenE (W6 k6_8 Q) Q) .normal e w := fun e w h => then_N (s6_8 (R := R) (Q := Q) hR e w h)
  have hR : ∀ e w, (R (e 4) w) → (thenE (W6 k6_8 Q) Q) .ret e w := fun e w h => then_R (hR e w h)
  refine seA ?_
  have hN : ∀ e w, (m6_14 R (e 0) (e 5) (e 6) (e 65) w) → (thenE (W6 k6_14 (thenE (W6 k6_8 Q) Q)) (thenE (W6 k6_8 Q) Q)) .normal e w := fun e w h => then_N (s6_14 (R := R) (Q := (thenE (W6 k6_8 Q) Q)) hN hR e w h)
  exact rgK 8 (fun e w => m6_14 R (e 0) (e 5) (e 6) (e 65) w) h hN
theorem s6_6 {R : VP} {Q : EQ} (hR : ∀ e w, (R (e 4) w) → Q .ret e w) (e : Env) (w : World) (h : m6_6 R (e 0) (e 1) (e 5) (e 6) (e 7) (e 8) (e 9) (e 10) w) : W6 k6_6 Q e w := by
  unfold m6_6 at h
  refine seA ?_
  have hN : ∀ e w, (m6_7 R (e 0) (e 5) (e 6) (e 7) (e 8) (e 9) (e 10) (e 11) (e 12) w) → (thenE (W6 k6_7 Q) Q) .normal e w := fun e w h => then_N (s6_7 (R := R) (Q := Q) hR e w h)
  exact rgA 7 (fun e w => m6_7 R (e 0) (e 5) (e 6) (e 7) (e 8) (e 9) (e 10) (e 11) (e 12) w) h hN
theorem s6_5 {R : VP} {Q : EQ} (hR : ∀ e w, (R (e 4) w) → Q .ret e w) (e : Env) (w : World) (h : m6_5 R (e 0) (e 1) (e 5) (e 6) (e 7) (e 8) w) : W6 k6_5 Q e w := by
  unfold m6_5 at h
  refine seA ?_
  have hN : ∀ e w, (m6_6 R (e 0) (e 1) (e 5) (e 6) (e 7) (e 8) (e 9) (e 10) w) → (thenE (W6 k6_6 Q) Q) .normal e w := fun e w h => then_N (s6_6 (R := R) (Q := Q) hR e w h)
  exact rgA 6 (fun e w => m6_6 R (e 0) (e 1) (e 5) (e 6) (e 7) (e 8) (e 9) (e 10) w) h hN
theorem s6_4 {R : VP} {Q : EQ} (hR : ∀ e w, (R (e 4) w) → Q .ret e w) (e : Env) (w : World) (h : m6_4 R (e 0) (e 1) (e 5) (e 6) w) : W6 k6_4 Q e w := by
  unfold m6_4 at h
  refine seA ?_
  have hN : ∀ e w, (m6_5 R (e 0) (e 1) (e 5) (e 6) (e 7) (e 8) w) → (thenE (W6 k6_5 Q) Q) .normal e w := fun e w h => then_N (s6_5 (R := R) (Q := Q) hR e w h)
  exact rgA 5 (fun e w => m6_5 R (e 0) (e 1) (e 5) (e 6) (e 7) (e 8) w) h hN
theorem s6_3 {R : VP} {Q : EQ} (hR : ∀ e w, (R (e 4) w) → Q .ret e w) (e : Env) (w : World) (h : m6_3 R (e 0) (e 1) w) : W6 k6_3 Q e w := by
  unfold m6_3 at h
  refine seA ?_
  have hN : ∀ e w, (m6_4 R (e 0) (e 1) (e 5) (e 6) w) → (thenE (W6 k6_4 Q) Q) .normal e w := fun e w h => then_N (s6_4 (R := R) (Q := Q) hR e w h)
  exact rgA 4 (fun e w => m6_4 R (e 0) (e 1) (e 5) (e 6) w) h hN
theorem s6_16 {R : VP} {Q : EQ} (hN : ∀ e w, (m6_3 R (e 0) (e 1) w) → Q .normal e w) (hR : ∀ e w, (R (e 4) w) → Q .ret e w) (e : Env) (w : World) (h : m6_16 R (e 0) (e 1) (e 19) w) : W6 k6_16 Q e w := by
  unfold m6_16 at h
  refine coA (Operand.tmp 19) h (fun h1 => ?_) (fun h1 => ?_)
  · refine seA ?_
    have hN : ∀ e w, (m6_17 R (e 4) w) → (thenE (W6 k6_17 Q) Q) .normal e w := fun e w h => then_N (s6_17 (R := R) (Q := Q) hR e w h)
    exact rgA 3 (fun e w => m6_17 R (e 4) w) h1 hN
  · exact skA (hN _ _ h1)
theorem s6_2 {R : VP} {Q : EQ} (hR : ∀ e w, (R (e 4) w) → Q .ret e w) (e : Env) (w : World) (h : m6_2 R (e 0) (e 1) w) : W6 k6_2 Q e w := by
  unfold m6_2 at h
  refine seA ?_
  have hN : ∀ e w, (m6_3 R (e 0) (e 1) w) → (thenE (W6 k6_3 Q) Q) .normal e w := fun e w h => then_N (s6_3 (R := R) (Q := Q) hR e w h)
  have hR : ∀ e w, (R (e 4) w) → (thenE (W6 k6_3 Q) Q) .ret e w := fun e w h => then_R (hR e w h)
  refine seA ?_
  have hN : ∀ e w, (m6_16 R (e 0) (e 1) (e 19) w) → (thenE (W6 k6_16 (thenE (W6 k6_3 Q) Q)) (thenE (W6 k6_3 Q) Q)) .normal e w := fun e w h => then_N (s6_16 (R := R) (Q := (thenE (W6 k6_3 Q) Q)) hN hR e w h)
  exact rgA 2 (fun e w => m6_16 R (e 0) (e 1) (e 19) w) h hN
theorem s6_1 {R : VP} {Q : EQ} (hR : ∀ e w, (R (e 4) w) → Q .ret e w) (e : Env) (w : World) (h : m6_1 R (e 0) (e 1) w) : W6 k6_1 Q e w := by
  unfold m6_1 at h
  refine seA ?_
  have hN : ∀ e w, (m6_2 R (e 0) (e 1) w) → (thenE (W6 k6_2 Q) Q) .normal e w := fun e w h => then_N (s6_2 (R := R) (Q := Q) hR e w h)
  exact rgA 1 (fun e w => m6_2 R (e 0) (e 1) w) h hN
theorem s6_0 {R : VP} {Q : EQ} (hR : ∀ e w, (R (e 4) w) → Q .ret e w) (e : Env) (w : World) (h : m6_0 R (e 0) (e 1) w) : W6 k6_0 Q e w := by
  unfold m6_0 at h
  refine seA ?_
  have hN : ∀ e w, (m6_1 R (e 0) (e 1) w) → (thenE (W6 k6_1 Q) Q) .normal e w := fun e w h => then_N (s6_1 (R := R) (Q := Q) hR e w h)
  exact rgA 0 (fun e w => m6_1 R (e 0) (e 1) w) h hN
abbrev m6 (R : VP) (l0 s1 : Value) (w : World) : Prop := m6_0 R l0 s1 w
theorem s6 (l0 s1 : Value) {R : VP} {w : World} (h : m6 R l0 s1 w) :
    Calls Try.prog 6 #[l0, s1] w fun e w' => ∃ v, e = .returned v ∧ R v w' :=
  calls_of_cwp (st := (fun i => 0)) (c := k6_0) (by kernel_rfl) Try.func6 (by kernel_rfl) (Nat.le_of_ble_eq_true (by kernel_rfl)) (by kernel_rfl)
    (s6_0 (R := R) (Q := endE Try.prog Try.f6 R) (fun e w h => kcast (by kernel_rfl) h) (argsE #[l0, s1]) w (kcast (by kernel_rfl) h))
end Go.Proofs.Ytcdnkbplplghmaa.M
