/- What functions' texts ask of their ends, told over values that have names; printed by a program of this work. -/
import Derived.Test.YtcfdalmnhgiaeaaFw
import Derived.Test.YtcfdalmnhgiaeaaProg
namespace Go.Proofs.Ytcfdalmnhgiaeaa.M
open Go.Proofs.Ytcfdalmnhgiaeaa.F
set_option linter.unusedVariables false
set_option maxRecDepth 100000
/-! ### (*headgate/headgateref30.Heavy).Add -/
def m14_11 (R : Value → World → Prop) (t4 : Value) (w : World) : Prop :=
  R t4 w
def m14_8 (R : Value → World → Prop) (K1 : Value → World → Prop) (h0 : Value) (keys1 : Value) (i5 : Value) (w : World) : Prop :=
  valP Try.prog (binS BinOp.add 3 (Operand.tmp 18) (Operand.const (Value.int IntKind.i64 1)) i5 (Value.int IntKind.i64 1)) w fun t19 w =>
  K1 t19 w
def m14_7 (R : Value → World → Prop) (K1 : Value → World → Prop) (h0 : Value) (keys1 : Value) (i5 : Value) (w : World) : Prop :=
  valP Try.prog (Instr.indexAt 22 keys1 i5) w fun t23 w =>
  valP Try.prog (Instr.loadAt 3 t23) w fun t24 w =>
  callP Try.prog (fnV 26) #[h0, t24] w fun t25 w =>
  m14_8 R K1 h0 keys1 i5 w
def m14_4 (R : Value → World → Prop) (t4 : Value) (w : World) : Prop :=
  R t4 w
def m14_3 (R : Value → World → Prop) (w : World) : Prop :=
  m14_4 R (Value.int IntKind.i64 0) w
def m14_9 (R : Value → World → Prop) (K1 : Value → World → Prop) (h0 : Value) (keys1 : Value) (i5 : Value) (t17 : Value) (w : World) : Prop :=
  condP t17
  (m14_7 R K1 h0 keys1 i5 w)
  (m14_3 R w)
def m14_6 (R : Value → World → Prop) (K1 : Value → World → Prop) (h0 : Value) (keys1 : Value) (i5 : Value) (w : World) : Prop :=
  builtinP Try.prog Builtin.len #[22] 3 #[false] #[keys1] w fun t16 w =>
  valP Try.prog (binS BinOp.lss 3 (Operand.tmp 14) (Operand.tmp 16) i5 t16) w fun t17 w =>
  m14_9 R K1 h0 keys1 i5 t17 w
def m14_5 (R : Value → World → Prop) (h0 : Value) (keys1 : Value) (i5 : Value) (w : World) : Prop :=
  loopP (fun (K1 : Value → World → Prop) (s : Value) w => m14_6 R K1 h0 keys1 s w) i5 w
def m14_2 (R : Value → World → Prop) (h0 : Value) (keys1 : Value) (w : World) : Prop :=
  m14_5 R h0 keys1 (Value.int IntKind.i64 0) w
def m14_10 (R : Value → World → Prop) (h0 : Value) (keys1 : Value) (t13 : Value) (w : World) : Prop :=
  condP t13
  (m14_11 R (Value.int IntKind.i64 6) w)
  (m14_2 R h0 keys1 w)
def m14_1 (R : Value → World → Prop) (h0 : Value) (keys1 : Value) (w : World) : Prop :=
  builtinP Try.prog Builtin.len #[22] 3 #[false] #[keys1] w fun t7 w =>
  nilCheckP h0 fun t9 =>
  valP Try.prog (Instr.fieldAt 30 t9 1) w fun t10 w =>
  valP Try.prog (Instr.loadAt 3 t10) w fun t11 w =>
  valP Try.prog (binS BinOp.sub 3 (Operand.const (Value.int IntKind.i64 1099511627776)) (Operand.tmp 11) (Value.int IntKind.i64 1099511627776) t11) w fun t12 w =>
  valP Try.prog (binS BinOp.gtr 3 (Operand.tmp 7) (Operand.tmp 12) t7 t12) w fun t13 w =>
  m14_10 R h0 keys1 t13 w
def m14_0 (R : Value → World → Prop) (h0 : Value) (keys1 : Value) (w : World) : Prop :=
  m14_1 R h0 keys1 w
abbrev W14 := cwp Try.prog (fun i => 0)
noncomputable def k14_0 : Code := (bodyOf Try.f14)
noncomputable def k14_1 : Code := (c2 k14_0)
noncomputable def k14_2 : Code := (c2 k14_1)
noncomputable def k14_3 : Code := (c2 k14_2)
noncomputable def k14_4 : Code := (c2 k14_3)
noncomputable def k14_5 : Code := (c2 (c1 k14_2))
noncomputable def k14_6 : Code := (c1 (c1 k14_5))
noncomputable def k14_7 : Code := (c2 k14_6)
noncomputable def k14_8 : Code := (c2 k14_7)
noncomputable def k14_9 : Code := (c2 (c1 k14_6))
noncomputable def k14_10 : Code := (c2 (c1 k14_1))
noncomputable def k14_11 : Code := (c2 (c1 k14_10))
theorem s14_11 {R : Value → World → Prop} {Q : Exit → Env → World → Prop} (hR : ∀ e w, (R (e 4) w) → Q .ret e w) (e : Env) (w : World) (h : m14_11 R (e 4) w) : W14 k14_11 Q e w := by
  unfold m14_11 at h
  exact ret_ok (by kernel_rfl) (hR _ _ h)
theorem s14_8 {R : Value → World → Prop} {K1 : Value → World → Prop} {Q : Exit → Env → World → Prop} (hN : ∀ e w, (K1 (e 5) w) → Q .normal e w) (e : Env) (w : World) (h : m14_8 R K1 (e 0) (e 1) (e 5) w) : W14 k14_8 Q e w := by
  unfold m14_8 at h
  exact region_ok 5 (fun e w => K1 (e 5) w) (by kernel_rfl) (kcast (by kernel_rfl) h) hN (by kernel_rfl)
theorem s14_7 {R : Value → World → Prop} {K1 : Value → World → Prop} {Q : Exit → Env → World → Prop} (hN : ∀ e w, (K1 (e 5) w) → Q .normal e w) (e : Env) (w : World) (h : m14_7 R K1 (e 0) (e 1) (e 5) w) : W14 k14_7 Q e w := by
  unfold m14_7 at h
  refine seq_ok' (by kernel_rfl) ?_
  have hN' : ∀ e w, (m14_8 R K1 (e 0) (e 1) (e 5) w) → (thenE (W14 k14_8 Q) Q) .normal e w := fun e w h => then_N (s14_8 (R := R) (Q := Q) (K1 := K1) hN e w h)
  have hN := hN'
  refine block_ok 1 (by kernel_rfl) ?_
  have hN : ∀ e w, (m14_8 R K1 (e 0) (e 1) (e 5) w) → (inBlockE 1 (thenE (W14 k14_8 Q) Q)) .normal e w := fun e w h => block_N (hN e w h)
  exact region_ok 6 (fun e w => m14_8 R K1 (e 0) (e 1) (e 5) w) (by kernel_rfl) (kcast (by kernel_rfl) h) hN (by kernel_rfl)
theorem s14_4 {R : Value → World → Prop} {Q : Exit → Env → World → Prop} (hR : ∀ e w, (R (e 4) w) → Q .ret e w) (e : Env) (w : World) (h : m14_4 R (e 4) w) : W14 k14_4 Q e w := by
  unfold m14_4 at h
  exact ret_ok (by kernel_rfl) (hR _ _ h)
theorem s14_3 {R : Value → World → Prop} {Q : Exit → Env → World → Prop} (hR : ∀ e w, (R (e 4) w) → Q .ret e w) (e : Env) (w : World) (h : m14_3 R w) : W14 k14_3 Q e w := by
  unfold m14_3 at h
  refine seq_ok' (by kernel_rfl) ?_
  have hN' : ∀ e w, (m14_4 R (e 4) w) → (thenE (W14 k14_4 Q) Q) .normal e w := fun e w h => then_N (s14_4 (R := R) (Q := Q) hR e w h)
  have hN := hN'
  exact region_ok 7 (fun e w => m14_4 R (e 4) w) (by kernel_rfl) (kcast (by kernel_rfl) h) hN (by kernel_rfl)
theorem s14_9 {R : Value → World → Prop} {K1 : Value → World → Prop} {Q : Exit → Env → World → Prop} (hN : ∀ e w, (m14_7 R K1 (e 0) (e 1) (e 5) w) → Q .normal e w) (hX0 : ∀ e w, (m14_3 R w) → Q (.exit 0) e w) (e : Env) (w : World) (h : m14_9 R K1 (e 0) (e 1) (e 5) (e 17) w) : W14 k14_9 Q e w := by
  unfold m14_9 at h
  refine cond_ok (Operand.tmp 17) (by kernel_rfl) h (fun h1 => ?_) (fun h1 => ?_)
  · exact skip_ok (by kernel_rfl) (hN _ _ h1)
  · exact exit_ok 0 (by kernel_rfl) (hX0 _ _ h1)
theorem s14_6 {R : Value → World → Prop} {K1 : Value → World → Prop} {Q : Exit → Env → World → Prop} (hN : ∀ e w, (K1 (e 5) w) → Q .normal e w) (hX0 : ∀ e w, (m14_3 R w) → Q (.exit 0) e w) (e : Env) (w : World) (h : m14_6 R K1 (e 0) (e 1) (e 5) w) : W14 k14_6 Q e w := by
  unfold m14_6 at h
  refine seq_ok' (by kernel_rfl) ?_
  have hN' : ∀ e w, (m14_7 R K1 (e 0) (e 1) (e 5) w) → (thenE (W14 k14_7 Q) Q) .normal e w := fun e w h => then_N (s14_7 (R := R) (Q := Q) (K1 := K1) hN e w h)
  have hX0 : ∀ e w, (m14_3 R w) → (thenE (W14 k14_7 Q) Q) (.exit 0) e w := fun e w h => then_X (hX0 e w h)
  have hN := hN'
  refine seq_ok' (by kernel_rfl) ?_
  have hN' : ∀ e w, (m14_9 R K1 (e 0) (e 1) (e 5) (e 17) w) → (thenE (W14 k14_9 (thenE (W14 k14_7 Q) Q)) (thenE (W14 k14_7 Q) Q)) .normal e w := fun e w h => then_N (s14_9 (R := R) (Q := (thenE (W14 k14_7 Q) Q)) (K1 := K1) hN hX0 e w h)
  have hN := hN'
  exact region_ok 4 (fun e w => m14_9 R K1 (e 0) (e 1) (e 5) (e 17) w) (by kernel_rfl) (kcast (by kernel_rfl) h) hN (by kernel_rfl)
theorem s14_5 {R : Value → World → Prop} {Q : Exit → Env → World → Prop} (hN : ∀ e w, (m14_3 R w) → Q .normal e w) (e : Env) (w : World) (h : m14_5 R (e 0) (e 1) (e 5) w) : W14 k14_5 Q e w := by
  unfold m14_5 at h
  refine block_ok 0 (by kernel_rfl) ?_
  have hX0 : ∀ e w, (m14_3 R w) → (inBlockE 0 Q) (.exit 0) e w := fun e w h => inBlock_same (Q := Q) 0 (hN e w h)
  refine loop_ok' (fun (e : Env) => e 5) [0, 1] (by kernel_rfl) (by kernel_rfl) h (fun K e' w' hk h' => ?_)
  have r0 : e' 0 = e 0 := hk 0 (by decide)
  have r1 : e' 1 = e 1 := hk 1 (by decide)
  have hX0 : ∀ e w, (m14_3 R w) → (thenE (fun (e : Env) w => K (e 5) w) (inBlockE 0 Q)) (.exit 0) e w := fun e w h => then_X (hX0 e w h)
  exact s14_6 (R := R) (Q := (thenE (fun (e : Env) w => K (e 5) w) (inBlockE 0 Q))) (K1 := K) (fun _ _ h => then_N h) hX0 e' w' (by rw [r0, r1]; exact h')
theorem s14_2 {R : Value → World → Prop} {Q : Exit → Env → World → Prop} (hR : ∀ e w, (R (e 4) w) → Q .ret e w) (e : Env) (w : World) (h : m14_2 R (e 0) (e 1) w) : W14 k14_2 Q e w := by
  unfold m14_2 at h
  refine seq_ok' (by kernel_rfl) ?_
  have hN' : ∀ e w, (m14_3 R w) → (thenE (W14 k14_3 Q) Q) .normal e w := fun e w h => then_N (s14_3 (R := R) (Q := Q) hR e w h)
  have hN := hN'
  refine seq_ok' (by kernel_rfl) ?_
  have hN' : ∀ e w, (m14_5 R (e 0) (e 1) (e 5) w) → (thenE (W14 k14_5 (thenE (W14 k14_3 Q) Q)) (thenE (W14 k14_3 Q) Q)) .normal e w := fun e w h => then_N (s14_5 (R := R) (Q := (thenE (W14 k14_3 Q) Q)) hN e w h)
  have hN := hN'
  exact region_ok 3 (fun e w => m14_5 R (e 0) (e 1) (e 5) w) (by kernel_rfl) (kcast (by kernel_rfl) h) hN (by kernel_rfl)
theorem s14_10 {R : Value → World → Prop} {Q : Exit → Env → World → Prop} (hN : ∀ e w, (m14_2 R (e 0) (e 1) w) → Q .normal e w) (hR : ∀ e w, (R (e 4) w) → Q .ret e w) (e : Env) (w : World) (h : m14_10 R (e 0) (e 1) (e 13) w) : W14 k14_10 Q e w := by
  unfold m14_10 at h
  refine cond_ok (Operand.tmp 13) (by kernel_rfl) h (fun h1 => ?_) (fun h1 => ?_)
  · refine seq_ok' (by kernel_rfl) ?_
    have hN' : ∀ e w, (m14_11 R (e 4) w) → (thenE (W14 k14_11 Q) Q) .normal e w := fun e w h => then_N (s14_11 (R := R) (Q := Q) hR e w h)
    have hN := hN'
    exact region_ok 2 (fun e w => m14_11 R (e 4) w) (by kernel_rfl) (kcast (by kernel_rfl) h1) hN (by kernel_rfl)
  · exact skip_ok (by kernel_rfl) (hN _ _ h1)
theorem s14_1 {R : Value → World → Prop} {Q : Exit → Env → World → Prop} (hR : ∀ e w, (R (e 4) w) → Q .ret e w) (e : Env) (w : World) (h : m14_1 R (e 0) (e 1) w) : W14 k14_1 Q e w := by
  unfold m14_1 at h
  refine seq_ok' (by kernel_rfl) ?_
  have hN' : ∀ e w, (m14_2 R (e 0) (e 1) w) → (thenE (W14 k14_2 Q) Q) .normal e w := fun e w h => then_N (s14_2 (R := R) (Q := Q) hR e w h)
  have hR : ∀ e w, (R (e 4) w) → (thenE (W14 k14_2 Q) Q) .ret e w := fun e w h => then_R (hR e w h)
  have hN := hN'
  refine seq_ok' (by kernel_rfl) ?_
  have hN' : ∀ e w, (m14_10 R (e 0) (e 1) (e 13) w) → (thenE (W14 k14_10 (thenE (W14 k14_2 Q) Q)) (thenE (W14 k14_2 Q) Q)) .normal e w := fun e w h => then_N (s14_10 (R := R) (Q := (thenE (W14 k14_2 Q) Q)) hN hR e w h)
  have hN := hN'
  exact region_ok 1 (fun e w => m14_10 R (e 0) (e 1) (e 13) w) (by kernel_rfl) (kcast (by kernel_rfl) h) hN (by kernel_rfl)
theorem s14_0 {R : Value → World → Prop} {Q : Exit → Env → World → Prop} (hR : ∀ e w, (R (e 4) w) → Q .ret e w) (e : Env) (w : World) (h : m14_0 R (e 0) (e 1) w) : W14 k14_0 Q e w := by
  unfold m14_0 at h
  refine seq_ok' (by kernel_rfl) ?_
  have hN' : ∀ e w, (m14_1 R (e 0) (e 1) w) → (thenE (W14 k14_1 Q) Q) .normal e w := fun e w h => then_N (s14_1 (R := R) (Q := Q) hR e w h)
  have hN := hN'
  exact region_ok 0 (fun e w => m14_1 R (e 0) (e 1) w) (by kernel_rfl) (kcast (by kernel_rfl) h) hN (by kernel_rfl)
abbrev m14 (R : Value → World → Prop) (h0 : Value) (keys1 : Value) (w : World) : Prop := m14_0 R h0 keys1 w
theorem s14 (h0 : Value) (keys1 : Value) {R : Value → World → Prop} {w : World} (h : m14 R h0 keys1 w) :
    Calls Try.prog 14 #[h0, keys1] w fun e w' => ∃ v, e = .returned v ∧ R v w' :=
  calls_of_cwp (st := (fun i => 0)) (c := k14_0) (by kernel_rfl) Try.func14 (by kernel_rfl) (Nat.le_of_ble_eq_true (by kernel_rfl)) (by kernel_rfl)
    (s14_0 (R := R) (Q := endE Try.prog Try.f14 R) (fun e w h => kcast (by kernel_rfl) h) (argsE #[h0, keys1]) w (kcast (by kernel_rfl) h))
/-! ### (*headgate/headgateref30.Heavy).Count -/
def m16_12 (R : Value → World → Prop) (K1 : Value → World → Prop) (t4 : Value) (t5 : Value) (w : World) : Prop :=
  R (Value.tuple #[t4, t5]) w
def m16_10 (R : Value → World → Prop) (K1 : Value → World → Prop) (h0 : Value) (key1 : Value) (i6 : Value) (w : World) : Prop :=
  valP Try.prog (binS BinOp.add 3 (Operand.tmp 14) (Operand.const (Value.int IntKind.i64 1)) i6 (Value.int IntKind.i64 1)) w fun t15 w =>
  K1 t15 w
def m16_11 (R : Value → World → Prop) (K1 : Value → World → Prop) (h0 : Value) (key1 : Value) (i6 : Value) (t25 : Value) (w : World) : Prop :=
  condP t25
  (nilCheckP h0 fun t27 =>
  valQ Try.prog (Instr.fieldAt 30 t27 2) w fun t28 =>
  valQ Try.prog (Instr.loadAt 28 t28) w fun t29 =>
  valQ Try.prog (Instr.indexAt 28 t29 i6) w fun t31 =>
  valQ Try.prog (Instr.fieldAt 45 t31 1) w fun t32 =>
  valQ Try.prog (Instr.loadAt 3 t32) w fun t33 =>
  nilCheckP h0 fun t35 =>
  valQ Try.prog (Instr.fieldAt 30 t35 2) w fun t36 =>
  valQ Try.prog (Instr.loadAt 28 t36) w fun t37 =>
  valQ Try.prog (Instr.indexAt 28 t37 i6) w fun t39 =>
  valQ Try.prog (Instr.fieldAt 45 t39 2) w fun t40 =>
  valQ Try.prog (Instr.loadAt 3 t40) w fun t41 =>
  valQ Try.prog (binS BinOp.sub 3 (Operand.tmp 33) (Operand.tmp 41) t33 t41) w fun t42 =>
  nilCheckP h0 fun t44 =>
  valQ Try.prog (Instr.fieldAt 30 t44 2) w fun t45 =>
  valQ Try.prog (Instr.loadAt 28 t45) w fun t46 =>
  valQ Try.prog (Instr.indexAt 28 t46 i6) w fun t48 =>
  valQ Try.prog (Instr.fieldAt 45 t48 1) w fun t49 =>
  valQ Try.prog (Instr.loadAt 3 t49) w fun t50 =>
  anyDraw w fun w =>
  m16_12 R K1 t42 t50 w)
  (m16_10 R K1 h0 key1 i6 w)
def m16_9 (R : Value → World → Prop) (K1 : Value → World → Prop) (h0 : Value) (key1 : Value) (i6 : Value) (w : World) : Prop :=
  nilCheckP h0 fun t17 =>
  valP Try.prog (Instr.fieldAt 30 t17 2) w fun t18 w =>
  valP Try.prog (Instr.loadAt 28 t18) w fun t19 w =>
  valP Try.prog (Instr.indexAt 28 t19 i6) w fun t21 w =>
  valP Try.prog (Instr.fieldAt 45 t21 0) w fun t22 w =>
  valP Try.prog (Instr.loadAt 3 t22) w fun t23 w =>
  valP Try.prog (binS BinOp.eql 3 (Operand.tmp 23) (Operand.tmp 24) t23 key1) w fun t25 w =>
  m16_11 R K1 h0 key1 i6 t25 w
def m16_6 (R : Value → World → Prop) (t4 : Value) (t5 : Value) (w : World) : Prop :=
  R (Value.tuple #[t4, t5]) w
def m16_4 (R : Value → World → Prop) (t4 : Value) (t5 : Value) (w : World) : Prop :=
  R (Value.tuple #[t4, t5]) w
def m16_3 (R : Value → World → Prop) (h0 : Value) (w : World) : Prop :=
  anyDraw w fun w =>
  nilCheckP h0 fun t62 =>
  pureP Try.prog (Instr.fieldAt 30 t62 2) fun t63 =>
  (valP Try.prog (Instr.loadAt 28 t63) w fun t64 w =>
  callP Try.prog (fnV 27) #[h0] w fun t66 w =>
  pureP Try.prog (Instr.indexAt 28 t64 t66) fun t67 =>
  pureP Try.prog (Instr.fieldAt 45 t67 1) fun t68 =>
  valP Try.prog (Instr.loadAt 3 t68) w fun t69 w =>
  m16_4 R (Value.int IntKind.i64 0) t69 w) ∧ (callP Try.prog (fnV 27) #[h0] w fun t66 w =>
  valP Try.prog (Instr.loadAt 28 t63) w fun t64 w =>
  pureP Try.prog (Instr.indexAt 28 t64 t66) fun t67 =>
  pureP Try.prog (Instr.fieldAt 45 t67 1) fun t68 =>
  valP Try.prog (Instr.loadAt 3 t68) w fun t69 w =>
  m16_4 R (Value.int IntKind.i64 0) t69 w)
def m16_5 (R : Value → World → Prop) (h0 : Value) (t60 : Value) (w : World) : Prop :=
  condP t60
  (m16_6 R (Value.int IntKind.i64 0) (Value.int IntKind.i64 0) w)
  (m16_3 R h0 w)
def m16_2 (R : Value → World → Prop) (h0 : Value) (w : World) : Prop :=
  nilCheckP h0 fun t52 =>
  valQ Try.prog (Instr.fieldAt 30 t52 2) w fun t53 =>
  valQ Try.prog (Instr.loadAt 28 t53) w fun t54 =>
  builtinQ Try.prog Builtin.len #[28] 3 #[false] #[t54] w fun t55 =>
  nilCheckP h0 fun t57 =>
  valQ Try.prog (Instr.fieldAt 30 t57 0) w fun t58 =>
  valQ Try.prog (Instr.loadAt 3 t58) w fun t59 =>
  valQ Try.prog (binS BinOp.lss 3 (Operand.tmp 55) (Operand.tmp 59) t55 t59) w fun t60 =>
  anyDraw w fun w =>
  m16_5 R h0 t60 w
def m16_13 (R : Value → World → Prop) (K1 : Value → World → Prop) (h0 : Value) (key1 : Value) (i6 : Value) (t13 : Value) (w : World) : Prop :=
  condP t13
  (m16_9 R K1 h0 key1 i6 w)
  (m16_2 R h0 w)
def m16_8 (R : Value → World → Prop) (K1 : Value → World → Prop) (h0 : Value) (key1 : Value) (i6 : Value) (w : World) : Prop :=
  nilCheckP h0 fun t9 =>
  valP Try.prog (Instr.fieldAt 30 t9 2) w fun t10 w =>
  valP Try.prog (Instr.loadAt 28 t10) w fun t11 w =>
  builtinP Try.prog Builtin.len #[28] 3 #[false] #[t11] w fun t12 w =>
  valP Try.prog (binS BinOp.lss 3 (Operand.tmp 7) (Operand.tmp 12) i6 t12) w fun t13 w =>
  m16_13 R K1 h0 key1 i6 t13 w
def m16_7 (R : Value → World → Prop) (h0 : Value) (key1 : Value) (i6 : Value) (w : World) : Prop :=
  loopP (fun (K1 : Value → World → Prop) (s : Value) w => m16_8 R K1 h0 key1 s w) i6 w
def m16_1 (R : Value → World → Prop) (h0 : Value) (key1 : Value) (w : World) : Prop :=
  m16_7 R h0 key1 (Value.int IntKind.i64 0) w
def m16_0 (R : Value → World → Prop) (h0 : Value) (key1 : Value) (w : World) : Prop :=
  m16_1 R h0 key1 w
abbrev W16 := cwp Try.prog (fun i => cond (Nat.beq i 6) 1 (cond (Nat.beq i 5) 1 (0)))
noncomputable def k16_0 : Code := (bodyOf Try.f16)
noncomputable def k16_1 : Code := (c2 k16_0)
noncomputable def k16_2 : Code := (c2 k16_1)
noncomputable def k16_3 : Code := (c2 k16_2)
noncomputable def k16_4 : Code := (c2 k16_3)
noncomputable def k16_5 : Code := (c2 (c1 k16_2))
noncomputable def k16_6 : Code := (c2 (c1 k16_5))
noncomputable def k16_7 : Code := (c2 (c1 k16_1))
noncomputable def k16_8 : Code := (c1 (c1 k16_7))
noncomputable def k16_9 : Code := (c2 k16_8)
noncomputable def k16_10 : Code := (c2 k16_9)
noncomputable def k16_11 : Code := (c2 (c1 (c1 k16_9)))
noncomputable def k16_12 : Code := (c2 (c1 k16_11))
noncomputable def k16_13 : Code := (c2 (c1 k16_8))
theorem s16_12 {R : Value → World → Prop} {K1 : Value → World → Prop} {Q : Exit → Env → World → Prop} (hR : ∀ e w, (R (Value.tuple #[(e 4), (e 5)]) w) → Q .ret e w) (e : Env) (w : World) (h : m16_12 R K1 (e 4) (e 5) w) : W16 k16_12 Q e w := by
  unfold m16_12 at h
  exact ret_ok (by kernel_rfl) (hR _ _ h)
theorem s16_10 {R : Value → World → Prop} {K1 : Value → World → Prop} {Q : Exit → Env → World → Prop} (hN : ∀ e w, (K1 (e 6) w) → Q .normal e w) (e : Env) (w : World) (h : m16_10 R K1 (e 0) (e 1) (e 6) w) : W16 k16_10 Q e w := by
  unfold m16_10 at h
  exact region_ok 3 (fun e w => K1 (e 6) w) (by kernel_rfl) (kcast (by kernel_rfl) h) hN (by kernel_rfl)
theorem s16_11 {R : Value → World → Prop} {K1 : Value → World → Prop} {Q : Exit → Env → World → Prop} (hN : ∀ e w, (m16_10 R K1 (e 0) (e 1) (e 6) w) → Q .normal e w) (hR : ∀ e w, (R (Value.tuple #[(e 4), (e 5)]) w) → Q .ret e w) (e : Env) (w : World) (h : m16_11 R K1 (e 0) (e 1) (e 6) (e 25) w) : W16 k16_11 Q e w := by
  unfold m16_11 at h
  refine cond_ok (Operand.tmp 25) (by kernel_rfl) h (fun h1 => ?_) (fun h1 => ?_)
  · refine seq_ok' (by kernel_rfl) ?_
    have hN' : ∀ e w, (m16_12 R K1 (e 4) (e 5) w) → (thenE (W16 k16_12 Q) Q) .normal e w := fun e w h => then_N (s16_12 (R := R) (Q := Q) (K1 := K1) hR e w h)
    have hN := hN'
    exact quiet_ok 5 (fun e w => m16_12 R K1 (e 4) (e 5) w) (by kernel_rfl) (by kernel_rfl) (by kernel_rfl) (kcast (by kernel_rfl) h1) hN (by kernel_rfl)
  · exact skip_ok (by kernel_rfl) (hN _ _ h1)
theorem s16_9 {R : Value → World → Prop} {K1 : Value → World → Prop} {Q : Exit → Env → World → Prop} (hN : ∀ e w, (K1 (e 6) w) → Q .normal e w) (hR : ∀ e w, (R (Value.tuple #[(e 4), (e 5)]) w) → Q .ret e w) (e : Env) (w : World) (h : m16_9 R K1 (e 0) (e 1) (e 6) w) : W16 k16_9 Q e w := by
  unfold m16_9 at h
  refine seq_ok' (by kernel_rfl) ?_
  have hN' : ∀ e w, (m16_10 R K1 (e 0) (e 1) (e 6) w) → (thenE (W16 k16_10 Q) Q) .normal e w := fun e w h => then_N (s16_10 (R := R) (Q := Q) (K1 := K1) hN e w h)
  have hR : ∀ e w, (R (Value.tuple #[(e 4), (e 5)]) w) → (thenE (W16 k16_10 Q) Q) .ret e w := fun e w h => then_R (hR e w h)
  have hN := hN'
  refine block_ok 1 (by kernel_rfl) ?_
  have hN : ∀ e w, (m16_10 R K1 (e 0) (e 1) (e 6) w) → (inBlockE 1 (thenE (W16 k16_10 Q) Q)) .normal e w := fun e w h => block_N (hN e w h)
  have hR : ∀ e w, (R (Value.tuple #[(e 4), (e 5)]) w) → (inBlockE 1 (thenE (W16 k16_10 Q) Q)) .ret e w := fun e w h => block_R (hR e w h)
  refine seq_ok' (by kernel_rfl) ?_
  have hN' : ∀ e w, (m16_11 R K1 (e 0) (e 1) (e 6) (e 25) w) → (thenE (W16 k16_11 (inBlockE 1 (thenE (W16 k16_10 Q) Q))) (inBlockE 1 (thenE (W16 k16_10 Q) Q))) .normal e w := fun e w h => then_N (s16_11 (R := R) (Q := (inBlockE 1 (thenE (W16 k16_10 Q) Q))) (K1 := K1) hN hR e w h)
  have hN := hN'
  exact region_ok 4 (fun e w => m16_11 R K1 (e 0) (e 1) (e 6) (e 25) w) (by kernel_rfl) (kcast (by kernel_rfl) h) hN (by kernel_rfl)
theorem s16_6 {R : Value → World → Prop} {Q : Exit → Env → World → Prop} (hR : ∀ e w, (R (Value.tuple #[(e 4), (e 5)]) w) → Q .ret e w) (e : Env) (w : World) (h : m16_6 R (e 4) (e 5) w) : W16 k16_6 Q e w := by
  unfold m16_6 at h
  exact ret_ok (by kernel_rfl) (hR _ _ h)
theorem s16_4 {R : Value → World → Prop} {Q : Exit → Env → World → Prop} (hR : ∀ e w, (R (Value.tuple #[(e 4), (e 5)]) w) → Q .ret e w) (e : Env) (w : World) (h : m16_4 R (e 4) (e 5) w) : W16 k16_4 Q e w := by
  unfold m16_4 at h
  exact ret_ok (by kernel_rfl) (hR _ _ h)
theorem s16_3 {R : Value → World → Prop} {Q : Exit → Env → World → Prop} (hR : ∀ e w, (R (Value.tuple #[(e 4), (e 5)]) w) → Q .ret e w) (e : Env) (w : World) (h : m16_3 R (e 0) w) : W16 k16_3 Q e w := by
  unfold m16_3 at h
  refine seq_ok' (by kernel_rfl) ?_
  have hN' : ∀ e w, (m16_4 R (e 4) (e 5) w) → (thenE (W16 k16_4 Q) Q) .normal e w := fun e w h => then_N (s16_4 (R := R) (Q := Q) hR e w h)
  have hN := hN'
  exact tree_ok 8 11 [false, false, false, false, false, false, false, false, false, false, false] (.take 0 [true, false, false, false, false, false, false, false, false, false, false] (.take 1 [true, true, false, false, false, false, false, false, false, false, false] (.take 2 [true, true, true, false, false, false, false, false, false, false, false] (.take 4 [true, true, true, false, true, false, false, false, false, false, false] (.alt 3 [true, true, true, true, true, false, false, false, false, false, false] (.alt 5 [true, true, true, true, true, true, false, false, false, false, false] (.take 6 [true, true, true, true, true, true, true, false, false, false, false] (.take 7 [true, true, true, true, true, true, true, true, false, false, false] (.take 9 [true, true, true, true, true, true, true, true, false, true, false] (.alt 8 [true, true, true, true, true, true, true, true, true, true, false] (.take 10 [true, true, true, true, true, true, true, true, true, true, true] .done) .stop)))) .stop) (.alt 5 [true, true, true, false, true, true, false, false, false, false, false] (.take 9 [true, true, true, false, true, true, false, false, false, true, false] (.alt 3 [true, true, true, true, true, true, false, false, false, true, false] (.take 6 [true, true, true, true, true, true, true, false, false, true, false] (.take 7 [true, true, true, true, true, true, true, true, false, true, false] (.alt 8 [true, true, true, true, true, true, true, true, true, true, false] (.take 10 [true, true, true, true, true, true, true, true, true, true, true] .done) .stop))) .stop)) .stop)))))) (fun e w => m16_4 R (e 4) (e 5) w) (by kernel_rfl) (by kernel_rfl) (by kernel_rfl) (by kernel_rfl) (by kernel_rfl) (by kernel_rfl) (kcast (by kernel_rfl) h) hN (by kernel_rfl)
theorem s16_5 {R : Value → World → Prop} {Q : Exit → Env → World → Prop} (hN : ∀ e w, (m16_3 R (e 0) w) → Q .normal e w) (hR : ∀ e w, (R (Value.tuple #[(e 4), (e 5)]) w) → Q .ret e w) (e : Env) (w : World) (h : m16_5 R (e 0) (e 60) w) : W16 k16_5 Q e w := by
  unfold m16_5 at h
  refine cond_ok (Operand.tmp 60) (by kernel_rfl) h (fun h1 => ?_) (fun h1 => ?_)
  · refine seq_ok' (by kernel_rfl) ?_
    have hN' : ∀ e w, (m16_6 R (e 4) (e 5) w) → (thenE (W16 k16_6 Q) Q) .normal e w := fun e w h => then_N (s16_6 (R := R) (Q := Q) hR e w h)
    have hN := hN'
    exact region_ok 7 (fun e w => m16_6 R (e 4) (e 5) w) (by kernel_rfl) (kcast (by kernel_rfl) h1) hN (by kernel_rfl)
  · exact skip_ok (by kernel_rfl) (hN _ _ h1)
theorem s16_2 {R : Value → World → Prop} {Q : Exit → Env → World → Prop} (hR : ∀ e w, (R (Value.tuple #[(e 4), (e 5)]) w) → Q .ret e w) (e : Env) (w : World) (h : m16_2 R (e 0) w) : W16 k16_2 Q e w := by
  unfold m16_2 at h
  refine seq_ok' (by kernel_rfl) ?_
  have hN' : ∀ e w, (m16_3 R (e 0) w) → (thenE (W16 k16_3 Q) Q) .normal e w := fun e w h => then_N (s16_3 (R := R) (Q := Q) hR e w h)
  have hR : ∀ e w, (R (Value.tuple #[(e 4), (e 5)]) w) → (thenE (W16 k16_3 Q) Q) .ret e w := fun e w h => then_R (hR e w h)
  have hN := hN'
  refine seq_ok' (by kernel_rfl) ?_
  have hN' : ∀ e w, (m16_5 R (e 0) (e 60) w) → (thenE (W16 k16_5 (thenE (W16 k16_3 Q) Q)) (thenE (W16 k16_3 Q) Q)) .normal e w := fun e w h => then_N (s16_5 (R := R) (Q := (thenE (W16 k16_3 Q) Q)) hN hR e w h)
  have hN := hN'
  exact quiet_ok 6 (fun e w => m16_5 R (e 0) (e 60) w) (by kernel_rfl) (by kernel_rfl) (by kernel_rfl) (kcast (by kernel_rfl) h) hN (by kernel_rfl)
theorem s16_13 {R : Value → World → Prop} {K1 : Value → World → Prop} {Q : Exit → Env → World → Prop} (hN : ∀ e w, (m16_9 R K1 (e 0) (e 1) (e 6) w) → Q .normal e w) (hX0 : ∀ e w, (m16_2 R (e 0) w) → Q (.exit 0) e w) (e : Env) (w : World) (h : m16_13 R K1 (e 0) (e 1) (e 6) (e 13) w) : W16 k16_13 Q e w := by
  unfold m16_13 at h
  refine cond_ok (Operand.tmp 13) (by kernel_rfl) h (fun h1 => ?_) (fun h1 => ?_)
  · exact skip_ok (by kernel_rfl) (hN _ _ h1)
  · exact exit_ok 0 (by kernel_rfl) (hX0 _ _ h1)
theorem s16_8 {R : Value → World → Prop} {K1 : Value → World → Prop} {Q : Exit → Env → World → Prop} (hN : ∀ e w, (K1 (e 6) w) → Q .normal e w) (hR : ∀ e w, (R (Value.tuple #[(e 4), (e 5)]) w) → Q .ret e w) (hX0 : ∀ e w, (m16_2 R (e 0) w) → Q (.exit 0) e w) (e : Env) (w : World) (h : m16_8 R K1 (e 0) (e 1) (e 6) w) : W16 k16_8 Q e w := by
  unfold m16_8 at h
  refine seq_ok' (by kernel_rfl) ?_
  have hN' : ∀ e w, (m16_9 R K1 (e 0) (e 1) (e 6) w) → (thenE (W16 k16_9 Q) Q) .normal e w := fun e w h => then_N (s16_9 (R := R) (Q := Q) (K1 := K1) hN hR e w h)
  have hX0 : ∀ e w, (m16_2 R (e 0) w) → (thenE (W16 k16_9 Q) Q) (.exit 0) e w := fun e w h => then_X (hX0 e w h)
  have hN := hN'
  refine seq_ok' (by kernel_rfl) ?_
  have hN' : ∀ e w, (m16_13 R K1 (e 0) (e 1) (e 6) (e 13) w) → (thenE (W16 k16_13 (thenE (W16 k16_9 Q) Q)) (thenE (W16 k16_9 Q) Q)) .normal e w := fun e w h => then_N (s16_13 (R := R) (Q := (thenE (W16 k16_9 Q) Q)) (K1 := K1) hN hX0 e w h)
  have hN := hN'
  exact region_ok 2 (fun e w => m16_13 R K1 (e 0) (e 1) (e 6) (e 13) w) (by kernel_rfl) (kcast (by kernel_rfl) h) hN (by kernel_rfl)
theorem s16_7 {R : Value → World → Prop} {Q : Exit → Env → World → Prop} (hN : ∀ e w, (m16_2 R (e 0) w) → Q .normal e w) (hR : ∀ e w, (R (Value.tuple #[(e 4), (e 5)]) w) → Q .ret e w) (e : Env) (w : World) (h : m16_7 R (e 0) (e 1) (e 6) w) : W16 k16_7 Q e w := by
  unfold m16_7 at h
  refine block_ok 0 (by kernel_rfl) ?_
  have hX0 : ∀ e w, (m16_2 R (e 0) w) → (inBlockE 0 Q) (.exit 0) e w := fun e w h => inBlock_same (Q := Q) 0 (hN e w h)
  have hR : ∀ e w, (R (Value.tuple #[(e 4), (e 5)]) w) → (inBlockE 0 Q) .ret e w := fun e w h => block_R (hR e w h)
  refine loop_ok' (fun (e : Env) => e 6) [0, 1] (by kernel_rfl) (by kernel_rfl) h (fun K e' w' hk h' => ?_)
  have r0 : e' 0 = e 0 := hk 0 (by decide)
  have r1 : e' 1 = e 1 := hk 1 (by decide)
  have hR : ∀ e w, (R (Value.tuple #[(e 4), (e 5)]) w) → (thenE (fun (e : Env) w => K (e 6) w) (inBlockE 0 Q)) .ret e w := fun e w h => then_R (hR e w h)
  have hX0 : ∀ e w, (m16_2 R (e 0) w) → (thenE (fun (e : Env) w => K (e 6) w) (inBlockE 0 Q)) (.exit 0) e w := fun e w h => then_X (hX0 e w h)
  exact s16_8 (R := R) (Q := (thenE (fun (e : Env) w => K (e 6) w) (inBlockE 0 Q))) (K1 := K) (fun _ _ h => then_N h) hR hX0 e' w' (by rw [r0, r1]; exact h')
theorem s16_1 {R : Value → World → Prop} {Q : Exit → Env → World → Prop} (hR : ∀ e w, (R (Value.tuple #[(e 4), (e 5)]) w) → Q .ret e w) (e : Env) (w : World) (h : m16_1 R (e 0) (e 1) w) : W16 k16_1 Q e w := by
  unfold m16_1 at h
  refine seq_ok' (by kernel_rfl) ?_
  have hN' : ∀ e w, (m16_2 R (e 0) w) → (thenE (W16 k16_2 Q) Q) .normal e w := fun e w h => then_N (s16_2 (R := R) (Q := Q) hR e w h)
  have hR : ∀ e w, (R (Value.tuple #[(e 4), (e 5)]) w) → (thenE (W16 k16_2 Q) Q) .ret e w := fun e w h => then_R (hR e w h)
  have hN := hN'
  refine seq_ok' (by kernel_rfl) ?_
  have hN' : ∀ e w, (m16_7 R (e 0) (e 1) (e 6) w) → (thenE (W16 k16_7 (thenE (W16 k16_2 Q) Q)) (thenE (W16 k16_2 Q) Q)) .normal e w := fun e w h => then_N (s16_7 (R := R) (Q := (thenE (W16 k16_2 Q) Q)) hN hR e w h)
  have hN := hN'
  exact region_ok 1 (fun e w => m16_7 R (e 0) (e 1) (e 6) w) (by kernel_rfl) (kcast (by kernel_rfl) h) hN (by kernel_rfl)
theorem s16_0 {R : Value → World → Prop} {Q : Exit → Env → World → Prop} (hR : ∀ e w, (R (Value.tuple #[(e 4), (e 5)]) w) → Q .ret e w) (e : Env) (w : World) (h : m16_0 R (e 0) (e 1) w) : W16 k16_0 Q e w := by
  unfold m16_0 at h
  refine seq_ok' (by kernel_rfl) ?_
  have hN' : ∀ e w, (m16_1 R (e 0) (e 1) w) → (thenE (W16 k16_1 Q) Q) .normal e w := fun e w h => then_N (s16_1 (R := R) (Q := Q) hR e w h)
  have hN := hN'
  exact region_ok 0 (fun e w => m16_1 R (e 0) (e 1) w) (by kernel_rfl) (kcast (by kernel_rfl) h) hN (by kernel_rfl)
abbrev m16 (R : Value → World → Prop) (h0 : Value) (key1 : Value) (w : World) : Prop := m16_0 R h0 key1 w
theorem s16 (h0 : Value) (key1 : Value) {R : Value → World → Prop} {w : World} (h : m16 R h0 key1 w) :
    Calls Try.prog 16 #[h0, key1] w fun e w' => ∃ v, e = .returned v ∧ R v w' :=
  calls_of_cwp (st := (fun i => cond (Nat.beq i 6) 1 (cond (Nat.beq i 5) 1 (0)))) (c := k16_0) (by kernel_rfl) Try.func16 (by kernel_rfl) (Nat.le_of_ble_eq_true (by kernel_rfl)) (by kernel_rfl)
    (s16_0 (R := R) (Q := endE Try.prog Try.f16 R) (fun e w h => kcast (by kernel_rfl) h) (argsE #[h0, key1]) w (kcast (by kernel_rfl) h))
/-! ### headgate/headgateref30.Same -/
def m18_13 (R : Value → World → Prop) (t4 : Value) (w : World) : Prop :=
  R t4 w
def m18_10 (R : Value → World → Prop) (K1 : Value → World → Prop) (t4 : Value) (w : World) : Prop :=
  R t4 w
def m18_8 (R : Value → World → Prop) (K1 : Value → World → Prop) (a0 : Value) (b1 : Value) (i5 : Value) (w : World) : Prop :=
  valP Try.prog (binS BinOp.add 3 (Operand.tmp 15) (Operand.const (Value.int IntKind.i64 1)) i5 (Value.int IntKind.i64 1)) w fun t16 w =>
  K1 t16 w
def m18_9 (R : Value → World → Prop) (K1 : Value → World → Prop) (a0 : Value) (b1 : Value) (i5 : Value) (t25 : Value) (w : World) : Prop :=
  condP t25
  (m18_10 R K1 (Value.bool false) w)
  (m18_8 R K1 a0 b1 i5 w)
def m18_7 (R : Value → World → Prop) (K1 : Value → World → Prop) (a0 : Value) (b1 : Value) (i5 : Value) (w : World) : Prop :=
  valQ Try.prog (Instr.indexAt 28 a0 i5) w fun t19 =>
  valQ Try.prog (Instr.loadAt 45 t19) w fun t20 =>
  valQ Try.prog (Instr.indexAt 28 b1 i5) w fun t23 =>
  valQ Try.prog (Instr.loadAt 45 t23) w fun t24 =>
  valQ Try.prog (binS BinOp.neq 45 (Operand.tmp 20) (Operand.tmp 24) t20 t24) w fun t25 =>
  anyDraw w fun w =>
  m18_9 R K1 a0 b1 i5 t25 w
def m18_4 (R : Value → World → Prop) (t4 : Value) (w : World) : Prop :=
  R t4 w
def m18_3 (R : Value → World → Prop) (w : World) : Prop :=
  m18_4 R (Value.bool true) w
def m18_11 (R : Value → World → Prop) (K1 : Value → World → Prop) (a0 : Value) (b1 : Value) (i5 : Value) (t14 : Value) (w : World) : Prop :=
  condP t14
  (m18_7 R K1 a0 b1 i5 w)
  (m18_3 R w)
def m18_6 (R : Value → World → Prop) (K1 : Value → World → Prop) (a0 : Value) (b1 : Value) (i5 : Value) (w : World) : Prop :=
  builtinP Try.prog Builtin.len #[28] 3 #[false] #[a0] w fun t13 w =>
  valP Try.prog (binS BinOp.lss 3 (Operand.tmp 11) (Operand.tmp 13) i5 t13) w fun t14 w =>
  m18_11 R K1 a0 b1 i5 t14 w
def m18_5 (R : Value → World → Prop) (a0 : Value) (b1 : Value) (i5 : Value) (w : World) : Prop :=
  loopP (fun (K1 : Value → World → Prop) (s : Value) w => m18_6 R K1 a0 b1 s w) i5 w
def m18_2 (R : Value → World → Prop) (a0 : Value) (b1 : Value) (w : World) : Prop :=
  m18_5 R a0 b1 (Value.int IntKind.i64 0) w
def m18_12 (R : Value → World → Prop) (a0 : Value) (b1 : Value) (t10 : Value) (w : World) : Prop :=
  condP t10
  (m18_13 R (Value.bool false) w)
  (m18_2 R a0 b1 w)
def m18_1 (R : Value → World → Prop) (a0 : Value) (b1 : Value) (w : World) : Prop :=
  builtinP Try.prog Builtin.len #[28] 3 #[false] #[a0] w fun t7 w =>
  builtinP Try.prog Builtin.len #[28] 3 #[false] #[b1] w fun t9 w =>
  valP Try.prog (binS BinOp.neq 3 (Operand.tmp 7) (Operand.tmp 9) t7 t9) w fun t10 w =>
  m18_12 R a0 b1 t10 w
def m18_0 (R : Value → World → Prop) (a0 : Value) (b1 : Value) (w : World) : Prop :=
  m18_1 R a0 b1 w
abbrev W18 := cwp Try.prog (fun i => cond (Nat.beq i 6) 1 (0))
noncomputable def k18_0 : Code := (bodyOf Try.f18)
noncomputable def k18_1 : Code := (c2 k18_0)
noncomputable def k18_2 : Code := (c2 k18_1)
noncomputable def k18_3 : Code := (c2 k18_2)
noncomputable def k18_4 : Code := (c2 k18_3)
noncomputable def k18_5 : Code := (c2 (c1 k18_2))
noncomputable def k18_6 : Code := (c1 (c1 k18_5))
noncomputable def k18_7 : Code := (c2 k18_6)
noncomputable def k18_8 : Code := (c2 k18_7)
noncomputable def k18_9 : Code := (c2 (c1 (c1 k18_7)))
noncomputable def k18_10 : Code := (c2 (c1 k18_9))
noncomputable def k18_11 : Code := (c2 (c1 k18_6))
noncomputable def k18_12 : Code := (c2 (c1 k18_1))
noncomputable def k18_13 : Code := (c2 (c1 k18_12))
theorem s18_13 {R : Value → World → Prop} {Q : Exit → Env → World → Prop} (hR : ∀ e w, (R (e 4) w) → Q .ret e w) (e : Env) (w : World) (h : m18_13 R (e 4) w) : W18 k18_13 Q e w := by
  unfold m18_13 at h
  exact ret_ok (by kernel_rfl) (hR _ _ h)
theorem s18_10 {R : Value → World → Prop} {K1 : Value → World → Prop} {Q : Exit → Env → World → Prop} (hR : ∀ e w, (R (e 4) w) → Q .ret e w) (e : Env) (w : World) (h : m18_10 R K1 (e 4) w) : W18 k18_10 Q e w := by
  unfold m18_10 at h
  exact ret_ok (by kernel_rfl) (hR _ _ h)
theorem s18_8 {R : Value → World → Prop} {K1 : Value → World → Prop} {Q : Exit → Env → World → Prop} (hN : ∀ e w, (K1 (e 5) w) → Q .normal e w) (e : Env) (w : World) (h : m18_8 R K1 (e 0) (e 1) (e 5) w) : W18 k18_8 Q e w := by
  unfold m18_8 at h
  exact region_ok 5 (fun e w => K1 (e 5) w) (by kernel_rfl) (kcast (by kernel_rfl) h) hN (by kernel_rfl)
theorem s18_9 {R : Value → World → Prop} {K1 : Value → World → Prop} {Q : Exit → Env → World → Prop} (hN : ∀ e w, (m18_8 R K1 (e 0) (e 1) (e 5) w) → Q .normal e w) (hR : ∀ e w, (R (e 4) w) → Q .ret e w) (e : Env) (w : World) (h : m18_9 R K1 (e 0) (e 1) (e 5) (e 25) w) : W18 k18_9 Q e w := by
  unfold m18_9 at h
  refine cond_ok (Operand.tmp 25) (by kernel_rfl) h (fun h1 => ?_) (fun h1 => ?_)
  · refine seq_ok' (by kernel_rfl) ?_
    have hN' : ∀ e w, (m18_10 R K1 (e 4) w) → (thenE (W18 k18_10 Q) Q) .normal e w := fun e w h => then_N (s18_10 (R := R) (Q := Q) (K1 := K1) hR e w h)
    have hN := hN'
    exact region_ok 7 (fun e w => m18_10 R K1 (e 4) w) (by kernel_rfl) (kcast (by kernel_rfl) h1) hN (by kernel_rfl)
  · exact skip_ok (by kernel_rfl) (hN _ _ h1)
theorem s18_7 {R : Value → World → Prop} {K1 : Value → World → Prop} {Q : Exit → Env → World → Prop} (hN : ∀ e w, (K1 (e 5) w) → Q .normal e w) (hR : ∀ e w, (R (e 4) w) → Q .ret e w) (e : Env) (w : World) (h : m18_7 R K1 (e 0) (e 1) (e 5) w) : W18 k18_7 Q e w := by
  unfold m18_7 at h
  refine seq_ok' (by kernel_rfl) ?_
  have hN' : ∀ e w, (m18_8 R K1 (e 0) (e 1) (e 5) w) → (thenE (W18 k18_8 Q) Q) .normal e w := fun e w h => then_N (s18_8 (R := R) (Q := Q) (K1 := K1) hN e w h)
  have hR : ∀ e w, (R (e 4) w) → (thenE (W18 k18_8 Q) Q) .ret e w := fun e w h => then_R (hR e w h)
  have hN := hN'
  refine block_ok 1 (by kernel_rfl) ?_
  have hN : ∀ e w, (m18_8 R K1 (e 0) (e 1) (e 5) w) → (inBlockE 1 (thenE (W18 k18_8 Q) Q)) .normal e w := fun e w h => block_N (hN e w h)
  have hR : ∀ e w, (R (e 4) w) → (inBlockE 1 (thenE (W18 k18_8 Q) Q)) .ret e w := fun e w h => block_R (hR e w h)
  refine seq_ok' (by kernel_rfl) ?_
  have hN' : ∀ e w, (m18_9 R K1 (e 0) (e 1) (e 5) (e 25) w) → (thenE (W18 k18_9 (inBlockE 1 (thenE (W18 k18_8 Q) Q))) (inBlockE 1 (thenE (W18 k18_8 Q) Q))) .normal e w := fun e w h => then_N (s18_9 (R := R) (Q := (inBlockE 1 (thenE (W18 k18_8 Q) Q))) (K1 := K1) hN hR e w h)
  have hN := hN'
  exact quiet_ok 6 (fun e w => m18_9 R K1 (e 0) (e 1) (e 5) (e 25) w) (by kernel_rfl) (by kernel_rfl) (by kernel_rfl) (kcast (by kernel_rfl) h) hN (by kernel_rfl)
theorem s18_4 {R : Value → World → Prop} {Q : Exit → Env → World → Prop} (hR : ∀ e w, (R (e 4) w) → Q .ret e w) (e : Env) (w : World) (h : m18_4 R (e 4) w) : W18 k18_4 Q e w := by
  unfold m18_4 at h
  exact ret_ok (by kernel_rfl) (hR _ _ h)
theorem s18_3 {R : Value → World → Prop} {Q : Exit → Env → World → Prop} (hR : ∀ e w, (R (e 4) w) → Q .ret e w) (e : Env) (w : World) (h : m18_3 R w) : W18 k18_3 Q e w := by
  unfold m18_3 at h
  refine seq_ok' (by kernel_rfl) ?_
  have hN' : ∀ e w, (m18_4 R (e 4) w) → (thenE (W18 k18_4 Q) Q) .normal e w := fun e w h => then_N (s18_4 (R := R) (Q := Q) hR e w h)
  have hN := hN'
  exact region_ok 8 (fun e w => m18_4 R (e 4) w) (by kernel_rfl) (kcast (by kernel_rfl) h) hN (by kernel_rfl)
theorem s18_11 {R : Value → World → Prop} {K1 : Value → World → Prop} {Q : Exit → Env → World → Prop} (hN : ∀ e w, (m18_7 R K1 (e 0) (e 1) (e 5) w) → Q .normal e w) (hX0 : ∀ e w, (m18_3 R w) → Q (.exit 0) e w) (e : Env) (w : World) (h : m18_11 R K1 (e 0) (e 1) (e 5) (e 14) w) : W18 k18_11 Q e w := by
  unfold m18_11 at h
  refine cond_ok (Operand.tmp 14) (by kernel_rfl) h (fun h1 => ?_) (fun h1 => ?_)
  · exact skip_ok (by kernel_rfl) (hN _ _ h1)
  · exact exit_ok 0 (by kernel_rfl) (hX0 _ _ h1)
theorem s18_6 {R : Value → World → Prop} {K1 : Value → World → Prop} {Q : Exit → Env → World → Prop} (hN : ∀ e w, (K1 (e 5) w) → Q .normal e w) (hR : ∀ e w, (R (e 4) w) → Q .ret e w) (hX0 : ∀ e w, (m18_3 R w) → Q (.exit 0) e w) (e : Env) (w : World) (h : m18_6 R K1 (e 0) (e 1) (e 5) w) : W18 k18_6 Q e w := by
  unfold m18_6 at h
  refine seq_ok' (by kernel_rfl) ?_
  have hN' : ∀ e w, (m18_7 R K1 (e 0) (e 1) (e 5) w) → (thenE (W18 k18_7 Q) Q) .normal e w := fun e w h => then_N (s18_7 (R := R) (Q := Q) (K1 := K1) hN hR e w h)
  have hX0 : ∀ e w, (m18_3 R w) → (thenE (W18 k18_7 Q) Q) (.exit 0) e w := fun e w h => then_X (hX0 e w h)
  have hN := hN'
  refine seq_ok' (by kernel_rfl) ?_
  have hN' : ∀ e w, (m18_11 R K1 (e 0) (e 1) (e 5) (e 14) w) → (thenE (W18 k18_11 (thenE (W18 k18_7 Q) Q)) (thenE (W18 k18_7 Q) Q)) .normal e w := fun e w h => then_N (s18_11 (R := R) (Q := (thenE (W18 k18_7 Q) Q)) (K1 := K1) hN hX0 e w h)
  have hN := hN'
  exact region_ok 4 (fun e w => m18_11 R K1 (e 0) (e 1) (e 5) (e 14) w) (by kernel_rfl) (kcast (by kernel_rfl) h) hN (by kernel_rfl)
theorem s18_5 {R : Value → World → Prop} {Q : Exit → Env → World → Prop} (hN : ∀ e w, (m18_3 R w) → Q .normal e w) (hR : ∀ e w, (R (e 4) w) → Q .ret e w) (e : Env) (w : World) (h : m18_5 R (e 0) (e 1) (e 5) w) : W18 k18_5 Q e w := by
  unfold m18_5 at h
  refine block_ok 0 (by kernel_rfl) ?_
  have hX0 : ∀ e w, (m18_3 R w) → (inBlockE 0 Q) (.exit 0) e w := fun e w h => inBlock_same (Q := Q) 0 (hN e w h)
  have hR : ∀ e w, (R (e 4) w) → (inBlockE 0 Q) .ret e w := fun e w h => block_R (hR e w h)
  refine loop_ok' (fun (e : Env) => e 5) [0, 1] (by kernel_rfl) (by kernel_rfl) h (fun K e' w' hk h' => ?_)
  have r0 : e' 0 = e 0 := hk 0 (by decide)
  have r1 : e' 1 = e 1 := hk 1 (by decide)
  have hR : ∀ e w, (R (e 4) w) → (thenE (fun (e : Env) w => K (e 5) w) (inBlockE 0 Q)) .ret e w := fun e w h => then_R (hR e w h)
  have hX0 : ∀ e w, (m18_3 R w) → (thenE (fun (e : Env) w => K (e 5) w) (inBlockE 0 Q)) (.exit 0) e w := fun e w h => then_X (hX0 e w h)
  exact s18_6 (R := R) (Q := (thenE (fun (e : Env) w => K (e 5) w) (inBlockE 0 Q))) (K1 := K) (fun _ _ h => then_N h) hR hX0 e' w' (by rw [r0, r1]; exact h')
theorem s18_2 {R : Value → World → Prop} {Q : Exit → Env → World → Prop} (hR : ∀ e w, (R (e 4) w) → Q .ret e w) (e : Env) (w : World) (h : m18_2 R (e 0) (e 1) w) : W18 k18_2 Q e w := by
  unfold m18_2 at h
  refine seq_ok' (by kernel_rfl) ?_
  have hN' : ∀ e w, (m18_3 R w) → (thenE (W18 k18_3 Q) Q) .normal e w := fun e w h => then_N (s18_3 (R := R) (Q := Q) hR e w h)
  have hR : ∀ e w, (R (e 4) w) → (thenE (W18 k18_3 Q) Q) .ret e w := fun e w h => then_R (hR e w h)
  have hN := hN'
  refine seq_ok' (by kernel_rfl) ?_
  have hN' : ∀ e w, (m18_5 R (e 0) (e 1) (e 5) w) → (thenE (W18 k18_5 (thenE (W18 k18_3 Q) Q)) (thenE (W18 k18_3 Q) Q)) .normal e w := fun e w h => then_N (s18_5 (R := R) (Q := (thenE (W18 k18_3 Q) Q)) hN hR e w h)
  have hN := hN'
  exact region_ok 3 (fun e w => m18_5 R (e 0) (e 1) (e 5) w) (by kernel_rfl) (kcast (by kernel_rfl) h) hN (by kernel_rfl)
theorem s18_12 {R : Value → World → Prop} {Q : Exit → Env → World → Prop} (hN : ∀ e w, (m18_2 R (e 0) (e 1) w) → Q .normal e w) (hR : ∀ e w, (R (e 4) w) → Q .ret e w) (e : Env) (w : World) (h : m18_12 R (e 0) (e 1) (e 10) w) : W18 k18_12 Q e w := by
  unfold m18_12 at h
  refine cond_ok (Operand.tmp 10) (by kernel_rfl) h (fun h1 => ?_) (fun h1 => ?_)
  · refine seq_ok' (by kernel_rfl) ?_
    have hN' : ∀ e w, (m18_13 R (e 4) w) → (thenE (W18 k18_13 Q) Q) .normal e w := fun e w h => then_N (s18_13 (R := R) (Q := Q) hR e w h)
    have hN := hN'
    exact region_ok 2 (fun e w => m18_13 R (e 4) w) (by kernel_rfl) (kcast (by kernel_rfl) h1) hN (by kernel_rfl)
  · exact skip_ok (by kernel_rfl) (hN _ _ h1)
theorem s18_1 {R : Value → World → Prop} {Q : Exit → Env → World → Prop} (hR : ∀ e w, (R (e 4) w) → Q .ret e w) (e : Env) (w : World) (h : m18_1 R (e 0) (e 1) w) : W18 k18_1 Q e w := by
  unfold m18_1 at h
  refine seq_ok' (by kernel_rfl) ?_
  have hN' : ∀ e w, (m18_2 R (e 0) (e 1) w) → (thenE (W18 k18_2 Q) Q) .normal e w := fun e w h => then_N (s18_2 (R := R) (Q := Q) hR e w h)
  have hR : ∀ e w, (R (e 4) w) → (thenE (W18 k18_2 Q) Q) .ret e w := fun e w h => then_R (hR e w h)
  have hN := hN'
  refine seq_ok' (by kernel_rfl) ?_
  have hN' : ∀ e w, (m18_12 R (e 0) (e 1) (e 10) w) → (thenE (W18 k18_12 (thenE (W18 k18_2 Q) Q)) (thenE (W18 k18_2 Q) Q)) .normal e w := fun e w h => then_N (s18_12 (R := R) (Q := (thenE (W18 k18_2 Q) Q)) hN hR e w h)
  have hN := hN'
  exact region_ok 1 (fun e w => m18_12 R (e 0) (e 1) (e 10) w) (by kernel_rfl) (kcast (by kernel_rfl) h) hN (by kernel_rfl)
theorem s18_0 {R : Value → World → Prop} {Q : Exit → Env → World → Prop} (hR : ∀ e w, (R (e 4) w) → Q .ret e w) (e : Env) (w : World) (h : m18_0 R (e 0) (e 1) w) : W18 k18_0 Q e w := by
  unfold m18_0 at h
  refine seq_ok' (by kernel_rfl) ?_
  have hN' : ∀ e w, (m18_1 R (e 0) (e 1) w) → (thenE (W18 k18_1 Q) Q) .normal e w := fun e w h => then_N (s18_1 (R := R) (Q := Q) hR e w h)
  have hN := hN'
  exact region_ok 0 (fun e w => m18_1 R (e 0) (e 1) w) (by kernel_rfl) (kcast (by kernel_rfl) h) hN (by kernel_rfl)
abbrev m18 (R : Value → World → Prop) (a0 : Value) (b1 : Value) (w : World) : Prop := m18_0 R a0 b1 w
theorem s18 (a0 : Value) (b1 : Value) {R : Value → World → Prop} {w : World} (h : m18 R a0 b1 w) :
    Calls Try.prog 18 #[a0, b1] w fun e w' => ∃ v, e = .returned v ∧ R v w' :=
  calls_of_cwp (st := (fun i => cond (Nat.beq i 6) 1 (0))) (c := k18_0) (by kernel_rfl) Try.func18 (by kernel_rfl) (Nat.le_of_ble_eq_true (by kernel_rfl)) (by kernel_rfl)
    (s18_0 (R := R) (Q := endE Try.prog Try.f18 R) (fun e w h => kcast (by kernel_rfl) h) (argsE #[a0, b1]) w (kcast (by kernel_rfl) h))
/-! ### (*headgate/headgateref30.Heavy).Top -/
def m20_22 (R : Value → World → Prop) (K1 : (Value × Value) → World → Prop) (K2 : (Value × Value) → World → Prop) (h0 : Value) (n1 : Value) (out5 : Value) (i6 : Value) (more7 : Value) (k8 : Value) (w : World) : Prop :=
  valP Try.prog (binS BinOp.add 3 (Operand.tmp 77) (Operand.const (Value.int IntKind.i64 1)) k8 (Value.int IntKind.i64 1)) w fun t78 w =>
  K2 (more7, t78) w
def m20_21 (R : Value → World → Prop) (K1 : (Value × Value) → World → Prop) (K2 : (Value × Value) → World → Prop) (h0 : Value) (n1 : Value) (out5 : Value) (i6 : Value) (more7 : Value) (k8 : Value) (w : World) : Prop :=
  valP Try.prog (Instr.indexAt 28 out5 k8) w fun t73 w =>
  valP Try.prog (Instr.loadAt 45 t73) w fun t74 w =>
  valP Try.prog (Instr.buildSlice 28 1 #[(0, t74)]) w fun t75 w =>
  builtinP Try.prog Builtin.append #[28, 28] 28 #[false, false] #[more7, t75] w fun t76 w =>
  m20_22 R K1 K2 h0 n1 out5 i6 t76 k8 w
def m20_14 (R : Value → World → Prop) (K1 : (Value × Value) → World → Prop) (h0 : Value) (n1 : Value) (out5 : Value) (i6 : Value) (w : World) : Prop :=
  valP Try.prog (binS BinOp.add 3 (Operand.tmp 16) (Operand.const (Value.int IntKind.i64 1)) i6 (Value.int IntKind.i64 1)) w fun t17 w =>
  K1 (out5, t17) w
def m20_19 (R : Value → World → Prop) (K1 : (Value × Value) → World → Prop) (h0 : Value) (n1 : Value) (i6 : Value) (more7 : Value) (w : World) : Prop :=
  m20_14 R K1 h0 n1 more7 i6 w
def m20_18 (R : Value → World → Prop) (K1 : (Value × Value) → World → Prop) (h0 : Value) (n1 : Value) (out5 : Value) (i6 : Value) (more7 : Value) (k8 : Value) (w : World) : Prop :=
  valP Try.prog (Instr.sliceAt 28 out5 (some k8) none none) w fun t92 w =>
  builtinP Try.prog Builtin.append #[28, 28] 28 #[false, false] #[more7, t92] w fun t93 w =>
  m20_19 R K1 h0 n1 i6 t93 w
def m20_17 (R : Value → World → Prop) (K1 : (Value × Value) → World → Prop) (h0 : Value) (n1 : Value) (out5 : Value) (i6 : Value) (more7 : Value) (k8 : Value) (w : World) : Prop :=
  nilCheckP h0 fun t81 =>
  valP Try.prog (Instr.fieldAt 30 t81 2) w fun t82 w =>
  valP Try.prog (Instr.loadAt 28 t82) w fun t83 w =>
  valP Try.prog (Instr.indexAt 28 t83 i6) w fun t85 w =>
  valP Try.prog (Instr.loadAt 45 t85) w fun t86 w =>
  valP Try.prog (Instr.buildSlice 28 1 #[(0, t86)]) w fun t87 w =>
  builtinP Try.prog Builtin.append #[28, 28] 28 #[false, false] #[more7, t87] w fun t88 w =>
  m20_18 R K1 h0 n1 out5 i6 t88 k8 w
def m20_23 (R : Value → World → Prop) (K1 : (Value × Value) → World → Prop) (K2 : (Value × Value) → World → Prop) (h0 : Value) (n1 : Value) (out5 : Value) (i6 : Value) (more7 : Value) (k8 : Value) (t69 : Value) (w : World) : Prop :=
  condP t69
  (m20_21 R K1 K2 h0 n1 out5 i6 more7 k8 w)
  (m20_17 R K1 h0 n1 out5 i6 more7 k8 w)
def m20_20 (R : Value → World → Prop) (K1 : (Value × Value) → World → Prop) (K2 : (Value × Value) → World → Prop) (h0 : Value) (n1 : Value) (out5 : Value) (i6 : Value) (more7 : Value) (k8 : Value) (w : World) : Prop :=
  builtinQ Try.prog Builtin.len #[28] 3 #[false] #[out5] w fun t20 =>
  valQ Try.prog (binS BinOp.lss 3 (Operand.tmp 18) (Operand.tmp 20) k8 t20) w fun t21 =>
  condP t21
  (valQ Try.prog (Instr.indexAt 28 out5 k8) w fun t25 =>
  valQ Try.prog (Instr.fieldAt 45 t25 1) w fun t26 =>
  valQ Try.prog (Instr.loadAt 3 t26) w fun t27 =>
  nilCheckP h0 fun t29 =>
  valQ Try.prog (Instr.fieldAt 30 t29 2) w fun t30 =>
  valQ Try.prog (Instr.loadAt 28 t30) w fun t31 =>
  valQ Try.prog (Instr.indexAt 28 t31 i6) w fun t33 =>
  valQ Try.prog (Instr.fieldAt 45 t33 1) w fun t34 =>
  valQ Try.prog (Instr.loadAt 3 t34) w fun t35 =>
  valQ Try.prog (binS BinOp.gtr 3 (Operand.tmp 27) (Operand.tmp 35) t27 t35) w fun t36 =>
  condP t36
  (pickP t36 (Value.bool true) undef fun t68 =>
  pickP t21 t68 (Value.bool false) fun t69 =>
  anyDraw w fun w =>
  m20_23 R K1 K2 h0 n1 out5 i6 more7 k8 t69 w)
  (valQ Try.prog (Instr.indexAt 28 out5 k8) w fun t40 =>
  valQ Try.prog (Instr.fieldAt 45 t40 1) w fun t41 =>
  valQ Try.prog (Instr.loadAt 3 t41) w fun t42 =>
  nilCheckP h0 fun t44 =>
  valQ Try.prog (Instr.fieldAt 30 t44 2) w fun t45 =>
  valQ Try.prog (Instr.loadAt 28 t45) w fun t46 =>
  valQ Try.prog (Instr.indexAt 28 t46 i6) w fun t48 =>
  valQ Try.prog (Instr.fieldAt 45 t48 1) w fun t49 =>
  valQ Try.prog (Instr.loadAt 3 t49) w fun t50 =>
  valQ Try.prog (binS BinOp.eql 3 (Operand.tmp 42) (Operand.tmp 50) t42 t50) w fun t51 =>
  condP t51
  (valQ Try.prog (Instr.indexAt 28 out5 k8) w fun t55 =>
  valQ Try.prog (Instr.fieldAt 45 t55 0) w fun t56 =>
  valQ Try.prog (Instr.loadAt 3 t56) w fun t57 =>
  nilCheckP h0 fun t59 =>
  valQ Try.prog (Instr.fieldAt 30 t59 2) w fun t60 =>
  valQ Try.prog (Instr.loadAt 28 t60) w fun t61 =>
  valQ Try.prog (Instr.indexAt 28 t61 i6) w fun t63 =>
  valQ Try.prog (Instr.fieldAt 45 t63 0) w fun t64 =>
  valQ Try.prog (Instr.loadAt 3 t64) w fun t65 =>
  valQ Try.prog (binS BinOp.lss 3 (Operand.tmp 57) (Operand.tmp 65) t57 t65) w fun t66 =>
  pickP t51 t66 (Value.bool false) fun t67 =>
  pickP t36 (Value.bool true) t67 fun t68 =>
  pickP t21 t68 (Value.bool false) fun t69 =>
  anyDraw w fun w =>
  m20_23 R K1 K2 h0 n1 out5 i6 more7 k8 t69 w)
  (pickP t51 undef (Value.bool false) fun t67 =>
  pickP t36 (Value.bool true) t67 fun t68 =>
  pickP t21 t68 (Value.bool false) fun t69 =>
  anyDraw w fun w =>
  m20_23 R K1 K2 h0 n1 out5 i6 more7 k8 t69 w)))
  (pickP t21 undef (Value.bool false) fun t69 =>
  anyDraw w fun w =>
  m20_23 R K1 K2 h0 n1 out5 i6 more7 k8 t69 w)
def m20_16 (R : Value → World → Prop) (K1 : (Value × Value) → World → Prop) (h0 : Value) (n1 : Value) (out5 : Value) (i6 : Value) (more7 : Value) (k8 : Value) (w : World) : Prop :=
  loopP (fun (K2 : (Value × Value) → World → Prop) (s : Value × Value) w => m20_20 R K1 K2 h0 n1 out5 i6 s.1 s.2 w) (more7, k8) w
def m20_15 (R : Value → World → Prop) (K1 : (Value × Value) → World → Prop) (h0 : Value) (n1 : Value) (out5 : Value) (i6 : Value) (more7 : Value) (w : World) : Prop :=
  m20_16 R K1 h0 n1 out5 i6 more7 (Value.int IntKind.i64 0) w
def m20_13 (R : Value → World → Prop) (K1 : (Value × Value) → World → Prop) (h0 : Value) (n1 : Value) (out5 : Value) (i6 : Value) (w : World) : Prop :=
  m20_15 R K1 h0 n1 out5 i6 (Value.slice none 0 0) w
def m20_10 (R : Value → World → Prop) (t4 : Value) (w : World) : Prop :=
  R t4 w
def m20_8 (R : Value → World → Prop) (t4 : Value) (w : World) : Prop :=
  R t4 w
def m20_6 (R : Value → World → Prop) (t4 : Value) (w : World) : Prop :=
  R t4 w
def m20_5 (R : Value → World → Prop) (out5 : Value) (w : World) : Prop :=
  m20_6 R out5 w
def m20_7 (R : Value → World → Prop) (n1 : Value) (out5 : Value) (t100 : Value) (w : World) : Prop :=
  condP t100
  (valP Try.prog (Instr.sliceAt 28 out5 none (some n1) none) w fun t103 w =>
  m20_8 R t103 w)
  (m20_5 R out5 w)
def m20_4 (R : Value → World → Prop) (n1 : Value) (out5 : Value) (w : World) : Prop :=
  builtinP Try.prog Builtin.len #[28] 3 #[false] #[out5] w fun t99 w =>
  valP Try.prog (binS BinOp.lss 3 (Operand.tmp 97) (Operand.tmp 99) n1 t99) w fun t100 w =>
  m20_7 R n1 out5 t100 w
def m20_9 (R : Value → World → Prop) (n1 : Value) (out5 : Value) (t96 : Value) (w : World) : Prop :=
  condP t96
  (m20_10 R (Value.slice none 0 0) w)
  (m20_4 R n1 out5 w)
def m20_3 (R : Value → World → Prop) (n1 : Value) (out5 : Value) (w : World) : Prop :=
  valP Try.prog (binS BinOp.leq 3 (Operand.tmp 95) (Operand.const (Value.int IntKind.i64 0)) n1 (Value.int IntKind.i64 0)) w fun t96 w =>
  m20_9 R n1 out5 t96 w
def m20_24 (R : Value → World → Prop) (K1 : (Value × Value) → World → Prop) (h0 : Value) (n1 : Value) (out5 : Value) (i6 : Value) (t15 : Value) (w : World) : Prop :=
  condP t15
  (m20_13 R K1 h0 n1 out5 i6 w)
  (m20_3 R n1 out5 w)
def m20_12 (R : Value → World → Prop) (K1 : (Value × Value) → World → Prop) (h0 : Value) (n1 : Value) (out5 : Value) (i6 : Value) (w : World) : Prop :=
  nilCheckP h0 fun t11 =>
  valP Try.prog (Instr.fieldAt 30 t11 2) w fun t12 w =>
  valP Try.prog (Instr.loadAt 28 t12) w fun t13 w =>
  builtinP Try.prog Builtin.len #[28] 3 #[false] #[t13] w fun t14 w =>
  valP Try.prog (binS BinOp.lss 3 (Operand.tmp 9) (Operand.tmp 14) i6 t14) w fun t15 w =>
  m20_24 R K1 h0 n1 out5 i6 t15 w
def m20_11 (R : Value → World → Prop) (h0 : Value) (n1 : Value) (out5 : Value) (i6 : Value) (w : World) : Prop :=
  loopP (fun (K1 : (Value × Value) → World → Prop) (s : Value × Value) w => m20_12 R K1 h0 n1 s.1 s.2 w) (out5, i6) w
def m20_2 (R : Value → World → Prop) (h0 : Value) (n1 : Value) (out5 : Value) (w : World) : Prop :=
  m20_11 R h0 n1 out5 (Value.int IntKind.i64 0) w
def m20_1 (R : Value → World → Prop) (h0 : Value) (n1 : Value) (w : World) : Prop :=
  m20_2 R h0 n1 (Value.slice none 0 0) w
def m20_0 (R : Value → World → Prop) (h0 : Value) (n1 : Value) (w : World) : Prop :=
  m20_1 R h0 n1 w
abbrev W20 := cwp Try.prog (fun i => cond (Nat.beq i 7) 1 (0))
noncomputable def k20_0 : Code := (bodyOf Try.f20)
noncomputable def k20_1 : Code := (c2 k20_0)
noncomputable def k20_2 : Code := (c2 k20_1)
noncomputable def k20_3 : Code := (c2 k20_2)
noncomputable def k20_4 : Code := (c2 k20_3)
noncomputable def k20_5 : Code := (c2 k20_4)
noncomputable def k20_6 : Code := (c2 k20_5)
noncomputable def k20_7 : Code := (c2 (c1 k20_4))
noncomputable def k20_8 : Code := (c2 (c1 k20_7))
noncomputable def k20_9 : Code := (c2 (c1 k20_3))
noncomputable def k20_10 : Code := (c2 (c1 k20_9))
noncomputable def k20_11 : Code := (c2 (c1 k20_2))
noncomputable def k20_12 : Code := (c1 (c1 k20_11))
noncomputable def k20_13 : Code := (c2 k20_12)
noncomputable def k20_14 : Code := (c2 k20_13)
noncomputable def k20_15 : Code := (c2 (c1 (c1 k20_13)))
noncomputable def k20_16 : Code := (c2 k20_15)
noncomputable def k20_17 : Code := (c2 k20_16)
noncomputable def k20_18 : Code := (c2 k20_17)
noncomputable def k20_19 : Code := (c2 k20_18)
noncomputable def k20_20 : Code := (c1 (c1 (c1 k20_16)))
noncomputable def k20_21 : Code := (c2 k20_20)
noncomputable def k20_22 : Code := (c2 (c1 k20_21))
noncomputable def k20_23 : Code := (c2 (c1 k20_20))
noncomputable def k20_24 : Code := (c2 (c1 k20_12))
theorem s20_22 {R : Value → World → Prop} {K1 : (Value × Value) → World → Prop} {K2 : (Value × Value) → World → Prop} {Q : Exit → Env → World → Prop} (hN : ∀ e w, (K2 ((e 7), (e 8)) w) → Q .normal e w) (e : Env) (w : World) (h : m20_22 R K1 K2 (e 0) (e 1) (e 5) (e 6) (e 7) (e 8) w) : W20 k20_22 Q e w := by
  unfold m20_22 at h
  exact region_ok 9 (fun e w => K2 ((e 7), (e 8)) w) (by kernel_rfl) (kcast (by kernel_rfl) h) hN (by kernel_rfl)
theorem s20_21 {R : Value → World → Prop} {K1 : (Value × Value) → World → Prop} {K2 : (Value × Value) → World → Prop} {Q : Exit → Env → World → Prop} (hN : ∀ e w, (K2 ((e 7), (e 8)) w) → Q .normal e w) (e : Env) (w : World) (h : m20_21 R K1 K2 (e 0) (e 1) (e 5) (e 6) (e 7) (e 8) w) : W20 k20_21 Q e w := by
  unfold m20_21 at h
  refine block_ok 3 (by kernel_rfl) ?_
  have hN : ∀ e w, (K2 ((e 7), (e 8)) w) → (inBlockE 3 Q) .normal e w := fun e w h => block_N (hN e w h)
  refine seq_ok' (by kernel_rfl) ?_
  have hN' : ∀ e w, (m20_22 R K1 K2 (e 0) (e 1) (e 5) (e 6) (e 7) (e 8) w) → (thenE (W20 k20_22 (inBlockE 3 Q)) (inBlockE 3 Q)) .normal e w := fun e w h => then_N (s20_22 (R := R) (Q := (inBlockE 3 Q)) (K1 := K1) (K2 := K2) hN e w h)
  have hN := hN'
  exact region_ok 8 (fun e w => m20_22 R K1 K2 (e 0) (e 1) (e 5) (e 6) (e 7) (e 8) w) (by kernel_rfl) (kcast (by kernel_rfl) h) hN (by kernel_rfl)
theorem s20_14 {R : Value → World → Prop} {K1 : (Value × Value) → World → Prop} {Q : Exit → Env → World → Prop} (hN : ∀ e w, (K1 ((e 5), (e 6)) w) → Q .normal e w) (e : Env) (w : World) (h : m20_14 R K1 (e 0) (e 1) (e 5) (e 6) w) : W20 k20_14 Q e w := by
  unfold m20_14 at h
  exact region_ok 4 (fun e w => K1 ((e 5), (e 6)) w) (by kernel_rfl) (kcast (by kernel_rfl) h) hN (by kernel_rfl)
theorem s20_19 {R : Value → World → Prop} {K1 : (Value × Value) → World → Prop} {Q : Exit → Env → World → Prop} (hN : ∀ e w, (m20_14 R K1 (e 0) (e 1) (e 5) (e 6) w) → Q .normal e w) (e : Env) (w : World) (h : m20_19 R K1 (e 0) (e 1) (e 6) (e 7) w) : W20 k20_19 Q e w := by
  unfold m20_19 at h
  exact region_ok 12 (fun e w => m20_14 R K1 (e 0) (e 1) (e 5) (e 6) w) (by kernel_rfl) (kcast (by kernel_rfl) h) hN (by kernel_rfl)
theorem s20_18 {R : Value → World → Prop} {K1 : (Value × Value) → World → Prop} {Q : Exit → Env → World → Prop} (hN : ∀ e w, (m20_14 R K1 (e 0) (e 1) (e 5) (e 6) w) → Q .normal e w) (e : Env) (w : World) (h : m20_18 R K1 (e 0) (e 1) (e 5) (e 6) (e 7) (e 8) w) : W20 k20_18 Q e w := by
  unfold m20_18 at h
  refine seq_ok' (by kernel_rfl) ?_
  have hN' : ∀ e w, (m20_19 R K1 (e 0) (e 1) (e 6) (e 7) w) → (thenE (W20 k20_19 Q) Q) .normal e w := fun e w h => then_N (s20_19 (R := R) (Q := Q) (K1 := K1) hN e w h)
  have hN := hN'
  exact region_ok 11 (fun e w => m20_19 R K1 (e 0) (e 1) (e 6) (e 7) w) (by kernel_rfl) (kcast (by kernel_rfl) h) hN (by kernel_rfl)
theorem s20_17 {R : Value → World → Prop} {K1 : (Value × Value) → World → Prop} {Q : Exit → Env → World → Prop} (hN : ∀ e w, (m20_14 R K1 (e 0) (e 1) (e 5) (e 6) w) → Q .normal e w) (e : Env) (w : World) (h : m20_17 R K1 (e 0) (e 1) (e 5) (e 6) (e 7) (e 8) w) : W20 k20_17 Q e w := by
  unfold m20_17 at h
  refine seq_ok' (by kernel_rfl) ?_
  have hN' : ∀ e w, (m20_18 R K1 (e 0) (e 1) (e 5) (e 6) (e 7) (e 8) w) → (thenE (W20 k20_18 Q) Q) .normal e w := fun e w h => then_N (s20_18 (R := R) (Q := Q) (K1 := K1) hN e w h)
  have hN := hN'
  exact region_ok 10 (fun e w => m20_18 R K1 (e 0) (e 1) (e 5) (e 6) (e 7) (e 8) w) (by kernel_rfl) (kcast (by kernel_rfl) h) hN (by kernel_rfl)
theorem s20_23 {R : Value → World → Prop} {K1 : (Value × Value) → World → Prop} {K2 : (Value × Value) → World → Prop} {Q : Exit → Env → World → Prop} (hN : ∀ e w, (m20_21 R K1 K2 (e 0) (e 1) (e 5) (e 6) (e 7) (e 8) w) → Q .normal e w) (hX2 : ∀ e w, (m20_17 R K1 (e 0) (e 1) (e 5) (e 6) (e 7) (e 8) w) → Q (.exit 2) e w) (e : Env) (w : World) (h : m20_23 R K1 K2 (e 0) (e 1) (e 5) (e 6) (e 7) (e 8) (e 69) w) : W20 k20_23 Q e w := by
  unfold m20_23 at h
  refine cond_ok (Operand.tmp 69) (by kernel_rfl) h (fun h1 => ?_) (fun h1 => ?_)
  · exact skip_ok (by kernel_rfl) (hN _ _ h1)
  · exact exit_ok 2 (by kernel_rfl) (hX2 _ _ h1)
theorem s20_20 {R : Value → World → Prop} {K1 : (Value × Value) → World → Prop} {K2 : (Value × Value) → World → Prop} {Q : Exit → Env → World → Prop} (hN : ∀ e w, (K2 ((e 7), (e 8)) w) → Q .normal e w) (hX2 : ∀ e w, (m20_17 R K1 (e 0) (e 1) (e 5) (e 6) (e 7) (e 8) w) → Q (.exit 2) e w) (e : Env) (w : World) (h : m20_20 R K1 K2 (e 0) (e 1) (e 5) (e 6) (e 7) (e 8) w) : W20 k20_20 Q e w := by
  unfold m20_20 at h
  refine seq_ok' (by kernel_rfl) ?_
  have hN' : ∀ e w, (m20_21 R K1 K2 (e 0) (e 1) (e 5) (e 6) (e 7) (e 8) w) → (thenE (W20 k20_21 Q) Q) .normal e w := fun e w h => then_N (s20_21 (R := R) (Q := Q) (K1 := K1) (K2 := K2) hN e w h)
  have hX2 : ∀ e w, (m20_17 R K1 (e 0) (e 1) (e 5) (e 6) (e 7) (e 8) w) → (thenE (W20 k20_21 Q) Q) (.exit 2) e w := fun e w h => then_X (hX2 e w h)
  have hN := hN'
  refine seq_ok' (by kernel_rfl) ?_
  have hN' : ∀ e w, (m20_23 R K1 K2 (e 0) (e 1) (e 5) (e 6) (e 7) (e 8) (e 69) w) → (thenE (W20 k20_23 (thenE (W20 k20_21 Q) Q)) (thenE (W20 k20_21 Q) Q)) .normal e w := fun e w h => then_N (s20_23 (R := R) (Q := (thenE (W20 k20_21 Q) Q)) (K1 := K1) (K2 := K2) hN hX2 e w h)
  have hN := hN'
  exact quiet_ok 7 (fun e w => m20_23 R K1 K2 (e 0) (e 1) (e 5) (e 6) (e 7) (e 8) (e 69) w) (by kernel_rfl) (by kernel_rfl) (by kernel_rfl) (kcast (by kernel_rfl) h) hN (by kernel_rfl)
theorem s20_16 {R : Value → World → Prop} {K1 : (Value × Value) → World → Prop} {Q : Exit → Env → World → Prop} (hN : ∀ e w, (m20_14 R K1 (e 0) (e 1) (e 5) (e 6) w) → Q .normal e w) (e : Env) (w : World) (h : m20_16 R K1 (e 0) (e 1) (e 5) (e 6) (e 7) (e 8) w) : W20 k20_16 Q e w := by
  unfold m20_16 at h
  refine seq_ok' (by kernel_rfl) ?_
  have hN' : ∀ e w, (m20_17 R K1 (e 0) (e 1) (e 5) (e 6) (e 7) (e 8) w) → (thenE (W20 k20_17 Q) Q) .normal e w := fun e w h => then_N (s20_17 (R := R) (Q := Q) (K1 := K1) hN e w h)
  have hN := hN'
  refine block_ok 2 (by kernel_rfl) ?_
  have hX2 : ∀ e w, (m20_17 R K1 (e 0) (e 1) (e 5) (e 6) (e 7) (e 8) w) → (inBlockE 2 (thenE (W20 k20_17 Q) Q)) (.exit 2) e w := fun e w h => inBlock_same (Q := (thenE (W20 k20_17 Q) Q)) 2 (hN e w h)
  refine loop_ok' (fun (e : Env) => (e 7, e 8)) [0, 1, 5, 6] (by kernel_rfl) (by kernel_rfl) h (fun K e' w' hk h' => ?_)
  have r0 : e' 0 = e 0 := hk 0 (by decide)
  have r1 : e' 1 = e 1 := hk 1 (by decide)
  have r5 : e' 5 = e 5 := hk 5 (by decide)
  have r6 : e' 6 = e 6 := hk 6 (by decide)
  have hX2 : ∀ e w, (m20_17 R K1 (e 0) (e 1) (e 5) (e 6) (e 7) (e 8) w) → (thenE (fun (e : Env) w => K ((e 7), (e 8)) w) (inBlockE 2 (thenE (W20 k20_17 Q) Q))) (.exit 2) e w := fun e w h => then_X (hX2 e w h)
  exact s20_20 (R := R) (Q := (thenE (fun (e : Env) w => K ((e 7), (e 8)) w) (inBlockE 2 (thenE (W20 k20_17 Q) Q)))) (K1 := K1) (K2 := K) (fun _ _ h => then_N h) hX2 e' w' (by rw [r0, r1, r5, r6]; exact h')
theorem s20_15 {R : Value → World → Prop} {K1 : (Value × Value) → World → Prop} {Q : Exit → Env → World → Prop} (hN : ∀ e w, (m20_14 R K1 (e 0) (e 1) (e 5) (e 6) w) → Q .normal e w) (e : Env) (w : World) (h : m20_15 R K1 (e 0) (e 1) (e 5) (e 6) (e 7) w) : W20 k20_15 Q e w := by
  unfold m20_15 at h
  refine seq_ok' (by kernel_rfl) ?_
  have hN' : ∀ e w, (m20_16 R K1 (e 0) (e 1) (e 5) (e 6) (e 7) (e 8) w) → (thenE (W20 k20_16 Q) Q) .normal e w := fun e w h => then_N (s20_16 (R := R) (Q := Q) (K1 := K1) hN e w h)
  have hN := hN'
  exact region_ok 6 (fun e w => m20_16 R K1 (e 0) (e 1) (e 5) (e 6) (e 7) (e 8) w) (by kernel_rfl) (kcast (by kernel_rfl) h) hN (by kernel_rfl)
theorem s20_13 {R : Value → World → Prop} {K1 : (Value × Value) → World → Prop} {Q : Exit → Env → World → Prop} (hN : ∀ e w, (K1 ((e 5), (e 6)) w) → Q .normal e w) (e : Env) (w : World) (h : m20_13 R K1 (e 0) (e 1) (e 5) (e 6) w) : W20 k20_13 Q e w := by
  unfold m20_13 at h
  refine seq_ok' (by kernel_rfl) ?_
  have hN' : ∀ e w, (m20_14 R K1 (e 0) (e 1) (e 5) (e 6) w) → (thenE (W20 k20_14 Q) Q) .normal e w := fun e w h => then_N (s20_14 (R := R) (Q := Q) (K1 := K1) hN e w h)
  have hN := hN'
  refine block_ok 1 (by kernel_rfl) ?_
  have hN : ∀ e w, (m20_14 R K1 (e 0) (e 1) (e 5) (e 6) w) → (inBlockE 1 (thenE (W20 k20_14 Q) Q)) .normal e w := fun e w h => block_N (hN e w h)
  refine seq_ok' (by kernel_rfl) ?_
  have hN' : ∀ e w, (m20_15 R K1 (e 0) (e 1) (e 5) (e 6) (e 7) w) → (thenE (W20 k20_15 (inBlockE 1 (thenE (W20 k20_14 Q) Q))) (inBlockE 1 (thenE (W20 k20_14 Q) Q))) .normal e w := fun e w h => then_N (s20_15 (R := R) (Q := (inBlockE 1 (thenE (W20 k20_14 Q) Q))) (K1 := K1) hN e w h)
  have hN := hN'
  exact region_ok 5 (fun e w => m20_15 R K1 (e 0) (e 1) (e 5) (e 6) (e 7) w) (by kernel_rfl) (kcast (by kernel_rfl) h) hN (by kernel_rfl)
theorem s20_10 {R : Value → World → Prop} {Q : Exit → Env → World → Prop} (hR : ∀ e w, (R (e 4) w) → Q .ret e w) (e : Env) (w : World) (h : m20_10 R (e 4) w) : W20 k20_10 Q e w := by
  unfold m20_10 at h
  exact ret_ok (by kernel_rfl) (hR _ _ h)
theorem s20_8 {R : Value → World → Prop} {Q : Exit → Env → World → Prop} (hR : ∀ e w, (R (e 4) w) → Q .ret e w) (e : Env) (w : World) (h : m20_8 R (e 4) w) : W20 k20_8 Q e w := by
  unfold m20_8 at h
  exact ret_ok (by kernel_rfl) (hR _ _ h)
theorem s20_6 {R : Value → World → Prop} {Q : Exit → Env → World → Prop} (hR : ∀ e w, (R (e 4) w) → Q .ret e w) (e : Env) (w : World) (h : m20_6 R (e 4) w) : W20 k20_6 Q e w := by
  unfold m20_6 at h
  exact ret_ok (by kernel_rfl) (hR _ _ h)
theorem s20_5 {R : Value → World → Prop} {Q : Exit → Env → World → Prop} (hR : ∀ e w, (R (e 4) w) → Q .ret e w) (e : Env) (w : World) (h : m20_5 R (e 5) w) : W20 k20_5 Q e w := by
  unfold m20_5 at h
  refine seq_ok' (by kernel_rfl) ?_
  have hN' : ∀ e w, (m20_6 R (e 4) w) → (thenE (W20 k20_6 Q) Q) .normal e w := fun e w h => then_N (s20_6 (R := R) (Q := Q) hR e w h)
  have hN := hN'
  exact region_ok 17 (fun e w => m20_6 R (e 4) w) (by kernel_rfl) (kcast (by kernel_rfl) h) hN (by kernel_rfl)
theorem s20_7 {R : Value → World → Prop} {Q : Exit → Env → World → Prop} (hN : ∀ e w, (m20_5 R (e 5) w) → Q .normal e w) (hR : ∀ e w, (R (e 4) w) → Q .ret e w) (e : Env) (w : World) (h : m20_7 R (e 1) (e 5) (e 100) w) : W20 k20_7 Q e w := by
  unfold m20_7 at h
  refine cond_ok (Operand.tmp 100) (by kernel_rfl) h (fun h1 => ?_) (fun h1 => ?_)
  · refine seq_ok' (by kernel_rfl) ?_
    have hN' : ∀ e w, (m20_8 R (e 4) w) → (thenE (W20 k20_8 Q) Q) .normal e w := fun e w h => then_N (s20_8 (R := R) (Q := Q) hR e w h)
    have hN := hN'
    exact region_ok 16 (fun e w => m20_8 R (e 4) w) (by kernel_rfl) (kcast (by kernel_rfl) h1) hN (by kernel_rfl)
  · exact skip_ok (by kernel_rfl) (hN _ _ h1)
theorem s20_4 {R : Value → World → Prop} {Q : Exit → Env → World → Prop} (hR : ∀ e w, (R (e 4) w) → Q .ret e w) (e : Env) (w : World) (h : m20_4 R (e 1) (e 5) w) : W20 k20_4 Q e w := by
  unfold m20_4 at h
  refine seq_ok' (by kernel_rfl) ?_
  have hN' : ∀ e w, (m20_5 R (e 5) w) → (thenE (W20 k20_5 Q) Q) .normal e w := fun e w h => then_N (s20_5 (R := R) (Q := Q) hR e w h)
  have hR : ∀ e w, (R (e 4) w) → (thenE (W20 k20_5 Q) Q) .ret e w := fun e w h => then_R (hR e w h)
  have hN := hN'
  refine seq_ok' (by kernel_rfl) ?_
  have hN' : ∀ e w, (m20_7 R (e 1) (e 5) (e 100) w) → (thenE (W20 k20_7 (thenE (W20 k20_5 Q) Q)) (thenE (W20 k20_5 Q) Q)) .normal e w := fun e w h => then_N (s20_7 (R := R) (Q := (thenE (W20 k20_5 Q) Q)) hN hR e w h)
  have hN := hN'
  exact region_ok 15 (fun e w => m20_7 R (e 1) (e 5) (e 100) w) (by kernel_rfl) (kcast (by kernel_rfl) h) hN (by kernel_rfl)
theorem s20_9 {R : Value → World → Prop} {Q : Exit → Env → World → Prop} (hN : ∀ e w, (m20_4 R (e 1) (e 5) w) → Q .normal e w) (hR : ∀ e w, (R (e 4) w) → Q .ret e w) (e : Env) (w : World) (h : m20_9 R (e 1) (e 5) (e 96) w) : W20 k20_9 Q e w := by
  unfold m20_9 at h
  refine cond_ok (Operand.tmp 96) (by kernel_rfl) h (fun h1 => ?_) (fun h1 => ?_)
  · refine seq_ok' (by kernel_rfl) ?_
    have hN' : ∀ e w, (m20_10 R (e 4) w) → (thenE (W20 k20_10 Q) Q) .normal e w := fun e w h => then_N (s20_10 (R := R) (Q := Q) hR e w h)
    have hN := hN'
    exact region_ok 14 (fun e w => m20_10 R (e 4) w) (by kernel_rfl) (kcast (by kernel_rfl) h1) hN (by kernel_rfl)
  · exact skip_ok (by kernel_rfl) (hN _ _ h1)
theorem s20_3 {R : Value → World → Prop} {Q : Exit → Env → World → Prop} (hR : ∀ e w, (R (e 4) w) → Q .ret e w) (e : Env) (w : World) (h : m20_3 R (e 1) (e 5) w) : W20 k20_3 Q e w := by
  unfold m20_3 at h
  refine seq_ok' (by kernel_rfl) ?_
  have hN' : ∀ e w, (m20_4 R (e 1) (e 5) w) → (thenE (W20 k20_4 Q) Q) .normal e w := fun e w h => then_N (s20_4 (R := R) (Q := Q) hR e w h)
  have hR : ∀ e w, (R (e 4) w) → (thenE (W20 k20_4 Q) Q) .ret e w := fun e w h => then_R (hR e w h)
  have hN := hN'
  refine seq_ok' (by kernel_rfl) ?_
  have hN' : ∀ e w, (m20_9 R (e 1) (e 5) (e 96) w) → (thenE (W20 k20_9 (thenE (W20 k20_4 Q) Q)) (thenE (W20 k20_4 Q) Q)) .normal e w := fun e w h => then_N (s20_9 (R := R) (Q := (thenE (W20 k20_4 Q) Q)) hN hR e w h)
  have hN := hN'
  exact region_ok 13 (fun e w => m20_9 R (e 1) (e 5) (e 96) w) (by kernel_rfl) (kcast (by kernel_rfl) h) hN (by kernel_rfl)
theorem s20_24 {R : Value → World → Prop} {K1 : (Value × Value) → World → Prop} {Q : Exit → Env → World → Prop} (hN : ∀ e w, (m20_13 R K1 (e 0) (e 1) (e 5) (e 6) w) → Q .normal e w) (hX0 : ∀ e w, (m20_3 R (e 1) (e 5) w) → Q (.exit 0) e w) (e : Env) (w : World) (h : m20_24 R K1 (e 0) (e 1) (e 5) (e 6) (e 15) w) : W20 k20_24 Q e w := by
  unfold m20_24 at h
  refine cond_ok (Operand.tmp 15) (by kernel_rfl) h (fun h1 => ?_) (fun h1 => ?_)
  · exact skip_ok (by kernel_rfl) (hN _ _ h1)
  · exact exit_ok 0 (by kernel_rfl) (hX0 _ _ h1)
theorem s20_12 {R : Value → World → Prop} {K1 : (Value × Value) → World → Prop} {Q : Exit → Env → World → Prop} (hN : ∀ e w, (K1 ((e 5), (e 6)) w) → Q .normal e w) (hX0 : ∀ e w, (m20_3 R (e 1) (e 5) w) → Q (.exit 0) e w) (e : Env) (w : World) (h : m20_12 R K1 (e 0) (e 1) (e 5) (e 6) w) : W20 k20_12 Q e w := by
  unfold m20_12 at h
  refine seq_ok' (by kernel_rfl) ?_
  have hN' : ∀ e w, (m20_13 R K1 (e 0) (e 1) (e 5) (e 6) w) → (thenE (W20 k20_13 Q) Q) .normal e w := fun e w h => then_N (s20_13 (R := R) (Q := Q) (K1 := K1) hN e w h)
  have hX0 : ∀ e w, (m20_3 R (e 1) (e 5) w) → (thenE (W20 k20_13 Q) Q) (.exit 0) e w := fun e w h => then_X (hX0 e w h)
  have hN := hN'
  refine seq_ok' (by kernel_rfl) ?_
  have hN' : ∀ e w, (m20_24 R K1 (e 0) (e 1) (e 5) (e 6) (e 15) w) → (thenE (W20 k20_24 (thenE (W20 k20_13 Q) Q)) (thenE (W20 k20_13 Q) Q)) .normal e w := fun e w h => then_N (s20_24 (R := R) (Q := (thenE (W20 k20_13 Q) Q)) (K1 := K1) hN hX0 e w h)
  have hN := hN'
  exact region_ok 3 (fun e w => m20_24 R K1 (e 0) (e 1) (e 5) (e 6) (e 15) w) (by kernel_rfl) (kcast (by kernel_rfl) h) hN (by kernel_rfl)
theorem s20_11 {R : Value → World → Prop} {Q : Exit → Env → World → Prop} (hN : ∀ e w, (m20_3 R (e 1) (e 5) w) → Q .normal e w) (e : Env) (w : World) (h : m20_11 R (e 0) (e 1) (e 5) (e 6) w) : W20 k20_11 Q e w := by
  unfold m20_11 at h
  refine block_ok 0 (by kernel_rfl) ?_
  have hX0 : ∀ e w, (m20_3 R (e 1) (e 5) w) → (inBlockE 0 Q) (.exit 0) e w := fun e w h => inBlock_same (Q := Q) 0 (hN e w h)
  refine loop_ok' (fun (e : Env) => (e 5, e 6)) [0, 1] (by kernel_rfl) (by kernel_rfl) h (fun K e' w' hk h' => ?_)
  have r0 : e' 0 = e 0 := hk 0 (by decide)
  have r1 : e' 1 = e 1 := hk 1 (by decide)
  have hX0 : ∀ e w, (m20_3 R (e 1) (e 5) w) → (thenE (fun (e : Env) w => K ((e 5), (e 6)) w) (inBlockE 0 Q)) (.exit 0) e w := fun e w h => then_X (hX0 e w h)
  exact s20_12 (R := R) (Q := (thenE (fun (e : Env) w => K ((e 5), (e 6)) w) (inBlockE 0 Q))) (K1 := K) (fun _ _ h => then_N h) hX0 e' w' (by rw [r0, r1]; exact h')
theorem s20_2 {R : Value → World → Prop} {Q : Exit → Env → World → Prop} (hR : ∀ e w, (R (e 4) w) → Q .ret e w) (e : Env) (w : World) (h : m20_2 R (e 0) (e 1) (e 5) w) : W20 k20_2 Q e w := by
  unfold m20_2 at h
  refine seq_ok' (by kernel_rfl) ?_
  have hN' : ∀ e w, (m20_3 R (e 1) (e 5) w) → (thenE (W20 k20_3 Q) Q) .normal e w := fun e w h => then_N (s20_3 (R := R) (Q := Q) hR e w h)
  have hN := hN'
  refine seq_ok' (by kernel_rfl) ?_
  have hN' : ∀ e w, (m20_11 R (e 0) (e 1) (e 5) (e 6) w) → (thenE (W20 k20_11 (thenE (W20 k20_3 Q) Q)) (thenE (W20 k20_3 Q) Q)) .normal e w := fun e w h => then_N (s20_11 (R := R) (Q := (thenE (W20 k20_3 Q) Q)) hN e w h)
  have hN := hN'
  exact region_ok 2 (fun e w => m20_11 R (e 0) (e 1) (e 5) (e 6) w) (by kernel_rfl) (kcast (by kernel_rfl) h) hN (by kernel_rfl)
theorem s20_1 {R : Value → World → Prop} {Q : Exit → Env → World → Prop} (hR : ∀ e w, (R (e 4) w) → Q .ret e w) (e : Env) (w : World) (h : m20_1 R (e 0) (e 1) w) : W20 k20_1 Q e w := by
  unfold m20_1 at h
  refine seq_ok' (by kernel_rfl) ?_
  have hN' : ∀ e w, (m20_2 R (e 0) (e 1) (e 5) w) → (thenE (W20 k20_2 Q) Q) .normal e w := fun e w h => then_N (s20_2 (R := R) (Q := Q) hR e w h)
  have hN := hN'
  exact region_ok 1 (fun e w => m20_2 R (e 0) (e 1) (e 5) w) (by kernel_rfl) (kcast (by kernel_rfl) h) hN (by kernel_rfl)
theorem s20_0 {R : Value → World → Prop} {Q : Exit → Env → World → Prop} (hR : ∀ e w, (R (e 4) w) → Q .ret e w) (e : Env) (w : World) (h : m20_0 R (e 0) (e 1) w) : W20 k20_0 Q e w := by
  unfold m20_0 at h
  refine seq_ok' (by kernel_rfl) ?_
  have hN' : ∀ e w, (m20_1 R (e 0) (e 1) w) → (thenE (W20 k20_1 Q) Q) .normal e w := fun e w h => then_N (s20_1 (R := R) (Q := Q) hR e w h)
  have hN := hN'
  exact region_ok 0 (fun e w => m20_1 R (e 0) (e 1) w) (by kernel_rfl) (kcast (by kernel_rfl) h) hN (by kernel_rfl)
abbrev m20 (R : Value → World → Prop) (h0 : Value) (n1 : Value) (w : World) : Prop := m20_0 R h0 n1 w
theorem s20 (h0 : Value) (n1 : Value) {R : Value → World → Prop} {w : World} (h : m20 R h0 n1 w) :
    Calls Try.prog 20 #[h0, n1] w fun e w' => ∃ v, e = .returned v ∧ R v w' :=
  calls_of_cwp (st := (fun i => cond (Nat.beq i 7) 1 (0))) (c := k20_0) (by kernel_rfl) Try.func20 (by kernel_rfl) (Nat.le_of_ble_eq_true (by kernel_rfl)) (by kernel_rfl)
    (s20_0 (R := R) (Q := endE Try.prog Try.f20 R) (fun e w h => kcast (by kernel_rfl) h) (argsE #[h0, n1]) w (kcast (by kernel_rfl) h))
/-! ### (*headgate/headgateref30.Heavy).one -/
def m26_12 (R : Value → World → Prop) (K1 : Value → World → Prop) (w : World) : Prop :=
  R (Value.tuple #[]) w
def m26_10 (R : Value → World → Prop) (K1 : Value → World → Prop) (h0 : Value) (key1 : Value) (i4 : Value) (w : World) : Prop :=
  valP Try.prog (binS BinOp.add 3 (Operand.tmp 21) (Operand.const (Value.int IntKind.i64 1)) i4 (Value.int IntKind.i64 1)) w fun t22 w =>
  K1 t22 w
def m26_11 (R : Value → World → Prop) (K1 : Value → World → Prop) (h0 : Value) (key1 : Value) (i4 : Value) (t32 : Value) (w : World) : Prop :=
  condP t32
  (anyDraw w fun w =>
  nilCheckP h0 fun t34 =>
  valS Try.prog (Instr.fieldAt 30 t34 2) w fun t35 =>
  valS Try.prog (Instr.loadAt 28 t35) w fun t36 =>
  nilCheckP h0 fun t40 =>
  valS Try.prog (Instr.fieldAt 30 t40 2) w fun t41 =>
  valS Try.prog (Instr.loadAt 28 t41) w fun t42 =>
  valS Try.prog (Instr.indexAt 28 t42 i4) w fun t44 =>
  valS Try.prog (Instr.fieldAt 45 t44 1) w fun t45 =>
  valS Try.prog (Instr.loadAt 3 t45) w fun t46 =>
  valS Try.prog (binS BinOp.add 3 (Operand.tmp 46) (Operand.const (Value.int IntKind.i64 1)) t46 (Value.int IntKind.i64 1)) w fun t47 =>
  nilCheckP h0 fun t49 =>
  valS Try.prog (Instr.fieldAt 30 t49 2) w fun t50 =>
  valS Try.prog (Instr.loadAt 28 t50) w fun t51 =>
  valS Try.prog (Instr.indexAt 28 t51 i4) w fun t53 =>
  valS Try.prog (Instr.fieldAt 45 t53 2) w fun t54 =>
  valS Try.prog (Instr.loadAt 3 t54) w fun t55 =>
  valS Try.prog (Instr.build 45 #[(0, key1), (1, t47), (2, t55)]) w fun t56 =>
  valS Try.prog (Instr.indexAt 28 t36 i4) w fun t57 =>
  unitP Try.prog (Instr.storeAt 45 t57 t56) w fun _ w =>
  m26_12 R K1 w)
  (m26_10 R K1 h0 key1 i4 w)
def m26_9 (R : Value → World → Prop) (K1 : Value → World → Prop) (h0 : Value) (key1 : Value) (i4 : Value) (w : World) : Prop :=
  nilCheckP h0 fun t24 =>
  valP Try.prog (Instr.fieldAt 30 t24 2) w fun t25 w =>
  valP Try.prog (Instr.loadAt 28 t25) w fun t26 w =>
  valP Try.prog (Instr.indexAt 28 t26 i4) w fun t28 w =>
  valP Try.prog (Instr.fieldAt 45 t28 0) w fun t29 w =>
  valP Try.prog (Instr.loadAt 3 t29) w fun t30 w =>
  valP Try.prog (binS BinOp.eql 3 (Operand.tmp 30) (Operand.tmp 31) t30 key1) w fun t32 w =>
  m26_11 R K1 h0 key1 i4 t32 w
def m26_6 (R : Value → World → Prop) (w : World) : Prop :=
  R (Value.tuple #[]) w
def m26_4 (R : Value → World → Prop) (h0 : Value) (key1 : Value) (i5 : Value) (w : World) : Prop :=
  anyDraw w fun w =>
  nilCheckP h0 fun t82 =>
  valS Try.prog (Instr.fieldAt 30 t82 2) w fun t83 =>
  valS Try.prog (Instr.loadAt 28 t83) w fun t84 =>
  nilCheckP h0 fun t88 =>
  valS Try.prog (Instr.fieldAt 30 t88 2) w fun t89 =>
  valS Try.prog (Instr.loadAt 28 t89) w fun t90 =>
  valS Try.prog (Instr.indexAt 28 t90 i5) w fun t92 =>
  valS Try.prog (Instr.fieldAt 45 t92 1) w fun t93 =>
  valS Try.prog (Instr.loadAt 3 t93) w fun t94 =>
  valS Try.prog (binS BinOp.add 3 (Operand.tmp 94) (Operand.const (Value.int IntKind.i64 1)) t94 (Value.int IntKind.i64 1)) w fun t95 =>
  nilCheckP h0 fun t97 =>
  valS Try.prog (Instr.fieldAt 30 t97 2) w fun t98 =>
  valS Try.prog (Instr.loadAt 28 t98) w fun t99 =>
  valS Try.prog (Instr.indexAt 28 t99 i5) w fun t101 =>
  valS Try.prog (Instr.fieldAt 45 t101 1) w fun t102 =>
  valS Try.prog (Instr.loadAt 3 t102) w fun t103 =>
  valS Try.prog (Instr.build 45 #[(0, key1), (1, t95), (2, t103)]) w fun t104 =>
  valS Try.prog (Instr.indexAt 28 t84 i5) w fun t105 =>
  unitP Try.prog (Instr.storeAt 45 t105 t104) w fun _ w =>
  R (Value.tuple #[]) w
def m26_3 (R : Value → World → Prop) (h0 : Value) (key1 : Value) (w : World) : Prop :=
  callP Try.prog (fnV 27) #[h0] w fun t80 w =>
  m26_4 R h0 key1 t80 w
def m26_5 (R : Value → World → Prop) (h0 : Value) (key1 : Value) (t67 : Value) (w : World) : Prop :=
  condP t67
  (nilCheckP h0 fun t70 =>
  valP Try.prog (Instr.fieldAt 30 t70 2) w fun t71 w =>
  valP Try.prog (Instr.loadAt 28 t71) w fun t72 w =>
  valP Try.prog (Instr.build 45 #[(0, key1), (1, (Value.int IntKind.i64 1))]) w fun t74 w =>
  valP Try.prog (Instr.buildSlice 28 1 #[(0, t74)]) w fun t75 w =>
  builtinP Try.prog Builtin.append #[28, 28] 28 #[false, false] #[t72, t75] w fun t76 w =>
  nilCheckP h0 fun t77 =>
  valP Try.prog (Instr.fieldAt 30 t77 2) w fun t78 w =>
  unitP Try.prog (Instr.storeAt 28 t78 t76) w fun _ w =>
  m26_6 R w)
  (m26_3 R h0 key1 w)
def m26_2 (R : Value → World → Prop) (h0 : Value) (key1 : Value) (w : World) : Prop :=
  nilCheckP h0 fun t59 =>
  valQ Try.prog (Instr.fieldAt 30 t59 2) w fun t60 =>
  valQ Try.prog (Instr.loadAt 28 t60) w fun t61 =>
  builtinQ Try.prog Builtin.len #[28] 3 #[false] #[t61] w fun t62 =>
  nilCheckP h0 fun t64 =>
  valQ Try.prog (Instr.fieldAt 30 t64 0) w fun t65 =>
  valQ Try.prog (Instr.loadAt 3 t65) w fun t66 =>
  valQ Try.prog (binS BinOp.lss 3 (Operand.tmp 62) (Operand.tmp 66) t62 t66) w fun t67 =>
  anyDraw w fun w =>
  m26_5 R h0 key1 t67 w
def m26_13 (R : Value → World → Prop) (K1 : Value → World → Prop) (h0 : Value) (key1 : Value) (i4 : Value) (t20 : Value) (w : World) : Prop :=
  condP t20
  (m26_9 R K1 h0 key1 i4 w)
  (m26_2 R h0 key1 w)
def m26_8 (R : Value → World → Prop) (K1 : Value → World → Prop) (h0 : Value) (key1 : Value) (i4 : Value) (w : World) : Prop :=
  nilCheckP h0 fun t16 =>
  valP Try.prog (Instr.fieldAt 30 t16 2) w fun t17 w =>
  valP Try.prog (Instr.loadAt 28 t17) w fun t18 w =>
  builtinP Try.prog Builtin.len #[28] 3 #[false] #[t18] w fun t19 w =>
  valP Try.prog (binS BinOp.lss 3 (Operand.tmp 14) (Operand.tmp 19) i4 t19) w fun t20 w =>
  m26_13 R K1 h0 key1 i4 t20 w
def m26_7 (R : Value → World → Prop) (h0 : Value) (key1 : Value) (i4 : Value) (w : World) : Prop :=
  loopP (fun (K1 : Value → World → Prop) (s : Value) w => m26_8 R K1 h0 key1 s w) i4 w
def m26_1 (R : Value → World → Prop) (h0 : Value) (key1 : Value) (w : World) : Prop :=
  m26_7 R h0 key1 (Value.int IntKind.i64 0) w
def m26_0 (R : Value → World → Prop) (h0 : Value) (key1 : Value) (w : World) : Prop :=
  nilCheckP h0 fun t8 =>
  valP Try.prog (Instr.fieldAt 30 t8 1) w fun t9 w =>
  valP Try.prog (Instr.loadAt 3 t9) w fun t10 w =>
  valP Try.prog (binS BinOp.add 3 (Operand.tmp 10) (Operand.const (Value.int IntKind.i64 1)) t10 (Value.int IntKind.i64 1)) w fun t11 w =>
  nilCheckP h0 fun t12 =>
  valP Try.prog (Instr.fieldAt 30 t12 1) w fun t13 w =>
  unitP Try.prog (Instr.storeAt 3 t13 t11) w fun _ w =>
  m26_1 R h0 key1 w
abbrev W26 := cwp Try.prog (fun i => cond (Nat.beq i 9) 27 (cond (Nat.beq i 6) 1 (cond (Nat.beq i 5) 27 (0))))
noncomputable def k26_0 : Code := (bodyOf Try.f26)
noncomputable def k26_1 : Code := (c2 k26_0)
noncomputable def k26_2 : Code := (c2 k26_1)
noncomputable def k26_3 : Code := (c2 k26_2)
noncomputable def k26_4 : Code := (c2 k26_3)
noncomputable def k26_5 : Code := (c2 (c1 k26_2))
noncomputable def k26_6 : Code := (c2 (c1 k26_5))
noncomputable def k26_7 : Code := (c2 (c1 k26_1))
noncomputable def k26_8 : Code := (c1 (c1 k26_7))
noncomputable def k26_9 : Code := (c2 k26_8)
noncomputable def k26_10 : Code := (c2 k26_9)
noncomputable def k26_11 : Code := (c2 (c1 (c1 k26_9)))
noncomputable def k26_12 : Code := (c2 (c1 k26_11))
noncomputable def k26_13 : Code := (c2 (c1 k26_8))
theorem s26_12 {R : Value → World → Prop} {K1 : Value → World → Prop} {Q : Exit → Env → World → Prop} (hR : ∀ e w, (R (Value.tuple #[]) w) → Q .ret e w) (e : Env) (w : World) (h : m26_12 R K1 w) : W26 k26_12 Q e w := by
  unfold m26_12 at h
  exact ret_ok (by kernel_rfl) (hR _ _ h)
theorem s26_10 {R : Value → World → Prop} {K1 : Value → World → Prop} {Q : Exit → Env → World → Prop} (hN : ∀ e w, (K1 (e 4) w) → Q .normal e w) (e : Env) (w : World) (h : m26_10 R K1 (e 0) (e 1) (e 4) w) : W26 k26_10 Q e w := by
  unfold m26_10 at h
  exact region_ok 3 (fun e w => K1 (e 4) w) (by kernel_rfl) (kcast (by kernel_rfl) h) hN (by kernel_rfl)
theorem s26_11 {R : Value → World → Prop} {K1 : Value → World → Prop} {Q : Exit → Env → World → Prop} (hN : ∀ e w, (m26_10 R K1 (e 0) (e 1) (e 4) w) → Q .normal e w) (hR : ∀ e w, (R (Value.tuple #[]) w) → Q .ret e w) (e : Env) (w : World) (h : m26_11 R K1 (e 0) (e 1) (e 4) (e 32) w) : W26 k26_11 Q e w := by
  unfold m26_11 at h
  refine cond_ok (Operand.tmp 32) (by kernel_rfl) h (fun h1 => ?_) (fun h1 => ?_)
  · refine seq_ok' (by kernel_rfl) ?_
    have hN' : ∀ e w, (m26_12 R K1 w) → (thenE (W26 k26_12 Q) Q) .normal e w := fun e w h => then_N (s26_12 (R := R) (Q := Q) (K1 := K1) hR e w h)
    have hN := hN'
    exact tail_ok 5 25 (fun e w => m26_12 R K1 w) (by kernel_rfl) (by kernel_rfl) (by kernel_rfl) (kcast (by kernel_rfl) h1) hN (by kernel_rfl)
  · exact skip_ok (by kernel_rfl) (hN _ _ h1)
theorem s26_9 {R : Value → World → Prop} {K1 : Value → World → Prop} {Q : Exit → Env → World → Prop} (hN : ∀ e w, (K1 (e 4) w) → Q .normal e w) (hR : ∀ e w, (R (Value.tuple #[]) w) → Q .ret e w) (e : Env) (w : World) (h : m26_9 R K1 (e 0) (e 1) (e 4) w) : W26 k26_9 Q e w := by
  unfold m26_9 at h
  refine seq_ok' (by kernel_rfl) ?_
  have hN' : ∀ e w, (m26_10 R K1 (e 0) (e 1) (e 4) w) → (thenE (W26 k26_10 Q) Q) .normal e w := fun e w h => then_N (s26_10 (R := R) (Q := Q) (K1 := K1) hN e w h)
  have hR : ∀ e w, (R (Value.tuple #[]) w) → (thenE (W26 k26_10 Q) Q) .ret e w := fun e w h => then_R (hR e w h)
  have hN := hN'
  refine block_ok 1 (by kernel_rfl) ?_
  have hN : ∀ e w, (m26_10 R K1 (e 0) (e 1) (e 4) w) → (inBlockE 1 (thenE (W26 k26_10 Q) Q)) .normal e w := fun e w h => block_N (hN e w h)
  have hR : ∀ e w, (R (Value.tuple #[]) w) → (inBlockE 1 (thenE (W26 k26_10 Q) Q)) .ret e w := fun e w h => block_R (hR e w h)
  refine seq_ok' (by kernel_rfl) ?_
  have hN' : ∀ e w, (m26_11 R K1 (e 0) (e 1) (e 4) (e 32) w) → (thenE (W26 k26_11 (inBlockE 1 (thenE (W26 k26_10 Q) Q))) (inBlockE 1 (thenE (W26 k26_10 Q) Q))) .normal e w := fun e w h => then_N (s26_11 (R := R) (Q := (inBlockE 1 (thenE (W26 k26_10 Q) Q))) (K1 := K1) hN hR e w h)
  have hN := hN'
  exact region_ok 4 (fun e w => m26_11 R K1 (e 0) (e 1) (e 4) (e 32) w) (by kernel_rfl) (kcast (by kernel_rfl) h) hN (by kernel_rfl)
theorem s26_6 {R : Value → World → Prop} {Q : Exit → Env → World → Prop} (hR : ∀ e w, (R (Value.tuple #[]) w) → Q .ret e w) (e : Env) (w : World) (h : m26_6 R w) : W26 k26_6 Q e w := by
  unfold m26_6 at h
  exact ret_ok (by kernel_rfl) (hR _ _ h)
theorem s26_4 {R : Value → World → Prop} {Q : Exit → Env → World → Prop} (hN : ∀ e w, (R (Value.tuple #[]) w) → Q .normal e w) (e : Env) (w : World) (h : m26_4 R (e 0) (e 1) (e 5) w) : W26 k26_4 Q e w := by
  unfold m26_4 at h
  exact tail_ok 9 25 (fun e w => R (Value.tuple #[]) w) (by kernel_rfl) (by kernel_rfl) (by kernel_rfl) (kcast (by kernel_rfl) h) hN (by kernel_rfl)
theorem s26_3 {R : Value → World → Prop} {Q : Exit → Env → World → Prop} (hN : ∀ e w, (R (Value.tuple #[]) w) → Q .normal e w) (e : Env) (w : World) (h : m26_3 R (e 0) (e 1) w) : W26 k26_3 Q e w := by
  unfold m26_3 at h
  refine seq_ok' (by kernel_rfl) ?_
  have hN' : ∀ e w, (m26_4 R (e 0) (e 1) (e 5) w) → (thenE (W26 k26_4 Q) Q) .normal e w := fun e w h => then_N (s26_4 (R := R) (Q := Q) hN e w h)
  have hN := hN'
  exact region_ok 8 (fun e w => m26_4 R (e 0) (e 1) (e 5) w) (by kernel_rfl) (kcast (by kernel_rfl) h) hN (by kernel_rfl)
theorem s26_5 {R : Value → World → Prop} {Q : Exit → Env → World → Prop} (hN : ∀ e w, (m26_3 R (e 0) (e 1) w) → Q .normal e w) (hR : ∀ e w, (R (Value.tuple #[]) w) → Q .ret e w) (e : Env) (w : World) (h : m26_5 R (e 0) (e 1) (e 67) w) : W26 k26_5 Q e w := by
  unfold m26_5 at h
  refine cond_ok (Operand.tmp 67) (by kernel_rfl) h (fun h1 => ?_) (fun h1 => ?_)
  · refine seq_ok' (by kernel_rfl) ?_
    have hN' : ∀ e w, (m26_6 R w) → (thenE (W26 k26_6 Q) Q) .normal e w := fun e w h => then_N (s26_6 (R := R) (Q := Q) hR e w h)
    have hN := hN'
    exact region_ok 7 (fun e w => m26_6 R w) (by kernel_rfl) (kcast (by kernel_rfl) h1) hN (by kernel_rfl)
  · exact skip_ok (by kernel_rfl) (hN _ _ h1)
theorem s26_2 {R : Value → World → Prop} {Q : Exit → Env → World → Prop} (hN : ∀ e w, (R (Value.tuple #[]) w) → Q .normal e w) (hR : ∀ e w, (R (Value.tuple #[]) w) → Q .ret e w) (e : Env) (w : World) (h : m26_2 R (e 0) (e 1) w) : W26 k26_2 Q e w := by
  unfold m26_2 at h
  refine seq_ok' (by kernel_rfl) ?_
  have hN' : ∀ e w, (m26_3 R (e 0) (e 1) w) → (thenE (W26 k26_3 Q) Q) .normal e w := fun e w h => then_N (s26_3 (R := R) (Q := Q) hN e w h)
  have hR : ∀ e w, (R (Value.tuple #[]) w) → (thenE (W26 k26_3 Q) Q) .ret e w := fun e w h => then_R (hR e w h)
  have hN := hN'
  refine seq_ok' (by kernel_rfl) ?_
  have hN' : ∀ e w, (m26_5 R (e 0) (e 1) (e 67) w) → (thenE (W26 k26_5 (thenE (W26 k26_3 Q) Q)) (thenE (W26 k26_3 Q) Q)) .normal e w := fun e w h => then_N (s26_5 (R := R) (Q := (thenE (W26 k26_3 Q) Q)) hN hR e w h)
  have hN := hN'
  exact quiet_ok 6 (fun e w => m26_5 R (e 0) (e 1) (e 67) w) (by kernel_rfl) (by kernel_rfl) (by kernel_rfl) (kcast (by kernel_rfl) h) hN (by kernel_rfl)
theorem s26_13 {R : Value → World → Prop} {K1 : Value → World → Prop} {Q : Exit → Env → World → Prop} (hN : ∀ e w, (m26_9 R K1 (e 0) (e 1) (e 4) w) → Q .normal e w) (hX0 : ∀ e w, (m26_2 R (e 0) (e 1) w) → Q (.exit 0) e w) (e : Env) (w : World) (h : m26_13 R K1 (e 0) (e 1) (e 4) (e 20) w) : W26 k26_13 Q e w := by
  unfold m26_13 at h
  refine cond_ok (Operand.tmp 20) (by kernel_rfl) h (fun h1 => ?_) (fun h1 => ?_)
  · exact skip_ok (by kernel_rfl) (hN _ _ h1)
  · exact exit_ok 0 (by kernel_rfl) (hX0 _ _ h1)
theorem s26_8 {R : Value → World → Prop} {K1 : Value → World → Prop} {Q : Exit → Env → World → Prop} (hN : ∀ e w, (K1 (e 4) w) → Q .normal e w) (hR : ∀ e w, (R (Value.tuple #[]) w) → Q .ret e w) (hX0 : ∀ e w, (m26_2 R (e 0) (e 1) w) → Q (.exit 0) e w) (e : Env) (w : World) (h : m26_8 R K1 (e 0) (e 1) (e 4) w) : W26 k26_8 Q e w := by
  unfold m26_8 at h
  refine seq_ok' (by kernel_rfl) ?_
  have hN' : ∀ e w, (m26_9 R K1 (e 0) (e 1) (e 4) w) → (thenE (W26 k26_9 Q) Q) .normal e w := fun e w h => then_N (s26_9 (R := R) (Q := Q) (K1 := K1) hN hR e w h)
  have hX0 : ∀ e w, (m26_2 R (e 0) (e 1) w) → (thenE (W26 k26_9 Q) Q) (.exit 0) e w := fun e w h => then_X (hX0 e w h)
  have hN := hN'
  refine seq_ok' (by kernel_rfl) ?_
  have hN' : ∀ e w, (m26_13 R K1 (e 0) (e 1) (e 4) (e 20) w) → (thenE (W26 k26_13 (thenE (W26 k26_9 Q) Q)) (thenE (W26 k26_9 Q) Q)) .normal e w := fun e w h => then_N (s26_13 (R := R) (Q := (thenE (W26 k26_9 Q) Q)) (K1 := K1) hN hX0 e w h)
  have hN := hN'
  exact region_ok 2 (fun e w => m26_13 R K1 (e 0) (e 1) (e 4) (e 20) w) (by kernel_rfl) (kcast (by kernel_rfl) h) hN (by kernel_rfl)
theorem s26_7 {R : Value → World → Prop} {Q : Exit → Env → World → Prop} (hN : ∀ e w, (m26_2 R (e 0) (e 1) w) → Q .normal e w) (hR : ∀ e w, (R (Value.tuple #[]) w) → Q .ret e w) (e : Env) (w : World) (h : m26_7 R (e 0) (e 1) (e 4) w) : W26 k26_7 Q e w := by
  unfold m26_7 at h
  refine block_ok 0 (by kernel_rfl) ?_
  have hX0 : ∀ e w, (m26_2 R (e 0) (e 1) w) → (inBlockE 0 Q) (.exit 0) e w := fun e w h => inBlock_same (Q := Q) 0 (hN e w h)
  have hR : ∀ e w, (R (Value.tuple #[]) w) → (inBlockE 0 Q) .ret e w := fun e w h => block_R (hR e w h)
  refine loop_ok' (fun (e : Env) => e 4) [0, 1] (by kernel_rfl) (by kernel_rfl) h (fun K e' w' hk h' => ?_)
  have r0 : e' 0 = e 0 := hk 0 (by decide)
  have r1 : e' 1 = e 1 := hk 1 (by decide)
  have hR : ∀ e w, (R (Value.tuple #[]) w) → (thenE (fun (e : Env) w => K (e 4) w) (inBlockE 0 Q)) .ret e w := fun e w h => then_R (hR e w h)
  have hX0 : ∀ e w, (m26_2 R (e 0) (e 1) w) → (thenE (fun (e : Env) w => K (e 4) w) (inBlockE 0 Q)) (.exit 0) e w := fun e w h => then_X (hX0 e w h)
  exact s26_8 (R := R) (Q := (thenE (fun (e : Env) w => K (e 4) w) (inBlockE 0 Q))) (K1 := K) (fun _ _ h => then_N h) hR hX0 e' w' (by rw [r0, r1]; exact h')
theorem s26_1 {R : Value → World → Prop} {Q : Exit → Env → World → Prop} (hN : ∀ e w, (R (Value.tuple #[]) w) → Q .normal e w) (hR : ∀ e w, (R (Value.tuple #[]) w) → Q .ret e w) (e : Env) (w : World) (h : m26_1 R (e 0) (e 1) w) : W26 k26_1 Q e w := by
  unfold m26_1 at h
  refine seq_ok' (by kernel_rfl) ?_
  have hN' : ∀ e w, (m26_2 R (e 0) (e 1) w) → (thenE (W26 k26_2 Q) Q) .normal e w := fun e w h => then_N (s26_2 (R := R) (Q := Q) hN hR e w h)
  have hR : ∀ e w, (R (Value.tuple #[]) w) → (thenE (W26 k26_2 Q) Q) .ret e w := fun e w h => then_R (hR e w h)
  have hN := hN'
  refine seq_ok' (by kernel_rfl) ?_
  have hN' : ∀ e w, (m26_7 R (e 0) (e 1) (e 4) w) → (thenE (W26 k26_7 (thenE (W26 k26_2 Q) Q)) (thenE (W26 k26_2 Q) Q)) .normal e w := fun e w h => then_N (s26_7 (R := R) (Q := (thenE (W26 k26_2 Q) Q)) hN hR e w h)
  have hN := hN'
  exact region_ok 1 (fun e w => m26_7 R (e 0) (e 1) (e 4) w) (by kernel_rfl) (kcast (by kernel_rfl) h) hN (by kernel_rfl)
theorem s26_0 {R : Value → World → Prop} {Q : Exit → Env → World → Prop} (hN : ∀ e w, (R (Value.tuple #[]) w) → Q .normal e w) (hR : ∀ e w, (R (Value.tuple #[]) w) → Q .ret e w) (e : Env) (w : World) (h : m26_0 R (e 0) (e 1) w) : W26 k26_0 Q e w := by
  unfold m26_0 at h
  refine seq_ok' (by kernel_rfl) ?_
  have hN' : ∀ e w, (m26_1 R (e 0) (e 1) w) → (thenE (W26 k26_1 Q) Q) .normal e w := fun e w h => then_N (s26_1 (R := R) (Q := Q) hN hR e w h)
  have hN := hN'
  exact region_ok 0 (fun e w => m26_1 R (e 0) (e 1) w) (by kernel_rfl) (kcast (by kernel_rfl) h) hN (by kernel_rfl)
abbrev m26 (R : Value → World → Prop) (h0 : Value) (key1 : Value) (w : World) : Prop := m26_0 R h0 key1 w
theorem s26 (h0 : Value) (key1 : Value) {R : Value → World → Prop} {w : World} (h : m26 R h0 key1 w) :
    Calls Try.prog 26 #[h0, key1] w fun e w' => ∃ v, e = .returned v ∧ R v w' :=
  calls_of_cwp (st := (fun i => cond (Nat.beq i 9) 27 (cond (Nat.beq i 6) 1 (cond (Nat.beq i 5) 27 (0))))) (c := k26_0) (by kernel_rfl) Try.func26 (by kernel_rfl) (Nat.le_of_ble_eq_true (by kernel_rfl)) (by kernel_rfl)
    (s26_0 (R := R) (Q := endE Try.prog Try.f26 R) (fun e w h => kcast (by kernel_rfl) h) (fun e w h => kcast (by kernel_rfl) h) (argsE #[h0, key1]) w (kcast (by kernel_rfl) h))
/-! ### (*headgate/headgateref30.Heavy).least -/
def m27_8 (R : Value → World → Prop) (K1 : (Value × Value) → World → Prop) (h0 : Value) (at3 : Value) (i4 : Value) (w : World) : Prop :=
  valP Try.prog (binS BinOp.add 3 (Operand.tmp 12) (Operand.const (Value.int IntKind.i64 1)) i4 (Value.int IntKind.i64 1)) w fun t13 w =>
  K1 (at3, t13) w
def m27_9 (R : Value → World → Prop) (K1 : (Value × Value) → World → Prop) (h0 : Value) (at3 : Value) (i4 : Value) (t68 : Value) (w : World) : Prop :=
  condP t68
  (m27_8 R K1 h0 i4 i4 w)
  (m27_8 R K1 h0 at3 i4 w)
def m27_7 (R : Value → World → Prop) (K1 : (Value × Value) → World → Prop) (h0 : Value) (at3 : Value) (i4 : Value) (w : World) : Prop :=
  nilCheckP h0 fun t15 =>
  valQ Try.prog (Instr.fieldAt 30 t15 2) w fun t16 =>
  valQ Try.prog (Instr.loadAt 28 t16) w fun t17 =>
  valQ Try.prog (Instr.indexAt 28 t17 i4) w fun t19 =>
  valQ Try.prog (Instr.fieldAt 45 t19 1) w fun t20 =>
  valQ Try.prog (Instr.loadAt 3 t20) w fun t21 =>
  nilCheckP h0 fun t23 =>
  valQ Try.prog (Instr.fieldAt 30 t23 2) w fun t24 =>
  valQ Try.prog (Instr.loadAt 28 t24) w fun t25 =>
  valQ Try.prog (Instr.indexAt 28 t25 at3) w fun t27 =>
  valQ Try.prog (Instr.fieldAt 45 t27 1) w fun t28 =>
  valQ Try.prog (Instr.loadAt 3 t28) w fun t29 =>
  valQ Try.prog (binS BinOp.lss 3 (Operand.tmp 21) (Operand.tmp 29) t21 t29) w fun t30 =>
  condP t30
  (pickP t30 (Value.bool true) undef fun t68 =>
  anyDraw w fun w =>
  m27_9 R K1 h0 at3 i4 t68 w)
  (nilCheckP h0 fun t33 =>
  valQ Try.prog (Instr.fieldAt 30 t33 2) w fun t34 =>
  valQ Try.prog (Instr.loadAt 28 t34) w fun t35 =>
  valQ Try.prog (Instr.indexAt 28 t35 i4) w fun t37 =>
  valQ Try.prog (Instr.fieldAt 45 t37 1) w fun t38 =>
  valQ Try.prog (Instr.loadAt 3 t38) w fun t39 =>
  nilCheckP h0 fun t41 =>
  valQ Try.prog (Instr.fieldAt 30 t41 2) w fun t42 =>
  valQ Try.prog (Instr.loadAt 28 t42) w fun t43 =>
  valQ Try.prog (Instr.indexAt 28 t43 at3) w fun t45 =>
  valQ Try.prog (Instr.fieldAt 45 t45 1) w fun t46 =>
  valQ Try.prog (Instr.loadAt 3 t46) w fun t47 =>
  valQ Try.prog (binS BinOp.eql 3 (Operand.tmp 39) (Operand.tmp 47) t39 t47) w fun t48 =>
  condP t48
  (nilCheckP h0 fun t51 =>
  valQ Try.prog (Instr.fieldAt 30 t51 2) w fun t52 =>
  valQ Try.prog (Instr.loadAt 28 t52) w fun t53 =>
  valQ Try.prog (Instr.indexAt 28 t53 i4) w fun t55 =>
  valQ Try.prog (Instr.fieldAt 45 t55 0) w fun t56 =>
  valQ Try.prog (Instr.loadAt 3 t56) w fun t57 =>
  nilCheckP h0 fun t59 =>
  valQ Try.prog (Instr.fieldAt 30 t59 2) w fun t60 =>
  valQ Try.prog (Instr.loadAt 28 t60) w fun t61 =>
  valQ Try.prog (Instr.indexAt 28 t61 at3) w fun t63 =>
  valQ Try.prog (Instr.fieldAt 45 t63 0) w fun t64 =>
  valQ Try.prog (Instr.loadAt 3 t64) w fun t65 =>
  valQ Try.prog (binS BinOp.lss 3 (Operand.tmp 57) (Operand.tmp 65) t57 t65) w fun t66 =>
  pickP t48 t66 (Value.bool false) fun t67 =>
  pickP t30 (Value.bool true) t67 fun t68 =>
  anyDraw w fun w =>
  m27_9 R K1 h0 at3 i4 t68 w)
  (pickP t48 undef (Value.bool false) fun t67 =>
  pickP t30 (Value.bool true) t67 fun t68 =>
  anyDraw w fun w =>
  m27_9 R K1 h0 at3 i4 t68 w))
def m27_4 (R : Value → World → Prop) (t2 : Value) (w : World) : Prop :=
  R t2 w
def m27_3 (R : Value → World → Prop) (at3 : Value) (w : World) : Prop :=
  m27_4 R at3 w
def m27_10 (R : Value → World → Prop) (K1 : (Value × Value) → World → Prop) (h0 : Value) (at3 : Value) (i4 : Value) (t11 : Value) (w : World) : Prop :=
  condP t11
  (m27_7 R K1 h0 at3 i4 w)
  (m27_3 R at3 w)
def m27_6 (R : Value → World → Prop) (K1 : (Value × Value) → World → Prop) (h0 : Value) (at3 : Value) (i4 : Value) (w : World) : Prop :=
  nilCheckP h0 fun t7 =>
  valP Try.prog (Instr.fieldAt 30 t7 2) w fun t8 w =>
  valP Try.prog (Instr.loadAt 28 t8) w fun t9 w =>
  builtinP Try.prog Builtin.len #[28] 3 #[false] #[t9] w fun t10 w =>
  valP Try.prog (binS BinOp.lss 3 (Operand.tmp 5) (Operand.tmp 10) i4 t10) w fun t11 w =>
  m27_10 R K1 h0 at3 i4 t11 w
def m27_5 (R : Value → World → Prop) (h0 : Value) (at3 : Value) (i4 : Value) (w : World) : Prop :=
  loopP (fun (K1 : (Value × Value) → World → Prop) (s : Value × Value) w => m27_6 R K1 h0 s.1 s.2 w) (at3, i4) w
def m27_2 (R : Value → World → Prop) (h0 : Value) (at3 : Value) (w : World) : Prop :=
  m27_5 R h0 at3 (Value.int IntKind.i64 1) w
def m27_1 (R : Value → World → Prop) (h0 : Value) (w : World) : Prop :=
  m27_2 R h0 (Value.int IntKind.i64 0) w
def m27_0 (R : Value → World → Prop) (h0 : Value) (w : World) : Prop :=
  m27_1 R h0 w
abbrev W27 := cwp Try.prog (fun i => cond (Nat.beq i 5) 1 (0))
noncomputable def k27_0 : Code := (bodyOf Try.f27)
noncomputable def k27_1 : Code := (c2 k27_0)
noncomputable def k27_2 : Code := (c2 k27_1)
noncomputable def k27_3 : Code := (c2 k27_2)
noncomputable def k27_4 : Code := (c2 k27_3)
noncomputable def k27_5 : Code := (c2 (c1 k27_2))
noncomputable def k27_6 : Code := (c1 (c1 k27_5))
noncomputable def k27_7 : Code := (c2 k27_6)
noncomputable def k27_8 : Code := (c2 k27_7)
noncomputable def k27_9 : Code := (c2 (c1 (c1 k27_7)))
noncomputable def k27_10 : Code := (c2 (c1 k27_6))
theorem s27_8 {R : Value → World → Prop} {K1 : (Value × Value) → World → Prop} {Q : Exit → Env → World → Prop} (hN : ∀ e w, (K1 ((e 3), (e 4)) w) → Q .normal e w) (e : Env) (w : World) (h : m27_8 R K1 (e 0) (e 3) (e 4) w) : W27 k27_8 Q e w := by
  unfold m27_8 at h
  exact region_ok 4 (fun e w => K1 ((e 3), (e 4)) w) (by kernel_rfl) (kcast (by kernel_rfl) h) hN (by kernel_rfl)
theorem s27_9 {R : Value → World → Prop} {K1 : (Value × Value) → World → Prop} {Q : Exit → Env → World → Prop} (hN : ∀ e w, (m27_8 R K1 (e 0) (e 3) (e 4) w) → Q .normal e w) (e : Env) (w : World) (h : m27_9 R K1 (e 0) (e 3) (e 4) (e 68) w) : W27 k27_9 Q e w := by
  unfold m27_9 at h
  refine cond_ok (Operand.tmp 68) (by kernel_rfl) h (fun h1 => ?_) (fun h1 => ?_)
  · exact region_ok 6 (fun e w => m27_8 R K1 (e 0) (e 3) (e 4) w) (by kernel_rfl) (kcast (by kernel_rfl) h1) hN (by kernel_rfl)
  · exact skip_ok (by kernel_rfl) (hN _ _ h1)
theorem s27_7 {R : Value → World → Prop} {K1 : (Value × Value) → World → Prop} {Q : Exit → Env → World → Prop} (hN : ∀ e w, (K1 ((e 3), (e 4)) w) → Q .normal e w) (e : Env) (w : World) (h : m27_7 R K1 (e 0) (e 3) (e 4) w) : W27 k27_7 Q e w := by
  unfold m27_7 at h
  refine seq_ok' (by kernel_rfl) ?_
  have hN' : ∀ e w, (m27_8 R K1 (e 0) (e 3) (e 4) w) → (thenE (W27 k27_8 Q) Q) .normal e w := fun e w h => then_N (s27_8 (R := R) (Q := Q) (K1 := K1) hN e w h)
  have hN := hN'
  refine block_ok 1 (by kernel_rfl) ?_
  have hN : ∀ e w, (m27_8 R K1 (e 0) (e 3) (e 4) w) → (inBlockE 1 (thenE (W27 k27_8 Q) Q)) .normal e w := fun e w h => block_N (hN e w h)
  refine seq_ok' (by kernel_rfl) ?_
  have hN' : ∀ e w, (m27_9 R K1 (e 0) (e 3) (e 4) (e 68) w) → (thenE (W27 k27_9 (inBlockE 1 (thenE (W27 k27_8 Q) Q))) (inBlockE 1 (thenE (W27 k27_8 Q) Q))) .normal e w := fun e w h => then_N (s27_9 (R := R) (Q := (inBlockE 1 (thenE (W27 k27_8 Q) Q))) (K1 := K1) hN e w h)
  have hN := hN'
  exact quiet_ok 5 (fun e w => m27_9 R K1 (e 0) (e 3) (e 4) (e 68) w) (by kernel_rfl) (by kernel_rfl) (by kernel_rfl) (kcast (by kernel_rfl) h) hN (by kernel_rfl)
theorem s27_4 {R : Value → World → Prop} {Q : Exit → Env → World → Prop} (hR : ∀ e w, (R (e 2) w) → Q .ret e w) (e : Env) (w : World) (h : m27_4 R (e 2) w) : W27 k27_4 Q e w := by
  unfold m27_4 at h
  exact ret_ok (by kernel_rfl) (hR _ _ h)
theorem s27_3 {R : Value → World → Prop} {Q : Exit → Env → World → Prop} (hR : ∀ e w, (R (e 2) w) → Q .ret e w) (e : Env) (w : World) (h : m27_3 R (e 3) w) : W27 k27_3 Q e w := by
  unfold m27_3 at h
  refine seq_ok' (by kernel_rfl) ?_
  have hN' : ∀ e w, (m27_4 R (e 2) w) → (thenE (W27 k27_4 Q) Q) .normal e w := fun e w h => then_N (s27_4 (R := R) (Q := Q) hR e w h)
  have hN := hN'
  exact region_ok 7 (fun e w => m27_4 R (e 2) w) (by kernel_rfl) (kcast (by kernel_rfl) h) hN (by kernel_rfl)
theorem s27_10 {R : Value → World → Prop} {K1 : (Value × Value) → World → Prop} {Q : Exit → Env → World → Prop} (hN : ∀ e w, (m27_7 R K1 (e 0) (e 3) (e 4) w) → Q .normal e w) (hX0 : ∀ e w, (m27_3 R (e 3) w) → Q (.exit 0) e w) (e : Env) (w : World) (h : m27_10 R K1 (e 0) (e 3) (e 4) (e 11) w) : W27 k27_10 Q e w := by
  unfold m27_10 at h
  refine cond_ok (Operand.tmp 11) (by kernel_rfl) h (fun h1 => ?_) (fun h1 => ?_)
  · exact skip_ok (by kernel_rfl) (hN _ _ h1)
  · exact exit_ok 0 (by kernel_rfl) (hX0 _ _ h1)
theorem s27_6 {R : Value → World → Prop} {K1 : (Value × Value) → World → Prop} {Q : Exit → Env → World → Prop} (hN : ∀ e w, (K1 ((e 3), (e 4)) w) → Q .normal e w) (hX0 : ∀ e w, (m27_3 R (e 3) w) → Q (.exit 0) e w) (e : Env) (w : World) (h : m27_6 R K1 (e 0) (e 3) (e 4) w) : W27 k27_6 Q e w := by
  unfold m27_6 at h
  refine seq_ok' (by kernel_rfl) ?_
  have hN' : ∀ e w, (m27_7 R K1 (e 0) (e 3) (e 4) w) → (thenE (W27 k27_7 Q) Q) .normal e w := fun e w h => then_N (s27_7 (R := R) (Q := Q) (K1 := K1) hN e w h)
  have hX0 : ∀ e w, (m27_3 R (e 3) w) → (thenE (W27 k27_7 Q) Q) (.exit 0) e w := fun e w h => then_X (hX0 e w h)
  have hN := hN'
  refine seq_ok' (by kernel_rfl) ?_
  have hN' : ∀ e w, (m27_10 R K1 (e 0) (e 3) (e 4) (e 11) w) → (thenE (W27 k27_10 (thenE (W27 k27_7 Q) Q)) (thenE (W27 k27_7 Q) Q)) .normal e w := fun e w h => then_N (s27_10 (R := R) (Q := (thenE (W27 k27_7 Q) Q)) (K1 := K1) hN hX0 e w h)
  have hN := hN'
  exact region_ok 3 (fun e w => m27_10 R K1 (e 0) (e 3) (e 4) (e 11) w) (by kernel_rfl) (kcast (by kernel_rfl) h) hN (by kernel_rfl)
theorem s27_5 {R : Value → World → Prop} {Q : Exit → Env → World → Prop} (hN : ∀ e w, (m27_3 R (e 3) w) → Q .normal e w) (e : Env) (w : World) (h : m27_5 R (e 0) (e 3) (e 4) w) : W27 k27_5 Q e w := by
  unfold m27_5 at h
  refine block_ok 0 (by kernel_rfl) ?_
  have hX0 : ∀ e w, (m27_3 R (e 3) w) → (inBlockE 0 Q) (.exit 0) e w := fun e w h => inBlock_same (Q := Q) 0 (hN e w h)
  refine loop_ok' (fun (e : Env) => (e 3, e 4)) [0] (by kernel_rfl) (by kernel_rfl) h (fun K e' w' hk h' => ?_)
  have r0 : e' 0 = e 0 := hk 0 (by decide)
  have hX0 : ∀ e w, (m27_3 R (e 3) w) → (thenE (fun (e : Env) w => K ((e 3), (e 4)) w) (inBlockE 0 Q)) (.exit 0) e w := fun e w h => then_X (hX0 e w h)
  exact s27_6 (R := R) (Q := (thenE (fun (e : Env) w => K ((e 3), (e 4)) w) (inBlockE 0 Q))) (K1 := K) (fun _ _ h => then_N h) hX0 e' w' (by rw [r0]; exact h')
theorem s27_2 {R : Value → World → Prop} {Q : Exit → Env → World → Prop} (hR : ∀ e w, (R (e 2) w) → Q .ret e w) (e : Env) (w : World) (h : m27_2 R (e 0) (e 3) w) : W27 k27_2 Q e w := by
  unfold m27_2 at h
  refine seq_ok' (by kernel_rfl) ?_
  have hN' : ∀ e w, (m27_3 R (e 3) w) → (thenE (W27 k27_3 Q) Q) .normal e w := fun e w h => then_N (s27_3 (R := R) (Q := Q) hR e w h)
  have hN := hN'
  refine seq_ok' (by kernel_rfl) ?_
  have hN' : ∀ e w, (m27_5 R (e 0) (e 3) (e 4) w) → (thenE (W27 k27_5 (thenE (W27 k27_3 Q) Q)) (thenE (W27 k27_3 Q) Q)) .normal e w := fun e w h => then_N (s27_5 (R := R) (Q := (thenE (W27 k27_3 Q) Q)) hN e w h)
  have hN := hN'
  exact region_ok 2 (fun e w => m27_5 R (e 0) (e 3) (e 4) w) (by kernel_rfl) (kcast (by kernel_rfl) h) hN (by kernel_rfl)
theorem s27_1 {R : Value → World → Prop} {Q : Exit → Env → World → Prop} (hR : ∀ e w, (R (e 2) w) → Q .ret e w) (e : Env) (w : World) (h : m27_1 R (e 0) w) : W27 k27_1 Q e w := by
  unfold m27_1 at h
  refine seq_ok' (by kernel_rfl) ?_
  have hN' : ∀ e w, (m27_2 R (e 0) (e 3) w) → (thenE (W27 k27_2 Q) Q) .normal e w := fun e w h => then_N (s27_2 (R := R) (Q := Q) hR e w h)
  have hN := hN'
  exact region_ok 1 (fun e w => m27_2 R (e 0) (e 3) w) (by kernel_rfl) (kcast (by kernel_rfl) h) hN (by kernel_rfl)
theorem s27_0 {R : Value → World → Prop} {Q : Exit → Env → World → Prop} (hR : ∀ e w, (R (e 2) w) → Q .ret e w) (e : Env) (w : World) (h : m27_0 R (e 0) w) : W27 k27_0 Q e w := by
  unfold m27_0 at h
  refine seq_ok' (by kernel_rfl) ?_
  have hN' : ∀ e w, (m27_1 R (e 0) w) → (thenE (W27 k27_1 Q) Q) .normal e w := fun e w h => then_N (s27_1 (R := R) (Q := Q) hR e w h)
  have hN := hN'
  exact region_ok 0 (fun e w => m27_1 R (e 0) w) (by kernel_rfl) (kcast (by kernel_rfl) h) hN (by kernel_rfl)
abbrev m27 (R : Value → World → Prop) (h0 : Value) (w : World) : Prop := m27_0 R h0 w
theorem s27 (h0 : Value) {R : Value → World → Prop} {w : World} (h : m27 R h0 w) :
    Calls Try.prog 27 #[h0] w fun e w' => ∃ v, e = .returned v ∧ R v w' :=
  calls_of_cwp (st := (fun i => cond (Nat.beq i 5) 1 (0))) (c := k27_0) (by kernel_rfl) Try.func27 (by kernel_rfl) (Nat.le_of_ble_eq_true (by kernel_rfl)) (by kernel_rfl)
    (s27_0 (R := R) (Q := endE Try.prog Try.f27 R) (fun e w h => kcast (by kernel_rfl) h) (argsE #[h0]) w (kcast (by kernel_rfl) h))
/-! ### headgate/headgatelaw30.some -/
def m9_5 (R : Value → World → Prop) (t2 : Value) (w : World) : Prop :=
  R t2 w
def m9_3 (R : Value → World → Prop) (t2 : Value) (w : World) : Prop :=
  R t2 w
def m9_2 (R : Value → World → Prop) (l0 : Value) (w : World) : Prop :=
  m9_3 R l0 w
def m9_4 (R : Value → World → Prop) (l0 : Value) (t5 : Value) (w : World) : Prop :=
  condP t5
  (valP Try.prog (Instr.sliceAt 22 l0 none (some (Value.int IntKind.i64 400)) none) w fun t7 w =>
  m9_5 R t7 w)
  (m9_2 R l0 w)
def m9_1 (R : Value → World → Prop) (l0 : Value) (w : World) : Prop :=
  builtinP Try.prog Builtin.len #[22] 3 #[false] #[l0] w fun t4 w =>
  valP Try.prog (binS BinOp.gtr 3 (Operand.tmp 4) (Operand.const (Value.int IntKind.i64 400)) t4 (Value.int IntKind.i64 400)) w fun t5 w =>
  m9_4 R l0 t5 w
def m9_0 (R : Value → World → Prop) (l0 : Value) (w : World) : Prop :=
  m9_1 R l0 w
abbrev W9 := cwp Try.prog (fun i => 0)
noncomputable def k9_0 : Code := (bodyOf Try.f9)
noncomputable def k9_1 : Code := (c2 k9_0)
noncomputable def k9_2 : Code := (c2 k9_1)
noncomputable def k9_3 : Code := (c2 k9_2)
noncomputable def k9_4 : Code := (c2 (c1 k9_1))
noncomputable def k9_5 : Code := (c2 (c1 k9_4))
theorem s9_5 {R : Value → World → Prop} {Q : Exit → Env → World → Prop} (hR : ∀ e w, (R (e 2) w) → Q .ret e w) (e : Env) (w : World) (h : m9_5 R (e 2) w) : W9 k9_5 Q e w := by
  unfold m9_5 at h
  exact ret_ok (by kernel_rfl) (hR _ _ h)
theorem s9_3 {R : Value → World → Prop} {Q : Exit → Env → World → Prop} (hR : ∀ e w, (R (e 2) w) → Q .ret e w) (e : Env) (w : World) (h : m9_3 R (e 2) w) : W9 k9_3 Q e w := by
  unfold m9_3 at h
  exact ret_ok (by kernel_rfl) (hR _ _ h)
theorem s9_2 {R : Value → World → Prop} {Q : Exit → Env → World → Prop} (hR : ∀ e w, (R (e 2) w) → Q .ret e w) (e : Env) (w : World) (h : m9_2 R (e 0) w) : W9 k9_2 Q e w := by
  unfold m9_2 at h
  refine seq_ok' (by kernel_rfl) ?_
  have hN' : ∀ e w, (m9_3 R (e 2) w) → (thenE (W9 k9_3 Q) Q) .normal e w := fun e w h => then_N (s9_3 (R := R) (Q := Q) hR e w h)
  have hN := hN'
  exact region_ok 3 (fun e w => m9_3 R (e 2) w) (by kernel_rfl) (kcast (by kernel_rfl) h) hN (by kernel_rfl)
theorem s9_4 {R : Value → World → Prop} {Q : Exit → Env → World → Prop} (hN : ∀ e w, (m9_2 R (e 0) w) → Q .normal e w) (hR : ∀ e w, (R (e 2) w) → Q .ret e w) (e : Env) (w : World) (h : m9_4 R (e 0) (e 5) w) : W9 k9_4 Q e w := by
  unfold m9_4 at h
  refine cond_ok (Operand.tmp 5) (by kernel_rfl) h (fun h1 => ?_) (fun h1 => ?_)
  · refine seq_ok' (by kernel_rfl) ?_
    have hN' : ∀ e w, (m9_5 R (e 2) w) → (thenE (W9 k9_5 Q) Q) .normal e w := fun e w h => then_N (s9_5 (R := R) (Q := Q) hR e w h)
    have hN := hN'
    exact region_ok 2 (fun e w => m9_5 R (e 2) w) (by kernel_rfl) (kcast (by kernel_rfl) h1) hN (by kernel_rfl)
  · exact skip_ok (by kernel_rfl) (hN _ _ h1)
theorem s9_1 {R : Value → World → Prop} {Q : Exit → Env → World → Prop} (hR : ∀ e w, (R (e 2) w) → Q .ret e w) (e : Env) (w : World) (h : m9_1 R (e 0) w) : W9 k9_1 Q e w := by
  unfold m9_1 at h
  refine seq_ok' (by kernel_rfl) ?_
  have hN' : ∀ e w, (m9_2 R (e 0) w) → (thenE (W9 k9_2 Q) Q) .normal e w := fun e w h => then_N (s9_2 (R := R) (Q := Q) hR e w h)
  have hR : ∀ e w, (R (e 2) w) → (thenE (W9 k9_2 Q) Q) .ret e w := fun e w h => then_R (hR e w h)
  have hN := hN'
  refine seq_ok' (by kernel_rfl) ?_
  have hN' : ∀ e w, (m9_4 R (e 0) (e 5) w) → (thenE (W9 k9_4 (thenE (W9 k9_2 Q) Q)) (thenE (W9 k9_2 Q) Q)) .normal e w := fun e w h => then_N (s9_4 (R := R) (Q := (thenE (W9 k9_2 Q) Q)) hN hR e w h)
  have hN := hN'
  exact region_ok 1 (fun e w => m9_4 R (e 0) (e 5) w) (by kernel_rfl) (kcast (by kernel_rfl) h) hN (by kernel_rfl)
theorem s9_0 {R : Value → World → Prop} {Q : Exit → Env → World → Prop} (hR : ∀ e w, (R (e 2) w) → Q .ret e w) (e : Env) (w : World) (h : m9_0 R (e 0) w) : W9 k9_0 Q e w := by
  unfold m9_0 at h
  refine seq_ok' (by kernel_rfl) ?_
  have hN' : ∀ e w, (m9_1 R (e 0) w) → (thenE (W9 k9_1 Q) Q) .normal e w := fun e w h => then_N (s9_1 (R := R) (Q := Q) hR e w h)
  have hN := hN'
  exact region_ok 0 (fun e w => m9_1 R (e 0) w) (by kernel_rfl) (kcast (by kernel_rfl) h) hN (by kernel_rfl)
abbrev m9 (R : Value → World → Prop) (l0 : Value) (w : World) : Prop := m9_0 R l0 w
theorem s9 (l0 : Value) {R : Value → World → Prop} {w : World} (h : m9 R l0 w) :
    Calls Try.prog 9 #[l0] w fun e w' => ∃ v, e = .returned v ∧ R v w' :=
  calls_of_cwp (st := (fun i => 0)) (c := k9_0) (by kernel_rfl) Try.func9 (by kernel_rfl) (Nat.le_of_ble_eq_true (by kernel_rfl)) (by kernel_rfl)
    (s9_0 (R := R) (Q := endE Try.prog Try.f9 R) (fun e w h => kcast (by kernel_rfl) h) (argsE #[l0]) w (kcast (by kernel_rfl) h))
/-! ### headgate/headgatelaw30.awake -/
def m12_8 (R : Value → World → Prop) (t0 : Value) (w : World) : Prop :=
  R t0 w
def m12_6 (R : Value → World → Prop) (t0 : Value) (w : World) : Prop :=
  R t0 w
def m12_5 (R : Value → World → Prop) (h1 : Value) (f3 : Value) (a4 : Value) (b5 : Value) (w : World) : Prop :=
  valP Try.prog (binS BinOp.eql 25 (Operand.tmp 24) (Operand.const (Value.int IntKind.i64 0)) f3 (Value.int IntKind.i64 0)) w fun t25 w =>
  condP t25
  (callP Try.prog (fnV 19) #[h1, (Value.int IntKind.i64 2)] w fun t28 w =>
  valP Try.prog (Instr.build 45 #[(0, (Value.int IntKind.i64 1)), (1, (Value.int IntKind.i64 2))]) w fun t29 w =>
  valP Try.prog (Instr.build 45 #[(0, (Value.int IntKind.i64 3)), (1, (Value.int IntKind.i64 2)), (2, (Value.int IntKind.i64 1))]) w fun t30 w =>
  valP Try.prog (Instr.buildSlice 28 2 #[(0, t29), (1, t30)]) w fun t31 w =>
  callP Try.prog (fnV 18) #[t28, t31] w fun t32 w =>
  pickP t25 t32 (Value.bool false) fun t33 =>
  condP t33
  (valP Try.prog (binS BinOp.eql 3 (Operand.tmp 35) (Operand.const (Value.int IntKind.i64 0)) a4 (Value.int IntKind.i64 0)) w fun t36 w =>
  pickP t33 t36 (Value.bool false) fun t37 =>
  condP t37
  (valP Try.prog (binS BinOp.eql 3 (Operand.tmp 39) (Operand.const (Value.int IntKind.i64 2)) b5 (Value.int IntKind.i64 2)) w fun t40 w =>
  pickP t37 t40 (Value.bool false) fun t41 =>
  condP t41
  (callP Try.prog (fnV 17) #[h1] w fun t44 w =>
  valP Try.prog (binS BinOp.eql 3 (Operand.tmp 44) (Operand.const (Value.int IntKind.i64 4)) t44 (Value.int IntKind.i64 4)) w fun t45 w =>
  pickP t41 t45 (Value.bool false) fun t46 =>
  m12_6 R t46 w)
  (pickP t41 undef (Value.bool false) fun t46 =>
  m12_6 R t46 w))
  (pickP t37 undef (Value.bool false) fun t41 =>
  condP t41
  (callP Try.prog (fnV 17) #[h1] w fun t44 w =>
  valP Try.prog (binS BinOp.eql 3 (Operand.tmp 44) (Operand.const (Value.int IntKind.i64 4)) t44 (Value.int IntKind.i64 4)) w fun t45 w =>
  pickP t41 t45 (Value.bool false) fun t46 =>
  m12_6 R t46 w)
  (pickP t41 undef (Value.bool false) fun t46 =>
  m12_6 R t46 w)))
  (pickP t33 undef (Value.bool false) fun t37 =>
  condP t37
  (valP Try.prog (binS BinOp.eql 3 (Operand.tmp 39) (Operand.const (Value.int IntKind.i64 2)) b5 (Value.int IntKind.i64 2)) w fun t40 w =>
  pickP t37 t40 (Value.bool false) fun t41 =>
  condP t41
  (callP Try.prog (fnV 17) #[h1] w fun t44 w =>
  valP Try.prog (binS BinOp.eql 3 (Operand.tmp 44) (Operand.const (Value.int IntKind.i64 4)) t44 (Value.int IntKind.i64 4)) w fun t45 w =>
  pickP t41 t45 (Value.bool false) fun t46 =>
  m12_6 R t46 w)
  (pickP t41 undef (Value.bool false) fun t46 =>
  m12_6 R t46 w))
  (pickP t37 undef (Value.bool false) fun t41 =>
  condP t41
  (callP Try.prog (fnV 17) #[h1] w fun t44 w =>
  valP Try.prog (binS BinOp.eql 3 (Operand.tmp 44) (Operand.const (Value.int IntKind.i64 4)) t44 (Value.int IntKind.i64 4)) w fun t45 w =>
  pickP t41 t45 (Value.bool false) fun t46 =>
  m12_6 R t46 w)
  (pickP t41 undef (Value.bool false) fun t46 =>
  m12_6 R t46 w))))
  (pickP t25 undef (Value.bool false) fun t33 =>
  condP t33
  (valP Try.prog (binS BinOp.eql 3 (Operand.tmp 35) (Operand.const (Value.int IntKind.i64 0)) a4 (Value.int IntKind.i64 0)) w fun t36 w =>
  pickP t33 t36 (Value.bool false) fun t37 =>
  condP t37
  (valP Try.prog (binS BinOp.eql 3 (Operand.tmp 39) (Operand.const (Value.int IntKind.i64 2)) b5 (Value.int IntKind.i64 2)) w fun t40 w =>
  pickP t37 t40 (Value.bool false) fun t41 =>
  condP t41
  (callP Try.prog (fnV 17) #[h1] w fun t44 w =>
  valP Try.prog (binS BinOp.eql 3 (Operand.tmp 44) (Operand.const (Value.int IntKind.i64 4)) t44 (Value.int IntKind.i64 4)) w fun t45 w =>
  pickP t41 t45 (Value.bool false) fun t46 =>
  m12_6 R t46 w)
  (pickP t41 undef (Value.bool false) fun t46 =>
  m12_6 R t46 w))
  (pickP t37 undef (Value.bool false) fun t41 =>
  condP t41
  (callP Try.prog (fnV 17) #[h1] w fun t44 w =>
  valP Try.prog (binS BinOp.eql 3 (Operand.tmp 44) (Operand.const (Value.int IntKind.i64 4)) t44 (Value.int IntKind.i64 4)) w fun t45 w =>
  pickP t41 t45 (Value.bool false) fun t46 =>
  m12_6 R t46 w)
  (pickP t41 undef (Value.bool false) fun t46 =>
  m12_6 R t46 w)))
  (pickP t33 undef (Value.bool false) fun t37 =>
  condP t37
  (valP Try.prog (binS BinOp.eql 3 (Operand.tmp 39) (Operand.const (Value.int IntKind.i64 2)) b5 (Value.int IntKind.i64 2)) w fun t40 w =>
  pickP t37 t40 (Value.bool false) fun t41 =>
  condP t41
  (callP Try.prog (fnV 17) #[h1] w fun t44 w =>
  valP Try.prog (binS BinOp.eql 3 (Operand.tmp 44) (Operand.const (Value.int IntKind.i64 4)) t44 (Value.int IntKind.i64 4)) w fun t45 w =>
  pickP t41 t45 (Value.bool false) fun t46 =>
  m12_6 R t46 w)
  (pickP t41 undef (Value.bool false) fun t46 =>
  m12_6 R t46 w))
  (pickP t37 undef (Value.bool false) fun t41 =>
  condP t41
  (callP Try.prog (fnV 17) #[h1] w fun t44 w =>
  valP Try.prog (binS BinOp.eql 3 (Operand.tmp 44) (Operand.const (Value.int IntKind.i64 4)) t44 (Value.int IntKind.i64 4)) w fun t45 w =>
  pickP t41 t45 (Value.bool false) fun t46 =>
  m12_6 R t46 w)
  (pickP t41 undef (Value.bool false) fun t46 =>
  m12_6 R t46 w))))
def m12_4 (R : Value → World → Prop) (h1 : Value) (f3 : Value) (w : World) : Prop :=
  callP Try.prog (fnV 15) #[h1, (Value.int IntKind.i64 2)] w fun t21 w =>
  valP Try.prog (Instr.extract t21 0) w fun t22 w =>
  valP Try.prog (Instr.extract t21 1) w fun t23 w =>
  m12_5 R h1 f3 t22 t23 w
def m12_3 (R : Value → World → Prop) (h1 : Value) (w : World) : Prop :=
  valP Try.prog (Instr.buildSlice 22 4 #[(0, (Value.int IntKind.i64 1)), (1, (Value.int IntKind.i64 1)), (2, (Value.int IntKind.i64 2)), (3, (Value.int IntKind.i64 3))]) w fun t17 w =>
  callP Try.prog (fnV 13) #[h1, t17] w fun t18 w =>
  m12_4 R h1 t18 w
def m12_7 (R : Value → World → Prop) (h1 : Value) (t15 : Value) (w : World) : Prop :=
  condP t15
  (m12_8 R (Value.bool false) w)
  (m12_3 R h1 w)
def m12_2 (R : Value → World → Prop) (h1 : Value) (e2 : Value) (w : World) : Prop :=
  valP Try.prog (binS BinOp.neq 25 (Operand.tmp 10) (Operand.const (Value.int IntKind.i64 0)) e2 (Value.int IntKind.i64 0)) w fun t11 w =>
  condP t11
  (pickP t11 (Value.bool true) undef fun t15 =>
  m12_7 R h1 t15 w)
  (valP Try.prog (binS BinOp.eql 24 (Operand.tmp 13) (Operand.const (Value.pointer none)) h1 (Value.pointer none)) w fun t14 w =>
  pickP t11 (Value.bool true) t14 fun t15 =>
  m12_7 R h1 t15 w)
def m12_1 (R : Value → World → Prop) (w : World) : Prop :=
  callP Try.prog (fnV 10) #[(Value.int IntKind.i64 2)] w fun t7 w =>
  valP Try.prog (Instr.extract t7 0) w fun t8 w =>
  valP Try.prog (Instr.extract t7 1) w fun t9 w =>
  m12_2 R t8 t9 w
def m12_0 (R : Value → World → Prop) (w : World) : Prop :=
  m12_1 R w
abbrev W12 := cwp Try.prog (fun i => 0)
noncomputable def k12_0 : Code := (bodyOf Try.f12)
noncomputable def k12_1 : Code := (c2 k12_0)
noncomputable def k12_2 : Code := (c2 k12_1)
noncomputable def k12_3 : Code := (c2 k12_2)
noncomputable def k12_4 : Code := (c2 k12_3)
noncomputable def k12_5 : Code := (c2 k12_4)
noncomputable def k12_6 : Code := (c2 k12_5)
noncomputable def k12_7 : Code := (c2 (c1 k12_2))
noncomputable def k12_8 : Code := (c2 (c1 k12_7))
theorem s12_8 {R : Value → World → Prop} {Q : Exit → Env → World → Prop} (hR : ∀ e w, (R (e 0) w) → Q .ret e w) (e : Env) (w : World) (h : m12_8 R (e 0) w) : W12 k12_8 Q e w := by
  unfold m12_8 at h
  exact ret_ok (by kernel_rfl) (hR _ _ h)
theorem s12_6 {R : Value → World → Prop} {Q : Exit → Env → World → Prop} (hR : ∀ e w, (R (e 0) w) → Q .ret e w) (e : Env) (w : World) (h : m12_6 R (e 0) w) : W12 k12_6 Q e w := by
  unfold m12_6 at h
  exact ret_ok (by kernel_rfl) (hR _ _ h)
theorem s12_5 {R : Value → World → Prop} {Q : Exit → Env → World → Prop} (hR : ∀ e w, (R (e 0) w) → Q .ret e w) (e : Env) (w : World) (h : m12_5 R (e 1) (e 3) (e 4) (e 5) w) : W12 k12_5 Q e w := by
  unfold m12_5 at h
  refine seq_ok' (by kernel_rfl) ?_
  have hN' : ∀ e w, (m12_6 R (e 0) w) → (thenE (W12 k12_6 Q) Q) .normal e w := fun e w h => then_N (s12_6 (R := R) (Q := Q) hR e w h)
  have hN := hN'
  exact region_ok 6 (fun e w => m12_6 R (e 0) w) (by kernel_rfl) (kcast (by kernel_rfl) h) hN (by kernel_rfl)
theorem s12_4 {R : Value → World → Prop} {Q : Exit → Env → World → Prop} (hR : ∀ e w, (R (e 0) w) → Q .ret e w) (e : Env) (w : World) (h : m12_4 R (e 1) (e 3) w) : W12 k12_4 Q e w := by
  unfold m12_4 at h
  refine seq_ok' (by kernel_rfl) ?_
  have hN' : ∀ e w, (m12_5 R (e 1) (e 3) (e 4) (e 5) w) → (thenE (W12 k12_5 Q) Q) .normal e w := fun e w h => then_N (s12_5 (R := R) (Q := Q) hR e w h)
  have hN := hN'
  exact region_ok 5 (fun e w => m12_5 R (e 1) (e 3) (e 4) (e 5) w) (by kernel_rfl) (kcast (by kernel_rfl) h) hN (by kernel_rfl)
theorem s12_3 {R : Value → World → Prop} {Q : Exit → Env → World → Prop} (hR : ∀ e w, (R (e 0) w) → Q .ret e w) (e : Env) (w : World) (h : m12_3 R (e 1) w) : W12 k12_3 Q e w := by
  unfold m12_3 at h
  refine seq_ok' (by kernel_rfl) ?_
  have hN' : ∀ e w, (m12_4 R (e 1) (e 3) w) → (thenE (W12 k12_4 Q) Q) .normal e w := fun e w h => then_N (s12_4 (R := R) (Q := Q) hR e w h)
  have hN := hN'
  exact region_ok 4 (fun e w => m12_4 R (e 1) (e 3) w) (by kernel_rfl) (kcast (by kernel_rfl) h) hN (by kernel_rfl)
theorem s12_7 {R : Value → World → Prop} {Q : Exit → Env → World → Prop} (hN : ∀ e w, (m12_3 R (e 1) w) → Q .normal e w) (hR : ∀ e w, (R (e 0) w) → Q .ret e w) (e : Env) (w : World) (h : m12_7 R (e 1) (e 15) w) : W12 k12_7 Q e w := by
  unfold m12_7 at h
  refine cond_ok (Operand.tmp 15) (by kernel_rfl) h (fun h1 => ?_) (fun h1 => ?_)
  · refine seq_ok' (by kernel_rfl) ?_
    have hN' : ∀ e w, (m12_8 R (e 0) w) → (thenE (W12 k12_8 Q) Q) .normal e w := fun e w h => then_N (s12_8 (R := R) (Q := Q) hR e w h)
    have hN := hN'
    exact region_ok 3 (fun e w => m12_8 R (e 0) w) (by kernel_rfl) (kcast (by kernel_rfl) h1) hN (by kernel_rfl)
  · exact skip_ok (by kernel_rfl) (hN _ _ h1)
theorem s12_2 {R : Value → World → Prop} {Q : Exit → Env → World → Prop} (hR : ∀ e w, (R (e 0) w) → Q .ret e w) (e : Env) (w : World) (h : m12_2 R (e 1) (e 2) w) : W12 k12_2 Q e w := by
  unfold m12_2 at h
  refine seq_ok' (by kernel_rfl) ?_
  have hN' : ∀ e w, (m12_3 R (e 1) w) → (thenE (W12 k12_3 Q) Q) .normal e w := fun e w h => then_N (s12_3 (R := R) (Q := Q) hR e w h)
  have hR : ∀ e w, (R (e 0) w) → (thenE (W12 k12_3 Q) Q) .ret e w := fun e w h => then_R (hR e w h)
  have hN := hN'
  refine seq_ok' (by kernel_rfl) ?_
  have hN' : ∀ e w, (m12_7 R (e 1) (e 15) w) → (thenE (W12 k12_7 (thenE (W12 k12_3 Q) Q)) (thenE (W12 k12_3 Q) Q)) .normal e w := fun e w h => then_N (s12_7 (R := R) (Q := (thenE (W12 k12_3 Q) Q)) hN hR e w h)
  have hN := hN'
  exact region_ok 2 (fun e w => m12_7 R (e 1) (e 15) w) (by kernel_rfl) (kcast (by kernel_rfl) h) hN (by kernel_rfl)
theorem s12_1 {R : Value → World → Prop} {Q : Exit → Env → World → Prop} (hR : ∀ e w, (R (e 0) w) → Q .ret e w) (e : Env) (w : World) (h : m12_1 R w) : W12 k12_1 Q e w := by
  unfold m12_1 at h
  refine seq_ok' (by kernel_rfl) ?_
  have hN' : ∀ e w, (m12_2 R (e 1) (e 2) w) → (thenE (W12 k12_2 Q) Q) .normal e w := fun e w h => then_N (s12_2 (R := R) (Q := Q) hR e w h)
  have hN := hN'
  exact region_ok 1 (fun e w => m12_2 R (e 1) (e 2) w) (by kernel_rfl) (kcast (by kernel_rfl) h) hN (by kernel_rfl)
theorem s12_0 {R : Value → World → Prop} {Q : Exit → Env → World → Prop} (hR : ∀ e w, (R (e 0) w) → Q .ret e w) (e : Env) (w : World) (h : m12_0 R w) : W12 k12_0 Q e w := by
  unfold m12_0 at h
  refine seq_ok' (by kernel_rfl) ?_
  have hN' : ∀ e w, (m12_1 R w) → (thenE (W12 k12_1 Q) Q) .normal e w := fun e w h => then_N (s12_1 (R := R) (Q := Q) hR e w h)
  have hN := hN'
  exact region_ok 0 (fun e w => m12_1 R w) (by kernel_rfl) (kcast (by kernel_rfl) h) hN (by kernel_rfl)
abbrev m12 (R : Value → World → Prop) (w : World) : Prop := m12_0 R w
theorem s12  {R : Value → World → Prop} {w : World} (h : m12 R  w) :
    Calls Try.prog 12 #[] w fun e w' => ∃ v, e = .returned v ∧ R v w' :=
  calls_of_cwp (st := (fun i => 0)) (c := k12_0) (by kernel_rfl) Try.func12 (by kernel_rfl) (Nat.le_of_ble_eq_true (by kernel_rfl)) (by kernel_rfl)
    (s12_0 (R := R) (Q := endE Try.prog Try.f12 R) (fun e w h => kcast (by kernel_rfl) h) (argsE #[]) w (kcast (by kernel_rfl) h))
/-! ### headgate/headgatelaw30.made -/
def m21_7 (R : Value → World → Prop) (t4 : Value) (w : World) : Prop :=
  R t4 w
def m21_5 (R : Value → World → Prop) (t4 : Value) (w : World) : Prop :=
  R t4 w
def m21_4 (R : Value → World → Prop) (h5 : Value) (w : World) : Prop :=
  m21_5 R h5 w
def m21_3 (R : Value → World → Prop) (l1 : Value) (h5 : Value) (w : World) : Prop :=
  callP Try.prog (fnV 13) #[h5, l1] w fun t20 w =>
  m21_4 R h5 w
def m21_6 (R : Value → World → Prop) (l1 : Value) (h5 : Value) (t17 : Value) (w : World) : Prop :=
  condP t17
  (m21_7 R (Value.pointer none) w)
  (m21_3 R l1 h5 w)
def m21_2 (R : Value → World → Prop) (l1 : Value) (h5 : Value) (e6 : Value) (w : World) : Prop :=
  valP Try.prog (binS BinOp.neq 25 (Operand.tmp 16) (Operand.const (Value.int IntKind.i64 0)) e6 (Value.int IntKind.i64 0)) w fun t17 w =>
  m21_6 R l1 h5 t17 w
def m21_1 (R : Value → World → Prop) (most0 : Value) (l1 : Value) (w : World) : Prop :=
  valP Try.prog (binS BinOp.rem 3 (Operand.tmp 8) (Operand.const (Value.int IntKind.i64 16)) most0 (Value.int IntKind.i64 16)) w fun t9 w =>
  valP Try.prog (binS BinOp.add 3 (Operand.tmp 9) (Operand.const (Value.int IntKind.i64 16)) t9 (Value.int IntKind.i64 16)) w fun t10 w =>
  valP Try.prog (binS BinOp.rem 3 (Operand.tmp 10) (Operand.const (Value.int IntKind.i64 16)) t10 (Value.int IntKind.i64 16)) w fun t11 w =>
  valP Try.prog (binS BinOp.add 3 (Operand.const (Value.int IntKind.i64 1)) (Operand.tmp 11) (Value.int IntKind.i64 1) t11) w fun t12 w =>
  callP Try.prog (fnV 10) #[t12] w fun t13 w =>
  valP Try.prog (Instr.extract t13 0) w fun t14 w =>
  valP Try.prog (Instr.extract t13 1) w fun t15 w =>
  m21_2 R l1 t14 t15 w
def m21_0 (R : Value → World → Prop) (most0 : Value) (l1 : Value) (w : World) : Prop :=
  m21_1 R most0 l1 w
abbrev W21 := cwp Try.prog (fun i => 0)
noncomputable def k21_0 : Code := (bodyOf Try.f21)
noncomputable def k21_1 : Code := (c2 k21_0)
noncomputable def k21_2 : Code := (c2 k21_1)
noncomputable def k21_3 : Code := (c2 k21_2)
noncomputable def k21_4 : Code := (c2 k21_3)
noncomputable def k21_5 : Code := (c2 k21_4)
noncomputable def k21_6 : Code := (c2 (c1 k21_2))
noncomputable def k21_7 : Code := (c2 (c1 k21_6))
theorem s21_7 {R : Value → World → Prop} {Q : Exit → Env → World → Prop} (hR : ∀ e w, (R (e 4) w) → Q .ret e w) (e : Env) (w : World) (h : m21_7 R (e 4) w) : W21 k21_7 Q e w := by
  unfold m21_7 at h
  exact ret_ok (by kernel_rfl) (hR _ _ h)
theorem s21_5 {R : Value → World → Prop} {Q : Exit → Env → World → Prop} (hR : ∀ e w, (R (e 4) w) → Q .ret e w) (e : Env) (w : World) (h : m21_5 R (e 4) w) : W21 k21_5 Q e w := by
  unfold m21_5 at h
  exact ret_ok (by kernel_rfl) (hR _ _ h)
theorem s21_4 {R : Value → World → Prop} {Q : Exit → Env → World → Prop} (hR : ∀ e w, (R (e 4) w) → Q .ret e w) (e : Env) (w : World) (h : m21_4 R (e 5) w) : W21 k21_4 Q e w := by
  unfold m21_4 at h
  refine seq_ok' (by kernel_rfl) ?_
  have hN' : ∀ e w, (m21_5 R (e 4) w) → (thenE (W21 k21_5 Q) Q) .normal e w := fun e w h => then_N (s21_5 (R := R) (Q := Q) hR e w h)
  have hN := hN'
  exact region_ok 5 (fun e w => m21_5 R (e 4) w) (by kernel_rfl) (kcast (by kernel_rfl) h) hN (by kernel_rfl)
theorem s21_3 {R : Value → World → Prop} {Q : Exit → Env → World → Prop} (hR : ∀ e w, (R (e 4) w) → Q .ret e w) (e : Env) (w : World) (h : m21_3 R (e 1) (e 5) w) : W21 k21_3 Q e w := by
  unfold m21_3 at h
  refine seq_ok' (by kernel_rfl) ?_
  have hN' : ∀ e w, (m21_4 R (e 5) w) → (thenE (W21 k21_4 Q) Q) .normal e w := fun e w h => then_N (s21_4 (R := R) (Q := Q) hR e w h)
  have hN := hN'
  exact region_ok 4 (fun e w => m21_4 R (e 5) w) (by kernel_rfl) (kcast (by kernel_rfl) h) hN (by kernel_rfl)
theorem s21_6 {R : Value → World → Prop} {Q : Exit → Env → World → Prop} (hN : ∀ e w, (m21_3 R (e 1) (e 5) w) → Q .normal e w) (hR : ∀ e w, (R (e 4) w) → Q .ret e w) (e : Env) (w : World) (h : m21_6 R (e 1) (e 5) (e 17) w) : W21 k21_6 Q e w := by
  unfold m21_6 at h
  refine cond_ok (Operand.tmp 17) (by kernel_rfl) h (fun h1 => ?_) (fun h1 => ?_)
  · refine seq_ok' (by kernel_rfl) ?_
    have hN' : ∀ e w, (m21_7 R (e 4) w) → (thenE (W21 k21_7 Q) Q) .normal e w := fun e w h => then_N (s21_7 (R := R) (Q := Q) hR e w h)
    have hN := hN'
    exact region_ok 3 (fun e w => m21_7 R (e 4) w) (by kernel_rfl) (kcast (by kernel_rfl) h1) hN (by kernel_rfl)
  · exact skip_ok (by kernel_rfl) (hN _ _ h1)
theorem s21_2 {R : Value → World → Prop} {Q : Exit → Env → World → Prop} (hR : ∀ e w, (R (e 4) w) → Q .ret e w) (e : Env) (w : World) (h : m21_2 R (e 1) (e 5) (e 6) w) : W21 k21_2 Q e w := by
  unfold m21_2 at h
  refine seq_ok' (by kernel_rfl) ?_
  have hN' : ∀ e w, (m21_3 R (e 1) (e 5) w) → (thenE (W21 k21_3 Q) Q) .normal e w := fun e w h => then_N (s21_3 (R := R) (Q := Q) hR e w h)
  have hR : ∀ e w, (R (e 4) w) → (thenE (W21 k21_3 Q) Q) .ret e w := fun e w h => then_R (hR e w h)
  have hN := hN'
  refine seq_ok' (by kernel_rfl) ?_
  have hN' : ∀ e w, (m21_6 R (e 1) (e 5) (e 17) w) → (thenE (W21 k21_6 (thenE (W21 k21_3 Q) Q)) (thenE (W21 k21_3 Q) Q)) .normal e w := fun e w h => then_N (s21_6 (R := R) (Q := (thenE (W21 k21_3 Q) Q)) hN hR e w h)
  have hN := hN'
  exact region_ok 2 (fun e w => m21_6 R (e 1) (e 5) (e 17) w) (by kernel_rfl) (kcast (by kernel_rfl) h) hN (by kernel_rfl)
theorem s21_1 {R : Value → World → Prop} {Q : Exit → Env → World → Prop} (hR : ∀ e w, (R (e 4) w) → Q .ret e w) (e : Env) (w : World) (h : m21_1 R (e 0) (e 1) w) : W21 k21_1 Q e w := by
  unfold m21_1 at h
  refine seq_ok' (by kernel_rfl) ?_
  have hN' : ∀ e w, (m21_2 R (e 1) (e 5) (e 6) w) → (thenE (W21 k21_2 Q) Q) .normal e w := fun e w h => then_N (s21_2 (R := R) (Q := Q) hR e w h)
  have hN := hN'
  exact region_ok 1 (fun e w => m21_2 R (e 1) (e 5) (e 6) w) (by kernel_rfl) (kcast (by kernel_rfl) h) hN (by kernel_rfl)
theorem s21_0 {R : Value → World → Prop} {Q : Exit → Env → World → Prop} (hR : ∀ e w, (R (e 4) w) → Q .ret e w) (e : Env) (w : World) (h : m21_0 R (e 0) (e 1) w) : W21 k21_0 Q e w := by
  unfold m21_0 at h
  refine seq_ok' (by kernel_rfl) ?_
  have hN' : ∀ e w, (m21_1 R (e 0) (e 1) w) → (thenE (W21 k21_1 Q) Q) .normal e w := fun e w h => then_N (s21_1 (R := R) (Q := Q) hR e w h)
  have hN := hN'
  exact region_ok 0 (fun e w => m21_1 R (e 0) (e 1) w) (by kernel_rfl) (kcast (by kernel_rfl) h) hN (by kernel_rfl)
abbrev m21 (R : Value → World → Prop) (most0 : Value) (l1 : Value) (w : World) : Prop := m21_0 R most0 l1 w
theorem s21 (most0 : Value) (l1 : Value) {R : Value → World → Prop} {w : World} (h : m21 R most0 l1 w) :
    Calls Try.prog 21 #[most0, l1] w fun e w' => ∃ v, e = .returned v ∧ R v w' :=
  calls_of_cwp (st := (fun i => 0)) (c := k21_0) (by kernel_rfl) Try.func21 (by kernel_rfl) (Nat.le_of_ble_eq_true (by kernel_rfl)) (by kernel_rfl)
    (s21_0 (R := R) (Q := endE Try.prog Try.f21 R) (fun e w h => kcast (by kernel_rfl) h) (argsE #[most0, l1]) w (kcast (by kernel_rfl) h))
/-! ### headgate/headgatelaw30.times -/
def m22_8 (R : Value → World → Prop) (K1 : (Value × Value) → World → Prop) (l0 : Value) (key1 : Value) (n5 : Value) (i6 : Value) (w : World) : Prop :=
  valP Try.prog (binS BinOp.add 3 (Operand.tmp 11) (Operand.const (Value.int IntKind.i64 1)) i6 (Value.int IntKind.i64 1)) w fun t12 w =>
  K1 (n5, t12) w
def m22_9 (R : Value → World → Prop) (K1 : (Value × Value) → World → Prop) (l0 : Value) (key1 : Value) (n5 : Value) (i6 : Value) (t18 : Value) (w : World) : Prop :=
  condP t18
  (valP Try.prog (binS BinOp.add 3 (Operand.tmp 19) (Operand.const (Value.int IntKind.i64 1)) n5 (Value.int IntKind.i64 1)) w fun t20 w =>
  m22_8 R K1 l0 key1 t20 i6 w)
  (m22_8 R K1 l0 key1 n5 i6 w)
def m22_7 (R : Value → World → Prop) (K1 : (Value × Value) → World → Prop) (l0 : Value) (key1 : Value) (n5 : Value) (i6 : Value) (w : World) : Prop :=
  valP Try.prog (Instr.indexAt 22 l0 i6) w fun t15 w =>
  valP Try.prog (Instr.loadAt 3 t15) w fun t16 w =>
  valP Try.prog (binS BinOp.eql 3 (Operand.tmp 16) (Operand.tmp 17) t16 key1) w fun t18 w =>
  m22_9 R K1 l0 key1 n5 i6 t18 w
def m22_4 (R : Value → World → Prop) (t4 : Value) (w : World) : Prop :=
  R t4 w
def m22_3 (R : Value → World → Prop) (n5 : Value) (w : World) : Prop :=
  m22_4 R n5 w
def m22_10 (R : Value → World → Prop) (K1 : (Value × Value) → World → Prop) (l0 : Value) (key1 : Value) (n5 : Value) (i6 : Value) (t10 : Value) (w : World) : Prop :=
  condP t10
  (m22_7 R K1 l0 key1 n5 i6 w)
  (m22_3 R n5 w)
def m22_6 (R : Value → World → Prop) (K1 : (Value × Value) → World → Prop) (l0 : Value) (key1 : Value) (n5 : Value) (i6 : Value) (w : World) : Prop :=
  builtinP Try.prog Builtin.len #[22] 3 #[false] #[l0] w fun t9 w =>
  valP Try.prog (binS BinOp.lss 3 (Operand.tmp 7) (Operand.tmp 9) i6 t9) w fun t10 w =>
  m22_10 R K1 l0 key1 n5 i6 t10 w
def m22_5 (R : Value → World → Prop) (l0 : Value) (key1 : Value) (n5 : Value) (i6 : Value) (w : World) : Prop :=
  loopP (fun (K1 : (Value × Value) → World → Prop) (s : Value × Value) w => m22_6 R K1 l0 key1 s.1 s.2 w) (n5, i6) w
def m22_2 (R : Value → World → Prop) (l0 : Value) (key1 : Value) (n5 : Value) (w : World) : Prop :=
  m22_5 R l0 key1 n5 (Value.int IntKind.i64 0) w
def m22_1 (R : Value → World → Prop) (l0 : Value) (key1 : Value) (w : World) : Prop :=
  m22_2 R l0 key1 (Value.int IntKind.i64 0) w
def m22_0 (R : Value → World → Prop) (l0 : Value) (key1 : Value) (w : World) : Prop :=
  m22_1 R l0 key1 w
abbrev W22 := cwp Try.prog (fun i => 0)
noncomputable def k22_0 : Code := (bodyOf Try.f22)
noncomputable def k22_1 : Code := (c2 k22_0)
noncomputable def k22_2 : Code := (c2 k22_1)
noncomputable def k22_3 : Code := (c2 k22_2)
noncomputable def k22_4 : Code := (c2 k22_3)
noncomputable def k22_5 : Code := (c2 (c1 k22_2))
noncomputable def k22_6 : Code := (c1 (c1 k22_5))
noncomputable def k22_7 : Code := (c2 k22_6)
noncomputable def k22_8 : Code := (c2 k22_7)
noncomputable def k22_9 : Code := (c2 (c1 (c1 k22_7)))
noncomputable def k22_10 : Code := (c2 (c1 k22_6))
theorem s22_8 {R : Value → World → Prop} {K1 : (Value × Value) → World → Prop} {Q : Exit → Env → World → Prop} (hN : ∀ e w, (K1 ((e 5), (e 6)) w) → Q .normal e w) (e : Env) (w : World) (h : m22_8 R K1 (e 0) (e 1) (e 5) (e 6) w) : W22 k22_8 Q e w := by
  unfold m22_8 at h
  exact region_ok 4 (fun e w => K1 ((e 5), (e 6)) w) (by kernel_rfl) (kcast (by kernel_rfl) h) hN (by kernel_rfl)
theorem s22_9 {R : Value → World → Prop} {K1 : (Value × Value) → World → Prop} {Q : Exit → Env → World → Prop} (hN : ∀ e w, (m22_8 R K1 (e 0) (e 1) (e 5) (e 6) w) → Q .normal e w) (e : Env) (w : World) (h : m22_9 R K1 (e 0) (e 1) (e 5) (e 6) (e 18) w) : W22 k22_9 Q e w := by
  unfold m22_9 at h
  refine cond_ok (Operand.tmp 18) (by kernel_rfl) h (fun h1 => ?_) (fun h1 => ?_)
  · exact region_ok 6 (fun e w => m22_8 R K1 (e 0) (e 1) (e 5) (e 6) w) (by kernel_rfl) (kcast (by kernel_rfl) h1) hN (by kernel_rfl)
  · exact skip_ok (by kernel_rfl) (hN _ _ h1)
theorem s22_7 {R : Value → World → Prop} {K1 : (Value × Value) → World → Prop} {Q : Exit → Env → World → Prop} (hN : ∀ e w, (K1 ((e 5), (e 6)) w) → Q .normal e w) (e : Env) (w : World) (h : m22_7 R K1 (e 0) (e 1) (e 5) (e 6) w) : W22 k22_7 Q e w := by
  unfold m22_7 at h
  refine seq_ok' (by kernel_rfl) ?_
  have hN' : ∀ e w, (m22_8 R K1 (e 0) (e 1) (e 5) (e 6) w) → (thenE (W22 k22_8 Q) Q) .normal e w := fun e w h => then_N (s22_8 (R := R) (Q := Q) (K1 := K1) hN e w h)
  have hN := hN'
  refine block_ok 1 (by kernel_rfl) ?_
  have hN : ∀ e w, (m22_8 R K1 (e 0) (e 1) (e 5) (e 6) w) → (inBlockE 1 (thenE (W22 k22_8 Q) Q)) .normal e w := fun e w h => block_N (hN e w h)
  refine seq_ok' (by kernel_rfl) ?_
  have hN' : ∀ e w, (m22_9 R K1 (e 0) (e 1) (e 5) (e 6) (e 18) w) → (thenE (W22 k22_9 (inBlockE 1 (thenE (W22 k22_8 Q) Q))) (inBlockE 1 (thenE (W22 k22_8 Q) Q))) .normal e w := fun e w h => then_N (s22_9 (R := R) (Q := (inBlockE 1 (thenE (W22 k22_8 Q) Q))) (K1 := K1) hN e w h)
  have hN := hN'
  exact region_ok 5 (fun e w => m22_9 R K1 (e 0) (e 1) (e 5) (e 6) (e 18) w) (by kernel_rfl) (kcast (by kernel_rfl) h) hN (by kernel_rfl)
theorem s22_4 {R : Value → World → Prop} {Q : Exit → Env → World → Prop} (hR : ∀ e w, (R (e 4) w) → Q .ret e w) (e : Env) (w : World) (h : m22_4 R (e 4) w) : W22 k22_4 Q e w := by
  unfold m22_4 at h
  exact ret_ok (by kernel_rfl) (hR _ _ h)
theorem s22_3 {R : Value → World → Prop} {Q : Exit → Env → World → Prop} (hR : ∀ e w, (R (e 4) w) → Q .ret e w) (e : Env) (w : World) (h : m22_3 R (e 5) w) : W22 k22_3 Q e w := by
  unfold m22_3 at h
  refine seq_ok' (by kernel_rfl) ?_
  have hN' : ∀ e w, (m22_4 R (e 4) w) → (thenE (W22 k22_4 Q) Q) .normal e w := fun e w h => then_N (s22_4 (R := R) (Q := Q) hR e w h)
  have hN := hN'
  exact region_ok 7 (fun e w => m22_4 R (e 4) w) (by kernel_rfl) (kcast (by kernel_rfl) h) hN (by kernel_rfl)
theorem s22_10 {R : Value → World → Prop} {K1 : (Value × Value) → World → Prop} {Q : Exit → Env → World → Prop} (hN : ∀ e w, (m22_7 R K1 (e 0) (e 1) (e 5) (e 6) w) → Q .normal e w) (hX0 : ∀ e w, (m22_3 R (e 5) w) → Q (.exit 0) e w) (e : Env) (w : World) (h : m22_10 R K1 (e 0) (e 1) (e 5) (e 6) (e 10) w) : W22 k22_10 Q e w := by
  unfold m22_10 at h
  refine cond_ok (Operand.tmp 10) (by kernel_rfl) h (fun h1 => ?_) (fun h1 => ?_)
  · exact skip_ok (by kernel_rfl) (hN _ _ h1)
  · exact exit_ok 0 (by kernel_rfl) (hX0 _ _ h1)
theorem s22_6 {R : Value → World → Prop} {K1 : (Value × Value) → World → Prop} {Q : Exit → Env → World → Prop} (hN : ∀ e w, (K1 ((e 5), (e 6)) w) → Q .normal e w) (hX0 : ∀ e w, (m22_3 R (e 5) w) → Q (.exit 0) e w) (e : Env) (w : World) (h : m22_6 R K1 (e 0) (e 1) (e 5) (e 6) w) : W22 k22_6 Q e w := by
  unfold m22_6 at h
  refine seq_ok' (by kernel_rfl) ?_
  have hN' : ∀ e w, (m22_7 R K1 (e 0) (e 1) (e 5) (e 6) w) → (thenE (W22 k22_7 Q) Q) .normal e w := fun e w h => then_N (s22_7 (R := R) (Q := Q) (K1 := K1) hN e w h)
  have hX0 : ∀ e w, (m22_3 R (e 5) w) → (thenE (W22 k22_7 Q) Q) (.exit 0) e w := fun e w h => then_X (hX0 e w h)
  have hN := hN'
  refine seq_ok' (by kernel_rfl) ?_
  have hN' : ∀ e w, (m22_10 R K1 (e 0) (e 1) (e 5) (e 6) (e 10) w) → (thenE (W22 k22_10 (thenE (W22 k22_7 Q) Q)) (thenE (W22 k22_7 Q) Q)) .normal e w := fun e w h => then_N (s22_10 (R := R) (Q := (thenE (W22 k22_7 Q) Q)) (K1 := K1) hN hX0 e w h)
  have hN := hN'
  exact region_ok 3 (fun e w => m22_10 R K1 (e 0) (e 1) (e 5) (e 6) (e 10) w) (by kernel_rfl) (kcast (by kernel_rfl) h) hN (by kernel_rfl)
theorem s22_5 {R : Value → World → Prop} {Q : Exit → Env → World → Prop} (hN : ∀ e w, (m22_3 R (e 5) w) → Q .normal e w) (e : Env) (w : World) (h : m22_5 R (e 0) (e 1) (e 5) (e 6) w) : W22 k22_5 Q e w := by
  unfold m22_5 at h
  refine block_ok 0 (by kernel_rfl) ?_
  have hX0 : ∀ e w, (m22_3 R (e 5) w) → (inBlockE 0 Q) (.exit 0) e w := fun e w h => inBlock_same (Q := Q) 0 (hN e w h)
  refine loop_ok' (fun (e : Env) => (e 5, e 6)) [0, 1] (by kernel_rfl) (by kernel_rfl) h (fun K e' w' hk h' => ?_)
  have r0 : e' 0 = e 0 := hk 0 (by decide)
  have r1 : e' 1 = e 1 := hk 1 (by decide)
  have hX0 : ∀ e w, (m22_3 R (e 5) w) → (thenE (fun (e : Env) w => K ((e 5), (e 6)) w) (inBlockE 0 Q)) (.exit 0) e w := fun e w h => then_X (hX0 e w h)
  exact s22_6 (R := R) (Q := (thenE (fun (e : Env) w => K ((e 5), (e 6)) w) (inBlockE 0 Q))) (K1 := K) (fun _ _ h => then_N h) hX0 e' w' (by rw [r0, r1]; exact h')
theorem s22_2 {R : Value → World → Prop} {Q : Exit → Env → World → Prop} (hR : ∀ e w, (R (e 4) w) → Q .ret e w) (e : Env) (w : World) (h : m22_2 R (e 0) (e 1) (e 5) w) : W22 k22_2 Q e w := by
  unfold m22_2 at h
  refine seq_ok' (by kernel_rfl) ?_
  have hN' : ∀ e w, (m22_3 R (e 5) w) → (thenE (W22 k22_3 Q) Q) .normal e w := fun e w h => then_N (s22_3 (R := R) (Q := Q) hR e w h)
  have hN := hN'
  refine seq_ok' (by kernel_rfl) ?_
  have hN' : ∀ e w, (m22_5 R (e 0) (e 1) (e 5) (e 6) w) → (thenE (W22 k22_5 (thenE (W22 k22_3 Q) Q)) (thenE (W22 k22_3 Q) Q)) .normal e w := fun e w h => then_N (s22_5 (R := R) (Q := (thenE (W22 k22_3 Q) Q)) hN e w h)
  have hN := hN'
  exact region_ok 2 (fun e w => m22_5 R (e 0) (e 1) (e 5) (e 6) w) (by kernel_rfl) (kcast (by kernel_rfl) h) hN (by kernel_rfl)
theorem s22_1 {R : Value → World → Prop} {Q : Exit → Env → World → Prop} (hR : ∀ e w, (R (e 4) w) → Q .ret e w) (e : Env) (w : World) (h : m22_1 R (e 0) (e 1) w) : W22 k22_1 Q e w := by
  unfold m22_1 at h
  refine seq_ok' (by kernel_rfl) ?_
  have hN' : ∀ e w, (m22_2 R (e 0) (e 1) (e 5) w) → (thenE (W22 k22_2 Q) Q) .normal e w := fun e w h => then_N (s22_2 (R := R) (Q := Q) hR e w h)
  have hN := hN'
  exact region_ok 1 (fun e w => m22_2 R (e 0) (e 1) (e 5) w) (by kernel_rfl) (kcast (by kernel_rfl) h) hN (by kernel_rfl)
theorem s22_0 {R : Value → World → Prop} {Q : Exit → Env → World → Prop} (hR : ∀ e w, (R (e 4) w) → Q .ret e w) (e : Env) (w : World) (h : m22_0 R (e 0) (e 1) w) : W22 k22_0 Q e w := by
  unfold m22_0 at h
  refine seq_ok' (by kernel_rfl) ?_
  have hN' : ∀ e w, (m22_1 R (e 0) (e 1) w) → (thenE (W22 k22_1 Q) Q) .normal e w := fun e w h => then_N (s22_1 (R := R) (Q := Q) hR e w h)
  have hN := hN'
  exact region_ok 0 (fun e w => m22_1 R (e 0) (e 1) w) (by kernel_rfl) (kcast (by kernel_rfl) h) hN (by kernel_rfl)
abbrev m22 (R : Value → World → Prop) (l0 : Value) (key1 : Value) (w : World) : Prop := m22_0 R l0 key1 w
theorem s22 (l0 : Value) (key1 : Value) {R : Value → World → Prop} {w : World} (h : m22 R l0 key1 w) :
    Calls Try.prog 22 #[l0, key1] w fun e w' => ∃ v, e = .returned v ∧ R v w' :=
  calls_of_cwp (st := (fun i => 0)) (c := k22_0) (by kernel_rfl) Try.func22 (by kernel_rfl) (Nat.le_of_ble_eq_true (by kernel_rfl)) (by kernel_rfl)
    (s22_0 (R := R) (Q := endE Try.prog Try.f22 R) (fun e w h => kcast (by kernel_rfl) h) (argsE #[l0, key1]) w (kcast (by kernel_rfl) h))
end Go.Proofs.Ytcfdalmnhgiaeaa.M
