/- What functions' texts ask of their ends, told over values that have names; printed by a program of this work. -/
import Derived.Test.YtcfdalmnhgiaeaaFw
import Derived.Test.YtcfdalmnhgiaeaaProg
namespace Go.Proofs.Ytcfdalmnhgiaeaa.M
open Go.Proofs.Ytcfdalmnhgiaeaa.F
set_option linter.unusedVariables false
set_option maxRecDepth 100000
/-! ### headgate/heavy.New -/
def m10_5 (R : Value → World → Prop) (t2 : Value) (t3 : Value) (w : World) : Prop :=
  R (Value.tuple #[t2, t3]) w
def m10_3 (R : Value → World → Prop) (t2 : Value) (t3 : Value) (w : World) : Prop :=
  R (Value.tuple #[t2, t3]) w
def m10_2 (R : Value → World → Prop) (most0 : Value) (w : World) : Prop :=
  valP Try.prog (Instr.build 52 #[(0, most0)]) w fun t11 w =>
  valP Try.prog (Instr.box 52 t11) w fun t12 w =>
  m10_3 R t12 (Value.int IntKind.i64 0) w
def m10_4 (R : Value → World → Prop) (most0 : Value) (t9 : Value) (w : World) : Prop :=
  condP t9
  (m10_5 R (Value.pointer none) (Value.int IntKind.i64 1) w)
  (m10_2 R most0 w)
def m10_1 (R : Value → World → Prop) (most0 : Value) (w : World) : Prop :=
  valP Try.prog (binS BinOp.lss 3 (Operand.tmp 4) (Operand.const (Value.int IntKind.i64 1)) most0 (Value.int IntKind.i64 1)) w fun t5 w =>
  condP t5
  (pickP t5 (Value.bool true) undef fun t9 =>
  m10_4 R most0 t9 w)
  (valP Try.prog (binS BinOp.gtr 3 (Operand.tmp 7) (Operand.const (Value.int IntKind.i64 64)) most0 (Value.int IntKind.i64 64)) w fun t8 w =>
  pickP t5 (Value.bool true) t8 fun t9 =>
  m10_4 R most0 t9 w)
def m10_0 (R : Value → World → Prop) (most0 : Value) (w : World) : Prop :=
  m10_1 R most0 w
abbrev W10 := cwp Try.prog (fun i => 0)
noncomputable def k10_0 : Code := (bodyOf Try.f10)
noncomputable def k10_1 : Code := (c2 k10_0)
noncomputable def k10_2 : Code := (c2 k10_1)
noncomputable def k10_3 : Code := (c2 k10_2)
noncomputable def k10_4 : Code := (c2 (c1 k10_1))
noncomputable def k10_5 : Code := (c2 (c1 k10_4))
theorem s10_5 {R : Value → World → Prop} {Q : Exit → Env → World → Prop} (hR : ∀ e w, (R (Value.tuple #[(e 2), (e 3)]) w) → Q .ret e w) (e : Env) (w : World) (h : m10_5 R (e 2) (e 3) w) : W10 k10_5 Q e w := by
  unfold m10_5 at h
  exact ret_ok (by kernel_rfl) (hR _ _ h)
theorem s10_3 {R : Value → World → Prop} {Q : Exit → Env → World → Prop} (hR : ∀ e w, (R (Value.tuple #[(e 2), (e 3)]) w) → Q .ret e w) (e : Env) (w : World) (h : m10_3 R (e 2) (e 3) w) : W10 k10_3 Q e w := by
  unfold m10_3 at h
  exact ret_ok (by kernel_rfl) (hR _ _ h)
theorem s10_2 {R : Value → World → Prop} {Q : Exit → Env → World → Prop} (hR : ∀ e w, (R (Value.tuple #[(e 2), (e 3)]) w) → Q .ret e w) (e : Env) (w : World) (h : m10_2 R (e 0) w) : W10 k10_2 Q e w := by
  unfold m10_2 at h
  refine seq_ok' (by kernel_rfl) ?_
  have hN' : ∀ e w, (m10_3 R (e 2) (e 3) w) → (thenE (W10 k10_3 Q) Q) .normal e w := fun e w h => then_N (s10_3 (R := R) (Q := Q) hR e w h)
  have hN := hN'
  exact region_ok 3 (fun e w => m10_3 R (e 2) (e 3) w) (by kernel_rfl) (kcast (by kernel_rfl) h) hN (by kernel_rfl)
theorem s10_4 {R : Value → World → Prop} {Q : Exit → Env → World → Prop} (hN : ∀ e w, (m10_2 R (e 0) w) → Q .normal e w) (hR : ∀ e w, (R (Value.tuple #[(e 2), (e 3)]) w) → Q .ret e w) (e : Env) (w : World) (h : m10_4 R (e 0) (e 9) w) : W10 k10_4 Q e w := by
  unfold m10_4 at h
  refine cond_ok (Operand.tmp 9) (by kernel_rfl) h (fun h1 => ?_) (fun h1 => ?_)
  · refine seq_ok' (by kernel_rfl) ?_
    have hN' : ∀ e w, (m10_5 R (e 2) (e 3) w) → (thenE (W10 k10_5 Q) Q) .normal e w := fun e w h => then_N (s10_5 (R := R) (Q := Q) hR e w h)
    have hN := hN'
    exact region_ok 2 (fun e w => m10_5 R (e 2) (e 3) w) (by kernel_rfl) (kcast (by kernel_rfl) h1) hN (by kernel_rfl)
  · exact skip_ok (by kernel_rfl) (hN _ _ h1)
theorem s10_1 {R : Value → World → Prop} {Q : Exit → Env → World → Prop} (hR : ∀ e w, (R (Value.tuple #[(e 2), (e 3)]) w) → Q .ret e w) (e : Env) (w : World) (h : m10_1 R (e 0) w) : W10 k10_1 Q e w := by
  unfold m10_1 at h
  refine seq_ok' (by kernel_rfl) ?_
  have hN' : ∀ e w, (m10_2 R (e 0) w) → (thenE (W10 k10_2 Q) Q) .normal e w := fun e w h => then_N (s10_2 (R := R) (Q := Q) hR e w h)
  have hR : ∀ e w, (R (Value.tuple #[(e 2), (e 3)]) w) → (thenE (W10 k10_2 Q) Q) .ret e w := fun e w h => then_R (hR e w h)
  have hN := hN'
  refine seq_ok' (by kernel_rfl) ?_
  have hN' : ∀ e w, (m10_4 R (e 0) (e 9) w) → (thenE (W10 k10_4 (thenE (W10 k10_2 Q) Q)) (thenE (W10 k10_2 Q) Q)) .normal e w := fun e w h => then_N (s10_4 (R := R) (Q := (thenE (W10 k10_2 Q) Q)) hN hR e w h)
  have hN := hN'
  exact region_ok 1 (fun e w => m10_4 R (e 0) (e 9) w) (by kernel_rfl) (kcast (by kernel_rfl) h) hN (by kernel_rfl)
theorem s10_0 {R : Value → World → Prop} {Q : Exit → Env → World → Prop} (hR : ∀ e w, (R (Value.tuple #[(e 2), (e 3)]) w) → Q .ret e w) (e : Env) (w : World) (h : m10_0 R (e 0) w) : W10 k10_0 Q e w := by
  unfold m10_0 at h
  refine seq_ok' (by kernel_rfl) ?_
  have hN' : ∀ e w, (m10_1 R (e 0) w) → (thenE (W10 k10_1 Q) Q) .normal e w := fun e w h => then_N (s10_1 (R := R) (Q := Q) hR e w h)
  have hN := hN'
  exact region_ok 0 (fun e w => m10_1 R (e 0) w) (by kernel_rfl) (kcast (by kernel_rfl) h) hN (by kernel_rfl)
abbrev m10 (R : Value → World → Prop) (most0 : Value) (w : World) : Prop := m10_0 R most0 w
theorem s10 (most0 : Value) {R : Value → World → Prop} {w : World} (h : m10 R most0 w) :
    Calls Try.prog 10 #[most0] w fun e w' => ∃ v, e = .returned v ∧ R v w' :=
  calls_of_cwp (st := (fun i => 0)) (c := k10_0) (by kernel_rfl) Try.func10 (by kernel_rfl) (Nat.le_of_ble_eq_true (by kernel_rfl)) (by kernel_rfl)
    (s10_0 (R := R) (Q := endE Try.prog Try.f10 R) (fun e w h => kcast (by kernel_rfl) h) (argsE #[most0]) w (kcast (by kernel_rfl) h))
/-! ### (*headgate/heavy.Heavy).Add -/
def m13_17 (R : Value → World → Prop) (t4 : Value) (w : World) : Prop :=
  R t4 w
def m13_19 (R : Value → World → Prop) (t4 : Value) (w : World) : Prop :=
  R t4 w
def m13_9 (R : Value → World → Prop) (K1 : Value → World → Prop) (h0 : Value) (t20 : Value) (t21 : Value) (t22 : Value) (w : World) : Prop :=
  valP Try.prog (binS BinOp.add 3 (Operand.tmp 22) (Operand.const (Value.int IntKind.i64 1)) t22 (Value.int IntKind.i64 1)) w fun t99 w =>
  K1 t99 w
def m13_15 (R : Value → World → Prop) (K1 : Value → World → Prop) (h0 : Value) (key6 : Value) (i7 : Value) (t20 : Value) (t21 : Value) (t22 : Value) (w : World) : Prop :=
  anyDraw w fun w =>
  nilCheckP h0 fun t39 =>
  valS Try.prog (Instr.fieldAt 52 t39 2) w fun t40 =>
  valS Try.prog (Instr.loadAt 28 t40) w fun t41 =>
  nilCheckP h0 fun t45 =>
  valS Try.prog (Instr.fieldAt 52 t45 2) w fun t46 =>
  valS Try.prog (Instr.loadAt 28 t46) w fun t47 =>
  valS Try.prog (Instr.indexAt 28 t47 i7) w fun t49 =>
  valS Try.prog (Instr.fieldAt 45 t49 1) w fun t50 =>
  valS Try.prog (Instr.loadAt 3 t50) w fun t51 =>
  valS Try.prog (binS BinOp.add 3 (Operand.tmp 51) (Operand.const (Value.int IntKind.i64 1)) t51 (Value.int IntKind.i64 1)) w fun t52 =>
  nilCheckP h0 fun t54 =>
  valS Try.prog (Instr.fieldAt 52 t54 2) w fun t55 =>
  valS Try.prog (Instr.loadAt 28 t55) w fun t56 =>
  valS Try.prog (Instr.indexAt 28 t56 i7) w fun t58 =>
  valS Try.prog (Instr.fieldAt 45 t58 1) w fun t59 =>
  valS Try.prog (Instr.loadAt 3 t59) w fun t60 =>
  valS Try.prog (Instr.build 45 #[(0, key6), (1, t52), (2, t60)]) w fun t61 =>
  valS Try.prog (Instr.indexAt 28 t41 i7) w fun t62 =>
  unitP Try.prog (Instr.storeAt 45 t62 t61) w fun _ w =>
  m13_9 R K1 h0 t20 t21 t22 w
def m13_14 (R : Value → World → Prop) (K1 : Value → World → Prop) (h0 : Value) (key6 : Value) (t20 : Value) (t21 : Value) (t22 : Value) (t77 : Value) (w : World) : Prop :=
  condP t77
  (nilCheckP h0 fun t90 =>
  valP Try.prog (Instr.fieldAt 52 t90 2) w fun t91 w =>
  valP Try.prog (Instr.loadAt 28 t91) w fun t92 w =>
  valP Try.prog (Instr.build 45 #[(0, key6), (1, (Value.int IntKind.i64 1))]) w fun t94 w =>
  valP Try.prog (Instr.buildSlice 28 1 #[(0, t94)]) w fun t95 w =>
  builtinP Try.prog Builtin.append #[28, 28] 28 #[false, false] #[t92, t95] w fun t96 w =>
  nilCheckP h0 fun t97 =>
  valP Try.prog (Instr.fieldAt 52 t97 2) w fun t98 w =>
  unitP Try.prog (Instr.storeAt 28 t98 t96) w fun _ w =>
  m13_9 R K1 h0 t20 t21 t22 w)
  (callP Try.prog (fnV 25) #[h0] w fun t37 w =>
  m13_15 R K1 h0 key6 t37 t20 t21 t22 w)
def m13_13 (R : Value → World → Prop) (K1 : Value → World → Prop) (h0 : Value) (key6 : Value) (i7 : Value) (t20 : Value) (t21 : Value) (t22 : Value) (t63 : Value) (w : World) : Prop :=
  condP t63
  (nilCheckP h0 fun t67 =>
  valP Try.prog (Instr.fieldAt 52 t67 2) w fun t68 w =>
  valP Try.prog (Instr.loadAt 28 t68) w fun t69 w =>
  valP Try.prog (Instr.indexAt 28 t69 i7) w fun t71 w =>
  valP Try.prog (Instr.fieldAt 45 t71 1) w fun t72 w =>
  valP Try.prog (Instr.loadAt 3 t72) w fun t73 w =>
  valP Try.prog (binS BinOp.add 3 (Operand.tmp 73) (Operand.const (Value.int IntKind.i64 1)) t73 (Value.int IntKind.i64 1)) w fun t74 w =>
  valP Try.prog (Instr.indexAt 28 t69 i7) w fun t75 w =>
  valP Try.prog (Instr.fieldAt 45 t75 1) w fun t76 w =>
  unitP Try.prog (Instr.storeAt 3 t76 t74) w fun _ w =>
  m13_9 R K1 h0 t20 t21 t22 w)
  (nilCheckP h0 fun t79 =>
  valQ Try.prog (Instr.fieldAt 52 t79 2) w fun t80 =>
  valQ Try.prog (Instr.loadAt 28 t80) w fun t81 =>
  builtinQ Try.prog Builtin.len #[28] 3 #[false] #[t81] w fun t82 =>
  nilCheckP h0 fun t84 =>
  valQ Try.prog (Instr.fieldAt 52 t84 0) w fun t85 =>
  valQ Try.prog (Instr.loadAt 3 t85) w fun t86 =>
  valQ Try.prog (binS BinOp.lss 3 (Operand.tmp 82) (Operand.tmp 86) t82 t86) w fun t87 =>
  anyDraw w fun w =>
  m13_14 R K1 h0 key6 t20 t21 t22 t87 w)
def m13_12 (R : Value → World → Prop) (K1 : Value → World → Prop) (h0 : Value) (key6 : Value) (i7 : Value) (t20 : Value) (t21 : Value) (t22 : Value) (w : World) : Prop :=
  valP Try.prog (binS BinOp.geq 3 (Operand.tmp 64) (Operand.const (Value.int IntKind.i64 0)) i7 (Value.int IntKind.i64 0)) w fun t65 w =>
  m13_13 R K1 h0 key6 i7 t20 t21 t22 t65 w
def m13_11 (R : Value → World → Prop) (K1 : Value → World → Prop) (h0 : Value) (key6 : Value) (t20 : Value) (t21 : Value) (t22 : Value) (w : World) : Prop :=
  callP Try.prog (fnV 24) #[h0, key6] w fun t35 w =>
  m13_12 R K1 h0 key6 t35 t20 t21 t22 w
def m13_10 (R : Value → World → Prop) (K1 : Value → World → Prop) (h0 : Value) (key6 : Value) (t20 : Value) (t21 : Value) (t22 : Value) (w : World) : Prop :=
  nilCheckP h0 fun t27 =>
  valP Try.prog (Instr.fieldAt 52 t27 1) w fun t28 w =>
  valP Try.prog (Instr.loadAt 3 t28) w fun t29 w =>
  valP Try.prog (binS BinOp.add 3 (Operand.tmp 29) (Operand.const (Value.int IntKind.i64 1)) t29 (Value.int IntKind.i64 1)) w fun t30 w =>
  nilCheckP h0 fun t31 =>
  valP Try.prog (Instr.fieldAt 52 t31 1) w fun t32 w =>
  unitP Try.prog (Instr.storeAt 3 t32 t30) w fun _ w =>
  m13_11 R K1 h0 key6 t20 t21 t22 w
def m13_8 (R : Value → World → Prop) (K1 : Value → World → Prop) (h0 : Value) (t20 : Value) (t21 : Value) (t22 : Value) (w : World) : Prop :=
  valP Try.prog (Instr.indexAt 22 t20 t22) w fun t24 w =>
  valP Try.prog (Instr.loadAt 3 t24) w fun t25 w =>
  m13_10 R K1 h0 t25 t20 t21 t22 w
def m13_4 (R : Value → World → Prop) (t4 : Value) (w : World) : Prop :=
  R t4 w
def m13_3 (R : Value → World → Prop) (w : World) : Prop :=
  m13_4 R (Value.int IntKind.i64 0) w
def m13_7 (R : Value → World → Prop) (K1 : Value → World → Prop) (h0 : Value) (t20 : Value) (t21 : Value) (t22 : Value) (t23 : Value) (w : World) : Prop :=
  condP t23
  (m13_8 R K1 h0 t20 t21 t22 w)
  (m13_3 R w)
def m13_6 (R : Value → World → Prop) (K1 : Value → World → Prop) (h0 : Value) (t20 : Value) (t21 : Value) (t22 : Value) (w : World) : Prop :=
  valP Try.prog (binS BinOp.lss 3 (Operand.tmp 22) (Operand.tmp 21) t22 t21) w fun t23 w =>
  m13_7 R K1 h0 t20 t21 t22 t23 w
def m13_5 (R : Value → World → Prop) (h0 : Value) (t20 : Value) (t21 : Value) (t22 : Value) (w : World) : Prop :=
  loopP (fun (K1 : Value → World → Prop) (s : Value) w => m13_6 R K1 h0 t20 t21 s w) t22 w
def m13_2 (R : Value → World → Prop) (h0 : Value) (keys1 : Value) (w : World) : Prop :=
  builtinP Try.prog Builtin.len #[22] 3 #[false] #[keys1] w fun t21 w =>
  m13_5 R h0 keys1 t21 (Value.int IntKind.i64 0) w
def m13_18 (R : Value → World → Prop) (h0 : Value) (keys1 : Value) (t11 : Value) (w : World) : Prop :=
  condP t11
  (m13_19 R (Value.int IntKind.i64 6) w)
  (m13_2 R h0 keys1 w)
def m13_16 (R : Value → World → Prop) (h0 : Value) (keys1 : Value) (t8 : Value) (w : World) : Prop :=
  condP t8
  (m13_17 R (Value.int IntKind.i64 1) w)
  (builtinP Try.prog Builtin.len #[22] 3 #[false] #[keys1] w fun t13 w =>
  nilCheckP h0 fun t15 =>
  valP Try.prog (Instr.fieldAt 52 t15 1) w fun t16 w =>
  valP Try.prog (Instr.loadAt 3 t16) w fun t17 w =>
  valP Try.prog (binS BinOp.sub 3 (Operand.const (Value.int IntKind.i64 1099511627776)) (Operand.tmp 17) (Value.int IntKind.i64 1099511627776) t17) w fun t18 w =>
  valP Try.prog (binS BinOp.gtr 3 (Operand.tmp 13) (Operand.tmp 18) t13 t18) w fun t19 w =>
  m13_18 R h0 keys1 t19 w)
def m13_1 (R : Value → World → Prop) (h0 : Value) (keys1 : Value) (w : World) : Prop :=
  valP Try.prog (binS BinOp.eql 24 (Operand.tmp 9) (Operand.const (Value.pointer none)) h0 (Value.pointer none)) w fun t10 w =>
  m13_16 R h0 keys1 t10 w
def m13_0 (R : Value → World → Prop) (h0 : Value) (keys1 : Value) (w : World) : Prop :=
  m13_1 R h0 keys1 w
abbrev W13 := cwp Try.prog (fun i => cond (Nat.beq i 11) 27 (cond (Nat.beq i 14) 1 (0)))
noncomputable def k13_0 : Code := (bodyOf Try.f13)
noncomputable def k13_1 : Code := (c2 k13_0)
noncomputable def k13_2 : Code := (c2 k13_1)
noncomputable def k13_3 : Code := (c2 k13_2)
noncomputable def k13_4 : Code := (c2 k13_3)
noncomputable def k13_5 : Code := (c2 (c1 k13_2))
noncomputable def k13_6 : Code := (c1 (c1 k13_5))
noncomputable def k13_7 : Code := (c2 k13_6)
noncomputable def k13_8 : Code := (c2 k13_7)
noncomputable def k13_9 : Code := (c2 k13_8)
noncomputable def k13_10 : Code := (c2 (c1 (c1 k13_8)))
noncomputable def k13_11 : Code := (c2 k13_10)
noncomputable def k13_12 : Code := (c2 k13_11)
noncomputable def k13_13 : Code := (c2 (c1 k13_12))
noncomputable def k13_14 : Code := (c2 (c2 k13_13))
noncomputable def k13_15 : Code := (c2 (c2 k13_14))
noncomputable def k13_16 : Code := (c2 (c1 (c1 k13_1)))
noncomputable def k13_17 : Code := (c2 (c1 k13_16))
noncomputable def k13_18 : Code := (c2 (c2 k13_16))
noncomputable def k13_19 : Code := (c2 (c1 k13_18))
theorem s13_17 {R : Value → World → Prop} {Q : Exit → Env → World → Prop} (hR : ∀ e w, (R (e 4) w) → Q .ret e w) (e : Env) (w : World) (h : m13_17 R (e 4) w) : W13 k13_17 Q e w := by
  unfold m13_17 at h
  exact ret_ok (by kernel_rfl) (hR _ _ h)
theorem s13_19 {R : Value → World → Prop} {Q : Exit → Env → World → Prop} (hR : ∀ e w, (R (e 4) w) → Q .ret e w) (e : Env) (w : World) (h : m13_19 R (e 4) w) : W13 k13_19 Q e w := by
  unfold m13_19 at h
  exact ret_ok (by kernel_rfl) (hR _ _ h)
theorem s13_9 {R : Value → World → Prop} {K1 : Value → World → Prop} {Q : Exit → Env → World → Prop} (hN : ∀ e w, (K1 (e 22) w) → Q .normal e w) (e : Env) (w : World) (h : m13_9 R K1 (e 0) (e 20) (e 21) (e 22) w) : W13 k13_9 Q e w := by
  unfold m13_9 at h
  exact region_ok 16 (fun e w => K1 (e 22) w) (by kernel_rfl) (kcast (by kernel_rfl) h) hN (by kernel_rfl)
theorem s13_15 {R : Value → World → Prop} {K1 : Value → World → Prop} {Q : Exit → Env → World → Prop} (hN : ∀ e w, (m13_9 R K1 (e 0) (e 20) (e 21) (e 22) w) → Q .normal e w) (e : Env) (w : World) (h : m13_15 R K1 (e 0) (e 6) (e 7) (e 20) (e 21) (e 22) w) : W13 k13_15 Q e w := by
  unfold m13_15 at h
  exact tail_ok 11 25 (fun e w => m13_9 R K1 (e 0) (e 20) (e 21) (e 22) w) (by kernel_rfl) (by kernel_rfl) (by kernel_rfl) (kcast (by kernel_rfl) h) hN (by kernel_rfl)
theorem s13_14 {R : Value → World → Prop} {K1 : Value → World → Prop} {Q : Exit → Env → World → Prop} (hN : ∀ e w, (m13_9 R K1 (e 0) (e 20) (e 21) (e 22) w) → Q .normal e w) (e : Env) (w : World) (h : m13_14 R K1 (e 0) (e 6) (e 20) (e 21) (e 22) (e 77) w) : W13 k13_14 Q e w := by
  unfold m13_14 at h
  refine cond_ok (Operand.tmp 77) (by kernel_rfl) h (fun h1 => ?_) (fun h1 => ?_)
  · exact region_ok 15 (fun e w => m13_9 R K1 (e 0) (e 20) (e 21) (e 22) w) (by kernel_rfl) (kcast (by kernel_rfl) h1) hN (by kernel_rfl)
  · refine seq_ok' (by kernel_rfl) ?_
    have hN' : ∀ e w, (m13_15 R K1 (e 0) (e 6) (e 7) (e 20) (e 21) (e 22) w) → (thenE (W13 k13_15 Q) Q) .normal e w := fun e w h => then_N (s13_15 (R := R) (Q := Q) (K1 := K1) hN e w h)
    have hN := hN'
    exact region_ok 10 (fun e w => m13_15 R K1 (e 0) (e 6) (e 7) (e 20) (e 21) (e 22) w) (by kernel_rfl) (kcast (by kernel_rfl) h1) hN (by kernel_rfl)
theorem s13_13 {R : Value → World → Prop} {K1 : Value → World → Prop} {Q : Exit → Env → World → Prop} (hN : ∀ e w, (m13_9 R K1 (e 0) (e 20) (e 21) (e 22) w) → Q .normal e w) (e : Env) (w : World) (h : m13_13 R K1 (e 0) (e 6) (e 7) (e 20) (e 21) (e 22) (e 63) w) : W13 k13_13 Q e w := by
  unfold m13_13 at h
  refine cond_ok (Operand.tmp 63) (by kernel_rfl) h (fun h1 => ?_) (fun h1 => ?_)
  · exact region_ok 13 (fun e w => m13_9 R K1 (e 0) (e 20) (e 21) (e 22) w) (by kernel_rfl) (kcast (by kernel_rfl) h1) hN (by kernel_rfl)
  · refine seq_ok' (by kernel_rfl) ?_
    have hN' : ∀ e w, (m13_14 R K1 (e 0) (e 6) (e 20) (e 21) (e 22) (e 77) w) → (thenE (W13 k13_14 Q) Q) .normal e w := fun e w h => then_N (s13_14 (R := R) (Q := Q) (K1 := K1) hN e w h)
    have hN := hN'
    exact quiet_ok 14 (fun e w => m13_14 R K1 (e 0) (e 6) (e 20) (e 21) (e 22) (e 77) w) (by kernel_rfl) (by kernel_rfl) (by kernel_rfl) (kcast (by kernel_rfl) h1) hN (by kernel_rfl)
theorem s13_12 {R : Value → World → Prop} {K1 : Value → World → Prop} {Q : Exit → Env → World → Prop} (hN : ∀ e w, (m13_9 R K1 (e 0) (e 20) (e 21) (e 22) w) → Q .normal e w) (e : Env) (w : World) (h : m13_12 R K1 (e 0) (e 6) (e 7) (e 20) (e 21) (e 22) w) : W13 k13_12 Q e w := by
  unfold m13_12 at h
  refine block_ok 3 (by kernel_rfl) ?_
  have hN : ∀ e w, (m13_9 R K1 (e 0) (e 20) (e 21) (e 22) w) → (inBlockE 3 Q) .normal e w := fun e w h => block_N (hN e w h)
  refine seq_ok' (by kernel_rfl) ?_
  have hN' : ∀ e w, (m13_13 R K1 (e 0) (e 6) (e 7) (e 20) (e 21) (e 22) (e 63) w) → (thenE (W13 k13_13 (inBlockE 3 Q)) (inBlockE 3 Q)) .normal e w := fun e w h => then_N (s13_13 (R := R) (Q := (inBlockE 3 Q)) (K1 := K1) hN e w h)
  have hN := hN'
  exact region_ok 12 (fun e w => m13_13 R K1 (e 0) (e 6) (e 7) (e 20) (e 21) (e 22) (e 63) w) (by kernel_rfl) (kcast (by kernel_rfl) h) hN (by kernel_rfl)
theorem s13_11 {R : Value → World → Prop} {K1 : Value → World → Prop} {Q : Exit → Env → World → Prop} (hN : ∀ e w, (m13_9 R K1 (e 0) (e 20) (e 21) (e 22) w) → Q .normal e w) (e : Env) (w : World) (h : m13_11 R K1 (e 0) (e 6) (e 20) (e 21) (e 22) w) : W13 k13_11 Q e w := by
  unfold m13_11 at h
  refine seq_ok' (by kernel_rfl) ?_
  have hN' : ∀ e w, (m13_12 R K1 (e 0) (e 6) (e 7) (e 20) (e 21) (e 22) w) → (thenE (W13 k13_12 Q) Q) .normal e w := fun e w h => then_N (s13_12 (R := R) (Q := Q) (K1 := K1) hN e w h)
  have hN := hN'
  exact region_ok 9 (fun e w => m13_12 R K1 (e 0) (e 6) (e 7) (e 20) (e 21) (e 22) w) (by kernel_rfl) (kcast (by kernel_rfl) h) hN (by kernel_rfl)
theorem s13_10 {R : Value → World → Prop} {K1 : Value → World → Prop} {Q : Exit → Env → World → Prop} (hN : ∀ e w, (m13_9 R K1 (e 0) (e 20) (e 21) (e 22) w) → Q .normal e w) (e : Env) (w : World) (h : m13_10 R K1 (e 0) (e 6) (e 20) (e 21) (e 22) w) : W13 k13_10 Q e w := by
  unfold m13_10 at h
  refine seq_ok' (by kernel_rfl) ?_
  have hN' : ∀ e w, (m13_11 R K1 (e 0) (e 6) (e 20) (e 21) (e 22) w) → (thenE (W13 k13_11 Q) Q) .normal e w := fun e w h => then_N (s13_11 (R := R) (Q := Q) (K1 := K1) hN e w h)
  have hN := hN'
  exact region_ok 8 (fun e w => m13_11 R K1 (e 0) (e 6) (e 20) (e 21) (e 22) w) (by kernel_rfl) (kcast (by kernel_rfl) h) hN (by kernel_rfl)
theorem s13_8 {R : Value → World → Prop} {K1 : Value → World → Prop} {Q : Exit → Env → World → Prop} (hN : ∀ e w, (K1 (e 22) w) → Q .normal e w) (e : Env) (w : World) (h : m13_8 R K1 (e 0) (e 20) (e 21) (e 22) w) : W13 k13_8 Q e w := by
  unfold m13_8 at h
  refine seq_ok' (by kernel_rfl) ?_
  have hN' : ∀ e w, (m13_9 R K1 (e 0) (e 20) (e 21) (e 22) w) → (thenE (W13 k13_9 Q) Q) .normal e w := fun e w h => then_N (s13_9 (R := R) (Q := Q) (K1 := K1) hN e w h)
  have hN := hN'
  refine block_ok 2 (by kernel_rfl) ?_
  have hN : ∀ e w, (m13_9 R K1 (e 0) (e 20) (e 21) (e 22) w) → (inBlockE 2 (thenE (W13 k13_9 Q) Q)) .normal e w := fun e w h => block_N (hN e w h)
  refine seq_ok' (by kernel_rfl) ?_
  have hN' : ∀ e w, (m13_10 R K1 (e 0) (e 6) (e 20) (e 21) (e 22) w) → (thenE (W13 k13_10 (inBlockE 2 (thenE (W13 k13_9 Q) Q))) (inBlockE 2 (thenE (W13 k13_9 Q) Q))) .normal e w := fun e w h => then_N (s13_10 (R := R) (Q := (inBlockE 2 (thenE (W13 k13_9 Q) Q))) (K1 := K1) hN e w h)
  have hN := hN'
  exact region_ok 7 (fun e w => m13_10 R K1 (e 0) (e 6) (e 20) (e 21) (e 22) w) (by kernel_rfl) (kcast (by kernel_rfl) h) hN (by kernel_rfl)
theorem s13_4 {R : Value → World → Prop} {Q : Exit → Env → World → Prop} (hR : ∀ e w, (R (e 4) w) → Q .ret e w) (e : Env) (w : World) (h : m13_4 R (e 4) w) : W13 k13_4 Q e w := by
  unfold m13_4 at h
  exact ret_ok (by kernel_rfl) (hR _ _ h)
theorem s13_3 {R : Value → World → Prop} {Q : Exit → Env → World → Prop} (hR : ∀ e w, (R (e 4) w) → Q .ret e w) (e : Env) (w : World) (h : m13_3 R w) : W13 k13_3 Q e w := by
  unfold m13_3 at h
  refine seq_ok' (by kernel_rfl) ?_
  have hN' : ∀ e w, (m13_4 R (e 4) w) → (thenE (W13 k13_4 Q) Q) .normal e w := fun e w h => then_N (s13_4 (R := R) (Q := Q) hR e w h)
  have hN := hN'
  exact region_ok 17 (fun e w => m13_4 R (e 4) w) (by kernel_rfl) (kcast (by kernel_rfl) h) hN (by kernel_rfl)
theorem s13_7 {R : Value → World → Prop} {K1 : Value → World → Prop} {Q : Exit → Env → World → Prop} (hN : ∀ e w, (K1 (e 22) w) → Q .normal e w) (hX1 : ∀ e w, (m13_3 R w) → Q (.exit 1) e w) (e : Env) (w : World) (h : m13_7 R K1 (e 0) (e 20) (e 21) (e 22) (e 23) w) : W13 k13_7 Q e w := by
  unfold m13_7 at h
  refine seq_ok' (by kernel_rfl) ?_
  have hN' : ∀ e w, (m13_8 R K1 (e 0) (e 20) (e 21) (e 22) w) → (thenE (W13 k13_8 Q) Q) .normal e w := fun e w h => then_N (s13_8 (R := R) (Q := Q) (K1 := K1) hN e w h)
  have hX1 : ∀ e w, (m13_3 R w) → (thenE (W13 k13_8 Q) Q) (.exit 1) e w := fun e w h => then_X (hX1 e w h)
  have hN := hN'
  refine cond_ok (Operand.tmp 23) (by kernel_rfl) h (fun h1 => ?_) (fun h1 => ?_)
  · exact skip_ok (by kernel_rfl) (hN _ _ h1)
  · exact exit_ok 1 (by kernel_rfl) (hX1 _ _ h1)
theorem s13_6 {R : Value → World → Prop} {K1 : Value → World → Prop} {Q : Exit → Env → World → Prop} (hN : ∀ e w, (K1 (e 22) w) → Q .normal e w) (hX1 : ∀ e w, (m13_3 R w) → Q (.exit 1) e w) (e : Env) (w : World) (h : m13_6 R K1 (e 0) (e 20) (e 21) (e 22) w) : W13 k13_6 Q e w := by
  unfold m13_6 at h
  refine seq_ok' (by kernel_rfl) ?_
  have hN' : ∀ e w, (m13_7 R K1 (e 0) (e 20) (e 21) (e 22) (e 23) w) → (thenE (W13 k13_7 Q) Q) .normal e w := fun e w h => then_N (s13_7 (R := R) (Q := Q) (K1 := K1) hN hX1 e w h)
  have hN := hN'
  exact region_ok 6 (fun e w => m13_7 R K1 (e 0) (e 20) (e 21) (e 22) (e 23) w) (by kernel_rfl) (kcast (by kernel_rfl) h) hN (by kernel_rfl)
theorem s13_5 {R : Value → World → Prop} {Q : Exit → Env → World → Prop} (hN : ∀ e w, (m13_3 R w) → Q .normal e w) (e : Env) (w : World) (h : m13_5 R (e 0) (e 20) (e 21) (e 22) w) : W13 k13_5 Q e w := by
  unfold m13_5 at h
  refine block_ok 1 (by kernel_rfl) ?_
  have hX1 : ∀ e w, (m13_3 R w) → (inBlockE 1 Q) (.exit 1) e w := fun e w h => inBlock_same (Q := Q) 1 (hN e w h)
  refine loop_ok' (fun (e : Env) => e 22) [0, 20, 21] (by kernel_rfl) (by kernel_rfl) h (fun K e' w' hk h' => ?_)
  have r0 : e' 0 = e 0 := hk 0 (by decide)
  have r20 : e' 20 = e 20 := hk 20 (by decide)
  have r21 : e' 21 = e 21 := hk 21 (by decide)
  have hX1 : ∀ e w, (m13_3 R w) → (thenE (fun (e : Env) w => K (e 22) w) (inBlockE 1 Q)) (.exit 1) e w := fun e w h => then_X (hX1 e w h)
  exact s13_6 (R := R) (Q := (thenE (fun (e : Env) w => K (e 22) w) (inBlockE 1 Q))) (K1 := K) (fun _ _ h => then_N h) hX1 e' w' (by rw [r0, r20, r21]; exact h')
theorem s13_2 {R : Value → World → Prop} {Q : Exit → Env → World → Prop} (hR : ∀ e w, (R (e 4) w) → Q .ret e w) (e : Env) (w : World) (h : m13_2 R (e 0) (e 1) w) : W13 k13_2 Q e w := by
  unfold m13_2 at h
  refine seq_ok' (by kernel_rfl) ?_
  have hN' : ∀ e w, (m13_3 R w) → (thenE (W13 k13_3 Q) Q) .normal e w := fun e w h => then_N (s13_3 (R := R) (Q := Q) hR e w h)
  have hN := hN'
  refine seq_ok' (by kernel_rfl) ?_
  have hN' : ∀ e w, (m13_5 R (e 0) (e 20) (e 21) (e 22) w) → (thenE (W13 k13_5 (thenE (W13 k13_3 Q) Q)) (thenE (W13 k13_3 Q) Q)) .normal e w := fun e w h => then_N (s13_5 (R := R) (Q := (thenE (W13 k13_3 Q) Q)) hN e w h)
  have hN := hN'
  exact region_ok 5 (fun e w => m13_5 R (e 0) (e 20) (e 21) (e 22) w) (by kernel_rfl) (kcast (by kernel_rfl) h) hN (by kernel_rfl)
theorem s13_18 {R : Value → World → Prop} {Q : Exit → Env → World → Prop} (hN : ∀ e w, (m13_2 R (e 0) (e 1) w) → Q .normal e w) (hR : ∀ e w, (R (e 4) w) → Q .ret e w) (e : Env) (w : World) (h : m13_18 R (e 0) (e 1) (e 11) w) : W13 k13_18 Q e w := by
  unfold m13_18 at h
  refine cond_ok (Operand.tmp 11) (by kernel_rfl) h (fun h1 => ?_) (fun h1 => ?_)
  · refine seq_ok' (by kernel_rfl) ?_
    have hN' : ∀ e w, (m13_19 R (e 4) w) → (thenE (W13 k13_19 Q) Q) .normal e w := fun e w h => then_N (s13_19 (R := R) (Q := Q) hR e w h)
    have hN := hN'
    exact region_ok 4 (fun e w => m13_19 R (e 4) w) (by kernel_rfl) (kcast (by kernel_rfl) h1) hN (by kernel_rfl)
  · exact skip_ok (by kernel_rfl) (hN _ _ h1)
theorem s13_16 {R : Value → World → Prop} {Q : Exit → Env → World → Prop} (hN : ∀ e w, (m13_2 R (e 0) (e 1) w) → Q .normal e w) (hR : ∀ e w, (R (e 4) w) → Q .ret e w) (e : Env) (w : World) (h : m13_16 R (e 0) (e 1) (e 8) w) : W13 k13_16 Q e w := by
  unfold m13_16 at h
  refine cond_ok (Operand.tmp 8) (by kernel_rfl) h (fun h1 => ?_) (fun h1 => ?_)
  · refine seq_ok' (by kernel_rfl) ?_
    have hN' : ∀ e w, (m13_17 R (e 4) w) → (thenE (W13 k13_17 Q) Q) .normal e w := fun e w h => then_N (s13_17 (R := R) (Q := Q) hR e w h)
    have hN := hN'
    exact region_ok 2 (fun e w => m13_17 R (e 4) w) (by kernel_rfl) (kcast (by kernel_rfl) h1) hN (by kernel_rfl)
  · refine seq_ok' (by kernel_rfl) ?_
    have hN' : ∀ e w, (m13_18 R (e 0) (e 1) (e 11) w) → (thenE (W13 k13_18 Q) Q) .normal e w := fun e w h => then_N (s13_18 (R := R) (Q := Q) hN hR e w h)
    have hN := hN'
    exact region_ok 3 (fun e w => m13_18 R (e 0) (e 1) (e 11) w) (by kernel_rfl) (kcast (by kernel_rfl) h1) hN (by kernel_rfl)
theorem s13_1 {R : Value → World → Prop} {Q : Exit → Env → World → Prop} (hR : ∀ e w, (R (e 4) w) → Q .ret e w) (e : Env) (w : World) (h : m13_1 R (e 0) (e 1) w) : W13 k13_1 Q e w := by
  unfold m13_1 at h
  refine seq_ok' (by kernel_rfl) ?_
  have hN' : ∀ e w, (m13_2 R (e 0) (e 1) w) → (thenE (W13 k13_2 Q) Q) .normal e w := fun e w h => then_N (s13_2 (R := R) (Q := Q) hR e w h)
  have hR : ∀ e w, (R (e 4) w) → (thenE (W13 k13_2 Q) Q) .ret e w := fun e w h => then_R (hR e w h)
  have hN := hN'
  refine block_ok 0 (by kernel_rfl) ?_
  have hN : ∀ e w, (m13_2 R (e 0) (e 1) w) → (inBlockE 0 (thenE (W13 k13_2 Q) Q)) .normal e w := fun e w h => block_N (hN e w h)
  have hR : ∀ e w, (R (e 4) w) → (inBlockE 0 (thenE (W13 k13_2 Q) Q)) .ret e w := fun e w h => block_R (hR e w h)
  refine seq_ok' (by kernel_rfl) ?_
  have hN' : ∀ e w, (m13_16 R (e 0) (e 1) (e 8) w) → (thenE (W13 k13_16 (inBlockE 0 (thenE (W13 k13_2 Q) Q))) (inBlockE 0 (thenE (W13 k13_2 Q) Q))) .normal e w := fun e w h => then_N (s13_16 (R := R) (Q := (inBlockE 0 (thenE (W13 k13_2 Q) Q))) hN hR e w h)
  have hN := hN'
  exact region_ok 1 (fun e w => m13_16 R (e 0) (e 1) (e 8) w) (by kernel_rfl) (kcast (by kernel_rfl) h) hN (by kernel_rfl)
theorem s13_0 {R : Value → World → Prop} {Q : Exit → Env → World → Prop} (hR : ∀ e w, (R (e 4) w) → Q .ret e w) (e : Env) (w : World) (h : m13_0 R (e 0) (e 1) w) : W13 k13_0 Q e w := by
  unfold m13_0 at h
  refine seq_ok' (by kernel_rfl) ?_
  have hN' : ∀ e w, (m13_1 R (e 0) (e 1) w) → (thenE (W13 k13_1 Q) Q) .normal e w := fun e w h => then_N (s13_1 (R := R) (Q := Q) hR e w h)
  have hN := hN'
  exact region_ok 0 (fun e w => m13_1 R (e 0) (e 1) w) (by kernel_rfl) (kcast (by kernel_rfl) h) hN (by kernel_rfl)
abbrev m13 (R : Value → World → Prop) (h0 : Value) (keys1 : Value) (w : World) : Prop := m13_0 R h0 keys1 w
theorem s13 (h0 : Value) (keys1 : Value) {R : Value → World → Prop} {w : World} (h : m13 R h0 keys1 w) :
    Calls Try.prog 13 #[h0, keys1] w fun e w' => ∃ v, e = .returned v ∧ R v w' :=
  calls_of_cwp (st := (fun i => cond (Nat.beq i 11) 27 (cond (Nat.beq i 14) 1 (0)))) (c := k13_0) (by kernel_rfl) Try.func13 (by kernel_rfl) (Nat.le_of_ble_eq_true (by kernel_rfl)) (by kernel_rfl)
    (s13_0 (R := R) (Q := endE Try.prog Try.f13 R) (fun e w h => kcast (by kernel_rfl) h) (argsE #[h0, keys1]) w (kcast (by kernel_rfl) h))
/-! ### (*headgate/heavy.Heavy).Count -/
def m15_12 (R : Value → World → Prop) (t4 : Value) (t5 : Value) (w : World) : Prop :=
  R (Value.tuple #[t4, t5]) w
def m15_10 (R : Value → World → Prop) (t4 : Value) (t5 : Value) (w : World) : Prop :=
  R (Value.tuple #[t4, t5]) w
def m15_7 (R : Value → World → Prop) (t4 : Value) (t5 : Value) (w : World) : Prop :=
  R (Value.tuple #[t4, t5]) w
def m15_5 (R : Value → World → Prop) (t4 : Value) (t5 : Value) (w : World) : Prop :=
  R (Value.tuple #[t4, t5]) w
def m15_4 (R : Value → World → Prop) (h0 : Value) (w : World) : Prop :=
  anyDraw w fun w =>
  nilCheckP h0 fun t50 =>
  pureP Try.prog (Instr.fieldAt 52 t50 2) fun t51 =>
  (valP Try.prog (Instr.loadAt 28 t51) w fun t52 w =>
  callP Try.prog (fnV 25) #[h0] w fun t54 w =>
  pureP Try.prog (Instr.indexAt 28 t52 t54) fun t55 =>
  pureP Try.prog (Instr.fieldAt 45 t55 1) fun t56 =>
  valP Try.prog (Instr.loadAt 3 t56) w fun t57 w =>
  m15_5 R (Value.int IntKind.i64 0) t57 w) ∧ (callP Try.prog (fnV 25) #[h0] w fun t54 w =>
  valP Try.prog (Instr.loadAt 28 t51) w fun t52 w =>
  pureP Try.prog (Instr.indexAt 28 t52 t54) fun t55 =>
  pureP Try.prog (Instr.fieldAt 45 t55 1) fun t56 =>
  valP Try.prog (Instr.loadAt 3 t56) w fun t57 w =>
  m15_5 R (Value.int IntKind.i64 0) t57 w)
def m15_6 (R : Value → World → Prop) (h0 : Value) (t48 : Value) (w : World) : Prop :=
  condP t48
  (m15_7 R (Value.int IntKind.i64 0) (Value.int IntKind.i64 0) w)
  (m15_4 R h0 w)
def m15_3 (R : Value → World → Prop) (h0 : Value) (w : World) : Prop :=
  nilCheckP h0 fun t40 =>
  valQ Try.prog (Instr.fieldAt 52 t40 2) w fun t41 =>
  valQ Try.prog (Instr.loadAt 28 t41) w fun t42 =>
  builtinQ Try.prog Builtin.len #[28] 3 #[false] #[t42] w fun t43 =>
  nilCheckP h0 fun t45 =>
  valQ Try.prog (Instr.fieldAt 52 t45 0) w fun t46 =>
  valQ Try.prog (Instr.loadAt 3 t46) w fun t47 =>
  valQ Try.prog (binS BinOp.lss 3 (Operand.tmp 43) (Operand.tmp 47) t43 t47) w fun t48 =>
  anyDraw w fun w =>
  m15_6 R h0 t48 w
def m15_9 (R : Value → World → Prop) (h0 : Value) (i6 : Value) (t13 : Value) (w : World) : Prop :=
  condP t13
  (nilCheckP h0 fun t15 =>
  valQ Try.prog (Instr.fieldAt 52 t15 2) w fun t16 =>
  valQ Try.prog (Instr.loadAt 28 t16) w fun t17 =>
  valQ Try.prog (Instr.indexAt 28 t17 i6) w fun t19 =>
  valQ Try.prog (Instr.fieldAt 45 t19 1) w fun t20 =>
  valQ Try.prog (Instr.loadAt 3 t20) w fun t21 =>
  nilCheckP h0 fun t23 =>
  valQ Try.prog (Instr.fieldAt 52 t23 2) w fun t24 =>
  valQ Try.prog (Instr.loadAt 28 t24) w fun t25 =>
  valQ Try.prog (Instr.indexAt 28 t25 i6) w fun t27 =>
  valQ Try.prog (Instr.fieldAt 45 t27 2) w fun t28 =>
  valQ Try.prog (Instr.loadAt 3 t28) w fun t29 =>
  valQ Try.prog (binS BinOp.sub 3 (Operand.tmp 21) (Operand.tmp 29) t21 t29) w fun t30 =>
  nilCheckP h0 fun t32 =>
  valQ Try.prog (Instr.fieldAt 52 t32 2) w fun t33 =>
  valQ Try.prog (Instr.loadAt 28 t33) w fun t34 =>
  valQ Try.prog (Instr.indexAt 28 t34 i6) w fun t36 =>
  valQ Try.prog (Instr.fieldAt 45 t36 1) w fun t37 =>
  valQ Try.prog (Instr.loadAt 3 t37) w fun t38 =>
  anyDraw w fun w =>
  m15_10 R t30 t38 w)
  (m15_3 R h0 w)
def m15_8 (R : Value → World → Prop) (h0 : Value) (i6 : Value) (w : World) : Prop :=
  valP Try.prog (binS BinOp.geq 3 (Operand.tmp 12) (Operand.const (Value.int IntKind.i64 0)) i6 (Value.int IntKind.i64 0)) w fun t13 w =>
  m15_9 R h0 i6 t13 w
def m15_2 (R : Value → World → Prop) (h0 : Value) (key1 : Value) (w : World) : Prop :=
  callP Try.prog (fnV 24) #[h0, key1] w fun t11 w =>
  m15_8 R h0 t11 w
def m15_11 (R : Value → World → Prop) (h0 : Value) (key1 : Value) (t8 : Value) (w : World) : Prop :=
  condP t8
  (m15_12 R (Value.int IntKind.i64 0) (Value.int IntKind.i64 0) w)
  (m15_2 R h0 key1 w)
def m15_1 (R : Value → World → Prop) (h0 : Value) (key1 : Value) (w : World) : Prop :=
  valP Try.prog (binS BinOp.eql 24 (Operand.tmp 7) (Operand.const (Value.pointer none)) h0 (Value.pointer none)) w fun t8 w =>
  m15_11 R h0 key1 t8 w
def m15_0 (R : Value → World → Prop) (h0 : Value) (key1 : Value) (w : World) : Prop :=
  m15_1 R h0 key1 w
abbrev W15 := cwp Try.prog (fun i => cond (Nat.beq i 6) 1 (cond (Nat.beq i 5) 1 (0)))
noncomputable def k15_0 : Code := (bodyOf Try.f15)
noncomputable def k15_1 : Code := (c2 k15_0)
noncomputable def k15_2 : Code := (c2 k15_1)
noncomputable def k15_3 : Code := (c2 k15_2)
noncomputable def k15_4 : Code := (c2 k15_3)
noncomputable def k15_5 : Code := (c2 k15_4)
noncomputable def k15_6 : Code := (c2 (c1 k15_3))
noncomputable def k15_7 : Code := (c2 (c1 k15_6))
noncomputable def k15_8 : Code := (c2 (c1 k15_2))
noncomputable def k15_9 : Code := (c2 k15_8)
noncomputable def k15_10 : Code := (c2 (c1 k15_9))
noncomputable def k15_11 : Code := (c2 (c1 k15_1))
noncomputable def k15_12 : Code := (c2 (c1 k15_11))
theorem s15_12 {R : Value → World → Prop} {Q : Exit → Env → World → Prop} (hR : ∀ e w, (R (Value.tuple #[(e 4), (e 5)]) w) → Q .ret e w) (e : Env) (w : World) (h : m15_12 R (e 4) (e 5) w) : W15 k15_12 Q e w := by
  unfold m15_12 at h
  exact ret_ok (by kernel_rfl) (hR _ _ h)
theorem s15_10 {R : Value → World → Prop} {Q : Exit → Env → World → Prop} (hR : ∀ e w, (R (Value.tuple #[(e 4), (e 5)]) w) → Q .ret e w) (e : Env) (w : World) (h : m15_10 R (e 4) (e 5) w) : W15 k15_10 Q e w := by
  unfold m15_10 at h
  exact ret_ok (by kernel_rfl) (hR _ _ h)
theorem s15_7 {R : Value → World → Prop} {Q : Exit → Env → World → Prop} (hR : ∀ e w, (R (Value.tuple #[(e 4), (e 5)]) w) → Q .ret e w) (e : Env) (w : World) (h : m15_7 R (e 4) (e 5) w) : W15 k15_7 Q e w := by
  unfold m15_7 at h
  exact ret_ok (by kernel_rfl) (hR _ _ h)
theorem s15_5 {R : Value → World → Prop} {Q : Exit → Env → World → Prop} (hR : ∀ e w, (R (Value.tuple #[(e 4), (e 5)]) w) → Q .ret e w) (e : Env) (w : World) (h : m15_5 R (e 4) (e 5) w) : W15 k15_5 Q e w := by
  unfold m15_5 at h
  exact ret_ok (by kernel_rfl) (hR _ _ h)
theorem s15_4 {R : Value → World → Prop} {Q : Exit → Env → World → Prop} (hR : ∀ e w, (R (Value.tuple #[(e 4), (e 5)]) w) → Q .ret e w) (e : Env) (w : World) (h : m15_4 R (e 0) w) : W15 k15_4 Q e w := by
  unfold m15_4 at h
  refine seq_ok' (by kernel_rfl) ?_
  have hN' : ∀ e w, (m15_5 R (e 4) (e 5) w) → (thenE (W15 k15_5 Q) Q) .normal e w := fun e w h => then_N (s15_5 (R := R) (Q := Q) hR e w h)
  have hN := hN'
  exact tree_ok 8 11 [false, false, false, false, false, false, false, false, false, false, false] (.take 0 [true, false, false, false, false, false, false, false, false, false, false] (.take 1 [true, true, false, false, false, false, false, false, false, false, false] (.take 2 [true, true, true, false, false, false, false, false, false, false, false] (.take 4 [true, true, true, false, true, false, false, false, false, false, false] (.alt 3 [true, true, true, true, true, false, false, false, false, false, false] (.alt 5 [true, true, true, true, true, true, false, false, false, false, false] (.take 6 [true, true, true, true, true, true, true, false, false, false, false] (.take 7 [true, true, true, true, true, true, true, true, false, false, false] (.take 9 [true, true, true, true, true, true, true, true, false, true, false] (.alt 8 [true, true, true, true, true, true, true, true, true, true, false] (.take 10 [true, true, true, true, true, true, true, true, true, true, true] .done) .stop)))) .stop) (.alt 5 [true, true, true, false, true, true, false, false, false, false, false] (.take 9 [true, true, true, false, true, true, false, false, false, true, false] (.alt 3 [true, true, true, true, true, true, false, false, false, true, false] (.take 6 [true, true, true, true, true, true, true, false, false, true, false] (.take 7 [true, true, true, true, true, true, true, true, false, true, false] (.alt 8 [true, true, true, true, true, true, true, true, true, true, false] (.take 10 [true, true, true, true, true, true, true, true, true, true, true] .done) .stop))) .stop)) .stop)))))) (fun e w => m15_5 R (e 4) (e 5) w) (by kernel_rfl) (by kernel_rfl) (by kernel_rfl) (by kernel_rfl) (by kernel_rfl) (by kernel_rfl) (kcast (by kernel_rfl) h) hN (by kernel_rfl)
theorem s15_6 {R : Value → World → Prop} {Q : Exit → Env → World → Prop} (hN : ∀ e w, (m15_4 R (e 0) w) → Q .normal e w) (hR : ∀ e w, (R (Value.tuple #[(e 4), (e 5)]) w) → Q .ret e w) (e : Env) (w : World) (h : m15_6 R (e 0) (e 48) w) : W15 k15_6 Q e w := by
  unfold m15_6 at h
  refine cond_ok (Operand.tmp 48) (by kernel_rfl) h (fun h1 => ?_) (fun h1 => ?_)
  · refine seq_ok' (by kernel_rfl) ?_
    have hN' : ∀ e w, (m15_7 R (e 4) (e 5) w) → (thenE (W15 k15_7 Q) Q) .normal e w := fun e w h => then_N (s15_7 (R := R) (Q := Q) hR e w h)
    have hN := hN'
    exact region_ok 7 (fun e w => m15_7 R (e 4) (e 5) w) (by kernel_rfl) (kcast (by kernel_rfl) h1) hN (by kernel_rfl)
  · exact skip_ok (by kernel_rfl) (hN _ _ h1)
theorem s15_3 {R : Value → World → Prop} {Q : Exit → Env → World → Prop} (hR : ∀ e w, (R (Value.tuple #[(e 4), (e 5)]) w) → Q .ret e w) (e : Env) (w : World) (h : m15_3 R (e 0) w) : W15 k15_3 Q e w := by
  unfold m15_3 at h
  refine seq_ok' (by kernel_rfl) ?_
  have hN' : ∀ e w, (m15_4 R (e 0) w) → (thenE (W15 k15_4 Q) Q) .normal e w := fun e w h => then_N (s15_4 (R := R) (Q := Q) hR e w h)
  have hR : ∀ e w, (R (Value.tuple #[(e 4), (e 5)]) w) → (thenE (W15 k15_4 Q) Q) .ret e w := fun e w h => then_R (hR e w h)
  have hN := hN'
  refine seq_ok' (by kernel_rfl) ?_
  have hN' : ∀ e w, (m15_6 R (e 0) (e 48) w) → (thenE (W15 k15_6 (thenE (W15 k15_4 Q) Q)) (thenE (W15 k15_4 Q) Q)) .normal e w := fun e w h => then_N (s15_6 (R := R) (Q := (thenE (W15 k15_4 Q) Q)) hN hR e w h)
  have hN := hN'
  exact quiet_ok 6 (fun e w => m15_6 R (e 0) (e 48) w) (by kernel_rfl) (by kernel_rfl) (by kernel_rfl) (kcast (by kernel_rfl) h) hN (by kernel_rfl)
theorem s15_9 {R : Value → World → Prop} {Q : Exit → Env → World → Prop} (hN : ∀ e w, (m15_3 R (e 0) w) → Q .normal e w) (hR : ∀ e w, (R (Value.tuple #[(e 4), (e 5)]) w) → Q .ret e w) (e : Env) (w : World) (h : m15_9 R (e 0) (e 6) (e 13) w) : W15 k15_9 Q e w := by
  unfold m15_9 at h
  refine cond_ok (Operand.tmp 13) (by kernel_rfl) h (fun h1 => ?_) (fun h1 => ?_)
  · refine seq_ok' (by kernel_rfl) ?_
    have hN' : ∀ e w, (m15_10 R (e 4) (e 5) w) → (thenE (W15 k15_10 Q) Q) .normal e w := fun e w h => then_N (s15_10 (R := R) (Q := Q) hR e w h)
    have hN := hN'
    exact quiet_ok 5 (fun e w => m15_10 R (e 4) (e 5) w) (by kernel_rfl) (by kernel_rfl) (by kernel_rfl) (kcast (by kernel_rfl) h1) hN (by kernel_rfl)
  · exact skip_ok (by kernel_rfl) (hN _ _ h1)
theorem s15_8 {R : Value → World → Prop} {Q : Exit → Env → World → Prop} (hN : ∀ e w, (m15_3 R (e 0) w) → Q .normal e w) (hR : ∀ e w, (R (Value.tuple #[(e 4), (e 5)]) w) → Q .ret e w) (e : Env) (w : World) (h : m15_8 R (e 0) (e 6) w) : W15 k15_8 Q e w := by
  unfold m15_8 at h
  refine seq_ok' (by kernel_rfl) ?_
  have hN' : ∀ e w, (m15_9 R (e 0) (e 6) (e 13) w) → (thenE (W15 k15_9 Q) Q) .normal e w := fun e w h => then_N (s15_9 (R := R) (Q := Q) hN hR e w h)
  have hN := hN'
  exact region_ok 4 (fun e w => m15_9 R (e 0) (e 6) (e 13) w) (by kernel_rfl) (kcast (by kernel_rfl) h) hN (by kernel_rfl)
theorem s15_2 {R : Value → World → Prop} {Q : Exit → Env → World → Prop} (hR : ∀ e w, (R (Value.tuple #[(e 4), (e 5)]) w) → Q .ret e w) (e : Env) (w : World) (h : m15_2 R (e 0) (e 1) w) : W15 k15_2 Q e w := by
  unfold m15_2 at h
  refine seq_ok' (by kernel_rfl) ?_
  have hN' : ∀ e w, (m15_3 R (e 0) w) → (thenE (W15 k15_3 Q) Q) .normal e w := fun e w h => then_N (s15_3 (R := R) (Q := Q) hR e w h)
  have hR : ∀ e w, (R (Value.tuple #[(e 4), (e 5)]) w) → (thenE (W15 k15_3 Q) Q) .ret e w := fun e w h => then_R (hR e w h)
  have hN := hN'
  refine seq_ok' (by kernel_rfl) ?_
  have hN' : ∀ e w, (m15_8 R (e 0) (e 6) w) → (thenE (W15 k15_8 (thenE (W15 k15_3 Q) Q)) (thenE (W15 k15_3 Q) Q)) .normal e w := fun e w h => then_N (s15_8 (R := R) (Q := (thenE (W15 k15_3 Q) Q)) hN hR e w h)
  have hN := hN'
  exact region_ok 3 (fun e w => m15_8 R (e 0) (e 6) w) (by kernel_rfl) (kcast (by kernel_rfl) h) hN (by kernel_rfl)
theorem s15_11 {R : Value → World → Prop} {Q : Exit → Env → World → Prop} (hN : ∀ e w, (m15_2 R (e 0) (e 1) w) → Q .normal e w) (hR : ∀ e w, (R (Value.tuple #[(e 4), (e 5)]) w) → Q .ret e w) (e : Env) (w : World) (h : m15_11 R (e 0) (e 1) (e 8) w) : W15 k15_11 Q e w := by
  unfold m15_11 at h
  refine cond_ok (Operand.tmp 8) (by kernel_rfl) h (fun h1 => ?_) (fun h1 => ?_)
  · refine seq_ok' (by kernel_rfl) ?_
    have hN' : ∀ e w, (m15_12 R (e 4) (e 5) w) → (thenE (W15 k15_12 Q) Q) .normal e w := fun e w h => then_N (s15_12 (R := R) (Q := Q) hR e w h)
    have hN := hN'
    exact region_ok 2 (fun e w => m15_12 R (e 4) (e 5) w) (by kernel_rfl) (kcast (by kernel_rfl) h1) hN (by kernel_rfl)
  · exact skip_ok (by kernel_rfl) (hN _ _ h1)
theorem s15_1 {R : Value → World → Prop} {Q : Exit → Env → World → Prop} (hR : ∀ e w, (R (Value.tuple #[(e 4), (e 5)]) w) → Q .ret e w) (e : Env) (w : World) (h : m15_1 R (e 0) (e 1) w) : W15 k15_1 Q e w := by
  unfold m15_1 at h
  refine seq_ok' (by kernel_rfl) ?_
  have hN' : ∀ e w, (m15_2 R (e 0) (e 1) w) → (thenE (W15 k15_2 Q) Q) .normal e w := fun e w h => then_N (s15_2 (R := R) (Q := Q) hR e w h)
  have hR : ∀ e w, (R (Value.tuple #[(e 4), (e 5)]) w) → (thenE (W15 k15_2 Q) Q) .ret e w := fun e w h => then_R (hR e w h)
  have hN := hN'
  refine seq_ok' (by kernel_rfl) ?_
  have hN' : ∀ e w, (m15_11 R (e 0) (e 1) (e 8) w) → (thenE (W15 k15_11 (thenE (W15 k15_2 Q) Q)) (thenE (W15 k15_2 Q) Q)) .normal e w := fun e w h => then_N (s15_11 (R := R) (Q := (thenE (W15 k15_2 Q) Q)) hN hR e w h)
  have hN := hN'
  exact region_ok 1 (fun e w => m15_11 R (e 0) (e 1) (e 8) w) (by kernel_rfl) (kcast (by kernel_rfl) h) hN (by kernel_rfl)
theorem s15_0 {R : Value → World → Prop} {Q : Exit → Env → World → Prop} (hR : ∀ e w, (R (Value.tuple #[(e 4), (e 5)]) w) → Q .ret e w) (e : Env) (w : World) (h : m15_0 R (e 0) (e 1) w) : W15 k15_0 Q e w := by
  unfold m15_0 at h
  refine seq_ok' (by kernel_rfl) ?_
  have hN' : ∀ e w, (m15_1 R (e 0) (e 1) w) → (thenE (W15 k15_1 Q) Q) .normal e w := fun e w h => then_N (s15_1 (R := R) (Q := Q) hR e w h)
  have hN := hN'
  exact region_ok 0 (fun e w => m15_1 R (e 0) (e 1) w) (by kernel_rfl) (kcast (by kernel_rfl) h) hN (by kernel_rfl)
abbrev m15 (R : Value → World → Prop) (h0 : Value) (key1 : Value) (w : World) : Prop := m15_0 R h0 key1 w
theorem s15 (h0 : Value) (key1 : Value) {R : Value → World → Prop} {w : World} (h : m15 R h0 key1 w) :
    Calls Try.prog 15 #[h0, key1] w fun e w' => ∃ v, e = .returned v ∧ R v w' :=
  calls_of_cwp (st := (fun i => cond (Nat.beq i 6) 1 (cond (Nat.beq i 5) 1 (0)))) (c := k15_0) (by kernel_rfl) Try.func15 (by kernel_rfl) (Nat.le_of_ble_eq_true (by kernel_rfl)) (by kernel_rfl)
    (s15_0 (R := R) (Q := endE Try.prog Try.f15 R) (fun e w h => kcast (by kernel_rfl) h) (argsE #[h0, key1]) w (kcast (by kernel_rfl) h))
/-! ### (*headgate/heavy.Heavy).Seen -/
def m17_5 (R : Value → World → Prop) (t2 : Value) (w : World) : Prop :=
  R t2 w
def m17_3 (R : Value → World → Prop) (t2 : Value) (w : World) : Prop :=
  R t2 w
def m17_2 (R : Value → World → Prop) (h0 : Value) (w : World) : Prop :=
  nilCheckP h0 fun t6 =>
  valP Try.prog (Instr.fieldAt 52 t6 1) w fun t7 w =>
  valP Try.prog (Instr.loadAt 3 t7) w fun t8 w =>
  m17_3 R t8 w
def m17_4 (R : Value → World → Prop) (h0 : Value) (t4 : Value) (w : World) : Prop :=
  condP t4
  (m17_5 R (Value.int IntKind.i64 0) w)
  (m17_2 R h0 w)
def m17_1 (R : Value → World → Prop) (h0 : Value) (w : World) : Prop :=
  valP Try.prog (binS BinOp.eql 24 (Operand.tmp 3) (Operand.const (Value.pointer none)) h0 (Value.pointer none)) w fun t4 w =>
  m17_4 R h0 t4 w
def m17_0 (R : Value → World → Prop) (h0 : Value) (w : World) : Prop :=
  m17_1 R h0 w
abbrev W17 := cwp Try.prog (fun i => 0)
noncomputable def k17_0 : Code := (bodyOf Try.f17)
noncomputable def k17_1 : Code := (c2 k17_0)
noncomputable def k17_2 : Code := (c2 k17_1)
noncomputable def k17_3 : Code := (c2 k17_2)
noncomputable def k17_4 : Code := (c2 (c1 k17_1))
noncomputable def k17_5 : Code := (c2 (c1 k17_4))
theorem s17_5 {R : Value → World → Prop} {Q : Exit → Env → World → Prop} (hR : ∀ e w, (R (e 2) w) → Q .ret e w) (e : Env) (w : World) (h : m17_5 R (e 2) w) : W17 k17_5 Q e w := by
  unfold m17_5 at h
  exact ret_ok (by kernel_rfl) (hR _ _ h)
theorem s17_3 {R : Value → World → Prop} {Q : Exit → Env → World → Prop} (hR : ∀ e w, (R (e 2) w) → Q .ret e w) (e : Env) (w : World) (h : m17_3 R (e 2) w) : W17 k17_3 Q e w := by
  unfold m17_3 at h
  exact ret_ok (by kernel_rfl) (hR _ _ h)
theorem s17_2 {R : Value → World → Prop} {Q : Exit → Env → World → Prop} (hR : ∀ e w, (R (e 2) w) → Q .ret e w) (e : Env) (w : World) (h : m17_2 R (e 0) w) : W17 k17_2 Q e w := by
  unfold m17_2 at h
  refine seq_ok' (by kernel_rfl) ?_
  have hN' : ∀ e w, (m17_3 R (e 2) w) → (thenE (W17 k17_3 Q) Q) .normal e w := fun e w h => then_N (s17_3 (R := R) (Q := Q) hR e w h)
  have hN := hN'
  exact region_ok 3 (fun e w => m17_3 R (e 2) w) (by kernel_rfl) (kcast (by kernel_rfl) h) hN (by kernel_rfl)
theorem s17_4 {R : Value → World → Prop} {Q : Exit → Env → World → Prop} (hN : ∀ e w, (m17_2 R (e 0) w) → Q .normal e w) (hR : ∀ e w, (R (e 2) w) → Q .ret e w) (e : Env) (w : World) (h : m17_4 R (e 0) (e 4) w) : W17 k17_4 Q e w := by
  unfold m17_4 at h
  refine cond_ok (Operand.tmp 4) (by kernel_rfl) h (fun h1 => ?_) (fun h1 => ?_)
  · refine seq_ok' (by kernel_rfl) ?_
    have hN' : ∀ e w, (m17_5 R (e 2) w) → (thenE (W17 k17_5 Q) Q) .normal e w := fun e w h => then_N (s17_5 (R := R) (Q := Q) hR e w h)
    have hN := hN'
    exact region_ok 2 (fun e w => m17_5 R (e 2) w) (by kernel_rfl) (kcast (by kernel_rfl) h1) hN (by kernel_rfl)
  · exact skip_ok (by kernel_rfl) (hN _ _ h1)
theorem s17_1 {R : Value → World → Prop} {Q : Exit → Env → World → Prop} (hR : ∀ e w, (R (e 2) w) → Q .ret e w) (e : Env) (w : World) (h : m17_1 R (e 0) w) : W17 k17_1 Q e w := by
  unfold m17_1 at h
  refine seq_ok' (by kernel_rfl) ?_
  have hN' : ∀ e w, (m17_2 R (e 0) w) → (thenE (W17 k17_2 Q) Q) .normal e w := fun e w h => then_N (s17_2 (R := R) (Q := Q) hR e w h)
  have hR : ∀ e w, (R (e 2) w) → (thenE (W17 k17_2 Q) Q) .ret e w := fun e w h => then_R (hR e w h)
  have hN := hN'
  refine seq_ok' (by kernel_rfl) ?_
  have hN' : ∀ e w, (m17_4 R (e 0) (e 4) w) → (thenE (W17 k17_4 (thenE (W17 k17_2 Q) Q)) (thenE (W17 k17_2 Q) Q)) .normal e w := fun e w h => then_N (s17_4 (R := R) (Q := (thenE (W17 k17_2 Q) Q)) hN hR e w h)
  have hN := hN'
  exact region_ok 1 (fun e w => m17_4 R (e 0) (e 4) w) (by kernel_rfl) (kcast (by kernel_rfl) h) hN (by kernel_rfl)
theorem s17_0 {R : Value → World → Prop} {Q : Exit → Env → World → Prop} (hR : ∀ e w, (R (e 2) w) → Q .ret e w) (e : Env) (w : World) (h : m17_0 R (e 0) w) : W17 k17_0 Q e w := by
  unfold m17_0 at h
  refine seq_ok' (by kernel_rfl) ?_
  have hN' : ∀ e w, (m17_1 R (e 0) w) → (thenE (W17 k17_1 Q) Q) .normal e w := fun e w h => then_N (s17_1 (R := R) (Q := Q) hR e w h)
  have hN := hN'
  exact region_ok 0 (fun e w => m17_1 R (e 0) w) (by kernel_rfl) (kcast (by kernel_rfl) h) hN (by kernel_rfl)
abbrev m17 (R : Value → World → Prop) (h0 : Value) (w : World) : Prop := m17_0 R h0 w
theorem s17 (h0 : Value) {R : Value → World → Prop} {w : World} (h : m17 R h0 w) :
    Calls Try.prog 17 #[h0] w fun e w' => ∃ v, e = .returned v ∧ R v w' :=
  calls_of_cwp (st := (fun i => 0)) (c := k17_0) (by kernel_rfl) Try.func17 (by kernel_rfl) (Nat.le_of_ble_eq_true (by kernel_rfl)) (by kernel_rfl)
    (s17_0 (R := R) (Q := endE Try.prog Try.f17 R) (fun e w h => kcast (by kernel_rfl) h) (argsE #[h0]) w (kcast (by kernel_rfl) h))
/-! ### (*headgate/heavy.Heavy).Top -/
def m19_7 (R : Value → World → Prop) (t4 : Value) (w : World) : Prop :=
  R t4 w
def m19_5 (R : Value → World → Prop) (t4 : Value) (w : World) : Prop :=
  R t4 w
def m19_4 (R : Value → World → Prop) (n1 : Value) (l5 : Value) (w : World) : Prop :=
  builtinP Try.prog Builtin.len #[28] 3 #[false] #[l5] w fun t22 w =>
  builtinP Try.prog Builtin.min #[3, 3] 3 #[false, false] #[n1, t22] w fun t23 w =>
  valP Try.prog (Instr.sliceAt 28 l5 none (some t23) none) w fun t24 w =>
  m19_5 R t24 w
def m19_3 (R : Value → World → Prop) (n1 : Value) (l5 : Value) (w : World) : Prop :=
  callP Try.prog (fnV 29) #[l5, (fnV 30)] w fun t18 w =>
  m19_4 R n1 l5 w
def m19_2 (R : Value → World → Prop) (h0 : Value) (n1 : Value) (w : World) : Prop :=
  nilCheckP h0 fun t13 =>
  valP Try.prog (Instr.fieldAt 52 t13 2) w fun t14 w =>
  valP Try.prog (Instr.loadAt 28 t14) w fun t15 w =>
  callP Try.prog (fnV 28) #[t15] w fun t16 w =>
  m19_3 R n1 t16 w
def m19_6 (R : Value → World → Prop) (h0 : Value) (n1 : Value) (t11 : Value) (w : World) : Prop :=
  condP t11
  (m19_7 R (Value.slice none 0 0) w)
  (m19_2 R h0 n1 w)
def m19_1 (R : Value → World → Prop) (h0 : Value) (n1 : Value) (w : World) : Prop :=
  valP Try.prog (binS BinOp.eql 24 (Operand.tmp 6) (Operand.const (Value.pointer none)) h0 (Value.pointer none)) w fun t7 w =>
  condP t7
  (pickP t7 (Value.bool true) undef fun t11 =>
  m19_6 R h0 n1 t11 w)
  (valP Try.prog (binS BinOp.leq 3 (Operand.tmp 9) (Operand.const (Value.int IntKind.i64 0)) n1 (Value.int IntKind.i64 0)) w fun t10 w =>
  pickP t7 (Value.bool true) t10 fun t11 =>
  m19_6 R h0 n1 t11 w)
def m19_0 (R : Value → World → Prop) (h0 : Value) (n1 : Value) (w : World) : Prop :=
  m19_1 R h0 n1 w
abbrev W19 := cwp Try.prog (fun i => 0)
noncomputable def k19_0 : Code := (bodyOf Try.f19)
noncomputable def k19_1 : Code := (c2 k19_0)
noncomputable def k19_2 : Code := (c2 k19_1)
noncomputable def k19_3 : Code := (c2 k19_2)
noncomputable def k19_4 : Code := (c2 k19_3)
noncomputable def k19_5 : Code := (c2 k19_4)
noncomputable def k19_6 : Code := (c2 (c1 k19_1))
noncomputable def k19_7 : Code := (c2 (c1 k19_6))
theorem s19_7 {R : Value → World → Prop} {Q : Exit → Env → World → Prop} (hR : ∀ e w, (R (e 4) w) → Q .ret e w) (e : Env) (w : World) (h : m19_7 R (e 4) w) : W19 k19_7 Q e w := by
  unfold m19_7 at h
  exact ret_ok (by kernel_rfl) (hR _ _ h)
theorem s19_5 {R : Value → World → Prop} {Q : Exit → Env → World → Prop} (hR : ∀ e w, (R (e 4) w) → Q .ret e w) (e : Env) (w : World) (h : m19_5 R (e 4) w) : W19 k19_5 Q e w := by
  unfold m19_5 at h
  exact ret_ok (by kernel_rfl) (hR _ _ h)
theorem s19_4 {R : Value → World → Prop} {Q : Exit → Env → World → Prop} (hR : ∀ e w, (R (e 4) w) → Q .ret e w) (e : Env) (w : World) (h : m19_4 R (e 1) (e 5) w) : W19 k19_4 Q e w := by
  unfold m19_4 at h
  refine seq_ok' (by kernel_rfl) ?_
  have hN' : ∀ e w, (m19_5 R (e 4) w) → (thenE (W19 k19_5 Q) Q) .normal e w := fun e w h => then_N (s19_5 (R := R) (Q := Q) hR e w h)
  have hN := hN'
  exact region_ok 5 (fun e w => m19_5 R (e 4) w) (by kernel_rfl) (kcast (by kernel_rfl) h) hN (by kernel_rfl)
theorem s19_3 {R : Value → World → Prop} {Q : Exit → Env → World → Prop} (hR : ∀ e w, (R (e 4) w) → Q .ret e w) (e : Env) (w : World) (h : m19_3 R (e 1) (e 5) w) : W19 k19_3 Q e w := by
  unfold m19_3 at h
  refine seq_ok' (by kernel_rfl) ?_
  have hN' : ∀ e w, (m19_4 R (e 1) (e 5) w) → (thenE (W19 k19_4 Q) Q) .normal e w := fun e w h => then_N (s19_4 (R := R) (Q := Q) hR e w h)
  have hN := hN'
  exact region_ok 4 (fun e w => m19_4 R (e 1) (e 5) w) (by kernel_rfl) (kcast (by kernel_rfl) h) hN (by kernel_rfl)
theorem s19_2 {R : Value → World → Prop} {Q : Exit → Env → World → Prop} (hR : ∀ e w, (R (e 4) w) → Q .ret e w) (e : Env) (w : World) (h : m19_2 R (e 0) (e 1) w) : W19 k19_2 Q e w := by
  unfold m19_2 at h
  refine seq_ok' (by kernel_rfl) ?_
  have hN' : ∀ e w, (m19_3 R (e 1) (e 5) w) → (thenE (W19 k19_3 Q) Q) .normal e w := fun e w h => then_N (s19_3 (R := R) (Q := Q) hR e w h)
  have hN := hN'
  exact region_ok 3 (fun e w => m19_3 R (e 1) (e 5) w) (by kernel_rfl) (kcast (by kernel_rfl) h) hN (by kernel_rfl)
theorem s19_6 {R : Value → World → Prop} {Q : Exit → Env → World → Prop} (hN : ∀ e w, (m19_2 R (e 0) (e 1) w) → Q .normal e w) (hR : ∀ e w, (R (e 4) w) → Q .ret e w) (e : Env) (w : World) (h : m19_6 R (e 0) (e 1) (e 11) w) : W19 k19_6 Q e w := by
  unfold m19_6 at h
  refine cond_ok (Operand.tmp 11) (by kernel_rfl) h (fun h1 => ?_) (fun h1 => ?_)
  · refine seq_ok' (by kernel_rfl) ?_
    have hN' : ∀ e w, (m19_7 R (e 4) w) → (thenE (W19 k19_7 Q) Q) .normal e w := fun e w h => then_N (s19_7 (R := R) (Q := Q) hR e w h)
    have hN := hN'
    exact region_ok 2 (fun e w => m19_7 R (e 4) w) (by kernel_rfl) (kcast (by kernel_rfl) h1) hN (by kernel_rfl)
  · exact skip_ok (by kernel_rfl) (hN _ _ h1)
theorem s19_1 {R : Value → World → Prop} {Q : Exit → Env → World → Prop} (hR : ∀ e w, (R (e 4) w) → Q .ret e w) (e : Env) (w : World) (h : m19_1 R (e 0) (e 1) w) : W19 k19_1 Q e w := by
  unfold m19_1 at h
  refine seq_ok' (by kernel_rfl) ?_
  have hN' : ∀ e w, (m19_2 R (e 0) (e 1) w) → (thenE (W19 k19_2 Q) Q) .normal e w := fun e w h => then_N (s19_2 (R := R) (Q := Q) hR e w h)
  have hR : ∀ e w, (R (e 4) w) → (thenE (W19 k19_2 Q) Q) .ret e w := fun e w h => then_R (hR e w h)
  have hN := hN'
  refine seq_ok' (by kernel_rfl) ?_
  have hN' : ∀ e w, (m19_6 R (e 0) (e 1) (e 11) w) → (thenE (W19 k19_6 (thenE (W19 k19_2 Q) Q)) (thenE (W19 k19_2 Q) Q)) .normal e w := fun e w h => then_N (s19_6 (R := R) (Q := (thenE (W19 k19_2 Q) Q)) hN hR e w h)
  have hN := hN'
  exact region_ok 1 (fun e w => m19_6 R (e 0) (e 1) (e 11) w) (by kernel_rfl) (kcast (by kernel_rfl) h) hN (by kernel_rfl)
theorem s19_0 {R : Value → World → Prop} {Q : Exit → Env → World → Prop} (hR : ∀ e w, (R (e 4) w) → Q .ret e w) (e : Env) (w : World) (h : m19_0 R (e 0) (e 1) w) : W19 k19_0 Q e w := by
  unfold m19_0 at h
  refine seq_ok' (by kernel_rfl) ?_
  have hN' : ∀ e w, (m19_1 R (e 0) (e 1) w) → (thenE (W19 k19_1 Q) Q) .normal e w := fun e w h => then_N (s19_1 (R := R) (Q := Q) hR e w h)
  have hN := hN'
  exact region_ok 0 (fun e w => m19_1 R (e 0) (e 1) w) (by kernel_rfl) (kcast (by kernel_rfl) h) hN (by kernel_rfl)
abbrev m19 (R : Value → World → Prop) (h0 : Value) (n1 : Value) (w : World) : Prop := m19_0 R h0 n1 w
theorem s19 (h0 : Value) (n1 : Value) {R : Value → World → Prop} {w : World} (h : m19 R h0 n1 w) :
    Calls Try.prog 19 #[h0, n1] w fun e w' => ∃ v, e = .returned v ∧ R v w' :=
  calls_of_cwp (st := (fun i => 0)) (c := k19_0) (by kernel_rfl) Try.func19 (by kernel_rfl) (Nat.le_of_ble_eq_true (by kernel_rfl)) (by kernel_rfl)
    (s19_0 (R := R) (Q := endE Try.prog Try.f19 R) (fun e w h => kcast (by kernel_rfl) h) (argsE #[h0, n1]) w (kcast (by kernel_rfl) h))
/-! ### (*headgate/heavy.Heavy).Copy -/
def m23_7 (R : Value → World → Prop) (t2 : Value) (w : World) : Prop :=
  R t2 w
def m23_5 (R : Value → World → Prop) (t2 : Value) (w : World) : Prop :=
  R t2 w
def m23_4 (R : Value → World → Prop) (c3 : Value) (w : World) : Prop :=
  m23_5 R c3 w
def m23_3 (R : Value → World → Prop) (h0 : Value) (c3 : Value) (w : World) : Prop :=
  nilCheckP h0 fun t10 =>
  valP Try.prog (Instr.fieldAt 52 t10 2) w fun t11 w =>
  valP Try.prog (Instr.loadAt 28 t11) w fun t12 w =>
  callP Try.prog (fnV 28) #[t12] w fun t13 w =>
  valP Try.prog (Instr.fieldAt 52 c3 2) w fun t14 w =>
  unitP Try.prog (Instr.storeAt 28 t14 t13) w fun _ w =>
  m23_4 R c3 w
def m23_2 (R : Value → World → Prop) (h0 : Value) (w : World) : Prop :=
  nilCheckP h0 fun t7 =>
  valP Try.prog (Instr.loadAt 52 t7) w fun t8 w =>
  valP Try.prog (Instr.alloc 52 true (.tuple #[])) w fun c3 w =>
  unitP Try.prog (Instr.storeAt 52 c3 t8) w fun _ w =>
  m23_3 R h0 c3 w
def m23_6 (R : Value → World → Prop) (h0 : Value) (t5 : Value) (w : World) : Prop :=
  condP t5
  (m23_7 R (Value.pointer none) w)
  (m23_2 R h0 w)
def m23_1 (R : Value → World → Prop) (h0 : Value) (w : World) : Prop :=
  valP Try.prog (binS BinOp.eql 24 (Operand.tmp 4) (Operand.const (Value.pointer none)) h0 (Value.pointer none)) w fun t5 w =>
  m23_6 R h0 t5 w
def m23_0 (R : Value → World → Prop) (h0 : Value) (w : World) : Prop :=
  m23_1 R h0 w
abbrev W23 := cwp Try.prog (fun i => 0)
noncomputable def k23_0 : Code := (bodyOf Try.f23)
noncomputable def k23_1 : Code := (c2 k23_0)
noncomputable def k23_2 : Code := (c2 k23_1)
noncomputable def k23_3 : Code := (c2 k23_2)
noncomputable def k23_4 : Code := (c2 k23_3)
noncomputable def k23_5 : Code := (c2 k23_4)
noncomputable def k23_6 : Code := (c2 (c1 k23_1))
noncomputable def k23_7 : Code := (c2 (c1 k23_6))
theorem s23_7 {R : Value → World → Prop} {Q : Exit → Env → World → Prop} (hR : ∀ e w, (R (e 2) w) → Q .ret e w) (e : Env) (w : World) (h : m23_7 R (e 2) w) : W23 k23_7 Q e w := by
  unfold m23_7 at h
  exact ret_ok (by kernel_rfl) (hR _ _ h)
theorem s23_5 {R : Value → World → Prop} {Q : Exit → Env → World → Prop} (hR : ∀ e w, (R (e 2) w) → Q .ret e w) (e : Env) (w : World) (h : m23_5 R (e 2) w) : W23 k23_5 Q e w := by
  unfold m23_5 at h
  exact ret_ok (by kernel_rfl) (hR _ _ h)
theorem s23_4 {R : Value → World → Prop} {Q : Exit → Env → World → Prop} (hR : ∀ e w, (R (e 2) w) → Q .ret e w) (e : Env) (w : World) (h : m23_4 R (e 3) w) : W23 k23_4 Q e w := by
  unfold m23_4 at h
  refine seq_ok' (by kernel_rfl) ?_
  have hN' : ∀ e w, (m23_5 R (e 2) w) → (thenE (W23 k23_5 Q) Q) .normal e w := fun e w h => then_N (s23_5 (R := R) (Q := Q) hR e w h)
  have hN := hN'
  exact region_ok 5 (fun e w => m23_5 R (e 2) w) (by kernel_rfl) (kcast (by kernel_rfl) h) hN (by kernel_rfl)
theorem s23_3 {R : Value → World → Prop} {Q : Exit → Env → World → Prop} (hR : ∀ e w, (R (e 2) w) → Q .ret e w) (e : Env) (w : World) (h : m23_3 R (e 0) (e 3) w) : W23 k23_3 Q e w := by
  unfold m23_3 at h
  refine seq_ok' (by kernel_rfl) ?_
  have hN' : ∀ e w, (m23_4 R (e 3) w) → (thenE (W23 k23_4 Q) Q) .normal e w := fun e w h => then_N (s23_4 (R := R) (Q := Q) hR e w h)
  have hN := hN'
  exact region_ok 4 (fun e w => m23_4 R (e 3) w) (by kernel_rfl) (kcast (by kernel_rfl) h) hN (by kernel_rfl)
theorem s23_2 {R : Value → World → Prop} {Q : Exit → Env → World → Prop} (hR : ∀ e w, (R (e 2) w) → Q .ret e w) (e : Env) (w : World) (h : m23_2 R (e 0) w) : W23 k23_2 Q e w := by
  unfold m23_2 at h
  refine seq_ok' (by kernel_rfl) ?_
  have hN' : ∀ e w, (m23_3 R (e 0) (e 3) w) → (thenE (W23 k23_3 Q) Q) .normal e w := fun e w h => then_N (s23_3 (R := R) (Q := Q) hR e w h)
  have hN := hN'
  exact region_ok 3 (fun e w => m23_3 R (e 0) (e 3) w) (by kernel_rfl) (kcast (by kernel_rfl) h) hN (by kernel_rfl)
theorem s23_6 {R : Value → World → Prop} {Q : Exit → Env → World → Prop} (hN : ∀ e w, (m23_2 R (e 0) w) → Q .normal e w) (hR : ∀ e w, (R (e 2) w) → Q .ret e w) (e : Env) (w : World) (h : m23_6 R (e 0) (e 5) w) : W23 k23_6 Q e w := by
  unfold m23_6 at h
  refine cond_ok (Operand.tmp 5) (by kernel_rfl) h (fun h1 => ?_) (fun h1 => ?_)
  · refine seq_ok' (by kernel_rfl) ?_
    have hN' : ∀ e w, (m23_7 R (e 2) w) → (thenE (W23 k23_7 Q) Q) .normal e w := fun e w h => then_N (s23_7 (R := R) (Q := Q) hR e w h)
    have hN := hN'
    exact region_ok 2 (fun e w => m23_7 R (e 2) w) (by kernel_rfl) (kcast (by kernel_rfl) h1) hN (by kernel_rfl)
  · exact skip_ok (by kernel_rfl) (hN _ _ h1)
theorem s23_1 {R : Value → World → Prop} {Q : Exit → Env → World → Prop} (hR : ∀ e w, (R (e 2) w) → Q .ret e w) (e : Env) (w : World) (h : m23_1 R (e 0) w) : W23 k23_1 Q e w := by
  unfold m23_1 at h
  refine seq_ok' (by kernel_rfl) ?_
  have hN' : ∀ e w, (m23_2 R (e 0) w) → (thenE (W23 k23_2 Q) Q) .normal e w := fun e w h => then_N (s23_2 (R := R) (Q := Q) hR e w h)
  have hR : ∀ e w, (R (e 2) w) → (thenE (W23 k23_2 Q) Q) .ret e w := fun e w h => then_R (hR e w h)
  have hN := hN'
  refine seq_ok' (by kernel_rfl) ?_
  have hN' : ∀ e w, (m23_6 R (e 0) (e 5) w) → (thenE (W23 k23_6 (thenE (W23 k23_2 Q) Q)) (thenE (W23 k23_2 Q) Q)) .normal e w := fun e w h => then_N (s23_6 (R := R) (Q := (thenE (W23 k23_2 Q) Q)) hN hR e w h)
  have hN := hN'
  exact region_ok 1 (fun e w => m23_6 R (e 0) (e 5) w) (by kernel_rfl) (kcast (by kernel_rfl) h) hN (by kernel_rfl)
theorem s23_0 {R : Value → World → Prop} {Q : Exit → Env → World → Prop} (hR : ∀ e w, (R (e 2) w) → Q .ret e w) (e : Env) (w : World) (h : m23_0 R (e 0) w) : W23 k23_0 Q e w := by
  unfold m23_0 at h
  refine seq_ok' (by kernel_rfl) ?_
  have hN' : ∀ e w, (m23_1 R (e 0) w) → (thenE (W23 k23_1 Q) Q) .normal e w := fun e w h => then_N (s23_1 (R := R) (Q := Q) hR e w h)
  have hN := hN'
  exact region_ok 0 (fun e w => m23_1 R (e 0) w) (by kernel_rfl) (kcast (by kernel_rfl) h) hN (by kernel_rfl)
abbrev m23 (R : Value → World → Prop) (h0 : Value) (w : World) : Prop := m23_0 R h0 w
theorem s23 (h0 : Value) {R : Value → World → Prop} {w : World} (h : m23 R h0 w) :
    Calls Try.prog 23 #[h0] w fun e w' => ∃ v, e = .returned v ∧ R v w' :=
  calls_of_cwp (st := (fun i => 0)) (c := k23_0) (by kernel_rfl) Try.func23 (by kernel_rfl) (Nat.le_of_ble_eq_true (by kernel_rfl)) (by kernel_rfl)
    (s23_0 (R := R) (Q := endE Try.prog Try.f23 R) (fun e w h => kcast (by kernel_rfl) h) (argsE #[h0]) w (kcast (by kernel_rfl) h))
/-! ### (*headgate/heavy.Heavy).find -/
def m24_2 (R : Value → World → Prop) (t4 : Value) (w : World) : Prop :=
  R t4 w
def m24_1 (R : Value → World → Prop) (h0 : Value) (key3 : Value) (w : World) : Prop :=
  nilCheckP h0 fun t6 =>
  valP Try.prog (Instr.fieldAt 52 t6 2) w fun t7 w =>
  valP Try.prog (Instr.loadAt 28 t7) w fun t8 w =>
  valP Try.prog (Instr.makeFunc (Fn.func 34) #[] #[key3]) w fun t9 w =>
  callP Try.prog (fnV 33) #[t8, t9] w fun t10 w =>
  m24_2 R t10 w
def m24_0 (R : Value → World → Prop) (h0 : Value) (key1 : Value) (w : World) : Prop :=
  valP Try.prog (Instr.box 3 key1) w fun key3 w =>
  m24_1 R h0 key3 w
abbrev W24 := cwp Try.prog (fun i => 0)
noncomputable def k24_0 : Code := (bodyOf Try.f24)
noncomputable def k24_1 : Code := (c2 k24_0)
noncomputable def k24_2 : Code := (c2 k24_1)
theorem s24_2 {R : Value → World → Prop} {Q : Exit → Env → World → Prop} (hR : ∀ e w, (R (e 4) w) → Q .ret e w) (e : Env) (w : World) (h : m24_2 R (e 4) w) : W24 k24_2 Q e w := by
  unfold m24_2 at h
  exact ret_ok (by kernel_rfl) (hR _ _ h)
theorem s24_1 {R : Value → World → Prop} {Q : Exit → Env → World → Prop} (hR : ∀ e w, (R (e 4) w) → Q .ret e w) (e : Env) (w : World) (h : m24_1 R (e 0) (e 3) w) : W24 k24_1 Q e w := by
  unfold m24_1 at h
  refine seq_ok' (by kernel_rfl) ?_
  have hN' : ∀ e w, (m24_2 R (e 4) w) → (thenE (W24 k24_2 Q) Q) .normal e w := fun e w h => then_N (s24_2 (R := R) (Q := Q) hR e w h)
  have hN := hN'
  exact region_ok 1 (fun e w => m24_2 R (e 4) w) (by kernel_rfl) (kcast (by kernel_rfl) h) hN (by kernel_rfl)
theorem s24_0 {R : Value → World → Prop} {Q : Exit → Env → World → Prop} (hR : ∀ e w, (R (e 4) w) → Q .ret e w) (e : Env) (w : World) (h : m24_0 R (e 0) (e 1) w) : W24 k24_0 Q e w := by
  unfold m24_0 at h
  refine seq_ok' (by kernel_rfl) ?_
  have hN' : ∀ e w, (m24_1 R (e 0) (e 3) w) → (thenE (W24 k24_1 Q) Q) .normal e w := fun e w h => then_N (s24_1 (R := R) (Q := Q) hR e w h)
  have hN := hN'
  exact region_ok 0 (fun e w => m24_1 R (e 0) (e 3) w) (by kernel_rfl) (kcast (by kernel_rfl) h) hN (by kernel_rfl)
abbrev m24 (R : Value → World → Prop) (h0 : Value) (key1 : Value) (w : World) : Prop := m24_0 R h0 key1 w
theorem s24 (h0 : Value) (key1 : Value) {R : Value → World → Prop} {w : World} (h : m24 R h0 key1 w) :
    Calls Try.prog 24 #[h0, key1] w fun e w' => ∃ v, e = .returned v ∧ R v w' :=
  calls_of_cwp (st := (fun i => 0)) (c := k24_0) (by kernel_rfl) Try.func24 (by kernel_rfl) (Nat.le_of_ble_eq_true (by kernel_rfl)) (by kernel_rfl)
    (s24_0 (R := R) (Q := endE Try.prog Try.f24 R) (fun e w h => kcast (by kernel_rfl) h) (argsE #[h0, key1]) w (kcast (by kernel_rfl) h))
/-! ### (*headgate/heavy.Heavy).light -/
def m25_2 (R : Value → World → Prop) (t2 : Value) (w : World) : Prop :=
  R t2 w
def m25_1 (R : Value → World → Prop) (h0 : Value) (w : World) : Prop :=
  nilCheckP h0 fun t4 =>
  valP Try.prog (Instr.fieldAt 52 t4 2) w fun t5 w =>
  valP Try.prog (Instr.loadAt 28 t5) w fun t6 w =>
  callP Try.prog (fnV 35) #[t6, (fnV 36)] w fun t7 w =>
  m25_2 R t7 w
def m25_0 (R : Value → World → Prop) (h0 : Value) (w : World) : Prop :=
  m25_1 R h0 w
abbrev W25 := cwp Try.prog (fun i => 0)
noncomputable def k25_0 : Code := (bodyOf Try.f25)
noncomputable def k25_1 : Code := (c2 k25_0)
noncomputable def k25_2 : Code := (c2 k25_1)
theorem s25_2 {R : Value → World → Prop} {Q : Exit → Env → World → Prop} (hR : ∀ e w, (R (e 2) w) → Q .ret e w) (e : Env) (w : World) (h : m25_2 R (e 2) w) : W25 k25_2 Q e w := by
  unfold m25_2 at h
  exact ret_ok (by kernel_rfl) (hR _ _ h)
theorem s25_1 {R : Value → World → Prop} {Q : Exit → Env → World → Prop} (hR : ∀ e w, (R (e 2) w) → Q .ret e w) (e : Env) (w : World) (h : m25_1 R (e 0) w) : W25 k25_1 Q e w := by
  unfold m25_1 at h
  refine seq_ok' (by kernel_rfl) ?_
  have hN' : ∀ e w, (m25_2 R (e 2) w) → (thenE (W25 k25_2 Q) Q) .normal e w := fun e w h => then_N (s25_2 (R := R) (Q := Q) hR e w h)
  have hN := hN'
  exact region_ok 1 (fun e w => m25_2 R (e 2) w) (by kernel_rfl) (kcast (by kernel_rfl) h) hN (by kernel_rfl)
theorem s25_0 {R : Value → World → Prop} {Q : Exit → Env → World → Prop} (hR : ∀ e w, (R (e 2) w) → Q .ret e w) (e : Env) (w : World) (h : m25_0 R (e 0) w) : W25 k25_0 Q e w := by
  unfold m25_0 at h
  refine seq_ok' (by kernel_rfl) ?_
  have hN' : ∀ e w, (m25_1 R (e 0) w) → (thenE (W25 k25_1 Q) Q) .normal e w := fun e w h => then_N (s25_1 (R := R) (Q := Q) hR e w h)
  have hN := hN'
  exact region_ok 0 (fun e w => m25_1 R (e 0) w) (by kernel_rfl) (kcast (by kernel_rfl) h) hN (by kernel_rfl)
abbrev m25 (R : Value → World → Prop) (h0 : Value) (w : World) : Prop := m25_0 R h0 w
theorem s25 (h0 : Value) {R : Value → World → Prop} {w : World} (h : m25 R h0 w) :
    Calls Try.prog 25 #[h0] w fun e w' => ∃ v, e = .returned v ∧ R v w' :=
  calls_of_cwp (st := (fun i => 0)) (c := k25_0) (by kernel_rfl) Try.func25 (by kernel_rfl) (Nat.le_of_ble_eq_true (by kernel_rfl)) (by kernel_rfl)
    (s25_0 (R := R) (Q := endE Try.prog Try.f25 R) (fun e w h => kcast (by kernel_rfl) h) (argsE #[h0]) w (kcast (by kernel_rfl) h))
/-! ### slices.Clone[[]headgate/api.Tally,headgate/api.Tally] -/
def m28_5 (R : Value → World → Prop) (t2 : Value) (w : World) : Prop :=
  R t2 w
def m28_3 (R : Value → World → Prop) (t2 : Value) (w : World) : Prop :=
  R t2 w
def m28_2 (R : Value → World → Prop) (s0 : Value) (w : World) : Prop :=
  valP Try.prog (Instr.buildSlice 28 0 #[]) w fun t5 w =>
  builtinP Try.prog Builtin.append #[28, 28] 28 #[false, false] #[t5, s0] w fun t7 w =>
  m28_3 R t7 w
def m28_4 (R : Value → World → Prop) (s0 : Value) (t4 : Value) (w : World) : Prop :=
  condP t4
  (m28_5 R (Value.slice none 0 0) w)
  (m28_2 R s0 w)
def m28_1 (R : Value → World → Prop) (s0 : Value) (w : World) : Prop :=
  valP Try.prog (binS BinOp.eql 28 (Operand.tmp 3) (Operand.const (Value.slice none 0 0)) s0 (Value.slice none 0 0)) w fun t4 w =>
  m28_4 R s0 t4 w
def m28_0 (R : Value → World → Prop) (s0 : Value) (w : World) : Prop :=
  m28_1 R s0 w
abbrev W28 := cwp Try.prog (fun i => 0)
noncomputable def k28_0 : Code := (bodyOf Try.f28)
noncomputable def k28_1 : Code := (c2 k28_0)
noncomputable def k28_2 : Code := (c2 k28_1)
noncomputable def k28_3 : Code := (c2 k28_2)
noncomputable def k28_4 : Code := (c2 (c1 k28_1))
noncomputable def k28_5 : Code := (c2 (c1 k28_4))
theorem s28_5 {R : Value → World → Prop} {Q : Exit → Env → World → Prop} (hR : ∀ e w, (R (e 2) w) → Q .ret e w) (e : Env) (w : World) (h : m28_5 R (e 2) w) : W28 k28_5 Q e w := by
  unfold m28_5 at h
  exact ret_ok (by kernel_rfl) (hR _ _ h)
theorem s28_3 {R : Value → World → Prop} {Q : Exit → Env → World → Prop} (hR : ∀ e w, (R (e 2) w) → Q .ret e w) (e : Env) (w : World) (h : m28_3 R (e 2) w) : W28 k28_3 Q e w := by
  unfold m28_3 at h
  exact ret_ok (by kernel_rfl) (hR _ _ h)
theorem s28_2 {R : Value → World → Prop} {Q : Exit → Env → World → Prop} (hR : ∀ e w, (R (e 2) w) → Q .ret e w) (e : Env) (w : World) (h : m28_2 R (e 0) w) : W28 k28_2 Q e w := by
  unfold m28_2 at h
  refine seq_ok' (by kernel_rfl) ?_
  have hN' : ∀ e w, (m28_3 R (e 2) w) → (thenE (W28 k28_3 Q) Q) .normal e w := fun e w h => then_N (s28_3 (R := R) (Q := Q) hR e w h)
  have hN := hN'
  exact region_ok 3 (fun e w => m28_3 R (e 2) w) (by kernel_rfl) (kcast (by kernel_rfl) h) hN (by kernel_rfl)
theorem s28_4 {R : Value → World → Prop} {Q : Exit → Env → World → Prop} (hN : ∀ e w, (m28_2 R (e 0) w) → Q .normal e w) (hR : ∀ e w, (R (e 2) w) → Q .ret e w) (e : Env) (w : World) (h : m28_4 R (e 0) (e 4) w) : W28 k28_4 Q e w := by
  unfold m28_4 at h
  refine cond_ok (Operand.tmp 4) (by kernel_rfl) h (fun h1 => ?_) (fun h1 => ?_)
  · refine seq_ok' (by kernel_rfl) ?_
    have hN' : ∀ e w, (m28_5 R (e 2) w) → (thenE (W28 k28_5 Q) Q) .normal e w := fun e w h => then_N (s28_5 (R := R) (Q := Q) hR e w h)
    have hN := hN'
    exact region_ok 2 (fun e w => m28_5 R (e 2) w) (by kernel_rfl) (kcast (by kernel_rfl) h1) hN (by kernel_rfl)
  · exact skip_ok (by kernel_rfl) (hN _ _ h1)
theorem s28_1 {R : Value → World → Prop} {Q : Exit → Env → World → Prop} (hR : ∀ e w, (R (e 2) w) → Q .ret e w) (e : Env) (w : World) (h : m28_1 R (e 0) w) : W28 k28_1 Q e w := by
  unfold m28_1 at h
  refine seq_ok' (by kernel_rfl) ?_
  have hN' : ∀ e w, (m28_2 R (e 0) w) → (thenE (W28 k28_2 Q) Q) .normal e w := fun e w h => then_N (s28_2 (R := R) (Q := Q) hR e w h)
  have hR : ∀ e w, (R (e 2) w) → (thenE (W28 k28_2 Q) Q) .ret e w := fun e w h => then_R (hR e w h)
  have hN := hN'
  refine seq_ok' (by kernel_rfl) ?_
  have hN' : ∀ e w, (m28_4 R (e 0) (e 4) w) → (thenE (W28 k28_4 (thenE (W28 k28_2 Q) Q)) (thenE (W28 k28_2 Q) Q)) .normal e w := fun e w h => then_N (s28_4 (R := R) (Q := (thenE (W28 k28_2 Q) Q)) hN hR e w h)
  have hN := hN'
  exact region_ok 1 (fun e w => m28_4 R (e 0) (e 4) w) (by kernel_rfl) (kcast (by kernel_rfl) h) hN (by kernel_rfl)
theorem s28_0 {R : Value → World → Prop} {Q : Exit → Env → World → Prop} (hR : ∀ e w, (R (e 2) w) → Q .ret e w) (e : Env) (w : World) (h : m28_0 R (e 0) w) : W28 k28_0 Q e w := by
  unfold m28_0 at h
  refine seq_ok' (by kernel_rfl) ?_
  have hN' : ∀ e w, (m28_1 R (e 0) w) → (thenE (W28 k28_1 Q) Q) .normal e w := fun e w h => then_N (s28_1 (R := R) (Q := Q) hR e w h)
  have hN := hN'
  exact region_ok 0 (fun e w => m28_1 R (e 0) w) (by kernel_rfl) (kcast (by kernel_rfl) h) hN (by kernel_rfl)
abbrev m28 (R : Value → World → Prop) (s0 : Value) (w : World) : Prop := m28_0 R s0 w
theorem s28 (s0 : Value) {R : Value → World → Prop} {w : World} (h : m28 R s0 w) :
    Calls Try.prog 28 #[s0] w fun e w' => ∃ v, e = .returned v ∧ R v w' :=
  calls_of_cwp (st := (fun i => 0)) (c := k28_0) (by kernel_rfl) Try.func28 (by kernel_rfl) (Nat.le_of_ble_eq_true (by kernel_rfl)) (by kernel_rfl)
    (s28_0 (R := R) (Q := endE Try.prog Try.f28 R) (fun e w h => kcast (by kernel_rfl) h) (argsE #[s0]) w (kcast (by kernel_rfl) h))
/-! ### (*headgate/heavy.Heavy).Top$1 -/
def m30_2 (R : Value → World → Prop) (t4 : Value) (w : World) : Prop :=
  R t4 w
def m30_1 (R : Value → World → Prop) (a2 : Value) (b3 : Value) (w : World) : Prop :=
  anyDraw w fun w =>
  valS Try.prog (Instr.fieldAt 45 b3 1) w fun t5 =>
  valS Try.prog (Instr.loadAt 3 t5) w fun t6 =>
  valS Try.prog (Instr.fieldAt 45 a2 1) w fun t7 =>
  valS Try.prog (Instr.loadAt 3 t7) w fun t8 =>
  callS Try.prog (fnV 32) #[t6, t8] w fun t9 =>
  valS Try.prog (Instr.fieldAt 45 a2 0) w fun t10 =>
  valS Try.prog (Instr.loadAt 3 t10) w fun t11 =>
  valS Try.prog (Instr.fieldAt 45 b3 0) w fun t12 =>
  valS Try.prog (Instr.loadAt 3 t12) w fun t13 =>
  callS Try.prog (fnV 32) #[t11, t13] w fun t14 =>
  valP Try.prog (Instr.buildSlice 22 2 #[(0, t9), (1, t14)]) w fun t15 w =>
  callP Try.prog (fnV 31) #[t15] w fun t16 w =>
  m30_2 R t16 w
def m30_0 (R : Value → World → Prop) (a0 : Value) (b1 : Value) (w : World) : Prop :=
  valP Try.prog (Instr.box 45 a0) w fun a2 w =>
  valP Try.prog (Instr.box 45 b1) w fun b3 w =>
  m30_1 R a2 b3 w
abbrev W30 := cwp Try.prog (fun i => cond (Nat.beq i 1) 12 (0))
noncomputable def k30_0 : Code := (bodyOf Try.f30)
noncomputable def k30_1 : Code := (c2 k30_0)
noncomputable def k30_2 : Code := (c2 k30_1)
theorem s30_2 {R : Value → World → Prop} {Q : Exit → Env → World → Prop} (hR : ∀ e w, (R (e 4) w) → Q .ret e w) (e : Env) (w : World) (h : m30_2 R (e 4) w) : W30 k30_2 Q e w := by
  unfold m30_2 at h
  exact ret_ok (by kernel_rfl) (hR _ _ h)
theorem s30_1 {R : Value → World → Prop} {Q : Exit → Env → World → Prop} (hR : ∀ e w, (R (e 4) w) → Q .ret e w) (e : Env) (w : World) (h : m30_1 R (e 2) (e 3) w) : W30 k30_1 Q e w := by
  unfold m30_1 at h
  refine seq_ok' (by kernel_rfl) ?_
  have hN' : ∀ e w, (m30_2 R (e 4) w) → (thenE (W30 k30_2 Q) Q) .normal e w := fun e w h => then_N (s30_2 (R := R) (Q := Q) hR e w h)
  have hN := hN'
  exact tail_ok 1 10 (fun e w => m30_2 R (e 4) w) (by kernel_rfl) (by kernel_rfl) (by kernel_rfl) (kcast (by kernel_rfl) h) hN (by kernel_rfl)
theorem s30_0 {R : Value → World → Prop} {Q : Exit → Env → World → Prop} (hR : ∀ e w, (R (e 4) w) → Q .ret e w) (e : Env) (w : World) (h : m30_0 R (e 0) (e 1) w) : W30 k30_0 Q e w := by
  unfold m30_0 at h
  refine seq_ok' (by kernel_rfl) ?_
  have hN' : ∀ e w, (m30_1 R (e 2) (e 3) w) → (thenE (W30 k30_1 Q) Q) .normal e w := fun e w h => then_N (s30_1 (R := R) (Q := Q) hR e w h)
  have hN := hN'
  exact region_ok 0 (fun e w => m30_1 R (e 2) (e 3) w) (by kernel_rfl) (kcast (by kernel_rfl) h) hN (by kernel_rfl)
abbrev m30 (R : Value → World → Prop) (a0 : Value) (b1 : Value) (w : World) : Prop := m30_0 R a0 b1 w
theorem s30 (a0 : Value) (b1 : Value) {R : Value → World → Prop} {w : World} (h : m30 R a0 b1 w) :
    Calls Try.prog 30 #[a0, b1] w fun e w' => ∃ v, e = .returned v ∧ R v w' :=
  calls_of_cwp (st := (fun i => cond (Nat.beq i 1) 12 (0))) (c := k30_0) (by kernel_rfl) Try.func30 (by kernel_rfl) (Nat.le_of_ble_eq_true (by kernel_rfl)) (by kernel_rfl)
    (s30_0 (R := R) (Q := endE Try.prog Try.f30 R) (fun e w h => kcast (by kernel_rfl) h) (argsE #[a0, b1]) w (kcast (by kernel_rfl) h))
/-! ### cmp.Or[int] -/
def m31_12 (R : Value → World → Prop) (K1 : Value → World → Prop) (t2 : Value) (w : World) : Prop :=
  R t2 w
def m31_9 (R : Value → World → Prop) (K1 : Value → World → Prop) (zero3 : Value) (t6 : Value) (t7 : Value) (t8 : Value) (w : World) : Prop :=
  valP Try.prog (binS BinOp.add 3 (Operand.tmp 8) (Operand.const (Value.int IntKind.i64 1)) t8 (Value.int IntKind.i64 1)) w fun t16 w =>
  K1 t16 w
def m31_11 (R : Value → World → Prop) (K1 : Value → World → Prop) (zero3 : Value) (val5 : Value) (t6 : Value) (t7 : Value) (t8 : Value) (t14 : Value) (w : World) : Prop :=
  condP t14
  (m31_12 R K1 val5 w)
  (m31_9 R K1 zero3 t6 t7 t8 w)
def m31_10 (R : Value → World → Prop) (K1 : Value → World → Prop) (zero3 : Value) (val5 : Value) (t6 : Value) (t7 : Value) (t8 : Value) (w : World) : Prop :=
  valP Try.prog (binS BinOp.neq 3 (Operand.tmp 12) (Operand.tmp 13) val5 zero3) w fun t14 w =>
  m31_11 R K1 zero3 val5 t6 t7 t8 t14 w
def m31_8 (R : Value → World → Prop) (K1 : Value → World → Prop) (zero3 : Value) (t6 : Value) (t7 : Value) (t8 : Value) (w : World) : Prop :=
  valP Try.prog (Instr.indexAt 22 t6 t8) w fun t10 w =>
  valP Try.prog (Instr.loadAt 3 t10) w fun t11 w =>
  m31_10 R K1 zero3 t11 t6 t7 t8 w
def m31_4 (R : Value → World → Prop) (t2 : Value) (w : World) : Prop :=
  R t2 w
def m31_3 (R : Value → World → Prop) (zero3 : Value) (w : World) : Prop :=
  m31_4 R zero3 w
def m31_7 (R : Value → World → Prop) (K1 : Value → World → Prop) (zero3 : Value) (t6 : Value) (t7 : Value) (t8 : Value) (t9 : Value) (w : World) : Prop :=
  condP t9
  (m31_8 R K1 zero3 t6 t7 t8 w)
  (m31_3 R zero3 w)
def m31_6 (R : Value → World → Prop) (K1 : Value → World → Prop) (zero3 : Value) (t6 : Value) (t7 : Value) (t8 : Value) (w : World) : Prop :=
  valP Try.prog (binS BinOp.lss 3 (Operand.tmp 8) (Operand.tmp 7) t8 t7) w fun t9 w =>
  m31_7 R K1 zero3 t6 t7 t8 t9 w
def m31_5 (R : Value → World → Prop) (zero3 : Value) (t6 : Value) (t7 : Value) (t8 : Value) (w : World) : Prop :=
  loopP (fun (K1 : Value → World → Prop) (s : Value) w => m31_6 R K1 zero3 t6 t7 s w) t8 w
def m31_2 (R : Value → World → Prop) (vals0 : Value) (zero3 : Value) (w : World) : Prop :=
  builtinP Try.prog Builtin.len #[22] 3 #[false] #[vals0] w fun t7 w =>
  m31_5 R zero3 vals0 t7 (Value.int IntKind.i64 0) w
def m31_1 (R : Value → World → Prop) (vals0 : Value) (w : World) : Prop :=
  m31_2 R vals0 (Value.int IntKind.i64 0) w
def m31_0 (R : Value → World → Prop) (vals0 : Value) (w : World) : Prop :=
  m31_1 R vals0 w
abbrev W31 := cwp Try.prog (fun i => 0)
noncomputable def k31_0 : Code := (bodyOf Try.f31)
noncomputable def k31_1 : Code := (c2 k31_0)
noncomputable def k31_2 : Code := (c2 k31_1)
noncomputable def k31_3 : Code := (c2 k31_2)
noncomputable def k31_4 : Code := (c2 k31_3)
noncomputable def k31_5 : Code := (c2 (c1 k31_2))
noncomputable def k31_6 : Code := (c1 (c1 k31_5))
noncomputable def k31_7 : Code := (c2 k31_6)
noncomputable def k31_8 : Code := (c2 k31_7)
noncomputable def k31_9 : Code := (c2 k31_8)
noncomputable def k31_10 : Code := (c2 (c1 (c1 k31_8)))
noncomputable def k31_11 : Code := (c2 k31_10)
noncomputable def k31_12 : Code := (c2 (c1 k31_11))
theorem s31_12 {R : Value → World → Prop} {K1 : Value → World → Prop} {Q : Exit → Env → World → Prop} (hR : ∀ e w, (R (e 2) w) → Q .ret e w) (e : Env) (w : World) (h : m31_12 R K1 (e 2) w) : W31 k31_12 Q e w := by
  unfold m31_12 at h
  exact ret_ok (by kernel_rfl) (hR _ _ h)
theorem s31_9 {R : Value → World → Prop} {K1 : Value → World → Prop} {Q : Exit → Env → World → Prop} (hN : ∀ e w, (K1 (e 8) w) → Q .normal e w) (e : Env) (w : World) (h : m31_9 R K1 (e 3) (e 6) (e 7) (e 8) w) : W31 k31_9 Q e w := by
  unfold m31_9 at h
  exact region_ok 7 (fun e w => K1 (e 8) w) (by kernel_rfl) (kcast (by kernel_rfl) h) hN (by kernel_rfl)
theorem s31_11 {R : Value → World → Prop} {K1 : Value → World → Prop} {Q : Exit → Env → World → Prop} (hN : ∀ e w, (m31_9 R K1 (e 3) (e 6) (e 7) (e 8) w) → Q .normal e w) (hR : ∀ e w, (R (e 2) w) → Q .ret e w) (e : Env) (w : World) (h : m31_11 R K1 (e 3) (e 5) (e 6) (e 7) (e 8) (e 14) w) : W31 k31_11 Q e w := by
  unfold m31_11 at h
  refine cond_ok (Operand.tmp 14) (by kernel_rfl) h (fun h1 => ?_) (fun h1 => ?_)
  · refine seq_ok' (by kernel_rfl) ?_
    have hN' : ∀ e w, (m31_12 R K1 (e 2) w) → (thenE (W31 k31_12 Q) Q) .normal e w := fun e w h => then_N (s31_12 (R := R) (Q := Q) (K1 := K1) hR e w h)
    have hN := hN'
    exact region_ok 6 (fun e w => m31_12 R K1 (e 2) w) (by kernel_rfl) (kcast (by kernel_rfl) h1) hN (by kernel_rfl)
  · exact skip_ok (by kernel_rfl) (hN _ _ h1)
theorem s31_10 {R : Value → World → Prop} {K1 : Value → World → Prop} {Q : Exit → Env → World → Prop} (hN : ∀ e w, (m31_9 R K1 (e 3) (e 6) (e 7) (e 8) w) → Q .normal e w) (hR : ∀ e w, (R (e 2) w) → Q .ret e w) (e : Env) (w : World) (h : m31_10 R K1 (e 3) (e 5) (e 6) (e 7) (e 8) w) : W31 k31_10 Q e w := by
  unfold m31_10 at h
  refine seq_ok' (by kernel_rfl) ?_
  have hN' : ∀ e w, (m31_11 R K1 (e 3) (e 5) (e 6) (e 7) (e 8) (e 14) w) → (thenE (W31 k31_11 Q) Q) .normal e w := fun e w h => then_N (s31_11 (R := R) (Q := Q) (K1 := K1) hN hR e w h)
  have hN := hN'
  exact region_ok 5 (fun e w => m31_11 R K1 (e 3) (e 5) (e 6) (e 7) (e 8) (e 14) w) (by kernel_rfl) (kcast (by kernel_rfl) h) hN (by kernel_rfl)
theorem s31_8 {R : Value → World → Prop} {K1 : Value → World → Prop} {Q : Exit → Env → World → Prop} (hN : ∀ e w, (K1 (e 8) w) → Q .normal e w) (hR : ∀ e w, (R (e 2) w) → Q .ret e w) (e : Env) (w : World) (h : m31_8 R K1 (e 3) (e 6) (e 7) (e 8) w) : W31 k31_8 Q e w := by
  unfold m31_8 at h
  refine seq_ok' (by kernel_rfl) ?_
  have hN' : ∀ e w, (m31_9 R K1 (e 3) (e 6) (e 7) (e 8) w) → (thenE (W31 k31_9 Q) Q) .normal e w := fun e w h => then_N (s31_9 (R := R) (Q := Q) (K1 := K1) hN e w h)
  have hR : ∀ e w, (R (e 2) w) → (thenE (W31 k31_9 Q) Q) .ret e w := fun e w h => then_R (hR e w h)
  have hN := hN'
  refine block_ok 1 (by kernel_rfl) ?_
  have hN : ∀ e w, (m31_9 R K1 (e 3) (e 6) (e 7) (e 8) w) → (inBlockE 1 (thenE (W31 k31_9 Q) Q)) .normal e w := fun e w h => block_N (hN e w h)
  have hR : ∀ e w, (R (e 2) w) → (inBlockE 1 (thenE (W31 k31_9 Q) Q)) .ret e w := fun e w h => block_R (hR e w h)
  refine seq_ok' (by kernel_rfl) ?_
  have hN' : ∀ e w, (m31_10 R K1 (e 3) (e 5) (e 6) (e 7) (e 8) w) → (thenE (W31 k31_10 (inBlockE 1 (thenE (W31 k31_9 Q) Q))) (inBlockE 1 (thenE (W31 k31_9 Q) Q))) .normal e w := fun e w h => then_N (s31_10 (R := R) (Q := (inBlockE 1 (thenE (W31 k31_9 Q) Q))) (K1 := K1) hN hR e w h)
  have hN := hN'
  exact region_ok 4 (fun e w => m31_10 R K1 (e 3) (e 5) (e 6) (e 7) (e 8) w) (by kernel_rfl) (kcast (by kernel_rfl) h) hN (by kernel_rfl)
theorem s31_4 {R : Value → World → Prop} {Q : Exit → Env → World → Prop} (hR : ∀ e w, (R (e 2) w) → Q .ret e w) (e : Env) (w : World) (h : m31_4 R (e 2) w) : W31 k31_4 Q e w := by
  unfold m31_4 at h
  exact ret_ok (by kernel_rfl) (hR _ _ h)
theorem s31_3 {R : Value → World → Prop} {Q : Exit → Env → World → Prop} (hR : ∀ e w, (R (e 2) w) → Q .ret e w) (e : Env) (w : World) (h : m31_3 R (e 3) w) : W31 k31_3 Q e w := by
  unfold m31_3 at h
  refine seq_ok' (by kernel_rfl) ?_
  have hN' : ∀ e w, (m31_4 R (e 2) w) → (thenE (W31 k31_4 Q) Q) .normal e w := fun e w h => then_N (s31_4 (R := R) (Q := Q) hR e w h)
  have hN := hN'
  exact region_ok 8 (fun e w => m31_4 R (e 2) w) (by kernel_rfl) (kcast (by kernel_rfl) h) hN (by kernel_rfl)
theorem s31_7 {R : Value → World → Prop} {K1 : Value → World → Prop} {Q : Exit → Env → World → Prop} (hN : ∀ e w, (K1 (e 8) w) → Q .normal e w) (hR : ∀ e w, (R (e 2) w) → Q .ret e w) (hX0 : ∀ e w, (m31_3 R (e 3) w) → Q (.exit 0) e w) (e : Env) (w : World) (h : m31_7 R K1 (e 3) (e 6) (e 7) (e 8) (e 9) w) : W31 k31_7 Q e w := by
  unfold m31_7 at h
  refine seq_ok' (by kernel_rfl) ?_
  have hN' : ∀ e w, (m31_8 R K1 (e 3) (e 6) (e 7) (e 8) w) → (thenE (W31 k31_8 Q) Q) .normal e w := fun e w h => then_N (s31_8 (R := R) (Q := Q) (K1 := K1) hN hR e w h)
  have hX0 : ∀ e w, (m31_3 R (e 3) w) → (thenE (W31 k31_8 Q) Q) (.exit 0) e w := fun e w h => then_X (hX0 e w h)
  have hN := hN'
  refine cond_ok (Operand.tmp 9) (by kernel_rfl) h (fun h1 => ?_) (fun h1 => ?_)
  · exact skip_ok (by kernel_rfl) (hN _ _ h1)
  · exact exit_ok 0 (by kernel_rfl) (hX0 _ _ h1)
theorem s31_6 {R : Value → World → Prop} {K1 : Value → World → Prop} {Q : Exit → Env → World → Prop} (hN : ∀ e w, (K1 (e 8) w) → Q .normal e w) (hR : ∀ e w, (R (e 2) w) → Q .ret e w) (hX0 : ∀ e w, (m31_3 R (e 3) w) → Q (.exit 0) e w) (e : Env) (w : World) (h : m31_6 R K1 (e 3) (e 6) (e 7) (e 8) w) : W31 k31_6 Q e w := by
  unfold m31_6 at h
  refine seq_ok' (by kernel_rfl) ?_
  have hN' : ∀ e w, (m31_7 R K1 (e 3) (e 6) (e 7) (e 8) (e 9) w) → (thenE (W31 k31_7 Q) Q) .normal e w := fun e w h => then_N (s31_7 (R := R) (Q := Q) (K1 := K1) hN hR hX0 e w h)
  have hN := hN'
  exact region_ok 3 (fun e w => m31_7 R K1 (e 3) (e 6) (e 7) (e 8) (e 9) w) (by kernel_rfl) (kcast (by kernel_rfl) h) hN (by kernel_rfl)
theorem s31_5 {R : Value → World → Prop} {Q : Exit → Env → World → Prop} (hN : ∀ e w, (m31_3 R (e 3) w) → Q .normal e w) (hR : ∀ e w, (R (e 2) w) → Q .ret e w) (e : Env) (w : World) (h : m31_5 R (e 3) (e 6) (e 7) (e 8) w) : W31 k31_5 Q e w := by
  unfold m31_5 at h
  refine block_ok 0 (by kernel_rfl) ?_
  have hX0 : ∀ e w, (m31_3 R (e 3) w) → (inBlockE 0 Q) (.exit 0) e w := fun e w h => inBlock_same (Q := Q) 0 (hN e w h)
  have hR : ∀ e w, (R (e 2) w) → (inBlockE 0 Q) .ret e w := fun e w h => block_R (hR e w h)
  refine loop_ok' (fun (e : Env) => e 8) [3, 6, 7] (by kernel_rfl) (by kernel_rfl) h (fun K e' w' hk h' => ?_)
  have r3 : e' 3 = e 3 := hk 3 (by decide)
  have r6 : e' 6 = e 6 := hk 6 (by decide)
  have r7 : e' 7 = e 7 := hk 7 (by decide)
  have hR : ∀ e w, (R (e 2) w) → (thenE (fun (e : Env) w => K (e 8) w) (inBlockE 0 Q)) .ret e w := fun e w h => then_R (hR e w h)
  have hX0 : ∀ e w, (m31_3 R (e 3) w) → (thenE (fun (e : Env) w => K (e 8) w) (inBlockE 0 Q)) (.exit 0) e w := fun e w h => then_X (hX0 e w h)
  exact s31_6 (R := R) (Q := (thenE (fun (e : Env) w => K (e 8) w) (inBlockE 0 Q))) (K1 := K) (fun _ _ h => then_N h) hR hX0 e' w' (by rw [r3, r6, r7]; exact h')
theorem s31_2 {R : Value → World → Prop} {Q : Exit → Env → World → Prop} (hR : ∀ e w, (R (e 2) w) → Q .ret e w) (e : Env) (w : World) (h : m31_2 R (e 0) (e 3) w) : W31 k31_2 Q e w := by
  unfold m31_2 at h
  refine seq_ok' (by kernel_rfl) ?_
  have hN' : ∀ e w, (m31_3 R (e 3) w) → (thenE (W31 k31_3 Q) Q) .normal e w := fun e w h => then_N (s31_3 (R := R) (Q := Q) hR e w h)
  have hR : ∀ e w, (R (e 2) w) → (thenE (W31 k31_3 Q) Q) .ret e w := fun e w h => then_R (hR e w h)
  have hN := hN'
  refine seq_ok' (by kernel_rfl) ?_
  have hN' : ∀ e w, (m31_5 R (e 3) (e 6) (e 7) (e 8) w) → (thenE (W31 k31_5 (thenE (W31 k31_3 Q) Q)) (thenE (W31 k31_3 Q) Q)) .normal e w := fun e w h => then_N (s31_5 (R := R) (Q := (thenE (W31 k31_3 Q) Q)) hN hR e w h)
  have hN := hN'
  exact region_ok 2 (fun e w => m31_5 R (e 3) (e 6) (e 7) (e 8) w) (by kernel_rfl) (kcast (by kernel_rfl) h) hN (by kernel_rfl)
theorem s31_1 {R : Value → World → Prop} {Q : Exit → Env → World → Prop} (hR : ∀ e w, (R (e 2) w) → Q .ret e w) (e : Env) (w : World) (h : m31_1 R (e 0) w) : W31 k31_1 Q e w := by
  unfold m31_1 at h
  refine seq_ok' (by kernel_rfl) ?_
  have hN' : ∀ e w, (m31_2 R (e 0) (e 3) w) → (thenE (W31 k31_2 Q) Q) .normal e w := fun e w h => then_N (s31_2 (R := R) (Q := Q) hR e w h)
  have hN := hN'
  exact region_ok 1 (fun e w => m31_2 R (e 0) (e 3) w) (by kernel_rfl) (kcast (by kernel_rfl) h) hN (by kernel_rfl)
theorem s31_0 {R : Value → World → Prop} {Q : Exit → Env → World → Prop} (hR : ∀ e w, (R (e 2) w) → Q .ret e w) (e : Env) (w : World) (h : m31_0 R (e 0) w) : W31 k31_0 Q e w := by
  unfold m31_0 at h
  refine seq_ok' (by kernel_rfl) ?_
  have hN' : ∀ e w, (m31_1 R (e 0) w) → (thenE (W31 k31_1 Q) Q) .normal e w := fun e w h => then_N (s31_1 (R := R) (Q := Q) hR e w h)
  have hN := hN'
  exact region_ok 0 (fun e w => m31_1 R (e 0) w) (by kernel_rfl) (kcast (by kernel_rfl) h) hN (by kernel_rfl)
abbrev m31 (R : Value → World → Prop) (vals0 : Value) (w : World) : Prop := m31_0 R vals0 w
theorem s31 (vals0 : Value) {R : Value → World → Prop} {w : World} (h : m31 R vals0 w) :
    Calls Try.prog 31 #[vals0] w fun e w' => ∃ v, e = .returned v ∧ R v w' :=
  calls_of_cwp (st := (fun i => 0)) (c := k31_0) (by kernel_rfl) Try.func31 (by kernel_rfl) (Nat.le_of_ble_eq_true (by kernel_rfl)) (by kernel_rfl)
    (s31_0 (R := R) (Q := endE Try.prog Try.f31 R) (fun e w h => kcast (by kernel_rfl) h) (argsE #[vals0]) w (kcast (by kernel_rfl) h))
/-! ### cmp.Compare[int] -/
def m32_19 (R : Value → World → Prop) (t4 : Value) (w : World) : Prop :=
  R t4 w
def m32_17 (R : Value → World → Prop) (t4 : Value) (w : World) : Prop :=
  R t4 w
def m32_16 (R : Value → World → Prop) (w : World) : Prop :=
  m32_17 R (Value.int IntKind.i64 (-1)) w
def m32_18 (R : Value → World → Prop) (t12 : Value) (w : World) : Prop :=
  condP t12
  (m32_19 R (Value.int IntKind.i64 0) w)
  (m32_16 R w)
def m32_14 (R : Value → World → Prop) (t4 : Value) (w : World) : Prop :=
  R t4 w
def m32_12 (R : Value → World → Prop) (t4 : Value) (w : World) : Prop :=
  R t4 w
def m32_10 (R : Value → World → Prop) (t4 : Value) (w : World) : Prop :=
  R t4 w
def m32_8 (R : Value → World → Prop) (t4 : Value) (w : World) : Prop :=
  R t4 w
def m32_7 (R : Value → World → Prop) (w : World) : Prop :=
  m32_8 R (Value.int IntKind.i64 0) w
def m32_9 (R : Value → World → Prop) (t19 : Value) (w : World) : Prop :=
  condP t19
  (m32_10 R (Value.int IntKind.i64 1) w)
  (m32_7 R w)
def m32_6 (R : Value → World → Prop) (x0 : Value) (y1 : Value) (w : World) : Prop :=
  valP Try.prog (binS BinOp.gtr 3 (Operand.tmp 17) (Operand.tmp 18) x0 y1) w fun t19 w =>
  m32_9 R t19 w
def m32_11 (R : Value → World → Prop) (x0 : Value) (y1 : Value) (t16 : Value) (w : World) : Prop :=
  condP t16
  (m32_12 R (Value.int IntKind.i64 (-1)) w)
  (m32_6 R x0 y1 w)
def m32_5 (R : Value → World → Prop) (x0 : Value) (y1 : Value) (w : World) : Prop :=
  valP Try.prog (binS BinOp.lss 3 (Operand.tmp 14) (Operand.tmp 15) x0 y1) w fun t16 w =>
  m32_11 R x0 y1 t16 w
def m32_13 (R : Value → World → Prop) (x0 : Value) (y1 : Value) (t13 : Value) (w : World) : Prop :=
  condP t13
  (m32_14 R (Value.int IntKind.i64 1) w)
  (m32_5 R x0 y1 w)
def m32_4 (R : Value → World → Prop) (x0 : Value) (y1 : Value) (yNaN6 : Value) (w : World) : Prop :=
  m32_13 R x0 y1 yNaN6 w
def m32_15 (R : Value → World → Prop) (x0 : Value) (y1 : Value) (yNaN6 : Value) (t11 : Value) (w : World) : Prop :=
  condP t11
  (m32_18 R yNaN6 w)
  (m32_4 R x0 y1 yNaN6 w)
def m32_3 (R : Value → World → Prop) (x0 : Value) (y1 : Value) (xNaN5 : Value) (yNaN6 : Value) (w : World) : Prop :=
  m32_15 R x0 y1 yNaN6 xNaN5 w
def m32_2 (R : Value → World → Prop) (x0 : Value) (y1 : Value) (xNaN5 : Value) (w : World) : Prop :=
  callP Try.prog (fnV 39) #[y1] w fun t10 w =>
  m32_3 R x0 y1 xNaN5 t10 w
def m32_1 (R : Value → World → Prop) (x0 : Value) (y1 : Value) (w : World) : Prop :=
  callP Try.prog (fnV 39) #[x0] w fun t8 w =>
  m32_2 R x0 y1 t8 w
def m32_0 (R : Value → World → Prop) (x0 : Value) (y1 : Value) (w : World) : Prop :=
  m32_1 R x0 y1 w
abbrev W32 := cwp Try.prog (fun i => 0)
noncomputable def k32_0 : Code := (bodyOf Try.f32)
noncomputable def k32_1 : Code := (c2 k32_0)
noncomputable def k32_2 : Code := (c2 k32_1)
noncomputable def k32_3 : Code := (c2 k32_2)
noncomputable def k32_4 : Code := (c2 k32_3)
noncomputable def k32_5 : Code := (c2 k32_4)
noncomputable def k32_6 : Code := (c2 k32_5)
noncomputable def k32_7 : Code := (c2 k32_6)
noncomputable def k32_8 : Code := (c2 k32_7)
noncomputable def k32_9 : Code := (c2 (c1 k32_6))
noncomputable def k32_10 : Code := (c2 (c1 k32_9))
noncomputable def k32_11 : Code := (c2 (c1 k32_5))
noncomputable def k32_12 : Code := (c2 (c1 k32_11))
noncomputable def k32_13 : Code := (c2 (c1 k32_4))
noncomputable def k32_14 : Code := (c2 (c1 k32_13))
noncomputable def k32_15 : Code := (c2 (c1 k32_3))
noncomputable def k32_16 : Code := (c2 (c1 k32_15))
noncomputable def k32_17 : Code := (c2 k32_16)
noncomputable def k32_18 : Code := (c2 (c1 (c1 k32_15)))
noncomputable def k32_19 : Code := (c2 (c1 k32_18))
theorem s32_19 {R : Value → World → Prop} {Q : Exit → Env → World → Prop} (hR : ∀ e w, (R (e 4) w) → Q .ret e w) (e : Env) (w : World) (h : m32_19 R (e 4) w) : W32 k32_19 Q e w := by
  unfold m32_19 at h
  exact ret_ok (by kernel_rfl) (hR _ _ h)
theorem s32_17 {R : Value → World → Prop} {Q : Exit → Env → World → Prop} (hR : ∀ e w, (R (e 4) w) → Q .ret e w) (e : Env) (w : World) (h : m32_17 R (e 4) w) : W32 k32_17 Q e w := by
  unfold m32_17 at h
  exact ret_ok (by kernel_rfl) (hR _ _ h)
theorem s32_16 {R : Value → World → Prop} {Q : Exit → Env → World → Prop} (hR : ∀ e w, (R (e 4) w) → Q .ret e w) (e : Env) (w : World) (h : m32_16 R w) : W32 k32_16 Q e w := by
  unfold m32_16 at h
  refine seq_ok' (by kernel_rfl) ?_
  have hN' : ∀ e w, (m32_17 R (e 4) w) → (thenE (W32 k32_17 Q) Q) .normal e w := fun e w h => then_N (s32_17 (R := R) (Q := Q) hR e w h)
  have hN := hN'
  exact region_ok 6 (fun e w => m32_17 R (e 4) w) (by kernel_rfl) (kcast (by kernel_rfl) h) hN (by kernel_rfl)
theorem s32_18 {R : Value → World → Prop} {Q : Exit → Env → World → Prop} (hN : ∀ e w, (m32_16 R w) → Q .normal e w) (hR : ∀ e w, (R (e 4) w) → Q .ret e w) (e : Env) (w : World) (h : m32_18 R (e 12) w) : W32 k32_18 Q e w := by
  unfold m32_18 at h
  refine cond_ok (Operand.tmp 12) (by kernel_rfl) h (fun h1 => ?_) (fun h1 => ?_)
  · refine seq_ok' (by kernel_rfl) ?_
    have hN' : ∀ e w, (m32_19 R (e 4) w) → (thenE (W32 k32_19 Q) Q) .normal e w := fun e w h => then_N (s32_19 (R := R) (Q := Q) hR e w h)
    have hN := hN'
    exact region_ok 5 (fun e w => m32_19 R (e 4) w) (by kernel_rfl) (kcast (by kernel_rfl) h1) hN (by kernel_rfl)
  · exact skip_ok (by kernel_rfl) (hN _ _ h1)
theorem s32_14 {R : Value → World → Prop} {Q : Exit → Env → World → Prop} (hR : ∀ e w, (R (e 4) w) → Q .ret e w) (e : Env) (w : World) (h : m32_14 R (e 4) w) : W32 k32_14 Q e w := by
  unfold m32_14 at h
  exact ret_ok (by kernel_rfl) (hR _ _ h)
theorem s32_12 {R : Value → World → Prop} {Q : Exit → Env → World → Prop} (hR : ∀ e w, (R (e 4) w) → Q .ret e w) (e : Env) (w : World) (h : m32_12 R (e 4) w) : W32 k32_12 Q e w := by
  unfold m32_12 at h
  exact ret_ok (by kernel_rfl) (hR _ _ h)
theorem s32_10 {R : Value → World → Prop} {Q : Exit → Env → World → Prop} (hR : ∀ e w, (R (e 4) w) → Q .ret e w) (e : Env) (w : World) (h : m32_10 R (e 4) w) : W32 k32_10 Q e w := by
  unfold m32_10 at h
  exact ret_ok (by kernel_rfl) (hR _ _ h)
theorem s32_8 {R : Value → World → Prop} {Q : Exit → Env → World → Prop} (hR : ∀ e w, (R (e 4) w) → Q .ret e w) (e : Env) (w : World) (h : m32_8 R (e 4) w) : W32 k32_8 Q e w := by
  unfold m32_8 at h
  exact ret_ok (by kernel_rfl) (hR _ _ h)
theorem s32_7 {R : Value → World → Prop} {Q : Exit → Env → World → Prop} (hR : ∀ e w, (R (e 4) w) → Q .ret e w) (e : Env) (w : World) (h : m32_7 R w) : W32 k32_7 Q e w := by
  unfold m32_7 at h
  refine seq_ok' (by kernel_rfl) ?_
  have hN' : ∀ e w, (m32_8 R (e 4) w) → (thenE (W32 k32_8 Q) Q) .normal e w := fun e w h => then_N (s32_8 (R := R) (Q := Q) hR e w h)
  have hN := hN'
  exact region_ok 13 (fun e w => m32_8 R (e 4) w) (by kernel_rfl) (kcast (by kernel_rfl) h) hN (by kernel_rfl)
theorem s32_9 {R : Value → World → Prop} {Q : Exit → Env → World → Prop} (hN : ∀ e w, (m32_7 R w) → Q .normal e w) (hR : ∀ e w, (R (e 4) w) → Q .ret e w) (e : Env) (w : World) (h : m32_9 R (e 19) w) : W32 k32_9 Q e w := by
  unfold m32_9 at h
  refine cond_ok (Operand.tmp 19) (by kernel_rfl) h (fun h1 => ?_) (fun h1 => ?_)
  · refine seq_ok' (by kernel_rfl) ?_
    have hN' : ∀ e w, (m32_10 R (e 4) w) → (thenE (W32 k32_10 Q) Q) .normal e w := fun e w h => then_N (s32_10 (R := R) (Q := Q) hR e w h)
    have hN := hN'
    exact region_ok 12 (fun e w => m32_10 R (e 4) w) (by kernel_rfl) (kcast (by kernel_rfl) h1) hN (by kernel_rfl)
  · exact skip_ok (by kernel_rfl) (hN _ _ h1)
theorem s32_6 {R : Value → World → Prop} {Q : Exit → Env → World → Prop} (hR : ∀ e w, (R (e 4) w) → Q .ret e w) (e : Env) (w : World) (h : m32_6 R (e 0) (e 1) w) : W32 k32_6 Q e w := by
  unfold m32_6 at h
  refine seq_ok' (by kernel_rfl) ?_
  have hN' : ∀ e w, (m32_7 R w) → (thenE (W32 k32_7 Q) Q) .normal e w := fun e w h => then_N (s32_7 (R := R) (Q := Q) hR e w h)
  have hR : ∀ e w, (R (e 4) w) → (thenE (W32 k32_7 Q) Q) .ret e w := fun e w h => then_R (hR e w h)
  have hN := hN'
  refine seq_ok' (by kernel_rfl) ?_
  have hN' : ∀ e w, (m32_9 R (e 19) w) → (thenE (W32 k32_9 (thenE (W32 k32_7 Q) Q)) (thenE (W32 k32_7 Q) Q)) .normal e w := fun e w h => then_N (s32_9 (R := R) (Q := (thenE (W32 k32_7 Q) Q)) hN hR e w h)
  have hN := hN'
  exact region_ok 11 (fun e w => m32_9 R (e 19) w) (by kernel_rfl) (kcast (by kernel_rfl) h) hN (by kernel_rfl)
theorem s32_11 {R : Value → World → Prop} {Q : Exit → Env → World → Prop} (hN : ∀ e w, (m32_6 R (e 0) (e 1) w) → Q .normal e w) (hR : ∀ e w, (R (e 4) w) → Q .ret e w) (e : Env) (w : World) (h : m32_11 R (e 0) (e 1) (e 16) w) : W32 k32_11 Q e w := by
  unfold m32_11 at h
  refine cond_ok (Operand.tmp 16) (by kernel_rfl) h (fun h1 => ?_) (fun h1 => ?_)
  · refine seq_ok' (by kernel_rfl) ?_
    have hN' : ∀ e w, (m32_12 R (e 4) w) → (thenE (W32 k32_12 Q) Q) .normal e w := fun e w h => then_N (s32_12 (R := R) (Q := Q) hR e w h)
    have hN := hN'
    exact region_ok 10 (fun e w => m32_12 R (e 4) w) (by kernel_rfl) (kcast (by kernel_rfl) h1) hN (by kernel_rfl)
  · exact skip_ok (by kernel_rfl) (hN _ _ h1)
theorem s32_5 {R : Value → World → Prop} {Q : Exit → Env → World → Prop} (hR : ∀ e w, (R (e 4) w) → Q .ret e w) (e : Env) (w : World) (h : m32_5 R (e 0) (e 1) w) : W32 k32_5 Q e w := by
  unfold m32_5 at h
  refine seq_ok' (by kernel_rfl) ?_
  have hN' : ∀ e w, (m32_6 R (e 0) (e 1) w) → (thenE (W32 k32_6 Q) Q) .normal e w := fun e w h => then_N (s32_6 (R := R) (Q := Q) hR e w h)
  have hR : ∀ e w, (R (e 4) w) → (thenE (W32 k32_6 Q) Q) .ret e w := fun e w h => then_R (hR e w h)
  have hN := hN'
  refine seq_ok' (by kernel_rfl) ?_
  have hN' : ∀ e w, (m32_11 R (e 0) (e 1) (e 16) w) → (thenE (W32 k32_11 (thenE (W32 k32_6 Q) Q)) (thenE (W32 k32_6 Q) Q)) .normal e w := fun e w h => then_N (s32_11 (R := R) (Q := (thenE (W32 k32_6 Q) Q)) hN hR e w h)
  have hN := hN'
  exact region_ok 9 (fun e w => m32_11 R (e 0) (e 1) (e 16) w) (by kernel_rfl) (kcast (by kernel_rfl) h) hN (by kernel_rfl)
theorem s32_13 {R : Value → World → Prop} {Q : Exit → Env → World → Prop} (hN : ∀ e w, (m32_5 R (e 0) (e 1) w) → Q .normal e w) (hR : ∀ e w, (R (e 4) w) → Q .ret e w) (e : Env) (w : World) (h : m32_13 R (e 0) (e 1) (e 13) w) : W32 k32_13 Q e w := by
  unfold m32_13 at h
  refine cond_ok (Operand.tmp 13) (by kernel_rfl) h (fun h1 => ?_) (fun h1 => ?_)
  · refine seq_ok' (by kernel_rfl) ?_
    have hN' : ∀ e w, (m32_14 R (e 4) w) → (thenE (W32 k32_14 Q) Q) .normal e w := fun e w h => then_N (s32_14 (R := R) (Q := Q) hR e w h)
    have hN := hN'
    exact region_ok 8 (fun e w => m32_14 R (e 4) w) (by kernel_rfl) (kcast (by kernel_rfl) h1) hN (by kernel_rfl)
  · exact skip_ok (by kernel_rfl) (hN _ _ h1)
theorem s32_4 {R : Value → World → Prop} {Q : Exit → Env → World → Prop} (hR : ∀ e w, (R (e 4) w) → Q .ret e w) (e : Env) (w : World) (h : m32_4 R (e 0) (e 1) (e 6) w) : W32 k32_4 Q e w := by
  unfold m32_4 at h
  refine seq_ok' (by kernel_rfl) ?_
  have hN' : ∀ e w, (m32_5 R (e 0) (e 1) w) → (thenE (W32 k32_5 Q) Q) .normal e w := fun e w h => then_N (s32_5 (R := R) (Q := Q) hR e w h)
  have hR : ∀ e w, (R (e 4) w) → (thenE (W32 k32_5 Q) Q) .ret e w := fun e w h => then_R (hR e w h)
  have hN := hN'
  refine seq_ok' (by kernel_rfl) ?_
  have hN' : ∀ e w, (m32_13 R (e 0) (e 1) (e 13) w) → (thenE (W32 k32_13 (thenE (W32 k32_5 Q) Q)) (thenE (W32 k32_5 Q) Q)) .normal e w := fun e w h => then_N (s32_13 (R := R) (Q := (thenE (W32 k32_5 Q) Q)) hN hR e w h)
  have hN := hN'
  exact region_ok 7 (fun e w => m32_13 R (e 0) (e 1) (e 13) w) (by kernel_rfl) (kcast (by kernel_rfl) h) hN (by kernel_rfl)
theorem s32_15 {R : Value → World → Prop} {Q : Exit → Env → World → Prop} (hN : ∀ e w, (m32_4 R (e 0) (e 1) (e 6) w) → Q .normal e w) (hR : ∀ e w, (R (e 4) w) → Q .ret e w) (e : Env) (w : World) (h : m32_15 R (e 0) (e 1) (e 6) (e 11) w) : W32 k32_15 Q e w := by
  unfold m32_15 at h
  refine cond_ok (Operand.tmp 11) (by kernel_rfl) h (fun h1 => ?_) (fun h1 => ?_)
  · refine seq_ok' (by kernel_rfl) ?_
    have hN' : ∀ e w, (m32_16 R w) → (thenE (W32 k32_16 Q) Q) .normal e w := fun e w h => then_N (s32_16 (R := R) (Q := Q) hR e w h)
    have hR : ∀ e w, (R (e 4) w) → (thenE (W32 k32_16 Q) Q) .ret e w := fun e w h => then_R (hR e w h)
    have hN := hN'
    refine seq_ok' (by kernel_rfl) ?_
    have hN' : ∀ e w, (m32_18 R (e 12) w) → (thenE (W32 k32_18 (thenE (W32 k32_16 Q) Q)) (thenE (W32 k32_16 Q) Q)) .normal e w := fun e w h => then_N (s32_18 (R := R) (Q := (thenE (W32 k32_16 Q) Q)) hN hR e w h)
    have hN := hN'
    exact region_ok 4 (fun e w => m32_18 R (e 12) w) (by kernel_rfl) (kcast (by kernel_rfl) h1) hN (by kernel_rfl)
  · exact skip_ok (by kernel_rfl) (hN _ _ h1)
theorem s32_3 {R : Value → World → Prop} {Q : Exit → Env → World → Prop} (hR : ∀ e w, (R (e 4) w) → Q .ret e w) (e : Env) (w : World) (h : m32_3 R (e 0) (e 1) (e 5) (e 6) w) : W32 k32_3 Q e w := by
  unfold m32_3 at h
  refine seq_ok' (by kernel_rfl) ?_
  have hN' : ∀ e w, (m32_4 R (e 0) (e 1) (e 6) w) → (thenE (W32 k32_4 Q) Q) .normal e w := fun e w h => then_N (s32_4 (R := R) (Q := Q) hR e w h)
  have hR : ∀ e w, (R (e 4) w) → (thenE (W32 k32_4 Q) Q) .ret e w := fun e w h => then_R (hR e w h)
  have hN := hN'
  refine seq_ok' (by kernel_rfl) ?_
  have hN' : ∀ e w, (m32_15 R (e 0) (e 1) (e 6) (e 11) w) → (thenE (W32 k32_15 (thenE (W32 k32_4 Q) Q)) (thenE (W32 k32_4 Q) Q)) .normal e w := fun e w h => then_N (s32_15 (R := R) (Q := (thenE (W32 k32_4 Q) Q)) hN hR e w h)
  have hN := hN'
  exact region_ok 3 (fun e w => m32_15 R (e 0) (e 1) (e 6) (e 11) w) (by kernel_rfl) (kcast (by kernel_rfl) h) hN (by kernel_rfl)
theorem s32_2 {R : Value → World → Prop} {Q : Exit → Env → World → Prop} (hR : ∀ e w, (R (e 4) w) → Q .ret e w) (e : Env) (w : World) (h : m32_2 R (e 0) (e 1) (e 5) w) : W32 k32_2 Q e w := by
  unfold m32_2 at h
  refine seq_ok' (by kernel_rfl) ?_
  have hN' : ∀ e w, (m32_3 R (e 0) (e 1) (e 5) (e 6) w) → (thenE (W32 k32_3 Q) Q) .normal e w := fun e w h => then_N (s32_3 (R := R) (Q := Q) hR e w h)
  have hN := hN'
  exact region_ok 2 (fun e w => m32_3 R (e 0) (e 1) (e 5) (e 6) w) (by kernel_rfl) (kcast (by kernel_rfl) h) hN (by kernel_rfl)
theorem s32_1 {R : Value → World → Prop} {Q : Exit → Env → World → Prop} (hR : ∀ e w, (R (e 4) w) → Q .ret e w) (e : Env) (w : World) (h : m32_1 R (e 0) (e 1) w) : W32 k32_1 Q e w := by
  unfold m32_1 at h
  refine seq_ok' (by kernel_rfl) ?_
  have hN' : ∀ e w, (m32_2 R (e 0) (e 1) (e 5) w) → (thenE (W32 k32_2 Q) Q) .normal e w := fun e w h => then_N (s32_2 (R := R) (Q := Q) hR e w h)
  have hN := hN'
  exact region_ok 1 (fun e w => m32_2 R (e 0) (e 1) (e 5) w) (by kernel_rfl) (kcast (by kernel_rfl) h) hN (by kernel_rfl)
theorem s32_0 {R : Value → World → Prop} {Q : Exit → Env → World → Prop} (hR : ∀ e w, (R (e 4) w) → Q .ret e w) (e : Env) (w : World) (h : m32_0 R (e 0) (e 1) w) : W32 k32_0 Q e w := by
  unfold m32_0 at h
  refine seq_ok' (by kernel_rfl) ?_
  have hN' : ∀ e w, (m32_1 R (e 0) (e 1) w) → (thenE (W32 k32_1 Q) Q) .normal e w := fun e w h => then_N (s32_1 (R := R) (Q := Q) hR e w h)
  have hN := hN'
  exact region_ok 0 (fun e w => m32_1 R (e 0) (e 1) w) (by kernel_rfl) (kcast (by kernel_rfl) h) hN (by kernel_rfl)
abbrev m32 (R : Value → World → Prop) (x0 : Value) (y1 : Value) (w : World) : Prop := m32_0 R x0 y1 w
theorem s32 (x0 : Value) (y1 : Value) {R : Value → World → Prop} {w : World} (h : m32 R x0 y1 w) :
    Calls Try.prog 32 #[x0, y1] w fun e w' => ∃ v, e = .returned v ∧ R v w' :=
  calls_of_cwp (st := (fun i => 0)) (c := k32_0) (by kernel_rfl) Try.func32 (by kernel_rfl) (Nat.le_of_ble_eq_true (by kernel_rfl)) (by kernel_rfl)
    (s32_0 (R := R) (Q := endE Try.prog Try.f32 R) (fun e w h => kcast (by kernel_rfl) h) (argsE #[x0, y1]) w (kcast (by kernel_rfl) h))
/-! ### slices.IndexFunc[[]headgate/api.Tally,headgate/api.Tally] -/
def m33_11 (R : Value → World → Prop) (K1 : Value → World → Prop) (t4 : Value) (w : World) : Prop :=
  R t4 w
def m33_8 (R : Value → World → Prop) (K1 : Value → World → Prop) (s0 : Value) (f1 : Value) (t7 : Value) (t8 : Value) (w : World) : Prop :=
  valP Try.prog (binS BinOp.add 3 (Operand.tmp 8) (Operand.const (Value.int IntKind.i64 1)) t8 (Value.int IntKind.i64 1)) w fun t18 w =>
  K1 t18 w
def m33_10 (R : Value → World → Prop) (K1 : Value → World → Prop) (s0 : Value) (f1 : Value) (i5 : Value) (t7 : Value) (t8 : Value) (t16 : Value) (w : World) : Prop :=
  condP t16
  (m33_11 R K1 i5 w)
  (m33_8 R K1 s0 f1 t7 t8 w)
def m33_9 (R : Value → World → Prop) (K1 : Value → World → Prop) (s0 : Value) (f1 : Value) (i5 : Value) (t7 : Value) (t8 : Value) (w : World) : Prop :=
  valP Try.prog (Instr.indexAt 28 s0 i5) w fun t14 w =>
  valP Try.prog (Instr.loadAt 45 t14) w fun t15 w =>
  callP Try.prog f1 #[t15] w fun t16 w =>
  m33_10 R K1 s0 f1 i5 t7 t8 t16 w
def m33_7 (R : Value → World → Prop) (K1 : Value → World → Prop) (s0 : Value) (f1 : Value) (t7 : Value) (t8 : Value) (w : World) : Prop :=
  m33_9 R K1 s0 f1 t8 t7 t8 w
def m33_3 (R : Value → World → Prop) (t4 : Value) (w : World) : Prop :=
  R t4 w
def m33_2 (R : Value → World → Prop) (w : World) : Prop :=
  m33_3 R (Value.int IntKind.i64 (-1)) w
def m33_6 (R : Value → World → Prop) (K1 : Value → World → Prop) (s0 : Value) (f1 : Value) (t7 : Value) (t8 : Value) (t9 : Value) (w : World) : Prop :=
  condP t9
  (m33_7 R K1 s0 f1 t7 t8 w)
  (m33_2 R w)
def m33_5 (R : Value → World → Prop) (K1 : Value → World → Prop) (s0 : Value) (f1 : Value) (t7 : Value) (t8 : Value) (w : World) : Prop :=
  valP Try.prog (binS BinOp.lss 3 (Operand.tmp 8) (Operand.tmp 7) t8 t7) w fun t9 w =>
  m33_6 R K1 s0 f1 t7 t8 t9 w
def m33_4 (R : Value → World → Prop) (s0 : Value) (f1 : Value) (t7 : Value) (t8 : Value) (w : World) : Prop :=
  loopP (fun (K1 : Value → World → Prop) (s : Value) w => m33_5 R K1 s0 f1 t7 s w) t8 w
def m33_1 (R : Value → World → Prop) (s0 : Value) (f1 : Value) (w : World) : Prop :=
  builtinP Try.prog Builtin.len #[28] 3 #[false] #[s0] w fun t7 w =>
  m33_4 R s0 f1 t7 (Value.int IntKind.i64 0) w
def m33_0 (R : Value → World → Prop) (s0 : Value) (f1 : Value) (w : World) : Prop :=
  m33_1 R s0 f1 w
abbrev W33 := cwp Try.prog (fun i => 0)
noncomputable def k33_0 : Code := (bodyOf Try.f33)
noncomputable def k33_1 : Code := (c2 k33_0)
noncomputable def k33_2 : Code := (c2 k33_1)
noncomputable def k33_3 : Code := (c2 k33_2)
noncomputable def k33_4 : Code := (c2 (c1 k33_1))
noncomputable def k33_5 : Code := (c1 (c1 k33_4))
noncomputable def k33_6 : Code := (c2 k33_5)
noncomputable def k33_7 : Code := (c2 k33_6)
noncomputable def k33_8 : Code := (c2 k33_7)
noncomputable def k33_9 : Code := (c2 (c1 (c1 k33_7)))
noncomputable def k33_10 : Code := (c2 k33_9)
noncomputable def k33_11 : Code := (c2 (c1 k33_10))
theorem s33_11 {R : Value → World → Prop} {K1 : Value → World → Prop} {Q : Exit → Env → World → Prop} (hR : ∀ e w, (R (e 4) w) → Q .ret e w) (e : Env) (w : World) (h : m33_11 R K1 (e 4) w) : W33 k33_11 Q e w := by
  unfold m33_11 at h
  exact ret_ok (by kernel_rfl) (hR _ _ h)
theorem s33_8 {R : Value → World → Prop} {K1 : Value → World → Prop} {Q : Exit → Env → World → Prop} (hN : ∀ e w, (K1 (e 8) w) → Q .normal e w) (e : Env) (w : World) (h : m33_8 R K1 (e 0) (e 1) (e 7) (e 8) w) : W33 k33_8 Q e w := by
  unfold m33_8 at h
  exact region_ok 6 (fun e w => K1 (e 8) w) (by kernel_rfl) (kcast (by kernel_rfl) h) hN (by kernel_rfl)
theorem s33_10 {R : Value → World → Prop} {K1 : Value → World → Prop} {Q : Exit → Env → World → Prop} (hN : ∀ e w, (m33_8 R K1 (e 0) (e 1) (e 7) (e 8) w) → Q .normal e w) (hR : ∀ e w, (R (e 4) w) → Q .ret e w) (e : Env) (w : World) (h : m33_10 R K1 (e 0) (e 1) (e 5) (e 7) (e 8) (e 16) w) : W33 k33_10 Q e w := by
  unfold m33_10 at h
  refine cond_ok (Operand.tmp 16) (by kernel_rfl) h (fun h1 => ?_) (fun h1 => ?_)
  · refine seq_ok' (by kernel_rfl) ?_
    have hN' : ∀ e w, (m33_11 R K1 (e 4) w) → (thenE (W33 k33_11 Q) Q) .normal e w := fun e w h => then_N (s33_11 (R := R) (Q := Q) (K1 := K1) hR e w h)
    have hN := hN'
    exact region_ok 5 (fun e w => m33_11 R K1 (e 4) w) (by kernel_rfl) (kcast (by kernel_rfl) h1) hN (by kernel_rfl)
  · exact skip_ok (by kernel_rfl) (hN _ _ h1)
theorem s33_9 {R : Value → World → Prop} {K1 : Value → World → Prop} {Q : Exit → Env → World → Prop} (hN : ∀ e w, (m33_8 R K1 (e 0) (e 1) (e 7) (e 8) w) → Q .normal e w) (hR : ∀ e w, (R (e 4) w) → Q .ret e w) (e : Env) (w : World) (h : m33_9 R K1 (e 0) (e 1) (e 5) (e 7) (e 8) w) : W33 k33_9 Q e w := by
  unfold m33_9 at h
  refine seq_ok' (by kernel_rfl) ?_
  have hN' : ∀ e w, (m33_10 R K1 (e 0) (e 1) (e 5) (e 7) (e 8) (e 16) w) → (thenE (W33 k33_10 Q) Q) .normal e w := fun e w h => then_N (s33_10 (R := R) (Q := Q) (K1 := K1) hN hR e w h)
  have hN := hN'
  exact region_ok 4 (fun e w => m33_10 R K1 (e 0) (e 1) (e 5) (e 7) (e 8) (e 16) w) (by kernel_rfl) (kcast (by kernel_rfl) h) hN (by kernel_rfl)
theorem s33_7 {R : Value → World → Prop} {K1 : Value → World → Prop} {Q : Exit → Env → World → Prop} (hN : ∀ e w, (K1 (e 8) w) → Q .normal e w) (hR : ∀ e w, (R (e 4) w) → Q .ret e w) (e : Env) (w : World) (h : m33_7 R K1 (e 0) (e 1) (e 7) (e 8) w) : W33 k33_7 Q e w := by
  unfold m33_7 at h
  refine seq_ok' (by kernel_rfl) ?_
  have hN' : ∀ e w, (m33_8 R K1 (e 0) (e 1) (e 7) (e 8) w) → (thenE (W33 k33_8 Q) Q) .normal e w := fun e w h => then_N (s33_8 (R := R) (Q := Q) (K1 := K1) hN e w h)
  have hR : ∀ e w, (R (e 4) w) → (thenE (W33 k33_8 Q) Q) .ret e w := fun e w h => then_R (hR e w h)
  have hN := hN'
  refine block_ok 1 (by kernel_rfl) ?_
  have hN : ∀ e w, (m33_8 R K1 (e 0) (e 1) (e 7) (e 8) w) → (inBlockE 1 (thenE (W33 k33_8 Q) Q)) .normal e w := fun e w h => block_N (hN e w h)
  have hR : ∀ e w, (R (e 4) w) → (inBlockE 1 (thenE (W33 k33_8 Q) Q)) .ret e w := fun e w h => block_R (hR e w h)
  refine seq_ok' (by kernel_rfl) ?_
  have hN' : ∀ e w, (m33_9 R K1 (e 0) (e 1) (e 5) (e 7) (e 8) w) → (thenE (W33 k33_9 (inBlockE 1 (thenE (W33 k33_8 Q) Q))) (inBlockE 1 (thenE (W33 k33_8 Q) Q))) .normal e w := fun e w h => then_N (s33_9 (R := R) (Q := (inBlockE 1 (thenE (W33 k33_8 Q) Q))) (K1 := K1) hN hR e w h)
  have hN := hN'
  exact region_ok 3 (fun e w => m33_9 R K1 (e 0) (e 1) (e 5) (e 7) (e 8) w) (by kernel_rfl) (kcast (by kernel_rfl) h) hN (by kernel_rfl)
theorem s33_3 {R : Value → World → Prop} {Q : Exit → Env → World → Prop} (hR : ∀ e w, (R (e 4) w) → Q .ret e w) (e : Env) (w : World) (h : m33_3 R (e 4) w) : W33 k33_3 Q e w := by
  unfold m33_3 at h
  exact ret_ok (by kernel_rfl) (hR _ _ h)
theorem s33_2 {R : Value → World → Prop} {Q : Exit → Env → World → Prop} (hR : ∀ e w, (R (e 4) w) → Q .ret e w) (e : Env) (w : World) (h : m33_2 R w) : W33 k33_2 Q e w := by
  unfold m33_2 at h
  refine seq_ok' (by kernel_rfl) ?_
  have hN' : ∀ e w, (m33_3 R (e 4) w) → (thenE (W33 k33_3 Q) Q) .normal e w := fun e w h => then_N (s33_3 (R := R) (Q := Q) hR e w h)
  have hN := hN'
  exact region_ok 7 (fun e w => m33_3 R (e 4) w) (by kernel_rfl) (kcast (by kernel_rfl) h) hN (by kernel_rfl)
theorem s33_6 {R : Value → World → Prop} {K1 : Value → World → Prop} {Q : Exit → Env → World → Prop} (hN : ∀ e w, (K1 (e 8) w) → Q .normal e w) (hR : ∀ e w, (R (e 4) w) → Q .ret e w) (hX0 : ∀ e w, (m33_2 R w) → Q (.exit 0) e w) (e : Env) (w : World) (h : m33_6 R K1 (e 0) (e 1) (e 7) (e 8) (e 9) w) : W33 k33_6 Q e w := by
  unfold m33_6 at h
  refine seq_ok' (by kernel_rfl) ?_
  have hN' : ∀ e w, (m33_7 R K1 (e 0) (e 1) (e 7) (e 8) w) → (thenE (W33 k33_7 Q) Q) .normal e w := fun e w h => then_N (s33_7 (R := R) (Q := Q) (K1 := K1) hN hR e w h)
  have hX0 : ∀ e w, (m33_2 R w) → (thenE (W33 k33_7 Q) Q) (.exit 0) e w := fun e w h => then_X (hX0 e w h)
  have hN := hN'
  refine cond_ok (Operand.tmp 9) (by kernel_rfl) h (fun h1 => ?_) (fun h1 => ?_)
  · exact skip_ok (by kernel_rfl) (hN _ _ h1)
  · exact exit_ok 0 (by kernel_rfl) (hX0 _ _ h1)
theorem s33_5 {R : Value → World → Prop} {K1 : Value → World → Prop} {Q : Exit → Env → World → Prop} (hN : ∀ e w, (K1 (e 8) w) → Q .normal e w) (hR : ∀ e w, (R (e 4) w) → Q .ret e w) (hX0 : ∀ e w, (m33_2 R w) → Q (.exit 0) e w) (e : Env) (w : World) (h : m33_5 R K1 (e 0) (e 1) (e 7) (e 8) w) : W33 k33_5 Q e w := by
  unfold m33_5 at h
  refine seq_ok' (by kernel_rfl) ?_
  have hN' : ∀ e w, (m33_6 R K1 (e 0) (e 1) (e 7) (e 8) (e 9) w) → (thenE (W33 k33_6 Q) Q) .normal e w := fun e w h => then_N (s33_6 (R := R) (Q := Q) (K1 := K1) hN hR hX0 e w h)
  have hN := hN'
  exact region_ok 2 (fun e w => m33_6 R K1 (e 0) (e 1) (e 7) (e 8) (e 9) w) (by kernel_rfl) (kcast (by kernel_rfl) h) hN (by kernel_rfl)
theorem s33_4 {R : Value → World → Prop} {Q : Exit → Env → World → Prop} (hN : ∀ e w, (m33_2 R w) → Q .normal e w) (hR : ∀ e w, (R (e 4) w) → Q .ret e w) (e : Env) (w : World) (h : m33_4 R (e 0) (e 1) (e 7) (e 8) w) : W33 k33_4 Q e w := by
  unfold m33_4 at h
  refine block_ok 0 (by kernel_rfl) ?_
  have hX0 : ∀ e w, (m33_2 R w) → (inBlockE 0 Q) (.exit 0) e w := fun e w h => inBlock_same (Q := Q) 0 (hN e w h)
  have hR : ∀ e w, (R (e 4) w) → (inBlockE 0 Q) .ret e w := fun e w h => block_R (hR e w h)
  refine loop_ok' (fun (e : Env) => e 8) [0, 1, 7] (by kernel_rfl) (by kernel_rfl) h (fun K e' w' hk h' => ?_)
  have r0 : e' 0 = e 0 := hk 0 (by decide)
  have r1 : e' 1 = e 1 := hk 1 (by decide)
  have r7 : e' 7 = e 7 := hk 7 (by decide)
  have hR : ∀ e w, (R (e 4) w) → (thenE (fun (e : Env) w => K (e 8) w) (inBlockE 0 Q)) .ret e w := fun e w h => then_R (hR e w h)
  have hX0 : ∀ e w, (m33_2 R w) → (thenE (fun (e : Env) w => K (e 8) w) (inBlockE 0 Q)) (.exit 0) e w := fun e w h => then_X (hX0 e w h)
  exact s33_5 (R := R) (Q := (thenE (fun (e : Env) w => K (e 8) w) (inBlockE 0 Q))) (K1 := K) (fun _ _ h => then_N h) hR hX0 e' w' (by rw [r0, r1, r7]; exact h')
theorem s33_1 {R : Value → World → Prop} {Q : Exit → Env → World → Prop} (hR : ∀ e w, (R (e 4) w) → Q .ret e w) (e : Env) (w : World) (h : m33_1 R (e 0) (e 1) w) : W33 k33_1 Q e w := by
  unfold m33_1 at h
  refine seq_ok' (by kernel_rfl) ?_
  have hN' : ∀ e w, (m33_2 R w) → (thenE (W33 k33_2 Q) Q) .normal e w := fun e w h => then_N (s33_2 (R := R) (Q := Q) hR e w h)
  have hR : ∀ e w, (R (e 4) w) → (thenE (W33 k33_2 Q) Q) .ret e w := fun e w h => then_R (hR e w h)
  have hN := hN'
  refine seq_ok' (by kernel_rfl) ?_
  have hN' : ∀ e w, (m33_4 R (e 0) (e 1) (e 7) (e 8) w) → (thenE (W33 k33_4 (thenE (W33 k33_2 Q) Q)) (thenE (W33 k33_2 Q) Q)) .normal e w := fun e w h => then_N (s33_4 (R := R) (Q := (thenE (W33 k33_2 Q) Q)) hN hR e w h)
  have hN := hN'
  exact region_ok 1 (fun e w => m33_4 R (e 0) (e 1) (e 7) (e 8) w) (by kernel_rfl) (kcast (by kernel_rfl) h) hN (by kernel_rfl)
theorem s33_0 {R : Value → World → Prop} {Q : Exit → Env → World → Prop} (hR : ∀ e w, (R (e 4) w) → Q .ret e w) (e : Env) (w : World) (h : m33_0 R (e 0) (e 1) w) : W33 k33_0 Q e w := by
  unfold m33_0 at h
  refine seq_ok' (by kernel_rfl) ?_
  have hN' : ∀ e w, (m33_1 R (e 0) (e 1) w) → (thenE (W33 k33_1 Q) Q) .normal e w := fun e w h => then_N (s33_1 (R := R) (Q := Q) hR e w h)
  have hN := hN'
  exact region_ok 0 (fun e w => m33_1 R (e 0) (e 1) w) (by kernel_rfl) (kcast (by kernel_rfl) h) hN (by kernel_rfl)
abbrev m33 (R : Value → World → Prop) (s0 : Value) (f1 : Value) (w : World) : Prop := m33_0 R s0 f1 w
theorem s33 (s0 : Value) (f1 : Value) {R : Value → World → Prop} {w : World} (h : m33 R s0 f1 w) :
    Calls Try.prog 33 #[s0, f1] w fun e w' => ∃ v, e = .returned v ∧ R v w' :=
  calls_of_cwp (st := (fun i => 0)) (c := k33_0) (by kernel_rfl) Try.func33 (by kernel_rfl) (Nat.le_of_ble_eq_true (by kernel_rfl)) (by kernel_rfl)
    (s33_0 (R := R) (Q := endE Try.prog Try.f33 R) (fun e w h => kcast (by kernel_rfl) h) (argsE #[s0, f1]) w (kcast (by kernel_rfl) h))
/-! ### (*headgate/heavy.Heavy).find$1 -/
def m34_2 (R : Value → World → Prop) (t3 : Value) (w : World) : Prop :=
  R t3 w
def m34_1 (R : Value → World → Prop) (t1 : Value) (t2 : Value) (w : World) : Prop :=
  valP Try.prog (Instr.fieldAt 45 t2 0) w fun t4 w =>
  valP Try.prog (Instr.loadAt 3 t4) w fun t5 w =>
  valP Try.prog (Instr.loadAt 3 t1) w fun t6 w =>
  valP Try.prog (binS BinOp.eql 3 (Operand.tmp 5) (Operand.tmp 6) t5 t6) w fun t7 w =>
  m34_2 R t7 w
def m34_0 (R : Value → World → Prop) (t0 : Value) (t1 : Value) (w : World) : Prop :=
  valP Try.prog (Instr.box 45 t0) w fun t2 w =>
  m34_1 R t1 t2 w
abbrev W34 := cwp Try.prog (fun i => 0)
noncomputable def k34_0 : Code := (bodyOf Try.f34)
noncomputable def k34_1 : Code := (c2 k34_0)
noncomputable def k34_2 : Code := (c2 k34_1)
theorem s34_2 {R : Value → World → Prop} {Q : Exit → Env → World → Prop} (hR : ∀ e w, (R (e 3) w) → Q .ret e w) (e : Env) (w : World) (h : m34_2 R (e 3) w) : W34 k34_2 Q e w := by
  unfold m34_2 at h
  exact ret_ok (by kernel_rfl) (hR _ _ h)
theorem s34_1 {R : Value → World → Prop} {Q : Exit → Env → World → Prop} (hR : ∀ e w, (R (e 3) w) → Q .ret e w) (e : Env) (w : World) (h : m34_1 R (e 1) (e 2) w) : W34 k34_1 Q e w := by
  unfold m34_1 at h
  refine seq_ok' (by kernel_rfl) ?_
  have hN' : ∀ e w, (m34_2 R (e 3) w) → (thenE (W34 k34_2 Q) Q) .normal e w := fun e w h => then_N (s34_2 (R := R) (Q := Q) hR e w h)
  have hN := hN'
  exact region_ok 1 (fun e w => m34_2 R (e 3) w) (by kernel_rfl) (kcast (by kernel_rfl) h) hN (by kernel_rfl)
theorem s34_0 {R : Value → World → Prop} {Q : Exit → Env → World → Prop} (hR : ∀ e w, (R (e 3) w) → Q .ret e w) (e : Env) (w : World) (h : m34_0 R (e 0) (e 1) w) : W34 k34_0 Q e w := by
  unfold m34_0 at h
  refine seq_ok' (by kernel_rfl) ?_
  have hN' : ∀ e w, (m34_1 R (e 1) (e 2) w) → (thenE (W34 k34_1 Q) Q) .normal e w := fun e w h => then_N (s34_1 (R := R) (Q := Q) hR e w h)
  have hN := hN'
  exact region_ok 0 (fun e w => m34_1 R (e 1) (e 2) w) (by kernel_rfl) (kcast (by kernel_rfl) h) hN (by kernel_rfl)
abbrev m34 (R : Value → World → Prop) (t0 : Value) (t1 : Value) (w : World) : Prop := m34_0 R t0 t1 w
theorem s34 (t0 : Value) (t1 : Value) {R : Value → World → Prop} {w : World} (h : m34 R t0 t1 w) :
    Calls Try.prog 34 #[t0, t1] w fun e w' => ∃ v, e = .returned v ∧ R v w' :=
  calls_of_cwp (st := (fun i => 0)) (c := k34_0) (by kernel_rfl) Try.func34 (by kernel_rfl) (Nat.le_of_ble_eq_true (by kernel_rfl)) (by kernel_rfl)
    (s34_0 (R := R) (Q := endE Try.prog Try.f34 R) (fun e w h => kcast (by kernel_rfl) h) (argsE #[t0, t1]) w (kcast (by kernel_rfl) h))
/-! ### headgate/heavy.first[headgate/api.Tally] -/
def m35_9 (R : Value → World → Prop) (K1 : (Value × Value) → World → Prop) (l0 : Value) (order1 : Value) (at5 : Value) (t8 : Value) (t9 : Value) (w : World) : Prop :=
  valP Try.prog (binS BinOp.add 3 (Operand.tmp 9) (Operand.const (Value.int IntKind.i64 1)) t9 (Value.int IntKind.i64 1)) w fun t24 w =>
  K1 (at5, t24) w
def m35_11 (R : Value → World → Prop) (K1 : (Value × Value) → World → Prop) (l0 : Value) (order1 : Value) (at5 : Value) (i6 : Value) (t8 : Value) (t9 : Value) (t22 : Value) (w : World) : Prop :=
  condP t22
  (m35_9 R K1 l0 order1 i6 t8 t9 w)
  (m35_9 R K1 l0 order1 at5 t8 t9 w)
def m35_10 (R : Value → World → Prop) (K1 : (Value × Value) → World → Prop) (l0 : Value) (order1 : Value) (at5 : Value) (i6 : Value) (t8 : Value) (t9 : Value) (w : World) : Prop :=
  anyDraw w fun w =>
  valS Try.prog (Instr.indexAt 28 l0 i6) w fun t15 =>
  valS Try.prog (Instr.loadAt 45 t15) w fun t16 =>
  valS Try.prog (Instr.indexAt 28 l0 at5) w fun t19 =>
  valS Try.prog (Instr.loadAt 45 t19) w fun t20 =>
  callP Try.prog order1 #[t16, t20] w fun t21 w =>
  valP Try.prog (binS BinOp.lss 3 (Operand.tmp 21) (Operand.const (Value.int IntKind.i64 0)) t21 (Value.int IntKind.i64 0)) w fun t22 w =>
  m35_11 R K1 l0 order1 at5 i6 t8 t9 t22 w
def m35_8 (R : Value → World → Prop) (K1 : (Value × Value) → World → Prop) (l0 : Value) (order1 : Value) (at5 : Value) (t8 : Value) (t9 : Value) (w : World) : Prop :=
  m35_10 R K1 l0 order1 at5 t9 t8 t9 w
def m35_4 (R : Value → World → Prop) (t4 : Value) (w : World) : Prop :=
  R t4 w
def m35_3 (R : Value → World → Prop) (at5 : Value) (w : World) : Prop :=
  m35_4 R at5 w
def m35_7 (R : Value → World → Prop) (K1 : (Value × Value) → World → Prop) (l0 : Value) (order1 : Value) (at5 : Value) (t8 : Value) (t9 : Value) (t10 : Value) (w : World) : Prop :=
  condP t10
  (m35_8 R K1 l0 order1 at5 t8 t9 w)
  (m35_3 R at5 w)
def m35_6 (R : Value → World → Prop) (K1 : (Value × Value) → World → Prop) (l0 : Value) (order1 : Value) (at5 : Value) (t8 : Value) (t9 : Value) (w : World) : Prop :=
  valP Try.prog (binS BinOp.lss 3 (Operand.tmp 9) (Operand.tmp 8) t9 t8) w fun t10 w =>
  m35_7 R K1 l0 order1 at5 t8 t9 t10 w
def m35_5 (R : Value → World → Prop) (l0 : Value) (order1 : Value) (at5 : Value) (t8 : Value) (t9 : Value) (w : World) : Prop :=
  loopP (fun (K1 : (Value × Value) → World → Prop) (s : Value × Value) w => m35_6 R K1 l0 order1 s.1 t8 s.2 w) (at5, t9) w
def m35_2 (R : Value → World → Prop) (l0 : Value) (order1 : Value) (at5 : Value) (w : World) : Prop :=
  builtinP Try.prog Builtin.len #[28] 3 #[false] #[l0] w fun t8 w =>
  m35_5 R l0 order1 at5 t8 (Value.int IntKind.i64 0) w
def m35_1 (R : Value → World → Prop) (l0 : Value) (order1 : Value) (w : World) : Prop :=
  m35_2 R l0 order1 (Value.int IntKind.i64 0) w
def m35_0 (R : Value → World → Prop) (l0 : Value) (order1 : Value) (w : World) : Prop :=
  m35_1 R l0 order1 w
abbrev W35 := cwp Try.prog (fun i => cond (Nat.beq i 5) 11 (0))
noncomputable def k35_0 : Code := (bodyOf Try.f35)
noncomputable def k35_1 : Code := (c2 k35_0)
noncomputable def k35_2 : Code := (c2 k35_1)
noncomputable def k35_3 : Code := (c2 k35_2)
noncomputable def k35_4 : Code := (c2 k35_3)
noncomputable def k35_5 : Code := (c2 (c1 k35_2))
noncomputable def k35_6 : Code := (c1 (c1 k35_5))
noncomputable def k35_7 : Code := (c2 k35_6)
noncomputable def k35_8 : Code := (c2 k35_7)
noncomputable def k35_9 : Code := (c2 k35_8)
noncomputable def k35_10 : Code := (c2 (c1 (c1 k35_8)))
noncomputable def k35_11 : Code := (c2 k35_10)
theorem s35_9 {R : Value → World → Prop} {K1 : (Value × Value) → World → Prop} {Q : Exit → Env → World → Prop} (hN : ∀ e w, (K1 ((e 5), (e 9)) w) → Q .normal e w) (e : Env) (w : World) (h : m35_9 R K1 (e 0) (e 1) (e 5) (e 8) (e 9) w) : W35 k35_9 Q e w := by
  unfold m35_9 at h
  exact region_ok 7 (fun e w => K1 ((e 5), (e 9)) w) (by kernel_rfl) (kcast (by kernel_rfl) h) hN (by kernel_rfl)
theorem s35_11 {R : Value → World → Prop} {K1 : (Value × Value) → World → Prop} {Q : Exit → Env → World → Prop} (hN : ∀ e w, (m35_9 R K1 (e 0) (e 1) (e 5) (e 8) (e 9) w) → Q .normal e w) (e : Env) (w : World) (h : m35_11 R K1 (e 0) (e 1) (e 5) (e 6) (e 8) (e 9) (e 22) w) : W35 k35_11 Q e w := by
  unfold m35_11 at h
  refine cond_ok (Operand.tmp 22) (by kernel_rfl) h (fun h1 => ?_) (fun h1 => ?_)
  · exact region_ok 6 (fun e w => m35_9 R K1 (e 0) (e 1) (e 5) (e 8) (e 9) w) (by kernel_rfl) (kcast (by kernel_rfl) h1) hN (by kernel_rfl)
  · exact skip_ok (by kernel_rfl) (hN _ _ h1)
theorem s35_10 {R : Value → World → Prop} {K1 : (Value × Value) → World → Prop} {Q : Exit → Env → World → Prop} (hN : ∀ e w, (m35_9 R K1 (e 0) (e 1) (e 5) (e 8) (e 9) w) → Q .normal e w) (e : Env) (w : World) (h : m35_10 R K1 (e 0) (e 1) (e 5) (e 6) (e 8) (e 9) w) : W35 k35_10 Q e w := by
  unfold m35_10 at h
  refine seq_ok' (by kernel_rfl) ?_
  have hN' : ∀ e w, (m35_11 R K1 (e 0) (e 1) (e 5) (e 6) (e 8) (e 9) (e 22) w) → (thenE (W35 k35_11 Q) Q) .normal e w := fun e w h => then_N (s35_11 (R := R) (Q := Q) (K1 := K1) hN e w h)
  have hN := hN'
  exact tail_ok 5 9 (fun e w => m35_11 R K1 (e 0) (e 1) (e 5) (e 6) (e 8) (e 9) (e 22) w) (by kernel_rfl) (by kernel_rfl) (by kernel_rfl) (kcast (by kernel_rfl) h) hN (by kernel_rfl)
theorem s35_8 {R : Value → World → Prop} {K1 : (Value × Value) → World → Prop} {Q : Exit → Env → World → Prop} (hN : ∀ e w, (K1 ((e 5), (e 9)) w) → Q .normal e w) (e : Env) (w : World) (h : m35_8 R K1 (e 0) (e 1) (e 5) (e 8) (e 9) w) : W35 k35_8 Q e w := by
  unfold m35_8 at h
  refine seq_ok' (by kernel_rfl) ?_
  have hN' : ∀ e w, (m35_9 R K1 (e 0) (e 1) (e 5) (e 8) (e 9) w) → (thenE (W35 k35_9 Q) Q) .normal e w := fun e w h => then_N (s35_9 (R := R) (Q := Q) (K1 := K1) hN e w h)
  have hN := hN'
  refine block_ok 1 (by kernel_rfl) ?_
  have hN : ∀ e w, (m35_9 R K1 (e 0) (e 1) (e 5) (e 8) (e 9) w) → (inBlockE 1 (thenE (W35 k35_9 Q) Q)) .normal e w := fun e w h => block_N (hN e w h)
  refine seq_ok' (by kernel_rfl) ?_
  have hN' : ∀ e w, (m35_10 R K1 (e 0) (e 1) (e 5) (e 6) (e 8) (e 9) w) → (thenE (W35 k35_10 (inBlockE 1 (thenE (W35 k35_9 Q) Q))) (inBlockE 1 (thenE (W35 k35_9 Q) Q))) .normal e w := fun e w h => then_N (s35_10 (R := R) (Q := (inBlockE 1 (thenE (W35 k35_9 Q) Q))) (K1 := K1) hN e w h)
  have hN := hN'
  exact region_ok 4 (fun e w => m35_10 R K1 (e 0) (e 1) (e 5) (e 6) (e 8) (e 9) w) (by kernel_rfl) (kcast (by kernel_rfl) h) hN (by kernel_rfl)
theorem s35_4 {R : Value → World → Prop} {Q : Exit → Env → World → Prop} (hR : ∀ e w, (R (e 4) w) → Q .ret e w) (e : Env) (w : World) (h : m35_4 R (e 4) w) : W35 k35_4 Q e w := by
  unfold m35_4 at h
  exact ret_ok (by kernel_rfl) (hR _ _ h)
theorem s35_3 {R : Value → World → Prop} {Q : Exit → Env → World → Prop} (hR : ∀ e w, (R (e 4) w) → Q .ret e w) (e : Env) (w : World) (h : m35_3 R (e 5) w) : W35 k35_3 Q e w := by
  unfold m35_3 at h
  refine seq_ok' (by kernel_rfl) ?_
  have hN' : ∀ e w, (m35_4 R (e 4) w) → (thenE (W35 k35_4 Q) Q) .normal e w := fun e w h => then_N (s35_4 (R := R) (Q := Q) hR e w h)
  have hN := hN'
  exact region_ok 8 (fun e w => m35_4 R (e 4) w) (by kernel_rfl) (kcast (by kernel_rfl) h) hN (by kernel_rfl)
theorem s35_7 {R : Value → World → Prop} {K1 : (Value × Value) → World → Prop} {Q : Exit → Env → World → Prop} (hN : ∀ e w, (K1 ((e 5), (e 9)) w) → Q .normal e w) (hX0 : ∀ e w, (m35_3 R (e 5) w) → Q (.exit 0) e w) (e : Env) (w : World) (h : m35_7 R K1 (e 0) (e 1) (e 5) (e 8) (e 9) (e 10) w) : W35 k35_7 Q e w := by
  unfold m35_7 at h
  refine seq_ok' (by kernel_rfl) ?_
  have hN' : ∀ e w, (m35_8 R K1 (e 0) (e 1) (e 5) (e 8) (e 9) w) → (thenE (W35 k35_8 Q) Q) .normal e w := fun e w h => then_N (s35_8 (R := R) (Q := Q) (K1 := K1) hN e w h)
  have hX0 : ∀ e w, (m35_3 R (e 5) w) → (thenE (W35 k35_8 Q) Q) (.exit 0) e w := fun e w h => then_X (hX0 e w h)
  have hN := hN'
  refine cond_ok (Operand.tmp 10) (by kernel_rfl) h (fun h1 => ?_) (fun h1 => ?_)
  · exact skip_ok (by kernel_rfl) (hN _ _ h1)
  · exact exit_ok 0 (by kernel_rfl) (hX0 _ _ h1)
theorem s35_6 {R : Value → World → Prop} {K1 : (Value × Value) → World → Prop} {Q : Exit → Env → World → Prop} (hN : ∀ e w, (K1 ((e 5), (e 9)) w) → Q .normal e w) (hX0 : ∀ e w, (m35_3 R (e 5) w) → Q (.exit 0) e w) (e : Env) (w : World) (h : m35_6 R K1 (e 0) (e 1) (e 5) (e 8) (e 9) w) : W35 k35_6 Q e w := by
  unfold m35_6 at h
  refine seq_ok' (by kernel_rfl) ?_
  have hN' : ∀ e w, (m35_7 R K1 (e 0) (e 1) (e 5) (e 8) (e 9) (e 10) w) → (thenE (W35 k35_7 Q) Q) .normal e w := fun e w h => then_N (s35_7 (R := R) (Q := Q) (K1 := K1) hN hX0 e w h)
  have hN := hN'
  exact region_ok 3 (fun e w => m35_7 R K1 (e 0) (e 1) (e 5) (e 8) (e 9) (e 10) w) (by kernel_rfl) (kcast (by kernel_rfl) h) hN (by kernel_rfl)
theorem s35_5 {R : Value → World → Prop} {Q : Exit → Env → World → Prop} (hN : ∀ e w, (m35_3 R (e 5) w) → Q .normal e w) (e : Env) (w : World) (h : m35_5 R (e 0) (e 1) (e 5) (e 8) (e 9) w) : W35 k35_5 Q e w := by
  unfold m35_5 at h
  refine block_ok 0 (by kernel_rfl) ?_
  have hX0 : ∀ e w, (m35_3 R (e 5) w) → (inBlockE 0 Q) (.exit 0) e w := fun e w h => inBlock_same (Q := Q) 0 (hN e w h)
  refine loop_ok' (fun (e : Env) => (e 5, e 9)) [0, 1, 8] (by kernel_rfl) (by kernel_rfl) h (fun K e' w' hk h' => ?_)
  have r0 : e' 0 = e 0 := hk 0 (by decide)
  have r1 : e' 1 = e 1 := hk 1 (by decide)
  have r8 : e' 8 = e 8 := hk 8 (by decide)
  have hX0 : ∀ e w, (m35_3 R (e 5) w) → (thenE (fun (e : Env) w => K ((e 5), (e 9)) w) (inBlockE 0 Q)) (.exit 0) e w := fun e w h => then_X (hX0 e w h)
  exact s35_6 (R := R) (Q := (thenE (fun (e : Env) w => K ((e 5), (e 9)) w) (inBlockE 0 Q))) (K1 := K) (fun _ _ h => then_N h) hX0 e' w' (by rw [r0, r1, r8]; exact h')
theorem s35_2 {R : Value → World → Prop} {Q : Exit → Env → World → Prop} (hR : ∀ e w, (R (e 4) w) → Q .ret e w) (e : Env) (w : World) (h : m35_2 R (e 0) (e 1) (e 5) w) : W35 k35_2 Q e w := by
  unfold m35_2 at h
  refine seq_ok' (by kernel_rfl) ?_
  have hN' : ∀ e w, (m35_3 R (e 5) w) → (thenE (W35 k35_3 Q) Q) .normal e w := fun e w h => then_N (s35_3 (R := R) (Q := Q) hR e w h)
  have hN := hN'
  refine seq_ok' (by kernel_rfl) ?_
  have hN' : ∀ e w, (m35_5 R (e 0) (e 1) (e 5) (e 8) (e 9) w) → (thenE (W35 k35_5 (thenE (W35 k35_3 Q) Q)) (thenE (W35 k35_3 Q) Q)) .normal e w := fun e w h => then_N (s35_5 (R := R) (Q := (thenE (W35 k35_3 Q) Q)) hN e w h)
  have hN := hN'
  exact region_ok 2 (fun e w => m35_5 R (e 0) (e 1) (e 5) (e 8) (e 9) w) (by kernel_rfl) (kcast (by kernel_rfl) h) hN (by kernel_rfl)
theorem s35_1 {R : Value → World → Prop} {Q : Exit → Env → World → Prop} (hR : ∀ e w, (R (e 4) w) → Q .ret e w) (e : Env) (w : World) (h : m35_1 R (e 0) (e 1) w) : W35 k35_1 Q e w := by
  unfold m35_1 at h
  refine seq_ok' (by kernel_rfl) ?_
  have hN' : ∀ e w, (m35_2 R (e 0) (e 1) (e 5) w) → (thenE (W35 k35_2 Q) Q) .normal e w := fun e w h => then_N (s35_2 (R := R) (Q := Q) hR e w h)
  have hN := hN'
  exact region_ok 1 (fun e w => m35_2 R (e 0) (e 1) (e 5) w) (by kernel_rfl) (kcast (by kernel_rfl) h) hN (by kernel_rfl)
theorem s35_0 {R : Value → World → Prop} {Q : Exit → Env → World → Prop} (hR : ∀ e w, (R (e 4) w) → Q .ret e w) (e : Env) (w : World) (h : m35_0 R (e 0) (e 1) w) : W35 k35_0 Q e w := by
  unfold m35_0 at h
  refine seq_ok' (by kernel_rfl) ?_
  have hN' : ∀ e w, (m35_1 R (e 0) (e 1) w) → (thenE (W35 k35_1 Q) Q) .normal e w := fun e w h => then_N (s35_1 (R := R) (Q := Q) hR e w h)
  have hN := hN'
  exact region_ok 0 (fun e w => m35_1 R (e 0) (e 1) w) (by kernel_rfl) (kcast (by kernel_rfl) h) hN (by kernel_rfl)
abbrev m35 (R : Value → World → Prop) (l0 : Value) (order1 : Value) (w : World) : Prop := m35_0 R l0 order1 w
theorem s35 (l0 : Value) (order1 : Value) {R : Value → World → Prop} {w : World} (h : m35 R l0 order1 w) :
    Calls Try.prog 35 #[l0, order1] w fun e w' => ∃ v, e = .returned v ∧ R v w' :=
  calls_of_cwp (st := (fun i => cond (Nat.beq i 5) 11 (0))) (c := k35_0) (by kernel_rfl) Try.func35 (by kernel_rfl) (Nat.le_of_ble_eq_true (by kernel_rfl)) (by kernel_rfl)
    (s35_0 (R := R) (Q := endE Try.prog Try.f35 R) (fun e w h => kcast (by kernel_rfl) h) (argsE #[l0, order1]) w (kcast (by kernel_rfl) h))
/-! ### (*headgate/heavy.Heavy).light$1 -/
def m36_2 (R : Value → World → Prop) (t4 : Value) (w : World) : Prop :=
  R t4 w
def m36_1 (R : Value → World → Prop) (a2 : Value) (b3 : Value) (w : World) : Prop :=
  anyDraw w fun w =>
  valS Try.prog (Instr.fieldAt 45 a2 1) w fun t5 =>
  valS Try.prog (Instr.loadAt 3 t5) w fun t6 =>
  valS Try.prog (Instr.fieldAt 45 b3 1) w fun t7 =>
  valS Try.prog (Instr.loadAt 3 t7) w fun t8 =>
  callS Try.prog (fnV 32) #[t6, t8] w fun t9 =>
  valS Try.prog (Instr.fieldAt 45 a2 0) w fun t10 =>
  valS Try.prog (Instr.loadAt 3 t10) w fun t11 =>
  valS Try.prog (Instr.fieldAt 45 b3 0) w fun t12 =>
  valS Try.prog (Instr.loadAt 3 t12) w fun t13 =>
  callS Try.prog (fnV 32) #[t11, t13] w fun t14 =>
  valP Try.prog (Instr.buildSlice 22 2 #[(0, t9), (1, t14)]) w fun t15 w =>
  callP Try.prog (fnV 31) #[t15] w fun t16 w =>
  m36_2 R t16 w
def m36_0 (R : Value → World → Prop) (a0 : Value) (b1 : Value) (w : World) : Prop :=
  valP Try.prog (Instr.box 45 a0) w fun a2 w =>
  valP Try.prog (Instr.box 45 b1) w fun b3 w =>
  m36_1 R a2 b3 w
abbrev W36 := cwp Try.prog (fun i => cond (Nat.beq i 1) 12 (0))
noncomputable def k36_0 : Code := (bodyOf Try.f36)
noncomputable def k36_1 : Code := (c2 k36_0)
noncomputable def k36_2 : Code := (c2 k36_1)
theorem s36_2 {R : Value → World → Prop} {Q : Exit → Env → World → Prop} (hR : ∀ e w, (R (e 4) w) → Q .ret e w) (e : Env) (w : World) (h : m36_2 R (e 4) w) : W36 k36_2 Q e w := by
  unfold m36_2 at h
  exact ret_ok (by kernel_rfl) (hR _ _ h)
theorem s36_1 {R : Value → World → Prop} {Q : Exit → Env → World → Prop} (hR : ∀ e w, (R (e 4) w) → Q .ret e w) (e : Env) (w : World) (h : m36_1 R (e 2) (e 3) w) : W36 k36_1 Q e w := by
  unfold m36_1 at h
  refine seq_ok' (by kernel_rfl) ?_
  have hN' : ∀ e w, (m36_2 R (e 4) w) → (thenE (W36 k36_2 Q) Q) .normal e w := fun e w h => then_N (s36_2 (R := R) (Q := Q) hR e w h)
  have hN := hN'
  exact tail_ok 1 10 (fun e w => m36_2 R (e 4) w) (by kernel_rfl) (by kernel_rfl) (by kernel_rfl) (kcast (by kernel_rfl) h) hN (by kernel_rfl)
theorem s36_0 {R : Value → World → Prop} {Q : Exit → Env → World → Prop} (hR : ∀ e w, (R (e 4) w) → Q .ret e w) (e : Env) (w : World) (h : m36_0 R (e 0) (e 1) w) : W36 k36_0 Q e w := by
  unfold m36_0 at h
  refine seq_ok' (by kernel_rfl) ?_
  have hN' : ∀ e w, (m36_1 R (e 2) (e 3) w) → (thenE (W36 k36_1 Q) Q) .normal e w := fun e w h => then_N (s36_1 (R := R) (Q := Q) hR e w h)
  have hN := hN'
  exact region_ok 0 (fun e w => m36_1 R (e 2) (e 3) w) (by kernel_rfl) (kcast (by kernel_rfl) h) hN (by kernel_rfl)
abbrev m36 (R : Value → World → Prop) (a0 : Value) (b1 : Value) (w : World) : Prop := m36_0 R a0 b1 w
theorem s36 (a0 : Value) (b1 : Value) {R : Value → World → Prop} {w : World} (h : m36 R a0 b1 w) :
    Calls Try.prog 36 #[a0, b1] w fun e w' => ∃ v, e = .returned v ∧ R v w' :=
  calls_of_cwp (st := (fun i => cond (Nat.beq i 1) 12 (0))) (c := k36_0) (by kernel_rfl) Try.func36 (by kernel_rfl) (Nat.le_of_ble_eq_true (by kernel_rfl)) (by kernel_rfl)
    (s36_0 (R := R) (Q := endE Try.prog Try.f36 R) (fun e w h => kcast (by kernel_rfl) h) (argsE #[a0, b1]) w (kcast (by kernel_rfl) h))
/-! ### cmp.isNaN[int] -/
def m39_2 (R : Value → World → Prop) (t2 : Value) (w : World) : Prop :=
  R t2 w
def m39_1 (R : Value → World → Prop) (x0 : Value) (w : World) : Prop :=
  valP Try.prog (binS BinOp.neq 3 (Operand.tmp 3) (Operand.tmp 4) x0 x0) w fun t5 w =>
  m39_2 R t5 w
def m39_0 (R : Value → World → Prop) (x0 : Value) (w : World) : Prop :=
  m39_1 R x0 w
abbrev W39 := cwp Try.prog (fun i => 0)
noncomputable def k39_0 : Code := (bodyOf Try.f39)
noncomputable def k39_1 : Code := (c2 k39_0)
noncomputable def k39_2 : Code := (c2 k39_1)
theorem s39_2 {R : Value → World → Prop} {Q : Exit → Env → World → Prop} (hR : ∀ e w, (R (e 2) w) → Q .ret e w) (e : Env) (w : World) (h : m39_2 R (e 2) w) : W39 k39_2 Q e w := by
  unfold m39_2 at h
  exact ret_ok (by kernel_rfl) (hR _ _ h)
theorem s39_1 {R : Value → World → Prop} {Q : Exit → Env → World → Prop} (hR : ∀ e w, (R (e 2) w) → Q .ret e w) (e : Env) (w : World) (h : m39_1 R (e 0) w) : W39 k39_1 Q e w := by
  unfold m39_1 at h
  refine seq_ok' (by kernel_rfl) ?_
  have hN' : ∀ e w, (m39_2 R (e 2) w) → (thenE (W39 k39_2 Q) Q) .normal e w := fun e w h => then_N (s39_2 (R := R) (Q := Q) hR e w h)
  have hN := hN'
  exact region_ok 1 (fun e w => m39_2 R (e 2) w) (by kernel_rfl) (kcast (by kernel_rfl) h) hN (by kernel_rfl)
theorem s39_0 {R : Value → World → Prop} {Q : Exit → Env → World → Prop} (hR : ∀ e w, (R (e 2) w) → Q .ret e w) (e : Env) (w : World) (h : m39_0 R (e 0) w) : W39 k39_0 Q e w := by
  unfold m39_0 at h
  refine seq_ok' (by kernel_rfl) ?_
  have hN' : ∀ e w, (m39_1 R (e 0) w) → (thenE (W39 k39_1 Q) Q) .normal e w := fun e w h => then_N (s39_1 (R := R) (Q := Q) hR e w h)
  have hN := hN'
  exact region_ok 0 (fun e w => m39_1 R (e 0) w) (by kernel_rfl) (kcast (by kernel_rfl) h) hN (by kernel_rfl)
abbrev m39 (R : Value → World → Prop) (x0 : Value) (w : World) : Prop := m39_0 R x0 w
theorem s39 (x0 : Value) {R : Value → World → Prop} {w : World} (h : m39 R x0 w) :
    Calls Try.prog 39 #[x0] w fun e w' => ∃ v, e = .returned v ∧ R v w' :=
  calls_of_cwp (st := (fun i => 0)) (c := k39_0) (by kernel_rfl) Try.func39 (by kernel_rfl) (Nat.le_of_ble_eq_true (by kernel_rfl)) (by kernel_rfl)
    (s39_0 (R := R) (Q := endE Try.prog Try.f39 R) (fun e w h => kcast (by kernel_rfl) h) (argsE #[x0]) w (kcast (by kernel_rfl) h))
/-! ### headgate/headgateref30.New -/
def m11_5 (R : Value → World → Prop) (t2 : Value) (t3 : Value) (w : World) : Prop :=
  valS Try.prog (loadC 30 t2) w fun r0 =>
  R (Value.tuple #[r0, t3]) w
def m11_3 (R : Value → World → Prop) (t2 : Value) (t3 : Value) (w : World) : Prop :=
  valS Try.prog (loadC 30 t2) w fun r0 =>
  R (Value.tuple #[r0, t3]) w
def m11_2 (R : Value → World → Prop) (most0 : Value) (t2 : Value) (w : World) : Prop :=
  valP Try.prog (Instr.build 30 #[(0, most0)]) w fun t12 w =>
  unitP Try.prog (Instr.storeAt 30 t2 t12) w fun _ w =>
  m11_3 R t2 (Value.int IntKind.i64 0) w
def m11_4 (R : Value → World → Prop) (most0 : Value) (t2 : Value) (t9 : Value) (w : World) : Prop :=
  condP t9
  (valP Try.prog (Instr.build 30 #[]) w fun t10 w =>
  unitP Try.prog (Instr.storeAt 30 t2 t10) w fun _ w =>
  m11_5 R t2 (Value.int IntKind.i64 1) w)
  (m11_2 R most0 t2 w)
def m11_1 (R : Value → World → Prop) (most0 : Value) (t2 : Value) (w : World) : Prop :=
  valP Try.prog (binS BinOp.lss 3 (Operand.tmp 4) (Operand.const (Value.int IntKind.i64 1)) most0 (Value.int IntKind.i64 1)) w fun t5 w =>
  condP t5
  (pickP t5 (Value.bool true) undef fun t9 =>
  m11_4 R most0 t2 t9 w)
  (valP Try.prog (binS BinOp.gtr 3 (Operand.tmp 7) (Operand.const (Value.int IntKind.i64 64)) most0 (Value.int IntKind.i64 64)) w fun t8 w =>
  pickP t5 (Value.bool true) t8 fun t9 =>
  m11_4 R most0 t2 t9 w)
def m11_0 (R : Value → World → Prop) (most0 : Value) (w : World) : Prop :=
  valP Try.prog (Instr.alloc 30 true (.tuple #[])) w fun t2 w =>
  m11_1 R most0 t2 w
abbrev W11 := cwp Try.prog (fun i => 0)
noncomputable def k11_0 : Code := (bodyOf Try.f11)
noncomputable def k11_1 : Code := (c2 k11_0)
noncomputable def k11_2 : Code := (c2 k11_1)
noncomputable def k11_3 : Code := (c2 k11_2)
noncomputable def k11_4 : Code := (c2 (c1 k11_1))
noncomputable def k11_5 : Code := (c2 (c1 k11_4))
theorem s11_5 {R : Value → World → Prop} {Q : Exit → Env → World → Prop} (hR : ∀ e w, (valS Try.prog (loadC 30 (e 2)) w fun r0 =>
R (Value.tuple #[r0, (e 3)]) w) → Q .ret e w) (e : Env) (w : World) (h : m11_5 R (e 2) (e 3) w) : W11 k11_5 Q e w := by
  unfold m11_5 at h
  exact ret_ok (by kernel_rfl) (hR _ _ h)
theorem s11_3 {R : Value → World → Prop} {Q : Exit → Env → World → Prop} (hR : ∀ e w, (valS Try.prog (loadC 30 (e 2)) w fun r0 =>
R (Value.tuple #[r0, (e 3)]) w) → Q .ret e w) (e : Env) (w : World) (h : m11_3 R (e 2) (e 3) w) : W11 k11_3 Q e w := by
  unfold m11_3 at h
  exact ret_ok (by kernel_rfl) (hR _ _ h)
theorem s11_2 {R : Value → World → Prop} {Q : Exit → Env → World → Prop} (hR : ∀ e w, (valS Try.prog (loadC 30 (e 2)) w fun r0 =>
R (Value.tuple #[r0, (e 3)]) w) → Q .ret e w) (e : Env) (w : World) (h : m11_2 R (e 0) (e 2) w) : W11 k11_2 Q e w := by
  unfold m11_2 at h
  refine seq_ok' (by kernel_rfl) ?_
  have hN' : ∀ e w, (m11_3 R (e 2) (e 3) w) → (thenE (W11 k11_3 Q) Q) .normal e w := fun e w h => then_N (s11_3 (R := R) (Q := Q) hR e w h)
  have hN := hN'
  exact region_ok 3 (fun e w => m11_3 R (e 2) (e 3) w) (by kernel_rfl) (kcast (by kernel_rfl) h) hN (by kernel_rfl)
theorem s11_4 {R : Value → World → Prop} {Q : Exit → Env → World → Prop} (hN : ∀ e w, (m11_2 R (e 0) (e 2) w) → Q .normal e w) (hR : ∀ e w, (valS Try.prog (loadC 30 (e 2)) w fun r0 =>
R (Value.tuple #[r0, (e 3)]) w) → Q .ret e w) (e : Env) (w : World) (h : m11_4 R (e 0) (e 2) (e 9) w) : W11 k11_4 Q e w := by
  unfold m11_4 at h
  refine cond_ok (Operand.tmp 9) (by kernel_rfl) h (fun h1 => ?_) (fun h1 => ?_)
  · refine seq_ok' (by kernel_rfl) ?_
    have hN' : ∀ e w, (m11_5 R (e 2) (e 3) w) → (thenE (W11 k11_5 Q) Q) .normal e w := fun e w h => then_N (s11_5 (R := R) (Q := Q) hR e w h)
    have hN := hN'
    exact region_ok 2 (fun e w => m11_5 R (e 2) (e 3) w) (by kernel_rfl) (kcast (by kernel_rfl) h1) hN (by kernel_rfl)
  · exact skip_ok (by kernel_rfl) (hN _ _ h1)
theorem s11_1 {R : Value → World → Prop} {Q : Exit → Env → World → Prop} (hR : ∀ e w, (valS Try.prog (loadC 30 (e 2)) w fun r0 =>
R (Value.tuple #[r0, (e 3)]) w) → Q .ret e w) (e : Env) (w : World) (h : m11_1 R (e 0) (e 2) w) : W11 k11_1 Q e w := by
  unfold m11_1 at h
  refine seq_ok' (by kernel_rfl) ?_
  have hN' : ∀ e w, (m11_2 R (e 0) (e 2) w) → (thenE (W11 k11_2 Q) Q) .normal e w := fun e w h => then_N (s11_2 (R := R) (Q := Q) hR e w h)
  have hR : ∀ e w, (valS Try.prog (loadC 30 (e 2)) w fun r0 =>
  R (Value.tuple #[r0, (e 3)]) w) → (thenE (W11 k11_2 Q) Q) .ret e w := fun e w h => then_R (hR e w h)
  have hN := hN'
  refine seq_ok' (by kernel_rfl) ?_
  have hN' : ∀ e w, (m11_4 R (e 0) (e 2) (e 9) w) → (thenE (W11 k11_4 (thenE (W11 k11_2 Q) Q)) (thenE (W11 k11_2 Q) Q)) .normal e w := fun e w h => then_N (s11_4 (R := R) (Q := (thenE (W11 k11_2 Q) Q)) hN hR e w h)
  have hN := hN'
  exact region_ok 1 (fun e w => m11_4 R (e 0) (e 2) (e 9) w) (by kernel_rfl) (kcast (by kernel_rfl) h) hN (by kernel_rfl)
theorem s11_0 {R : Value → World → Prop} {Q : Exit → Env → World → Prop} (hR : ∀ e w, (valS Try.prog (loadC 30 (e 2)) w fun r0 =>
R (Value.tuple #[r0, (e 3)]) w) → Q .ret e w) (e : Env) (w : World) (h : m11_0 R (e 0) w) : W11 k11_0 Q e w := by
  unfold m11_0 at h
  refine seq_ok' (by kernel_rfl) ?_
  have hN' : ∀ e w, (m11_1 R (e 0) (e 2) w) → (thenE (W11 k11_1 Q) Q) .normal e w := fun e w h => then_N (s11_1 (R := R) (Q := Q) hR e w h)
  have hN := hN'
  exact region_ok 0 (fun e w => m11_1 R (e 0) (e 2) w) (by kernel_rfl) (kcast (by kernel_rfl) h) hN (by kernel_rfl)
abbrev m11 (R : Value → World → Prop) (most0 : Value) (w : World) : Prop := m11_0 R most0 w
theorem s11 (most0 : Value) {R : Value → World → Prop} {w : World} (h : m11 R most0 w) :
    Calls Try.prog 11 #[most0] w fun e w' => ∃ v, e = .returned v ∧ R v w' :=
  calls_of_cwp (st := (fun i => 0)) (c := k11_0) (by kernel_rfl) Try.func11 (by kernel_rfl) (Nat.le_of_ble_eq_true (by kernel_rfl)) (by kernel_rfl)
    (s11_0 (R := R) (Q := endE Try.prog Try.f11 R) (fun e w h => kcast (by kernel_rfl) h) (argsE #[most0]) w (kcast (by kernel_rfl) h))
end Go.Proofs.Ytcfdalmnhgiaeaa.M
