/- What functions' texts ask of their ends, told over values that have names; printed by a program of this work. -/
import Derived.Test.YtjjmlopmemmobaaFw
import Derived.Test.YtjjmlopmemmobaaProg
namespace Go.Proofs.Ytjjmlopmemmobaa.M
open Go.Proofs.Ytjjmlopmemmobaa.F
set_option linter.unusedVariables false
set_option maxRecDepth 100000
/-! ### headgate/assign.Range -/
def m92_26 (R : VP) (t4 t5 : Value) (w : World) : Prop :=
  R (Value.tuple #[t4, t5]) w
def m92_23 (R : VP) (K1 : (Value × Value) → World → Prop) (K2 : (Value × Value) → World → Prop) (parts0 s6 l8 m10 t25 t26 t27 t44 t45 : Value) (w : World) : Prop :=
  valP Try.prog (binS BinOp.add 3 (Operand.tmp 45) (Operand.const (Value.int IntKind.i64 1)) t45 (Value.int IntKind.i64 1)) w fun t51 w =>
  K2 (l8, t51) w
def m92_22 (R : VP) (K1 : (Value × Value) → World → Prop) (K2 : (Value × Value) → World → Prop) (parts0 s6 l8 m10 t25 t26 t27 t44 t45 : Value) (w : World) : Prop :=
  valP Try.prog (Instr.buildSlice 28 1 #[(0, m10)]) w fun t49 w =>
  builtinP Try.prog Builtin.append #[28, 28] 28 #[false, false] #[l8, t49] w fun t50 w =>
  m92_23 R K1 K2 parts0 s6 t50 m10 t25 t26 t27 t44 t45 w
def m92_15 (R : VP) (K1 : (Value × Value) → World → Prop) (parts0 s6 l8 t25 t26 t27 : Value) (w : World) : Prop :=
  valP Try.prog (binS BinOp.add 3 (Operand.tmp 27) (Operand.const (Value.int IntKind.i64 1)) t27 (Value.int IntKind.i64 1)) w fun t52 w =>
  K1 (l8, t52) w
def m92_21 (R : VP) (K1 : (Value × Value) → World → Prop) (K2 : (Value × Value) → World → Prop) (parts0 s6 l8 m10 t25 t26 t27 t44 t45 t46 : Value) (w : World) : Prop :=
  condP t46
  (m92_22 R K1 K2 parts0 s6 l8 m10 t25 t26 t27 t44 t45 w)
  (m92_15 R K1 parts0 s6 l8 t25 t26 t27 w)
def m92_20 (R : VP) (K1 : (Value × Value) → World → Prop) (K2 : (Value × Value) → World → Prop) (parts0 s6 l8 m10 t25 t26 t27 t44 t45 : Value) (w : World) : Prop :=
  valP Try.prog (binS BinOp.lss 3 (Operand.tmp 45) (Operand.tmp 44) t45 t44) w fun t46 w =>
  m92_21 R K1 K2 parts0 s6 l8 m10 t25 t26 t27 t44 t45 t46 w
def m92_19 (R : VP) (K1 : (Value × Value) → World → Prop) (parts0 s6 l8 m10 t25 t26 t27 t44 t45 : Value) (w : World) : Prop :=
  loopP (fun (K2 : (Value × Value) → World → Prop) (s : Value × Value) w => m92_20 R K1 K2 parts0 s6 s.1 m10 t25 t26 t27 t44 s.2 w) (l8, t45) w
def m92_18 (R : VP) (K1 : (Value × Value) → World → Prop) (parts0 s6 l8 m10 n11 t25 t26 t27 : Value) (w : World) : Prop :=
  m92_19 R K1 parts0 s6 l8 m10 t25 t26 t27 n11 (Value.int IntKind.i64 0) w
def m92_24 (R : VP) (K1 : (Value × Value) → World → Prop) (parts0 s6 l8 m10 n11 t25 t26 t27 t41 : Value) (w : World) : Prop :=
  condP t41
  (valP Try.prog (binS BinOp.add 3 (Operand.tmp 42) (Operand.const (Value.int IntKind.i64 1)) n11 (Value.int IntKind.i64 1)) w fun t43 w =>
  m92_18 R K1 parts0 s6 l8 m10 t43 t25 t26 t27 w)
  (m92_18 R K1 parts0 s6 l8 m10 n11 t25 t26 t27 w)
def m92_17 (R : VP) (K1 : (Value × Value) → World → Prop) (parts0 s6 l8 i9 m10 n11 t25 t26 t27 : Value) (w : World) : Prop :=
  nilCheckP s6 fun t38 =>
  valP Try.prog (Instr.fieldAt 131 t38 3) w fun t39 w =>
  valP Try.prog (Instr.loadAt 3 t39) w fun t40 w =>
  valP Try.prog (binS BinOp.lss 3 (Operand.tmp 36) (Operand.tmp 40) i9 t40) w fun t41 w =>
  m92_24 R K1 parts0 s6 l8 m10 n11 t25 t26 t27 t41 w
def m92_16 (R : VP) (K1 : (Value × Value) → World → Prop) (parts0 s6 l8 i9 m10 t25 t26 t27 : Value) (w : World) : Prop :=
  nilCheckP s6 fun t33 =>
  valP Try.prog (Instr.fieldAt 131 t33 2) w fun t34 w =>
  valP Try.prog (Instr.loadAt 3 t34) w fun t35 w =>
  m92_17 R K1 parts0 s6 l8 i9 m10 t35 t25 t26 t27 w
def m92_14 (R : VP) (K1 : (Value × Value) → World → Prop) (parts0 s6 l8 t25 t26 t27 : Value) (w : World) : Prop :=
  valP Try.prog (Instr.indexAt 28 t25 t27) w fun t30 w =>
  valP Try.prog (Instr.loadAt 3 t30) w fun t31 w =>
  m92_16 R K1 parts0 s6 l8 t27 t31 t25 t26 t27 w
def m92_9 (R : VP) (K1 : VP) (parts0 l8 : Value) (w : World) : Prop :=
  valP Try.prog (Instr.buildSlice 28 1 #[(0, (Value.int IntKind.i64 0))]) w fun t58 w =>
  builtinP Try.prog Builtin.append #[28, 28] 28 #[false, false] #[l8, t58] w fun t59 w =>
  K1 t59 w
def m92_7 (R : VP) (t4 t5 : Value) (w : World) : Prop :=
  R (Value.tuple #[t4, t5]) w
def m92_6 (R : VP) (l8 : Value) (w : World) : Prop :=
  m92_7 R l8 (Value.int IntKind.i64 0) w
def m92_10 (R : VP) (K1 : VP) (parts0 l8 t56 : Value) (w : World) : Prop :=
  condP t56
  (m92_9 R K1 parts0 l8 w)
  (m92_6 R l8 w)
def m92_8 (R : VP) (K1 : VP) (parts0 l8 : Value) (w : World) : Prop :=
  builtinP Try.prog Builtin.len #[28] 3 #[false] #[l8] w fun t54 w =>
  valP Try.prog (binS BinOp.lss 3 (Operand.tmp 54) (Operand.tmp 55) t54 parts0) w fun t56 w =>
  m92_10 R K1 parts0 l8 t56 w
def m92_5 (R : VP) (parts0 l8 : Value) (w : World) : Prop :=
  loopP (fun (K1 : VP) (s : Value) w => m92_8 R K1 parts0 s w) l8 w
def m92_13 (R : VP) (K1 : (Value × Value) → World → Prop) (parts0 s6 l8 t25 t26 t27 t28 : Value) (w : World) : Prop :=
  condP t28
  (m92_14 R K1 parts0 s6 l8 t25 t26 t27 w)
  (m92_5 R parts0 l8 w)
def m92_12 (R : VP) (K1 : (Value × Value) → World → Prop) (parts0 s6 l8 t25 t26 t27 : Value) (w : World) : Prop :=
  valP Try.prog (binS BinOp.lss 3 (Operand.tmp 27) (Operand.tmp 26) t27 t26) w fun t28 w =>
  m92_13 R K1 parts0 s6 l8 t25 t26 t27 t28 w
def m92_11 (R : VP) (parts0 s6 l8 t25 t26 t27 : Value) (w : World) : Prop :=
  loopP (fun (K1 : (Value × Value) → World → Prop) (s : Value × Value) w => m92_12 R K1 parts0 s6 s.1 t25 t26 s.2 w) (l8, t27) w
def m92_4 (R : VP) (parts0 s6 l8 : Value) (w : World) : Prop :=
  nilCheckP s6 fun t23 =>
  valP Try.prog (Instr.fieldAt 131 t23 0) w fun t24 w =>
  valP Try.prog (Instr.loadAt 28 t24) w fun t25 w =>
  builtinP Try.prog Builtin.len #[28] 3 #[false] #[t25] w fun t26 w =>
  m92_11 R parts0 s6 l8 t25 t26 (Value.int IntKind.i64 0) w
def m92_3 (R : VP) (parts0 s6 : Value) (w : World) : Prop :=
  valP Try.prog (Instr.makeSlice 28 (Value.int IntKind.i64 0) parts0) w fun t21 w =>
  m92_4 R parts0 s6 t21 w
def m92_25 (R : VP) (parts0 s6 t19 : Value) (w : World) : Prop :=
  condP t19
  (m92_26 R (Value.slice none 0 0) (Value.int IntKind.i64 1) w)
  (m92_3 R parts0 s6 w)
def m92_2 (R : VP) (parts0 s6 ok7 : Value) (w : World) : Prop :=
  valP Try.prog (Op.unary UnOp.not ok7) w fun t19 w =>
  m92_25 R parts0 s6 t19 w
def m92_1 (R : VP) (parts0 members1 : Value) (w : World) : Prop :=
  callP Try.prog (fnV 99) #[parts0, members1] w fun t15 w =>
  valP Try.prog (Instr.extract t15 0) w fun t16 w =>
  valP Try.prog (Instr.extract t15 1) w fun t17 w =>
  m92_2 R parts0 t16 t17 w
def m92_0 (R : VP) (parts0 members1 : Value) (w : World) : Prop :=
  m92_1 R parts0 members1 w
abbrev W92 := cwp Try.prog (fun i => 0)
noncomputable def k92_0 : Code := (bodyOf Try.f92)
noncomputable def k92_1 : Code := (c2 k92_0)
noncomputable def k92_2 : Code := (c2 k92_1)
noncomputable def k92_3 : Code := (c2 k92_2)
noncomputable def k92_4 : Code := (c2 k92_3)
noncomputable def k92_5 : Code := (c2 k92_4)
noncomputable def k92_6 : Code := (c2 k92_5)
noncomputable def k92_7 : Code := (c2 k92_6)
noncomputable def k92_8 : Code := (c1 (c1 (c1 k92_5)))
noncomputable def k92_9 : Code := (c2 k92_8)
noncomputable def k92_10 : Code := (c2 (c1 k92_8))
noncomputable def k92_11 : Code := (c2 (c1 k92_4))
noncomputable def k92_12 : Code := (c1 (c1 k92_11))
noncomputable def k92_13 : Code := (c2 k92_12)
noncomputable def k92_14 : Code := (c2 k92_13)
noncomputable def k92_15 : Code := (c2 k92_14)
noncomputable def k92_16 : Code := (c2 (c1 (c1 k92_14)))
noncomputable def k92_17 : Code := (c2 k92_16)
noncomputable def k92_18 : Code := (c2 k92_17)
noncomputable def k92_19 : Code := (c2 k92_18)
noncomputable def k92_20 : Code := (c1 (c1 k92_19))
noncomputable def k92_21 : Code := (c2 k92_20)
noncomputable def k92_22 : Code := (c2 k92_21)
noncomputable def k92_23 : Code := (c2 k92_22)
noncomputable def k92_24 : Code := (c2 (c1 k92_17))
noncomputable def k92_25 : Code := (c2 (c1 k92_2))
noncomputable def k92_26 : Code := (c2 (c1 k92_25))
theorem s92_26 {R : VP} {Q : EQ} (hR : ∀ e w, (R (Value.tuple #[(e 4), (e 5)]) w) → Q .ret e w) (e : Env) (w : World) (h : m92_26 R (e 4) (e 5) w) : W92 k92_26 Q e w := by
  unfold m92_26 at h
  exact reA (hR _ _ h)
theorem s92_23 {R : VP} {K1 : (Value × Value) → World → Prop} {K2 : (Value × Value) → World → Prop} {Q : EQ} (hN : ∀ e w, (K2 ((e 8), (e 45)) w) → Q .normal e w) (e : Env) (w : World) (h : m92_23 R K1 K2 (e 0) (e 6) (e 8) (e 10) (e 25) (e 26) (e 27) (e 44) (e 45) w) : W92 k92_23 Q e w := by
  unfold m92_23 at h
  exact rgA 14 (fun e w => K2 ((e 8), (e 45)) w) h hN
theorem s92_22 {R : VP} {K1 : (Value × Value) → World → Prop} {K2 : (Value × Value) → World → Prop} {Q : EQ} (hN : ∀ e w, (K2 ((e 8), (e 45)) w) → Q .normal e w) (e : Env) (w : World) (h : m92_22 R K1 K2 (e 0) (e 6) (e 8) (e 10) (e 25) (e 26) (e 27) (e 44) (e 45) w) : W92 k92_22 Q e w := by
  unfold m92_22 at h
  refine seA ?_
  have hN : ∀ e w, (m92_23 R K1 K2 (e 0) (e 6) (e 8) (e 10) (e 25) (e 26) (e 27) (e 44) (e 45) w) → (thenE (W92 k92_23 Q) Q) .normal e w := fun e w h => then_N (s92_23 (R := R) (Q := Q) (K1 := K1) (K2 := K2) hN e w h)
  refine block_ok 3 (by kernel_rfl) ?_
  have hN : ∀ e w, (m92_23 R K1 K2 (e 0) (e 6) (e 8) (e 10) (e 25) (e 26) (e 27) (e 44) (e 45) w) → (inBlockE 3 (thenE (W92 k92_23 Q) Q)) .normal e w := fun e w h => block_N (hN e w h)
  exact rgA 13 (fun e w => m92_23 R K1 K2 (e 0) (e 6) (e 8) (e 10) (e 25) (e 26) (e 27) (e 44) (e 45) w) h hN
theorem s92_15 {R : VP} {K1 : (Value × Value) → World → Prop} {Q : EQ} (hN : ∀ e w, (K1 ((e 8), (e 27)) w) → Q .normal e w) (e : Env) (w : World) (h : m92_15 R K1 (e 0) (e 6) (e 8) (e 25) (e 26) (e 27) w) : W92 k92_15 Q e w := by
  unfold m92_15 at h
  exact rgA 15 (fun e w => K1 ((e 8), (e 27)) w) h hN
theorem s92_21 {R : VP} {K1 : (Value × Value) → World → Prop} {K2 : (Value × Value) → World → Prop} {Q : EQ} (hN : ∀ e w, (K2 ((e 8), (e 45)) w) → Q .normal e w) (hX2 : ∀ e w, (m92_15 R K1 (e 0) (e 6) (e 8) (e 25) (e 26) (e 27) w) → Q (.exit 2) e w) (e : Env) (w : World) (h : m92_21 R K1 K2 (e 0) (e 6) (e 8) (e 10) (e 25) (e 26) (e 27) (e 44) (e 45) (e 46) w) : W92 k92_21 Q e w := by
  unfold m92_21 at h
  refine seA ?_
  have hN : ∀ e w, (m92_22 R K1 K2 (e 0) (e 6) (e 8) (e 10) (e 25) (e 26) (e 27) (e 44) (e 45) w) → (thenE (W92 k92_22 Q) Q) .normal e w := fun e w h => then_N (s92_22 (R := R) (Q := Q) (K1 := K1) (K2 := K2) hN e w h)
  have hX2 : ∀ e w, (m92_15 R K1 (e 0) (e 6) (e 8) (e 25) (e 26) (e 27) w) → (thenE (W92 k92_22 Q) Q) (.exit 2) e w := fun e w h => then_X (hX2 e w h)
  refine coA (Operand.tmp 46) h (fun h1 => ?_) (fun h1 => ?_)
  · exact skA (hN _ _ h1)
  · exact exA 2 (hX2 _ _ h1)
theorem s92_20 {R : VP} {K1 : (Value × Value) → World → Prop} {K2 : (Value × Value) → World → Prop} {Q : EQ} (hN : ∀ e w, (K2 ((e 8), (e 45)) w) → Q .normal e w) (hX2 : ∀ e w, (m92_15 R K1 (e 0) (e 6) (e 8) (e 25) (e 26) (e 27) w) → Q (.exit 2) e w) (e : Env) (w : World) (h : m92_20 R K1 K2 (e 0) (e 6) (e 8) (e 10) (e 25) (e 26) (e 27) (e 44) (e 45) w) : W92 k92_20 Q e w := by
  unfold m92_20 at h
  refine seA ?_
  have hN : ∀ e w, (m92_21 R K1 K2 (e 0) (e 6) (e 8) (e 10) (e 25) (e 26) (e 27) (e 44) (e 45) (e 46) w) → (thenE (W92 k92_21 Q) Q) .normal e w := fun e w h => then_N (s92_21 (R := R) (Q := Q) (K1 := K1) (K2 := K2) hN hX2 e w h)
  exact rgA 12 (fun e w => m92_21 R K1 K2 (e 0) (e 6) (e 8) (e 10) (e 25) (e 26) (e 27) (e 44) (e 45) (e 46) w) h hN
theorem s92_19 {R : VP} {K1 : (Value × Value) → World → Prop} {Q : EQ} (hN : ∀ e w, (m92_15 R K1 (e 0) (e 6) (e 8) (e 25) (e 26) (e 27) w) → Q .normal e w) (e : Env) (w : World) (h : m92_19 R K1 (e 0) (e 6) (e 8) (e 10) (e 25) (e 26) (e 27) (e 44) (e 45) w) : W92 k92_19 Q e w := by
  unfold m92_19 at h
  refine block_ok 2 (by kernel_rfl) ?_
  have hX2 : ∀ e w, (m92_15 R K1 (e 0) (e 6) (e 8) (e 25) (e 26) (e 27) w) → (inBlockE 2 Q) (.exit 2) e w := fun e w h => inBlock_same (Q := Q) 2 (hN e w h)
  refine loop_ok' (fun (e : Env) => (e 8, e 45)) [0, 6, 10, 25, 26, 27, 44] (by kernel_rfl) (by kernel_rfl) h (fun K e' w' hk h' => ?_)
  have r0 : e' 0 = e 0 := hk 0 (by decide)
  have r6 : e' 6 = e 6 := hk 6 (by decide)
  have r10 : e' 10 = e 10 := hk 10 (by decide)
  have r25 : e' 25 = e 25 := hk 25 (by decide)
  have r26 : e' 26 = e 26 := hk 26 (by decide)
  have r27 : e' 27 = e 27 := hk 27 (by decide)
  have r44 : e' 44 = e 44 := hk 44 (by decide)
  have hX2 : ∀ e w, (m92_15 R K1 (e 0) (e 6) (e 8) (e 25) (e 26) (e 27) w) → (thenE (fun (e : Env) w => K ((e 8), (e 45)) w) (inBlockE 2 Q)) (.exit 2) e w := fun e w h => then_X (hX2 e w h)
  exact s92_20 (R := R) (Q := (thenE (fun (e : Env) w => K ((e 8), (e 45)) w) (inBlockE 2 Q))) (K1 := K1) (K2 := K) (fun _ _ h => then_N h) hX2 e' w' (by rw [r0, r6, r10, r25, r26, r27, r44]; exact h')
theorem s92_18 {R : VP} {K1 : (Value × Value) → World → Prop} {Q : EQ} (hN : ∀ e w, (m92_15 R K1 (e 0) (e 6) (e 8) (e 25) (e 26) (e 27) w) → Q .normal e w) (e : Env) (w : World) (h : m92_18 R K1 (e 0) (e 6) (e 8) (e 10) (e 11) (e 25) (e 26) (e 27) w) : W92 k92_18 Q e w := by
  unfold m92_18 at h
  refine seA ?_
  have hN : ∀ e w, (m92_19 R K1 (e 0) (e 6) (e 8) (e 10) (e 25) (e 26) (e 27) (e 44) (e 45) w) → (thenE (W92 k92_19 Q) Q) .normal e w := fun e w h => then_N (s92_19 (R := R) (Q := Q) (K1 := K1) hN e w h)
  exact rgA 11 (fun e w => m92_19 R K1 (e 0) (e 6) (e 8) (e 10) (e 25) (e 26) (e 27) (e 44) (e 45) w) h hN
theorem s92_24 {R : VP} {K1 : (Value × Value) → World → Prop} {Q : EQ} (hN : ∀ e w, (m92_18 R K1 (e 0) (e 6) (e 8) (e 10) (e 11) (e 25) (e 26) (e 27) w) → Q .normal e w) (e : Env) (w : World) (h : m92_24 R K1 (e 0) (e 6) (e 8) (e 10) (e 11) (e 25) (e 26) (e 27) (e 41) w) : W92 k92_24 Q e w := by
  unfold m92_24 at h
  refine coA (Operand.tmp 41) h (fun h1 => ?_) (fun h1 => ?_)
  · exact rgA 10 (fun e w => m92_18 R K1 (e 0) (e 6) (e 8) (e 10) (e 11) (e 25) (e 26) (e 27) w) h1 hN
  · exact skA (hN _ _ h1)
theorem s92_17 {R : VP} {K1 : (Value × Value) → World → Prop} {Q : EQ} (hN : ∀ e w, (m92_15 R K1 (e 0) (e 6) (e 8) (e 25) (e 26) (e 27) w) → Q .normal e w) (e : Env) (w : World) (h : m92_17 R K1 (e 0) (e 6) (e 8) (e 9) (e 10) (e 11) (e 25) (e 26) (e 27) w) : W92 k92_17 Q e w := by
  unfold m92_17 at h
  refine seA ?_
  have hN : ∀ e w, (m92_18 R K1 (e 0) (e 6) (e 8) (e 10) (e 11) (e 25) (e 26) (e 27) w) → (thenE (W92 k92_18 Q) Q) .normal e w := fun e w h => then_N (s92_18 (R := R) (Q := Q) (K1 := K1) hN e w h)
  refine seA ?_
  have hN : ∀ e w, (m92_24 R K1 (e 0) (e 6) (e 8) (e 10) (e 11) (e 25) (e 26) (e 27) (e 41) w) → (thenE (W92 k92_24 (thenE (W92 k92_18 Q) Q)) (thenE (W92 k92_18 Q) Q)) .normal e w := fun e w h => then_N (s92_24 (R := R) (Q := (thenE (W92 k92_18 Q) Q)) (K1 := K1) hN e w h)
  exact rgA 9 (fun e w => m92_24 R K1 (e 0) (e 6) (e 8) (e 10) (e 11) (e 25) (e 26) (e 27) (e 41) w) h hN
theorem s92_16 {R : VP} {K1 : (Value × Value) → World → Prop} {Q : EQ} (hN : ∀ e w, (m92_15 R K1 (e 0) (e 6) (e 8) (e 25) (e 26) (e 27) w) → Q .normal e w) (e : Env) (w : World) (h : m92_16 R K1 (e 0) (e 6) (e 8) (e 9) (e 10) (e 25) (e 26) (e 27) w) : W92 k92_16 Q e w := by
  unfold m92_16 at h
  refine seA ?_
  have hN : ∀ e w, (m92_17 R K1 (e 0) (e 6) (e 8) (e 9) (e 10) (e 11) (e 25) (e 26) (e 27) w) → (thenE (W92 k92_17 Q) Q) .normal e w := fun e w h => then_N (s92_17 (R := R) (Q := Q) (K1 := K1) hN e w h)
  exact rgA 8 (fun e w => m92_17 R K1 (e 0) (e 6) (e 8) (e 9) (e 10) (e 11) (e 25) (e 26) (e 27) w) h hN
theorem s92_14 {R : VP} {K1 : (Value × Value) → World → Prop} {Q : EQ} (hN : ∀ e w, (K1 ((e 8), (e 27)) w) → Q .normal e w) (e : Env) (w : World) (h : m92_14 R K1 (e 0) (e 6) (e 8) (e 25) (e 26) (e 27) w) : W92 k92_14 Q e w := by
  unfold m92_14 at h
  refine seA ?_
  have hN : ∀ e w, (m92_15 R K1 (e 0) (e 6) (e 8) (e 25) (e 26) (e 27) w) → (thenE (W92 k92_15 Q) Q) .normal e w := fun e w h => then_N (s92_15 (R := R) (Q := Q) (K1 := K1) hN e w h)
  refine block_ok 1 (by kernel_rfl) ?_
  have hN : ∀ e w, (m92_15 R K1 (e 0) (e 6) (e 8) (e 25) (e 26) (e 27) w) → (inBlockE 1 (thenE (W92 k92_15 Q) Q)) .normal e w := fun e w h => block_N (hN e w h)
  refine seA ?_
  have hN : ∀ e w, (m92_16 R K1 (e 0) (e 6) (e 8) (e 9) (e 10) (e 25) (e 26) (e 27) w) → (thenE (W92 k92_16 (inBlockE 1 (thenE (W92 k92_15 Q) Q))) (inBlockE 1 (thenE (W92 k92_15 Q) Q))) .normal e w := fun e w h => then_N (s92_16 (R := R) (Q := (inBlockE 1 (thenE (W92 k92_15 Q) Q))) (K1 := K1) hN e w h)
  exact rgA 7 (fun e w => m92_16 R K1 (e 0) (e 6) (e 8) (e 9) (e 10) (e 25) (e 26) (e 27) w) h hN
theorem s92_9 {R : VP} {K1 : VP} {Q : EQ} (hN : ∀ e w, (K1 (e 8) w) → Q .normal e w) (e : Env) (w : World) (h : m92_9 R K1 (e 0) (e 8) w) : W92 k92_9 Q e w := by
  unfold m92_9 at h
  refine block_ok 5 (by kernel_rfl) ?_
  have hN : ∀ e w, (K1 (e 8) w) → (inBlockE 5 Q) .normal e w := fun e w h => block_N (hN e w h)
  exact rgA 17 (fun e w => K1 (e 8) w) h hN
theorem s92_7 {R : VP} {Q : EQ} (hR : ∀ e w, (R (Value.tuple #[(e 4), (e 5)]) w) → Q .ret e w) (e : Env) (w : World) (h : m92_7 R (e 4) (e 5) w) : W92 k92_7 Q e w := by
  unfold m92_7 at h
  exact reA (hR _ _ h)
theorem s92_6 {R : VP} {Q : EQ} (hR : ∀ e w, (R (Value.tuple #[(e 4), (e 5)]) w) → Q .ret e w) (e : Env) (w : World) (h : m92_6 R (e 8) w) : W92 k92_6 Q e w := by
  unfold m92_6 at h
  refine seA ?_
  have hN : ∀ e w, (m92_7 R (e 4) (e 5) w) → (thenE (W92 k92_7 Q) Q) .normal e w := fun e w h => then_N (s92_7 (R := R) (Q := Q) hR e w h)
  exact rgA 18 (fun e w => m92_7 R (e 4) (e 5) w) h hN
theorem s92_10 {R : VP} {K1 : VP} {Q : EQ} (hN : ∀ e w, (m92_9 R K1 (e 0) (e 8) w) → Q .normal e w) (hX4 : ∀ e w, (m92_6 R (e 8) w) → Q (.exit 4) e w) (e : Env) (w : World) (h : m92_10 R K1 (e 0) (e 8) (e 56) w) : W92 k92_10 Q e w := by
  unfold m92_10 at h
  refine coA (Operand.tmp 56) h (fun h1 => ?_) (fun h1 => ?_)
  · exact skA (hN _ _ h1)
  · exact exA 4 (hX4 _ _ h1)
theorem s92_8 {R : VP} {K1 : VP} {Q : EQ} (hN : ∀ e w, (K1 (e 8) w) → Q .normal e w) (hX4 : ∀ e w, (m92_6 R (e 8) w) → Q (.exit 4) e w) (e : Env) (w : World) (h : m92_8 R K1 (e 0) (e 8) w) : W92 k92_8 Q e w := by
  unfold m92_8 at h
  refine seA ?_
  have hN : ∀ e w, (m92_9 R K1 (e 0) (e 8) w) → (thenE (W92 k92_9 Q) Q) .normal e w := fun e w h => then_N (s92_9 (R := R) (Q := Q) (K1 := K1) hN e w h)
  have hX4 : ∀ e w, (m92_6 R (e 8) w) → (thenE (W92 k92_9 Q) Q) (.exit 4) e w := fun e w h => then_X (hX4 e w h)
  refine seA ?_
  have hN : ∀ e w, (m92_10 R K1 (e 0) (e 8) (e 56) w) → (thenE (W92 k92_10 (thenE (W92 k92_9 Q) Q)) (thenE (W92 k92_9 Q) Q)) .normal e w := fun e w h => then_N (s92_10 (R := R) (Q := (thenE (W92 k92_9 Q) Q)) (K1 := K1) hN hX4 e w h)
  exact rgA 16 (fun e w => m92_10 R K1 (e 0) (e 8) (e 56) w) h hN
theorem s92_5 {R : VP} {Q : EQ} (hR : ∀ e w, (R (Value.tuple #[(e 4), (e 5)]) w) → Q .ret e w) (e : Env) (w : World) (h : m92_5 R (e 0) (e 8) w) : W92 k92_5 Q e w := by
  unfold m92_5 at h
  refine seA ?_
  have hN : ∀ e w, (m92_6 R (e 8) w) → (thenE (W92 k92_6 Q) Q) .normal e w := fun e w h => then_N (s92_6 (R := R) (Q := Q) hR e w h)
  refine block_ok 4 (by kernel_rfl) ?_
  have hX4 : ∀ e w, (m92_6 R (e 8) w) → (inBlockE 4 (thenE (W92 k92_6 Q) Q)) (.exit 4) e w := fun e w h => inBlock_same (Q := (thenE (W92 k92_6 Q) Q)) 4 (hN e w h)
  refine loop_ok' (fun (e : Env) => e 8) [0] (by kernel_rfl) (by kernel_rfl) h (fun K e' w' hk h' => ?_)
  have r0 : e' 0 = e 0 := hk 0 (by decide)
  have hX4 : ∀ e w, (m92_6 R (e 8) w) → (thenE (fun (e : Env) w => K (e 8) w) (inBlockE 4 (thenE (W92 k92_6 Q) Q))) (.exit 4) e w := fun e w h => then_X (hX4 e w h)
  exact s92_8 (R := R) (Q := (thenE (fun (e : Env) w => K (e 8) w) (inBlockE 4 (thenE (W92 k92_6 Q) Q)))) (K1 := K) (fun _ _ h => then_N h) hX4 e' w' (by rw [r0]; exact h')
theorem s92_13 {R : VP} {K1 : (Value × Value) → World → Prop} {Q : EQ} (hN : ∀ e w, (K1 ((e 8), (e 27)) w) → Q .normal e w) (hX0 : ∀ e w, (m92_5 R (e 0) (e 8) w) → Q (.exit 0) e w) (e : Env) (w : World) (h : m92_13 R K1 (e 0) (e 6) (e 8) (e 25) (e 26) (e 27) (e 28) w) : W92 k92_13 Q e w := by
  unfold m92_13 at h
  refine seA ?_
  have hN : ∀ e w, (m92_14 R K1 (e 0) (e 6) (e 8) (e 25) (e 26) (e 27) w) → (thenE (W92 k92_14 Q) Q) .normal e w := fun e w h => then_N (s92_14 (R := R) (Q := Q) (K1 := K1) hN e w h)
  have hX0 : ∀ e w, (m92_5 R (e 0) (e 8) w) → (thenE (W92 k92_14 Q) Q) (.exit 0) e w := fun e w h => then_X (hX0 e w h)
  refine coA (Operand.tmp 28) h (fun h1 => ?_) (fun h1 => ?_)
  · exact skA (hN _ _ h1)
  · exact exA 0 (hX0 _ _ h1)
theorem s92_12 {R : VP} {K1 : (Value × Value) → World → Prop} {Q : EQ} (hN : ∀ e w, (K1 ((e 8), (e 27)) w) → Q .normal e w) (hX0 : ∀ e w, (m92_5 R (e 0) (e 8) w) → Q (.exit 0) e w) (e : Env) (w : World) (h : m92_12 R K1 (e 0) (e 6) (e 8) (e 25) (e 26) (e 27) w) : W92 k92_12 Q e w := by
  unfold m92_12 at h
  refine seA ?_
  have hN : ∀ e w, (m92_13 R K1 (e 0) (e 6) (e 8) (e 25) (e 26) (e 27) (e 28) w) → (thenE (W92 k92_13 Q) Q) .normal e w := fun e w h => then_N (s92_13 (R := R) (Q := Q) (K1 := K1) hN hX0 e w h)
  exact rgA 6 (fun e w => m92_13 R K1 (e 0) (e 6) (e 8) (e 25) (e 26) (e 27) (e 28) w) h hN
theorem s92_11 {R : VP} {Q : EQ} (hN : ∀ e w, (m92_5 R (e 0) (e 8) w) → Q .normal e w) (e : Env) (w : World) (h : m92_11 R (e 0) (e 6) (e 8) (e 25) (e 26) (e 27) w) : W92 k92_11 Q e w := by
  unfold m92_11 at h
  refine block_ok 0 (by kernel_rfl) ?_
  have hX0 : ∀ e w, (m92_5 R (e 0) (e 8) w) → (inBlockE 0 Q) (.exit 0) e w := fun e w h => inBlock_same (Q := Q) 0 (hN e w h)
  refine loop_ok' (fun (e : Env) => (e 8, e 27)) [0, 6, 25, 26] (by kernel_rfl) (by kernel_rfl) h (fun K e' w' hk h' => ?_)
  have r0 : e' 0 = e 0 := hk 0 (by decide)
  have r6 : e' 6 = e 6 := hk 6 (by decide)
  have r25 : e' 25 = e 25 := hk 25 (by decide)
  have r26 : e' 26 = e 26 := hk 26 (by decide)
  have hX0 : ∀ e w, (m92_5 R (e 0) (e 8) w) → (thenE (fun (e : Env) w => K ((e 8), (e 27)) w) (inBlockE 0 Q)) (.exit 0) e w := fun e w h => then_X (hX0 e w h)
  exact s92_12 (R := R) (Q := (thenE (fun (e : Env) w => K ((e 8), (e 27)) w) (inBlockE 0 Q))) (K1 := K) (fun _ _ h => then_N h) hX0 e' w' (by rw [r0, r6, r25, r26]; exact h')
theorem s92_4 {R : VP} {Q : EQ} (hR : ∀ e w, (R (Value.tuple #[(e 4), (e 5)]) w) → Q .ret e w) (e : Env) (w : World) (h : m92_4 R (e 0) (e 6) (e 8) w) : W92 k92_4 Q e w := by
  unfold m92_4 at h
  refine seA ?_
  have hN : ∀ e w, (m92_5 R (e 0) (e 8) w) → (thenE (W92 k92_5 Q) Q) .normal e w := fun e w h => then_N (s92_5 (R := R) (Q := Q) hR e w h)
  refine seA ?_
  have hN : ∀ e w, (m92_11 R (e 0) (e 6) (e 8) (e 25) (e 26) (e 27) w) → (thenE (W92 k92_11 (thenE (W92 k92_5 Q) Q)) (thenE (W92 k92_5 Q) Q)) .normal e w := fun e w h => then_N (s92_11 (R := R) (Q := (thenE (W92 k92_5 Q) Q)) hN e w h)
  exact rgA 5 (fun e w => m92_11 R (e 0) (e 6) (e 8) (e 25) (e 26) (e 27) w) h hN
theorem s92_3 {R : VP} {Q : EQ} (hR : ∀ e w, (R (Value.tuple #[(e 4), (e 5)]) w) → Q .ret e w) (e : Env) (w : World) (h : m92_3 R (e 0) (e 6) w) : W92 k92_3 Q e w := by
  unfold m92_3 at h
  refine seA ?_
  have hN : ∀ e w, (m92_4 R (e 0) (e 6) (e 8) w) → (thenE (W92 k92_4 Q) Q) .normal e w := fun e w h => then_N (s92_4 (R := R) (Q := Q) hR e w h)
  exact rgA 4 (fun e w => m92_4 R (e 0) (e 6) (e 8) w) h hN
theorem s92_25 {R : VP} {Q : EQ} (hN : ∀ e w, (m92_3 R (e 0) (e 6) w) → Q .normal e w) (hR : ∀ e w, (R (Value.tuple #[(e 4), (e 5)]) w) → Q .ret e w) (e : Env) (w : World) (h : m92_25 R (e 0) (e 6) (e 19) w) : W92 k92_25 Q e w := by
  unfold m92_25 at h
  refine coA (Operand.tmp 19) h (fun h1 => ?_) (fun h1 => ?_)
  · refine seA ?_
    have hN : ∀ e w, (m92_26 R (e 4) (e 5) w) → (thenE (W92 k92_26 Q) Q) .normal e w := fun e w h => then_N (s92_26 (R := R) (Q := Q) hR e w h)
    exact rgA 3 (fun e w => m92_26 R (e 4) (e 5) w) h1 hN
  · exact skA (hN _ _ h1)
theorem s92_2 {R : VP} {Q : EQ} (hR : ∀ e w, (R (Value.tuple #[(e 4), (e 5)]) w) → Q .ret e w) (e : Env) (w : World) (h : m92_2 R (e 0) (e 6) (e 7) w) : W92 k92_2 Q e w := by
  unfold m92_2 at h
  refine seA ?_
  have hN : ∀ e w, (m92_3 R (e 0) (e 6) w) → (thenE (W92 k92_3 Q) Q) .normal e w := fun e w h => then_N (s92_3 (R := R) (Q := Q) hR e w h)
  have hR : ∀ e w, (R (Value.tuple #[(e 4), (e 5)]) w) → (thenE (W92 k92_3 Q) Q) .ret e w := fun e w h => then_R (hR e w h)
  refine seA ?_
  have hN : ∀ e w, (m92_25 R (e 0) (e 6) (e 19) w) → (thenE (W92 k92_25 (thenE (W92 k92_3 Q) Q)) (thenE (W92 k92_3 Q) Q)) .normal e w := fun e w h => then_N (s92_25 (R := R) (Q := (thenE (W92 k92_3 Q) Q)) hN hR e w h)
  exact rgA 2 (fun e w => m92_25 R (e 0) (e 6) (e 19) w) h hN
theorem s92_1 {R : VP} {Q : EQ} (hR : ∀ e w, (R (Value.tuple #[(e 4), (e 5)]) w) → Q .ret e w) (e : Env) (w : World) (h : m92_1 R (e 0) (e 1) w) : W92 k92_1 Q e w := by
  unfold m92_1 at h
  refine seA ?_
  have hN : ∀ e w, (m92_2 R (e 0) (e 6) (e 7) w) → (thenE (W92 k92_2 Q) Q) .normal e w := fun e w h => then_N (s92_2 (R := R) (Q := Q) hR e w h)
  exact rgA 1 (fun e w => m92_2 R (e 0) (e 6) (e 7) w) h hN
theorem s92_0 {R : VP} {Q : EQ} (hR : ∀ e w, (R (Value.tuple #[(e 4), (e 5)]) w) → Q .ret e w) (e : Env) (w : World) (h : m92_0 R (e 0) (e 1) w) : W92 k92_0 Q e w := by
  unfold m92_0 at h
  refine seA ?_
  have hN : ∀ e w, (m92_1 R (e 0) (e 1) w) → (thenE (W92 k92_1 Q) Q) .normal e w := fun e w h => then_N (s92_1 (R := R) (Q := Q) hR e w h)
  exact rgA 0 (fun e w => m92_1 R (e 0) (e 1) w) h hN
abbrev m92 (R : VP) (parts0 members1 : Value) (w : World) : Prop := m92_0 R parts0 members1 w
theorem s92 (parts0 members1 : Value) {R : VP} {w : World} (h : m92 R parts0 members1 w) :
    Calls Try.prog 92 #[parts0, members1] w fun e w' => ∃ v, e = .returned v ∧ R v w' :=
  calls_of_cwp (st := (fun i => 0)) (c := k92_0) (by kernel_rfl) Try.func92 (by kernel_rfl) (Nat.le_of_ble_eq_true (by kernel_rfl)) (by kernel_rfl)
    (s92_0 (R := R) (Q := endE Try.prog Try.f92 R) (fun e w h => kcast (by kernel_rfl) h) (argsE #[parts0, members1]) w (kcast (by kernel_rfl) h))
/-! ### headgate/headgateref09.Range -/
def m105_25 (R : VP) (t4 t5 : Value) (w : World) : Prop :=
  R (Value.tuple #[t4, t5]) w
def m105_20 (R : VP) (K1 : (Value × Value) → World → Prop) (K2 : (Value × Value) → World → Prop) (parts0 m6 out7 i8 n9 k10 : Value) (w : World) : Prop :=
  valP Try.prog (binS BinOp.add 3 (Operand.tmp 40) (Operand.const (Value.int IntKind.i64 1)) k10 (Value.int IntKind.i64 1)) w fun t41 w =>
  K2 (out7, t41) w
def m105_19 (R : VP) (K1 : (Value × Value) → World → Prop) (K2 : (Value × Value) → World → Prop) (parts0 m6 out7 i8 n9 k10 : Value) (w : World) : Prop :=
  valP Try.prog (Instr.indexAt 28 m6 i8) w fun t45 w =>
  valP Try.prog (Instr.loadAt 3 t45) w fun t46 w =>
  valP Try.prog (Instr.buildSlice 28 1 #[(0, t46)]) w fun t47 w =>
  builtinP Try.prog Builtin.append #[28, 28] 28 #[false, false] #[out7, t47] w fun t48 w =>
  m105_20 R K1 K2 parts0 m6 t48 i8 n9 k10 w
def m105_14 (R : VP) (K1 : (Value × Value) → World → Prop) (parts0 m6 out7 i8 : Value) (w : World) : Prop :=
  valP Try.prog (binS BinOp.add 3 (Operand.tmp 23) (Operand.const (Value.int IntKind.i64 1)) i8 (Value.int IntKind.i64 1)) w fun t24 w =>
  K1 (out7, t24) w
def m105_21 (R : VP) (K1 : (Value × Value) → World → Prop) (K2 : (Value × Value) → World → Prop) (parts0 m6 out7 i8 n9 k10 t39 : Value) (w : World) : Prop :=
  condP t39
  (m105_19 R K1 K2 parts0 m6 out7 i8 n9 k10 w)
  (m105_14 R K1 parts0 m6 out7 i8 w)
def m105_18 (R : VP) (K1 : (Value × Value) → World → Prop) (K2 : (Value × Value) → World → Prop) (parts0 m6 out7 i8 n9 k10 : Value) (w : World) : Prop :=
  valP Try.prog (binS BinOp.lss 3 (Operand.tmp 37) (Operand.tmp 38) k10 n9) w fun t39 w =>
  m105_21 R K1 K2 parts0 m6 out7 i8 n9 k10 t39 w
def m105_17 (R : VP) (K1 : (Value × Value) → World → Prop) (parts0 m6 out7 i8 n9 k10 : Value) (w : World) : Prop :=
  loopP (fun (K2 : (Value × Value) → World → Prop) (s : Value × Value) w => m105_18 R K1 K2 parts0 m6 s.1 i8 n9 s.2 w) (out7, k10) w
def m105_16 (R : VP) (K1 : (Value × Value) → World → Prop) (parts0 m6 out7 i8 n9 : Value) (w : World) : Prop :=
  m105_17 R K1 parts0 m6 out7 i8 n9 (Value.int IntKind.i64 0) w
def m105_22 (R : VP) (K1 : (Value × Value) → World → Prop) (parts0 m6 out7 i8 n9 t34 : Value) (w : World) : Prop :=
  condP t34
  (valP Try.prog (binS BinOp.add 3 (Operand.tmp 35) (Operand.const (Value.int IntKind.i64 1)) n9 (Value.int IntKind.i64 1)) w fun t36 w =>
  m105_16 R K1 parts0 m6 out7 i8 t36 w)
  (m105_16 R K1 parts0 m6 out7 i8 n9 w)
def m105_15 (R : VP) (K1 : (Value × Value) → World → Prop) (parts0 m6 out7 i8 n9 : Value) (w : World) : Prop :=
  builtinP Try.prog Builtin.len #[28] 3 #[false] #[m6] w fun t32 w =>
  valP Try.prog (binS BinOp.rem 3 (Operand.tmp 30) (Operand.tmp 32) parts0 t32) w fun t33 w =>
  valP Try.prog (binS BinOp.lss 3 (Operand.tmp 29) (Operand.tmp 33) i8 t33) w fun t34 w =>
  m105_22 R K1 parts0 m6 out7 i8 n9 t34 w
def m105_13 (R : VP) (K1 : (Value × Value) → World → Prop) (parts0 m6 out7 i8 : Value) (w : World) : Prop :=
  builtinP Try.prog Builtin.len #[28] 3 #[false] #[m6] w fun t27 w =>
  valP Try.prog (binS BinOp.quo 3 (Operand.tmp 25) (Operand.tmp 27) parts0 t27) w fun t28 w =>
  m105_15 R K1 parts0 m6 out7 i8 t28 w
def m105_9 (R : VP) (K1 : VP) (parts0 out7 : Value) (w : World) : Prop :=
  valP Try.prog (Instr.buildSlice 28 1 #[(0, (Value.int IntKind.i64 0))]) w fun t54 w =>
  builtinP Try.prog Builtin.append #[28, 28] 28 #[false, false] #[out7, t54] w fun t55 w =>
  K1 t55 w
def m105_7 (R : VP) (t4 t5 : Value) (w : World) : Prop :=
  R (Value.tuple #[t4, t5]) w
def m105_6 (R : VP) (out7 : Value) (w : World) : Prop :=
  m105_7 R out7 (Value.int IntKind.i64 0) w
def m105_10 (R : VP) (K1 : VP) (parts0 out7 t52 : Value) (w : World) : Prop :=
  condP t52
  (m105_9 R K1 parts0 out7 w)
  (m105_6 R out7 w)
def m105_8 (R : VP) (K1 : VP) (parts0 out7 : Value) (w : World) : Prop :=
  builtinP Try.prog Builtin.len #[28] 3 #[false] #[out7] w fun t50 w =>
  valP Try.prog (binS BinOp.lss 3 (Operand.tmp 50) (Operand.tmp 51) t50 parts0) w fun t52 w =>
  m105_10 R K1 parts0 out7 t52 w
def m105_5 (R : VP) (parts0 out7 : Value) (w : World) : Prop :=
  loopP (fun (K1 : VP) (s : Value) w => m105_8 R K1 parts0 s w) out7 w
def m105_23 (R : VP) (K1 : (Value × Value) → World → Prop) (parts0 m6 out7 i8 t22 : Value) (w : World) : Prop :=
  condP t22
  (m105_13 R K1 parts0 m6 out7 i8 w)
  (m105_5 R parts0 out7 w)
def m105_12 (R : VP) (K1 : (Value × Value) → World → Prop) (parts0 m6 out7 i8 : Value) (w : World) : Prop :=
  builtinP Try.prog Builtin.len #[28] 3 #[false] #[m6] w fun t21 w =>
  valP Try.prog (binS BinOp.lss 3 (Operand.tmp 19) (Operand.tmp 21) i8 t21) w fun t22 w =>
  m105_23 R K1 parts0 m6 out7 i8 t22 w
def m105_11 (R : VP) (parts0 m6 out7 i8 : Value) (w : World) : Prop :=
  loopP (fun (K1 : (Value × Value) → World → Prop) (s : Value × Value) w => m105_12 R K1 parts0 m6 s.1 s.2 w) (out7, i8) w
def m105_4 (R : VP) (parts0 m6 out7 : Value) (w : World) : Prop :=
  m105_11 R parts0 m6 out7 (Value.int IntKind.i64 0) w
def m105_3 (R : VP) (parts0 m6 : Value) (w : World) : Prop :=
  m105_4 R parts0 m6 (Value.slice none 0 0) w
def m105_2 (R : VP) (parts0 members1 : Value) (w : World) : Prop :=
  callP Try.prog (fnV 63) #[members1] w fun t18 w =>
  m105_3 R parts0 t18 w
def m105_24 (R : VP) (parts0 members1 t16 : Value) (w : World) : Prop :=
  condP t16
  (m105_25 R (Value.slice none 0 0) (Value.int IntKind.i64 1) w)
  (m105_2 R parts0 members1 w)
def m105_1 (R : VP) (parts0 members1 : Value) (w : World) : Prop :=
  valP Try.prog (binS BinOp.lss 3 (Operand.tmp 11) (Operand.const (Value.int IntKind.i64 1)) parts0 (Value.int IntKind.i64 1)) w fun t12 w =>
  condP t12
  (pickP t12 (Value.bool true) undef fun t16 =>
  m105_24 R parts0 members1 t16 w)
  (valP Try.prog (binS BinOp.gtr 3 (Operand.tmp 14) (Operand.const (Value.int IntKind.i64 64)) parts0 (Value.int IntKind.i64 64)) w fun t15 w =>
  pickP t12 (Value.bool true) t15 fun t16 =>
  m105_24 R parts0 members1 t16 w)
def m105_0 (R : VP) (parts0 members1 : Value) (w : World) : Prop :=
  m105_1 R parts0 members1 w
abbrev W105 := cwp Try.prog (fun i => 0)
noncomputable def k105_0 : Code := (bodyOf Try.f105)
noncomputable def k105_1 : Code := (c2 k105_0)
noncomputable def k105_2 : Code := (c2 k105_1)
noncomputable def k105_3 : Code := (c2 k105_2)
noncomputable def k105_4 : Code := (c2 k105_3)
noncomputable def k105_5 : Code := (c2 k105_4)
noncomputable def k105_6 : Code := (c2 k105_5)
noncomputable def k105_7 : Code := (c2 k105_6)
noncomputable def k105_8 : Code := (c1 (c1 (c1 k105_5)))
noncomputable def k105_9 : Code := (c2 k105_8)
noncomputable def k105_10 : Code := (c2 (c1 k105_8))
noncomputable def k105_11 : Code := (c2 (c1 k105_4))
noncomputable def k105_12 : Code := (c1 (c1 k105_11))
noncomputable def k105_13 : Code := (c2 k105_12)
noncomputable def k105_14 : Code := (c2 k105_13)
noncomputable def k105_15 : Code := (c2 (c1 (c1 k105_13)))
noncomputable def k105_16 : Code := (c2 k105_15)
noncomputable def k105_17 : Code := (c2 k105_16)
noncomputable def k105_18 : Code := (c1 (c1 k105_17))
noncomputable def k105_19 : Code := (c2 k105_18)
noncomputable def k105_20 : Code := (c2 k105_19)
noncomputable def k105_21 : Code := (c2 (c1 k105_18))
noncomputable def k105_22 : Code := (c2 (c1 k105_15))
noncomputable def k105_23 : Code := (c2 (c1 k105_12))
noncomputable def k105_24 : Code := (c2 (c1 k105_1))
noncomputable def k105_25 : Code := (c2 (c1 k105_24))
theorem s105_25 {R : VP} {Q : EQ} (hR : ∀ e w, (R (Value.tuple #[(e 4), (e 5)]) w) → Q .ret e w) (e : Env) (w : World) (h : m105_25 R (e 4) (e 5) w) : W105 k105_25 Q e w := by
  unfold m105_25 at h
  exact reA (hR _ _ h)
theorem s105_20 {R : VP} {K1 : (Value × Value) → World → Prop} {K2 : (Value × Value) → World → Prop} {Q : EQ} (hN : ∀ e w, (K2 ((e 7), (e 10)) w) → Q .normal e w) (e : Env) (w : World) (h : m105_20 R K1 K2 (e 0) (e 6) (e 7) (e 8) (e 9) (e 10) w) : W105 k105_20 Q e w := by
  unfold m105_20 at h
  exact rgA 13 (fun e w => K2 ((e 7), (e 10)) w) h hN
theorem s105_19 {R : VP} {K1 : (Value × Value) → World → Prop} {K2 : (Value × Value) → World → Prop} {Q : EQ} (hN : ∀ e w, (K2 ((e 7), (e 10)) w) → Q .normal e w) (e : Env) (w : World) (h : m105_19 R K1 K2 (e 0) (e 6) (e 7) (e 8) (e 9) (e 10) w) : W105 k105_19 Q e w := by
  unfold m105_19 at h
  refine seA ?_
  have hN : ∀ e w, (m105_20 R K1 K2 (e 0) (e 6) (e 7) (e 8) (e 9) (e 10) w) → (thenE (W105 k105_20 Q) Q) .normal e w := fun e w h => then_N (s105_20 (R := R) (Q := Q) (K1 := K1) (K2 := K2) hN e w h)
  refine block_ok 3 (by kernel_rfl) ?_
  have hN : ∀ e w, (m105_20 R K1 K2 (e 0) (e 6) (e 7) (e 8) (e 9) (e 10) w) → (inBlockE 3 (thenE (W105 k105_20 Q) Q)) .normal e w := fun e w h => block_N (hN e w h)
  exact rgA 14 (fun e w => m105_20 R K1 K2 (e 0) (e 6) (e 7) (e 8) (e 9) (e 10) w) h hN
theorem s105_14 {R : VP} {K1 : (Value × Value) → World → Prop} {Q : EQ} (hN : ∀ e w, (K1 ((e 7), (e 8)) w) → Q .normal e w) (e : Env) (w : World) (h : m105_14 R K1 (e 0) (e 6) (e 7) (e 8) w) : W105 k105_14 Q e w := by
  unfold m105_14 at h
  exact rgA 7 (fun e w => K1 ((e 7), (e 8)) w) h hN
theorem s105_21 {R : VP} {K1 : (Value × Value) → World → Prop} {K2 : (Value × Value) → World → Prop} {Q : EQ} (hN : ∀ e w, (m105_19 R K1 K2 (e 0) (e 6) (e 7) (e 8) (e 9) (e 10) w) → Q .normal e w) (hX2 : ∀ e w, (m105_14 R K1 (e 0) (e 6) (e 7) (e 8) w) → Q (.exit 2) e w) (e : Env) (w : World) (h : m105_21 R K1 K2 (e 0) (e 6) (e 7) (e 8) (e 9) (e 10) (e 39) w) : W105 k105_21 Q e w := by
  unfold m105_21 at h
  refine coA (Operand.tmp 39) h (fun h1 => ?_) (fun h1 => ?_)
  · exact skA (hN _ _ h1)
  · exact exA 2 (hX2 _ _ h1)
theorem s105_18 {R : VP} {K1 : (Value × Value) → World → Prop} {K2 : (Value × Value) → World → Prop} {Q : EQ} (hN : ∀ e w, (K2 ((e 7), (e 10)) w) → Q .normal e w) (hX2 : ∀ e w, (m105_14 R K1 (e 0) (e 6) (e 7) (e 8) w) → Q (.exit 2) e w) (e : Env) (w : World) (h : m105_18 R K1 K2 (e 0) (e 6) (e 7) (e 8) (e 9) (e 10) w) : W105 k105_18 Q e w := by
  unfold m105_18 at h
  refine seA ?_
  have hN : ∀ e w, (m105_19 R K1 K2 (e 0) (e 6) (e 7) (e 8) (e 9) (e 10) w) → (thenE (W105 k105_19 Q) Q) .normal e w := fun e w h => then_N (s105_19 (R := R) (Q := Q) (K1 := K1) (K2 := K2) hN e w h)
  have hX2 : ∀ e w, (m105_14 R K1 (e 0) (e 6) (e 7) (e 8) w) → (thenE (W105 k105_19 Q) Q) (.exit 2) e w := fun e w h => then_X (hX2 e w h)
  refine seA ?_
  have hN : ∀ e w, (m105_21 R K1 K2 (e 0) (e 6) (e 7) (e 8) (e 9) (e 10) (e 39) w) → (thenE (W105 k105_21 (thenE (W105 k105_19 Q) Q)) (thenE (W105 k105_19 Q) Q)) .normal e w := fun e w h => then_N (s105_21 (R := R) (Q := (thenE (W105 k105_19 Q) Q)) (K1 := K1) (K2 := K2) hN hX2 e w h)
  exact rgA 12 (fun e w => m105_21 R K1 K2 (e 0) (e 6) (e 7) (e 8) (e 9) (e 10) (e 39) w) h hN
theorem s105_17 {R : VP} {K1 : (Value × Value) → World → Prop} {Q : EQ} (hN : ∀ e w, (m105_14 R K1 (e 0) (e 6) (e 7) (e 8) w) → Q .normal e w) (e : Env) (w : World) (h : m105_17 R K1 (e 0) (e 6) (e 7) (e 8) (e 9) (e 10) w) : W105 k105_17 Q e w := by
  unfold m105_17 at h
  refine block_ok 2 (by kernel_rfl) ?_
  have hX2 : ∀ e w, (m105_14 R K1 (e 0) (e 6) (e 7) (e 8) w) → (inBlockE 2 Q) (.exit 2) e w := fun e w h => inBlock_same (Q := Q) 2 (hN e w h)
  refine loop_ok' (fun (e : Env) => (e 7, e 10)) [0, 6, 8, 9] (by kernel_rfl) (by kernel_rfl) h (fun K e' w' hk h' => ?_)
  have r0 : e' 0 = e 0 := hk 0 (by decide)
  have r6 : e' 6 = e 6 := hk 6 (by decide)
  have r8 : e' 8 = e 8 := hk 8 (by decide)
  have r9 : e' 9 = e 9 := hk 9 (by decide)
  have hX2 : ∀ e w, (m105_14 R K1 (e 0) (e 6) (e 7) (e 8) w) → (thenE (fun (e : Env) w => K ((e 7), (e 10)) w) (inBlockE 2 Q)) (.exit 2) e w := fun e w h => then_X (hX2 e w h)
  exact s105_18 (R := R) (Q := (thenE (fun (e : Env) w => K ((e 7), (e 10)) w) (inBlockE 2 Q))) (K1 := K1) (K2 := K) (fun _ _ h => then_N h) hX2 e' w' (by rw [r0, r6, r8, r9]; exact h')
theorem s105_16 {R : VP} {K1 : (Value × Value) → World → Prop} {Q : EQ} (hN : ∀ e w, (m105_14 R K1 (e 0) (e 6) (e 7) (e 8) w) → Q .normal e w) (e : Env) (w : World) (h : m105_16 R K1 (e 0) (e 6) (e 7) (e 8) (e 9) w) : W105 k105_16 Q e w := by
  unfold m105_16 at h
  refine seA ?_
  have hN : ∀ e w, (m105_17 R K1 (e 0) (e 6) (e 7) (e 8) (e 9) (e 10) w) → (thenE (W105 k105_17 Q) Q) .normal e w := fun e w h => then_N (s105_17 (R := R) (Q := Q) (K1 := K1) hN e w h)
  exact rgA 11 (fun e w => m105_17 R K1 (e 0) (e 6) (e 7) (e 8) (e 9) (e 10) w) h hN
theorem s105_22 {R : VP} {K1 : (Value × Value) → World → Prop} {Q : EQ} (hN : ∀ e w, (m105_16 R K1 (e 0) (e 6) (e 7) (e 8) (e 9) w) → Q .normal e w) (e : Env) (w : World) (h : m105_22 R K1 (e 0) (e 6) (e 7) (e 8) (e 9) (e 34) w) : W105 k105_22 Q e w := by
  unfold m105_22 at h
  refine coA (Operand.tmp 34) h (fun h1 => ?_) (fun h1 => ?_)
  · exact rgA 10 (fun e w => m105_16 R K1 (e 0) (e 6) (e 7) (e 8) (e 9) w) h1 hN
  · exact skA (hN _ _ h1)
theorem s105_15 {R : VP} {K1 : (Value × Value) → World → Prop} {Q : EQ} (hN : ∀ e w, (m105_14 R K1 (e 0) (e 6) (e 7) (e 8) w) → Q .normal e w) (e : Env) (w : World) (h : m105_15 R K1 (e 0) (e 6) (e 7) (e 8) (e 9) w) : W105 k105_15 Q e w := by
  unfold m105_15 at h
  refine seA ?_
  have hN : ∀ e w, (m105_16 R K1 (e 0) (e 6) (e 7) (e 8) (e 9) w) → (thenE (W105 k105_16 Q) Q) .normal e w := fun e w h => then_N (s105_16 (R := R) (Q := Q) (K1 := K1) hN e w h)
  refine seA ?_
  have hN : ∀ e w, (m105_22 R K1 (e 0) (e 6) (e 7) (e 8) (e 9) (e 34) w) → (thenE (W105 k105_22 (thenE (W105 k105_16 Q) Q)) (thenE (W105 k105_16 Q) Q)) .normal e w := fun e w h => then_N (s105_22 (R := R) (Q := (thenE (W105 k105_16 Q) Q)) (K1 := K1) hN e w h)
  exact rgA 9 (fun e w => m105_22 R K1 (e 0) (e 6) (e 7) (e 8) (e 9) (e 34) w) h hN
theorem s105_13 {R : VP} {K1 : (Value × Value) → World → Prop} {Q : EQ} (hN : ∀ e w, (K1 ((e 7), (e 8)) w) → Q .normal e w) (e : Env) (w : World) (h : m105_13 R K1 (e 0) (e 6) (e 7) (e 8) w) : W105 k105_13 Q e w := by
  unfold m105_13 at h
  refine seA ?_
  have hN : ∀ e w, (m105_14 R K1 (e 0) (e 6) (e 7) (e 8) w) → (thenE (W105 k105_14 Q) Q) .normal e w := fun e w h => then_N (s105_14 (R := R) (Q := Q) (K1 := K1) hN e w h)
  refine block_ok 1 (by kernel_rfl) ?_
  have hN : ∀ e w, (m105_14 R K1 (e 0) (e 6) (e 7) (e 8) w) → (inBlockE 1 (thenE (W105 k105_14 Q) Q)) .normal e w := fun e w h => block_N (hN e w h)
  refine seA ?_
  have hN : ∀ e w, (m105_15 R K1 (e 0) (e 6) (e 7) (e 8) (e 9) w) → (thenE (W105 k105_15 (inBlockE 1 (thenE (W105 k105_14 Q) Q))) (inBlockE 1 (thenE (W105 k105_14 Q) Q))) .normal e w := fun e w h => then_N (s105_15 (R := R) (Q := (inBlockE 1 (thenE (W105 k105_14 Q) Q))) (K1 := K1) hN e w h)
  exact rgA 8 (fun e w => m105_15 R K1 (e 0) (e 6) (e 7) (e 8) (e 9) w) h hN
theorem s105_9 {R : VP} {K1 : VP} {Q : EQ} (hN : ∀ e w, (K1 (e 7) w) → Q .normal e w) (e : Env) (w : World) (h : m105_9 R K1 (e 0) (e 7) w) : W105 k105_9 Q e w := by
  unfold m105_9 at h
  refine block_ok 5 (by kernel_rfl) ?_
  have hN : ∀ e w, (K1 (e 7) w) → (inBlockE 5 Q) .normal e w := fun e w h => block_N (hN e w h)
  exact rgA 16 (fun e w => K1 (e 7) w) h hN
theorem s105_7 {R : VP} {Q : EQ} (hR : ∀ e w, (R (Value.tuple #[(e 4), (e 5)]) w) → Q .ret e w) (e : Env) (w : World) (h : m105_7 R (e 4) (e 5) w) : W105 k105_7 Q e w := by
  unfold m105_7 at h
  exact reA (hR _ _ h)
theorem s105_6 {R : VP} {Q : EQ} (hR : ∀ e w, (R (Value.tuple #[(e 4), (e 5)]) w) → Q .ret e w) (e : Env) (w : World) (h : m105_6 R (e 7) w) : W105 k105_6 Q e w := by
  unfold m105_6 at h
  refine seA ?_
  have hN : ∀ e w, (m105_7 R (e 4) (e 5) w) → (thenE (W105 k105_7 Q) Q) .normal e w := fun e w h => then_N (s105_7 (R := R) (Q := Q) hR e w h)
  exact rgA 17 (fun e w => m105_7 R (e 4) (e 5) w) h hN
theorem s105_10 {R : VP} {K1 : VP} {Q : EQ} (hN : ∀ e w, (m105_9 R K1 (e 0) (e 7) w) → Q .normal e w) (hX4 : ∀ e w, (m105_6 R (e 7) w) → Q (.exit 4) e w) (e : Env) (w : World) (h : m105_10 R K1 (e 0) (e 7) (e 52) w) : W105 k105_10 Q e w := by
  unfold m105_10 at h
  refine coA (Operand.tmp 52) h (fun h1 => ?_) (fun h1 => ?_)
  · exact skA (hN _ _ h1)
  · exact exA 4 (hX4 _ _ h1)
theorem s105_8 {R : VP} {K1 : VP} {Q : EQ} (hN : ∀ e w, (K1 (e 7) w) → Q .normal e w) (hX4 : ∀ e w, (m105_6 R (e 7) w) → Q (.exit 4) e w) (e : Env) (w : World) (h : m105_8 R K1 (e 0) (e 7) w) : W105 k105_8 Q e w := by
  unfold m105_8 at h
  refine seA ?_
  have hN : ∀ e w, (m105_9 R K1 (e 0) (e 7) w) → (thenE (W105 k105_9 Q) Q) .normal e w := fun e w h => then_N (s105_9 (R := R) (Q := Q) (K1 := K1) hN e w h)
  have hX4 : ∀ e w, (m105_6 R (e 7) w) → (thenE (W105 k105_9 Q) Q) (.exit 4) e w := fun e w h => then_X (hX4 e w h)
  refine seA ?_
  have hN : ∀ e w, (m105_10 R K1 (e 0) (e 7) (e 52) w) → (thenE (W105 k105_10 (thenE (W105 k105_9 Q) Q)) (thenE (W105 k105_9 Q) Q)) .normal e w := fun e w h => then_N (s105_10 (R := R) (Q := (thenE (W105 k105_9 Q) Q)) (K1 := K1) hN hX4 e w h)
  exact rgA 15 (fun e w => m105_10 R K1 (e 0) (e 7) (e 52) w) h hN
theorem s105_5 {R : VP} {Q : EQ} (hR : ∀ e w, (R (Value.tuple #[(e 4), (e 5)]) w) → Q .ret e w) (e : Env) (w : World) (h : m105_5 R (e 0) (e 7) w) : W105 k105_5 Q e w := by
  unfold m105_5 at h
  refine seA ?_
  have hN : ∀ e w, (m105_6 R (e 7) w) → (thenE (W105 k105_6 Q) Q) .normal e w := fun e w h => then_N (s105_6 (R := R) (Q := Q) hR e w h)
  refine block_ok 4 (by kernel_rfl) ?_
  have hX4 : ∀ e w, (m105_6 R (e 7) w) → (inBlockE 4 (thenE (W105 k105_6 Q) Q)) (.exit 4) e w := fun e w h => inBlock_same (Q := (thenE (W105 k105_6 Q) Q)) 4 (hN e w h)
  refine loop_ok' (fun (e : Env) => e 7) [0] (by kernel_rfl) (by kernel_rfl) h (fun K e' w' hk h' => ?_)
  have r0 : e' 0 = e 0 := hk 0 (by decide)
  have hX4 : ∀ e w, (m105_6 R (e 7) w) → (thenE (fun (e : Env) w => K (e 7) w) (inBlockE 4 (thenE (W105 k105_6 Q) Q))) (.exit 4) e w := fun e w h => then_X (hX4 e w h)
  exact s105_8 (R := R) (Q := (thenE (fun (e : Env) w => K (e 7) w) (inBlockE 4 (thenE (W105 k105_6 Q) Q)))) (K1 := K) (fun _ _ h => then_N h) hX4 e' w' (by rw [r0]; exact h')
theorem s105_23 {R : VP} {K1 : (Value × Value) → World → Prop} {Q : EQ} (hN : ∀ e w, (m105_13 R K1 (e 0) (e 6) (e 7) (e 8) w) → Q .normal e w) (hX0 : ∀ e w, (m105_5 R (e 0) (e 7) w) → Q (.exit 0) e w) (e : Env) (w : World) (h : m105_23 R K1 (e 0) (e 6) (e 7) (e 8) (e 22) w) : W105 k105_23 Q e w := by
  unfold m105_23 at h
  refine coA (Operand.tmp 22) h (fun h1 => ?_) (fun h1 => ?_)
  · exact skA (hN _ _ h1)
  · exact exA 0 (hX0 _ _ h1)
theorem s105_12 {R : VP} {K1 : (Value × Value) → World → Prop} {Q : EQ} (hN : ∀ e w, (K1 ((e 7), (e 8)) w) → Q .normal e w) (hX0 : ∀ e w, (m105_5 R (e 0) (e 7) w) → Q (.exit 0) e w) (e : Env) (w : World) (h : m105_12 R K1 (e 0) (e 6) (e 7) (e 8) w) : W105 k105_12 Q e w := by
  unfold m105_12 at h
  refine seA ?_
  have hN : ∀ e w, (m105_13 R K1 (e 0) (e 6) (e 7) (e 8) w) → (thenE (W105 k105_13 Q) Q) .normal e w := fun e w h => then_N (s105_13 (R := R) (Q := Q) (K1 := K1) hN e w h)
  have hX0 : ∀ e w, (m105_5 R (e 0) (e 7) w) → (thenE (W105 k105_13 Q) Q) (.exit 0) e w := fun e w h => then_X (hX0 e w h)
  refine seA ?_
  have hN : ∀ e w, (m105_23 R K1 (e 0) (e 6) (e 7) (e 8) (e 22) w) → (thenE (W105 k105_23 (thenE (W105 k105_13 Q) Q)) (thenE (W105 k105_13 Q) Q)) .normal e w := fun e w h => then_N (s105_23 (R := R) (Q := (thenE (W105 k105_13 Q) Q)) (K1 := K1) hN hX0 e w h)
  exact rgA 6 (fun e w => m105_23 R K1 (e 0) (e 6) (e 7) (e 8) (e 22) w) h hN
theorem s105_11 {R : VP} {Q : EQ} (hN : ∀ e w, (m105_5 R (e 0) (e 7) w) → Q .normal e w) (e : Env) (w : World) (h : m105_11 R (e 0) (e 6) (e 7) (e 8) w) : W105 k105_11 Q e w := by
  unfold m105_11 at h
  refine block_ok 0 (by kernel_rfl) ?_
  have hX0 : ∀ e w, (m105_5 R (e 0) (e 7) w) → (inBlockE 0 Q) (.exit 0) e w := fun e w h => inBlock_same (Q := Q) 0 (hN e w h)
  refine loop_ok' (fun (e : Env) => (e 7, e 8)) [0, 6] (by kernel_rfl) (by kernel_rfl) h (fun K e' w' hk h' => ?_)
  have r0 : e' 0 = e 0 := hk 0 (by decide)
  have r6 : e' 6 = e 6 := hk 6 (by decide)
  have hX0 : ∀ e w, (m105_5 R (e 0) (e 7) w) → (thenE (fun (e : Env) w => K ((e 7), (e 8)) w) (inBlockE 0 Q)) (.exit 0) e w := fun e w h => then_X (hX0 e w h)
  exact s105_12 (R := R) (Q := (thenE (fun (e : Env) w => K ((e 7), (e 8)) w) (inBlockE 0 Q))) (K1 := K) (fun _ _ h => then_N h) hX0 e' w' (by rw [r0, r6]; exact h')
theorem s105_4 {R : VP} {Q : EQ} (hR : ∀ e w, (R (Value.tuple #[(e 4), (e 5)]) w) → Q .ret e w) (e : Env) (w : World) (h : m105_4 R (e 0) (e 6) (e 7) w) : W105 k105_4 Q e w := by
  unfold m105_4 at h
  refine seA ?_
  have hN : ∀ e w, (m105_5 R (e 0) (e 7) w) → (thenE (W105 k105_5 Q) Q) .normal e w := fun e w h => then_N (s105_5 (R := R) (Q := Q) hR e w h)
  refine seA ?_
  have hN : ∀ e w, (m105_11 R (e 0) (e 6) (e 7) (e 8) w) → (thenE (W105 k105_11 (thenE (W105 k105_5 Q) Q)) (thenE (W105 k105_5 Q) Q)) .normal e w := fun e w h => then_N (s105_11 (R := R) (Q := (thenE (W105 k105_5 Q) Q)) hN e w h)
  exact rgA 5 (fun e w => m105_11 R (e 0) (e 6) (e 7) (e 8) w) h hN
theorem s105_3 {R : VP} {Q : EQ} (hR : ∀ e w, (R (Value.tuple #[(e 4), (e 5)]) w) → Q .ret e w) (e : Env) (w : World) (h : m105_3 R (e 0) (e 6) w) : W105 k105_3 Q e w := by
  unfold m105_3 at h
  refine seA ?_
  have hN : ∀ e w, (m105_4 R (e 0) (e 6) (e 7) w) → (thenE (W105 k105_4 Q) Q) .normal e w := fun e w h => then_N (s105_4 (R := R) (Q := Q) hR e w h)
  exact rgA 4 (fun e w => m105_4 R (e 0) (e 6) (e 7) w) h hN
theorem s105_2 {R : VP} {Q : EQ} (hR : ∀ e w, (R (Value.tuple #[(e 4), (e 5)]) w) → Q .ret e w) (e : Env) (w : World) (h : m105_2 R (e 0) (e 1) w) : W105 k105_2 Q e w := by
  unfold m105_2 at h
  refine seA ?_
  have hN : ∀ e w, (m105_3 R (e 0) (e 6) w) → (thenE (W105 k105_3 Q) Q) .normal e w := fun e w h => then_N (s105_3 (R := R) (Q := Q) hR e w h)
  exact rgA 3 (fun e w => m105_3 R (e 0) (e 6) w) h hN
theorem s105_24 {R : VP} {Q : EQ} (hN : ∀ e w, (m105_2 R (e 0) (e 1) w) → Q .normal e w) (hR : ∀ e w, (R (Value.tuple #[(e 4), (e 5)]) w) → Q .ret e w) (e : Env) (w : World) (h : m105_24 R (e 0) (e 1) (e 16) w) : W105 k105_24 Q e w := by
  unfold m105_24 at h
  refine coA (Operand.tmp 16) h (fun h1 => ?_) (fun h1 => ?_)
  · refine seA ?_
    have hN : ∀ e w, (m105_25 R (e 4) (e 5) w) → (thenE (W105 k105_25 Q) Q) .normal e w := fun e w h => then_N (s105_25 (R := R) (Q := Q) hR e w h)
    exact rgA 2 (fun e w => m105_25 R (e 4) (e 5) w) h1 hN
  · exact skA (hN _ _ h1)
theorem s105_1 {R : VP} {Q : EQ} (hR : ∀ e w, (R (Value.tuple #[(e 4), (e 5)]) w) → Q .ret e w) (e : Env) (w : World) (h : m105_1 R (e 0) (e 1) w) : W105 k105_1 Q e w := by
  unfold m105_1 at h
  refine seA ?_
  have hN : ∀ e w, (m105_2 R (e 0) (e 1) w) → (thenE (W105 k105_2 Q) Q) .normal e w := fun e w h => then_N (s105_2 (R := R) (Q := Q) hR e w h)
  have hR : ∀ e w, (R (Value.tuple #[(e 4), (e 5)]) w) → (thenE (W105 k105_2 Q) Q) .ret e w := fun e w h => then_R (hR e w h)
  refine seA ?_
  have hN : ∀ e w, (m105_24 R (e 0) (e 1) (e 16) w) → (thenE (W105 k105_24 (thenE (W105 k105_2 Q) Q)) (thenE (W105 k105_2 Q) Q)) .normal e w := fun e w h => then_N (s105_24 (R := R) (Q := (thenE (W105 k105_2 Q) Q)) hN hR e w h)
  exact rgA 1 (fun e w => m105_24 R (e 0) (e 1) (e 16) w) h hN
theorem s105_0 {R : VP} {Q : EQ} (hR : ∀ e w, (R (Value.tuple #[(e 4), (e 5)]) w) → Q .ret e w) (e : Env) (w : World) (h : m105_0 R (e 0) (e 1) w) : W105 k105_0 Q e w := by
  unfold m105_0 at h
  refine seA ?_
  have hN : ∀ e w, (m105_1 R (e 0) (e 1) w) → (thenE (W105 k105_1 Q) Q) .normal e w := fun e w h => then_N (s105_1 (R := R) (Q := Q) hR e w h)
  exact rgA 0 (fun e w => m105_1 R (e 0) (e 1) w) h hN
abbrev m105 (R : VP) (parts0 members1 : Value) (w : World) : Prop := m105_0 R parts0 members1 w
theorem s105 (parts0 members1 : Value) {R : VP} {w : World} (h : m105 R parts0 members1 w) :
    Calls Try.prog 105 #[parts0, members1] w fun e w' => ∃ v, e = .returned v ∧ R v w' :=
  calls_of_cwp (st := (fun i => 0)) (c := k105_0) (by kernel_rfl) Try.func105 (by kernel_rfl) (Nat.le_of_ble_eq_true (by kernel_rfl)) (by kernel_rfl)
    (s105_0 (R := R) (Q := endE Try.prog Try.f105 R) (fun e w h => kcast (by kernel_rfl) h) (argsE #[parts0, members1]) w (kcast (by kernel_rfl) h))
end Go.Proofs.Ytjjmlopmemmobaa.M
