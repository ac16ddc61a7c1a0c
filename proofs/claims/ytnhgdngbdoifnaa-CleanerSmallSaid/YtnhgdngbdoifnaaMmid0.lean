/- What functions' texts ask of their ends, told over values that have names; printed by a program of this work. -/
import Derived.Test.YtnhgdngbdoifnaaFw
import Derived.Test.YtnhgdngbdoifnaaProg
namespace Go.Proofs.Ytnhgdngbdoifnaa.M
open Go.Proofs.Ytnhgdngbdoifnaa.F
set_option linter.unusedVariables false
set_option maxRecDepth 100000
/-! ### headgate/cleaner.Clean -/
def m7_20 (R : VP) (K1 : VP) (l0 upto1 last5 t16 t17 t18 : Value) (w : World) : Prop :=
  valP Try.prog (binS BinOp.add 3 (Operand.tmp 18) (Operand.const (Value.int IntKind.i64 1)) t18 (Value.int IntKind.i64 1)) w fun t39 w =>
  K1 t39 w
def m7_23 (R : VP) (K1 : VP) (l0 upto1 last5 i6 a8 t16 t17 t18 t35 : Value) (w : World) : Prop :=
  condP t35
  (valP Try.prog (Instr.loadAt 46 a8) w fun t37 w =>
  unitP Try.prog (Instr.mapUpdate 53 last5 t37 i6) w fun _ w =>
  m7_20 R K1 l0 upto1 last5 t16 t17 t18 w)
  (m7_20 R K1 l0 upto1 last5 t16 t17 t18 w)
def m7_22 (R : VP) (K1 : VP) (l0 upto1 last5 i6 g7 a8 ok9 t16 t17 t18 : Value) (w : World) : Prop :=
  condP ok9
  (valP Try.prog (Instr.fieldAt 48 g7 0) w fun t31 w =>
  valP Try.prog (Instr.loadAt 3 t31) w fun t32 w =>
  valP Try.prog (binS BinOp.lss 3 (Operand.tmp 32) (Operand.tmp 33) t32 upto1) w fun t34 w =>
  pickP ok9 t34 (Value.bool false) fun t35 =>
  m7_23 R K1 l0 upto1 last5 i6 a8 t16 t17 t18 t35 w)
  (pickP ok9 undef (Value.bool false) fun t35 =>
  m7_23 R K1 l0 upto1 last5 i6 a8 t16 t17 t18 t35 w)
def m7_21 (R : VP) (K1 : VP) (l0 upto1 last5 i6 g7 t16 t17 t18 : Value) (w : World) : Prop :=
  valP Try.prog (Instr.fieldAt 48 g7 1) w fun t24 w =>
  valP Try.prog (Instr.loadAt 46 t24) w fun t25 w =>
  callP Try.prog (fnV 18) #[t25] w fun t26 w =>
  valP Try.prog (Instr.extract t26 0) w fun t27 w =>
  valP Try.prog (Instr.extract t26 1) w fun t28 w =>
  valP Try.prog (Instr.alloc 46 true (.tuple #[])) w fun a8 w =>
  unitP Try.prog (Instr.storeAt 46 a8 t27) w fun _ w =>
  m7_22 R K1 l0 upto1 last5 i6 g7 a8 t28 t16 t17 t18 w
def m7_19 (R : VP) (K1 : VP) (l0 upto1 last5 t16 t17 t18 : Value) (w : World) : Prop :=
  valP Try.prog (Instr.indexAt 25 t16 t18) w fun t21 w =>
  valP Try.prog (Instr.loadAt 48 t21) w fun t22 w =>
  valP Try.prog (Instr.alloc 48 true (.tuple #[])) w fun g7 w =>
  unitP Try.prog (Instr.storeAt 48 g7 t22) w fun _ w =>
  m7_21 R K1 l0 upto1 last5 t18 g7 t16 t17 t18 w
def m7_11 (R : VP) (K1 : (Value × Value) → World → Prop) (upto1 last5 out10 t40 t41 t42 : Value) (w : World) : Prop :=
  valP Try.prog (binS BinOp.add 3 (Operand.tmp 42) (Operand.const (Value.int IntKind.i64 1)) t42 (Value.int IntKind.i64 1)) w fun t76 w =>
  K1 (out10, t76) w
def m7_14 (R : VP) (K1 : (Value × Value) → World → Prop) (upto1 last5 out10 g12 t40 t41 t42 : Value) (w : World) : Prop :=
  valP Try.prog (Instr.loadAt 48 g12) w fun t73 w =>
  valP Try.prog (Instr.buildSlice 25 1 #[(0, t73)]) w fun t74 w =>
  builtinP Try.prog Builtin.append #[25, 25] 25 #[false, false] #[out10, t74] w fun t75 w =>
  m7_11 R K1 upto1 last5 t75 t40 t41 t42 w
def m7_15 (R : VP) (K1 : (Value × Value) → World → Prop) (upto1 last5 out10 g12 t40 t41 t42 t71 : Value) (w : World) : Prop :=
  condP t71
  (m7_11 R K1 upto1 last5 out10 t40 t41 t42 w)
  (m7_14 R K1 upto1 last5 out10 g12 t40 t41 t42 w)
def m7_13 (R : VP) (K1 : (Value × Value) → World → Prop) (upto1 last5 out10 i11 g12 a13 ok14 t40 t41 t42 : Value) (w : World) : Prop :=
  valP Try.prog (Instr.fieldAt 48 g12 0) w fun t53 w =>
  valP Try.prog (Instr.loadAt 3 t53) w fun t54 w =>
  valP Try.prog (binS BinOp.lss 3 (Operand.tmp 54) (Operand.tmp 55) t54 upto1) w fun t56 w =>
  condP t56
  (pickP t56 ok14 (Value.bool false) fun t59 =>
  condP t59
  (valP Try.prog (Instr.loadAt 46 a13) w fun t62 w =>
  valP Try.prog (Instr.lookup 53 last5 t62 false) w fun t63 w =>
  valP Try.prog (binS BinOp.neq 3 (Operand.tmp 63) (Operand.tmp 64) t63 i11) w fun t65 w =>
  condP t65
  (pickP t65 (Value.bool true) undef fun t70 =>
  pickP t59 t70 (Value.bool false) fun t71 =>
  m7_15 R K1 upto1 last5 out10 g12 t40 t41 t42 t71 w)
  (valP Try.prog (Instr.fieldAt 48 g12 1) w fun t67 w =>
  valP Try.prog (Instr.loadAt 46 t67) w fun t68 w =>
  callP Try.prog (fnV 19) #[t68] w fun t69 w =>
  pickP t65 (Value.bool true) t69 fun t70 =>
  pickP t59 t70 (Value.bool false) fun t71 =>
  m7_15 R K1 upto1 last5 out10 g12 t40 t41 t42 t71 w))
  (pickP t59 undef (Value.bool false) fun t71 =>
  m7_15 R K1 upto1 last5 out10 g12 t40 t41 t42 t71 w))
  (pickP t56 undef (Value.bool false) fun t59 =>
  condP t59
  (valP Try.prog (Instr.loadAt 46 a13) w fun t62 w =>
  valP Try.prog (Instr.lookup 53 last5 t62 false) w fun t63 w =>
  valP Try.prog (binS BinOp.neq 3 (Operand.tmp 63) (Operand.tmp 64) t63 i11) w fun t65 w =>
  condP t65
  (pickP t65 (Value.bool true) undef fun t70 =>
  pickP t59 t70 (Value.bool false) fun t71 =>
  m7_15 R K1 upto1 last5 out10 g12 t40 t41 t42 t71 w)
  (valP Try.prog (Instr.fieldAt 48 g12 1) w fun t67 w =>
  valP Try.prog (Instr.loadAt 46 t67) w fun t68 w =>
  callP Try.prog (fnV 19) #[t68] w fun t69 w =>
  pickP t65 (Value.bool true) t69 fun t70 =>
  pickP t59 t70 (Value.bool false) fun t71 =>
  m7_15 R K1 upto1 last5 out10 g12 t40 t41 t42 t71 w))
  (pickP t59 undef (Value.bool false) fun t71 =>
  m7_15 R K1 upto1 last5 out10 g12 t40 t41 t42 t71 w))
def m7_12 (R : VP) (K1 : (Value × Value) → World → Prop) (upto1 last5 out10 i11 g12 t40 t41 t42 : Value) (w : World) : Prop :=
  valP Try.prog (Instr.fieldAt 48 g12 1) w fun t48 w =>
  valP Try.prog (Instr.loadAt 46 t48) w fun t49 w =>
  callP Try.prog (fnV 18) #[t49] w fun t50 w =>
  valP Try.prog (Instr.extract t50 0) w fun t51 w =>
  valP Try.prog (Instr.extract t50 1) w fun t52 w =>
  valP Try.prog (Instr.alloc 46 true (.tuple #[])) w fun a13 w =>
  unitP Try.prog (Instr.storeAt 46 a13 t51) w fun _ w =>
  m7_13 R K1 upto1 last5 out10 i11 g12 a13 t52 t40 t41 t42 w
def m7_10 (R : VP) (K1 : (Value × Value) → World → Prop) (upto1 last5 out10 t40 t41 t42 : Value) (w : World) : Prop :=
  valP Try.prog (Instr.indexAt 25 t40 t42) w fun t45 w =>
  valP Try.prog (Instr.loadAt 48 t45) w fun t46 w =>
  valP Try.prog (Instr.alloc 48 true (.tuple #[])) w fun g12 w =>
  unitP Try.prog (Instr.storeAt 48 g12 t46) w fun _ w =>
  m7_12 R K1 upto1 last5 out10 t42 g12 t40 t41 t42 w
def m7_6 (R : VP) (t4 : Value) (w : World) : Prop :=
  R t4 w
def m7_5 (R : VP) (out10 : Value) (w : World) : Prop :=
  m7_6 R out10 w
def m7_9 (R : VP) (K1 : (Value × Value) → World → Prop) (upto1 last5 out10 t40 t41 t42 t43 : Value) (w : World) : Prop :=
  condP t43
  (m7_10 R K1 upto1 last5 out10 t40 t41 t42 w)
  (m7_5 R out10 w)
def m7_8 (R : VP) (K1 : (Value × Value) → World → Prop) (upto1 last5 out10 t40 t41 t42 : Value) (w : World) : Prop :=
  valP Try.prog (binS BinOp.lss 3 (Operand.tmp 42) (Operand.tmp 41) t42 t41) w fun t43 w =>
  m7_9 R K1 upto1 last5 out10 t40 t41 t42 t43 w
def m7_7 (R : VP) (upto1 last5 out10 t40 t41 t42 : Value) (w : World) : Prop :=
  loopP (fun (K1 : (Value × Value) → World → Prop) (s : Value × Value) w => m7_8 R K1 upto1 last5 s.1 t40 t41 s.2 w) (out10, t42) w
def m7_4 (R : VP) (l0 upto1 last5 out10 : Value) (w : World) : Prop :=
  builtinP Try.prog Builtin.len #[25] 3 #[false] #[l0] w fun t41 w =>
  m7_7 R upto1 last5 out10 l0 t41 (Value.int IntKind.i64 0) w
def m7_3 (R : VP) (l0 upto1 last5 : Value) (w : World) : Prop :=
  m7_4 R l0 upto1 last5 (Value.slice none 0 0) w
def m7_18 (R : VP) (K1 : VP) (l0 upto1 last5 t16 t17 t18 t19 : Value) (w : World) : Prop :=
  condP t19
  (m7_19 R K1 l0 upto1 last5 t16 t17 t18 w)
  (m7_3 R l0 upto1 last5 w)
def m7_17 (R : VP) (K1 : VP) (l0 upto1 last5 t16 t17 t18 : Value) (w : World) : Prop :=
  valP Try.prog (binS BinOp.lss 3 (Operand.tmp 18) (Operand.tmp 17) t18 t17) w fun t19 w =>
  m7_18 R K1 l0 upto1 last5 t16 t17 t18 t19 w
def m7_16 (R : VP) (l0 upto1 last5 t16 t17 t18 : Value) (w : World) : Prop :=
  loopP (fun (K1 : VP) (s : Value) w => m7_17 R K1 l0 upto1 last5 t16 t17 s w) t18 w
def m7_2 (R : VP) (l0 upto1 last5 : Value) (w : World) : Prop :=
  builtinP Try.prog Builtin.len #[25] 3 #[false] #[l0] w fun t17 w =>
  m7_16 R l0 upto1 last5 l0 t17 (Value.int IntKind.i64 0) w
def m7_1 (R : VP) (l0 upto1 : Value) (w : World) : Prop :=
  valP Try.prog (Instr.makeMap 53 none) w fun t15 w =>
  m7_2 R l0 upto1 t15 w
def m7_0 (R : VP) (l0 upto1 : Value) (w : World) : Prop :=
  m7_1 R l0 upto1 w
abbrev W7 := cwp Try.prog (fun i => 0)
noncomputable def k7_0 : Code := (bodyOf Try.f7)
noncomputable def k7_1 : Code := (c2 k7_0)
noncomputable def k7_2 : Code := (c2 k7_1)
noncomputable def k7_3 : Code := (c2 k7_2)
noncomputable def k7_4 : Code := (c2 k7_3)
noncomputable def k7_5 : Code := (c2 k7_4)
noncomputable def k7_6 : Code := (c2 k7_5)
noncomputable def k7_7 : Code := (c2 (c1 k7_4))
noncomputable def k7_8 : Code := (c1 (c1 k7_7))
noncomputable def k7_9 : Code := (c2 k7_8)
noncomputable def k7_10 : Code := (c2 k7_9)
noncomputable def k7_11 : Code := (c2 k7_10)
noncomputable def k7_12 : Code := (c2 (c1 (c1 k7_10)))
noncomputable def k7_13 : Code := (c2 k7_12)
noncomputable def k7_14 : Code := (c2 k7_13)
noncomputable def k7_15 : Code := (c2 (c1 k7_13))
noncomputable def k7_16 : Code := (c2 (c1 k7_2))
noncomputable def k7_17 : Code := (c1 (c1 k7_16))
noncomputable def k7_18 : Code := (c2 k7_17)
noncomputable def k7_19 : Code := (c2 k7_18)
noncomputable def k7_20 : Code := (c2 k7_19)
noncomputable def k7_21 : Code := (c2 (c1 (c1 k7_19)))
noncomputable def k7_22 : Code := (c2 k7_21)
noncomputable def k7_23 : Code := (c2 k7_22)
theorem s7_20 {R : VP} {K1 : VP} {Q : EQ} (hN : ∀ e w, (K1 (e 18) w) → Q .normal e w) (e : Env) (w : World) (h : m7_20 R K1 (e 0) (e 1) (e 5) (e 16) (e 17) (e 18) w) : W7 k7_20 Q e w := by
  unfold m7_20 at h
  exact rgA 8 (fun e w => K1 (e 18) w) h hN
theorem s7_23 {R : VP} {K1 : VP} {Q : EQ} (hN : ∀ e w, (m7_20 R K1 (e 0) (e 1) (e 5) (e 16) (e 17) (e 18) w) → Q .normal e w) (e : Env) (w : World) (h : m7_23 R K1 (e 0) (e 1) (e 5) (e 6) (e 8) (e 16) (e 17) (e 18) (e 35) w) : W7 k7_23 Q e w := by
  unfold m7_23 at h
  refine coA (Operand.tmp 35) h (fun h1 => ?_) (fun h1 => ?_)
  · exact rgA 7 (fun e w => m7_20 R K1 (e 0) (e 1) (e 5) (e 16) (e 17) (e 18) w) h1 hN
  · exact skA (hN _ _ h1)
theorem s7_22 {R : VP} {K1 : VP} {Q : EQ} (hN : ∀ e w, (m7_20 R K1 (e 0) (e 1) (e 5) (e 16) (e 17) (e 18) w) → Q .normal e w) (e : Env) (w : World) (h : m7_22 R K1 (e 0) (e 1) (e 5) (e 6) (e 7) (e 8) (e 9) (e 16) (e 17) (e 18) w) : W7 k7_22 Q e w := by
  unfold m7_22 at h
  refine seA ?_
  have hN : ∀ e w, (m7_23 R K1 (e 0) (e 1) (e 5) (e 6) (e 8) (e 16) (e 17) (e 18) (e 35) w) → (thenE (W7 k7_23 Q) Q) .normal e w := fun e w h => then_N (s7_23 (R := R) (Q := Q) (K1 := K1) hN e w h)
  exact rgA 6 (fun e w => m7_23 R K1 (e 0) (e 1) (e 5) (e 6) (e 8) (e 16) (e 17) (e 18) (e 35) w) h hN
theorem s7_21 {R : VP} {K1 : VP} {Q : EQ} (hN : ∀ e w, (m7_20 R K1 (e 0) (e 1) (e 5) (e 16) (e 17) (e 18) w) → Q .normal e w) (e : Env) (w : World) (h : m7_21 R K1 (e 0) (e 1) (e 5) (e 6) (e 7) (e 16) (e 17) (e 18) w) : W7 k7_21 Q e w := by
  unfold m7_21 at h
  refine seA ?_
  have hN : ∀ e w, (m7_22 R K1 (e 0) (e 1) (e 5) (e 6) (e 7) (e 8) (e 9) (e 16) (e 17) (e 18) w) → (thenE (W7 k7_22 Q) Q) .normal e w := fun e w h => then_N (s7_22 (R := R) (Q := Q) (K1 := K1) hN e w h)
  exact rgA 5 (fun e w => m7_22 R K1 (e 0) (e 1) (e 5) (e 6) (e 7) (e 8) (e 9) (e 16) (e 17) (e 18) w) h hN
theorem s7_19 {R : VP} {K1 : VP} {Q : EQ} (hN : ∀ e w, (K1 (e 18) w) → Q .normal e w) (e : Env) (w : World) (h : m7_19 R K1 (e 0) (e 1) (e 5) (e 16) (e 17) (e 18) w) : W7 k7_19 Q e w := by
  unfold m7_19 at h
  refine seA ?_
  have hN : ∀ e w, (m7_20 R K1 (e 0) (e 1) (e 5) (e 16) (e 17) (e 18) w) → (thenE (W7 k7_20 Q) Q) .normal e w := fun e w h => then_N (s7_20 (R := R) (Q := Q) (K1 := K1) hN e w h)
  refine block_ok 1 (by kernel_rfl) ?_
  have hN : ∀ e w, (m7_20 R K1 (e 0) (e 1) (e 5) (e 16) (e 17) (e 18) w) → (inBlockE 1 (thenE (W7 k7_20 Q) Q)) .normal e w := fun e w h => block_N (hN e w h)
  refine seA ?_
  have hN : ∀ e w, (m7_21 R K1 (e 0) (e 1) (e 5) (e 6) (e 7) (e 16) (e 17) (e 18) w) → (thenE (W7 k7_21 (inBlockE 1 (thenE (W7 k7_20 Q) Q))) (inBlockE 1 (thenE (W7 k7_20 Q) Q))) .normal e w := fun e w h => then_N (s7_21 (R := R) (Q := (inBlockE 1 (thenE (W7 k7_20 Q) Q))) (K1 := K1) hN e w h)
  exact rgA 4 (fun e w => m7_21 R K1 (e 0) (e 1) (e 5) (e 6) (e 7) (e 16) (e 17) (e 18) w) h hN
theorem s7_11 {R : VP} {K1 : (Value × Value) → World → Prop} {Q : EQ} (hN : ∀ e w, (K1 ((e 10), (e 42)) w) → Q .normal e w) (e : Env) (w : World) (h : m7_11 R K1 (e 1) (e 5) (e 10) (e 40) (e 41) (e 42) w) : W7 k7_11 Q e w := by
  unfold m7_11 at h
  exact rgA 16 (fun e w => K1 ((e 10), (e 42)) w) h hN
theorem s7_14 {R : VP} {K1 : (Value × Value) → World → Prop} {Q : EQ} (hN : ∀ e w, (m7_11 R K1 (e 1) (e 5) (e 10) (e 40) (e 41) (e 42) w) → Q .normal e w) (e : Env) (w : World) (h : m7_14 R K1 (e 1) (e 5) (e 10) (e 12) (e 40) (e 41) (e 42) w) : W7 k7_14 Q e w := by
  unfold m7_14 at h
  exact rgA 15 (fun e w => m7_11 R K1 (e 1) (e 5) (e 10) (e 40) (e 41) (e 42) w) h hN
theorem s7_15 {R : VP} {K1 : (Value × Value) → World → Prop} {Q : EQ} (hN : ∀ e w, (m7_14 R K1 (e 1) (e 5) (e 10) (e 12) (e 40) (e 41) (e 42) w) → Q .normal e w) (hX3 : ∀ e w, (m7_11 R K1 (e 1) (e 5) (e 10) (e 40) (e 41) (e 42) w) → Q (.exit 3) e w) (e : Env) (w : World) (h : m7_15 R K1 (e 1) (e 5) (e 10) (e 12) (e 40) (e 41) (e 42) (e 71) w) : W7 k7_15 Q e w := by
  unfold m7_15 at h
  refine coA (Operand.tmp 71) h (fun h1 => ?_) (fun h1 => ?_)
  · exact exA 3 (hX3 _ _ h1)
  · exact skA (hN _ _ h1)
theorem s7_13 {R : VP} {K1 : (Value × Value) → World → Prop} {Q : EQ} (hN : ∀ e w, (m7_11 R K1 (e 1) (e 5) (e 10) (e 40) (e 41) (e 42) w) → Q .normal e w) (hX3 : ∀ e w, (m7_11 R K1 (e 1) (e 5) (e 10) (e 40) (e 41) (e 42) w) → Q (.exit 3) e w) (e : Env) (w : World) (h : m7_13 R K1 (e 1) (e 5) (e 10) (e 11) (e 12) (e 13) (e 14) (e 40) (e 41) (e 42) w) : W7 k7_13 Q e w := by
  unfold m7_13 at h
  refine seA ?_
  have hN : ∀ e w, (m7_14 R K1 (e 1) (e 5) (e 10) (e 12) (e 40) (e 41) (e 42) w) → (thenE (W7 k7_14 Q) Q) .normal e w := fun e w h => then_N (s7_14 (R := R) (Q := Q) (K1 := K1) hN e w h)
  have hX3 : ∀ e w, (m7_11 R K1 (e 1) (e 5) (e 10) (e 40) (e 41) (e 42) w) → (thenE (W7 k7_14 Q) Q) (.exit 3) e w := fun e w h => then_X (hX3 e w h)
  refine seA ?_
  have hN : ∀ e w, (m7_15 R K1 (e 1) (e 5) (e 10) (e 12) (e 40) (e 41) (e 42) (e 71) w) → (thenE (W7 k7_15 (thenE (W7 k7_14 Q) Q)) (thenE (W7 k7_14 Q) Q)) .normal e w := fun e w h => then_N (s7_15 (R := R) (Q := (thenE (W7 k7_14 Q) Q)) (K1 := K1) hN hX3 e w h)
  exact rgA 14 (fun e w => m7_15 R K1 (e 1) (e 5) (e 10) (e 12) (e 40) (e 41) (e 42) (e 71) w) h hN
theorem s7_12 {R : VP} {K1 : (Value × Value) → World → Prop} {Q : EQ} (hN : ∀ e w, (m7_11 R K1 (e 1) (e 5) (e 10) (e 40) (e 41) (e 42) w) → Q .normal e w) (hX3 : ∀ e w, (m7_11 R K1 (e 1) (e 5) (e 10) (e 40) (e 41) (e 42) w) → Q (.exit 3) e w) (e : Env) (w : World) (h : m7_12 R K1 (e 1) (e 5) (e 10) (e 11) (e 12) (e 40) (e 41) (e 42) w) : W7 k7_12 Q e w := by
  unfold m7_12 at h
  refine seA ?_
  have hN : ∀ e w, (m7_13 R K1 (e 1) (e 5) (e 10) (e 11) (e 12) (e 13) (e 14) (e 40) (e 41) (e 42) w) → (thenE (W7 k7_13 Q) Q) .normal e w := fun e w h => then_N (s7_13 (R := R) (Q := Q) (K1 := K1) hN hX3 e w h)
  exact rgA 13 (fun e w => m7_13 R K1 (e 1) (e 5) (e 10) (e 11) (e 12) (e 13) (e 14) (e 40) (e 41) (e 42) w) h hN
theorem s7_10 {R : VP} {K1 : (Value × Value) → World → Prop} {Q : EQ} (hN : ∀ e w, (K1 ((e 10), (e 42)) w) → Q .normal e w) (e : Env) (w : World) (h : m7_10 R K1 (e 1) (e 5) (e 10) (e 40) (e 41) (e 42) w) : W7 k7_10 Q e w := by
  unfold m7_10 at h
  refine seA ?_
  have hN : ∀ e w, (m7_11 R K1 (e 1) (e 5) (e 10) (e 40) (e 41) (e 42) w) → (thenE (W7 k7_11 Q) Q) .normal e w := fun e w h => then_N (s7_11 (R := R) (Q := Q) (K1 := K1) hN e w h)
  refine block_ok 3 (by kernel_rfl) ?_
  have hX3 : ∀ e w, (m7_11 R K1 (e 1) (e 5) (e 10) (e 40) (e 41) (e 42) w) → (inBlockE 3 (thenE (W7 k7_11 Q) Q)) (.exit 3) e w := fun e w h => inBlock_same (Q := (thenE (W7 k7_11 Q) Q)) 3 (hN e w h)
  have hN : ∀ e w, (m7_11 R K1 (e 1) (e 5) (e 10) (e 40) (e 41) (e 42) w) → (inBlockE 3 (thenE (W7 k7_11 Q) Q)) .normal e w := fun e w h => block_N (hN e w h)
  refine seA ?_
  have hN : ∀ e w, (m7_12 R K1 (e 1) (e 5) (e 10) (e 11) (e 12) (e 40) (e 41) (e 42) w) → (thenE (W7 k7_12 (inBlockE 3 (thenE (W7 k7_11 Q) Q))) (inBlockE 3 (thenE (W7 k7_11 Q) Q))) .normal e w := fun e w h => then_N (s7_12 (R := R) (Q := (inBlockE 3 (thenE (W7 k7_11 Q) Q))) (K1 := K1) hN hX3 e w h)
  exact rgA 12 (fun e w => m7_12 R K1 (e 1) (e 5) (e 10) (e 11) (e 12) (e 40) (e 41) (e 42) w) h hN
theorem s7_6 {R : VP} {Q : EQ} (hR : ∀ e w, (R (e 4) w) → Q .ret e w) (e : Env) (w : World) (h : m7_6 R (e 4) w) : W7 k7_6 Q e w := by
  unfold m7_6 at h
  exact reA (hR _ _ h)
theorem s7_5 {R : VP} {Q : EQ} (hR : ∀ e w, (R (e 4) w) → Q .ret e w) (e : Env) (w : World) (h : m7_5 R (e 10) w) : W7 k7_5 Q e w := by
  unfold m7_5 at h
  refine seA ?_
  have hN : ∀ e w, (m7_6 R (e 4) w) → (thenE (W7 k7_6 Q) Q) .normal e w := fun e w h => then_N (s7_6 (R := R) (Q := Q) hR e w h)
  exact rgA 17 (fun e w => m7_6 R (e 4) w) h hN
theorem s7_9 {R : VP} {K1 : (Value × Value) → World → Prop} {Q : EQ} (hN : ∀ e w, (K1 ((e 10), (e 42)) w) → Q .normal e w) (hX2 : ∀ e w, (m7_5 R (e 10) w) → Q (.exit 2) e w) (e : Env) (w : World) (h : m7_9 R K1 (e 1) (e 5) (e 10) (e 40) (e 41) (e 42) (e 43) w) : W7 k7_9 Q e w := by
  unfold m7_9 at h
  refine seA ?_
  have hN : ∀ e w, (m7_10 R K1 (e 1) (e 5) (e 10) (e 40) (e 41) (e 42) w) → (thenE (W7 k7_10 Q) Q) .normal e w := fun e w h => then_N (s7_10 (R := R) (Q := Q) (K1 := K1) hN e w h)
  have hX2 : ∀ e w, (m7_5 R (e 10) w) → (thenE (W7 k7_10 Q) Q) (.exit 2) e w := fun e w h => then_X (hX2 e w h)
  refine coA (Operand.tmp 43) h (fun h1 => ?_) (fun h1 => ?_)
  · exact skA (hN _ _ h1)
  · exact exA 2 (hX2 _ _ h1)
theorem s7_8 {R : VP} {K1 : (Value × Value) → World → Prop} {Q : EQ} (hN : ∀ e w, (K1 ((e 10), (e 42)) w) → Q .normal e w) (hX2 : ∀ e w, (m7_5 R (e 10) w) → Q (.exit 2) e w) (e : Env) (w : World) (h : m7_8 R K1 (e 1) (e 5) (e 10) (e 40) (e 41) (e 42) w) : W7 k7_8 Q e w := by
  unfold m7_8 at h
  refine seA ?_
  have hN : ∀ e w, (m7_9 R K1 (e 1) (e 5) (e 10) (e 40) (e 41) (e 42) (e 43) w) → (thenE (W7 k7_9 Q) Q) .normal e w := fun e w h => then_N (s7_9 (R := R) (Q := Q) (K1 := K1) hN hX2 e w h)
  exact rgA 11 (fun e w => m7_9 R K1 (e 1) (e 5) (e 10) (e 40) (e 41) (e 42) (e 43) w) h hN
theorem s7_7 {R : VP} {Q : EQ} (hN : ∀ e w, (m7_5 R (e 10) w) → Q .normal e w) (e : Env) (w : World) (h : m7_7 R (e 1) (e 5) (e 10) (e 40) (e 41) (e 42) w) : W7 k7_7 Q e w := by
  unfold m7_7 at h
  refine block_ok 2 (by kernel_rfl) ?_
  have hX2 : ∀ e w, (m7_5 R (e 10) w) → (inBlockE 2 Q) (.exit 2) e w := fun e w h => inBlock_same (Q := Q) 2 (hN e w h)
  refine loop_ok' (fun (e : Env) => (e 10, e 42)) [1, 5, 40, 41] (by kernel_rfl) (by kernel_rfl) h (fun K e' w' hk h' => ?_)
  have r1 : e' 1 = e 1 := hk 1 (by decide)
  have r5 : e' 5 = e 5 := hk 5 (by decide)
  have r40 : e' 40 = e 40 := hk 40 (by decide)
  have r41 : e' 41 = e 41 := hk 41 (by decide)
  have hX2 : ∀ e w, (m7_5 R (e 10) w) → (thenE (fun (e : Env) w => K ((e 10), (e 42)) w) (inBlockE 2 Q)) (.exit 2) e w := fun e w h => then_X (hX2 e w h)
  exact s7_8 (R := R) (Q := (thenE (fun (e : Env) w => K ((e 10), (e 42)) w) (inBlockE 2 Q))) (K1 := K) (fun _ _ h => then_N h) hX2 e' w' (by rw [r1, r5, r40, r41]; exact h')
theorem s7_4 {R : VP} {Q : EQ} (hR : ∀ e w, (R (e 4) w) → Q .ret e w) (e : Env) (w : World) (h : m7_4 R (e 0) (e 1) (e 5) (e 10) w) : W7 k7_4 Q e w := by
  unfold m7_4 at h
  refine seA ?_
  have hN : ∀ e w, (m7_5 R (e 10) w) → (thenE (W7 k7_5 Q) Q) .normal e w := fun e w h => then_N (s7_5 (R := R) (Q := Q) hR e w h)
  refine seA ?_
  have hN : ∀ e w, (m7_7 R (e 1) (e 5) (e 10) (e 40) (e 41) (e 42) w) → (thenE (W7 k7_7 (thenE (W7 k7_5 Q) Q)) (thenE (W7 k7_5 Q) Q)) .normal e w := fun e w h => then_N (s7_7 (R := R) (Q := (thenE (W7 k7_5 Q) Q)) hN e w h)
  exact rgA 10 (fun e w => m7_7 R (e 1) (e 5) (e 10) (e 40) (e 41) (e 42) w) h hN
theorem s7_3 {R : VP} {Q : EQ} (hR : ∀ e w, (R (e 4) w) → Q .ret e w) (e : Env) (w : World) (h : m7_3 R (e 0) (e 1) (e 5) w) : W7 k7_3 Q e w := by
  unfold m7_3 at h
  refine seA ?_
  have hN : ∀ e w, (m7_4 R (e 0) (e 1) (e 5) (e 10) w) → (thenE (W7 k7_4 Q) Q) .normal e w := fun e w h => then_N (s7_4 (R := R) (Q := Q) hR e w h)
  exact rgA 9 (fun e w => m7_4 R (e 0) (e 1) (e 5) (e 10) w) h hN
theorem s7_18 {R : VP} {K1 : VP} {Q : EQ} (hN : ∀ e w, (K1 (e 18) w) → Q .normal e w) (hX0 : ∀ e w, (m7_3 R (e 0) (e 1) (e 5) w) → Q (.exit 0) e w) (e : Env) (w : World) (h : m7_18 R K1 (e 0) (e 1) (e 5) (e 16) (e 17) (e 18) (e 19) w) : W7 k7_18 Q e w := by
  unfold m7_18 at h
  refine seA ?_
  have hN : ∀ e w, (m7_19 R K1 (e 0) (e 1) (e 5) (e 16) (e 17) (e 18) w) → (thenE (W7 k7_19 Q) Q) .normal e w := fun e w h => then_N (s7_19 (R := R) (Q := Q) (K1 := K1) hN e w h)
  have hX0 : ∀ e w, (m7_3 R (e 0) (e 1) (e 5) w) → (thenE (W7 k7_19 Q) Q) (.exit 0) e w := fun e w h => then_X (hX0 e w h)
  refine coA (Operand.tmp 19) h (fun h1 => ?_) (fun h1 => ?_)
  · exact skA (hN _ _ h1)
  · exact exA 0 (hX0 _ _ h1)
theorem s7_17 {R : VP} {K1 : VP} {Q : EQ} (hN : ∀ e w, (K1 (e 18) w) → Q .normal e w) (hX0 : ∀ e w, (m7_3 R (e 0) (e 1) (e 5) w) → Q (.exit 0) e w) (e : Env) (w : World) (h : m7_17 R K1 (e 0) (e 1) (e 5) (e 16) (e 17) (e 18) w) : W7 k7_17 Q e w := by
  unfold m7_17 at h
  refine seA ?_
  have hN : ∀ e w, (m7_18 R K1 (e 0) (e 1) (e 5) (e 16) (e 17) (e 18) (e 19) w) → (thenE (W7 k7_18 Q) Q) .normal e w := fun e w h => then_N (s7_18 (R := R) (Q := Q) (K1 := K1) hN hX0 e w h)
  exact rgA 3 (fun e w => m7_18 R K1 (e 0) (e 1) (e 5) (e 16) (e 17) (e 18) (e 19) w) h hN
theorem s7_16 {R : VP} {Q : EQ} (hN : ∀ e w, (m7_3 R (e 0) (e 1) (e 5) w) → Q .normal e w) (e : Env) (w : World) (h : m7_16 R (e 0) (e 1) (e 5) (e 16) (e 17) (e 18) w) : W7 k7_16 Q e w := by
  unfold m7_16 at h
  refine block_ok 0 (by kernel_rfl) ?_
  have hX0 : ∀ e w, (m7_3 R (e 0) (e 1) (e 5) w) → (inBlockE 0 Q) (.exit 0) e w := fun e w h => inBlock_same (Q := Q) 0 (hN e w h)
  refine loop_ok' (fun (e : Env) => e 18) [0, 1, 5, 16, 17] (by kernel_rfl) (by kernel_rfl) h (fun K e' w' hk h' => ?_)
  have r0 : e' 0 = e 0 := hk 0 (by decide)
  have r1 : e' 1 = e 1 := hk 1 (by decide)
  have r5 : e' 5 = e 5 := hk 5 (by decide)
  have r16 : e' 16 = e 16 := hk 16 (by decide)
  have r17 : e' 17 = e 17 := hk 17 (by decide)
  have hX0 : ∀ e w, (m7_3 R (e 0) (e 1) (e 5) w) → (thenE (fun (e : Env) w => K (e 18) w) (inBlockE 0 Q)) (.exit 0) e w := fun e w h => then_X (hX0 e w h)
  exact s7_17 (R := R) (Q := (thenE (fun (e : Env) w => K (e 18) w) (inBlockE 0 Q))) (K1 := K) (fun _ _ h => then_N h) hX0 e' w' (by rw [r0, r1, r5, r16, r17]; exact h')
theorem s7_2 {R : VP} {Q : EQ} (hR : ∀ e w, (R (e 4) w) → Q .ret e w) (e : Env) (w : World) (h : m7_2 R (e 0) (e 1) (e 5) w) : W7 k7_2 Q e w := by
  unfold m7_2 at h
  refine seA ?_
  have hN : ∀ e w, (m7_3 R (e 0) (e 1) (e 5) w) → (thenE (W7 k7_3 Q) Q) .normal e w := fun e w h => then_N (s7_3 (R := R) (Q := Q) hR e w h)
  refine seA ?_
  have hN : ∀ e w, (m7_16 R (e 0) (e 1) (e 5) (e 16) (e 17) (e 18) w) → (thenE (W7 k7_16 (thenE (W7 k7_3 Q) Q)) (thenE (W7 k7_3 Q) Q)) .normal e w := fun e w h => then_N (s7_16 (R := R) (Q := (thenE (W7 k7_3 Q) Q)) hN e w h)
  exact rgA 2 (fun e w => m7_16 R (e 0) (e 1) (e 5) (e 16) (e 17) (e 18) w) h hN
theorem s7_1 {R : VP} {Q : EQ} (hR : ∀ e w, (R (e 4) w) → Q .ret e w) (e : Env) (w : World) (h : m7_1 R (e 0) (e 1) w) : W7 k7_1 Q e w := by
  unfold m7_1 at h
  refine seA ?_
  have hN : ∀ e w, (m7_2 R (e 0) (e 1) (e 5) w) → (thenE (W7 k7_2 Q) Q) .normal e w := fun e w h => then_N (s7_2 (R := R) (Q := Q) hR e w h)
  exact rgA 1 (fun e w => m7_2 R (e 0) (e 1) (e 5) w) h hN
theorem s7_0 {R : VP} {Q : EQ} (hR : ∀ e w, (R (e 4) w) → Q .ret e w) (e : Env) (w : World) (h : m7_0 R (e 0) (e 1) w) : W7 k7_0 Q e w := by
  unfold m7_0 at h
  refine seA ?_
  have hN : ∀ e w, (m7_1 R (e 0) (e 1) w) → (thenE (W7 k7_1 Q) Q) .normal e w := fun e w h => then_N (s7_1 (R := R) (Q := Q) hR e w h)
  exact rgA 0 (fun e w => m7_1 R (e 0) (e 1) w) h hN
abbrev m7 (R : VP) (l0 upto1 : Value) (w : World) : Prop := m7_0 R l0 upto1 w
theorem s7 (l0 upto1 : Value) {R : VP} {w : World} (h : m7 R l0 upto1 w) :
    Calls Try.prog 7 #[l0, upto1] w fun e w' => ∃ v, e = .returned v ∧ R v w' :=
  calls_of_cwp (st := (fun i => 0)) (c := k7_0) (by kernel_rfl) Try.func7 (by kernel_rfl) (Nat.le_of_ble_eq_true (by kernel_rfl)) (by kernel_rfl)
    (s7_0 (R := R) (Q := endE Try.prog Try.f7 R) (fun e w h => kcast (by kernel_rfl) h) (argsE #[l0, upto1]) w (kcast (by kernel_rfl) h))
/-! ### headgate/headgateref08.SameGot -/
def m8_13 (R : VP) (t4 : Value) (w : World) : Prop :=
  R t4 w
def m8_10 (R : VP) (K1 : VP) (t4 : Value) (w : World) : Prop :=
  R t4 w
def m8_8 (R : VP) (K1 : VP) (a0 b1 i5 : Value) (w : World) : Prop :=
  valP Try.prog (binS BinOp.add 3 (Operand.tmp 15) (Operand.const (Value.int IntKind.i64 1)) i5 (Value.int IntKind.i64 1)) w fun t16 w =>
  K1 t16 w
def m8_9 (R : VP) (K1 : VP) (a0 b1 i5 t25 : Value) (w : World) : Prop :=
  condP t25
  (m8_10 R K1 (Value.bool false) w)
  (m8_8 R K1 a0 b1 i5 w)
def m8_7 (R : VP) (K1 : VP) (a0 b1 i5 : Value) (w : World) : Prop :=
  valQ Try.prog (Instr.indexAt 25 a0 i5) w fun t19 =>
  valQ Try.prog (Instr.loadAt 48 t19) w fun t20 =>
  valQ Try.prog (Instr.indexAt 25 b1 i5) w fun t23 =>
  valQ Try.prog (Instr.loadAt 48 t23) w fun t24 =>
  valQ Try.prog (binS BinOp.neq 48 (Operand.tmp 20) (Operand.tmp 24) t20 t24) w fun t25 =>
  anyDraw w fun w =>
  m8_9 R K1 a0 b1 i5 t25 w
def m8_4 (R : VP) (t4 : Value) (w : World) : Prop :=
  R t4 w
def m8_3 (R : VP) (w : World) : Prop :=
  m8_4 R (Value.bool true) w
def m8_11 (R : VP) (K1 : VP) (a0 b1 i5 t14 : Value) (w : World) : Prop :=
  condP t14
  (m8_7 R K1 a0 b1 i5 w)
  (m8_3 R w)
def m8_6 (R : VP) (K1 : VP) (a0 b1 i5 : Value) (w : World) : Prop :=
  builtinP Try.prog Builtin.len #[25] 3 #[false] #[a0] w fun t13 w =>
  valP Try.prog (binS BinOp.lss 3 (Operand.tmp 11) (Operand.tmp 13) i5 t13) w fun t14 w =>
  m8_11 R K1 a0 b1 i5 t14 w
def m8_5 (R : VP) (a0 b1 i5 : Value) (w : World) : Prop :=
  loopP (fun (K1 : VP) (s : Value) w => m8_6 R K1 a0 b1 s w) i5 w
def m8_2 (R : VP) (a0 b1 : Value) (w : World) : Prop :=
  m8_5 R a0 b1 (Value.int IntKind.i64 0) w
def m8_12 (R : VP) (a0 b1 t10 : Value) (w : World) : Prop :=
  condP t10
  (m8_13 R (Value.bool false) w)
  (m8_2 R a0 b1 w)
def m8_1 (R : VP) (a0 b1 : Value) (w : World) : Prop :=
  builtinP Try.prog Builtin.len #[25] 3 #[false] #[a0] w fun t7 w =>
  builtinP Try.prog Builtin.len #[25] 3 #[false] #[b1] w fun t9 w =>
  valP Try.prog (binS BinOp.neq 3 (Operand.tmp 7) (Operand.tmp 9) t7 t9) w fun t10 w =>
  m8_12 R a0 b1 t10 w
def m8_0 (R : VP) (a0 b1 : Value) (w : World) : Prop :=
  m8_1 R a0 b1 w
abbrev W8 := cwp Try.prog (fun i => cond (Nat.beq i 6) 1 (0))
noncomputable def k8_0 : Code := (bodyOf Try.f8)
noncomputable def k8_1 : Code := (c2 k8_0)
noncomputable def k8_2 : Code := (c2 k8_1)
noncomputable def k8_3 : Code := (c2 k8_2)
noncomputable def k8_4 : Code := (c2 k8_3)
noncomputable def k8_5 : Code := (c2 (c1 k8_2))
noncomputable def k8_6 : Code := (c1 (c1 k8_5))
noncomputable def k8_7 : Code := (c2 k8_6)
noncomputable def k8_8 : Code := (c2 k8_7)
noncomputable def k8_9 : Code := (c2 (c1 (c1 k8_7)))
noncomputable def k8_10 : Code := (c2 (c1 k8_9))
noncomputable def k8_11 : Code := (c2 (c1 k8_6))
noncomputable def k8_12 : Code := (c2 (c1 k8_1))
noncomputable def k8_13 : Code := (c2 (c1 k8_12))
theorem s8_13 {R : VP} {Q : EQ} (hR : ∀ e w, (R (e 4) w) → Q .ret e w) (e : Env) (w : World) (h : m8_13 R (e 4) w) : W8 k8_13 Q e w := by
  unfold m8_13 at h
  exact reA (hR _ _ h)
theorem s8_10 {R : VP} {K1 : VP} {Q : EQ} (hR : ∀ e w, (R (e 4) w) → Q .ret e w) (e : Env) (w : World) (h : m8_10 R K1 (e 4) w) : W8 k8_10 Q e w := by
  unfold m8_10 at h
  exact reA (hR _ _ h)
theorem s8_8 {R : VP} {K1 : VP} {Q : EQ} (hN : ∀ e w, (K1 (e 5) w) → Q .normal e w) (e : Env) (w : World) (h : m8_8 R K1 (e 0) (e 1) (e 5) w) : W8 k8_8 Q e w := by
  unfold m8_8 at h
  exact rgA 5 (fun e w => K1 (e 5) w) h hN
theorem s8_9 {R : VP} {K1 : VP} {Q : EQ} (hN : ∀ e w, (m8_8 R K1 (e 0) (e 1) (e 5) w) → Q .normal e w) (hR : ∀ e w, (R (e 4) w) → Q .ret e w) (e : Env) (w : World) (h : m8_9 R K1 (e 0) (e 1) (e 5) (e 25) w) : W8 k8_9 Q e w := by
  unfold m8_9 at h
  refine coA (Operand.tmp 25) h (fun h1 => ?_) (fun h1 => ?_)
  · refine seA ?_
    have hN : ∀ e w, (m8_10 R K1 (e 4) w) → (thenE (W8 k8_10 Q) Q) .normal e w := fun e w h => then_N (s8_10 (R := R) (Q := Q) (K1 := K1) hR e w h)
    exact rgA 7 (fun e w => m8_10 R K1 (e 4) w) h1 hN
  · exact skA (hN _ _ h1)
theorem s8_7 {R : VP} {K1 : VP} {Q : EQ} (hN : ∀ e w, (K1 (e 5) w) → Q .normal e w) (hR : ∀ e w, (R (e 4) w) → Q .ret e w) (e : Env) (w : World) (h : m8_7 R K1 (e 0) (e 1) (e 5) w) : W8 k8_7 Q e w := by
  unfold m8_7 at h
  refine seA ?_
  have hN : ∀ e w, (m8_8 R K1 (e 0) (e 1) (e 5) w) → (thenE (W8 k8_8 Q) Q) .normal e w := fun e w h => then_N (s8_8 (R := R) (Q := Q) (K1 := K1) hN e w h)
  have hR : ∀ e w, (R (e 4) w) → (thenE (W8 k8_8 Q) Q) .ret e w := fun e w h => then_R (hR e w h)
  refine block_ok 1 (by kernel_rfl) ?_
  have hN : ∀ e w, (m8_8 R K1 (e 0) (e 1) (e 5) w) → (inBlockE 1 (thenE (W8 k8_8 Q) Q)) .normal e w := fun e w h => block_N (hN e w h)
  have hR : ∀ e w, (R (e 4) w) → (inBlockE 1 (thenE (W8 k8_8 Q) Q)) .ret e w := fun e w h => block_R (hR e w h)
  refine seA ?_
  have hN : ∀ e w, (m8_9 R K1 (e 0) (e 1) (e 5) (e 25) w) → (thenE (W8 k8_9 (inBlockE 1 (thenE (W8 k8_8 Q) Q))) (inBlockE 1 (thenE (W8 k8_8 Q) Q))) .normal e w := fun e w h => then_N (s8_9 (R := R) (Q := (inBlockE 1 (thenE (W8 k8_8 Q) Q))) (K1 := K1) hN hR e w h)
  exact quA 6 (fun e w => m8_9 R K1 (e 0) (e 1) (e 5) (e 25) w) h hN
theorem s8_4 {R : VP} {Q : EQ} (hR : ∀ e w, (R (e 4) w) → Q .ret e w) (e : Env) (w : World) (h : m8_4 R (e 4) w) : W8 k8_4 Q e w := by
  unfold m8_4 at h
  exact reA (hR _ _ h)
theorem s8_3 {R : VP} {Q : EQ} (hR : ∀ e w, (R (e 4) w) → Q .ret e w) (e : Env) (w : World) (h : m8_3 R w) : W8 k8_3 Q e w := by
  unfold m8_3 at h
  refine seA ?_
  have hN : ∀ e w, (m8_4 R (e 4) w) → (thenE (W8 k8_4 Q) Q) .normal e w := fun e w h => then_N (s8_4 (R := R) (Q := Q) hR e w h)
  exact rgA 8 (fun e w => m8_4 R (e 4) w) h hN
theorem s8_11 {R : VP} {K1 : VP} {Q : EQ} (hN : ∀ e w, (m8_7 R K1 (e 0) (e 1) (e 5) w) → Q .normal e w) (hX0 : ∀ e w, (m8_3 R w) → Q (.exit 0) e w) (e : Env) (w : World) (h : m8_11 R K1 (e 0) (e 1) (e 5) (e 14) w) : W8 k8_11 Q e w := by
  unfold m8_11 at h
  refine coA (Operand.tmp 14) h (fun h1 => ?_) (fun h1 => ?_)
  · exact skA (hN _ _ h1)
  · exact exA 0 (hX0 _ _ h1)
theorem s8_6 {R : VP} {K1 : VP} {Q : EQ} (hN : ∀ e w, (K1 (e 5) w) → Q .normal e w) (hR : ∀ e w, (R (e 4) w) → Q .ret e w) (hX0 : ∀ e w, (m8_3 R w) → Q (.exit 0) e w) (e : Env) (w : World) (h : m8_6 R K1 (e 0) (e 1) (e 5) w) : W8 k8_6 Q e w := by
  unfold m8_6 at h
  refine seA ?_
  have hN : ∀ e w, (m8_7 R K1 (e 0) (e 1) (e 5) w) → (thenE (W8 k8_7 Q) Q) .normal e w := fun e w h => then_N (s8_7 (R := R) (Q := Q) (K1 := K1) hN hR e w h)
  have hX0 : ∀ e w, (m8_3 R w) → (thenE (W8 k8_7 Q) Q) (.exit 0) e w := fun e w h => then_X (hX0 e w h)
  refine seA ?_
  have hN : ∀ e w, (m8_11 R K1 (e 0) (e 1) (e 5) (e 14) w) → (thenE (W8 k8_11 (thenE (W8 k8_7 Q) Q)) (thenE (W8 k8_7 Q) Q)) .normal e w := fun e w h => then_N (s8_11 (R := R) (Q := (thenE (W8 k8_7 Q) Q)) (K1 := K1) hN hX0 e w h)
  exact rgA 4 (fun e w => m8_11 R K1 (e 0) (e 1) (e 5) (e 14) w) h hN
theorem s8_5 {R : VP} {Q : EQ} (hN : ∀ e w, (m8_3 R w) → Q .normal e w) (hR : ∀ e w, (R (e 4) w) → Q .ret e w) (e : Env) (w : World) (h : m8_5 R (e 0) (e 1) (e 5) w) : W8 k8_5 Q e w := by
  unfold m8_5 at h
  refine block_ok 0 (by kernel_rfl) ?_
  have hX0 : ∀ e w, (m8_3 R w) → (inBlockE 0 Q) (.exit 0) e w := fun e w h => inBlock_same (Q := Q) 0 (hN e w h)
  have hR : ∀ e w, (R (e 4) w) → (inBlockE 0 Q) .ret e w := fun e w h => block_R (hR e w h)
  refine loop_ok' (fun (e : Env) => e 5) [0, 1] (by kernel_rfl) (by kernel_rfl) h (fun K e' w' hk h' => ?_)
  have r0 : e' 0 = e 0 := hk 0 (by decide)
  have r1 : e' 1 = e 1 := hk 1 (by decide)
  have hR : ∀ e w, (R (e 4) w) → (thenE (fun (e : Env) w => K (e 5) w) (inBlockE 0 Q)) .ret e w := fun e w h => then_R (hR e w h)
  have hX0 : ∀ e w, (m8_3 R w) → (thenE (fun (e : Env) w => K (e 5) w) (inBlockE 0 Q)) (.exit 0) e w := fun e w h => then_X (hX0 e w h)
  exact s8_6 (R := R) (Q := (thenE (fun (e : Env) w => K (e 5) w) (inBlockE 0 Q))) (K1 := K) (fun _ _ h => then_N h) hR hX0 e' w' (by rw [r0, r1]; exact h')
theorem s8_2 {R : VP} {Q : EQ} (hR : ∀ e w, (R (e 4) w) → Q .ret e w) (e : Env) (w : World) (h : m8_2 R (e 0) (e 1) w) : W8 k8_2 Q e w := by
  unfold m8_2 at h
  refine seA ?_
  have hN : ∀ e w, (m8_3 R w) → (thenE (W8 k8_3 Q) Q) .normal e w := fun e w h => then_N (s8_3 (R := R) (Q := Q) hR e w h)
  have hR : ∀ e w, (R (e 4) w) → (thenE (W8 k8_3 Q) Q) .ret e w := fun e w h => then_R (hR e w h)
  refine seA ?_
  have hN : ∀ e w, (m8_5 R (e 0) (e 1) (e 5) w) → (thenE (W8 k8_5 (thenE (W8 k8_3 Q) Q)) (thenE (W8 k8_3 Q) Q)) .normal e w := fun e w h => then_N (s8_5 (R := R) (Q := (thenE (W8 k8_3 Q) Q)) hN hR e w h)
  exact rgA 3 (fun e w => m8_5 R (e 0) (e 1) (e 5) w) h hN
theorem s8_12 {R : VP} {Q : EQ} (hN : ∀ e w, (m8_2 R (e 0) (e 1) w) → Q .normal e w) (hR : ∀ e w, (R (e 4) w) → Q .ret e w) (e : Env) (w : World) (h : m8_12 R (e 0) (e 1) (e 10) w) : W8 k8_12 Q e w := by
  unfold m8_12 at h
  refine coA (Operand.tmp 10) h (fun h1 => ?_) (fun h1 => ?_)
  · refine seA ?_
    have hN : ∀ e w, (m8_13 R (e 4) w) → (thenE (W8 k8_13 Q) Q) .normal e w := fun e w h => then_N (s8_13 (R := R) (Q := Q) hR e w h)
    exact rgA 2 (fun e w => m8_13 R (e 4) w) h1 hN
  · exact skA (hN _ _ h1)
theorem s8_1 {R : VP} {Q : EQ} (hR : ∀ e w, (R (e 4) w) → Q .ret e w) (e : Env) (w : World) (h : m8_1 R (e 0) (e 1) w) : W8 k8_1 Q e w := by
  unfold m8_1 at h
  refine seA ?_
  have hN : ∀ e w, (m8_2 R (e 0) (e 1) w) → (thenE (W8 k8_2 Q) Q) .normal e w := fun e w h => then_N (s8_2 (R := R) (Q := Q) hR e w h)
  have hR : ∀ e w, (R (e 4) w) → (thenE (W8 k8_2 Q) Q) .ret e w := fun e w h => then_R (hR e w h)
  refine seA ?_
  have hN : ∀ e w, (m8_12 R (e 0) (e 1) (e 10) w) → (thenE (W8 k8_12 (thenE (W8 k8_2 Q) Q)) (thenE (W8 k8_2 Q) Q)) .normal e w := fun e w h => then_N (s8_12 (R := R) (Q := (thenE (W8 k8_2 Q) Q)) hN hR e w h)
  exact rgA 1 (fun e w => m8_12 R (e 0) (e 1) (e 10) w) h hN
theorem s8_0 {R : VP} {Q : EQ} (hR : ∀ e w, (R (e 4) w) → Q .ret e w) (e : Env) (w : World) (h : m8_0 R (e 0) (e 1) w) : W8 k8_0 Q e w := by
  unfold m8_0 at h
  refine seA ?_
  have hN : ∀ e w, (m8_1 R (e 0) (e 1) w) → (thenE (W8 k8_1 Q) Q) .normal e w := fun e w h => then_N (s8_1 (R := R) (Q := Q) hR e w h)
  exact rgA 0 (fun e w => m8_1 R (e 0) (e 1) w) h hN
abbrev m8 (R : VP) (a0 b1 : Value) (w : World) : Prop := m8_0 R a0 b1 w
theorem s8 (a0 b1 : Value) {R : VP} {w : World} (h : m8 R a0 b1 w) :
    Calls Try.prog 8 #[a0, b1] w fun e w' => ∃ v, e = .returned v ∧ R v w' :=
  calls_of_cwp (st := (fun i => cond (Nat.beq i 6) 1 (0))) (c := k8_0) (by kernel_rfl) Try.func8 (by kernel_rfl) (Nat.le_of_ble_eq_true (by kernel_rfl)) (by kernel_rfl)
    (s8_0 (R := R) (Q := endE Try.prog Try.f8 R) (fun e w h => kcast (by kernel_rfl) h) (argsE #[a0, b1]) w (kcast (by kernel_rfl) h))
/-! ### headgate/headgatelaw33.awake -/
def m6_4 (R : VP) (t0 : Value) (w : World) : Prop :=
  R t0 w
def m6_3 (R : VP) (l3 : Value) (w : World) : Prop :=
  anyDraw w fun w =>
  pureP Try.prog (Instr.sliceAt 25 l3 (some (Value.int IntKind.i64 2)) none none) fun t23 =>
  callP Try.prog (fnV 7) #[l3, (Value.int IntKind.i64 4)] w fun t21 w =>
  callP Try.prog (fnV 8) #[t21, t23] w fun t24 w =>
  condP t24
  (pureP Try.prog (Instr.sliceAt 25 l3 (some (Value.int IntKind.i64 1)) none none) fun t29 =>
  callP Try.prog (fnV 7) #[l3, (Value.int IntKind.i64 3)] w fun t27 w =>
  callP Try.prog (fnV 8) #[t27, t29] w fun t30 w =>
  pickP t24 t30 (Value.bool false) fun t31 =>
  m6_4 R t31 w)
  (pickP t24 undef (Value.bool false) fun t31 =>
  m6_4 R t31 w)
def m6_2 (R : VP) (counts1 window2 : Value) (w : World) : Prop :=
  valP Try.prog (Instr.build 46 #[(2, counts1)]) w fun t8 w =>
  valP Try.prog (Instr.build 48 #[(1, t8)]) w fun t9 w =>
  valP Try.prog (Instr.build 46 #[(0, (Value.int IntKind.i64 7)), (2, window2)]) w fun t11 w =>
  valP Try.prog (Instr.build 48 #[(0, (Value.int IntKind.i64 1)), (1, t11)]) w fun t12 w =>
  valP Try.prog (Instr.build 46 #[(2, counts1)]) w fun t14 w =>
  valP Try.prog (Instr.build 48 #[(0, (Value.int IntKind.i64 2)), (1, t14)]) w fun t15 w =>
  valP Try.prog (Instr.build 46 #[(0, (Value.int IntKind.i64 7)), (2, window2)]) w fun t17 w =>
  valP Try.prog (Instr.build 48 #[(0, (Value.int IntKind.i64 3)), (1, t17)]) w fun t18 w =>
  valP Try.prog (Instr.buildSlice 25 4 #[(0, t9), (1, t12), (2, t15), (3, t18)]) w fun t19 w =>
  m6_3 R t19 w
def m6_1 (R : VP) (w : World) : Prop :=
  valP Try.prog (Instr.buildSlice 51 5 #[(0, (Value.int IntKind.i64 0)), (1, (Value.int IntKind.i64 1)), (2, (Value.int IntKind.i64 0)), (3, (Value.int IntKind.i64 0)), (4, (Value.int IntKind.i64 1))]) w fun t4 w =>
  callP Try.prog (fnV 16) #[t4] w fun t5 w =>
  callP Try.prog (fnV 17) #[(Value.int IntKind.i64 1)] w fun t6 w =>
  m6_2 R t5 t6 w
def m6_0 (R : VP) (w : World) : Prop :=
  m6_1 R w
abbrev W6 := cwp Try.prog (fun i => 0)
noncomputable def k6_0 : Code := (bodyOf Try.f6)
noncomputable def k6_1 : Code := (c2 k6_0)
noncomputable def k6_2 : Code := (c2 k6_1)
noncomputable def k6_3 : Code := (c2 k6_2)
noncomputable def k6_4 : Code := (c2 k6_3)
theorem s6_4 {R : VP} {Q : EQ} (hR : ∀ e w, (R (e 0) w) → Q .ret e w) (e : Env) (w : World) (h : m6_4 R (e 0) w) : W6 k6_4 Q e w := by
  unfold m6_4 at h
  exact reA (hR _ _ h)
theorem s6_3 {R : VP} {Q : EQ} (hR : ∀ e w, (R (e 0) w) → Q .ret e w) (e : Env) (w : World) (h : m6_3 R (e 3) w) : W6 k6_3 Q e w := by
  unfold m6_3 at h
  refine seA ?_
  have hN : ∀ e w, (m6_4 R (e 0) w) → (thenE (W6 k6_4 Q) Q) .normal e w := fun e w h => then_N (s6_4 (R := R) (Q := Q) hR e w h)
  exact tree_ok 3 13 [false, false, false, false, false, false, false, false, false, false, false, false, false] (.take 0 [true, false, false, false, false, false, false, false, false, false, false, false, false] (.take 2 [true, false, true, false, false, false, false, false, false, false, false, false, false] (.take 3 [true, false, true, true, false, false, false, false, false, false, false, false, false] (.alt 1 [true, true, true, true, false, false, false, false, false, false, false, false, false] (.alt 4 [true, true, true, true, true, false, false, false, false, false, false, false, false] (.take 5 [true, true, true, true, true, true, false, false, false, false, false, false, false] (.take 6 [true, true, true, true, true, true, true, false, false, false, false, false, false] (.take 8 [true, true, true, true, true, true, true, false, true, false, false, false, false] (.take 9 [true, true, true, true, true, true, true, false, true, true, false, false, false] (.alt 7 [true, true, true, true, true, true, true, true, true, true, false, false, false] (.alt 10 [true, true, true, true, true, true, true, true, true, true, true, false, false] (.take 11 [true, true, true, true, true, true, true, true, true, true, true, true, false] (.take 12 [true, true, true, true, true, true, true, true, true, true, true, true, true] .done)) .stop) .stop))))) .stop) .stop)))) (fun e w => m6_4 R (e 0) w) (by kernel_rfl) (by kernel_rfl) (by kernel_rfl) (by kernel_rfl) (by kernel_rfl) (by kernel_rfl) (kcast (by kernel_rfl) h) hN (by kernel_rfl)
theorem s6_2 {R : VP} {Q : EQ} (hR : ∀ e w, (R (e 0) w) → Q .ret e w) (e : Env) (w : World) (h : m6_2 R (e 1) (e 2) w) : W6 k6_2 Q e w := by
  unfold m6_2 at h
  refine seA ?_
  have hN : ∀ e w, (m6_3 R (e 3) w) → (thenE (W6 k6_3 Q) Q) .normal e w := fun e w h => then_N (s6_3 (R := R) (Q := Q) hR e w h)
  exact rgA 2 (fun e w => m6_3 R (e 3) w) h hN
theorem s6_1 {R : VP} {Q : EQ} (hR : ∀ e w, (R (e 0) w) → Q .ret e w) (e : Env) (w : World) (h : m6_1 R w) : W6 k6_1 Q e w := by
  unfold m6_1 at h
  refine seA ?_
  have hN : ∀ e w, (m6_2 R (e 1) (e 2) w) → (thenE (W6 k6_2 Q) Q) .normal e w := fun e w h => then_N (s6_2 (R := R) (Q := Q) hR e w h)
  exact rgA 1 (fun e w => m6_2 R (e 1) (e 2) w) h hN
theorem s6_0 {R : VP} {Q : EQ} (hR : ∀ e w, (R (e 0) w) → Q .ret e w) (e : Env) (w : World) (h : m6_0 R w) : W6 k6_0 Q e w := by
  unfold m6_0 at h
  refine seA ?_
  have hN : ∀ e w, (m6_1 R w) → (thenE (W6 k6_1 Q) Q) .normal e w := fun e w h => then_N (s6_1 (R := R) (Q := Q) hR e w h)
  exact rgA 0 (fun e w => m6_1 R w) h hN
abbrev m6 (R : VP) (w : World) : Prop := m6_0 R w
theorem s6  {R : VP} {w : World} (h : m6 R  w) :
    Calls Try.prog 6 #[] w fun e w' => ∃ v, e = .returned v ∧ R v w' :=
  calls_of_cwp (st := (fun i => 0)) (c := k6_0) (by kernel_rfl) Try.func6 (by kernel_rfl) (Nat.le_of_ble_eq_true (by kernel_rfl)) (by kernel_rfl)
    (s6_0 (R := R) (Q := endE Try.prog Try.f6 R) (fun e w h => kcast (by kernel_rfl) h) (argsE #[]) w (kcast (by kernel_rfl) h))
/-! ### headgate/headgateref01.All -/
def m16_8 (R : VP) (K1 : (Value × Value) → World → Prop) (l0 s3 i4 : Value) (w : World) : Prop :=
  valP Try.prog (binS BinOp.add 3 (Operand.tmp 9) (Operand.const (Value.int IntKind.i64 1)) i4 (Value.int IntKind.i64 1)) w fun t10 w =>
  K1 (s3, t10) w
def m16_7 (R : VP) (K1 : (Value × Value) → World → Prop) (l0 s3 i4 : Value) (w : World) : Prop :=
  valP Try.prog (Instr.indexAt 51 l0 i4) w fun t14 w =>
  valP Try.prog (Instr.loadAt 3 t14) w fun t15 w =>
  callP Try.prog (fnV 17) #[t15] w fun t16 w =>
  valP Try.prog (binS BinOp.add 9 (Operand.tmp 11) (Operand.tmp 16) s3 t16) w fun t17 w =>
  m16_8 R K1 l0 t17 i4 w
def m16_4 (R : VP) (t2 : Value) (w : World) : Prop :=
  R t2 w
def m16_3 (R : VP) (s3 : Value) (w : World) : Prop :=
  m16_4 R s3 w
def m16_9 (R : VP) (K1 : (Value × Value) → World → Prop) (l0 s3 i4 t8 : Value) (w : World) : Prop :=
  condP t8
  (m16_7 R K1 l0 s3 i4 w)
  (m16_3 R s3 w)
def m16_6 (R : VP) (K1 : (Value × Value) → World → Prop) (l0 s3 i4 : Value) (w : World) : Prop :=
  builtinP Try.prog Builtin.len #[51] 3 #[false] #[l0] w fun t7 w =>
  valP Try.prog (binS BinOp.lss 3 (Operand.tmp 5) (Operand.tmp 7) i4 t7) w fun t8 w =>
  m16_9 R K1 l0 s3 i4 t8 w
def m16_5 (R : VP) (l0 s3 i4 : Value) (w : World) : Prop :=
  loopP (fun (K1 : (Value × Value) → World → Prop) (s : Value × Value) w => m16_6 R K1 l0 s.1 s.2 w) (s3, i4) w
def m16_2 (R : VP) (l0 s3 : Value) (w : World) : Prop :=
  m16_5 R l0 s3 (Value.int IntKind.i64 0) w
def m16_1 (R : VP) (l0 : Value) (w : World) : Prop :=
  m16_2 R l0 (Value.string ⟨#[]⟩) w
def m16_0 (R : VP) (l0 : Value) (w : World) : Prop :=
  m16_1 R l0 w
abbrev W16 := cwp Try.prog (fun i => 0)
noncomputable def k16_0 : Code := (bodyOf Try.f16)
noncomputable def k16_1 : Code := (c2 k16_0)
noncomputable def k16_2 : Code := (c2 k16_1)
noncomputable def k16_3 : Code := (c2 k16_2)
noncomputable def k16_4 : Code := (c2 k16_3)
noncomputable def k16_5 : Code := (c2 (c1 k16_2))
noncomputable def k16_6 : Code := (c1 (c1 k16_5))
noncomputable def k16_7 : Code := (c2 k16_6)
noncomputable def k16_8 : Code := (c2 k16_7)
noncomputable def k16_9 : Code := (c2 (c1 k16_6))
theorem s16_8 {R : VP} {K1 : (Value × Value) → World → Prop} {Q : EQ} (hN : ∀ e w, (K1 ((e 3), (e 4)) w) → Q .normal e w) (e : Env) (w : World) (h : m16_8 R K1 (e 0) (e 3) (e 4) w) : W16 k16_8 Q e w := by
  unfold m16_8 at h
  exact rgA 4 (fun e w => K1 ((e 3), (e 4)) w) h hN
theorem s16_7 {R : VP} {K1 : (Value × Value) → World → Prop} {Q : EQ} (hN : ∀ e w, (K1 ((e 3), (e 4)) w) → Q .normal e w) (e : Env) (w : World) (h : m16_7 R K1 (e 0) (e 3) (e 4) w) : W16 k16_7 Q e w := by
  unfold m16_7 at h
  refine seA ?_
  have hN : ∀ e w, (m16_8 R K1 (e 0) (e 3) (e 4) w) → (thenE (W16 k16_8 Q) Q) .normal e w := fun e w h => then_N (s16_8 (R := R) (Q := Q) (K1 := K1) hN e w h)
  refine block_ok 1 (by kernel_rfl) ?_
  have hN : ∀ e w, (m16_8 R K1 (e 0) (e 3) (e 4) w) → (inBlockE 1 (thenE (W16 k16_8 Q) Q)) .normal e w := fun e w h => block_N (hN e w h)
  exact rgA 5 (fun e w => m16_8 R K1 (e 0) (e 3) (e 4) w) h hN
theorem s16_4 {R : VP} {Q : EQ} (hR : ∀ e w, (R (e 2) w) → Q .ret e w) (e : Env) (w : World) (h : m16_4 R (e 2) w) : W16 k16_4 Q e w := by
  unfold m16_4 at h
  exact reA (hR _ _ h)
theorem s16_3 {R : VP} {Q : EQ} (hR : ∀ e w, (R (e 2) w) → Q .ret e w) (e : Env) (w : World) (h : m16_3 R (e 3) w) : W16 k16_3 Q e w := by
  unfold m16_3 at h
  refine seA ?_
  have hN : ∀ e w, (m16_4 R (e 2) w) → (thenE (W16 k16_4 Q) Q) .normal e w := fun e w h => then_N (s16_4 (R := R) (Q := Q) hR e w h)
  exact rgA 6 (fun e w => m16_4 R (e 2) w) h hN
theorem s16_9 {R : VP} {K1 : (Value × Value) → World → Prop} {Q : EQ} (hN : ∀ e w, (m16_7 R K1 (e 0) (e 3) (e 4) w) → Q .normal e w) (hX0 : ∀ e w, (m16_3 R (e 3) w) → Q (.exit 0) e w) (e : Env) (w : World) (h : m16_9 R K1 (e 0) (e 3) (e 4) (e 8) w) : W16 k16_9 Q e w := by
  unfold m16_9 at h
  refine coA (Operand.tmp 8) h (fun h1 => ?_) (fun h1 => ?_)
  · exact skA (hN _ _ h1)
  · exact exA 0 (hX0 _ _ h1)
theorem s16_6 {R : VP} {K1 : (Value × Value) → World → Prop} {Q : EQ} (hN : ∀ e w, (K1 ((e 3), (e 4)) w) → Q .normal e w) (hX0 : ∀ e w, (m16_3 R (e 3) w) → Q (.exit 0) e w) (e : Env) (w : World) (h : m16_6 R K1 (e 0) (e 3) (e 4) w) : W16 k16_6 Q e w := by
  unfold m16_6 at h
  refine seA ?_
  have hN : ∀ e w, (m16_7 R K1 (e 0) (e 3) (e 4) w) → (thenE (W16 k16_7 Q) Q) .normal e w := fun e w h => then_N (s16_7 (R := R) (Q := Q) (K1 := K1) hN e w h)
  have hX0 : ∀ e w, (m16_3 R (e 3) w) → (thenE (W16 k16_7 Q) Q) (.exit 0) e w := fun e w h => then_X (hX0 e w h)
  refine seA ?_
  have hN : ∀ e w, (m16_9 R K1 (e 0) (e 3) (e 4) (e 8) w) → (thenE (W16 k16_9 (thenE (W16 k16_7 Q) Q)) (thenE (W16 k16_7 Q) Q)) .normal e w := fun e w h => then_N (s16_9 (R := R) (Q := (thenE (W16 k16_7 Q) Q)) (K1 := K1) hN hX0 e w h)
  exact rgA 3 (fun e w => m16_9 R K1 (e 0) (e 3) (e 4) (e 8) w) h hN
theorem s16_5 {R : VP} {Q : EQ} (hN : ∀ e w, (m16_3 R (e 3) w) → Q .normal e w) (e : Env) (w : World) (h : m16_5 R (e 0) (e 3) (e 4) w) : W16 k16_5 Q e w := by
  unfold m16_5 at h
  refine block_ok 0 (by kernel_rfl) ?_
  have hX0 : ∀ e w, (m16_3 R (e 3) w) → (inBlockE 0 Q) (.exit 0) e w := fun e w h => inBlock_same (Q := Q) 0 (hN e w h)
  refine loop_ok' (fun (e : Env) => (e 3, e 4)) [0] (by kernel_rfl) (by kernel_rfl) h (fun K e' w' hk h' => ?_)
  have r0 : e' 0 = e 0 := hk 0 (by decide)
  have hX0 : ∀ e w, (m16_3 R (e 3) w) → (thenE (fun (e : Env) w => K ((e 3), (e 4)) w) (inBlockE 0 Q)) (.exit 0) e w := fun e w h => then_X (hX0 e w h)
  exact s16_6 (R := R) (Q := (thenE (fun (e : Env) w => K ((e 3), (e 4)) w) (inBlockE 0 Q))) (K1 := K) (fun _ _ h => then_N h) hX0 e' w' (by rw [r0]; exact h')
theorem s16_2 {R : VP} {Q : EQ} (hR : ∀ e w, (R (e 2) w) → Q .ret e w) (e : Env) (w : World) (h : m16_2 R (e 0) (e 3) w) : W16 k16_2 Q e w := by
  unfold m16_2 at h
  refine seA ?_
  have hN : ∀ e w, (m16_3 R (e 3) w) → (thenE (W16 k16_3 Q) Q) .normal e w := fun e w h => then_N (s16_3 (R := R) (Q := Q) hR e w h)
  refine seA ?_
  have hN : ∀ e w, (m16_5 R (e 0) (e 3) (e 4) w) → (thenE (W16 k16_5 (thenE (W16 k16_3 Q) Q)) (thenE (W16 k16_3 Q) Q)) .normal e w := fun e w h => then_N (s16_5 (R := R) (Q := (thenE (W16 k16_3 Q) Q)) hN e w h)
  exact rgA 2 (fun e w => m16_5 R (e 0) (e 3) (e 4) w) h hN
theorem s16_1 {R : VP} {Q : EQ} (hR : ∀ e w, (R (e 2) w) → Q .ret e w) (e : Env) (w : World) (h : m16_1 R (e 0) w) : W16 k16_1 Q e w := by
  unfold m16_1 at h
  refine seA ?_
  have hN : ∀ e w, (m16_2 R (e 0) (e 3) w) → (thenE (W16 k16_2 Q) Q) .normal e w := fun e w h => then_N (s16_2 (R := R) (Q := Q) hR e w h)
  exact rgA 1 (fun e w => m16_2 R (e 0) (e 3) w) h hN
theorem s16_0 {R : VP} {Q : EQ} (hR : ∀ e w, (R (e 2) w) → Q .ret e w) (e : Env) (w : World) (h : m16_0 R (e 0) w) : W16 k16_0 Q e w := by
  unfold m16_0 at h
  refine seA ?_
  have hN : ∀ e w, (m16_1 R (e 0) w) → (thenE (W16 k16_1 Q) Q) .normal e w := fun e w h => then_N (s16_1 (R := R) (Q := Q) hR e w h)
  exact rgA 0 (fun e w => m16_1 R (e 0) w) h hN
abbrev m16 (R : VP) (l0 : Value) (w : World) : Prop := m16_0 R l0 w
theorem s16 (l0 : Value) {R : VP} {w : World} (h : m16 R l0 w) :
    Calls Try.prog 16 #[l0] w fun e w' => ∃ v, e = .returned v ∧ R v w' :=
  calls_of_cwp (st := (fun i => 0)) (c := k16_0) (by kernel_rfl) Try.func16 (by kernel_rfl) (Nat.le_of_ble_eq_true (by kernel_rfl)) (by kernel_rfl)
    (s16_0 (R := R) (Q := endE Try.prog Try.f16 R) (fun e w h => kcast (by kernel_rfl) h) (argsE #[l0]) w (kcast (by kernel_rfl) h))
end Go.Proofs.Ytnhgdngbdoifnaa.M
