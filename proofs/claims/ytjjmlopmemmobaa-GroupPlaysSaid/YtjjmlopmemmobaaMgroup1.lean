/- What functions' texts ask of their ends, told over values that have names; printed by a program of this work. -/
import Derived.Test.YtjjmlopmemmobaaFw
import Derived.Test.YtjjmlopmemmobaaProg
namespace Go.Proofs.Ytjjmlopmemmobaa.M
open Go.Proofs.Ytjjmlopmemmobaa.F
set_option linter.unusedVariables false
set_option maxRecDepth 100000
/-! ### (*headgate/group.Group).Join -/
def m54_10 (R : VP) (t4 t5 t6 : Value) (w : World) : Prop :=
  R (Value.tuple #[t4, t5, t6]) w
def m54_12 (R : VP) (t4 t5 t6 : Value) (w : World) : Prop :=
  R (Value.tuple #[t4, t5, t6]) w
def m54_8 (R : VP) (t4 t5 t6 : Value) (w : World) : Prop :=
  R (Value.tuple #[t4, t5, t6]) w
def m54_7 (R : VP) (g0 m7 : Value) (w : World) : Prop :=
  valQ Try.prog (Instr.fieldAt 69 m7 0) w fun t62 =>
  valQ Try.prog (Instr.loadAt 3 t62) w fun t63 =>
  nilCheckP g0 fun t65 =>
  valQ Try.prog (Instr.fieldAt 103 t65 2) w fun t66 =>
  valQ Try.prog (Instr.loadAt 3 t66) w fun t67 =>
  anyDraw w fun w =>
  m54_8 R t63 t67 (Value.int IntKind.i64 0) w
def m54_6 (R : VP) (g0 m7 : Value) (w : World) : Prop :=
  callP Try.prog (fnV 74) #[g0] w fun t61 w =>
  m54_7 R g0 m7 w
def m54_5 (R : VP) (g0 m7 : Value) (w : World) : Prop :=
  nilCheckP g0 fun t54 =>
  valP Try.prog (Instr.fieldAt 103 t54 3) w fun t55 w =>
  valP Try.prog (Instr.loadAt 3 t55) w fun t56 w =>
  valP Try.prog (binS BinOp.add 3 (Operand.tmp 56) (Operand.const (Value.int IntKind.i64 1)) t56 (Value.int IntKind.i64 1)) w fun t57 w =>
  nilCheckP g0 fun t58 =>
  valP Try.prog (Instr.fieldAt 103 t58 3) w fun t59 w =>
  unitP Try.prog (Instr.storeAt 3 t59 t57) w fun _ w =>
  m54_6 R g0 m7 w
def m54_4 (R : VP) (g0 m7 : Value) (w : World) : Prop :=
  anyDraw w fun w =>
  nilCheckP g0 fun t45 =>
  pureP Try.prog (Instr.fieldAt 103 t45 5) fun t46 =>
  (valP Try.prog (Instr.loadAt 66 t46) w fun t47 w =>
  valP Try.prog (Instr.loadAt 69 m7) w fun t48 w =>
  valP Try.prog (Instr.buildSlice 66 1 #[(0, t48)]) w fun t49 w =>
  builtinP Try.prog Builtin.append #[66, 66] 66 #[false, false] #[t47, t49] w fun t50 w =>
  nilCheckP g0 fun t51 =>
  pureP Try.prog (Instr.fieldAt 103 t51 5) fun t52 =>
  unitP Try.prog (Instr.storeAt 66 t52 t50) w fun _ w =>
  m54_5 R g0 m7 w) ∧ (valP Try.prog (Instr.loadAt 69 m7) w fun t48 w =>
  (valP Try.prog (Instr.loadAt 66 t46) w fun t47 w =>
  valP Try.prog (Instr.buildSlice 66 1 #[(0, t48)]) w fun t49 w =>
  builtinP Try.prog Builtin.append #[66, 66] 66 #[false, false] #[t47, t49] w fun t50 w =>
  nilCheckP g0 fun t51 =>
  pureP Try.prog (Instr.fieldAt 103 t51 5) fun t52 =>
  unitP Try.prog (Instr.storeAt 66 t52 t50) w fun _ w =>
  m54_5 R g0 m7 w) ∧ (valP Try.prog (Instr.buildSlice 66 1 #[(0, t48)]) w fun t49 w =>
  valP Try.prog (Instr.loadAt 66 t46) w fun t47 w =>
  builtinP Try.prog Builtin.append #[66, 66] 66 #[false, false] #[t47, t49] w fun t50 w =>
  nilCheckP g0 fun t51 =>
  pureP Try.prog (Instr.fieldAt 103 t51 5) fun t52 =>
  unitP Try.prog (Instr.storeAt 66 t52 t50) w fun _ w =>
  m54_5 R g0 m7 w))
def m54_3 (R : VP) (g0 worker3 : Value) (w : World) : Prop :=
  anyDraw w fun w =>
  heldP w fun J =>
  nilCheckP g0 fun t33 =>
  valJ Try.prog J (Instr.fieldAt 103 t33 3) fun t34 =>
  valJ Try.prog J (Instr.loadAt 3 t34) fun t35 =>
  valJ Try.prog J (Instr.loadAt 3 worker3) fun t36 =>
  nilCheckP g0 fun t38 =>
  valJ Try.prog J (Instr.fieldAt 103 t38 4) fun t39 =>
  valJ Try.prog J (Instr.loadAt 3 t39) fun t40 =>
  valJ Try.prog J (binS BinOp.add 3 (Operand.tmp 40) (Operand.const (Value.int IntKind.i64 12)) t40 (Value.int IntKind.i64 12)) fun t41 =>
  valJ Try.prog J (Instr.build 69 #[(0, t35), (1, t36), (2, t41)]) fun t42 =>
  valP Try.prog (Instr.alloc 69 true (.tuple #[])) w fun m7 w =>
  stayP J w
  (unitP Try.prog (Instr.storeAt 69 m7 t42) w fun _ w =>
  stayP J w
  (m54_4 R g0 m7 w))
def m54_2 (R : VP) (g0 worker3 : Value) (w : World) : Prop :=
  valP Try.prog (Instr.makeFunc (Fn.func 83) #[] #[worker3]) w fun t30 w =>
  callP Try.prog (fnV 72) #[g0, t30] w fun t31 w =>
  m54_3 R g0 worker3 w
def m54_11 (R : VP) (g0 worker3 t19 : Value) (w : World) : Prop :=
  condP t19
  (m54_12 R (Value.int IntKind.i64 0) (Value.int IntKind.i64 0) (Value.int IntKind.i64 6) w)
  (m54_2 R g0 worker3 w)
def m54_9 (R : VP) (g0 worker3 t8 : Value) (w : World) : Prop :=
  condP t8
  (m54_10 R (Value.int IntKind.i64 0) (Value.int IntKind.i64 0) (Value.int IntKind.i64 1) w)
  (callP Try.prog (fnV 71) #[g0] w fun t21 w =>
  condP t21
  (pickP t21 (Value.bool true) undef fun t28 =>
  m54_11 R g0 worker3 t28 w)
  (nilCheckP g0 fun t24 =>
  valP Try.prog (Instr.fieldAt 103 t24 3) w fun t25 w =>
  valP Try.prog (Instr.loadAt 3 t25) w fun t26 w =>
  valP Try.prog (binS BinOp.geq 3 (Operand.tmp 26) (Operand.const (Value.int IntKind.i64 1099511627776)) t26 (Value.int IntKind.i64 1099511627776)) w fun t27 w =>
  pickP t21 (Value.bool true) t27 fun t28 =>
  m54_11 R g0 worker3 t28 w))
def m54_1 (R : VP) (g0 worker3 : Value) (w : World) : Prop :=
  valP Try.prog (binS BinOp.eql 59 (Operand.tmp 9) (Operand.const (Value.pointer none)) g0 (Value.pointer none)) w fun t10 w =>
  condP t10
  (pickP t10 (Value.bool true) undef fun t14 =>
  condP t14
  (pickP t14 (Value.bool true) undef fun t18 =>
  m54_9 R g0 worker3 t18 w)
  (valP Try.prog (Instr.loadAt 3 worker3) w fun t16 w =>
  valP Try.prog (binS BinOp.gtr 3 (Operand.tmp 16) (Operand.const (Value.int IntKind.i64 8)) t16 (Value.int IntKind.i64 8)) w fun t17 w =>
  pickP t14 (Value.bool true) t17 fun t18 =>
  m54_9 R g0 worker3 t18 w))
  (valP Try.prog (Instr.loadAt 3 worker3) w fun t12 w =>
  valP Try.prog (binS BinOp.lss 3 (Operand.tmp 12) (Operand.const (Value.int IntKind.i64 1)) t12 (Value.int IntKind.i64 1)) w fun t13 w =>
  pickP t10 (Value.bool true) t13 fun t14 =>
  condP t14
  (pickP t14 (Value.bool true) undef fun t18 =>
  m54_9 R g0 worker3 t18 w)
  (valP Try.prog (Instr.loadAt 3 worker3) w fun t16 w =>
  valP Try.prog (binS BinOp.gtr 3 (Operand.tmp 16) (Operand.const (Value.int IntKind.i64 8)) t16 (Value.int IntKind.i64 8)) w fun t17 w =>
  pickP t14 (Value.bool true) t17 fun t18 =>
  m54_9 R g0 worker3 t18 w))
def m54_0 (R : VP) (g0 worker1 : Value) (w : World) : Prop :=
  valP Try.prog (Instr.box 3 worker1) w fun worker3 w =>
  m54_1 R g0 worker3 w
abbrev W54 := cwp Try.prog (fun i => cond (Nat.beq i 10) 1 (0))
noncomputable def k54_0 : Code := (bodyOf Try.f54)
noncomputable def k54_1 : Code := (c2 k54_0)
noncomputable def k54_2 : Code := (c2 k54_1)
noncomputable def k54_3 : Code := (c2 k54_2)
noncomputable def k54_4 : Code := (c2 k54_3)
noncomputable def k54_5 : Code := (c2 k54_4)
noncomputable def k54_6 : Code := (c2 k54_5)
noncomputable def k54_7 : Code := (c2 k54_6)
noncomputable def k54_8 : Code := (c2 k54_7)
noncomputable def k54_9 : Code := (c2 (c1 (c1 k54_1)))
noncomputable def k54_10 : Code := (c2 (c1 k54_9))
noncomputable def k54_11 : Code := (c2 (c2 k54_9))
noncomputable def k54_12 : Code := (c2 (c1 k54_11))
theorem s54_10 {R : VP} {Q : EQ} (hR : ∀ e w, (R (Value.tuple #[(e 4), (e 5), (e 6)]) w) → Q .ret e w) (e : Env) (w : World) (h : m54_10 R (e 4) (e 5) (e 6) w) : W54 k54_10 Q e w := by
  unfold m54_10 at h
  exact reA (hR _ _ h)
theorem s54_12 {R : VP} {Q : EQ} (hR : ∀ e w, (R (Value.tuple #[(e 4), (e 5), (e 6)]) w) → Q .ret e w) (e : Env) (w : World) (h : m54_12 R (e 4) (e 5) (e 6) w) : W54 k54_12 Q e w := by
  unfold m54_12 at h
  exact reA (hR _ _ h)
theorem s54_8 {R : VP} {Q : EQ} (hR : ∀ e w, (R (Value.tuple #[(e 4), (e 5), (e 6)]) w) → Q .ret e w) (e : Env) (w : World) (h : m54_8 R (e 4) (e 5) (e 6) w) : W54 k54_8 Q e w := by
  unfold m54_8 at h
  exact reA (hR _ _ h)
theorem s54_7 {R : VP} {Q : EQ} (hR : ∀ e w, (R (Value.tuple #[(e 4), (e 5), (e 6)]) w) → Q .ret e w) (e : Env) (w : World) (h : m54_7 R (e 0) (e 7) w) : W54 k54_7 Q e w := by
  unfold m54_7 at h
  refine seA ?_
  have hN : ∀ e w, (m54_8 R (e 4) (e 5) (e 6) w) → (thenE (W54 k54_8 Q) Q) .normal e w := fun e w h => then_N (s54_8 (R := R) (Q := Q) hR e w h)
  exact quA 10 (fun e w => m54_8 R (e 4) (e 5) (e 6) w) h hN
theorem s54_6 {R : VP} {Q : EQ} (hR : ∀ e w, (R (Value.tuple #[(e 4), (e 5), (e 6)]) w) → Q .ret e w) (e : Env) (w : World) (h : m54_6 R (e 0) (e 7) w) : W54 k54_6 Q e w := by
  unfold m54_6 at h
  refine seA ?_
  have hN : ∀ e w, (m54_7 R (e 0) (e 7) w) → (thenE (W54 k54_7 Q) Q) .normal e w := fun e w h => then_N (s54_7 (R := R) (Q := Q) hR e w h)
  exact rgA 9 (fun e w => m54_7 R (e 0) (e 7) w) h hN
theorem s54_5 {R : VP} {Q : EQ} (hR : ∀ e w, (R (Value.tuple #[(e 4), (e 5), (e 6)]) w) → Q .ret e w) (e : Env) (w : World) (h : m54_5 R (e 0) (e 7) w) : W54 k54_5 Q e w := by
  unfold m54_5 at h
  refine seA ?_
  have hN : ∀ e w, (m54_6 R (e 0) (e 7) w) → (thenE (W54 k54_6 Q) Q) .normal e w := fun e w h => then_N (s54_6 (R := R) (Q := Q) hR e w h)
  exact rgA 8 (fun e w => m54_6 R (e 0) (e 7) w) h hN
theorem s54_4 {R : VP} {Q : EQ} (hR : ∀ e w, (R (Value.tuple #[(e 4), (e 5), (e 6)]) w) → Q .ret e w) (e : Env) (w : World) (h : m54_4 R (e 0) (e 7) w) : W54 k54_4 Q e w := by
  unfold m54_4 at h
  refine seA ?_
  have hN : ∀ e w, (m54_5 R (e 0) (e 7) w) → (thenE (W54 k54_5 Q) Q) .normal e w := fun e w h => then_N (s54_5 (R := R) (Q := Q) hR e w h)
  exact tree_ok 7 11 [false, false, false, false, false, false, false, false, false, false, false] (.take 0 [true, false, false, false, false, false, false, false, false, false, false] (.take 1 [true, true, false, false, false, false, false, false, false, false, false] (.take 2 [true, true, true, false, false, false, false, false, false, false, false] (.take 3 [true, true, true, true, false, false, false, false, false, false, false] (.alt 4 [true, true, true, true, true, false, false, false, false, false, false] (.alt 5 [true, true, true, true, true, true, false, false, false, false, false] (.alt 6 [true, true, true, true, true, true, true, false, false, false, false] (.alt 7 [true, true, true, true, true, true, true, true, false, false, false] (.take 8 [true, true, true, true, true, true, true, true, true, false, false] (.take 9 [true, true, true, true, true, true, true, true, true, true, false] (.alt 10 [true, true, true, true, true, true, true, true, true, true, true] .done .stop))) .stop) .stop) .stop) (.alt 5 [true, true, true, true, false, true, false, false, false, false, false] (.alt 4 [true, true, true, true, true, true, false, false, false, false, false] (.alt 6 [true, true, true, true, true, true, true, false, false, false, false] (.alt 7 [true, true, true, true, true, true, true, true, false, false, false] (.take 8 [true, true, true, true, true, true, true, true, true, false, false] (.take 9 [true, true, true, true, true, true, true, true, true, true, false] (.alt 10 [true, true, true, true, true, true, true, true, true, true, true] .done .stop))) .stop) .stop) (.alt 6 [true, true, true, true, false, true, true, false, false, false, false] (.alt 4 [true, true, true, true, true, true, true, false, false, false, false] (.alt 7 [true, true, true, true, true, true, true, true, false, false, false] (.take 8 [true, true, true, true, true, true, true, true, true, false, false] (.take 9 [true, true, true, true, true, true, true, true, true, true, false] (.alt 10 [true, true, true, true, true, true, true, true, true, true, true] .done .stop))) .stop) .stop) .stop)) .stop)))))) (fun e w => m54_5 R (e 0) (e 7) w) (by kernel_rfl) (by kernel_rfl) (by kernel_rfl) (by kernel_rfl) (by kernel_rfl) (by kernel_rfl) (kcast (by kernel_rfl) h) hN (by kernel_rfl)
theorem s54_3 {R : VP} {Q : EQ} (hR : ∀ e w, (R (Value.tuple #[(e 4), (e 5), (e 6)]) w) → Q .ret e w) (e : Env) (w : World) (h : m54_3 R (e 0) (e 3) w) : W54 k54_3 Q e w := by
  unfold m54_3 at h
  refine seA ?_
  have hN : ∀ e w, (m54_4 R (e 0) (e 7) w) → (thenE (W54 k54_4 Q) Q) .normal e w := fun e w h => then_N (s54_4 (R := R) (Q := Q) hR e w h)
  exact treeJ_ok 6 13 [false, false, false, false, false, false, false, false, false, false, false, false, false] (.take 0 [true, false, false, false, false, false, false, false, false, false, false, false, false] (.take 1 [true, true, false, false, false, false, false, false, false, false, false, false, false] (.take 2 [true, true, true, false, false, false, false, false, false, false, false, false, false] (.take 3 [true, true, true, true, false, false, false, false, false, false, false, false, false] (.take 4 [true, true, true, true, true, false, false, false, false, false, false, false, false] (.take 5 [true, true, true, true, true, true, false, false, false, false, false, false, false] (.take 6 [true, true, true, true, true, true, true, false, false, false, false, false, false] (.take 7 [true, true, true, true, true, true, true, true, false, false, false, false, false] (.take 8 [true, true, true, true, true, true, true, true, true, false, false, false, false] (.take 9 [true, true, true, true, true, true, true, true, true, true, false, false, false] (.take 10 [true, true, true, true, true, true, true, true, true, true, true, false, false] (.alt 11 [true, true, true, true, true, true, true, true, true, true, true, true, false] (.alt 12 [true, true, true, true, true, true, true, true, true, true, true, true, true] .done .stop) .stop)))))))))))) (fun e w => m54_4 R (e 0) (e 7) w) (by kernel_rfl) (by kernel_rfl) (by kernel_rfl) (by kernel_rfl) (by kernel_rfl) (by kernel_rfl) (kcast (by kernel_rfl) h) hN (by kernel_rfl)
theorem s54_2 {R : VP} {Q : EQ} (hR : ∀ e w, (R (Value.tuple #[(e 4), (e 5), (e 6)]) w) → Q .ret e w) (e : Env) (w : World) (h : m54_2 R (e 0) (e 3) w) : W54 k54_2 Q e w := by
  unfold m54_2 at h
  refine seA ?_
  have hN : ∀ e w, (m54_3 R (e 0) (e 3) w) → (thenE (W54 k54_3 Q) Q) .normal e w := fun e w h => then_N (s54_3 (R := R) (Q := Q) hR e w h)
  exact rgA 5 (fun e w => m54_3 R (e 0) (e 3) w) h hN
theorem s54_11 {R : VP} {Q : EQ} (hN : ∀ e w, (m54_2 R (e 0) (e 3) w) → Q .normal e w) (hR : ∀ e w, (R (Value.tuple #[(e 4), (e 5), (e 6)]) w) → Q .ret e w) (e : Env) (w : World) (h : m54_11 R (e 0) (e 3) (e 19) w) : W54 k54_11 Q e w := by
  unfold m54_11 at h
  refine coA (Operand.tmp 19) h (fun h1 => ?_) (fun h1 => ?_)
  · refine seA ?_
    have hN : ∀ e w, (m54_12 R (e 4) (e 5) (e 6) w) → (thenE (W54 k54_12 Q) Q) .normal e w := fun e w h => then_N (s54_12 (R := R) (Q := Q) hR e w h)
    exact rgA 4 (fun e w => m54_12 R (e 4) (e 5) (e 6) w) h1 hN
  · exact skA (hN _ _ h1)
theorem s54_9 {R : VP} {Q : EQ} (hN : ∀ e w, (m54_2 R (e 0) (e 3) w) → Q .normal e w) (hR : ∀ e w, (R (Value.tuple #[(e 4), (e 5), (e 6)]) w) → Q .ret e w) (e : Env) (w : World) (h : m54_9 R (e 0) (e 3) (e 8) w) : W54 k54_9 Q e w := by
  unfold m54_9 at h
  refine coA (Operand.tmp 8) h (fun h1 => ?_) (fun h1 => ?_)
  · refine seA ?_
    have hN : ∀ e w, (m54_10 R (e 4) (e 5) (e 6) w) → (thenE (W54 k54_10 Q) Q) .normal e w := fun e w h => then_N (s54_10 (R := R) (Q := Q) hR e w h)
    exact rgA 2 (fun e w => m54_10 R (e 4) (e 5) (e 6) w) h1 hN
  · refine seA ?_
    have hN : ∀ e w, (m54_11 R (e 0) (e 3) (e 19) w) → (thenE (W54 k54_11 Q) Q) .normal e w := fun e w h => then_N (s54_11 (R := R) (Q := Q) hN hR e w h)
    exact rgA 3 (fun e w => m54_11 R (e 0) (e 3) (e 19) w) h1 hN
theorem s54_1 {R : VP} {Q : EQ} (hR : ∀ e w, (R (Value.tuple #[(e 4), (e 5), (e 6)]) w) → Q .ret e w) (e : Env) (w : World) (h : m54_1 R (e 0) (e 3) w) : W54 k54_1 Q e w := by
  unfold m54_1 at h
  refine seA ?_
  have hN : ∀ e w, (m54_2 R (e 0) (e 3) w) → (thenE (W54 k54_2 Q) Q) .normal e w := fun e w h => then_N (s54_2 (R := R) (Q := Q) hR e w h)
  have hR : ∀ e w, (R (Value.tuple #[(e 4), (e 5), (e 6)]) w) → (thenE (W54 k54_2 Q) Q) .ret e w := fun e w h => then_R (hR e w h)
  refine block_ok 0 (by kernel_rfl) ?_
  have hN : ∀ e w, (m54_2 R (e 0) (e 3) w) → (inBlockE 0 (thenE (W54 k54_2 Q) Q)) .normal e w := fun e w h => block_N (hN e w h)
  have hR : ∀ e w, (R (Value.tuple #[(e 4), (e 5), (e 6)]) w) → (inBlockE 0 (thenE (W54 k54_2 Q) Q)) .ret e w := fun e w h => block_R (hR e w h)
  refine seA ?_
  have hN : ∀ e w, (m54_9 R (e 0) (e 3) (e 8) w) → (thenE (W54 k54_9 (inBlockE 0 (thenE (W54 k54_2 Q) Q))) (inBlockE 0 (thenE (W54 k54_2 Q) Q))) .normal e w := fun e w h => then_N (s54_9 (R := R) (Q := (inBlockE 0 (thenE (W54 k54_2 Q) Q))) hN hR e w h)
  exact rgA 1 (fun e w => m54_9 R (e 0) (e 3) (e 8) w) h hN
theorem s54_0 {R : VP} {Q : EQ} (hR : ∀ e w, (R (Value.tuple #[(e 4), (e 5), (e 6)]) w) → Q .ret e w) (e : Env) (w : World) (h : m54_0 R (e 0) (e 1) w) : W54 k54_0 Q e w := by
  unfold m54_0 at h
  refine seA ?_
  have hN : ∀ e w, (m54_1 R (e 0) (e 3) w) → (thenE (W54 k54_1 Q) Q) .normal e w := fun e w h => then_N (s54_1 (R := R) (Q := Q) hR e w h)
  exact rgA 0 (fun e w => m54_1 R (e 0) (e 3) w) h hN
abbrev m54 (R : VP) (g0 worker1 : Value) (w : World) : Prop := m54_0 R g0 worker1 w
theorem s54 (g0 worker1 : Value) {R : VP} {w : World} (h : m54 R g0 worker1 w) :
    Calls Try.prog 54 #[g0, worker1] w fun e w' => ∃ v, e = .returned v ∧ R v w' :=
  calls_of_cwp (st := (fun i => cond (Nat.beq i 10) 1 (0))) (c := k54_0) (by kernel_rfl) Try.func54 (by kernel_rfl) (Nat.le_of_ble_eq_true (by kernel_rfl)) (by kernel_rfl)
    (s54_0 (R := R) (Q := endE Try.prog Try.f54 R) (fun e w h => kcast (by kernel_rfl) h) (argsE #[g0, worker1]) w (kcast (by kernel_rfl) h))
/-! ### slices.Clone[[]headgate/api.Member,headgate/api.Member] -/
def m69_5 (R : VP) (t2 : Value) (w : World) : Prop :=
  R t2 w
def m69_3 (R : VP) (t2 : Value) (w : World) : Prop :=
  R t2 w
def m69_2 (R : VP) (s0 : Value) (w : World) : Prop :=
  valP Try.prog (Instr.buildSlice 66 0 #[]) w fun t5 w =>
  builtinP Try.prog Builtin.append #[66, 66] 66 #[false, false] #[t5, s0] w fun t7 w =>
  m69_3 R t7 w
def m69_4 (R : VP) (s0 t4 : Value) (w : World) : Prop :=
  condP t4
  (m69_5 R (Value.slice none 0 0) w)
  (m69_2 R s0 w)
def m69_1 (R : VP) (s0 : Value) (w : World) : Prop :=
  valP Try.prog (binS BinOp.eql 66 (Operand.tmp 3) (Operand.const (Value.slice none 0 0)) s0 (Value.slice none 0 0)) w fun t4 w =>
  m69_4 R s0 t4 w
def m69_0 (R : VP) (s0 : Value) (w : World) : Prop :=
  m69_1 R s0 w
abbrev W69 := cwp Try.prog (fun i => 0)
noncomputable def k69_0 : Code := (bodyOf Try.f69)
noncomputable def k69_1 : Code := (c2 k69_0)
noncomputable def k69_2 : Code := (c2 k69_1)
noncomputable def k69_3 : Code := (c2 k69_2)
noncomputable def k69_4 : Code := (c2 (c1 k69_1))
noncomputable def k69_5 : Code := (c2 (c1 k69_4))
theorem s69_5 {R : VP} {Q : EQ} (hR : ∀ e w, (R (e 2) w) → Q .ret e w) (e : Env) (w : World) (h : m69_5 R (e 2) w) : W69 k69_5 Q e w := by
  unfold m69_5 at h
  exact reA (hR _ _ h)
theorem s69_3 {R : VP} {Q : EQ} (hR : ∀ e w, (R (e 2) w) → Q .ret e w) (e : Env) (w : World) (h : m69_3 R (e 2) w) : W69 k69_3 Q e w := by
  unfold m69_3 at h
  exact reA (hR _ _ h)
theorem s69_2 {R : VP} {Q : EQ} (hR : ∀ e w, (R (e 2) w) → Q .ret e w) (e : Env) (w : World) (h : m69_2 R (e 0) w) : W69 k69_2 Q e w := by
  unfold m69_2 at h
  refine seA ?_
  have hN : ∀ e w, (m69_3 R (e 2) w) → (thenE (W69 k69_3 Q) Q) .normal e w := fun e w h => then_N (s69_3 (R := R) (Q := Q) hR e w h)
  exact rgA 3 (fun e w => m69_3 R (e 2) w) h hN
theorem s69_4 {R : VP} {Q : EQ} (hN : ∀ e w, (m69_2 R (e 0) w) → Q .normal e w) (hR : ∀ e w, (R (e 2) w) → Q .ret e w) (e : Env) (w : World) (h : m69_4 R (e 0) (e 4) w) : W69 k69_4 Q e w := by
  unfold m69_4 at h
  refine coA (Operand.tmp 4) h (fun h1 => ?_) (fun h1 => ?_)
  · refine seA ?_
    have hN : ∀ e w, (m69_5 R (e 2) w) → (thenE (W69 k69_5 Q) Q) .normal e w := fun e w h => then_N (s69_5 (R := R) (Q := Q) hR e w h)
    exact rgA 2 (fun e w => m69_5 R (e 2) w) h1 hN
  · exact skA (hN _ _ h1)
theorem s69_1 {R : VP} {Q : EQ} (hR : ∀ e w, (R (e 2) w) → Q .ret e w) (e : Env) (w : World) (h : m69_1 R (e 0) w) : W69 k69_1 Q e w := by
  unfold m69_1 at h
  refine seA ?_
  have hN : ∀ e w, (m69_2 R (e 0) w) → (thenE (W69 k69_2 Q) Q) .normal e w := fun e w h => then_N (s69_2 (R := R) (Q := Q) hR e w h)
  have hR : ∀ e w, (R (e 2) w) → (thenE (W69 k69_2 Q) Q) .ret e w := fun e w h => then_R (hR e w h)
  refine seA ?_
  have hN : ∀ e w, (m69_4 R (e 0) (e 4) w) → (thenE (W69 k69_4 (thenE (W69 k69_2 Q) Q)) (thenE (W69 k69_2 Q) Q)) .normal e w := fun e w h => then_N (s69_4 (R := R) (Q := (thenE (W69 k69_2 Q) Q)) hN hR e w h)
  exact rgA 1 (fun e w => m69_4 R (e 0) (e 4) w) h hN
theorem s69_0 {R : VP} {Q : EQ} (hR : ∀ e w, (R (e 2) w) → Q .ret e w) (e : Env) (w : World) (h : m69_0 R (e 0) w) : W69 k69_0 Q e w := by
  unfold m69_0 at h
  refine seA ?_
  have hN : ∀ e w, (m69_1 R (e 0) w) → (thenE (W69 k69_1 Q) Q) .normal e w := fun e w h => then_N (s69_1 (R := R) (Q := Q) hR e w h)
  exact rgA 0 (fun e w => m69_1 R (e 0) w) h hN
abbrev m69 (R : VP) (s0 : Value) (w : World) : Prop := m69_0 R s0 w
theorem s69 (s0 : Value) {R : VP} {w : World} (h : m69 R s0 w) :
    Calls Try.prog 69 #[s0] w fun e w' => ∃ v, e = .returned v ∧ R v w' :=
  calls_of_cwp (st := (fun i => 0)) (c := k69_0) (by kernel_rfl) Try.func69 (by kernel_rfl) (Nat.le_of_ble_eq_true (by kernel_rfl)) (by kernel_rfl)
    (s69_0 (R := R) (Q := endE Try.prog Try.f69 R) (fun e w h => kcast (by kernel_rfl) h) (argsE #[s0]) w (kcast (by kernel_rfl) h))
/-! ### (*headgate/group.Group).find -/
def m70_12 (R : VP) (K1 : VP) (t4 : Value) (w : World) : Prop :=
  R t4 w
def m70_9 (R : VP) (K1 : VP) (g0 id1 t12 t13 : Value) (w : World) : Prop :=
  valP Try.prog (binS BinOp.add 3 (Operand.tmp 13) (Operand.const (Value.int IntKind.i64 1)) t13 (Value.int IntKind.i64 1)) w fun t32 w =>
  K1 t32 w
def m70_11 (R : VP) (K1 : VP) (g0 id1 i5 t12 t13 t25 : Value) (w : World) : Prop :=
  condP t25
  (nilCheckP g0 fun t27 =>
  valP Try.prog (Instr.fieldAt 103 t27 5) w fun t28 w =>
  valP Try.prog (Instr.loadAt 66 t28) w fun t29 w =>
  valP Try.prog (Instr.indexAt 66 t29 i5) w fun t31 w =>
  m70_12 R K1 t31 w)
  (m70_9 R K1 g0 id1 t12 t13 w)
def m70_10 (R : VP) (K1 : VP) (g0 id1 i5 t12 t13 : Value) (w : World) : Prop :=
  nilCheckP g0 fun t17 =>
  valP Try.prog (Instr.fieldAt 103 t17 5) w fun t18 w =>
  valP Try.prog (Instr.loadAt 66 t18) w fun t19 w =>
  valP Try.prog (Instr.indexAt 66 t19 i5) w fun t21 w =>
  valP Try.prog (Instr.fieldAt 69 t21 0) w fun t22 w =>
  valP Try.prog (Instr.loadAt 3 t22) w fun t23 w =>
  valP Try.prog (binS BinOp.eql 3 (Operand.tmp 23) (Operand.tmp 24) t23 id1) w fun t25 w =>
  m70_11 R K1 g0 id1 i5 t12 t13 t25 w
def m70_8 (R : VP) (K1 : VP) (g0 id1 t12 t13 : Value) (w : World) : Prop :=
  m70_10 R K1 g0 id1 t13 t12 t13 w
def m70_3 (R : VP) (t4 : Value) (w : World) : Prop :=
  R t4 w
def m70_2 (R : VP) (w : World) : Prop :=
  m70_3 R (Value.pointer none) w
def m70_7 (R : VP) (K1 : VP) (g0 id1 t12 t13 t14 : Value) (w : World) : Prop :=
  condP t14
  (m70_8 R K1 g0 id1 t12 t13 w)
  (m70_2 R w)
def m70_6 (R : VP) (K1 : VP) (g0 id1 t12 t13 : Value) (w : World) : Prop :=
  valP Try.prog (binS BinOp.lss 3 (Operand.tmp 13) (Operand.tmp 12) t13 t12) w fun t14 w =>
  m70_7 R K1 g0 id1 t12 t13 t14 w
def m70_5 (R : VP) (g0 id1 t12 t13 : Value) (w : World) : Prop :=
  loopP (fun (K1 : VP) (s : Value) w => m70_6 R K1 g0 id1 t12 s w) t13 w
def m70_4 (R : VP) (g0 id1 t7 : Value) (w : World) : Prop :=
  condP t7
  (nilCheckP g0 fun t9 =>
  valP Try.prog (Instr.fieldAt 103 t9 5) w fun t10 w =>
  valP Try.prog (Instr.loadAt 66 t10) w fun t11 w =>
  builtinP Try.prog Builtin.len #[66] 3 #[false] #[t11] w fun t12 w =>
  m70_5 R g0 id1 t12 (Value.int IntKind.i64 0) w)
  (m70_2 R w)
def m70_1 (R : VP) (g0 id1 : Value) (w : World) : Prop :=
  valP Try.prog (binS BinOp.neq 59 (Operand.tmp 6) (Operand.const (Value.pointer none)) g0 (Value.pointer none)) w fun t7 w =>
  m70_4 R g0 id1 t7 w
def m70_0 (R : VP) (g0 id1 : Value) (w : World) : Prop :=
  m70_1 R g0 id1 w
abbrev W70 := cwp Try.prog (fun i => 0)
noncomputable def k70_0 : Code := (bodyOf Try.f70)
noncomputable def k70_1 : Code := (c2 k70_0)
noncomputable def k70_2 : Code := (c2 k70_1)
noncomputable def k70_3 : Code := (c2 k70_2)
noncomputable def k70_4 : Code := (c2 (c1 k70_1))
noncomputable def k70_5 : Code := (c2 (c1 k70_4))
noncomputable def k70_6 : Code := (c1 (c1 k70_5))
noncomputable def k70_7 : Code := (c2 k70_6)
noncomputable def k70_8 : Code := (c2 k70_7)
noncomputable def k70_9 : Code := (c2 k70_8)
noncomputable def k70_10 : Code := (c2 (c1 (c1 k70_8)))
noncomputable def k70_11 : Code := (c2 k70_10)
noncomputable def k70_12 : Code := (c2 (c1 k70_11))
theorem s70_12 {R : VP} {K1 : VP} {Q : EQ} (hR : ∀ e w, (R (e 4) w) → Q .ret e w) (e : Env) (w : World) (h : m70_12 R K1 (e 4) w) : W70 k70_12 Q e w := by
  unfold m70_12 at h
  exact reA (hR _ _ h)
theorem s70_9 {R : VP} {K1 : VP} {Q : EQ} (hN : ∀ e w, (K1 (e 13) w) → Q .normal e w) (e : Env) (w : World) (h : m70_9 R K1 (e 0) (e 1) (e 12) (e 13) w) : W70 k70_9 Q e w := by
  unfold m70_9 at h
  exact rgA 7 (fun e w => K1 (e 13) w) h hN
theorem s70_11 {R : VP} {K1 : VP} {Q : EQ} (hN : ∀ e w, (m70_9 R K1 (e 0) (e 1) (e 12) (e 13) w) → Q .normal e w) (hR : ∀ e w, (R (e 4) w) → Q .ret e w) (e : Env) (w : World) (h : m70_11 R K1 (e 0) (e 1) (e 5) (e 12) (e 13) (e 25) w) : W70 k70_11 Q e w := by
  unfold m70_11 at h
  refine coA (Operand.tmp 25) h (fun h1 => ?_) (fun h1 => ?_)
  · refine seA ?_
    have hN : ∀ e w, (m70_12 R K1 (e 4) w) → (thenE (W70 k70_12 Q) Q) .normal e w := fun e w h => then_N (s70_12 (R := R) (Q := Q) (K1 := K1) hR e w h)
    exact rgA 6 (fun e w => m70_12 R K1 (e 4) w) h1 hN
  · exact skA (hN _ _ h1)
theorem s70_10 {R : VP} {K1 : VP} {Q : EQ} (hN : ∀ e w, (m70_9 R K1 (e 0) (e 1) (e 12) (e 13) w) → Q .normal e w) (hR : ∀ e w, (R (e 4) w) → Q .ret e w) (e : Env) (w : World) (h : m70_10 R K1 (e 0) (e 1) (e 5) (e 12) (e 13) w) : W70 k70_10 Q e w := by
  unfold m70_10 at h
  refine seA ?_
  have hN : ∀ e w, (m70_11 R K1 (e 0) (e 1) (e 5) (e 12) (e 13) (e 25) w) → (thenE (W70 k70_11 Q) Q) .normal e w := fun e w h => then_N (s70_11 (R := R) (Q := Q) (K1 := K1) hN hR e w h)
  exact rgA 5 (fun e w => m70_11 R K1 (e 0) (e 1) (e 5) (e 12) (e 13) (e 25) w) h hN
theorem s70_8 {R : VP} {K1 : VP} {Q : EQ} (hN : ∀ e w, (K1 (e 13) w) → Q .normal e w) (hR : ∀ e w, (R (e 4) w) → Q .ret e w) (e : Env) (w : World) (h : m70_8 R K1 (e 0) (e 1) (e 12) (e 13) w) : W70 k70_8 Q e w := by
  unfold m70_8 at h
  refine seA ?_
  have hN : ∀ e w, (m70_9 R K1 (e 0) (e 1) (e 12) (e 13) w) → (thenE (W70 k70_9 Q) Q) .normal e w := fun e w h => then_N (s70_9 (R := R) (Q := Q) (K1 := K1) hN e w h)
  have hR : ∀ e w, (R (e 4) w) → (thenE (W70 k70_9 Q) Q) .ret e w := fun e w h => then_R (hR e w h)
  refine block_ok 1 (by kernel_rfl) ?_
  have hN : ∀ e w, (m70_9 R K1 (e 0) (e 1) (e 12) (e 13) w) → (inBlockE 1 (thenE (W70 k70_9 Q) Q)) .normal e w := fun e w h => block_N (hN e w h)
  have hR : ∀ e w, (R (e 4) w) → (inBlockE 1 (thenE (W70 k70_9 Q) Q)) .ret e w := fun e w h => block_R (hR e w h)
  refine seA ?_
  have hN : ∀ e w, (m70_10 R K1 (e 0) (e 1) (e 5) (e 12) (e 13) w) → (thenE (W70 k70_10 (inBlockE 1 (thenE (W70 k70_9 Q) Q))) (inBlockE 1 (thenE (W70 k70_9 Q) Q))) .normal e w := fun e w h => then_N (s70_10 (R := R) (Q := (inBlockE 1 (thenE (W70 k70_9 Q) Q))) (K1 := K1) hN hR e w h)
  exact rgA 4 (fun e w => m70_10 R K1 (e 0) (e 1) (e 5) (e 12) (e 13) w) h hN
theorem s70_3 {R : VP} {Q : EQ} (hR : ∀ e w, (R (e 4) w) → Q .ret e w) (e : Env) (w : World) (h : m70_3 R (e 4) w) : W70 k70_3 Q e w := by
  unfold m70_3 at h
  exact reA (hR _ _ h)
theorem s70_2 {R : VP} {Q : EQ} (hR : ∀ e w, (R (e 4) w) → Q .ret e w) (e : Env) (w : World) (h : m70_2 R w) : W70 k70_2 Q e w := by
  unfold m70_2 at h
  refine seA ?_
  have hN : ∀ e w, (m70_3 R (e 4) w) → (thenE (W70 k70_3 Q) Q) .normal e w := fun e w h => then_N (s70_3 (R := R) (Q := Q) hR e w h)
  exact rgA 8 (fun e w => m70_3 R (e 4) w) h hN
theorem s70_7 {R : VP} {K1 : VP} {Q : EQ} (hN : ∀ e w, (K1 (e 13) w) → Q .normal e w) (hR : ∀ e w, (R (e 4) w) → Q .ret e w) (hX0 : ∀ e w, (m70_2 R w) → Q (.exit 0) e w) (e : Env) (w : World) (h : m70_7 R K1 (e 0) (e 1) (e 12) (e 13) (e 14) w) : W70 k70_7 Q e w := by
  unfold m70_7 at h
  refine seA ?_
  have hN : ∀ e w, (m70_8 R K1 (e 0) (e 1) (e 12) (e 13) w) → (thenE (W70 k70_8 Q) Q) .normal e w := fun e w h => then_N (s70_8 (R := R) (Q := Q) (K1 := K1) hN hR e w h)
  have hX0 : ∀ e w, (m70_2 R w) → (thenE (W70 k70_8 Q) Q) (.exit 0) e w := fun e w h => then_X (hX0 e w h)
  refine coA (Operand.tmp 14) h (fun h1 => ?_) (fun h1 => ?_)
  · exact skA (hN _ _ h1)
  · exact exA 0 (hX0 _ _ h1)
theorem s70_6 {R : VP} {K1 : VP} {Q : EQ} (hN : ∀ e w, (K1 (e 13) w) → Q .normal e w) (hR : ∀ e w, (R (e 4) w) → Q .ret e w) (hX0 : ∀ e w, (m70_2 R w) → Q (.exit 0) e w) (e : Env) (w : World) (h : m70_6 R K1 (e 0) (e 1) (e 12) (e 13) w) : W70 k70_6 Q e w := by
  unfold m70_6 at h
  refine seA ?_
  have hN : ∀ e w, (m70_7 R K1 (e 0) (e 1) (e 12) (e 13) (e 14) w) → (thenE (W70 k70_7 Q) Q) .normal e w := fun e w h => then_N (s70_7 (R := R) (Q := Q) (K1 := K1) hN hR hX0 e w h)
  exact rgA 3 (fun e w => m70_7 R K1 (e 0) (e 1) (e 12) (e 13) (e 14) w) h hN
theorem s70_5 {R : VP} {Q : EQ} (hN : ∀ e w, (m70_2 R w) → Q .normal e w) (hR : ∀ e w, (R (e 4) w) → Q .ret e w) (e : Env) (w : World) (h : m70_5 R (e 0) (e 1) (e 12) (e 13) w) : W70 k70_5 Q e w := by
  unfold m70_5 at h
  refine block_ok 0 (by kernel_rfl) ?_
  have hX0 : ∀ e w, (m70_2 R w) → (inBlockE 0 Q) (.exit 0) e w := fun e w h => inBlock_same (Q := Q) 0 (hN e w h)
  have hR : ∀ e w, (R (e 4) w) → (inBlockE 0 Q) .ret e w := fun e w h => block_R (hR e w h)
  refine loop_ok' (fun (e : Env) => e 13) [0, 1, 12] (by kernel_rfl) (by kernel_rfl) h (fun K e' w' hk h' => ?_)
  have r0 : e' 0 = e 0 := hk 0 (by decide)
  have r1 : e' 1 = e 1 := hk 1 (by decide)
  have r12 : e' 12 = e 12 := hk 12 (by decide)
  have hR : ∀ e w, (R (e 4) w) → (thenE (fun (e : Env) w => K (e 13) w) (inBlockE 0 Q)) .ret e w := fun e w h => then_R (hR e w h)
  have hX0 : ∀ e w, (m70_2 R w) → (thenE (fun (e : Env) w => K (e 13) w) (inBlockE 0 Q)) (.exit 0) e w := fun e w h => then_X (hX0 e w h)
  exact s70_6 (R := R) (Q := (thenE (fun (e : Env) w => K (e 13) w) (inBlockE 0 Q))) (K1 := K) (fun _ _ h => then_N h) hR hX0 e' w' (by rw [r0, r1, r12]; exact h')
theorem s70_4 {R : VP} {Q : EQ} (hN : ∀ e w, (m70_2 R w) → Q .normal e w) (hR : ∀ e w, (R (e 4) w) → Q .ret e w) (e : Env) (w : World) (h : m70_4 R (e 0) (e 1) (e 7) w) : W70 k70_4 Q e w := by
  unfold m70_4 at h
  refine coA (Operand.tmp 7) h (fun h1 => ?_) (fun h1 => ?_)
  · refine seA ?_
    have hN : ∀ e w, (m70_5 R (e 0) (e 1) (e 12) (e 13) w) → (thenE (W70 k70_5 Q) Q) .normal e w := fun e w h => then_N (s70_5 (R := R) (Q := Q) hN hR e w h)
    exact rgA 2 (fun e w => m70_5 R (e 0) (e 1) (e 12) (e 13) w) h1 hN
  · exact skA (hN _ _ h1)
theorem s70_1 {R : VP} {Q : EQ} (hR : ∀ e w, (R (e 4) w) → Q .ret e w) (e : Env) (w : World) (h : m70_1 R (e 0) (e 1) w) : W70 k70_1 Q e w := by
  unfold m70_1 at h
  refine seA ?_
  have hN : ∀ e w, (m70_2 R w) → (thenE (W70 k70_2 Q) Q) .normal e w := fun e w h => then_N (s70_2 (R := R) (Q := Q) hR e w h)
  have hR : ∀ e w, (R (e 4) w) → (thenE (W70 k70_2 Q) Q) .ret e w := fun e w h => then_R (hR e w h)
  refine seA ?_
  have hN : ∀ e w, (m70_4 R (e 0) (e 1) (e 7) w) → (thenE (W70 k70_4 (thenE (W70 k70_2 Q) Q)) (thenE (W70 k70_2 Q) Q)) .normal e w := fun e w h => then_N (s70_4 (R := R) (Q := (thenE (W70 k70_2 Q) Q)) hN hR e w h)
  exact rgA 1 (fun e w => m70_4 R (e 0) (e 1) (e 7) w) h hN
theorem s70_0 {R : VP} {Q : EQ} (hR : ∀ e w, (R (e 4) w) → Q .ret e w) (e : Env) (w : World) (h : m70_0 R (e 0) (e 1) w) : W70 k70_0 Q e w := by
  unfold m70_0 at h
  refine seA ?_
  have hN : ∀ e w, (m70_1 R (e 0) (e 1) w) → (thenE (W70 k70_1 Q) Q) .normal e w := fun e w h => then_N (s70_1 (R := R) (Q := Q) hR e w h)
  exact rgA 0 (fun e w => m70_1 R (e 0) (e 1) w) h hN
abbrev m70 (R : VP) (g0 id1 : Value) (w : World) : Prop := m70_0 R g0 id1 w
theorem s70 (g0 id1 : Value) {R : VP} {w : World} (h : m70 R g0 id1 w) :
    Calls Try.prog 70 #[g0, id1] w fun e w' => ∃ v, e = .returned v ∧ R v w' :=
  calls_of_cwp (st := (fun i => 0)) (c := k70_0) (by kernel_rfl) Try.func70 (by kernel_rfl) (Nat.le_of_ble_eq_true (by kernel_rfl)) (by kernel_rfl)
    (s70_0 (R := R) (Q := endE Try.prog Try.f70 R) (fun e w h => kcast (by kernel_rfl) h) (argsE #[g0, id1]) w (kcast (by kernel_rfl) h))
/-! ### (*headgate/group.Group).spent -/
def m71_2 (R : VP) (t2 : Value) (w : World) : Prop :=
  R t2 w
def m71_1 (R : VP) (g0 : Value) (w : World) : Prop :=
  nilCheckP g0 fun t4 =>
  valP Try.prog (Instr.fieldAt 103 t4 2) w fun t5 w =>
  valP Try.prog (Instr.loadAt 3 t5) w fun t6 w =>
  valP Try.prog (binS BinOp.geq 3 (Operand.tmp 6) (Operand.const (Value.int IntKind.i64 1099511627776)) t6 (Value.int IntKind.i64 1099511627776)) w fun t7 w =>
  m71_2 R t7 w
def m71_0 (R : VP) (g0 : Value) (w : World) : Prop :=
  m71_1 R g0 w
abbrev W71 := cwp Try.prog (fun i => 0)
noncomputable def k71_0 : Code := (bodyOf Try.f71)
noncomputable def k71_1 : Code := (c2 k71_0)
noncomputable def k71_2 : Code := (c2 k71_1)
theorem s71_2 {R : VP} {Q : EQ} (hR : ∀ e w, (R (e 2) w) → Q .ret e w) (e : Env) (w : World) (h : m71_2 R (e 2) w) : W71 k71_2 Q e w := by
  unfold m71_2 at h
  exact reA (hR _ _ h)
theorem s71_1 {R : VP} {Q : EQ} (hR : ∀ e w, (R (e 2) w) → Q .ret e w) (e : Env) (w : World) (h : m71_1 R (e 0) w) : W71 k71_1 Q e w := by
  unfold m71_1 at h
  refine seA ?_
  have hN : ∀ e w, (m71_2 R (e 2) w) → (thenE (W71 k71_2 Q) Q) .normal e w := fun e w h => then_N (s71_2 (R := R) (Q := Q) hR e w h)
  exact rgA 1 (fun e w => m71_2 R (e 2) w) h hN
theorem s71_0 {R : VP} {Q : EQ} (hR : ∀ e w, (R (e 2) w) → Q .ret e w) (e : Env) (w : World) (h : m71_0 R (e 0) w) : W71 k71_0 Q e w := by
  unfold m71_0 at h
  refine seA ?_
  have hN : ∀ e w, (m71_1 R (e 0) w) → (thenE (W71 k71_1 Q) Q) .normal e w := fun e w h => then_N (s71_1 (R := R) (Q := Q) hR e w h)
  exact rgA 0 (fun e w => m71_1 R (e 0) w) h hN
abbrev m71 (R : VP) (g0 : Value) (w : World) : Prop := m71_0 R g0 w
theorem s71 (g0 : Value) {R : VP} {w : World} (h : m71 R g0 w) :
    Calls Try.prog 71 #[g0] w fun e w' => ∃ v, e = .returned v ∧ R v w' :=
  calls_of_cwp (st := (fun i => 0)) (c := k71_0) (by kernel_rfl) Try.func71 (by kernel_rfl) (Nat.le_of_ble_eq_true (by kernel_rfl)) (by kernel_rfl)
    (s71_0 (R := R) (Q := endE Try.prog Try.f71 R) (fun e w h => kcast (by kernel_rfl) h) (argsE #[g0]) w (kcast (by kernel_rfl) h))
/-! ### (*headgate/group.Group).drop -/
def m72_4 (R : VP) (t4 : Value) (w : World) : Prop :=
  R t4 w
def m72_3 (R : VP) (g0 n5 : Value) (w : World) : Prop :=
  nilCheckP g0 fun t21 =>
  valP Try.prog (Instr.fieldAt 103 t21 5) w fun t22 w =>
  valP Try.prog (Instr.loadAt 66 t22) w fun t23 w =>
  builtinP Try.prog Builtin.len #[66] 3 #[false] #[t23] w fun t24 w =>
  valP Try.prog (binS BinOp.lss 3 (Operand.tmp 24) (Operand.tmp 25) t24 n5) w fun t26 w =>
  m72_4 R t26 w
def m72_2 (R : VP) (g0 who1 n5 : Value) (w : World) : Prop :=
  nilCheckP g0 fun t13 =>
  valP Try.prog (Instr.fieldAt 103 t13 5) w fun t14 w =>
  valP Try.prog (Instr.loadAt 66 t14) w fun t15 w =>
  callP Try.prog (fnV 91) #[t15, who1] w fun t17 w =>
  nilCheckP g0 fun t18 =>
  valP Try.prog (Instr.fieldAt 103 t18 5) w fun t19 w =>
  unitP Try.prog (Instr.storeAt 66 t19 t17) w fun _ w =>
  m72_3 R g0 n5 w
def m72_1 (R : VP) (g0 who1 : Value) (w : World) : Prop :=
  nilCheckP g0 fun t7 =>
  valP Try.prog (Instr.fieldAt 103 t7 5) w fun t8 w =>
  valP Try.prog (Instr.loadAt 66 t8) w fun t9 w =>
  builtinP Try.prog Builtin.len #[66] 3 #[false] #[t9] w fun t10 w =>
  m72_2 R g0 who1 t10 w
def m72_0 (R : VP) (g0 who1 : Value) (w : World) : Prop :=
  m72_1 R g0 who1 w
abbrev W72 := cwp Try.prog (fun i => 0)
noncomputable def k72_0 : Code := (bodyOf Try.f72)
noncomputable def k72_1 : Code := (c2 k72_0)
noncomputable def k72_2 : Code := (c2 k72_1)
noncomputable def k72_3 : Code := (c2 k72_2)
noncomputable def k72_4 : Code := (c2 k72_3)
theorem s72_4 {R : VP} {Q : EQ} (hR : ∀ e w, (R (e 4) w) → Q .ret e w) (e : Env) (w : World) (h : m72_4 R (e 4) w) : W72 k72_4 Q e w := by
  unfold m72_4 at h
  exact reA (hR _ _ h)
theorem s72_3 {R : VP} {Q : EQ} (hR : ∀ e w, (R (e 4) w) → Q .ret e w) (e : Env) (w : World) (h : m72_3 R (e 0) (e 5) w) : W72 k72_3 Q e w := by
  unfold m72_3 at h
  refine seA ?_
  have hN : ∀ e w, (m72_4 R (e 4) w) → (thenE (W72 k72_4 Q) Q) .normal e w := fun e w h => then_N (s72_4 (R := R) (Q := Q) hR e w h)
  exact rgA 3 (fun e w => m72_4 R (e 4) w) h hN
theorem s72_2 {R : VP} {Q : EQ} (hR : ∀ e w, (R (e 4) w) → Q .ret e w) (e : Env) (w : World) (h : m72_2 R (e 0) (e 1) (e 5) w) : W72 k72_2 Q e w := by
  unfold m72_2 at h
  refine seA ?_
  have hN : ∀ e w, (m72_3 R (e 0) (e 5) w) → (thenE (W72 k72_3 Q) Q) .normal e w := fun e w h => then_N (s72_3 (R := R) (Q := Q) hR e w h)
  exact rgA 2 (fun e w => m72_3 R (e 0) (e 5) w) h hN
theorem s72_1 {R : VP} {Q : EQ} (hR : ∀ e w, (R (e 4) w) → Q .ret e w) (e : Env) (w : World) (h : m72_1 R (e 0) (e 1) w) : W72 k72_1 Q e w := by
  unfold m72_1 at h
  refine seA ?_
  have hN : ∀ e w, (m72_2 R (e 0) (e 1) (e 5) w) → (thenE (W72 k72_2 Q) Q) .normal e w := fun e w h => then_N (s72_2 (R := R) (Q := Q) hR e w h)
  exact rgA 1 (fun e w => m72_2 R (e 0) (e 1) (e 5) w) h hN
theorem s72_0 {R : VP} {Q : EQ} (hR : ∀ e w, (R (e 4) w) → Q .ret e w) (e : Env) (w : World) (h : m72_0 R (e 0) (e 1) w) : W72 k72_0 Q e w := by
  unfold m72_0 at h
  refine seA ?_
  have hN : ∀ e w, (m72_1 R (e 0) (e 1) w) → (thenE (W72 k72_1 Q) Q) .normal e w := fun e w h => then_N (s72_1 (R := R) (Q := Q) hR e w h)
  exact rgA 0 (fun e w => m72_1 R (e 0) (e 1) w) h hN
abbrev m72 (R : VP) (g0 who1 : Value) (w : World) : Prop := m72_0 R g0 who1 w
theorem s72 (g0 who1 : Value) {R : VP} {w : World} (h : m72 R g0 who1 w) :
    Calls Try.prog 72 #[g0, who1] w fun e w' => ∃ v, e = .returned v ∧ R v w' :=
  calls_of_cwp (st := (fun i => 0)) (c := k72_0) (by kernel_rfl) Try.func72 (by kernel_rfl) (Nat.le_of_ble_eq_true (by kernel_rfl)) (by kernel_rfl)
    (s72_0 (R := R) (Q := endE Try.prog Try.f72 R) (fun e w h => kcast (by kernel_rfl) h) (argsE #[g0, who1]) w (kcast (by kernel_rfl) h))
/-! ### (*headgate/group.Group).Tick$1 -/
def m73_2 (R : VP) (t3 : Value) (w : World) : Prop :=
  R t3 w
def m73_1 (R : VP) (t1 m2 : Value) (w : World) : Prop :=
  valQ Try.prog (Instr.fieldAt 69 m2 2) w fun t4 =>
  valQ Try.prog (Instr.loadAt 3 t4) w fun t5 =>
  valQ Try.prog (Instr.loadAt 59 t1) w fun t6 =>
  nilCheckP t6 fun t7 =>
  valQ Try.prog (Instr.fieldAt 103 t7 4) w fun t8 =>
  valQ Try.prog (Instr.loadAt 3 t8) w fun t9 =>
  valQ Try.prog (binS BinOp.leq 3 (Operand.tmp 5) (Operand.tmp 9) t5 t9) w fun t10 =>
  anyDraw w fun w =>
  m73_2 R t10 w
def m73_0 (R : VP) (m0 t1 : Value) (w : World) : Prop :=
  valP Try.prog (Instr.box 69 m0) w fun m2 w =>
  m73_1 R t1 m2 w
abbrev W73 := cwp Try.prog (fun i => cond (Nat.beq i 1) 1 (0))
noncomputable def k73_0 : Code := (bodyOf Try.f73)
noncomputable def k73_1 : Code := (c2 k73_0)
noncomputable def k73_2 : Code := (c2 k73_1)
theorem s73_2 {R : VP} {Q : EQ} (hR : ∀ e w, (R (e 3) w) → Q .ret e w) (e : Env) (w : World) (h : m73_2 R (e 3) w) : W73 k73_2 Q e w := by
  unfold m73_2 at h
  exact reA (hR _ _ h)
theorem s73_1 {R : VP} {Q : EQ} (hR : ∀ e w, (R (e 3) w) → Q .ret e w) (e : Env) (w : World) (h : m73_1 R (e 1) (e 2) w) : W73 k73_1 Q e w := by
  unfold m73_1 at h
  refine seA ?_
  have hN : ∀ e w, (m73_2 R (e 3) w) → (thenE (W73 k73_2 Q) Q) .normal e w := fun e w h => then_N (s73_2 (R := R) (Q := Q) hR e w h)
  exact quA 1 (fun e w => m73_2 R (e 3) w) h hN
theorem s73_0 {R : VP} {Q : EQ} (hR : ∀ e w, (R (e 3) w) → Q .ret e w) (e : Env) (w : World) (h : m73_0 R (e 0) (e 1) w) : W73 k73_0 Q e w := by
  unfold m73_0 at h
  refine seA ?_
  have hN : ∀ e w, (m73_1 R (e 1) (e 2) w) → (thenE (W73 k73_1 Q) Q) .normal e w := fun e w h => then_N (s73_1 (R := R) (Q := Q) hR e w h)
  exact rgA 0 (fun e w => m73_1 R (e 1) (e 2) w) h hN
abbrev m73 (R : VP) (m0 t1 : Value) (w : World) : Prop := m73_0 R m0 t1 w
theorem s73 (m0 t1 : Value) {R : VP} {w : World} (h : m73 R m0 t1 w) :
    Calls Try.prog 73 #[m0, t1] w fun e w' => ∃ v, e = .returned v ∧ R v w' :=
  calls_of_cwp (st := (fun i => cond (Nat.beq i 1) 1 (0))) (c := k73_0) (by kernel_rfl) Try.func73 (by kernel_rfl) (Nat.le_of_ble_eq_true (by kernel_rfl)) (by kernel_rfl)
    (s73_0 (R := R) (Q := endE Try.prog Try.f73 R) (fun e w h => kcast (by kernel_rfl) h) (argsE #[m0, t1]) w (kcast (by kernel_rfl) h))
/-! ### (*headgate/group.Group).turn -/
def m74_9 (R : VP) (K1 : (Value × Value) → World → Prop) (g0 ids2 t8 t9 t10 : Value) (w : World) : Prop :=
  valP Try.prog (binS BinOp.add 3 (Operand.tmp 10) (Operand.const (Value.int IntKind.i64 1)) t10 (Value.int IntKind.i64 1)) w fun t19 w =>
  K1 (ids2, t19) w
def m74_10 (R : VP) (K1 : (Value × Value) → World → Prop) (g0 ids2 m4 t8 t9 t10 : Value) (w : World) : Prop :=
  valP Try.prog (Instr.fieldAt 69 m4 0) w fun t15 w =>
  valP Try.prog (Instr.loadAt 3 t15) w fun t16 w =>
  valP Try.prog (Instr.buildSlice 28 1 #[(0, t16)]) w fun t17 w =>
  builtinP Try.prog Builtin.append #[28, 28] 28 #[false, false] #[ids2, t17] w fun t18 w =>
  m74_9 R K1 g0 t18 t8 t9 t10 w
def m74_8 (R : VP) (K1 : (Value × Value) → World → Prop) (g0 ids2 t8 t9 t10 : Value) (w : World) : Prop :=
  valP Try.prog (Instr.indexAt 66 t8 t10) w fun t12 w =>
  valP Try.prog (Instr.loadAt 69 t12) w fun t13 w =>
  valP Try.prog (Instr.alloc 69 true (.tuple #[])) w fun m4 w =>
  unitP Try.prog (Instr.storeAt 69 m4 t13) w fun _ w =>
  m74_10 R K1 g0 ids2 m4 t8 t9 t10 w
def m74_4 (R : VP) (g0 ids2 t30 : Value) (w : World) : Prop :=
  condP t30
  (anyDraw w fun w =>
  nilCheckP g0 fun t34 =>
  pureP Try.prog (Instr.fieldAt 103 t34 0) fun t35 =>
  nilCheckP g0 fun t39 =>
  pureP Try.prog (Instr.fieldAt 103 t39 6) fun t40 =>
  (valP Try.prog (Instr.loadAt 3 t35) w fun t36 w =>
  valP Try.prog (Instr.loadAt 28 t40) w fun t41 w =>
  callP Try.prog (fnV 88) #[t36, ids2, t41] w fun t42 w =>
  pureP Try.prog (Instr.extract t42 0) fun t43 =>
  pureP Try.prog (Instr.extract t42 1) fun t44 =>
  nilCheckP g0 fun t45 =>
  pureP Try.prog (Instr.fieldAt 103 t45 6) fun t46 =>
  unitP Try.prog (Instr.storeAt 28 t46 t43) w fun _ w =>
  R (Value.tuple #[]) w) ∧ (valP Try.prog (Instr.loadAt 28 t40) w fun t41 w =>
  valP Try.prog (Instr.loadAt 3 t35) w fun t36 w =>
  callP Try.prog (fnV 88) #[t36, ids2, t41] w fun t42 w =>
  pureP Try.prog (Instr.extract t42 0) fun t43 =>
  pureP Try.prog (Instr.extract t42 1) fun t44 =>
  nilCheckP g0 fun t45 =>
  pureP Try.prog (Instr.fieldAt 103 t45 6) fun t46 =>
  unitP Try.prog (Instr.storeAt 28 t46 t43) w fun _ w =>
  R (Value.tuple #[]) w))
  (nilCheckP g0 fun t50 =>
  valP Try.prog (Instr.fieldAt 103 t50 0) w fun t51 w =>
  valP Try.prog (Instr.loadAt 3 t51) w fun t52 w =>
  callP Try.prog (fnV 92) #[t52, ids2] w fun t54 w =>
  valP Try.prog (Instr.extract t54 0) w fun t55 w =>
  valP Try.prog (Instr.extract t54 1) w fun t56 w =>
  nilCheckP g0 fun t57 =>
  valP Try.prog (Instr.fieldAt 103 t57 6) w fun t58 w =>
  unitP Try.prog (Instr.storeAt 28 t58 t55) w fun _ w =>
  R (Value.tuple #[]) w)
def m74_3 (R : VP) (g0 ids2 : Value) (w : World) : Prop :=
  nilCheckP g0 fun t28 =>
  valP Try.prog (Instr.fieldAt 103 t28 1) w fun t29 w =>
  valP Try.prog (Instr.loadAt 4 t29) w fun t30 w =>
  m74_4 R g0 ids2 t30 w
def m74_2 (R : VP) (g0 ids2 : Value) (w : World) : Prop :=
  nilCheckP g0 fun t21 =>
  valP Try.prog (Instr.fieldAt 103 t21 2) w fun t22 w =>
  valP Try.prog (Instr.loadAt 3 t22) w fun t23 w =>
  valP Try.prog (binS BinOp.add 3 (Operand.tmp 23) (Operand.const (Value.int IntKind.i64 1)) t23 (Value.int IntKind.i64 1)) w fun t24 w =>
  nilCheckP g0 fun t25 =>
  valP Try.prog (Instr.fieldAt 103 t25 2) w fun t26 w =>
  unitP Try.prog (Instr.storeAt 3 t26 t24) w fun _ w =>
  m74_3 R g0 ids2 w
def m74_7 (R : VP) (K1 : (Value × Value) → World → Prop) (g0 ids2 t8 t9 t10 t11 : Value) (w : World) : Prop :=
  condP t11
  (m74_8 R K1 g0 ids2 t8 t9 t10 w)
  (m74_2 R g0 ids2 w)
def m74_6 (R : VP) (K1 : (Value × Value) → World → Prop) (g0 ids2 t8 t9 t10 : Value) (w : World) : Prop :=
  valP Try.prog (binS BinOp.lss 3 (Operand.tmp 10) (Operand.tmp 9) t10 t9) w fun t11 w =>
  m74_7 R K1 g0 ids2 t8 t9 t10 t11 w
def m74_5 (R : VP) (g0 ids2 t8 t9 t10 : Value) (w : World) : Prop :=
  loopP (fun (K1 : (Value × Value) → World → Prop) (s : Value × Value) w => m74_6 R K1 g0 s.1 t8 t9 s.2 w) (ids2, t10) w
def m74_1 (R : VP) (g0 ids2 : Value) (w : World) : Prop :=
  nilCheckP g0 fun t6 =>
  valP Try.prog (Instr.fieldAt 103 t6 5) w fun t7 w =>
  valP Try.prog (Instr.loadAt 66 t7) w fun t8 w =>
  builtinP Try.prog Builtin.len #[66] 3 #[false] #[t8] w fun t9 w =>
  m74_5 R g0 ids2 t8 t9 (Value.int IntKind.i64 0) w
def m74_0 (R : VP) (g0 : Value) (w : World) : Prop :=
  m74_1 R g0 (Value.slice none 0 0) w
abbrev W74 := cwp Try.prog (fun i => 0)
noncomputable def k74_0 : Code := (bodyOf Try.f74)
noncomputable def k74_1 : Code := (c2 k74_0)
noncomputable def k74_2 : Code := (c2 k74_1)
noncomputable def k74_3 : Code := (c2 k74_2)
noncomputable def k74_4 : Code := (c2 k74_3)
noncomputable def k74_5 : Code := (c2 (c1 k74_1))
noncomputable def k74_6 : Code := (c1 (c1 k74_5))
noncomputable def k74_7 : Code := (c2 k74_6)
noncomputable def k74_8 : Code := (c2 k74_7)
noncomputable def k74_9 : Code := (c2 k74_8)
noncomputable def k74_10 : Code := (c2 (c1 (c1 k74_8)))
theorem s74_9 {R : VP} {K1 : (Value × Value) → World → Prop} {Q : EQ} (hN : ∀ e w, (K1 ((e 2), (e 10)) w) → Q .normal e w) (e : Env) (w : World) (h : m74_9 R K1 (e 0) (e 2) (e 8) (e 9) (e 10) w) : W74 k74_9 Q e w := by
  unfold m74_9 at h
  exact rgA 5 (fun e w => K1 ((e 2), (e 10)) w) h hN
theorem s74_10 {R : VP} {K1 : (Value × Value) → World → Prop} {Q : EQ} (hN : ∀ e w, (m74_9 R K1 (e 0) (e 2) (e 8) (e 9) (e 10) w) → Q .normal e w) (e : Env) (w : World) (h : m74_10 R K1 (e 0) (e 2) (e 4) (e 8) (e 9) (e 10) w) : W74 k74_10 Q e w := by
  unfold m74_10 at h
  exact rgA 4 (fun e w => m74_9 R K1 (e 0) (e 2) (e 8) (e 9) (e 10) w) h hN
theorem s74_8 {R : VP} {K1 : (Value × Value) → World → Prop} {Q : EQ} (hN : ∀ e w, (K1 ((e 2), (e 10)) w) → Q .normal e w) (e : Env) (w : World) (h : m74_8 R K1 (e 0) (e 2) (e 8) (e 9) (e 10) w) : W74 k74_8 Q e w := by
  unfold m74_8 at h
  refine seA ?_
  have hN : ∀ e w, (m74_9 R K1 (e 0) (e 2) (e 8) (e 9) (e 10) w) → (thenE (W74 k74_9 Q) Q) .normal e w := fun e w h => then_N (s74_9 (R := R) (Q := Q) (K1 := K1) hN e w h)
  refine block_ok 1 (by kernel_rfl) ?_
  have hN : ∀ e w, (m74_9 R K1 (e 0) (e 2) (e 8) (e 9) (e 10) w) → (inBlockE 1 (thenE (W74 k74_9 Q) Q)) .normal e w := fun e w h => block_N (hN e w h)
  refine seA ?_
  have hN : ∀ e w, (m74_10 R K1 (e 0) (e 2) (e 4) (e 8) (e 9) (e 10) w) → (thenE (W74 k74_10 (inBlockE 1 (thenE (W74 k74_9 Q) Q))) (inBlockE 1 (thenE (W74 k74_9 Q) Q))) .normal e w := fun e w h => then_N (s74_10 (R := R) (Q := (inBlockE 1 (thenE (W74 k74_9 Q) Q))) (K1 := K1) hN e w h)
  exact rgA 3 (fun e w => m74_10 R K1 (e 0) (e 2) (e 4) (e 8) (e 9) (e 10) w) h hN
theorem s74_4 {R : VP} {Q : EQ} (hN : ∀ e w, (R (Value.tuple #[]) w) → Q .normal e w) (e : Env) (w : World) (h : m74_4 R (e 0) (e 2) (e 30) w) : W74 k74_4 Q e w := by
  unfold m74_4 at h
  refine coA (Operand.tmp 30) h (fun h1 => ?_) (fun h1 => ?_)
  · exact tree_ok 8 17 [false, false, false, false, false, false, false, false, false, false, false, false, false, false, false, false, false] (.take 0 [true, false, false, false, false, false, false, false, false, false, false, false, false, false, false, false, false] (.take 1 [true, true, false, false, false, false, false, false, false, false, false, false, false, false, false, false, false] (.take 2 [true, true, true, false, false, false, false, false, false, false, false, false, false, false, false, false, false] (.take 3 [true, true, true, true, false, false, false, false, false, false, false, false, false, false, false, false, false] (.take 5 [true, true, true, true, false, true, false, false, false, false, false, false, false, false, false, false, false] (.take 6 [true, true, true, true, false, true, true, false, false, false, false, false, false, false, false, false, false] (.take 7 [true, true, true, true, false, true, true, true, false, false, false, false, false, false, false, false, false] (.take 8 [true, true, true, true, false, true, true, true, true, false, false, false, false, false, false, false, false] (.alt 4 [true, true, true, true, true, true, true, true, true, false, false, false, false, false, false, false, false] (.alt 9 [true, true, true, true, true, true, true, true, true, true, false, false, false, false, false, false, false] (.alt 10 [true, true, true, true, true, true, true, true, true, true, true, false, false, false, false, false, false] (.take 11 [true, true, true, true, true, true, true, true, true, true, true, true, false, false, false, false, false] (.take 12 [true, true, true, true, true, true, true, true, true, true, true, true, true, false, false, false, false] (.take 13 [true, true, true, true, true, true, true, true, true, true, true, true, true, true, false, false, false] (.take 14 [true, true, true, true, true, true, true, true, true, true, true, true, true, true, true, false, false] (.take 15 [true, true, true, true, true, true, true, true, true, true, true, true, true, true, true, true, false] (.alt 16 [true, true, true, true, true, true, true, true, true, true, true, true, true, true, true, true, true] .done .stop)))))) .stop) .stop) (.alt 9 [true, true, true, true, false, true, true, true, true, true, false, false, false, false, false, false, false] (.alt 4 [true, true, true, true, true, true, true, true, true, true, false, false, false, false, false, false, false] (.alt 10 [true, true, true, true, true, true, true, true, true, true, true, false, false, false, false, false, false] (.take 11 [true, true, true, true, true, true, true, true, true, true, true, true, false, false, false, false, false] (.take 12 [true, true, true, true, true, true, true, true, true, true, true, true, true, false, false, false, false] (.take 13 [true, true, true, true, true, true, true, true, true, true, true, true, true, true, false, false, false] (.take 14 [true, true, true, true, true, true, true, true, true, true, true, true, true, true, true, false, false] (.take 15 [true, true, true, true, true, true, true, true, true, true, true, true, true, true, true, true, false] (.alt 16 [true, true, true, true, true, true, true, true, true, true, true, true, true, true, true, true, true] .done .stop)))))) .stop) .stop) .stop)))))))))) (fun e w => R (Value.tuple #[]) w) (by kernel_rfl) (by kernel_rfl) (by kernel_rfl) (by kernel_rfl) (by kernel_rfl) (by kernel_rfl) (kcast (by kernel_rfl) h1) hN (by kernel_rfl)
  · exact rgA 9 (fun e w => R (Value.tuple #[]) w) h1 hN
theorem s74_3 {R : VP} {Q : EQ} (hN : ∀ e w, (R (Value.tuple #[]) w) → Q .normal e w) (e : Env) (w : World) (h : m74_3 R (e 0) (e 2) w) : W74 k74_3 Q e w := by
  unfold m74_3 at h
  refine seA ?_
  have hN : ∀ e w, (m74_4 R (e 0) (e 2) (e 30) w) → (thenE (W74 k74_4 Q) Q) .normal e w := fun e w h => then_N (s74_4 (R := R) (Q := Q) hN e w h)
  exact rgA 7 (fun e w => m74_4 R (e 0) (e 2) (e 30) w) h hN
theorem s74_2 {R : VP} {Q : EQ} (hN : ∀ e w, (R (Value.tuple #[]) w) → Q .normal e w) (e : Env) (w : World) (h : m74_2 R (e 0) (e 2) w) : W74 k74_2 Q e w := by
  unfold m74_2 at h
  refine seA ?_
  have hN : ∀ e w, (m74_3 R (e 0) (e 2) w) → (thenE (W74 k74_3 Q) Q) .normal e w := fun e w h => then_N (s74_3 (R := R) (Q := Q) hN e w h)
  exact rgA 6 (fun e w => m74_3 R (e 0) (e 2) w) h hN
theorem s74_7 {R : VP} {K1 : (Value × Value) → World → Prop} {Q : EQ} (hN : ∀ e w, (K1 ((e 2), (e 10)) w) → Q .normal e w) (hX0 : ∀ e w, (m74_2 R (e 0) (e 2) w) → Q (.exit 0) e w) (e : Env) (w : World) (h : m74_7 R K1 (e 0) (e 2) (e 8) (e 9) (e 10) (e 11) w) : W74 k74_7 Q e w := by
  unfold m74_7 at h
  refine seA ?_
  have hN : ∀ e w, (m74_8 R K1 (e 0) (e 2) (e 8) (e 9) (e 10) w) → (thenE (W74 k74_8 Q) Q) .normal e w := fun e w h => then_N (s74_8 (R := R) (Q := Q) (K1 := K1) hN e w h)
  have hX0 : ∀ e w, (m74_2 R (e 0) (e 2) w) → (thenE (W74 k74_8 Q) Q) (.exit 0) e w := fun e w h => then_X (hX0 e w h)
  refine coA (Operand.tmp 11) h (fun h1 => ?_) (fun h1 => ?_)
  · exact skA (hN _ _ h1)
  · exact exA 0 (hX0 _ _ h1)
theorem s74_6 {R : VP} {K1 : (Value × Value) → World → Prop} {Q : EQ} (hN : ∀ e w, (K1 ((e 2), (e 10)) w) → Q .normal e w) (hX0 : ∀ e w, (m74_2 R (e 0) (e 2) w) → Q (.exit 0) e w) (e : Env) (w : World) (h : m74_6 R K1 (e 0) (e 2) (e 8) (e 9) (e 10) w) : W74 k74_6 Q e w := by
  unfold m74_6 at h
  refine seA ?_
  have hN : ∀ e w, (m74_7 R K1 (e 0) (e 2) (e 8) (e 9) (e 10) (e 11) w) → (thenE (W74 k74_7 Q) Q) .normal e w := fun e w h => then_N (s74_7 (R := R) (Q := Q) (K1 := K1) hN hX0 e w h)
  exact rgA 2 (fun e w => m74_7 R K1 (e 0) (e 2) (e 8) (e 9) (e 10) (e 11) w) h hN
theorem s74_5 {R : VP} {Q : EQ} (hN : ∀ e w, (m74_2 R (e 0) (e 2) w) → Q .normal e w) (e : Env) (w : World) (h : m74_5 R (e 0) (e 2) (e 8) (e 9) (e 10) w) : W74 k74_5 Q e w := by
  unfold m74_5 at h
  refine block_ok 0 (by kernel_rfl) ?_
  have hX0 : ∀ e w, (m74_2 R (e 0) (e 2) w) → (inBlockE 0 Q) (.exit 0) e w := fun e w h => inBlock_same (Q := Q) 0 (hN e w h)
  refine loop_ok' (fun (e : Env) => (e 2, e 10)) [0, 8, 9] (by kernel_rfl) (by kernel_rfl) h (fun K e' w' hk h' => ?_)
  have r0 : e' 0 = e 0 := hk 0 (by decide)
  have r8 : e' 8 = e 8 := hk 8 (by decide)
  have r9 : e' 9 = e 9 := hk 9 (by decide)
  have hX0 : ∀ e w, (m74_2 R (e 0) (e 2) w) → (thenE (fun (e : Env) w => K ((e 2), (e 10)) w) (inBlockE 0 Q)) (.exit 0) e w := fun e w h => then_X (hX0 e w h)
  exact s74_6 (R := R) (Q := (thenE (fun (e : Env) w => K ((e 2), (e 10)) w) (inBlockE 0 Q))) (K1 := K) (fun _ _ h => then_N h) hX0 e' w' (by rw [r0, r8, r9]; exact h')
theorem s74_1 {R : VP} {Q : EQ} (hN : ∀ e w, (R (Value.tuple #[]) w) → Q .normal e w) (e : Env) (w : World) (h : m74_1 R (e 0) (e 2) w) : W74 k74_1 Q e w := by
  unfold m74_1 at h
  refine seA ?_
  have hN : ∀ e w, (m74_2 R (e 0) (e 2) w) → (thenE (W74 k74_2 Q) Q) .normal e w := fun e w h => then_N (s74_2 (R := R) (Q := Q) hN e w h)
  refine seA ?_
  have hN : ∀ e w, (m74_5 R (e 0) (e 2) (e 8) (e 9) (e 10) w) → (thenE (W74 k74_5 (thenE (W74 k74_2 Q) Q)) (thenE (W74 k74_2 Q) Q)) .normal e w := fun e w h => then_N (s74_5 (R := R) (Q := (thenE (W74 k74_2 Q) Q)) hN e w h)
  exact rgA 1 (fun e w => m74_5 R (e 0) (e 2) (e 8) (e 9) (e 10) w) h hN
theorem s74_0 {R : VP} {Q : EQ} (hN : ∀ e w, (R (Value.tuple #[]) w) → Q .normal e w) (e : Env) (w : World) (h : m74_0 R (e 0) w) : W74 k74_0 Q e w := by
  unfold m74_0 at h
  refine seA ?_
  have hN : ∀ e w, (m74_1 R (e 0) (e 2) w) → (thenE (W74 k74_1 Q) Q) .normal e w := fun e w h => then_N (s74_1 (R := R) (Q := Q) hN e w h)
  exact rgA 0 (fun e w => m74_1 R (e 0) (e 2) w) h hN
abbrev m74 (R : VP) (g0 : Value) (w : World) : Prop := m74_0 R g0 w
theorem s74 (g0 : Value) {R : VP} {w : World} (h : m74 R g0 w) :
    Calls Try.prog 74 #[g0] w fun e w' => ∃ v, e = .returned v ∧ R v w' :=
  calls_of_cwp (st := (fun i => 0)) (c := k74_0) (by kernel_rfl) Try.func74 (by kernel_rfl) (Nat.le_of_ble_eq_true (by kernel_rfl)) (by kernel_rfl)
    (s74_0 (R := R) (Q := endE Try.prog Try.f74 R) (fun e w h => kcast (by kernel_rfl) h) (argsE #[g0]) w (kcast (by kernel_rfl) h))
/-! ### (*headgate/group.Group).Leave$1 -/
def m75_2 (R : VP) (t3 : Value) (w : World) : Prop :=
  R t3 w
def m75_1 (R : VP) (t1 m2 : Value) (w : World) : Prop :=
  valP Try.prog (Instr.fieldAt 69 m2 0) w fun t4 w =>
  valP Try.prog (Instr.loadAt 3 t4) w fun t5 w =>
  valP Try.prog (Instr.loadAt 3 t1) w fun t6 w =>
  valP Try.prog (binS BinOp.eql 3 (Operand.tmp 5) (Operand.tmp 6) t5 t6) w fun t7 w =>
  m75_2 R t7 w
def m75_0 (R : VP) (m0 t1 : Value) (w : World) : Prop :=
  valP Try.prog (Instr.box 69 m0) w fun m2 w =>
  m75_1 R t1 m2 w
abbrev W75 := cwp Try.prog (fun i => 0)
noncomputable def k75_0 : Code := (bodyOf Try.f75)
noncomputable def k75_1 : Code := (c2 k75_0)
noncomputable def k75_2 : Code := (c2 k75_1)
theorem s75_2 {R : VP} {Q : EQ} (hR : ∀ e w, (R (e 3) w) → Q .ret e w) (e : Env) (w : World) (h : m75_2 R (e 3) w) : W75 k75_2 Q e w := by
  unfold m75_2 at h
  exact reA (hR _ _ h)
theorem s75_1 {R : VP} {Q : EQ} (hR : ∀ e w, (R (e 3) w) → Q .ret e w) (e : Env) (w : World) (h : m75_1 R (e 1) (e 2) w) : W75 k75_1 Q e w := by
  unfold m75_1 at h
  refine seA ?_
  have hN : ∀ e w, (m75_2 R (e 3) w) → (thenE (W75 k75_2 Q) Q) .normal e w := fun e w h => then_N (s75_2 (R := R) (Q := Q) hR e w h)
  exact rgA 1 (fun e w => m75_2 R (e 3) w) h hN
theorem s75_0 {R : VP} {Q : EQ} (hR : ∀ e w, (R (e 3) w) → Q .ret e w) (e : Env) (w : World) (h : m75_0 R (e 0) (e 1) w) : W75 k75_0 Q e w := by
  unfold m75_0 at h
  refine seA ?_
  have hN : ∀ e w, (m75_1 R (e 1) (e 2) w) → (thenE (W75 k75_1 Q) Q) .normal e w := fun e w h => then_N (s75_1 (R := R) (Q := Q) hR e w h)
  exact rgA 0 (fun e w => m75_1 R (e 1) (e 2) w) h hN
abbrev m75 (R : VP) (m0 t1 : Value) (w : World) : Prop := m75_0 R m0 t1 w
theorem s75 (m0 t1 : Value) {R : VP} {w : World} (h : m75 R m0 t1 w) :
    Calls Try.prog 75 #[m0, t1] w fun e w' => ∃ v, e = .returned v ∧ R v w' :=
  calls_of_cwp (st := (fun i => 0)) (c := k75_0) (by kernel_rfl) Try.func75 (by kernel_rfl) (Nat.le_of_ble_eq_true (by kernel_rfl)) (by kernel_rfl)
    (s75_0 (R := R) (Q := endE Try.prog Try.f75 R) (fun e w h => kcast (by kernel_rfl) h) (argsE #[m0, t1]) w (kcast (by kernel_rfl) h))
/-! ### (*headgate/headgateref10.Group).Join -/
def m76_21 (R : VP) (t4 t5 t6 : Value) (w : World) : Prop :=
  R (Value.tuple #[t4, t5, t6]) w
def m76_19 (R : VP) (t4 t5 t6 : Value) (w : World) : Prop :=
  R (Value.tuple #[t4, t5, t6]) w
def m76_15 (R : VP) (K1 : (Value × Value) → World → Prop) (g0 worker1 l7 i8 : Value) (w : World) : Prop :=
  valP Try.prog (binS BinOp.add 3 (Operand.tmp 35) (Operand.const (Value.int IntKind.i64 1)) i8 (Value.int IntKind.i64 1)) w fun t36 w =>
  K1 (l7, t36) w
def m76_16 (R : VP) (K1 : (Value × Value) → World → Prop) (g0 worker1 l7 i8 t46 : Value) (w : World) : Prop :=
  condP t46
  (nilCheckP g0 fun t49 =>
  valP Try.prog (Instr.fieldAt 86 t49 5) w fun t50 w =>
  valP Try.prog (Instr.loadAt 66 t50) w fun t51 w =>
  valP Try.prog (Instr.indexAt 66 t51 i8) w fun t53 w =>
  valP Try.prog (Instr.loadAt 69 t53) w fun t54 w =>
  valP Try.prog (Instr.buildSlice 66 1 #[(0, t54)]) w fun t55 w =>
  builtinP Try.prog Builtin.append #[66, 66] 66 #[false, false] #[l7, t55] w fun t56 w =>
  m76_15 R K1 g0 worker1 t56 i8 w)
  (m76_15 R K1 g0 worker1 l7 i8 w)
def m76_14 (R : VP) (K1 : (Value × Value) → World → Prop) (g0 worker1 l7 i8 : Value) (w : World) : Prop :=
  nilCheckP g0 fun t38 =>
  valP Try.prog (Instr.fieldAt 86 t38 5) w fun t39 w =>
  valP Try.prog (Instr.loadAt 66 t39) w fun t40 w =>
  valP Try.prog (Instr.indexAt 66 t40 i8) w fun t42 w =>
  valP Try.prog (Instr.fieldAt 69 t42 1) w fun t43 w =>
  valP Try.prog (Instr.loadAt 3 t43) w fun t44 w =>
  valP Try.prog (binS BinOp.neq 3 (Operand.tmp 44) (Operand.tmp 45) t44 worker1) w fun t46 w =>
  m76_16 R K1 g0 worker1 l7 i8 t46 w
def m76_11 (R : VP) (t4 t5 t6 : Value) (w : World) : Prop :=
  R (Value.tuple #[t4, t5, t6]) w
def m76_10 (R : VP) (g0 id9 : Value) (w : World) : Prop :=
  nilCheckP g0 fun t85 =>
  valQ Try.prog (Instr.fieldAt 86 t85 2) w fun t86 =>
  valQ Try.prog (Instr.loadAt 3 t86) w fun t87 =>
  anyDraw w fun w =>
  m76_11 R id9 t87 (Value.int IntKind.i64 0) w
def m76_9 (R : VP) (g0 id9 : Value) (w : World) : Prop :=
  callP Try.prog (fnV 93) #[g0] w fun t82 w =>
  m76_10 R g0 id9 w
def m76_8 (R : VP) (g0 id9 : Value) (w : World) : Prop :=
  valP Try.prog (binS BinOp.add 3 (Operand.tmp 77) (Operand.const (Value.int IntKind.i64 1)) id9 (Value.int IntKind.i64 1)) w fun t78 w =>
  nilCheckP g0 fun t79 =>
  valP Try.prog (Instr.fieldAt 86 t79 3) w fun t80 w =>
  unitP Try.prog (Instr.storeAt 3 t80 t78) w fun _ w =>
  m76_9 R g0 id9 w
def m76_7 (R : VP) (g0 l7 id9 : Value) (w : World) : Prop :=
  nilCheckP g0 fun t74 =>
  valP Try.prog (Instr.fieldAt 86 t74 5) w fun t75 w =>
  unitP Try.prog (Instr.storeAt 66 t75 l7) w fun _ w =>
  m76_8 R g0 id9 w
def m76_6 (R : VP) (g0 worker1 l7 id9 : Value) (w : World) : Prop :=
  nilCheckP g0 fun t65 =>
  valP Try.prog (Instr.fieldAt 86 t65 4) w fun t66 w =>
  valP Try.prog (Instr.loadAt 3 t66) w fun t67 w =>
  valP Try.prog (binS BinOp.add 3 (Operand.tmp 67) (Operand.const (Value.int IntKind.i64 12)) t67 (Value.int IntKind.i64 12)) w fun t68 w =>
  valP Try.prog (Instr.build 69 #[(0, id9), (1, worker1), (2, t68)]) w fun t69 w =>
  valP Try.prog (Instr.buildSlice 66 1 #[(0, t69)]) w fun t70 w =>
  builtinP Try.prog Builtin.append #[66, 66] 66 #[false, false] #[l7, t70] w fun t71 w =>
  m76_7 R g0 t71 id9 w
def m76_5 (R : VP) (g0 worker1 l7 : Value) (w : World) : Prop :=
  nilCheckP g0 fun t58 =>
  valP Try.prog (Instr.fieldAt 86 t58 3) w fun t59 w =>
  valP Try.prog (Instr.loadAt 3 t59) w fun t60 w =>
  m76_6 R g0 worker1 l7 t60 w
def m76_17 (R : VP) (K1 : (Value × Value) → World → Prop) (g0 worker1 l7 i8 t34 : Value) (w : World) : Prop :=
  condP t34
  (m76_14 R K1 g0 worker1 l7 i8 w)
  (m76_5 R g0 worker1 l7 w)
def m76_13 (R : VP) (K1 : (Value × Value) → World → Prop) (g0 worker1 l7 i8 : Value) (w : World) : Prop :=
  nilCheckP g0 fun t30 =>
  valP Try.prog (Instr.fieldAt 86 t30 5) w fun t31 w =>
  valP Try.prog (Instr.loadAt 66 t31) w fun t32 w =>
  builtinP Try.prog Builtin.len #[66] 3 #[false] #[t32] w fun t33 w =>
  valP Try.prog (binS BinOp.lss 3 (Operand.tmp 28) (Operand.tmp 33) i8 t33) w fun t34 w =>
  m76_17 R K1 g0 worker1 l7 i8 t34 w
def m76_12 (R : VP) (g0 worker1 l7 i8 : Value) (w : World) : Prop :=
  loopP (fun (K1 : (Value × Value) → World → Prop) (s : Value × Value) w => m76_13 R K1 g0 worker1 s.1 s.2 w) (l7, i8) w
def m76_4 (R : VP) (g0 worker1 l7 : Value) (w : World) : Prop :=
  m76_12 R g0 worker1 l7 (Value.int IntKind.i64 0) w
def m76_3 (R : VP) (g0 worker1 : Value) (w : World) : Prop :=
  m76_4 R g0 worker1 (Value.slice none 0 0) w
def m76_18 (R : VP) (g0 worker1 t27 : Value) (w : World) : Prop :=
  condP t27
  (m76_19 R (Value.int IntKind.i64 0) (Value.int IntKind.i64 0) (Value.int IntKind.i64 6) w)
  (m76_3 R g0 worker1 w)
def m76_2 (R : VP) (g0 worker1 : Value) (w : World) : Prop :=
  nilCheckP g0 fun t17 =>
  valP Try.prog (Instr.fieldAt 86 t17 2) w fun t18 w =>
  valP Try.prog (Instr.loadAt 3 t18) w fun t19 w =>
  valP Try.prog (binS BinOp.geq 3 (Operand.tmp 19) (Operand.const (Value.int IntKind.i64 1099511627776)) t19 (Value.int IntKind.i64 1099511627776)) w fun t20 w =>
  condP t20
  (pickP t20 (Value.bool true) undef fun t27 =>
  m76_18 R g0 worker1 t27 w)
  (nilCheckP g0 fun t23 =>
  valP Try.prog (Instr.fieldAt 86 t23 3) w fun t24 w =>
  valP Try.prog (Instr.loadAt 3 t24) w fun t25 w =>
  valP Try.prog (binS BinOp.geq 3 (Operand.tmp 25) (Operand.const (Value.int IntKind.i64 1099511627776)) t25 (Value.int IntKind.i64 1099511627776)) w fun t26 w =>
  pickP t20 (Value.bool true) t26 fun t27 =>
  m76_18 R g0 worker1 t27 w)
def m76_20 (R : VP) (g0 worker1 t15 : Value) (w : World) : Prop :=
  condP t15
  (m76_21 R (Value.int IntKind.i64 0) (Value.int IntKind.i64 0) (Value.int IntKind.i64 1) w)
  (m76_2 R g0 worker1 w)
def m76_1 (R : VP) (g0 worker1 : Value) (w : World) : Prop :=
  valP Try.prog (binS BinOp.lss 3 (Operand.tmp 10) (Operand.const (Value.int IntKind.i64 1)) worker1 (Value.int IntKind.i64 1)) w fun t11 w =>
  condP t11
  (pickP t11 (Value.bool true) undef fun t15 =>
  m76_20 R g0 worker1 t15 w)
  (valP Try.prog (binS BinOp.gtr 3 (Operand.tmp 13) (Operand.const (Value.int IntKind.i64 8)) worker1 (Value.int IntKind.i64 8)) w fun t14 w =>
  pickP t11 (Value.bool true) t14 fun t15 =>
  m76_20 R g0 worker1 t15 w)
def m76_0 (R : VP) (g0 worker1 : Value) (w : World) : Prop :=
  m76_1 R g0 worker1 w
abbrev W76 := cwp Try.prog (fun i => cond (Nat.beq i 16) 1 (0))
noncomputable def k76_0 : Code := (bodyOf Try.f76)
noncomputable def k76_1 : Code := (c2 k76_0)
noncomputable def k76_2 : Code := (c2 k76_1)
noncomputable def k76_3 : Code := (c2 k76_2)
noncomputable def k76_4 : Code := (c2 k76_3)
noncomputable def k76_5 : Code := (c2 k76_4)
noncomputable def k76_6 : Code := (c2 k76_5)
noncomputable def k76_7 : Code := (c2 k76_6)
noncomputable def k76_8 : Code := (c2 k76_7)
noncomputable def k76_9 : Code := (c2 k76_8)
noncomputable def k76_10 : Code := (c2 k76_9)
noncomputable def k76_11 : Code := (c2 k76_10)
noncomputable def k76_12 : Code := (c2 (c1 k76_4))
noncomputable def k76_13 : Code := (c1 (c1 k76_12))
noncomputable def k76_14 : Code := (c2 k76_13)
noncomputable def k76_15 : Code := (c2 k76_14)
noncomputable def k76_16 : Code := (c2 (c1 (c1 k76_14)))
noncomputable def k76_17 : Code := (c2 (c1 k76_13))
noncomputable def k76_18 : Code := (c2 (c1 k76_2))
noncomputable def k76_19 : Code := (c2 (c1 k76_18))
noncomputable def k76_20 : Code := (c2 (c1 k76_1))
noncomputable def k76_21 : Code := (c2 (c1 k76_20))
theorem s76_21 {R : VP} {Q : EQ} (hR : ∀ e w, (R (Value.tuple #[(e 4), (e 5), (e 6)]) w) → Q .ret e w) (e : Env) (w : World) (h : m76_21 R (e 4) (e 5) (e 6) w) : W76 k76_21 Q e w := by
  unfold m76_21 at h
  exact reA (hR _ _ h)
theorem s76_19 {R : VP} {Q : EQ} (hR : ∀ e w, (R (Value.tuple #[(e 4), (e 5), (e 6)]) w) → Q .ret e w) (e : Env) (w : World) (h : m76_19 R (e 4) (e 5) (e 6) w) : W76 k76_19 Q e w := by
  unfold m76_19 at h
  exact reA (hR _ _ h)
theorem s76_15 {R : VP} {K1 : (Value × Value) → World → Prop} {Q : EQ} (hN : ∀ e w, (K1 ((e 7), (e 8)) w) → Q .normal e w) (e : Env) (w : World) (h : m76_15 R K1 (e 0) (e 1) (e 7) (e 8) w) : W76 k76_15 Q e w := by
  unfold m76_15 at h
  exact rgA 8 (fun e w => K1 ((e 7), (e 8)) w) h hN
theorem s76_16 {R : VP} {K1 : (Value × Value) → World → Prop} {Q : EQ} (hN : ∀ e w, (m76_15 R K1 (e 0) (e 1) (e 7) (e 8) w) → Q .normal e w) (e : Env) (w : World) (h : m76_16 R K1 (e 0) (e 1) (e 7) (e 8) (e 46) w) : W76 k76_16 Q e w := by
  unfold m76_16 at h
  refine coA (Operand.tmp 46) h (fun h1 => ?_) (fun h1 => ?_)
  · exact rgA 10 (fun e w => m76_15 R K1 (e 0) (e 1) (e 7) (e 8) w) h1 hN
  · exact skA (hN _ _ h1)
theorem s76_14 {R : VP} {K1 : (Value × Value) → World → Prop} {Q : EQ} (hN : ∀ e w, (K1 ((e 7), (e 8)) w) → Q .normal e w) (e : Env) (w : World) (h : m76_14 R K1 (e 0) (e 1) (e 7) (e 8) w) : W76 k76_14 Q e w := by
  unfold m76_14 at h
  refine seA ?_
  have hN : ∀ e w, (m76_15 R K1 (e 0) (e 1) (e 7) (e 8) w) → (thenE (W76 k76_15 Q) Q) .normal e w := fun e w h => then_N (s76_15 (R := R) (Q := Q) (K1 := K1) hN e w h)
  refine block_ok 1 (by kernel_rfl) ?_
  have hN : ∀ e w, (m76_15 R K1 (e 0) (e 1) (e 7) (e 8) w) → (inBlockE 1 (thenE (W76 k76_15 Q) Q)) .normal e w := fun e w h => block_N (hN e w h)
  refine seA ?_
  have hN : ∀ e w, (m76_16 R K1 (e 0) (e 1) (e 7) (e 8) (e 46) w) → (thenE (W76 k76_16 (inBlockE 1 (thenE (W76 k76_15 Q) Q))) (inBlockE 1 (thenE (W76 k76_15 Q) Q))) .normal e w := fun e w h => then_N (s76_16 (R := R) (Q := (inBlockE 1 (thenE (W76 k76_15 Q) Q))) (K1 := K1) hN e w h)
  exact rgA 9 (fun e w => m76_16 R K1 (e 0) (e 1) (e 7) (e 8) (e 46) w) h hN
theorem s76_11 {R : VP} {Q : EQ} (hR : ∀ e w, (R (Value.tuple #[(e 4), (e 5), (e 6)]) w) → Q .ret e w) (e : Env) (w : World) (h : m76_11 R (e 4) (e 5) (e 6) w) : W76 k76_11 Q e w := by
  unfold m76_11 at h
  exact reA (hR _ _ h)
theorem s76_10 {R : VP} {Q : EQ} (hR : ∀ e w, (R (Value.tuple #[(e 4), (e 5), (e 6)]) w) → Q .ret e w) (e : Env) (w : World) (h : m76_10 R (e 0) (e 9) w) : W76 k76_10 Q e w := by
  unfold m76_10 at h
  refine seA ?_
  have hN : ∀ e w, (m76_11 R (e 4) (e 5) (e 6) w) → (thenE (W76 k76_11 Q) Q) .normal e w := fun e w h => then_N (s76_11 (R := R) (Q := Q) hR e w h)
  exact quA 16 (fun e w => m76_11 R (e 4) (e 5) (e 6) w) h hN
theorem s76_9 {R : VP} {Q : EQ} (hR : ∀ e w, (R (Value.tuple #[(e 4), (e 5), (e 6)]) w) → Q .ret e w) (e : Env) (w : World) (h : m76_9 R (e 0) (e 9) w) : W76 k76_9 Q e w := by
  unfold m76_9 at h
  refine seA ?_
  have hN : ∀ e w, (m76_10 R (e 0) (e 9) w) → (thenE (W76 k76_10 Q) Q) .normal e w := fun e w h => then_N (s76_10 (R := R) (Q := Q) hR e w h)
  exact rgA 15 (fun e w => m76_10 R (e 0) (e 9) w) h hN
theorem s76_8 {R : VP} {Q : EQ} (hR : ∀ e w, (R (Value.tuple #[(e 4), (e 5), (e 6)]) w) → Q .ret e w) (e : Env) (w : World) (h : m76_8 R (e 0) (e 9) w) : W76 k76_8 Q e w := by
  unfold m76_8 at h
  refine seA ?_
  have hN : ∀ e w, (m76_9 R (e 0) (e 9) w) → (thenE (W76 k76_9 Q) Q) .normal e w := fun e w h => then_N (s76_9 (R := R) (Q := Q) hR e w h)
  exact rgA 14 (fun e w => m76_9 R (e 0) (e 9) w) h hN
theorem s76_7 {R : VP} {Q : EQ} (hR : ∀ e w, (R (Value.tuple #[(e 4), (e 5), (e 6)]) w) → Q .ret e w) (e : Env) (w : World) (h : m76_7 R (e 0) (e 7) (e 9) w) : W76 k76_7 Q e w := by
  unfold m76_7 at h
  refine seA ?_
  have hN : ∀ e w, (m76_8 R (e 0) (e 9) w) → (thenE (W76 k76_8 Q) Q) .normal e w := fun e w h => then_N (s76_8 (R := R) (Q := Q) hR e w h)
  exact rgA 13 (fun e w => m76_8 R (e 0) (e 9) w) h hN
theorem s76_6 {R : VP} {Q : EQ} (hR : ∀ e w, (R (Value.tuple #[(e 4), (e 5), (e 6)]) w) → Q .ret e w) (e : Env) (w : World) (h : m76_6 R (e 0) (e 1) (e 7) (e 9) w) : W76 k76_6 Q e w := by
  unfold m76_6 at h
  refine seA ?_
  have hN : ∀ e w, (m76_7 R (e 0) (e 7) (e 9) w) → (thenE (W76 k76_7 Q) Q) .normal e w := fun e w h => then_N (s76_7 (R := R) (Q := Q) hR e w h)
  exact rgA 12 (fun e w => m76_7 R (e 0) (e 7) (e 9) w) h hN
theorem s76_5 {R : VP} {Q : EQ} (hR : ∀ e w, (R (Value.tuple #[(e 4), (e 5), (e 6)]) w) → Q .ret e w) (e : Env) (w : World) (h : m76_5 R (e 0) (e 1) (e 7) w) : W76 k76_5 Q e w := by
  unfold m76_5 at h
  refine seA ?_
  have hN : ∀ e w, (m76_6 R (e 0) (e 1) (e 7) (e 9) w) → (thenE (W76 k76_6 Q) Q) .normal e w := fun e w h => then_N (s76_6 (R := R) (Q := Q) hR e w h)
  exact rgA 11 (fun e w => m76_6 R (e 0) (e 1) (e 7) (e 9) w) h hN
theorem s76_17 {R : VP} {K1 : (Value × Value) → World → Prop} {Q : EQ} (hN : ∀ e w, (m76_14 R K1 (e 0) (e 1) (e 7) (e 8) w) → Q .normal e w) (hX0 : ∀ e w, (m76_5 R (e 0) (e 1) (e 7) w) → Q (.exit 0) e w) (e : Env) (w : World) (h : m76_17 R K1 (e 0) (e 1) (e 7) (e 8) (e 34) w) : W76 k76_17 Q e w := by
  unfold m76_17 at h
  refine coA (Operand.tmp 34) h (fun h1 => ?_) (fun h1 => ?_)
  · exact skA (hN _ _ h1)
  · exact exA 0 (hX0 _ _ h1)
theorem s76_13 {R : VP} {K1 : (Value × Value) → World → Prop} {Q : EQ} (hN : ∀ e w, (K1 ((e 7), (e 8)) w) → Q .normal e w) (hX0 : ∀ e w, (m76_5 R (e 0) (e 1) (e 7) w) → Q (.exit 0) e w) (e : Env) (w : World) (h : m76_13 R K1 (e 0) (e 1) (e 7) (e 8) w) : W76 k76_13 Q e w := by
  unfold m76_13 at h
  refine seA ?_
  have hN : ∀ e w, (m76_14 R K1 (e 0) (e 1) (e 7) (e 8) w) → (thenE (W76 k76_14 Q) Q) .normal e w := fun e w h => then_N (s76_14 (R := R) (Q := Q) (K1 := K1) hN e w h)
  have hX0 : ∀ e w, (m76_5 R (e 0) (e 1) (e 7) w) → (thenE (W76 k76_14 Q) Q) (.exit 0) e w := fun e w h => then_X (hX0 e w h)
  refine seA ?_
  have hN : ∀ e w, (m76_17 R K1 (e 0) (e 1) (e 7) (e 8) (e 34) w) → (thenE (W76 k76_17 (thenE (W76 k76_14 Q) Q)) (thenE (W76 k76_14 Q) Q)) .normal e w := fun e w h => then_N (s76_17 (R := R) (Q := (thenE (W76 k76_14 Q) Q)) (K1 := K1) hN hX0 e w h)
  exact rgA 7 (fun e w => m76_17 R K1 (e 0) (e 1) (e 7) (e 8) (e 34) w) h hN
theorem s76_12 {R : VP} {Q : EQ} (hN : ∀ e w, (m76_5 R (e 0) (e 1) (e 7) w) → Q .normal e w) (e : Env) (w : World) (h : m76_12 R (e 0) (e 1) (e 7) (e 8) w) : W76 k76_12 Q e w := by
  unfold m76_12 at h
  refine block_ok 0 (by kernel_rfl) ?_
  have hX0 : ∀ e w, (m76_5 R (e 0) (e 1) (e 7) w) → (inBlockE 0 Q) (.exit 0) e w := fun e w h => inBlock_same (Q := Q) 0 (hN e w h)
  refine loop_ok' (fun (e : Env) => (e 7, e 8)) [0, 1] (by kernel_rfl) (by kernel_rfl) h (fun K e' w' hk h' => ?_)
  have r0 : e' 0 = e 0 := hk 0 (by decide)
  have r1 : e' 1 = e 1 := hk 1 (by decide)
  have hX0 : ∀ e w, (m76_5 R (e 0) (e 1) (e 7) w) → (thenE (fun (e : Env) w => K ((e 7), (e 8)) w) (inBlockE 0 Q)) (.exit 0) e w := fun e w h => then_X (hX0 e w h)
  exact s76_13 (R := R) (Q := (thenE (fun (e : Env) w => K ((e 7), (e 8)) w) (inBlockE 0 Q))) (K1 := K) (fun _ _ h => then_N h) hX0 e' w' (by rw [r0, r1]; exact h')
theorem s76_4 {R : VP} {Q : EQ} (hR : ∀ e w, (R (Value.tuple #[(e 4), (e 5), (e 6)]) w) → Q .ret e w) (e : Env) (w : World) (h : m76_4 R (e 0) (e 1) (e 7) w) : W76 k76_4 Q e w := by
  unfold m76_4 at h
  refine seA ?_
  have hN : ∀ e w, (m76_5 R (e 0) (e 1) (e 7) w) → (thenE (W76 k76_5 Q) Q) .normal e w := fun e w h => then_N (s76_5 (R := R) (Q := Q) hR e w h)
  refine seA ?_
  have hN : ∀ e w, (m76_12 R (e 0) (e 1) (e 7) (e 8) w) → (thenE (W76 k76_12 (thenE (W76 k76_5 Q) Q)) (thenE (W76 k76_5 Q) Q)) .normal e w := fun e w h => then_N (s76_12 (R := R) (Q := (thenE (W76 k76_5 Q) Q)) hN e w h)
  exact rgA 6 (fun e w => m76_12 R (e 0) (e 1) (e 7) (e 8) w) h hN
theorem s76_3 {R : VP} {Q : EQ} (hR : ∀ e w, (R (Value.tuple #[(e 4), (e 5), (e 6)]) w) → Q .ret e w) (e : Env) (w : World) (h : m76_3 R (e 0) (e 1) w) : W76 k76_3 Q e w := by
  unfold m76_3 at h
  refine seA ?_
  have hN : ∀ e w, (m76_4 R (e 0) (e 1) (e 7) w) → (thenE (W76 k76_4 Q) Q) .normal e w := fun e w h => then_N (s76_4 (R := R) (Q := Q) hR e w h)
  exact rgA 5 (fun e w => m76_4 R (e 0) (e 1) (e 7) w) h hN
theorem s76_18 {R : VP} {Q : EQ} (hN : ∀ e w, (m76_3 R (e 0) (e 1) w) → Q .normal e w) (hR : ∀ e w, (R (Value.tuple #[(e 4), (e 5), (e 6)]) w) → Q .ret e w) (e : Env) (w : World) (h : m76_18 R (e 0) (e 1) (e 27) w) : W76 k76_18 Q e w := by
  unfold m76_18 at h
  refine coA (Operand.tmp 27) h (fun h1 => ?_) (fun h1 => ?_)
  · refine seA ?_
    have hN : ∀ e w, (m76_19 R (e 4) (e 5) (e 6) w) → (thenE (W76 k76_19 Q) Q) .normal e w := fun e w h => then_N (s76_19 (R := R) (Q := Q) hR e w h)
    exact rgA 4 (fun e w => m76_19 R (e 4) (e 5) (e 6) w) h1 hN
  · exact skA (hN _ _ h1)
theorem s76_2 {R : VP} {Q : EQ} (hR : ∀ e w, (R (Value.tuple #[(e 4), (e 5), (e 6)]) w) → Q .ret e w) (e : Env) (w : World) (h : m76_2 R (e 0) (e 1) w) : W76 k76_2 Q e w := by
  unfold m76_2 at h
  refine seA ?_
  have hN : ∀ e w, (m76_3 R (e 0) (e 1) w) → (thenE (W76 k76_3 Q) Q) .normal e w := fun e w h => then_N (s76_3 (R := R) (Q := Q) hR e w h)
  have hR : ∀ e w, (R (Value.tuple #[(e 4), (e 5), (e 6)]) w) → (thenE (W76 k76_3 Q) Q) .ret e w := fun e w h => then_R (hR e w h)
  refine seA ?_
  have hN : ∀ e w, (m76_18 R (e 0) (e 1) (e 27) w) → (thenE (W76 k76_18 (thenE (W76 k76_3 Q) Q)) (thenE (W76 k76_3 Q) Q)) .normal e w := fun e w h => then_N (s76_18 (R := R) (Q := (thenE (W76 k76_3 Q) Q)) hN hR e w h)
  exact rgA 3 (fun e w => m76_18 R (e 0) (e 1) (e 27) w) h hN
theorem s76_20 {R : VP} {Q : EQ} (hN : ∀ e w, (m76_2 R (e 0) (e 1) w) → Q .normal e w) (hR : ∀ e w, (R (Value.tuple #[(e 4), (e 5), (e 6)]) w) → Q .ret e w) (e : Env) (w : World) (h : m76_20 R (e 0) (e 1) (e 15) w) : W76 k76_20 Q e w := by
  unfold m76_20 at h
  refine coA (Operand.tmp 15) h (fun h1 => ?_) (fun h1 => ?_)
  · refine seA ?_
    have hN : ∀ e w, (m76_21 R (e 4) (e 5) (e 6) w) → (thenE (W76 k76_21 Q) Q) .normal e w := fun e w h => then_N (s76_21 (R := R) (Q := Q) hR e w h)
    exact rgA 2 (fun e w => m76_21 R (e 4) (e 5) (e 6) w) h1 hN
  · exact skA (hN _ _ h1)
theorem s76_1 {R : VP} {Q : EQ} (hR : ∀ e w, (R (Value.tuple #[(e 4), (e 5), (e 6)]) w) → Q .ret e w) (e : Env) (w : World) (h : m76_1 R (e 0) (e 1) w) : W76 k76_1 Q e w := by
  unfold m76_1 at h
  refine seA ?_
  have hN : ∀ e w, (m76_2 R (e 0) (e 1) w) → (thenE (W76 k76_2 Q) Q) .normal e w := fun e w h => then_N (s76_2 (R := R) (Q := Q) hR e w h)
  have hR : ∀ e w, (R (Value.tuple #[(e 4), (e 5), (e 6)]) w) → (thenE (W76 k76_2 Q) Q) .ret e w := fun e w h => then_R (hR e w h)
  refine seA ?_
  have hN : ∀ e w, (m76_20 R (e 0) (e 1) (e 15) w) → (thenE (W76 k76_20 (thenE (W76 k76_2 Q) Q)) (thenE (W76 k76_2 Q) Q)) .normal e w := fun e w h => then_N (s76_20 (R := R) (Q := (thenE (W76 k76_2 Q) Q)) hN hR e w h)
  exact rgA 1 (fun e w => m76_20 R (e 0) (e 1) (e 15) w) h hN
theorem s76_0 {R : VP} {Q : EQ} (hR : ∀ e w, (R (Value.tuple #[(e 4), (e 5), (e 6)]) w) → Q .ret e w) (e : Env) (w : World) (h : m76_0 R (e 0) (e 1) w) : W76 k76_0 Q e w := by
  unfold m76_0 at h
  refine seA ?_
  have hN : ∀ e w, (m76_1 R (e 0) (e 1) w) → (thenE (W76 k76_1 Q) Q) .normal e w := fun e w h => then_N (s76_1 (R := R) (Q := Q) hR e w h)
  exact rgA 0 (fun e w => m76_1 R (e 0) (e 1) w) h hN
abbrev m76 (R : VP) (g0 worker1 : Value) (w : World) : Prop := m76_0 R g0 worker1 w
theorem s76 (g0 worker1 : Value) {R : VP} {w : World} (h : m76 R g0 worker1 w) :
    Calls Try.prog 76 #[g0, worker1] w fun e w' => ∃ v, e = .returned v ∧ R v w' :=
  calls_of_cwp (st := (fun i => cond (Nat.beq i 16) 1 (0))) (c := k76_0) (by kernel_rfl) Try.func76 (by kernel_rfl) (Nat.le_of_ble_eq_true (by kernel_rfl)) (by kernel_rfl)
    (s76_0 (R := R) (Q := endE Try.prog Try.f76 R) (fun e w h => kcast (by kernel_rfl) h) (argsE #[g0, worker1]) w (kcast (by kernel_rfl) h))
/-! ### (*headgate/headgateref10.Group).Sync -/
def m77_15 (R : VP) (t4 t5 t6 : Value) (w : World) : Prop :=
  R (Value.tuple #[t4, t5, t6]) w
def m77_11 (R : VP) (K1 : (Value × Value) → World → Prop) (g0 id1 out8 p9 : Value) (w : World) : Prop :=
  valP Try.prog (binS BinOp.add 3 (Operand.tmp 25) (Operand.const (Value.int IntKind.i64 1)) p9 (Value.int IntKind.i64 1)) w fun t26 w =>
  K1 (out8, t26) w
def m77_12 (R : VP) (K1 : (Value × Value) → World → Prop) (g0 id1 out8 p9 t35 : Value) (w : World) : Prop :=
  condP t35
  (valP Try.prog (Instr.buildSlice 28 1 #[(0, p9)]) w fun t38 w =>
  builtinP Try.prog Builtin.append #[28, 28] 28 #[false, false] #[out8, t38] w fun t39 w =>
  m77_11 R K1 g0 id1 t39 p9 w)
  (m77_11 R K1 g0 id1 out8 p9 w)
def m77_10 (R : VP) (K1 : (Value × Value) → World → Prop) (g0 id1 out8 p9 : Value) (w : World) : Prop :=
  nilCheckP g0 fun t28 =>
  valP Try.prog (Instr.fieldAt 86 t28 6) w fun t29 w =>
  valP Try.prog (Instr.loadAt 28 t29) w fun t30 w =>
  valP Try.prog (Instr.indexAt 28 t30 p9) w fun t32 w =>
  valP Try.prog (Instr.loadAt 3 t32) w fun t33 w =>
  valP Try.prog (binS BinOp.eql 3 (Operand.tmp 33) (Operand.tmp 34) t33 id1) w fun t35 w =>
  m77_12 R K1 g0 id1 out8 p9 t35 w
def m77_7 (R : VP) (t4 t5 t6 : Value) (w : World) : Prop :=
  R (Value.tuple #[t4, t5, t6]) w
def m77_6 (R : VP) (g0 out8 : Value) (w : World) : Prop :=
  nilCheckP g0 fun t41 =>
  valP Try.prog (Instr.fieldAt 86 t41 2) w fun t42 w =>
  valP Try.prog (Instr.loadAt 3 t42) w fun t43 w =>
  m77_7 R t43 out8 (Value.int IntKind.i64 0) w
def m77_13 (R : VP) (K1 : (Value × Value) → World → Prop) (g0 id1 out8 p9 t24 : Value) (w : World) : Prop :=
  condP t24
  (m77_10 R K1 g0 id1 out8 p9 w)
  (m77_6 R g0 out8 w)
def m77_9 (R : VP) (K1 : (Value × Value) → World → Prop) (g0 id1 out8 p9 : Value) (w : World) : Prop :=
  nilCheckP g0 fun t20 =>
  valP Try.prog (Instr.fieldAt 86 t20 6) w fun t21 w =>
  valP Try.prog (Instr.loadAt 28 t21) w fun t22 w =>
  builtinP Try.prog Builtin.len #[28] 3 #[false] #[t22] w fun t23 w =>
  valP Try.prog (binS BinOp.lss 3 (Operand.tmp 18) (Operand.tmp 23) p9 t23) w fun t24 w =>
  m77_13 R K1 g0 id1 out8 p9 t24 w
def m77_8 (R : VP) (g0 id1 out8 p9 : Value) (w : World) : Prop :=
  loopP (fun (K1 : (Value × Value) → World → Prop) (s : Value × Value) w => m77_9 R K1 g0 id1 s.1 s.2 w) (out8, p9) w
def m77_5 (R : VP) (g0 id1 out8 : Value) (w : World) : Prop :=
  m77_8 R g0 id1 out8 (Value.int IntKind.i64 0) w
def m77_4 (R : VP) (g0 id1 : Value) (w : World) : Prop :=
  m77_5 R g0 id1 (Value.slice none 0 0) w
def m77_3 (R : VP) (g0 id1 i7 : Value) (w : World) : Prop :=
  callP Try.prog (fnV 95) #[g0, i7] w fun t17 w =>
  m77_4 R g0 id1 w
def m77_14 (R : VP) (g0 id1 i7 t14 : Value) (w : World) : Prop :=
  condP t14
  (m77_15 R (Value.int IntKind.i64 0) (Value.slice none 0 0) (Value.int IntKind.i64 11) w)
  (m77_3 R g0 id1 i7 w)
def m77_2 (R : VP) (g0 id1 i7 : Value) (w : World) : Prop :=
  valP Try.prog (binS BinOp.lss 3 (Operand.tmp 13) (Operand.const (Value.int IntKind.i64 0)) i7 (Value.int IntKind.i64 0)) w fun t14 w =>
  m77_14 R g0 id1 i7 t14 w
def m77_1 (R : VP) (g0 id1 : Value) (w : World) : Prop :=
  callP Try.prog (fnV 94) #[g0, id1] w fun t12 w =>
  m77_2 R g0 id1 t12 w
def m77_0 (R : VP) (g0 id1 : Value) (w : World) : Prop :=
  m77_1 R g0 id1 w
abbrev W77 := cwp Try.prog (fun i => 0)
noncomputable def k77_0 : Code := (bodyOf Try.f77)
noncomputable def k77_1 : Code := (c2 k77_0)
noncomputable def k77_2 : Code := (c2 k77_1)
noncomputable def k77_3 : Code := (c2 k77_2)
noncomputable def k77_4 : Code := (c2 k77_3)
noncomputable def k77_5 : Code := (c2 k77_4)
noncomputable def k77_6 : Code := (c2 k77_5)
noncomputable def k77_7 : Code := (c2 k77_6)
noncomputable def k77_8 : Code := (c2 (c1 k77_5))
noncomputable def k77_9 : Code := (c1 (c1 k77_8))
noncomputable def k77_10 : Code := (c2 k77_9)
noncomputable def k77_11 : Code := (c2 k77_10)
noncomputable def k77_12 : Code := (c2 (c1 (c1 k77_10)))
noncomputable def k77_13 : Code := (c2 (c1 k77_9))
noncomputable def k77_14 : Code := (c2 (c1 k77_2))
noncomputable def k77_15 : Code := (c2 (c1 k77_14))
theorem s77_15 {R : VP} {Q : EQ} (hR : ∀ e w, (R (Value.tuple #[(e 4), (e 5), (e 6)]) w) → Q .ret e w) (e : Env) (w : World) (h : m77_15 R (e 4) (e 5) (e 6) w) : W77 k77_15 Q e w := by
  unfold m77_15 at h
  exact reA (hR _ _ h)
theorem s77_11 {R : VP} {K1 : (Value × Value) → World → Prop} {Q : EQ} (hN : ∀ e w, (K1 ((e 8), (e 9)) w) → Q .normal e w) (e : Env) (w : World) (h : m77_11 R K1 (e 0) (e 1) (e 8) (e 9) w) : W77 k77_11 Q e w := by
  unfold m77_11 at h
  exact rgA 8 (fun e w => K1 ((e 8), (e 9)) w) h hN
theorem s77_12 {R : VP} {K1 : (Value × Value) → World → Prop} {Q : EQ} (hN : ∀ e w, (m77_11 R K1 (e 0) (e 1) (e 8) (e 9) w) → Q .normal e w) (e : Env) (w : World) (h : m77_12 R K1 (e 0) (e 1) (e 8) (e 9) (e 35) w) : W77 k77_12 Q e w := by
  unfold m77_12 at h
  refine coA (Operand.tmp 35) h (fun h1 => ?_) (fun h1 => ?_)
  · exact rgA 10 (fun e w => m77_11 R K1 (e 0) (e 1) (e 8) (e 9) w) h1 hN
  · exact skA (hN _ _ h1)
theorem s77_10 {R : VP} {K1 : (Value × Value) → World → Prop} {Q : EQ} (hN : ∀ e w, (K1 ((e 8), (e 9)) w) → Q .normal e w) (e : Env) (w : World) (h : m77_10 R K1 (e 0) (e 1) (e 8) (e 9) w) : W77 k77_10 Q e w := by
  unfold m77_10 at h
  refine seA ?_
  have hN : ∀ e w, (m77_11 R K1 (e 0) (e 1) (e 8) (e 9) w) → (thenE (W77 k77_11 Q) Q) .normal e w := fun e w h => then_N (s77_11 (R := R) (Q := Q) (K1 := K1) hN e w h)
  refine block_ok 1 (by kernel_rfl) ?_
  have hN : ∀ e w, (m77_11 R K1 (e 0) (e 1) (e 8) (e 9) w) → (inBlockE 1 (thenE (W77 k77_11 Q) Q)) .normal e w := fun e w h => block_N (hN e w h)
  refine seA ?_
  have hN : ∀ e w, (m77_12 R K1 (e 0) (e 1) (e 8) (e 9) (e 35) w) → (thenE (W77 k77_12 (inBlockE 1 (thenE (W77 k77_11 Q) Q))) (inBlockE 1 (thenE (W77 k77_11 Q) Q))) .normal e w := fun e w h => then_N (s77_12 (R := R) (Q := (inBlockE 1 (thenE (W77 k77_11 Q) Q))) (K1 := K1) hN e w h)
  exact rgA 9 (fun e w => m77_12 R K1 (e 0) (e 1) (e 8) (e 9) (e 35) w) h hN
theorem s77_7 {R : VP} {Q : EQ} (hR : ∀ e w, (R (Value.tuple #[(e 4), (e 5), (e 6)]) w) → Q .ret e w) (e : Env) (w : World) (h : m77_7 R (e 4) (e 5) (e 6) w) : W77 k77_7 Q e w := by
  unfold m77_7 at h
  exact reA (hR _ _ h)
theorem s77_6 {R : VP} {Q : EQ} (hR : ∀ e w, (R (Value.tuple #[(e 4), (e 5), (e 6)]) w) → Q .ret e w) (e : Env) (w : World) (h : m77_6 R (e 0) (e 8) w) : W77 k77_6 Q e w := by
  unfold m77_6 at h
  refine seA ?_
  have hN : ∀ e w, (m77_7 R (e 4) (e 5) (e 6) w) → (thenE (W77 k77_7 Q) Q) .normal e w := fun e w h => then_N (s77_7 (R := R) (Q := Q) hR e w h)
  exact rgA 11 (fun e w => m77_7 R (e 4) (e 5) (e 6) w) h hN
theorem s77_13 {R : VP} {K1 : (Value × Value) → World → Prop} {Q : EQ} (hN : ∀ e w, (m77_10 R K1 (e 0) (e 1) (e 8) (e 9) w) → Q .normal e w) (hX0 : ∀ e w, (m77_6 R (e 0) (e 8) w) → Q (.exit 0) e w) (e : Env) (w : World) (h : m77_13 R K1 (e 0) (e 1) (e 8) (e 9) (e 24) w) : W77 k77_13 Q e w := by
  unfold m77_13 at h
  refine coA (Operand.tmp 24) h (fun h1 => ?_) (fun h1 => ?_)
  · exact skA (hN _ _ h1)
  · exact exA 0 (hX0 _ _ h1)
theorem s77_9 {R : VP} {K1 : (Value × Value) → World → Prop} {Q : EQ} (hN : ∀ e w, (K1 ((e 8), (e 9)) w) → Q .normal e w) (hX0 : ∀ e w, (m77_6 R (e 0) (e 8) w) → Q (.exit 0) e w) (e : Env) (w : World) (h : m77_9 R K1 (e 0) (e 1) (e 8) (e 9) w) : W77 k77_9 Q e w := by
  unfold m77_9 at h
  refine seA ?_
  have hN : ∀ e w, (m77_10 R K1 (e 0) (e 1) (e 8) (e 9) w) → (thenE (W77 k77_10 Q) Q) .normal e w := fun e w h => then_N (s77_10 (R := R) (Q := Q) (K1 := K1) hN e w h)
  have hX0 : ∀ e w, (m77_6 R (e 0) (e 8) w) → (thenE (W77 k77_10 Q) Q) (.exit 0) e w := fun e w h => then_X (hX0 e w h)
  refine seA ?_
  have hN : ∀ e w, (m77_13 R K1 (e 0) (e 1) (e 8) (e 9) (e 24) w) → (thenE (W77 k77_13 (thenE (W77 k77_10 Q) Q)) (thenE (W77 k77_10 Q) Q)) .normal e w := fun e w h => then_N (s77_13 (R := R) (Q := (thenE (W77 k77_10 Q) Q)) (K1 := K1) hN hX0 e w h)
  exact rgA 7 (fun e w => m77_13 R K1 (e 0) (e 1) (e 8) (e 9) (e 24) w) h hN
theorem s77_8 {R : VP} {Q : EQ} (hN : ∀ e w, (m77_6 R (e 0) (e 8) w) → Q .normal e w) (e : Env) (w : World) (h : m77_8 R (e 0) (e 1) (e 8) (e 9) w) : W77 k77_8 Q e w := by
  unfold m77_8 at h
  refine block_ok 0 (by kernel_rfl) ?_
  have hX0 : ∀ e w, (m77_6 R (e 0) (e 8) w) → (inBlockE 0 Q) (.exit 0) e w := fun e w h => inBlock_same (Q := Q) 0 (hN e w h)
  refine loop_ok' (fun (e : Env) => (e 8, e 9)) [0, 1] (by kernel_rfl) (by kernel_rfl) h (fun K e' w' hk h' => ?_)
  have r0 : e' 0 = e 0 := hk 0 (by decide)
  have r1 : e' 1 = e 1 := hk 1 (by decide)
  have hX0 : ∀ e w, (m77_6 R (e 0) (e 8) w) → (thenE (fun (e : Env) w => K ((e 8), (e 9)) w) (inBlockE 0 Q)) (.exit 0) e w := fun e w h => then_X (hX0 e w h)
  exact s77_9 (R := R) (Q := (thenE (fun (e : Env) w => K ((e 8), (e 9)) w) (inBlockE 0 Q))) (K1 := K) (fun _ _ h => then_N h) hX0 e' w' (by rw [r0, r1]; exact h')
theorem s77_5 {R : VP} {Q : EQ} (hR : ∀ e w, (R (Value.tuple #[(e 4), (e 5), (e 6)]) w) → Q .ret e w) (e : Env) (w : World) (h : m77_5 R (e 0) (e 1) (e 8) w) : W77 k77_5 Q e w := by
  unfold m77_5 at h
  refine seA ?_
  have hN : ∀ e w, (m77_6 R (e 0) (e 8) w) → (thenE (W77 k77_6 Q) Q) .normal e w := fun e w h => then_N (s77_6 (R := R) (Q := Q) hR e w h)
  refine seA ?_
  have hN : ∀ e w, (m77_8 R (e 0) (e 1) (e 8) (e 9) w) → (thenE (W77 k77_8 (thenE (W77 k77_6 Q) Q)) (thenE (W77 k77_6 Q) Q)) .normal e w := fun e w h => then_N (s77_8 (R := R) (Q := (thenE (W77 k77_6 Q) Q)) hN e w h)
  exact rgA 6 (fun e w => m77_8 R (e 0) (e 1) (e 8) (e 9) w) h hN
theorem s77_4 {R : VP} {Q : EQ} (hR : ∀ e w, (R (Value.tuple #[(e 4), (e 5), (e 6)]) w) → Q .ret e w) (e : Env) (w : World) (h : m77_4 R (e 0) (e 1) w) : W77 k77_4 Q e w := by
  unfold m77_4 at h
  refine seA ?_
  have hN : ∀ e w, (m77_5 R (e 0) (e 1) (e 8) w) → (thenE (W77 k77_5 Q) Q) .normal e w := fun e w h => then_N (s77_5 (R := R) (Q := Q) hR e w h)
  exact rgA 5 (fun e w => m77_5 R (e 0) (e 1) (e 8) w) h hN
theorem s77_3 {R : VP} {Q : EQ} (hR : ∀ e w, (R (Value.tuple #[(e 4), (e 5), (e 6)]) w) → Q .ret e w) (e : Env) (w : World) (h : m77_3 R (e 0) (e 1) (e 7) w) : W77 k77_3 Q e w := by
  unfold m77_3 at h
  refine seA ?_
  have hN : ∀ e w, (m77_4 R (e 0) (e 1) w) → (thenE (W77 k77_4 Q) Q) .normal e w := fun e w h => then_N (s77_4 (R := R) (Q := Q) hR e w h)
  exact rgA 4 (fun e w => m77_4 R (e 0) (e 1) w) h hN
theorem s77_14 {R : VP} {Q : EQ} (hN : ∀ e w, (m77_3 R (e 0) (e 1) (e 7) w) → Q .normal e w) (hR : ∀ e w, (R (Value.tuple #[(e 4), (e 5), (e 6)]) w) → Q .ret e w) (e : Env) (w : World) (h : m77_14 R (e 0) (e 1) (e 7) (e 14) w) : W77 k77_14 Q e w := by
  unfold m77_14 at h
  refine coA (Operand.tmp 14) h (fun h1 => ?_) (fun h1 => ?_)
  · refine seA ?_
    have hN : ∀ e w, (m77_15 R (e 4) (e 5) (e 6) w) → (thenE (W77 k77_15 Q) Q) .normal e w := fun e w h => then_N (s77_15 (R := R) (Q := Q) hR e w h)
    exact rgA 3 (fun e w => m77_15 R (e 4) (e 5) (e 6) w) h1 hN
  · exact skA (hN _ _ h1)
theorem s77_2 {R : VP} {Q : EQ} (hR : ∀ e w, (R (Value.tuple #[(e 4), (e 5), (e 6)]) w) → Q .ret e w) (e : Env) (w : World) (h : m77_2 R (e 0) (e 1) (e 7) w) : W77 k77_2 Q e w := by
  unfold m77_2 at h
  refine seA ?_
  have hN : ∀ e w, (m77_3 R (e 0) (e 1) (e 7) w) → (thenE (W77 k77_3 Q) Q) .normal e w := fun e w h => then_N (s77_3 (R := R) (Q := Q) hR e w h)
  have hR : ∀ e w, (R (Value.tuple #[(e 4), (e 5), (e 6)]) w) → (thenE (W77 k77_3 Q) Q) .ret e w := fun e w h => then_R (hR e w h)
  refine seA ?_
  have hN : ∀ e w, (m77_14 R (e 0) (e 1) (e 7) (e 14) w) → (thenE (W77 k77_14 (thenE (W77 k77_3 Q) Q)) (thenE (W77 k77_3 Q) Q)) .normal e w := fun e w h => then_N (s77_14 (R := R) (Q := (thenE (W77 k77_3 Q) Q)) hN hR e w h)
  exact rgA 2 (fun e w => m77_14 R (e 0) (e 1) (e 7) (e 14) w) h hN
theorem s77_1 {R : VP} {Q : EQ} (hR : ∀ e w, (R (Value.tuple #[(e 4), (e 5), (e 6)]) w) → Q .ret e w) (e : Env) (w : World) (h : m77_1 R (e 0) (e 1) w) : W77 k77_1 Q e w := by
  unfold m77_1 at h
  refine seA ?_
  have hN : ∀ e w, (m77_2 R (e 0) (e 1) (e 7) w) → (thenE (W77 k77_2 Q) Q) .normal e w := fun e w h => then_N (s77_2 (R := R) (Q := Q) hR e w h)
  exact rgA 1 (fun e w => m77_2 R (e 0) (e 1) (e 7) w) h hN
theorem s77_0 {R : VP} {Q : EQ} (hR : ∀ e w, (R (Value.tuple #[(e 4), (e 5), (e 6)]) w) → Q .ret e w) (e : Env) (w : World) (h : m77_0 R (e 0) (e 1) w) : W77 k77_0 Q e w := by
  unfold m77_0 at h
  refine seA ?_
  have hN : ∀ e w, (m77_1 R (e 0) (e 1) w) → (thenE (W77 k77_1 Q) Q) .normal e w := fun e w h => then_N (s77_1 (R := R) (Q := Q) hR e w h)
  exact rgA 0 (fun e w => m77_1 R (e 0) (e 1) w) h hN
abbrev m77 (R : VP) (g0 id1 : Value) (w : World) : Prop := m77_0 R g0 id1 w
theorem s77 (g0 id1 : Value) {R : VP} {w : World} (h : m77 R g0 id1 w) :
    Calls Try.prog 77 #[g0, id1] w fun e w' => ∃ v, e = .returned v ∧ R v w' :=
  calls_of_cwp (st := (fun i => 0)) (c := k77_0) (by kernel_rfl) Try.func77 (by kernel_rfl) (Nat.le_of_ble_eq_true (by kernel_rfl)) (by kernel_rfl)
    (s77_0 (R := R) (Q := endE Try.prog Try.f77 R) (fun e w h => kcast (by kernel_rfl) h) (argsE #[g0, id1]) w (kcast (by kernel_rfl) h))
/-! ### (*headgate/headgateref10.Group).Beat -/
def m78_10 (R : VP) (t6 : Value) (w : World) : Prop :=
  R t6 w
def m78_8 (R : VP) (t6 : Value) (w : World) : Prop :=
  R t6 w
def m78_6 (R : VP) (t6 : Value) (w : World) : Prop :=
  R t6 w
def m78_5 (R : VP) (w : World) : Prop :=
  m78_6 R (Value.int IntKind.i64 0) w
def m78_4 (R : VP) (g0 i7 : Value) (w : World) : Prop :=
  callP Try.prog (fnV 95) #[g0, i7] w fun t21 w =>
  m78_5 R w
def m78_7 (R : VP) (g0 i7 t18 : Value) (w : World) : Prop :=
  condP t18
  (m78_8 R (Value.int IntKind.i64 12) w)
  (m78_4 R g0 i7 w)
def m78_3 (R : VP) (g0 gen2 i7 : Value) (w : World) : Prop :=
  nilCheckP g0 fun t15 =>
  valP Try.prog (Instr.fieldAt 86 t15 2) w fun t16 w =>
  valP Try.prog (Instr.loadAt 3 t16) w fun t17 w =>
  valP Try.prog (binS BinOp.neq 3 (Operand.tmp 13) (Operand.tmp 17) gen2 t17) w fun t18 w =>
  m78_7 R g0 i7 t18 w
def m78_9 (R : VP) (g0 gen2 i7 t12 : Value) (w : World) : Prop :=
  condP t12
  (m78_10 R (Value.int IntKind.i64 11) w)
  (m78_3 R g0 gen2 i7 w)
def m78_2 (R : VP) (g0 gen2 i7 : Value) (w : World) : Prop :=
  valP Try.prog (binS BinOp.lss 3 (Operand.tmp 11) (Operand.const (Value.int IntKind.i64 0)) i7 (Value.int IntKind.i64 0)) w fun t12 w =>
  m78_9 R g0 gen2 i7 t12 w
def m78_1 (R : VP) (g0 id1 gen2 : Value) (w : World) : Prop :=
  callP Try.prog (fnV 94) #[g0, id1] w fun t10 w =>
  m78_2 R g0 gen2 t10 w
def m78_0 (R : VP) (g0 id1 gen2 : Value) (w : World) : Prop :=
  m78_1 R g0 id1 gen2 w
abbrev W78 := cwp Try.prog (fun i => 0)
noncomputable def k78_0 : Code := (bodyOf Try.f78)
noncomputable def k78_1 : Code := (c2 k78_0)
noncomputable def k78_2 : Code := (c2 k78_1)
noncomputable def k78_3 : Code := (c2 k78_2)
noncomputable def k78_4 : Code := (c2 k78_3)
noncomputable def k78_5 : Code := (c2 k78_4)
noncomputable def k78_6 : Code := (c2 k78_5)
noncomputable def k78_7 : Code := (c2 (c1 k78_3))
noncomputable def k78_8 : Code := (c2 (c1 k78_7))
noncomputable def k78_9 : Code := (c2 (c1 k78_2))
noncomputable def k78_10 : Code := (c2 (c1 k78_9))
theorem s78_10 {R : VP} {Q : EQ} (hR : ∀ e w, (R (e 6) w) → Q .ret e w) (e : Env) (w : World) (h : m78_10 R (e 6) w) : W78 k78_10 Q e w := by
  unfold m78_10 at h
  exact reA (hR _ _ h)
theorem s78_8 {R : VP} {Q : EQ} (hR : ∀ e w, (R (e 6) w) → Q .ret e w) (e : Env) (w : World) (h : m78_8 R (e 6) w) : W78 k78_8 Q e w := by
  unfold m78_8 at h
  exact reA (hR _ _ h)
theorem s78_6 {R : VP} {Q : EQ} (hR : ∀ e w, (R (e 6) w) → Q .ret e w) (e : Env) (w : World) (h : m78_6 R (e 6) w) : W78 k78_6 Q e w := by
  unfold m78_6 at h
  exact reA (hR _ _ h)
theorem s78_5 {R : VP} {Q : EQ} (hR : ∀ e w, (R (e 6) w) → Q .ret e w) (e : Env) (w : World) (h : m78_5 R w) : W78 k78_5 Q e w := by
  unfold m78_5 at h
  refine seA ?_
  have hN : ∀ e w, (m78_6 R (e 6) w) → (thenE (W78 k78_6 Q) Q) .normal e w := fun e w h => then_N (s78_6 (R := R) (Q := Q) hR e w h)
  exact rgA 7 (fun e w => m78_6 R (e 6) w) h hN
theorem s78_4 {R : VP} {Q : EQ} (hR : ∀ e w, (R (e 6) w) → Q .ret e w) (e : Env) (w : World) (h : m78_4 R (e 0) (e 7) w) : W78 k78_4 Q e w := by
  unfold m78_4 at h
  refine seA ?_
  have hN : ∀ e w, (m78_5 R w) → (thenE (W78 k78_5 Q) Q) .normal e w := fun e w h => then_N (s78_5 (R := R) (Q := Q) hR e w h)
  exact rgA 6 (fun e w => m78_5 R w) h hN
theorem s78_7 {R : VP} {Q : EQ} (hN : ∀ e w, (m78_4 R (e 0) (e 7) w) → Q .normal e w) (hR : ∀ e w, (R (e 6) w) → Q .ret e w) (e : Env) (w : World) (h : m78_7 R (e 0) (e 7) (e 18) w) : W78 k78_7 Q e w := by
  unfold m78_7 at h
  refine coA (Operand.tmp 18) h (fun h1 => ?_) (fun h1 => ?_)
  · refine seA ?_
    have hN : ∀ e w, (m78_8 R (e 6) w) → (thenE (W78 k78_8 Q) Q) .normal e w := fun e w h => then_N (s78_8 (R := R) (Q := Q) hR e w h)
    exact rgA 5 (fun e w => m78_8 R (e 6) w) h1 hN
  · exact skA (hN _ _ h1)
theorem s78_3 {R : VP} {Q : EQ} (hR : ∀ e w, (R (e 6) w) → Q .ret e w) (e : Env) (w : World) (h : m78_3 R (e 0) (e 2) (e 7) w) : W78 k78_3 Q e w := by
  unfold m78_3 at h
  refine seA ?_
  have hN : ∀ e w, (m78_4 R (e 0) (e 7) w) → (thenE (W78 k78_4 Q) Q) .normal e w := fun e w h => then_N (s78_4 (R := R) (Q := Q) hR e w h)
  have hR : ∀ e w, (R (e 6) w) → (thenE (W78 k78_4 Q) Q) .ret e w := fun e w h => then_R (hR e w h)
  refine seA ?_
  have hN : ∀ e w, (m78_7 R (e 0) (e 7) (e 18) w) → (thenE (W78 k78_7 (thenE (W78 k78_4 Q) Q)) (thenE (W78 k78_4 Q) Q)) .normal e w := fun e w h => then_N (s78_7 (R := R) (Q := (thenE (W78 k78_4 Q) Q)) hN hR e w h)
  exact rgA 4 (fun e w => m78_7 R (e 0) (e 7) (e 18) w) h hN
theorem s78_9 {R : VP} {Q : EQ} (hN : ∀ e w, (m78_3 R (e 0) (e 2) (e 7) w) → Q .normal e w) (hR : ∀ e w, (R (e 6) w) → Q .ret e w) (e : Env) (w : World) (h : m78_9 R (e 0) (e 2) (e 7) (e 12) w) : W78 k78_9 Q e w := by
  unfold m78_9 at h
  refine coA (Operand.tmp 12) h (fun h1 => ?_) (fun h1 => ?_)
  · refine seA ?_
    have hN : ∀ e w, (m78_10 R (e 6) w) → (thenE (W78 k78_10 Q) Q) .normal e w := fun e w h => then_N (s78_10 (R := R) (Q := Q) hR e w h)
    exact rgA 3 (fun e w => m78_10 R (e 6) w) h1 hN
  · exact skA (hN _ _ h1)
theorem s78_2 {R : VP} {Q : EQ} (hR : ∀ e w, (R (e 6) w) → Q .ret e w) (e : Env) (w : World) (h : m78_2 R (e 0) (e 2) (e 7) w) : W78 k78_2 Q e w := by
  unfold m78_2 at h
  refine seA ?_
  have hN : ∀ e w, (m78_3 R (e 0) (e 2) (e 7) w) → (thenE (W78 k78_3 Q) Q) .normal e w := fun e w h => then_N (s78_3 (R := R) (Q := Q) hR e w h)
  have hR : ∀ e w, (R (e 6) w) → (thenE (W78 k78_3 Q) Q) .ret e w := fun e w h => then_R (hR e w h)
  refine seA ?_
  have hN : ∀ e w, (m78_9 R (e 0) (e 2) (e 7) (e 12) w) → (thenE (W78 k78_9 (thenE (W78 k78_3 Q) Q)) (thenE (W78 k78_3 Q) Q)) .normal e w := fun e w h => then_N (s78_9 (R := R) (Q := (thenE (W78 k78_3 Q) Q)) hN hR e w h)
  exact rgA 2 (fun e w => m78_9 R (e 0) (e 2) (e 7) (e 12) w) h hN
theorem s78_1 {R : VP} {Q : EQ} (hR : ∀ e w, (R (e 6) w) → Q .ret e w) (e : Env) (w : World) (h : m78_1 R (e 0) (e 1) (e 2) w) : W78 k78_1 Q e w := by
  unfold m78_1 at h
  refine seA ?_
  have hN : ∀ e w, (m78_2 R (e 0) (e 2) (e 7) w) → (thenE (W78 k78_2 Q) Q) .normal e w := fun e w h => then_N (s78_2 (R := R) (Q := Q) hR e w h)
  exact rgA 1 (fun e w => m78_2 R (e 0) (e 2) (e 7) w) h hN
theorem s78_0 {R : VP} {Q : EQ} (hR : ∀ e w, (R (e 6) w) → Q .ret e w) (e : Env) (w : World) (h : m78_0 R (e 0) (e 1) (e 2) w) : W78 k78_0 Q e w := by
  unfold m78_0 at h
  refine seA ?_
  have hN : ∀ e w, (m78_1 R (e 0) (e 1) (e 2) w) → (thenE (W78 k78_1 Q) Q) .normal e w := fun e w h => then_N (s78_1 (R := R) (Q := Q) hR e w h)
  exact rgA 0 (fun e w => m78_1 R (e 0) (e 1) (e 2) w) h hN
abbrev m78 (R : VP) (g0 id1 gen2 : Value) (w : World) : Prop := m78_0 R g0 id1 gen2 w
theorem s78 (g0 id1 gen2 : Value) {R : VP} {w : World} (h : m78 R g0 id1 gen2 w) :
    Calls Try.prog 78 #[g0, id1, gen2] w fun e w' => ∃ v, e = .returned v ∧ R v w' :=
  calls_of_cwp (st := (fun i => 0)) (c := k78_0) (by kernel_rfl) Try.func78 (by kernel_rfl) (Nat.le_of_ble_eq_true (by kernel_rfl)) (by kernel_rfl)
    (s78_0 (R := R) (Q := endE Try.prog Try.f78 R) (fun e w h => kcast (by kernel_rfl) h) (argsE #[g0, id1, gen2]) w (kcast (by kernel_rfl) h))
/-! ### (*headgate/headgateref10.Group).Leave -/
def m79_14 (R : VP) (t4 : Value) (w : World) : Prop :=
  R t4 w
def m79_12 (R : VP) (t4 : Value) (w : World) : Prop :=
  R t4 w
def m79_10 (R : VP) (t4 : Value) (w : World) : Prop :=
  R t4 w
def m79_9 (R : VP) (w : World) : Prop :=
  m79_10 R (Value.int IntKind.i64 0) w
def m79_8 (R : VP) (g0 : Value) (w : World) : Prop :=
  callP Try.prog (fnV 93) #[g0] w fun t39 w =>
  m79_9 R w
def m79_7 (R : VP) (g0 l6 : Value) (w : World) : Prop :=
  nilCheckP g0 fun t36 =>
  valP Try.prog (Instr.fieldAt 86 t36 5) w fun t37 w =>
  unitP Try.prog (Instr.storeAt 66 t37 l6) w fun _ w =>
  m79_8 R g0 w
def m79_6 (R : VP) (g0 i5 l6 : Value) (w : World) : Prop :=
  nilCheckP g0 fun t27 =>
  valP Try.prog (Instr.fieldAt 86 t27 5) w fun t28 w =>
  valP Try.prog (Instr.loadAt 66 t28) w fun t29 w =>
  valP Try.prog (binS BinOp.add 3 (Operand.tmp 30) (Operand.const (Value.int IntKind.i64 1)) i5 (Value.int IntKind.i64 1)) w fun t31 w =>
  valP Try.prog (Instr.sliceAt 66 t29 (some t31) none none) w fun t32 w =>
  builtinP Try.prog Builtin.append #[66, 66] 66 #[false, false] #[l6, t32] w fun t33 w =>
  m79_7 R g0 t33 w
def m79_5 (R : VP) (g0 i5 l6 : Value) (w : World) : Prop :=
  nilCheckP g0 fun t19 =>
  valP Try.prog (Instr.fieldAt 86 t19 5) w fun t20 w =>
  valP Try.prog (Instr.loadAt 66 t20) w fun t21 w =>
  valP Try.prog (Instr.sliceAt 66 t21 none (some i5) none) w fun t23 w =>
  builtinP Try.prog Builtin.append #[66, 66] 66 #[false, false] #[l6, t23] w fun t24 w =>
  m79_6 R g0 i5 t24 w
def m79_4 (R : VP) (g0 i5 : Value) (w : World) : Prop :=
  m79_5 R g0 i5 (Value.slice none 0 0) w
def m79_11 (R : VP) (g0 i5 t16 : Value) (w : World) : Prop :=
  condP t16
  (m79_12 R (Value.int IntKind.i64 6) w)
  (m79_4 R g0 i5 w)
def m79_3 (R : VP) (g0 i5 : Value) (w : World) : Prop :=
  nilCheckP g0 fun t13 =>
  valP Try.prog (Instr.fieldAt 86 t13 2) w fun t14 w =>
  valP Try.prog (Instr.loadAt 3 t14) w fun t15 w =>
  valP Try.prog (binS BinOp.geq 3 (Operand.tmp 15) (Operand.const (Value.int IntKind.i64 1099511627776)) t15 (Value.int IntKind.i64 1099511627776)) w fun t16 w =>
  m79_11 R g0 i5 t16 w
def m79_13 (R : VP) (g0 i5 t11 : Value) (w : World) : Prop :=
  condP t11
  (m79_14 R (Value.int IntKind.i64 11) w)
  (m79_3 R g0 i5 w)
def m79_2 (R : VP) (g0 i5 : Value) (w : World) : Prop :=
  valP Try.prog (binS BinOp.lss 3 (Operand.tmp 10) (Operand.const (Value.int IntKind.i64 0)) i5 (Value.int IntKind.i64 0)) w fun t11 w =>
  m79_13 R g0 i5 t11 w
def m79_1 (R : VP) (g0 id1 : Value) (w : World) : Prop :=
  callP Try.prog (fnV 94) #[g0, id1] w fun t9 w =>
  m79_2 R g0 t9 w
def m79_0 (R : VP) (g0 id1 : Value) (w : World) : Prop :=
  m79_1 R g0 id1 w
abbrev W79 := cwp Try.prog (fun i => 0)
noncomputable def k79_0 : Code := (bodyOf Try.f79)
noncomputable def k79_1 : Code := (c2 k79_0)
noncomputable def k79_2 : Code := (c2 k79_1)
noncomputable def k79_3 : Code := (c2 k79_2)
noncomputable def k79_4 : Code := (c2 k79_3)
noncomputable def k79_5 : Code := (c2 k79_4)
noncomputable def k79_6 : Code := (c2 k79_5)
noncomputable def k79_7 : Code := (c2 k79_6)
noncomputable def k79_8 : Code := (c2 k79_7)
noncomputable def k79_9 : Code := (c2 k79_8)
noncomputable def k79_10 : Code := (c2 k79_9)
noncomputable def k79_11 : Code := (c2 (c1 k79_3))
noncomputable def k79_12 : Code := (c2 (c1 k79_11))
noncomputable def k79_13 : Code := (c2 (c1 k79_2))
noncomputable def k79_14 : Code := (c2 (c1 k79_13))
theorem s79_14 {R : VP} {Q : EQ} (hR : ∀ e w, (R (e 4) w) → Q .ret e w) (e : Env) (w : World) (h : m79_14 R (e 4) w) : W79 k79_14 Q e w := by
  unfold m79_14 at h
  exact reA (hR _ _ h)
theorem s79_12 {R : VP} {Q : EQ} (hR : ∀ e w, (R (e 4) w) → Q .ret e w) (e : Env) (w : World) (h : m79_12 R (e 4) w) : W79 k79_12 Q e w := by
  unfold m79_12 at h
  exact reA (hR _ _ h)
theorem s79_10 {R : VP} {Q : EQ} (hR : ∀ e w, (R (e 4) w) → Q .ret e w) (e : Env) (w : World) (h : m79_10 R (e 4) w) : W79 k79_10 Q e w := by
  unfold m79_10 at h
  exact reA (hR _ _ h)
theorem s79_9 {R : VP} {Q : EQ} (hR : ∀ e w, (R (e 4) w) → Q .ret e w) (e : Env) (w : World) (h : m79_9 R w) : W79 k79_9 Q e w := by
  unfold m79_9 at h
  refine seA ?_
  have hN : ∀ e w, (m79_10 R (e 4) w) → (thenE (W79 k79_10 Q) Q) .normal e w := fun e w h => then_N (s79_10 (R := R) (Q := Q) hR e w h)
  exact rgA 11 (fun e w => m79_10 R (e 4) w) h hN
theorem s79_8 {R : VP} {Q : EQ} (hR : ∀ e w, (R (e 4) w) → Q .ret e w) (e : Env) (w : World) (h : m79_8 R (e 0) w) : W79 k79_8 Q e w := by
  unfold m79_8 at h
  refine seA ?_
  have hN : ∀ e w, (m79_9 R w) → (thenE (W79 k79_9 Q) Q) .normal e w := fun e w h => then_N (s79_9 (R := R) (Q := Q) hR e w h)
  exact rgA 10 (fun e w => m79_9 R w) h hN
theorem s79_7 {R : VP} {Q : EQ} (hR : ∀ e w, (R (e 4) w) → Q .ret e w) (e : Env) (w : World) (h : m79_7 R (e 0) (e 6) w) : W79 k79_7 Q e w := by
  unfold m79_7 at h
  refine seA ?_
  have hN : ∀ e w, (m79_8 R (e 0) w) → (thenE (W79 k79_8 Q) Q) .normal e w := fun e w h => then_N (s79_8 (R := R) (Q := Q) hR e w h)
  exact rgA 9 (fun e w => m79_8 R (e 0) w) h hN
theorem s79_6 {R : VP} {Q : EQ} (hR : ∀ e w, (R (e 4) w) → Q .ret e w) (e : Env) (w : World) (h : m79_6 R (e 0) (e 5) (e 6) w) : W79 k79_6 Q e w := by
  unfold m79_6 at h
  refine seA ?_
  have hN : ∀ e w, (m79_7 R (e 0) (e 6) w) → (thenE (W79 k79_7 Q) Q) .normal e w := fun e w h => then_N (s79_7 (R := R) (Q := Q) hR e w h)
  exact rgA 8 (fun e w => m79_7 R (e 0) (e 6) w) h hN
theorem s79_5 {R : VP} {Q : EQ} (hR : ∀ e w, (R (e 4) w) → Q .ret e w) (e : Env) (w : World) (h : m79_5 R (e 0) (e 5) (e 6) w) : W79 k79_5 Q e w := by
  unfold m79_5 at h
  refine seA ?_
  have hN : ∀ e w, (m79_6 R (e 0) (e 5) (e 6) w) → (thenE (W79 k79_6 Q) Q) .normal e w := fun e w h => then_N (s79_6 (R := R) (Q := Q) hR e w h)
  exact rgA 7 (fun e w => m79_6 R (e 0) (e 5) (e 6) w) h hN
theorem s79_4 {R : VP} {Q : EQ} (hR : ∀ e w, (R (e 4) w) → Q .ret e w) (e : Env) (w : World) (h : m79_4 R (e 0) (e 5) w) : W79 k79_4 Q e w := by
  unfold m79_4 at h
  refine seA ?_
  have hN : ∀ e w, (m79_5 R (e 0) (e 5) (e 6) w) → (thenE (W79 k79_5 Q) Q) .normal e w := fun e w h => then_N (s79_5 (R := R) (Q := Q) hR e w h)
  exact rgA 6 (fun e w => m79_5 R (e 0) (e 5) (e 6) w) h hN
theorem s79_11 {R : VP} {Q : EQ} (hN : ∀ e w, (m79_4 R (e 0) (e 5) w) → Q .normal e w) (hR : ∀ e w, (R (e 4) w) → Q .ret e w) (e : Env) (w : World) (h : m79_11 R (e 0) (e 5) (e 16) w) : W79 k79_11 Q e w := by
  unfold m79_11 at h
  refine coA (Operand.tmp 16) h (fun h1 => ?_) (fun h1 => ?_)
  · refine seA ?_
    have hN : ∀ e w, (m79_12 R (e 4) w) → (thenE (W79 k79_12 Q) Q) .normal e w := fun e w h => then_N (s79_12 (R := R) (Q := Q) hR e w h)
    exact rgA 5 (fun e w => m79_12 R (e 4) w) h1 hN
  · exact skA (hN _ _ h1)
theorem s79_3 {R : VP} {Q : EQ} (hR : ∀ e w, (R (e 4) w) → Q .ret e w) (e : Env) (w : World) (h : m79_3 R (e 0) (e 5) w) : W79 k79_3 Q e w := by
  unfold m79_3 at h
  refine seA ?_
  have hN : ∀ e w, (m79_4 R (e 0) (e 5) w) → (thenE (W79 k79_4 Q) Q) .normal e w := fun e w h => then_N (s79_4 (R := R) (Q := Q) hR e w h)
  have hR : ∀ e w, (R (e 4) w) → (thenE (W79 k79_4 Q) Q) .ret e w := fun e w h => then_R (hR e w h)
  refine seA ?_
  have hN : ∀ e w, (m79_11 R (e 0) (e 5) (e 16) w) → (thenE (W79 k79_11 (thenE (W79 k79_4 Q) Q)) (thenE (W79 k79_4 Q) Q)) .normal e w := fun e w h => then_N (s79_11 (R := R) (Q := (thenE (W79 k79_4 Q) Q)) hN hR e w h)
  exact rgA 4 (fun e w => m79_11 R (e 0) (e 5) (e 16) w) h hN
theorem s79_13 {R : VP} {Q : EQ} (hN : ∀ e w, (m79_3 R (e 0) (e 5) w) → Q .normal e w) (hR : ∀ e w, (R (e 4) w) → Q .ret e w) (e : Env) (w : World) (h : m79_13 R (e 0) (e 5) (e 11) w) : W79 k79_13 Q e w := by
  unfold m79_13 at h
  refine coA (Operand.tmp 11) h (fun h1 => ?_) (fun h1 => ?_)
  · refine seA ?_
    have hN : ∀ e w, (m79_14 R (e 4) w) → (thenE (W79 k79_14 Q) Q) .normal e w := fun e w h => then_N (s79_14 (R := R) (Q := Q) hR e w h)
    exact rgA 3 (fun e w => m79_14 R (e 4) w) h1 hN
  · exact skA (hN _ _ h1)
theorem s79_2 {R : VP} {Q : EQ} (hR : ∀ e w, (R (e 4) w) → Q .ret e w) (e : Env) (w : World) (h : m79_2 R (e 0) (e 5) w) : W79 k79_2 Q e w := by
  unfold m79_2 at h
  refine seA ?_
  have hN : ∀ e w, (m79_3 R (e 0) (e 5) w) → (thenE (W79 k79_3 Q) Q) .normal e w := fun e w h => then_N (s79_3 (R := R) (Q := Q) hR e w h)
  have hR : ∀ e w, (R (e 4) w) → (thenE (W79 k79_3 Q) Q) .ret e w := fun e w h => then_R (hR e w h)
  refine seA ?_
  have hN : ∀ e w, (m79_13 R (e 0) (e 5) (e 11) w) → (thenE (W79 k79_13 (thenE (W79 k79_3 Q) Q)) (thenE (W79 k79_3 Q) Q)) .normal e w := fun e w h => then_N (s79_13 (R := R) (Q := (thenE (W79 k79_3 Q) Q)) hN hR e w h)
  exact rgA 2 (fun e w => m79_13 R (e 0) (e 5) (e 11) w) h hN
theorem s79_1 {R : VP} {Q : EQ} (hR : ∀ e w, (R (e 4) w) → Q .ret e w) (e : Env) (w : World) (h : m79_1 R (e 0) (e 1) w) : W79 k79_1 Q e w := by
  unfold m79_1 at h
  refine seA ?_
  have hN : ∀ e w, (m79_2 R (e 0) (e 5) w) → (thenE (W79 k79_2 Q) Q) .normal e w := fun e w h => then_N (s79_2 (R := R) (Q := Q) hR e w h)
  exact rgA 1 (fun e w => m79_2 R (e 0) (e 5) w) h hN
theorem s79_0 {R : VP} {Q : EQ} (hR : ∀ e w, (R (e 4) w) → Q .ret e w) (e : Env) (w : World) (h : m79_0 R (e 0) (e 1) w) : W79 k79_0 Q e w := by
  unfold m79_0 at h
  refine seA ?_
  have hN : ∀ e w, (m79_1 R (e 0) (e 1) w) → (thenE (W79 k79_1 Q) Q) .normal e w := fun e w h => then_N (s79_1 (R := R) (Q := Q) hR e w h)
  exact rgA 0 (fun e w => m79_1 R (e 0) (e 1) w) h hN
abbrev m79 (R : VP) (g0 id1 : Value) (w : World) : Prop := m79_0 R g0 id1 w
theorem s79 (g0 id1 : Value) {R : VP} {w : World} (h : m79 R g0 id1 w) :
    Calls Try.prog 79 #[g0, id1] w fun e w' => ∃ v, e = .returned v ∧ R v w' :=
  calls_of_cwp (st := (fun i => 0)) (c := k79_0) (by kernel_rfl) Try.func79 (by kernel_rfl) (Nat.le_of_ble_eq_true (by kernel_rfl)) (by kernel_rfl)
    (s79_0 (R := R) (Q := endE Try.prog Try.f79 R) (fun e w h => kcast (by kernel_rfl) h) (argsE #[g0, id1]) w (kcast (by kernel_rfl) h))
/-! ### (*headgate/headgateref10.Group).Tick -/
def m80_19 (R : VP) (t2 : Value) (w : World) : Prop :=
  R t2 w
def m80_15 (R : VP) (K1 : (Value × Value) → World → Prop) (g0 l3 i4 : Value) (w : World) : Prop :=
  valP Try.prog (binS BinOp.add 3 (Operand.tmp 25) (Operand.const (Value.int IntKind.i64 1)) i4 (Value.int IntKind.i64 1)) w fun t26 w =>
  K1 (l3, t26) w
def m80_16 (R : VP) (K1 : (Value × Value) → World → Prop) (g0 l3 i4 t39 : Value) (w : World) : Prop :=
  condP t39
  (nilCheckP g0 fun t42 =>
  valP Try.prog (Instr.fieldAt 86 t42 5) w fun t43 w =>
  valP Try.prog (Instr.loadAt 66 t43) w fun t44 w =>
  valP Try.prog (Instr.indexAt 66 t44 i4) w fun t46 w =>
  valP Try.prog (Instr.loadAt 69 t46) w fun t47 w =>
  valP Try.prog (Instr.buildSlice 66 1 #[(0, t47)]) w fun t48 w =>
  builtinP Try.prog Builtin.append #[66, 66] 66 #[false, false] #[l3, t48] w fun t49 w =>
  m80_15 R K1 g0 t49 i4 w)
  (m80_15 R K1 g0 l3 i4 w)
def m80_14 (R : VP) (K1 : (Value × Value) → World → Prop) (g0 l3 i4 : Value) (w : World) : Prop :=
  nilCheckP g0 fun t28 =>
  valQ Try.prog (Instr.fieldAt 86 t28 5) w fun t29 =>
  valQ Try.prog (Instr.loadAt 66 t29) w fun t30 =>
  valQ Try.prog (Instr.indexAt 66 t30 i4) w fun t32 =>
  valQ Try.prog (Instr.fieldAt 69 t32 2) w fun t33 =>
  valQ Try.prog (Instr.loadAt 3 t33) w fun t34 =>
  nilCheckP g0 fun t36 =>
  valQ Try.prog (Instr.fieldAt 86 t36 4) w fun t37 =>
  valQ Try.prog (Instr.loadAt 3 t37) w fun t38 =>
  valQ Try.prog (binS BinOp.gtr 3 (Operand.tmp 34) (Operand.tmp 38) t34 t38) w fun t39 =>
  anyDraw w fun w =>
  m80_16 R K1 g0 l3 i4 t39 w
def m80_11 (R : VP) (t2 : Value) (w : World) : Prop :=
  R t2 w
def m80_9 (R : VP) (t2 : Value) (w : World) : Prop :=
  R t2 w
def m80_8 (R : VP) (w : World) : Prop :=
  m80_9 R (Value.bool true) w
def m80_7 (R : VP) (g0 : Value) (w : World) : Prop :=
  callP Try.prog (fnV 93) #[g0] w fun t63 w =>
  m80_8 R w
def m80_6 (R : VP) (g0 l3 : Value) (w : World) : Prop :=
  nilCheckP g0 fun t60 =>
  valP Try.prog (Instr.fieldAt 86 t60 5) w fun t61 w =>
  unitP Try.prog (Instr.storeAt 66 t61 l3) w fun _ w =>
  m80_7 R g0 w
def m80_10 (R : VP) (g0 l3 t57 : Value) (w : World) : Prop :=
  condP t57
  (m80_11 R (Value.bool false) w)
  (m80_6 R g0 l3 w)
def m80_5 (R : VP) (g0 l3 : Value) (w : World) : Prop :=
  builtinP Try.prog Builtin.len #[66] 3 #[false] #[l3] w fun t51 w =>
  nilCheckP g0 fun t53 =>
  valP Try.prog (Instr.fieldAt 86 t53 5) w fun t54 w =>
  valP Try.prog (Instr.loadAt 66 t54) w fun t55 w =>
  builtinP Try.prog Builtin.len #[66] 3 #[false] #[t55] w fun t56 w =>
  valP Try.prog (binS BinOp.eql 3 (Operand.tmp 51) (Operand.tmp 56) t51 t56) w fun t57 w =>
  m80_10 R g0 l3 t57 w
def m80_17 (R : VP) (K1 : (Value × Value) → World → Prop) (g0 l3 i4 t24 : Value) (w : World) : Prop :=
  condP t24
  (m80_14 R K1 g0 l3 i4 w)
  (m80_5 R g0 l3 w)
def m80_13 (R : VP) (K1 : (Value × Value) → World → Prop) (g0 l3 i4 : Value) (w : World) : Prop :=
  nilCheckP g0 fun t20 =>
  valP Try.prog (Instr.fieldAt 86 t20 5) w fun t21 w =>
  valP Try.prog (Instr.loadAt 66 t21) w fun t22 w =>
  builtinP Try.prog Builtin.len #[66] 3 #[false] #[t22] w fun t23 w =>
  valP Try.prog (binS BinOp.lss 3 (Operand.tmp 18) (Operand.tmp 23) i4 t23) w fun t24 w =>
  m80_17 R K1 g0 l3 i4 t24 w
def m80_12 (R : VP) (g0 l3 i4 : Value) (w : World) : Prop :=
  loopP (fun (K1 : (Value × Value) → World → Prop) (s : Value × Value) w => m80_13 R K1 g0 s.1 s.2 w) (l3, i4) w
def m80_4 (R : VP) (g0 l3 : Value) (w : World) : Prop :=
  m80_12 R g0 l3 (Value.int IntKind.i64 0) w
def m80_3 (R : VP) (g0 : Value) (w : World) : Prop :=
  m80_4 R g0 (Value.slice none 0 0) w
def m80_18 (R : VP) (g0 t17 : Value) (w : World) : Prop :=
  condP t17
  (m80_19 R (Value.bool false) w)
  (m80_3 R g0 w)
def m80_2 (R : VP) (g0 : Value) (w : World) : Prop :=
  nilCheckP g0 fun t14 =>
  valP Try.prog (Instr.fieldAt 86 t14 2) w fun t15 w =>
  valP Try.prog (Instr.loadAt 3 t15) w fun t16 w =>
  valP Try.prog (binS BinOp.geq 3 (Operand.tmp 16) (Operand.const (Value.int IntKind.i64 1099511627776)) t16 (Value.int IntKind.i64 1099511627776)) w fun t17 w =>
  m80_18 R g0 t17 w
def m80_1 (R : VP) (g0 : Value) (w : World) : Prop :=
  nilCheckP g0 fun t7 =>
  valP Try.prog (Instr.fieldAt 86 t7 4) w fun t8 w =>
  valP Try.prog (Instr.loadAt 3 t8) w fun t9 w =>
  valP Try.prog (binS BinOp.add 3 (Operand.tmp 9) (Operand.const (Value.int IntKind.i64 1)) t9 (Value.int IntKind.i64 1)) w fun t10 w =>
  nilCheckP g0 fun t11 =>
  valP Try.prog (Instr.fieldAt 86 t11 4) w fun t12 w =>
  unitP Try.prog (Instr.storeAt 3 t12 t10) w fun _ w =>
  m80_2 R g0 w
def m80_0 (R : VP) (g0 : Value) (w : World) : Prop :=
  m80_1 R g0 w
abbrev W80 := cwp Try.prog (fun i => cond (Nat.beq i 8) 1 (0))
noncomputable def k80_0 : Code := (bodyOf Try.f80)
noncomputable def k80_1 : Code := (c2 k80_0)
noncomputable def k80_2 : Code := (c2 k80_1)
noncomputable def k80_3 : Code := (c2 k80_2)
noncomputable def k80_4 : Code := (c2 k80_3)
noncomputable def k80_5 : Code := (c2 k80_4)
noncomputable def k80_6 : Code := (c2 k80_5)
noncomputable def k80_7 : Code := (c2 k80_6)
noncomputable def k80_8 : Code := (c2 k80_7)
noncomputable def k80_9 : Code := (c2 k80_8)
noncomputable def k80_10 : Code := (c2 (c1 k80_5))
noncomputable def k80_11 : Code := (c2 (c1 k80_10))
noncomputable def k80_12 : Code := (c2 (c1 k80_4))
noncomputable def k80_13 : Code := (c1 (c1 k80_12))
noncomputable def k80_14 : Code := (c2 k80_13)
noncomputable def k80_15 : Code := (c2 k80_14)
noncomputable def k80_16 : Code := (c2 (c1 (c1 k80_14)))
noncomputable def k80_17 : Code := (c2 (c1 k80_13))
noncomputable def k80_18 : Code := (c2 (c1 k80_2))
noncomputable def k80_19 : Code := (c2 (c1 k80_18))
theorem s80_19 {R : VP} {Q : EQ} (hR : ∀ e w, (R (e 2) w) → Q .ret e w) (e : Env) (w : World) (h : m80_19 R (e 2) w) : W80 k80_19 Q e w := by
  unfold m80_19 at h
  exact reA (hR _ _ h)
theorem s80_15 {R : VP} {K1 : (Value × Value) → World → Prop} {Q : EQ} (hN : ∀ e w, (K1 ((e 3), (e 4)) w) → Q .normal e w) (e : Env) (w : World) (h : m80_15 R K1 (e 0) (e 3) (e 4) w) : W80 k80_15 Q e w := by
  unfold m80_15 at h
  exact rgA 7 (fun e w => K1 ((e 3), (e 4)) w) h hN
theorem s80_16 {R : VP} {K1 : (Value × Value) → World → Prop} {Q : EQ} (hN : ∀ e w, (m80_15 R K1 (e 0) (e 3) (e 4) w) → Q .normal e w) (e : Env) (w : World) (h : m80_16 R K1 (e 0) (e 3) (e 4) (e 39) w) : W80 k80_16 Q e w := by
  unfold m80_16 at h
  refine coA (Operand.tmp 39) h (fun h1 => ?_) (fun h1 => ?_)
  · exact rgA 9 (fun e w => m80_15 R K1 (e 0) (e 3) (e 4) w) h1 hN
  · exact skA (hN _ _ h1)
theorem s80_14 {R : VP} {K1 : (Value × Value) → World → Prop} {Q : EQ} (hN : ∀ e w, (K1 ((e 3), (e 4)) w) → Q .normal e w) (e : Env) (w : World) (h : m80_14 R K1 (e 0) (e 3) (e 4) w) : W80 k80_14 Q e w := by
  unfold m80_14 at h
  refine seA ?_
  have hN : ∀ e w, (m80_15 R K1 (e 0) (e 3) (e 4) w) → (thenE (W80 k80_15 Q) Q) .normal e w := fun e w h => then_N (s80_15 (R := R) (Q := Q) (K1 := K1) hN e w h)
  refine block_ok 1 (by kernel_rfl) ?_
  have hN : ∀ e w, (m80_15 R K1 (e 0) (e 3) (e 4) w) → (inBlockE 1 (thenE (W80 k80_15 Q) Q)) .normal e w := fun e w h => block_N (hN e w h)
  refine seA ?_
  have hN : ∀ e w, (m80_16 R K1 (e 0) (e 3) (e 4) (e 39) w) → (thenE (W80 k80_16 (inBlockE 1 (thenE (W80 k80_15 Q) Q))) (inBlockE 1 (thenE (W80 k80_15 Q) Q))) .normal e w := fun e w h => then_N (s80_16 (R := R) (Q := (inBlockE 1 (thenE (W80 k80_15 Q) Q))) (K1 := K1) hN e w h)
  exact quA 8 (fun e w => m80_16 R K1 (e 0) (e 3) (e 4) (e 39) w) h hN
theorem s80_11 {R : VP} {Q : EQ} (hR : ∀ e w, (R (e 2) w) → Q .ret e w) (e : Env) (w : World) (h : m80_11 R (e 2) w) : W80 k80_11 Q e w := by
  unfold m80_11 at h
  exact reA (hR _ _ h)
theorem s80_9 {R : VP} {Q : EQ} (hR : ∀ e w, (R (e 2) w) → Q .ret e w) (e : Env) (w : World) (h : m80_9 R (e 2) w) : W80 k80_9 Q e w := by
  unfold m80_9 at h
  exact reA (hR _ _ h)
theorem s80_8 {R : VP} {Q : EQ} (hR : ∀ e w, (R (e 2) w) → Q .ret e w) (e : Env) (w : World) (h : m80_8 R w) : W80 k80_8 Q e w := by
  unfold m80_8 at h
  refine seA ?_
  have hN : ∀ e w, (m80_9 R (e 2) w) → (thenE (W80 k80_9 Q) Q) .normal e w := fun e w h => then_N (s80_9 (R := R) (Q := Q) hR e w h)
  exact rgA 14 (fun e w => m80_9 R (e 2) w) h hN
theorem s80_7 {R : VP} {Q : EQ} (hR : ∀ e w, (R (e 2) w) → Q .ret e w) (e : Env) (w : World) (h : m80_7 R (e 0) w) : W80 k80_7 Q e w := by
  unfold m80_7 at h
  refine seA ?_
  have hN : ∀ e w, (m80_8 R w) → (thenE (W80 k80_8 Q) Q) .normal e w := fun e w h => then_N (s80_8 (R := R) (Q := Q) hR e w h)
  exact rgA 13 (fun e w => m80_8 R w) h hN
theorem s80_6 {R : VP} {Q : EQ} (hR : ∀ e w, (R (e 2) w) → Q .ret e w) (e : Env) (w : World) (h : m80_6 R (e 0) (e 3) w) : W80 k80_6 Q e w := by
  unfold m80_6 at h
  refine seA ?_
  have hN : ∀ e w, (m80_7 R (e 0) w) → (thenE (W80 k80_7 Q) Q) .normal e w := fun e w h => then_N (s80_7 (R := R) (Q := Q) hR e w h)
  exact rgA 12 (fun e w => m80_7 R (e 0) w) h hN
theorem s80_10 {R : VP} {Q : EQ} (hN : ∀ e w, (m80_6 R (e 0) (e 3) w) → Q .normal e w) (hR : ∀ e w, (R (e 2) w) → Q .ret e w) (e : Env) (w : World) (h : m80_10 R (e 0) (e 3) (e 57) w) : W80 k80_10 Q e w := by
  unfold m80_10 at h
  refine coA (Operand.tmp 57) h (fun h1 => ?_) (fun h1 => ?_)
  · refine seA ?_
    have hN : ∀ e w, (m80_11 R (e 2) w) → (thenE (W80 k80_11 Q) Q) .normal e w := fun e w h => then_N (s80_11 (R := R) (Q := Q) hR e w h)
    exact rgA 11 (fun e w => m80_11 R (e 2) w) h1 hN
  · exact skA (hN _ _ h1)
theorem s80_5 {R : VP} {Q : EQ} (hR : ∀ e w, (R (e 2) w) → Q .ret e w) (e : Env) (w : World) (h : m80_5 R (e 0) (e 3) w) : W80 k80_5 Q e w := by
  unfold m80_5 at h
  refine seA ?_
  have hN : ∀ e w, (m80_6 R (e 0) (e 3) w) → (thenE (W80 k80_6 Q) Q) .normal e w := fun e w h => then_N (s80_6 (R := R) (Q := Q) hR e w h)
  have hR : ∀ e w, (R (e 2) w) → (thenE (W80 k80_6 Q) Q) .ret e w := fun e w h => then_R (hR e w h)
  refine seA ?_
  have hN : ∀ e w, (m80_10 R (e 0) (e 3) (e 57) w) → (thenE (W80 k80_10 (thenE (W80 k80_6 Q) Q)) (thenE (W80 k80_6 Q) Q)) .normal e w := fun e w h => then_N (s80_10 (R := R) (Q := (thenE (W80 k80_6 Q) Q)) hN hR e w h)
  exact rgA 10 (fun e w => m80_10 R (e 0) (e 3) (e 57) w) h hN
theorem s80_17 {R : VP} {K1 : (Value × Value) → World → Prop} {Q : EQ} (hN : ∀ e w, (m80_14 R K1 (e 0) (e 3) (e 4) w) → Q .normal e w) (hX0 : ∀ e w, (m80_5 R (e 0) (e 3) w) → Q (.exit 0) e w) (e : Env) (w : World) (h : m80_17 R K1 (e 0) (e 3) (e 4) (e 24) w) : W80 k80_17 Q e w := by
  unfold m80_17 at h
  refine coA (Operand.tmp 24) h (fun h1 => ?_) (fun h1 => ?_)
  · exact skA (hN _ _ h1)
  · exact exA 0 (hX0 _ _ h1)
theorem s80_13 {R : VP} {K1 : (Value × Value) → World → Prop} {Q : EQ} (hN : ∀ e w, (K1 ((e 3), (e 4)) w) → Q .normal e w) (hX0 : ∀ e w, (m80_5 R (e 0) (e 3) w) → Q (.exit 0) e w) (e : Env) (w : World) (h : m80_13 R K1 (e 0) (e 3) (e 4) w) : W80 k80_13 Q e w := by
  unfold m80_13 at h
  refine seA ?_
  have hN : ∀ e w, (m80_14 R K1 (e 0) (e 3) (e 4) w) → (thenE (W80 k80_14 Q) Q) .normal e w := fun e w h => then_N (s80_14 (R := R) (Q := Q) (K1 := K1) hN e w h)
  have hX0 : ∀ e w, (m80_5 R (e 0) (e 3) w) → (thenE (W80 k80_14 Q) Q) (.exit 0) e w := fun e w h => then_X (hX0 e w h)
  refine seA ?_
  have hN : ∀ e w, (m80_17 R K1 (e 0) (e 3) (e 4) (e 24) w) → (thenE (W80 k80_17 (thenE (W80 k80_14 Q) Q)) (thenE (W80 k80_14 Q) Q)) .normal e w := fun e w h => then_N (s80_17 (R := R) (Q := (thenE (W80 k80_14 Q) Q)) (K1 := K1) hN hX0 e w h)
  exact rgA 6 (fun e w => m80_17 R K1 (e 0) (e 3) (e 4) (e 24) w) h hN
theorem s80_12 {R : VP} {Q : EQ} (hN : ∀ e w, (m80_5 R (e 0) (e 3) w) → Q .normal e w) (e : Env) (w : World) (h : m80_12 R (e 0) (e 3) (e 4) w) : W80 k80_12 Q e w := by
  unfold m80_12 at h
  refine block_ok 0 (by kernel_rfl) ?_
  have hX0 : ∀ e w, (m80_5 R (e 0) (e 3) w) → (inBlockE 0 Q) (.exit 0) e w := fun e w h => inBlock_same (Q := Q) 0 (hN e w h)
  refine loop_ok' (fun (e : Env) => (e 3, e 4)) [0] (by kernel_rfl) (by kernel_rfl) h (fun K e' w' hk h' => ?_)
  have r0 : e' 0 = e 0 := hk 0 (by decide)
  have hX0 : ∀ e w, (m80_5 R (e 0) (e 3) w) → (thenE (fun (e : Env) w => K ((e 3), (e 4)) w) (inBlockE 0 Q)) (.exit 0) e w := fun e w h => then_X (hX0 e w h)
  exact s80_13 (R := R) (Q := (thenE (fun (e : Env) w => K ((e 3), (e 4)) w) (inBlockE 0 Q))) (K1 := K) (fun _ _ h => then_N h) hX0 e' w' (by rw [r0]; exact h')
theorem s80_4 {R : VP} {Q : EQ} (hR : ∀ e w, (R (e 2) w) → Q .ret e w) (e : Env) (w : World) (h : m80_4 R (e 0) (e 3) w) : W80 k80_4 Q e w := by
  unfold m80_4 at h
  refine seA ?_
  have hN : ∀ e w, (m80_5 R (e 0) (e 3) w) → (thenE (W80 k80_5 Q) Q) .normal e w := fun e w h => then_N (s80_5 (R := R) (Q := Q) hR e w h)
  refine seA ?_
  have hN : ∀ e w, (m80_12 R (e 0) (e 3) (e 4) w) → (thenE (W80 k80_12 (thenE (W80 k80_5 Q) Q)) (thenE (W80 k80_5 Q) Q)) .normal e w := fun e w h => then_N (s80_12 (R := R) (Q := (thenE (W80 k80_5 Q) Q)) hN e w h)
  exact rgA 5 (fun e w => m80_12 R (e 0) (e 3) (e 4) w) h hN
theorem s80_3 {R : VP} {Q : EQ} (hR : ∀ e w, (R (e 2) w) → Q .ret e w) (e : Env) (w : World) (h : m80_3 R (e 0) w) : W80 k80_3 Q e w := by
  unfold m80_3 at h
  refine seA ?_
  have hN : ∀ e w, (m80_4 R (e 0) (e 3) w) → (thenE (W80 k80_4 Q) Q) .normal e w := fun e w h => then_N (s80_4 (R := R) (Q := Q) hR e w h)
  exact rgA 4 (fun e w => m80_4 R (e 0) (e 3) w) h hN
theorem s80_18 {R : VP} {Q : EQ} (hN : ∀ e w, (m80_3 R (e 0) w) → Q .normal e w) (hR : ∀ e w, (R (e 2) w) → Q .ret e w) (e : Env) (w : World) (h : m80_18 R (e 0) (e 17) w) : W80 k80_18 Q e w := by
  unfold m80_18 at h
  refine coA (Operand.tmp 17) h (fun h1 => ?_) (fun h1 => ?_)
  · refine seA ?_
    have hN : ∀ e w, (m80_19 R (e 2) w) → (thenE (W80 k80_19 Q) Q) .normal e w := fun e w h => then_N (s80_19 (R := R) (Q := Q) hR e w h)
    exact rgA 3 (fun e w => m80_19 R (e 2) w) h1 hN
  · exact skA (hN _ _ h1)
theorem s80_2 {R : VP} {Q : EQ} (hR : ∀ e w, (R (e 2) w) → Q .ret e w) (e : Env) (w : World) (h : m80_2 R (e 0) w) : W80 k80_2 Q e w := by
  unfold m80_2 at h
  refine seA ?_
  have hN : ∀ e w, (m80_3 R (e 0) w) → (thenE (W80 k80_3 Q) Q) .normal e w := fun e w h => then_N (s80_3 (R := R) (Q := Q) hR e w h)
  have hR : ∀ e w, (R (e 2) w) → (thenE (W80 k80_3 Q) Q) .ret e w := fun e w h => then_R (hR e w h)
  refine seA ?_
  have hN : ∀ e w, (m80_18 R (e 0) (e 17) w) → (thenE (W80 k80_18 (thenE (W80 k80_3 Q) Q)) (thenE (W80 k80_3 Q) Q)) .normal e w := fun e w h => then_N (s80_18 (R := R) (Q := (thenE (W80 k80_3 Q) Q)) hN hR e w h)
  exact rgA 2 (fun e w => m80_18 R (e 0) (e 17) w) h hN
theorem s80_1 {R : VP} {Q : EQ} (hR : ∀ e w, (R (e 2) w) → Q .ret e w) (e : Env) (w : World) (h : m80_1 R (e 0) w) : W80 k80_1 Q e w := by
  unfold m80_1 at h
  refine seA ?_
  have hN : ∀ e w, (m80_2 R (e 0) w) → (thenE (W80 k80_2 Q) Q) .normal e w := fun e w h => then_N (s80_2 (R := R) (Q := Q) hR e w h)
  exact rgA 1 (fun e w => m80_2 R (e 0) w) h hN
theorem s80_0 {R : VP} {Q : EQ} (hR : ∀ e w, (R (e 2) w) → Q .ret e w) (e : Env) (w : World) (h : m80_0 R (e 0) w) : W80 k80_0 Q e w := by
  unfold m80_0 at h
  refine seA ?_
  have hN : ∀ e w, (m80_1 R (e 0) w) → (thenE (W80 k80_1 Q) Q) .normal e w := fun e w h => then_N (s80_1 (R := R) (Q := Q) hR e w h)
  exact rgA 0 (fun e w => m80_1 R (e 0) w) h hN
abbrev m80 (R : VP) (g0 : Value) (w : World) : Prop := m80_0 R g0 w
theorem s80 (g0 : Value) {R : VP} {w : World} (h : m80 R g0 w) :
    Calls Try.prog 80 #[g0] w fun e w' => ∃ v, e = .returned v ∧ R v w' :=
  calls_of_cwp (st := (fun i => cond (Nat.beq i 8) 1 (0))) (c := k80_0) (by kernel_rfl) Try.func80 (by kernel_rfl) (Nat.le_of_ble_eq_true (by kernel_rfl)) (by kernel_rfl)
    (s80_0 (R := R) (Q := endE Try.prog Try.f80 R) (fun e w h => kcast (by kernel_rfl) h) (argsE #[g0]) w (kcast (by kernel_rfl) h))
/-! ### (*headgate/headgateref10.Group).May -/
def m81_11 (R : VP) (t8 : Value) (w : World) : Prop :=
  R t8 w
def m81_9 (R : VP) (t8 : Value) (w : World) : Prop :=
  R t8 w
def m81_7 (R : VP) (t8 : Value) (w : World) : Prop :=
  R t8 w
def m81_5 (R : VP) (t8 : Value) (w : World) : Prop :=
  R t8 w
def m81_4 (R : VP) (w : World) : Prop :=
  m81_5 R (Value.int IntKind.i64 0) w
def m81_6 (R : VP) (t39 : Value) (w : World) : Prop :=
  condP t39
  (m81_7 R (Value.int IntKind.i64 13) w)
  (m81_4 R w)
def m81_3 (R : VP) (g0 id1 part3 : Value) (w : World) : Prop :=
  valP Try.prog (binS BinOp.lss 3 (Operand.tmp 19) (Operand.const (Value.int IntKind.i64 0)) part3 (Value.int IntKind.i64 0)) w fun t20 w =>
  condP t20
  (pickP t20 (Value.bool true) undef fun t28 =>
  condP t28
  (pickP t28 (Value.bool true) undef fun t39 =>
  m81_6 R t39 w)
  (nilCheckP g0 fun t31 =>
  valP Try.prog (Instr.fieldAt 86 t31 6) w fun t32 w =>
  valP Try.prog (Instr.loadAt 28 t32) w fun t33 w =>
  valP Try.prog (Instr.indexAt 28 t33 part3) w fun t35 w =>
  valP Try.prog (Instr.loadAt 3 t35) w fun t36 w =>
  valP Try.prog (binS BinOp.neq 3 (Operand.tmp 36) (Operand.tmp 37) t36 id1) w fun t38 w =>
  pickP t28 (Value.bool true) t38 fun t39 =>
  m81_6 R t39 w))
  (nilCheckP g0 fun t24 =>
  valP Try.prog (Instr.fieldAt 86 t24 0) w fun t25 w =>
  valP Try.prog (Instr.loadAt 3 t25) w fun t26 w =>
  valP Try.prog (binS BinOp.geq 3 (Operand.tmp 22) (Operand.tmp 26) part3 t26) w fun t27 w =>
  pickP t20 (Value.bool true) t27 fun t28 =>
  condP t28
  (pickP t28 (Value.bool true) undef fun t39 =>
  m81_6 R t39 w)
  (nilCheckP g0 fun t31 =>
  valP Try.prog (Instr.fieldAt 86 t31 6) w fun t32 w =>
  valP Try.prog (Instr.loadAt 28 t32) w fun t33 w =>
  valP Try.prog (Instr.indexAt 28 t33 part3) w fun t35 w =>
  valP Try.prog (Instr.loadAt 3 t35) w fun t36 w =>
  valP Try.prog (binS BinOp.neq 3 (Operand.tmp 36) (Operand.tmp 37) t36 id1) w fun t38 w =>
  pickP t28 (Value.bool true) t38 fun t39 =>
  m81_6 R t39 w))
def m81_8 (R : VP) (g0 id1 part3 t18 : Value) (w : World) : Prop :=
  condP t18
  (m81_9 R (Value.int IntKind.i64 12) w)
  (m81_3 R g0 id1 part3 w)
def m81_2 (R : VP) (g0 id1 gen2 part3 : Value) (w : World) : Prop :=
  nilCheckP g0 fun t15 =>
  valP Try.prog (Instr.fieldAt 86 t15 2) w fun t16 w =>
  valP Try.prog (Instr.loadAt 3 t16) w fun t17 w =>
  valP Try.prog (binS BinOp.neq 3 (Operand.tmp 13) (Operand.tmp 17) gen2 t17) w fun t18 w =>
  m81_8 R g0 id1 part3 t18 w
def m81_10 (R : VP) (g0 id1 gen2 part3 t12 : Value) (w : World) : Prop :=
  condP t12
  (m81_11 R (Value.int IntKind.i64 11) w)
  (m81_2 R g0 id1 gen2 part3 w)
def m81_1 (R : VP) (g0 id1 gen2 part3 : Value) (w : World) : Prop :=
  callP Try.prog (fnV 94) #[g0, id1] w fun t11 w =>
  valP Try.prog (binS BinOp.lss 3 (Operand.tmp 11) (Operand.const (Value.int IntKind.i64 0)) t11 (Value.int IntKind.i64 0)) w fun t12 w =>
  m81_10 R g0 id1 gen2 part3 t12 w
def m81_0 (R : VP) (g0 id1 gen2 part3 : Value) (w : World) : Prop :=
  m81_1 R g0 id1 gen2 part3 w
abbrev W81 := cwp Try.prog (fun i => 0)
noncomputable def k81_0 : Code := (bodyOf Try.f81)
noncomputable def k81_1 : Code := (c2 k81_0)
noncomputable def k81_2 : Code := (c2 k81_1)
noncomputable def k81_3 : Code := (c2 k81_2)
noncomputable def k81_4 : Code := (c2 k81_3)
noncomputable def k81_5 : Code := (c2 k81_4)
noncomputable def k81_6 : Code := (c2 (c1 k81_3))
noncomputable def k81_7 : Code := (c2 (c1 k81_6))
noncomputable def k81_8 : Code := (c2 (c1 k81_2))
noncomputable def k81_9 : Code := (c2 (c1 k81_8))
noncomputable def k81_10 : Code := (c2 (c1 k81_1))
noncomputable def k81_11 : Code := (c2 (c1 k81_10))
theorem s81_11 {R : VP} {Q : EQ} (hR : ∀ e w, (R (e 8) w) → Q .ret e w) (e : Env) (w : World) (h : m81_11 R (e 8) w) : W81 k81_11 Q e w := by
  unfold m81_11 at h
  exact reA (hR _ _ h)
theorem s81_9 {R : VP} {Q : EQ} (hR : ∀ e w, (R (e 8) w) → Q .ret e w) (e : Env) (w : World) (h : m81_9 R (e 8) w) : W81 k81_9 Q e w := by
  unfold m81_9 at h
  exact reA (hR _ _ h)
theorem s81_7 {R : VP} {Q : EQ} (hR : ∀ e w, (R (e 8) w) → Q .ret e w) (e : Env) (w : World) (h : m81_7 R (e 8) w) : W81 k81_7 Q e w := by
  unfold m81_7 at h
  exact reA (hR _ _ h)
theorem s81_5 {R : VP} {Q : EQ} (hR : ∀ e w, (R (e 8) w) → Q .ret e w) (e : Env) (w : World) (h : m81_5 R (e 8) w) : W81 k81_5 Q e w := by
  unfold m81_5 at h
  exact reA (hR _ _ h)
theorem s81_4 {R : VP} {Q : EQ} (hR : ∀ e w, (R (e 8) w) → Q .ret e w) (e : Env) (w : World) (h : m81_4 R w) : W81 k81_4 Q e w := by
  unfold m81_4 at h
  refine seA ?_
  have hN : ∀ e w, (m81_5 R (e 8) w) → (thenE (W81 k81_5 Q) Q) .normal e w := fun e w h => then_N (s81_5 (R := R) (Q := Q) hR e w h)
  exact rgA 7 (fun e w => m81_5 R (e 8) w) h hN
theorem s81_6 {R : VP} {Q : EQ} (hN : ∀ e w, (m81_4 R w) → Q .normal e w) (hR : ∀ e w, (R (e 8) w) → Q .ret e w) (e : Env) (w : World) (h : m81_6 R (e 39) w) : W81 k81_6 Q e w := by
  unfold m81_6 at h
  refine coA (Operand.tmp 39) h (fun h1 => ?_) (fun h1 => ?_)
  · refine seA ?_
    have hN : ∀ e w, (m81_7 R (e 8) w) → (thenE (W81 k81_7 Q) Q) .normal e w := fun e w h => then_N (s81_7 (R := R) (Q := Q) hR e w h)
    exact rgA 6 (fun e w => m81_7 R (e 8) w) h1 hN
  · exact skA (hN _ _ h1)
theorem s81_3 {R : VP} {Q : EQ} (hR : ∀ e w, (R (e 8) w) → Q .ret e w) (e : Env) (w : World) (h : m81_3 R (e 0) (e 1) (e 3) w) : W81 k81_3 Q e w := by
  unfold m81_3 at h
  refine seA ?_
  have hN : ∀ e w, (m81_4 R w) → (thenE (W81 k81_4 Q) Q) .normal e w := fun e w h => then_N (s81_4 (R := R) (Q := Q) hR e w h)
  have hR : ∀ e w, (R (e 8) w) → (thenE (W81 k81_4 Q) Q) .ret e w := fun e w h => then_R (hR e w h)
  refine seA ?_
  have hN : ∀ e w, (m81_6 R (e 39) w) → (thenE (W81 k81_6 (thenE (W81 k81_4 Q) Q)) (thenE (W81 k81_4 Q) Q)) .normal e w := fun e w h => then_N (s81_6 (R := R) (Q := (thenE (W81 k81_4 Q) Q)) hN hR e w h)
  exact rgA 5 (fun e w => m81_6 R (e 39) w) h hN
theorem s81_8 {R : VP} {Q : EQ} (hN : ∀ e w, (m81_3 R (e 0) (e 1) (e 3) w) → Q .normal e w) (hR : ∀ e w, (R (e 8) w) → Q .ret e w) (e : Env) (w : World) (h : m81_8 R (e 0) (e 1) (e 3) (e 18) w) : W81 k81_8 Q e w := by
  unfold m81_8 at h
  refine coA (Operand.tmp 18) h (fun h1 => ?_) (fun h1 => ?_)
  · refine seA ?_
    have hN : ∀ e w, (m81_9 R (e 8) w) → (thenE (W81 k81_9 Q) Q) .normal e w := fun e w h => then_N (s81_9 (R := R) (Q := Q) hR e w h)
    exact rgA 4 (fun e w => m81_9 R (e 8) w) h1 hN
  · exact skA (hN _ _ h1)
theorem s81_2 {R : VP} {Q : EQ} (hR : ∀ e w, (R (e 8) w) → Q .ret e w) (e : Env) (w : World) (h : m81_2 R (e 0) (e 1) (e 2) (e 3) w) : W81 k81_2 Q e w := by
  unfold m81_2 at h
  refine seA ?_
  have hN : ∀ e w, (m81_3 R (e 0) (e 1) (e 3) w) → (thenE (W81 k81_3 Q) Q) .normal e w := fun e w h => then_N (s81_3 (R := R) (Q := Q) hR e w h)
  have hR : ∀ e w, (R (e 8) w) → (thenE (W81 k81_3 Q) Q) .ret e w := fun e w h => then_R (hR e w h)
  refine seA ?_
  have hN : ∀ e w, (m81_8 R (e 0) (e 1) (e 3) (e 18) w) → (thenE (W81 k81_8 (thenE (W81 k81_3 Q) Q)) (thenE (W81 k81_3 Q) Q)) .normal e w := fun e w h => then_N (s81_8 (R := R) (Q := (thenE (W81 k81_3 Q) Q)) hN hR e w h)
  exact rgA 3 (fun e w => m81_8 R (e 0) (e 1) (e 3) (e 18) w) h hN
theorem s81_10 {R : VP} {Q : EQ} (hN : ∀ e w, (m81_2 R (e 0) (e 1) (e 2) (e 3) w) → Q .normal e w) (hR : ∀ e w, (R (e 8) w) → Q .ret e w) (e : Env) (w : World) (h : m81_10 R (e 0) (e 1) (e 2) (e 3) (e 12) w) : W81 k81_10 Q e w := by
  unfold m81_10 at h
  refine coA (Operand.tmp 12) h (fun h1 => ?_) (fun h1 => ?_)
  · refine seA ?_
    have hN : ∀ e w, (m81_11 R (e 8) w) → (thenE (W81 k81_11 Q) Q) .normal e w := fun e w h => then_N (s81_11 (R := R) (Q := Q) hR e w h)
    exact rgA 2 (fun e w => m81_11 R (e 8) w) h1 hN
  · exact skA (hN _ _ h1)
theorem s81_1 {R : VP} {Q : EQ} (hR : ∀ e w, (R (e 8) w) → Q .ret e w) (e : Env) (w : World) (h : m81_1 R (e 0) (e 1) (e 2) (e 3) w) : W81 k81_1 Q e w := by
  unfold m81_1 at h
  refine seA ?_
  have hN : ∀ e w, (m81_2 R (e 0) (e 1) (e 2) (e 3) w) → (thenE (W81 k81_2 Q) Q) .normal e w := fun e w h => then_N (s81_2 (R := R) (Q := Q) hR e w h)
  have hR : ∀ e w, (R (e 8) w) → (thenE (W81 k81_2 Q) Q) .ret e w := fun e w h => then_R (hR e w h)
  refine seA ?_
  have hN : ∀ e w, (m81_10 R (e 0) (e 1) (e 2) (e 3) (e 12) w) → (thenE (W81 k81_10 (thenE (W81 k81_2 Q) Q)) (thenE (W81 k81_2 Q) Q)) .normal e w := fun e w h => then_N (s81_10 (R := R) (Q := (thenE (W81 k81_2 Q) Q)) hN hR e w h)
  exact rgA 1 (fun e w => m81_10 R (e 0) (e 1) (e 2) (e 3) (e 12) w) h hN
theorem s81_0 {R : VP} {Q : EQ} (hR : ∀ e w, (R (e 8) w) → Q .ret e w) (e : Env) (w : World) (h : m81_0 R (e 0) (e 1) (e 2) (e 3) w) : W81 k81_0 Q e w := by
  unfold m81_0 at h
  refine seA ?_
  have hN : ∀ e w, (m81_1 R (e 0) (e 1) (e 2) (e 3) w) → (thenE (W81 k81_1 Q) Q) .normal e w := fun e w h => then_N (s81_1 (R := R) (Q := Q) hR e w h)
  exact rgA 0 (fun e w => m81_1 R (e 0) (e 1) (e 2) (e 3) w) h hN
abbrev m81 (R : VP) (g0 id1 gen2 part3 : Value) (w : World) : Prop := m81_0 R g0 id1 gen2 part3 w
theorem s81 (g0 id1 gen2 part3 : Value) {R : VP} {w : World} (h : m81 R g0 id1 gen2 part3 w) :
    Calls Try.prog 81 #[g0, id1, gen2, part3] w fun e w' => ∃ v, e = .returned v ∧ R v w' :=
  calls_of_cwp (st := (fun i => 0)) (c := k81_0) (by kernel_rfl) Try.func81 (by kernel_rfl) (Nat.le_of_ble_eq_true (by kernel_rfl)) (by kernel_rfl)
    (s81_0 (R := R) (Q := endE Try.prog Try.f81 R) (fun e w h => kcast (by kernel_rfl) h) (argsE #[g0, id1, gen2, part3]) w (kcast (by kernel_rfl) h))
/-! ### headgate/headgateref10.SameMembers -/
def m82_13 (R : VP) (t4 : Value) (w : World) : Prop :=
  R t4 w
def m82_10 (R : VP) (K1 : VP) (t4 : Value) (w : World) : Prop :=
  R t4 w
def m82_8 (R : VP) (K1 : VP) (a0 b1 i5 : Value) (w : World) : Prop :=
  valP Try.prog (binS BinOp.add 3 (Operand.tmp 15) (Operand.const (Value.int IntKind.i64 1)) i5 (Value.int IntKind.i64 1)) w fun t16 w =>
  K1 t16 w
def m82_9 (R : VP) (K1 : VP) (a0 b1 i5 t25 : Value) (w : World) : Prop :=
  condP t25
  (m82_10 R K1 (Value.bool false) w)
  (m82_8 R K1 a0 b1 i5 w)
def m82_7 (R : VP) (K1 : VP) (a0 b1 i5 : Value) (w : World) : Prop :=
  valQ Try.prog (Instr.indexAt 66 a0 i5) w fun t19 =>
  valQ Try.prog (Instr.loadAt 69 t19) w fun t20 =>
  valQ Try.prog (Instr.indexAt 66 b1 i5) w fun t23 =>
  valQ Try.prog (Instr.loadAt 69 t23) w fun t24 =>
  valQ Try.prog (binS BinOp.neq 69 (Operand.tmp 20) (Operand.tmp 24) t20 t24) w fun t25 =>
  anyDraw w fun w =>
  m82_9 R K1 a0 b1 i5 t25 w
def m82_4 (R : VP) (t4 : Value) (w : World) : Prop :=
  R t4 w
def m82_3 (R : VP) (w : World) : Prop :=
  m82_4 R (Value.bool true) w
def m82_11 (R : VP) (K1 : VP) (a0 b1 i5 t14 : Value) (w : World) : Prop :=
  condP t14
  (m82_7 R K1 a0 b1 i5 w)
  (m82_3 R w)
def m82_6 (R : VP) (K1 : VP) (a0 b1 i5 : Value) (w : World) : Prop :=
  builtinP Try.prog Builtin.len #[66] 3 #[false] #[a0] w fun t13 w =>
  valP Try.prog (binS BinOp.lss 3 (Operand.tmp 11) (Operand.tmp 13) i5 t13) w fun t14 w =>
  m82_11 R K1 a0 b1 i5 t14 w
def m82_5 (R : VP) (a0 b1 i5 : Value) (w : World) : Prop :=
  loopP (fun (K1 : VP) (s : Value) w => m82_6 R K1 a0 b1 s w) i5 w
def m82_2 (R : VP) (a0 b1 : Value) (w : World) : Prop :=
  m82_5 R a0 b1 (Value.int IntKind.i64 0) w
def m82_12 (R : VP) (a0 b1 t10 : Value) (w : World) : Prop :=
  condP t10
  (m82_13 R (Value.bool false) w)
  (m82_2 R a0 b1 w)
def m82_1 (R : VP) (a0 b1 : Value) (w : World) : Prop :=
  builtinP Try.prog Builtin.len #[66] 3 #[false] #[a0] w fun t7 w =>
  builtinP Try.prog Builtin.len #[66] 3 #[false] #[b1] w fun t9 w =>
  valP Try.prog (binS BinOp.neq 3 (Operand.tmp 7) (Operand.tmp 9) t7 t9) w fun t10 w =>
  m82_12 R a0 b1 t10 w
def m82_0 (R : VP) (a0 b1 : Value) (w : World) : Prop :=
  m82_1 R a0 b1 w
abbrev W82 := cwp Try.prog (fun i => cond (Nat.beq i 6) 1 (0))
noncomputable def k82_0 : Code := (bodyOf Try.f82)
noncomputable def k82_1 : Code := (c2 k82_0)
noncomputable def k82_2 : Code := (c2 k82_1)
noncomputable def k82_3 : Code := (c2 k82_2)
noncomputable def k82_4 : Code := (c2 k82_3)
noncomputable def k82_5 : Code := (c2 (c1 k82_2))
noncomputable def k82_6 : Code := (c1 (c1 k82_5))
noncomputable def k82_7 : Code := (c2 k82_6)
noncomputable def k82_8 : Code := (c2 k82_7)
noncomputable def k82_9 : Code := (c2 (c1 (c1 k82_7)))
noncomputable def k82_10 : Code := (c2 (c1 k82_9))
noncomputable def k82_11 : Code := (c2 (c1 k82_6))
noncomputable def k82_12 : Code := (c2 (c1 k82_1))
noncomputable def k82_13 : Code := (c2 (c1 k82_12))
theorem s82_13 {R : VP} {Q : EQ} (hR : ∀ e w, (R (e 4) w) → Q .ret e w) (e : Env) (w : World) (h : m82_13 R (e 4) w) : W82 k82_13 Q e w := by
  unfold m82_13 at h
  exact reA (hR _ _ h)
theorem s82_10 {R : VP} {K1 : VP} {Q : EQ} (hR : ∀ e w, (R (e 4) w) → Q .ret e w) (e : Env) (w : World) (h : m82_10 R K1 (e 4) w) : W82 k82_10 Q e w := by
  unfold m82_10 at h
  exact reA (hR _ _ h)
theorem s82_8 {R : VP} {K1 : VP} {Q : EQ} (hN : ∀ e w, (K1 (e 5) w) → Q .normal e w) (e : Env) (w : World) (h : m82_8 R K1 (e 0) (e 1) (e 5) w) : W82 k82_8 Q e w := by
  unfold m82_8 at h
  exact rgA 5 (fun e w => K1 (e 5) w) h hN
theorem s82_9 {R : VP} {K1 : VP} {Q : EQ} (hN : ∀ e w, (m82_8 R K1 (e 0) (e 1) (e 5) w) → Q .normal e w) (hR : ∀ e w, (R (e 4) w) → Q .ret e w) (e : Env) (w : World) (h : m82_9 R K1 (e 0) (e 1) (e 5) (e 25) w) : W82 k82_9 Q e w := by
  unfold m82_9 at h
  refine coA (Operand.tmp 25) h (fun h1 => ?_) (fun h1 => ?_)
  · refine seA ?_
    have hN : ∀ e w, (m82_10 R K1 (e 4) w) → (thenE (W82 k82_10 Q) Q) .normal e w := fun e w h => then_N (s82_10 (R := R) (Q := Q) (K1 := K1) hR e w h)
    exact rgA 7 (fun e w => m82_10 R K1 (e 4) w) h1 hN
  · exact skA (hN _ _ h1)
theorem s82_7 {R : VP} {K1 : VP} {Q : EQ} (hN : ∀ e w, (K1 (e 5) w) → Q .normal e w) (hR : ∀ e w, (R (e 4) w) → Q .ret e w) (e : Env) (w : World) (h : m82_7 R K1 (e 0) (e 1) (e 5) w) : W82 k82_7 Q e w := by
  unfold m82_7 at h
  refine seA ?_
  have hN : ∀ e w, (m82_8 R K1 (e 0) (e 1) (e 5) w) → (thenE (W82 k82_8 Q) Q) .normal e w := fun e w h => then_N (s82_8 (R := R) (Q := Q) (K1 := K1) hN e w h)
  have hR : ∀ e w, (R (e 4) w) → (thenE (W82 k82_8 Q) Q) .ret e w := fun e w h => then_R (hR e w h)
  refine block_ok 1 (by kernel_rfl) ?_
  have hN : ∀ e w, (m82_8 R K1 (e 0) (e 1) (e 5) w) → (inBlockE 1 (thenE (W82 k82_8 Q) Q)) .normal e w := fun e w h => block_N (hN e w h)
  have hR : ∀ e w, (R (e 4) w) → (inBlockE 1 (thenE (W82 k82_8 Q) Q)) .ret e w := fun e w h => block_R (hR e w h)
  refine seA ?_
  have hN : ∀ e w, (m82_9 R K1 (e 0) (e 1) (e 5) (e 25) w) → (thenE (W82 k82_9 (inBlockE 1 (thenE (W82 k82_8 Q) Q))) (inBlockE 1 (thenE (W82 k82_8 Q) Q))) .normal e w := fun e w h => then_N (s82_9 (R := R) (Q := (inBlockE 1 (thenE (W82 k82_8 Q) Q))) (K1 := K1) hN hR e w h)
  exact quA 6 (fun e w => m82_9 R K1 (e 0) (e 1) (e 5) (e 25) w) h hN
theorem s82_4 {R : VP} {Q : EQ} (hR : ∀ e w, (R (e 4) w) → Q .ret e w) (e : Env) (w : World) (h : m82_4 R (e 4) w) : W82 k82_4 Q e w := by
  unfold m82_4 at h
  exact reA (hR _ _ h)
theorem s82_3 {R : VP} {Q : EQ} (hR : ∀ e w, (R (e 4) w) → Q .ret e w) (e : Env) (w : World) (h : m82_3 R w) : W82 k82_3 Q e w := by
  unfold m82_3 at h
  refine seA ?_
  have hN : ∀ e w, (m82_4 R (e 4) w) → (thenE (W82 k82_4 Q) Q) .normal e w := fun e w h => then_N (s82_4 (R := R) (Q := Q) hR e w h)
  exact rgA 8 (fun e w => m82_4 R (e 4) w) h hN
theorem s82_11 {R : VP} {K1 : VP} {Q : EQ} (hN : ∀ e w, (m82_7 R K1 (e 0) (e 1) (e 5) w) → Q .normal e w) (hX0 : ∀ e w, (m82_3 R w) → Q (.exit 0) e w) (e : Env) (w : World) (h : m82_11 R K1 (e 0) (e 1) (e 5) (e 14) w) : W82 k82_11 Q e w := by
  unfold m82_11 at h
  refine coA (Operand.tmp 14) h (fun h1 => ?_) (fun h1 => ?_)
  · exact skA (hN _ _ h1)
  · exact exA 0 (hX0 _ _ h1)
theorem s82_6 {R : VP} {K1 : VP} {Q : EQ} (hN : ∀ e w, (K1 (e 5) w) → Q .normal e w) (hR : ∀ e w, (R (e 4) w) → Q .ret e w) (hX0 : ∀ e w, (m82_3 R w) → Q (.exit 0) e w) (e : Env) (w : World) (h : m82_6 R K1 (e 0) (e 1) (e 5) w) : W82 k82_6 Q e w := by
  unfold m82_6 at h
  refine seA ?_
  have hN : ∀ e w, (m82_7 R K1 (e 0) (e 1) (e 5) w) → (thenE (W82 k82_7 Q) Q) .normal e w := fun e w h => then_N (s82_7 (R := R) (Q := Q) (K1 := K1) hN hR e w h)
  have hX0 : ∀ e w, (m82_3 R w) → (thenE (W82 k82_7 Q) Q) (.exit 0) e w := fun e w h => then_X (hX0 e w h)
  refine seA ?_
  have hN : ∀ e w, (m82_11 R K1 (e 0) (e 1) (e 5) (e 14) w) → (thenE (W82 k82_11 (thenE (W82 k82_7 Q) Q)) (thenE (W82 k82_7 Q) Q)) .normal e w := fun e w h => then_N (s82_11 (R := R) (Q := (thenE (W82 k82_7 Q) Q)) (K1 := K1) hN hX0 e w h)
  exact rgA 4 (fun e w => m82_11 R K1 (e 0) (e 1) (e 5) (e 14) w) h hN
theorem s82_5 {R : VP} {Q : EQ} (hN : ∀ e w, (m82_3 R w) → Q .normal e w) (hR : ∀ e w, (R (e 4) w) → Q .ret e w) (e : Env) (w : World) (h : m82_5 R (e 0) (e 1) (e 5) w) : W82 k82_5 Q e w := by
  unfold m82_5 at h
  refine block_ok 0 (by kernel_rfl) ?_
  have hX0 : ∀ e w, (m82_3 R w) → (inBlockE 0 Q) (.exit 0) e w := fun e w h => inBlock_same (Q := Q) 0 (hN e w h)
  have hR : ∀ e w, (R (e 4) w) → (inBlockE 0 Q) .ret e w := fun e w h => block_R (hR e w h)
  refine loop_ok' (fun (e : Env) => e 5) [0, 1] (by kernel_rfl) (by kernel_rfl) h (fun K e' w' hk h' => ?_)
  have r0 : e' 0 = e 0 := hk 0 (by decide)
  have r1 : e' 1 = e 1 := hk 1 (by decide)
  have hR : ∀ e w, (R (e 4) w) → (thenE (fun (e : Env) w => K (e 5) w) (inBlockE 0 Q)) .ret e w := fun e w h => then_R (hR e w h)
  have hX0 : ∀ e w, (m82_3 R w) → (thenE (fun (e : Env) w => K (e 5) w) (inBlockE 0 Q)) (.exit 0) e w := fun e w h => then_X (hX0 e w h)
  exact s82_6 (R := R) (Q := (thenE (fun (e : Env) w => K (e 5) w) (inBlockE 0 Q))) (K1 := K) (fun _ _ h => then_N h) hR hX0 e' w' (by rw [r0, r1]; exact h')
theorem s82_2 {R : VP} {Q : EQ} (hR : ∀ e w, (R (e 4) w) → Q .ret e w) (e : Env) (w : World) (h : m82_2 R (e 0) (e 1) w) : W82 k82_2 Q e w := by
  unfold m82_2 at h
  refine seA ?_
  have hN : ∀ e w, (m82_3 R w) → (thenE (W82 k82_3 Q) Q) .normal e w := fun e w h => then_N (s82_3 (R := R) (Q := Q) hR e w h)
  have hR : ∀ e w, (R (e 4) w) → (thenE (W82 k82_3 Q) Q) .ret e w := fun e w h => then_R (hR e w h)
  refine seA ?_
  have hN : ∀ e w, (m82_5 R (e 0) (e 1) (e 5) w) → (thenE (W82 k82_5 (thenE (W82 k82_3 Q) Q)) (thenE (W82 k82_3 Q) Q)) .normal e w := fun e w h => then_N (s82_5 (R := R) (Q := (thenE (W82 k82_3 Q) Q)) hN hR e w h)
  exact rgA 3 (fun e w => m82_5 R (e 0) (e 1) (e 5) w) h hN
theorem s82_12 {R : VP} {Q : EQ} (hN : ∀ e w, (m82_2 R (e 0) (e 1) w) → Q .normal e w) (hR : ∀ e w, (R (e 4) w) → Q .ret e w) (e : Env) (w : World) (h : m82_12 R (e 0) (e 1) (e 10) w) : W82 k82_12 Q e w := by
  unfold m82_12 at h
  refine coA (Operand.tmp 10) h (fun h1 => ?_) (fun h1 => ?_)
  · refine seA ?_
    have hN : ∀ e w, (m82_13 R (e 4) w) → (thenE (W82 k82_13 Q) Q) .normal e w := fun e w h => then_N (s82_13 (R := R) (Q := Q) hR e w h)
    exact rgA 2 (fun e w => m82_13 R (e 4) w) h1 hN
  · exact skA (hN _ _ h1)
theorem s82_1 {R : VP} {Q : EQ} (hR : ∀ e w, (R (e 4) w) → Q .ret e w) (e : Env) (w : World) (h : m82_1 R (e 0) (e 1) w) : W82 k82_1 Q e w := by
  unfold m82_1 at h
  refine seA ?_
  have hN : ∀ e w, (m82_2 R (e 0) (e 1) w) → (thenE (W82 k82_2 Q) Q) .normal e w := fun e w h => then_N (s82_2 (R := R) (Q := Q) hR e w h)
  have hR : ∀ e w, (R (e 4) w) → (thenE (W82 k82_2 Q) Q) .ret e w := fun e w h => then_R (hR e w h)
  refine seA ?_
  have hN : ∀ e w, (m82_12 R (e 0) (e 1) (e 10) w) → (thenE (W82 k82_12 (thenE (W82 k82_2 Q) Q)) (thenE (W82 k82_2 Q) Q)) .normal e w := fun e w h => then_N (s82_12 (R := R) (Q := (thenE (W82 k82_2 Q) Q)) hN hR e w h)
  exact rgA 1 (fun e w => m82_12 R (e 0) (e 1) (e 10) w) h hN
theorem s82_0 {R : VP} {Q : EQ} (hR : ∀ e w, (R (e 4) w) → Q .ret e w) (e : Env) (w : World) (h : m82_0 R (e 0) (e 1) w) : W82 k82_0 Q e w := by
  unfold m82_0 at h
  refine seA ?_
  have hN : ∀ e w, (m82_1 R (e 0) (e 1) w) → (thenE (W82 k82_1 Q) Q) .normal e w := fun e w h => then_N (s82_1 (R := R) (Q := Q) hR e w h)
  exact rgA 0 (fun e w => m82_1 R (e 0) (e 1) w) h hN
abbrev m82 (R : VP) (a0 b1 : Value) (w : World) : Prop := m82_0 R a0 b1 w
theorem s82 (a0 b1 : Value) {R : VP} {w : World} (h : m82 R a0 b1 w) :
    Calls Try.prog 82 #[a0, b1] w fun e w' => ∃ v, e = .returned v ∧ R v w' :=
  calls_of_cwp (st := (fun i => cond (Nat.beq i 6) 1 (0))) (c := k82_0) (by kernel_rfl) Try.func82 (by kernel_rfl) (Nat.le_of_ble_eq_true (by kernel_rfl)) (by kernel_rfl)
    (s82_0 (R := R) (Q := endE Try.prog Try.f82 R) (fun e w h => kcast (by kernel_rfl) h) (argsE #[a0, b1]) w (kcast (by kernel_rfl) h))
/-! ### (*headgate/group.Group).Join$1 -/
def m83_2 (R : VP) (t3 : Value) (w : World) : Prop :=
  R t3 w
def m83_1 (R : VP) (t1 m2 : Value) (w : World) : Prop :=
  valP Try.prog (Instr.fieldAt 69 m2 1) w fun t4 w =>
  valP Try.prog (Instr.loadAt 3 t4) w fun t5 w =>
  valP Try.prog (Instr.loadAt 3 t1) w fun t6 w =>
  valP Try.prog (binS BinOp.eql 3 (Operand.tmp 5) (Operand.tmp 6) t5 t6) w fun t7 w =>
  m83_2 R t7 w
def m83_0 (R : VP) (m0 t1 : Value) (w : World) : Prop :=
  valP Try.prog (Instr.box 69 m0) w fun m2 w =>
  m83_1 R t1 m2 w
abbrev W83 := cwp Try.prog (fun i => 0)
noncomputable def k83_0 : Code := (bodyOf Try.f83)
noncomputable def k83_1 : Code := (c2 k83_0)
noncomputable def k83_2 : Code := (c2 k83_1)
theorem s83_2 {R : VP} {Q : EQ} (hR : ∀ e w, (R (e 3) w) → Q .ret e w) (e : Env) (w : World) (h : m83_2 R (e 3) w) : W83 k83_2 Q e w := by
  unfold m83_2 at h
  exact reA (hR _ _ h)
theorem s83_1 {R : VP} {Q : EQ} (hR : ∀ e w, (R (e 3) w) → Q .ret e w) (e : Env) (w : World) (h : m83_1 R (e 1) (e 2) w) : W83 k83_1 Q e w := by
  unfold m83_1 at h
  refine seA ?_
  have hN : ∀ e w, (m83_2 R (e 3) w) → (thenE (W83 k83_2 Q) Q) .normal e w := fun e w h => then_N (s83_2 (R := R) (Q := Q) hR e w h)
  exact rgA 1 (fun e w => m83_2 R (e 3) w) h hN
theorem s83_0 {R : VP} {Q : EQ} (hR : ∀ e w, (R (e 3) w) → Q .ret e w) (e : Env) (w : World) (h : m83_0 R (e 0) (e 1) w) : W83 k83_0 Q e w := by
  unfold m83_0 at h
  refine seA ?_
  have hN : ∀ e w, (m83_1 R (e 1) (e 2) w) → (thenE (W83 k83_1 Q) Q) .normal e w := fun e w h => then_N (s83_1 (R := R) (Q := Q) hR e w h)
  exact rgA 0 (fun e w => m83_1 R (e 1) (e 2) w) h hN
abbrev m83 (R : VP) (m0 t1 : Value) (w : World) : Prop := m83_0 R m0 t1 w
theorem s83 (m0 t1 : Value) {R : VP} {w : World} (h : m83 R m0 t1 w) :
    Calls Try.prog 83 #[m0, t1] w fun e w' => ∃ v, e = .returned v ∧ R v w' :=
  calls_of_cwp (st := (fun i => 0)) (c := k83_0) (by kernel_rfl) Try.func83 (by kernel_rfl) (Nat.le_of_ble_eq_true (by kernel_rfl)) (by kernel_rfl)
    (s83_0 (R := R) (Q := endE Try.prog Try.f83 R) (fun e w h => kcast (by kernel_rfl) h) (argsE #[m0, t1]) w (kcast (by kernel_rfl) h))
end Go.Proofs.Ytjjmlopmemmobaa.M
