/- What functions' texts ask of their ends, told over values that have names; printed by a program of this work. -/
import Derived.Test.YtcldjjmfpmkldaaDoorFw
import Derived.Test.YtcldjjmfpmkldaaDoorProg
namespace Go.Proofs.YtcldjjmfpmkldaaDoor.M
open Go.Proofs.YtcldjjmfpmkldaaDoor.F
set_option linter.unusedVariables false
set_option maxRecDepth 100000
/-! ### (*headgate/disk.Disk).Append -/
def m12_21 (R : VP) (t6 : Value) (w : World) : Prop :=
  R t6 w
def m12_17 (R : VP) (t6 : Value) (w : World) : Prop :=
  R t6 w
def m12_13 (R : VP) (t6 : Value) (w : World) : Prop :=
  R t6 w
def m12_11 (R : VP) (t6 : Value) (w : World) : Prop :=
  R t6 w
def m12_10 (R : VP) (w : World) : Prop :=
  m12_11 R (Value.int IntKind.i64 0) w
def m12_12 (R : VP) (t84 : Value) (w : World) : Prop :=
  condP t84
  (m12_13 R (Value.int IntKind.i64 4) w)
  (m12_10 R w)
def m12_9 (R : VP) (d0 : Value) (w : World) : Prop :=
  callP Tryd.prog (fnV 34) #[d0] w fun t83 w =>
  valP Tryd.prog (Op.unary UnOp.not t83) w fun t84 w =>
  m12_12 R t84 w
def m12_8 (R : VP) (d0 s2 f8 : Value) (w : World) : Prop :=
  nilCheckP f8 fun t75 =>
  valP Tryd.prog (Instr.fieldAt 65 t75 1) w fun t76 w =>
  valP Tryd.prog (Instr.loadAt 9 t76) w fun t77 w =>
  valP Tryd.prog (binS BinOp.add 9 (Operand.tmp 77) (Operand.tmp 78) t77 s2) w fun t79 w =>
  nilCheckP f8 fun t80 =>
  valP Tryd.prog (Instr.fieldAt 65 t80 1) w fun t81 w =>
  unitP Tryd.prog (Instr.storeAt 9 t81 t79) w fun _ w =>
  m12_9 R d0 w
def m12_7 (R : VP) (d0 s2 f8 need9 : Value) (w : World) : Prop :=
  nilCheckP d0 fun t67 =>
  valP Tryd.prog (Instr.fieldAt 61 t67 1) w fun t68 w =>
  valP Tryd.prog (Instr.loadAt 3 t68) w fun t69 w =>
  valP Tryd.prog (binS BinOp.sub 3 (Operand.tmp 69) (Operand.tmp 70) t69 need9) w fun t71 w =>
  nilCheckP d0 fun t72 =>
  valP Tryd.prog (Instr.fieldAt 61 t72 1) w fun t73 w =>
  unitP Tryd.prog (Instr.storeAt 3 t73 t71) w fun _ w =>
  m12_8 R d0 s2 f8 w
def m12_15 (R : VP) (d0 name1 s2 f8 need9 : Value) (w : World) : Prop :=
  nilCheckP d0 fun t61 =>
  valP Tryd.prog (Instr.fieldAt 61 t61 0) w fun t62 w =>
  valP Tryd.prog (Instr.loadAt 59 t62) w fun t63 w =>
  unitP Tryd.prog (Instr.mapUpdate 59 t63 name1 f8) w fun _ w =>
  m12_7 R d0 s2 f8 need9 w
def m12_14 (R : VP) (d0 name1 s2 f8 need9 t57 : Value) (w : World) : Prop :=
  condP t57
  (valP Tryd.prog (Instr.build 65 #[]) w fun t58 w =>
  valP Tryd.prog (Instr.box 65 t58) w fun t59 w =>
  m12_15 R d0 name1 s2 t59 need9 w)
  (m12_7 R d0 s2 f8 need9 w)
def m12_6 (R : VP) (d0 name1 s2 f8 need9 : Value) (w : World) : Prop :=
  valP Tryd.prog (binS BinOp.eql 63 (Operand.tmp 56) (Operand.const (Value.pointer none)) f8 (Value.pointer none)) w fun t57 w =>
  m12_14 R d0 name1 s2 f8 need9 t57 w
def m12_16 (R : VP) (d0 name1 s2 f8 need9 t55 : Value) (w : World) : Prop :=
  condP t55
  (m12_17 R (Value.int IntKind.i64 5) w)
  (m12_6 R d0 name1 s2 f8 need9 w)
def m12_5 (R : VP) (d0 name1 s2 f8 need9 : Value) (w : World) : Prop :=
  nilCheckP d0 fun t40 =>
  valP Tryd.prog (Instr.fieldAt 61 t40 1) w fun t41 w =>
  valP Tryd.prog (Instr.loadAt 3 t41) w fun t42 w =>
  valP Tryd.prog (binS BinOp.gtr 3 (Operand.tmp 38) (Operand.tmp 42) need9 t42) w fun t43 w =>
  condP t43
  (pickP t43 (Value.bool true) undef fun t55 =>
  m12_16 R d0 name1 s2 f8 need9 t55 w)
  (valP Tryd.prog (binS BinOp.eql 63 (Operand.tmp 45) (Operand.const (Value.pointer none)) f8 (Value.pointer none)) w fun t46 w =>
  condP t46
  (nilCheckP d0 fun t49 =>
  valP Tryd.prog (Instr.fieldAt 61 t49 0) w fun t50 w =>
  valP Tryd.prog (Instr.loadAt 59 t50) w fun t51 w =>
  builtinP Tryd.prog Builtin.len #[59] 3 #[false] #[t51] w fun t52 w =>
  valP Tryd.prog (binS BinOp.geq 3 (Operand.tmp 52) (Operand.const (Value.int IntKind.i64 256)) t52 (Value.int IntKind.i64 256)) w fun t53 w =>
  pickP t46 t53 (Value.bool false) fun t54 =>
  pickP t43 (Value.bool true) t54 fun t55 =>
  m12_16 R d0 name1 s2 f8 need9 t55 w)
  (pickP t46 undef (Value.bool false) fun t54 =>
  pickP t43 (Value.bool true) t54 fun t55 =>
  m12_16 R d0 name1 s2 f8 need9 t55 w))
def m12_18 (R : VP) (d0 name1 s2 f8 need9 t27 : Value) (w : World) : Prop :=
  condP t27
  (callP Tryd.prog (fnV 33) #[f8] w fun t29 w =>
  builtinP Tryd.prog Builtin.len #[9] 3 #[false] #[s2] w fun t31 w =>
  valP Tryd.prog (binS BinOp.add 3 (Operand.tmp 29) (Operand.tmp 31) t29 t31) w fun t32 w =>
  callP Tryd.prog (fnV 32) #[t32] w fun t33 w =>
  callP Tryd.prog (fnV 33) #[f8] w fun t35 w =>
  callP Tryd.prog (fnV 32) #[t35] w fun t36 w =>
  valP Tryd.prog (binS BinOp.sub 3 (Operand.tmp 33) (Operand.tmp 36) t33 t36) w fun t37 w =>
  m12_5 R d0 name1 s2 f8 t37 w)
  (m12_5 R d0 name1 s2 f8 need9 w)
def m12_4 (R : VP) (d0 name1 s2 f8 need9 : Value) (w : World) : Prop :=
  valP Tryd.prog (binS BinOp.neq 63 (Operand.tmp 26) (Operand.const (Value.pointer none)) f8 (Value.pointer none)) w fun t27 w =>
  m12_18 R d0 name1 s2 f8 need9 t27 w
def m12_3 (R : VP) (d0 name1 s2 f8 : Value) (w : World) : Prop :=
  builtinP Tryd.prog Builtin.len #[9] 3 #[false] #[s2] w fun t24 w =>
  callP Tryd.prog (fnV 32) #[t24] w fun t25 w =>
  m12_4 R d0 name1 s2 f8 t25 w
def m12_2 (R : VP) (d0 name1 s2 : Value) (w : World) : Prop :=
  nilCheckP d0 fun t18 =>
  valP Tryd.prog (Instr.fieldAt 61 t18 0) w fun t19 w =>
  valP Tryd.prog (Instr.loadAt 59 t19) w fun t20 w =>
  valP Tryd.prog (Instr.lookup 59 t20 name1 false) w fun t22 w =>
  m12_3 R d0 name1 s2 t22 w
def m12_20 (R : VP) (d0 name1 s2 e7 t15 : Value) (w : World) : Prop :=
  condP t15
  (m12_21 R e7 w)
  (m12_2 R d0 name1 s2 w)
def m12_19 (R : VP) (d0 name1 s2 e7 : Value) (w : World) : Prop :=
  valP Tryd.prog (binS BinOp.neq 24 (Operand.tmp 14) (Operand.const (Value.int IntKind.i64 0)) e7 (Value.int IntKind.i64 0)) w fun t15 w =>
  m12_20 R d0 name1 s2 e7 t15 w
def m12_1 (R : VP) (d0 name1 s2 : Value) (w : World) : Prop :=
  valP Tryd.prog (Instr.buildSlice 22 1 #[(0, name1)]) w fun t12 w =>
  callP Tryd.prog (fnV 31) #[d0, t12] w fun t13 w =>
  m12_19 R d0 name1 s2 t13 w
def m12_0 (R : VP) (d0 name1 s2 : Value) (w : World) : Prop :=
  m12_1 R d0 name1 s2 w
abbrev W12 := cwp Tryd.prog (fun i => 0)
noncomputable def k12_0 : Code := (bodyOf Tryd.f12)
noncomputable def k12_1 : Code := (c2 k12_0)
noncomputable def k12_2 : Code := (c2 k12_1)
noncomputable def k12_3 : Code := (c2 k12_2)
noncomputable def k12_4 : Code := (c2 k12_3)
noncomputable def k12_5 : Code := (c2 k12_4)
noncomputable def k12_6 : Code := (c2 k12_5)
noncomputable def k12_7 : Code := (c2 k12_6)
noncomputable def k12_8 : Code := (c2 k12_7)
noncomputable def k12_9 : Code := (c2 k12_8)
noncomputable def k12_10 : Code := (c2 k12_9)
noncomputable def k12_11 : Code := (c2 k12_10)
noncomputable def k12_12 : Code := (c2 (c1 k12_9))
noncomputable def k12_13 : Code := (c2 (c1 k12_12))
noncomputable def k12_14 : Code := (c2 (c1 k12_6))
noncomputable def k12_15 : Code := (c2 (c1 k12_14))
noncomputable def k12_16 : Code := (c2 (c1 k12_5))
noncomputable def k12_17 : Code := (c2 (c1 k12_16))
noncomputable def k12_18 : Code := (c2 (c1 k12_4))
noncomputable def k12_19 : Code := (c2 (c1 k12_1))
noncomputable def k12_20 : Code := (c2 k12_19)
noncomputable def k12_21 : Code := (c2 (c1 k12_20))
theorem s12_21 {R : VP} {Q : EQ} (hR : ∀ e w, (R (e 6) w) → Q .ret e w) (e : Env) (w : World) (h : m12_21 R (e 6) w) : W12 k12_21 Q e w := by
  unfold m12_21 at h
  exact reA (hR _ _ h)
theorem s12_17 {R : VP} {Q : EQ} (hR : ∀ e w, (R (e 6) w) → Q .ret e w) (e : Env) (w : World) (h : m12_17 R (e 6) w) : W12 k12_17 Q e w := by
  unfold m12_17 at h
  exact reA (hR _ _ h)
theorem s12_13 {R : VP} {Q : EQ} (hR : ∀ e w, (R (e 6) w) → Q .ret e w) (e : Env) (w : World) (h : m12_13 R (e 6) w) : W12 k12_13 Q e w := by
  unfold m12_13 at h
  exact reA (hR _ _ h)
theorem s12_11 {R : VP} {Q : EQ} (hR : ∀ e w, (R (e 6) w) → Q .ret e w) (e : Env) (w : World) (h : m12_11 R (e 6) w) : W12 k12_11 Q e w := by
  unfold m12_11 at h
  exact reA (hR _ _ h)
theorem s12_10 {R : VP} {Q : EQ} (hR : ∀ e w, (R (e 6) w) → Q .ret e w) (e : Env) (w : World) (h : m12_10 R w) : W12 k12_10 Q e w := by
  unfold m12_10 at h
  refine seA ?_
  have hN : ∀ e w, (m12_11 R (e 6) w) → (thenE (W12 k12_11 Q) Q) .normal e w := fun e w h => then_N (s12_11 (R := R) (Q := Q) hR e w h)
  exact rgA 17 (fun e w => m12_11 R (e 6) w) h hN
theorem s12_12 {R : VP} {Q : EQ} (hN : ∀ e w, (m12_10 R w) → Q .normal e w) (hR : ∀ e w, (R (e 6) w) → Q .ret e w) (e : Env) (w : World) (h : m12_12 R (e 84) w) : W12 k12_12 Q e w := by
  unfold m12_12 at h
  refine coA (Operand.tmp 84) h (fun h1 => ?_) (fun h1 => ?_)
  · refine seA ?_
    have hN : ∀ e w, (m12_13 R (e 6) w) → (thenE (W12 k12_13 Q) Q) .normal e w := fun e w h => then_N (s12_13 (R := R) (Q := Q) hR e w h)
    exact rgA 16 (fun e w => m12_13 R (e 6) w) h1 hN
  · exact skA (hN _ _ h1)
theorem s12_9 {R : VP} {Q : EQ} (hR : ∀ e w, (R (e 6) w) → Q .ret e w) (e : Env) (w : World) (h : m12_9 R (e 0) w) : W12 k12_9 Q e w := by
  unfold m12_9 at h
  refine seA ?_
  have hN : ∀ e w, (m12_10 R w) → (thenE (W12 k12_10 Q) Q) .normal e w := fun e w h => then_N (s12_10 (R := R) (Q := Q) hR e w h)
  have hR : ∀ e w, (R (e 6) w) → (thenE (W12 k12_10 Q) Q) .ret e w := fun e w h => then_R (hR e w h)
  refine seA ?_
  have hN : ∀ e w, (m12_12 R (e 84) w) → (thenE (W12 k12_12 (thenE (W12 k12_10 Q) Q)) (thenE (W12 k12_10 Q) Q)) .normal e w := fun e w h => then_N (s12_12 (R := R) (Q := (thenE (W12 k12_10 Q) Q)) hN hR e w h)
  exact rgA 15 (fun e w => m12_12 R (e 84) w) h hN
theorem s12_8 {R : VP} {Q : EQ} (hR : ∀ e w, (R (e 6) w) → Q .ret e w) (e : Env) (w : World) (h : m12_8 R (e 0) (e 2) (e 8) w) : W12 k12_8 Q e w := by
  unfold m12_8 at h
  refine seA ?_
  have hN : ∀ e w, (m12_9 R (e 0) w) → (thenE (W12 k12_9 Q) Q) .normal e w := fun e w h => then_N (s12_9 (R := R) (Q := Q) hR e w h)
  exact rgA 14 (fun e w => m12_9 R (e 0) w) h hN
theorem s12_7 {R : VP} {Q : EQ} (hR : ∀ e w, (R (e 6) w) → Q .ret e w) (e : Env) (w : World) (h : m12_7 R (e 0) (e 2) (e 8) (e 9) w) : W12 k12_7 Q e w := by
  unfold m12_7 at h
  refine seA ?_
  have hN : ∀ e w, (m12_8 R (e 0) (e 2) (e 8) w) → (thenE (W12 k12_8 Q) Q) .normal e w := fun e w h => then_N (s12_8 (R := R) (Q := Q) hR e w h)
  exact rgA 13 (fun e w => m12_8 R (e 0) (e 2) (e 8) w) h hN
theorem s12_15 {R : VP} {Q : EQ} (hN : ∀ e w, (m12_7 R (e 0) (e 2) (e 8) (e 9) w) → Q .normal e w) (e : Env) (w : World) (h : m12_15 R (e 0) (e 1) (e 2) (e 8) (e 9) w) : W12 k12_15 Q e w := by
  unfold m12_15 at h
  exact rgA 12 (fun e w => m12_7 R (e 0) (e 2) (e 8) (e 9) w) h hN
theorem s12_14 {R : VP} {Q : EQ} (hN : ∀ e w, (m12_7 R (e 0) (e 2) (e 8) (e 9) w) → Q .normal e w) (e : Env) (w : World) (h : m12_14 R (e 0) (e 1) (e 2) (e 8) (e 9) (e 57) w) : W12 k12_14 Q e w := by
  unfold m12_14 at h
  refine coA (Operand.tmp 57) h (fun h1 => ?_) (fun h1 => ?_)
  · refine seA ?_
    have hN : ∀ e w, (m12_15 R (e 0) (e 1) (e 2) (e 8) (e 9) w) → (thenE (W12 k12_15 Q) Q) .normal e w := fun e w h => then_N (s12_15 (R := R) (Q := Q) hN e w h)
    exact rgA 11 (fun e w => m12_15 R (e 0) (e 1) (e 2) (e 8) (e 9) w) h1 hN
  · exact skA (hN _ _ h1)
theorem s12_6 {R : VP} {Q : EQ} (hR : ∀ e w, (R (e 6) w) → Q .ret e w) (e : Env) (w : World) (h : m12_6 R (e 0) (e 1) (e 2) (e 8) (e 9) w) : W12 k12_6 Q e w := by
  unfold m12_6 at h
  refine seA ?_
  have hN : ∀ e w, (m12_7 R (e 0) (e 2) (e 8) (e 9) w) → (thenE (W12 k12_7 Q) Q) .normal e w := fun e w h => then_N (s12_7 (R := R) (Q := Q) hR e w h)
  refine seA ?_
  have hN : ∀ e w, (m12_14 R (e 0) (e 1) (e 2) (e 8) (e 9) (e 57) w) → (thenE (W12 k12_14 (thenE (W12 k12_7 Q) Q)) (thenE (W12 k12_7 Q) Q)) .normal e w := fun e w h => then_N (s12_14 (R := R) (Q := (thenE (W12 k12_7 Q) Q)) hN e w h)
  exact rgA 10 (fun e w => m12_14 R (e 0) (e 1) (e 2) (e 8) (e 9) (e 57) w) h hN
theorem s12_16 {R : VP} {Q : EQ} (hN : ∀ e w, (m12_6 R (e 0) (e 1) (e 2) (e 8) (e 9) w) → Q .normal e w) (hR : ∀ e w, (R (e 6) w) → Q .ret e w) (e : Env) (w : World) (h : m12_16 R (e 0) (e 1) (e 2) (e 8) (e 9) (e 55) w) : W12 k12_16 Q e w := by
  unfold m12_16 at h
  refine coA (Operand.tmp 55) h (fun h1 => ?_) (fun h1 => ?_)
  · refine seA ?_
    have hN : ∀ e w, (m12_17 R (e 6) w) → (thenE (W12 k12_17 Q) Q) .normal e w := fun e w h => then_N (s12_17 (R := R) (Q := Q) hR e w h)
    exact rgA 9 (fun e w => m12_17 R (e 6) w) h1 hN
  · exact skA (hN _ _ h1)
theorem s12_5 {R : VP} {Q : EQ} (hR : ∀ e w, (R (e 6) w) → Q .ret e w) (e : Env) (w : World) (h : m12_5 R (e 0) (e 1) (e 2) (e 8) (e 9) w) : W12 k12_5 Q e w := by
  unfold m12_5 at h
  refine seA ?_
  have hN : ∀ e w, (m12_6 R (e 0) (e 1) (e 2) (e 8) (e 9) w) → (thenE (W12 k12_6 Q) Q) .normal e w := fun e w h => then_N (s12_6 (R := R) (Q := Q) hR e w h)
  have hR : ∀ e w, (R (e 6) w) → (thenE (W12 k12_6 Q) Q) .ret e w := fun e w h => then_R (hR e w h)
  refine seA ?_
  have hN : ∀ e w, (m12_16 R (e 0) (e 1) (e 2) (e 8) (e 9) (e 55) w) → (thenE (W12 k12_16 (thenE (W12 k12_6 Q) Q)) (thenE (W12 k12_6 Q) Q)) .normal e w := fun e w h => then_N (s12_16 (R := R) (Q := (thenE (W12 k12_6 Q) Q)) hN hR e w h)
  exact rgA 8 (fun e w => m12_16 R (e 0) (e 1) (e 2) (e 8) (e 9) (e 55) w) h hN
theorem s12_18 {R : VP} {Q : EQ} (hN : ∀ e w, (m12_5 R (e 0) (e 1) (e 2) (e 8) (e 9) w) → Q .normal e w) (e : Env) (w : World) (h : m12_18 R (e 0) (e 1) (e 2) (e 8) (e 9) (e 27) w) : W12 k12_18 Q e w := by
  unfold m12_18 at h
  refine coA (Operand.tmp 27) h (fun h1 => ?_) (fun h1 => ?_)
  · exact rgA 7 (fun e w => m12_5 R (e 0) (e 1) (e 2) (e 8) (e 9) w) h1 hN
  · exact skA (hN _ _ h1)
theorem s12_4 {R : VP} {Q : EQ} (hR : ∀ e w, (R (e 6) w) → Q .ret e w) (e : Env) (w : World) (h : m12_4 R (e 0) (e 1) (e 2) (e 8) (e 9) w) : W12 k12_4 Q e w := by
  unfold m12_4 at h
  refine seA ?_
  have hN : ∀ e w, (m12_5 R (e 0) (e 1) (e 2) (e 8) (e 9) w) → (thenE (W12 k12_5 Q) Q) .normal e w := fun e w h => then_N (s12_5 (R := R) (Q := Q) hR e w h)
  refine seA ?_
  have hN : ∀ e w, (m12_18 R (e 0) (e 1) (e 2) (e 8) (e 9) (e 27) w) → (thenE (W12 k12_18 (thenE (W12 k12_5 Q) Q)) (thenE (W12 k12_5 Q) Q)) .normal e w := fun e w h => then_N (s12_18 (R := R) (Q := (thenE (W12 k12_5 Q) Q)) hN e w h)
  exact rgA 6 (fun e w => m12_18 R (e 0) (e 1) (e 2) (e 8) (e 9) (e 27) w) h hN
theorem s12_3 {R : VP} {Q : EQ} (hR : ∀ e w, (R (e 6) w) → Q .ret e w) (e : Env) (w : World) (h : m12_3 R (e 0) (e 1) (e 2) (e 8) w) : W12 k12_3 Q e w := by
  unfold m12_3 at h
  refine seA ?_
  have hN : ∀ e w, (m12_4 R (e 0) (e 1) (e 2) (e 8) (e 9) w) → (thenE (W12 k12_4 Q) Q) .normal e w := fun e w h => then_N (s12_4 (R := R) (Q := Q) hR e w h)
  exact rgA 5 (fun e w => m12_4 R (e 0) (e 1) (e 2) (e 8) (e 9) w) h hN
theorem s12_2 {R : VP} {Q : EQ} (hR : ∀ e w, (R (e 6) w) → Q .ret e w) (e : Env) (w : World) (h : m12_2 R (e 0) (e 1) (e 2) w) : W12 k12_2 Q e w := by
  unfold m12_2 at h
  refine seA ?_
  have hN : ∀ e w, (m12_3 R (e 0) (e 1) (e 2) (e 8) w) → (thenE (W12 k12_3 Q) Q) .normal e w := fun e w h => then_N (s12_3 (R := R) (Q := Q) hR e w h)
  exact rgA 4 (fun e w => m12_3 R (e 0) (e 1) (e 2) (e 8) w) h hN
theorem s12_20 {R : VP} {Q : EQ} (hN : ∀ e w, (m12_2 R (e 0) (e 1) (e 2) w) → Q .normal e w) (hR : ∀ e w, (R (e 6) w) → Q .ret e w) (e : Env) (w : World) (h : m12_20 R (e 0) (e 1) (e 2) (e 7) (e 15) w) : W12 k12_20 Q e w := by
  unfold m12_20 at h
  refine coA (Operand.tmp 15) h (fun h1 => ?_) (fun h1 => ?_)
  · refine seA ?_
    have hN : ∀ e w, (m12_21 R (e 6) w) → (thenE (W12 k12_21 Q) Q) .normal e w := fun e w h => then_N (s12_21 (R := R) (Q := Q) hR e w h)
    exact rgA 3 (fun e w => m12_21 R (e 6) w) h1 hN
  · exact skA (hN _ _ h1)
theorem s12_19 {R : VP} {Q : EQ} (hN : ∀ e w, (m12_2 R (e 0) (e 1) (e 2) w) → Q .normal e w) (hR : ∀ e w, (R (e 6) w) → Q .ret e w) (e : Env) (w : World) (h : m12_19 R (e 0) (e 1) (e 2) (e 7) w) : W12 k12_19 Q e w := by
  unfold m12_19 at h
  refine seA ?_
  have hN : ∀ e w, (m12_20 R (e 0) (e 1) (e 2) (e 7) (e 15) w) → (thenE (W12 k12_20 Q) Q) .normal e w := fun e w h => then_N (s12_20 (R := R) (Q := Q) hN hR e w h)
  exact rgA 2 (fun e w => m12_20 R (e 0) (e 1) (e 2) (e 7) (e 15) w) h hN
theorem s12_1 {R : VP} {Q : EQ} (hR : ∀ e w, (R (e 6) w) → Q .ret e w) (e : Env) (w : World) (h : m12_1 R (e 0) (e 1) (e 2) w) : W12 k12_1 Q e w := by
  unfold m12_1 at h
  refine seA ?_
  have hN : ∀ e w, (m12_2 R (e 0) (e 1) (e 2) w) → (thenE (W12 k12_2 Q) Q) .normal e w := fun e w h => then_N (s12_2 (R := R) (Q := Q) hR e w h)
  have hR : ∀ e w, (R (e 6) w) → (thenE (W12 k12_2 Q) Q) .ret e w := fun e w h => then_R (hR e w h)
  refine seA ?_
  have hN : ∀ e w, (m12_19 R (e 0) (e 1) (e 2) (e 7) w) → (thenE (W12 k12_19 (thenE (W12 k12_2 Q) Q)) (thenE (W12 k12_2 Q) Q)) .normal e w := fun e w h => then_N (s12_19 (R := R) (Q := (thenE (W12 k12_2 Q) Q)) hN hR e w h)
  exact rgA 1 (fun e w => m12_19 R (e 0) (e 1) (e 2) (e 7) w) h hN
theorem s12_0 {R : VP} {Q : EQ} (hR : ∀ e w, (R (e 6) w) → Q .ret e w) (e : Env) (w : World) (h : m12_0 R (e 0) (e 1) (e 2) w) : W12 k12_0 Q e w := by
  unfold m12_0 at h
  refine seA ?_
  have hN : ∀ e w, (m12_1 R (e 0) (e 1) (e 2) w) → (thenE (W12 k12_1 Q) Q) .normal e w := fun e w h => then_N (s12_1 (R := R) (Q := Q) hR e w h)
  exact rgA 0 (fun e w => m12_1 R (e 0) (e 1) (e 2) w) h hN
abbrev m12 (R : VP) (d0 name1 s2 : Value) (w : World) : Prop := m12_0 R d0 name1 s2 w
theorem s12 (d0 name1 s2 : Value) {R : VP} {w : World} (h : m12 R d0 name1 s2 w) :
    Calls Tryd.prog 12 #[d0, name1, s2] w fun e w' => ∃ v, e = .returned v ∧ R v w' :=
  calls_of_cwp (st := (fun i => 0)) (c := k12_0) (by kernel_rfl) Tryd.func12 (by kernel_rfl) (Nat.le_of_ble_eq_true (by kernel_rfl)) (by kernel_rfl)
    (s12_0 (R := R) (Q := endE Tryd.prog Tryd.f12 R) (fun e w h => kcast (by kernel_rfl) h) (argsE #[d0, name1, s2]) w (kcast (by kernel_rfl) h))
/-! ### (*headgate/disk.Disk).Crash -/
def m14_7 (R : VP) (K1 : VP) (d0 keep1 t15 t16 t17 : Value) (w : World) : Prop :=
  valP Tryd.prog (binS BinOp.add 3 (Operand.tmp 17) (Operand.const (Value.int IntKind.i64 1)) t17 (Value.int IntKind.i64 1)) w fun t80 w =>
  K1 t80 w
def m14_13 (R : VP) (K1 : VP) (d0 keep1 f6 t15 t16 t17 : Value) (w : World) : Prop :=
  anyDraw w fun w =>
  nilCheckP d0 fun t71 =>
  pureP Tryd.prog (Instr.fieldAt 61 t71 1) fun t72 =>
  (valP Tryd.prog (Instr.loadAt 3 t72) w fun t73 w =>
  callP Tryd.prog (fnV 33) #[f6] w fun t75 w =>
  callP Tryd.prog (fnV 32) #[t75] w fun t76 w =>
  pureP Tryd.prog (binS BinOp.sub 3 (Operand.tmp 73) (Operand.tmp 76) t73 t76) fun t77 =>
  nilCheckP d0 fun t78 =>
  pureP Tryd.prog (Instr.fieldAt 61 t78 1) fun t79 =>
  unitP Tryd.prog (Instr.storeAt 3 t79 t77) w fun _ w =>
  m14_7 R K1 d0 keep1 t15 t16 t17 w) ∧ (callP Tryd.prog (fnV 33) #[f6] w fun t75 w =>
  (valP Tryd.prog (Instr.loadAt 3 t72) w fun t73 w =>
  callP Tryd.prog (fnV 32) #[t75] w fun t76 w =>
  pureP Tryd.prog (binS BinOp.sub 3 (Operand.tmp 73) (Operand.tmp 76) t73 t76) fun t77 =>
  nilCheckP d0 fun t78 =>
  pureP Tryd.prog (Instr.fieldAt 61 t78 1) fun t79 =>
  unitP Tryd.prog (Instr.storeAt 3 t79 t77) w fun _ w =>
  m14_7 R K1 d0 keep1 t15 t16 t17 w) ∧ (callP Tryd.prog (fnV 32) #[t75] w fun t76 w =>
  valP Tryd.prog (Instr.loadAt 3 t72) w fun t73 w =>
  pureP Tryd.prog (binS BinOp.sub 3 (Operand.tmp 73) (Operand.tmp 76) t73 t76) fun t77 =>
  nilCheckP d0 fun t78 =>
  pureP Tryd.prog (Instr.fieldAt 61 t78 1) fun t79 =>
  unitP Tryd.prog (Instr.storeAt 3 t79 t77) w fun _ w =>
  m14_7 R K1 d0 keep1 t15 t16 t17 w))
def m14_12 (R : VP) (K1 : VP) (d0 keep1 f6 k7 t15 t16 t17 : Value) (w : World) : Prop :=
  anyDraw w fun w =>
  nilCheckP f6 fun t56 =>
  pureP Tryd.prog (Instr.fieldAt 65 t56 0) fun t57 =>
  nilCheckP f6 fun t60 =>
  pureP Tryd.prog (Instr.fieldAt 65 t60 1) fun t61 =>
  (valP Tryd.prog (Instr.loadAt 9 t57) w fun t58 w =>
  valP Tryd.prog (Instr.loadAt 9 t61) w fun t62 w =>
  pureP Tryd.prog (Instr.sliceAt 9 t62 none (some k7) none) fun t64 =>
  pureP Tryd.prog (binS BinOp.add 9 (Operand.tmp 58) (Operand.tmp 64) t58 t64) fun t65 =>
  nilCheckP f6 fun t66 =>
  pureP Tryd.prog (Instr.fieldAt 65 t66 0) fun t67 =>
  unitP Tryd.prog (Instr.storeAt 9 t67 t65) w fun _ w =>
  nilCheckP f6 fun t68 =>
  pureP Tryd.prog (Instr.fieldAt 65 t68 1) fun t69 =>
  unitP Tryd.prog (Instr.storeAt 9 t69 (Value.string ⟨#[]⟩)) w fun _ w =>
  m14_13 R K1 d0 keep1 f6 t15 t16 t17 w) ∧ (valP Tryd.prog (Instr.loadAt 9 t61) w fun t62 w =>
  pureP Tryd.prog (Instr.sliceAt 9 t62 none (some k7) none) fun t64 =>
  valP Tryd.prog (Instr.loadAt 9 t57) w fun t58 w =>
  pureP Tryd.prog (binS BinOp.add 9 (Operand.tmp 58) (Operand.tmp 64) t58 t64) fun t65 =>
  nilCheckP f6 fun t66 =>
  pureP Tryd.prog (Instr.fieldAt 65 t66 0) fun t67 =>
  unitP Tryd.prog (Instr.storeAt 9 t67 t65) w fun _ w =>
  nilCheckP f6 fun t68 =>
  pureP Tryd.prog (Instr.fieldAt 65 t68 1) fun t69 =>
  unitP Tryd.prog (Instr.storeAt 9 t69 (Value.string ⟨#[]⟩)) w fun _ w =>
  m14_13 R K1 d0 keep1 f6 t15 t16 t17 w)
def m14_11 (R : VP) (K1 : VP) (d0 keep1 f6 k7 t15 t16 t17 : Value) (w : World) : Prop :=
  anyDraw w fun w =>
  nilCheckP d0 fun t44 =>
  pureP Tryd.prog (Instr.fieldAt 61 t44 1) fun t45 =>
  (valP Tryd.prog (Instr.loadAt 3 t45) w fun t46 w =>
  callP Tryd.prog (fnV 33) #[f6] w fun t48 w =>
  callP Tryd.prog (fnV 32) #[t48] w fun t49 w =>
  pureP Tryd.prog (binS BinOp.add 3 (Operand.tmp 46) (Operand.tmp 49) t46 t49) fun t50 =>
  nilCheckP d0 fun t51 =>
  pureP Tryd.prog (Instr.fieldAt 61 t51 1) fun t52 =>
  unitP Tryd.prog (Instr.storeAt 3 t52 t50) w fun _ w =>
  m14_12 R K1 d0 keep1 f6 k7 t15 t16 t17 w) ∧ (callP Tryd.prog (fnV 33) #[f6] w fun t48 w =>
  (valP Tryd.prog (Instr.loadAt 3 t45) w fun t46 w =>
  callP Tryd.prog (fnV 32) #[t48] w fun t49 w =>
  pureP Tryd.prog (binS BinOp.add 3 (Operand.tmp 46) (Operand.tmp 49) t46 t49) fun t50 =>
  nilCheckP d0 fun t51 =>
  pureP Tryd.prog (Instr.fieldAt 61 t51 1) fun t52 =>
  unitP Tryd.prog (Instr.storeAt 3 t52 t50) w fun _ w =>
  m14_12 R K1 d0 keep1 f6 k7 t15 t16 t17 w) ∧ (callP Tryd.prog (fnV 32) #[t48] w fun t49 w =>
  valP Tryd.prog (Instr.loadAt 3 t45) w fun t46 w =>
  pureP Tryd.prog (binS BinOp.add 3 (Operand.tmp 46) (Operand.tmp 49) t46 t49) fun t50 =>
  nilCheckP d0 fun t51 =>
  pureP Tryd.prog (Instr.fieldAt 61 t51 1) fun t52 =>
  unitP Tryd.prog (Instr.storeAt 3 t52 t50) w fun _ w =>
  m14_12 R K1 d0 keep1 f6 k7 t15 t16 t17 w))
def m14_14 (R : VP) (K1 : VP) (d0 keep1 i4 f6 k7 t15 t16 t17 t31 : Value) (w : World) : Prop :=
  condP t31
  (valQ Tryd.prog (Instr.indexAt 46 keep1 i4) w fun t34 =>
  valQ Tryd.prog (Instr.loadAt 3 t34) w fun t35 =>
  nilCheckP f6 fun t37 =>
  valQ Tryd.prog (Instr.fieldAt 65 t37 1) w fun t38 =>
  valQ Tryd.prog (Instr.loadAt 9 t38) w fun t39 =>
  builtinQ Tryd.prog Builtin.len #[9] 3 #[false] #[t39] w fun t40 =>
  builtinQ Tryd.prog Builtin.min #[3, 3] 3 #[false, false] #[t35, t40] w fun t41 =>
  builtinQ Tryd.prog Builtin.max #[3, 3] 3 #[true, false] #[(Value.int IntKind.i64 0), t41] w fun t42 =>
  anyDraw w fun w =>
  m14_11 R K1 d0 keep1 f6 t42 t15 t16 t17 w)
  (m14_11 R K1 d0 keep1 f6 k7 t15 t16 t17 w)
def m14_10 (R : VP) (K1 : VP) (d0 keep1 i4 f6 k7 t15 t16 t17 : Value) (w : World) : Prop :=
  builtinP Tryd.prog Builtin.len #[46] 3 #[false] #[keep1] w fun t30 w =>
  valP Tryd.prog (binS BinOp.lss 3 (Operand.tmp 28) (Operand.tmp 30) i4 t30) w fun t31 w =>
  m14_14 R K1 d0 keep1 i4 f6 k7 t15 t16 t17 t31 w
def m14_9 (R : VP) (K1 : VP) (d0 keep1 i4 f6 t15 t16 t17 : Value) (w : World) : Prop :=
  m14_10 R K1 d0 keep1 i4 f6 (Value.int IntKind.i64 0) t15 t16 t17 w
def m14_8 (R : VP) (K1 : VP) (d0 keep1 i4 name5 t15 t16 t17 : Value) (w : World) : Prop :=
  nilCheckP d0 fun t23 =>
  valP Tryd.prog (Instr.fieldAt 61 t23 0) w fun t24 w =>
  valP Tryd.prog (Instr.loadAt 59 t24) w fun t25 w =>
  valP Tryd.prog (Instr.lookup 59 t25 name5 false) w fun t27 w =>
  m14_9 R K1 d0 keep1 i4 t27 t15 t16 t17 w
def m14_6 (R : VP) (K1 : VP) (d0 keep1 t15 t16 t17 : Value) (w : World) : Prop :=
  valP Tryd.prog (Instr.indexAt 22 t15 t17) w fun t20 w =>
  valP Tryd.prog (Instr.loadAt 9 t20) w fun t21 w =>
  m14_8 R K1 d0 keep1 t17 t21 t15 t16 t17 w
def m14_2 (R : VP) (d0 : Value) (w : World) : Prop :=
  nilCheckP d0 fun t83 =>
  valP Tryd.prog (Instr.fieldAt 61 t83 3) w fun t84 w =>
  unitP Tryd.prog (Instr.storeAt 4 t84 (Value.bool false)) w fun _ w =>
  nilCheckP d0 fun t85 =>
  valP Tryd.prog (Instr.fieldAt 61 t85 2) w fun t86 w =>
  unitP Tryd.prog (Instr.storeAt 3 t86 (Value.int IntKind.i64 (-1))) w fun _ w =>
  R (Value.tuple #[]) w
def m14_5 (R : VP) (K1 : VP) (d0 keep1 t15 t16 t17 t18 : Value) (w : World) : Prop :=
  condP t18
  (m14_6 R K1 d0 keep1 t15 t16 t17 w)
  (m14_2 R d0 w)
def m14_4 (R : VP) (K1 : VP) (d0 keep1 t15 t16 t17 : Value) (w : World) : Prop :=
  valP Tryd.prog (binS BinOp.lss 3 (Operand.tmp 17) (Operand.tmp 16) t17 t16) w fun t18 w =>
  m14_5 R K1 d0 keep1 t15 t16 t17 t18 w
def m14_3 (R : VP) (d0 keep1 t15 t16 t17 : Value) (w : World) : Prop :=
  loopP (fun (K1 : VP) (s : Value) w => m14_4 R K1 d0 keep1 t15 t16 s w) t17 w
def m14_1 (R : VP) (d0 keep1 : Value) (w : World) : Prop :=
  nilCheckP d0 fun t11 =>
  valP Tryd.prog (Instr.fieldAt 61 t11 0) w fun t12 w =>
  valP Tryd.prog (Instr.loadAt 59 t12) w fun t13 w =>
  callP Tryd.prog (fnV 36) #[t13] w fun t14 w =>
  callP Tryd.prog (fnV 35) #[t14] w fun t15 w =>
  builtinP Tryd.prog Builtin.len #[22] 3 #[false] #[t15] w fun t16 w =>
  m14_3 R d0 keep1 t15 t16 (Value.int IntKind.i64 0) w
def m14_15 (R : VP) (d0 keep1 t9 : Value) (w : World) : Prop :=
  condP t9
  (R (Value.tuple #[]) w)
  (m14_1 R d0 keep1 w)
def m14_0 (R : VP) (d0 keep1 : Value) (w : World) : Prop :=
  valP Tryd.prog (binS BinOp.eql 23 (Operand.tmp 8) (Operand.const (Value.pointer none)) d0 (Value.pointer none)) w fun t9 w =>
  m14_15 R d0 keep1 t9 w
abbrev W14 := cwp Tryd.prog (fun i => cond (Nat.beq i 7) 1 (0))
noncomputable def k14_0 : Code := (bodyOf Tryd.f14)
noncomputable def k14_1 : Code := (c2 k14_0)
noncomputable def k14_2 : Code := (c2 k14_1)
noncomputable def k14_3 : Code := (c2 (c1 k14_1))
noncomputable def k14_4 : Code := (c1 (c1 k14_3))
noncomputable def k14_5 : Code := (c2 k14_4)
noncomputable def k14_6 : Code := (c2 k14_5)
noncomputable def k14_7 : Code := (c2 k14_6)
noncomputable def k14_8 : Code := (c2 (c1 (c1 k14_6)))
noncomputable def k14_9 : Code := (c2 k14_8)
noncomputable def k14_10 : Code := (c2 k14_9)
noncomputable def k14_11 : Code := (c2 k14_10)
noncomputable def k14_12 : Code := (c2 k14_11)
noncomputable def k14_13 : Code := (c2 k14_12)
noncomputable def k14_14 : Code := (c2 (c1 k14_10))
noncomputable def k14_15 : Code := (c2 (c1 k14_0))
theorem s14_7 {R : VP} {K1 : VP} {Q : EQ} (hN : ∀ e w, (K1 (e 17) w) → Q .normal e w) (e : Env) (w : World) (h : m14_7 R K1 (e 0) (e 1) (e 15) (e 16) (e 17) w) : W14 k14_7 Q e w := by
  unfold m14_7 at h
  exact rgA 11 (fun e w => K1 (e 17) w) h hN
theorem s14_13 {R : VP} {K1 : VP} {Q : EQ} (hN : ∀ e w, (m14_7 R K1 (e 0) (e 1) (e 15) (e 16) (e 17) w) → Q .normal e w) (e : Env) (w : World) (h : m14_13 R K1 (e 0) (e 1) (e 6) (e 15) (e 16) (e 17) w) : W14 k14_13 Q e w := by
  unfold m14_13 at h
  exact tree_ok 10 11 [false, false, false, false, false, false, false, false, false, false, false] (.take 0 [true, false, false, false, false, false, false, false, false, false, false] (.take 1 [true, true, false, false, false, false, false, false, false, false, false] (.take 2 [true, true, true, false, false, false, false, false, false, false, false] (.take 4 [true, true, true, false, true, false, false, false, false, false, false] (.alt 3 [true, true, true, true, true, false, false, false, false, false, false] (.alt 5 [true, true, true, true, true, true, false, false, false, false, false] (.alt 6 [true, true, true, true, true, true, true, false, false, false, false] (.take 7 [true, true, true, true, true, true, true, true, false, false, false] (.take 8 [true, true, true, true, true, true, true, true, true, false, false] (.take 9 [true, true, true, true, true, true, true, true, true, true, false] (.alt 10 [true, true, true, true, true, true, true, true, true, true, true] .done .stop)))) .stop) .stop) (.alt 5 [true, true, true, false, true, true, false, false, false, false, false] (.alt 3 [true, true, true, true, true, true, false, false, false, false, false] (.alt 6 [true, true, true, true, true, true, true, false, false, false, false] (.take 7 [true, true, true, true, true, true, true, true, false, false, false] (.take 8 [true, true, true, true, true, true, true, true, true, false, false] (.take 9 [true, true, true, true, true, true, true, true, true, true, false] (.alt 10 [true, true, true, true, true, true, true, true, true, true, true] .done .stop)))) .stop) (.alt 6 [true, true, true, false, true, true, true, false, false, false, false] (.alt 3 [true, true, true, true, true, true, true, false, false, false, false] (.take 7 [true, true, true, true, true, true, true, true, false, false, false] (.take 8 [true, true, true, true, true, true, true, true, true, false, false] (.take 9 [true, true, true, true, true, true, true, true, true, true, false] (.alt 10 [true, true, true, true, true, true, true, true, true, true, true] .done .stop)))) .stop) .stop)) .stop)))))) (fun e w => m14_7 R K1 (e 0) (e 1) (e 15) (e 16) (e 17) w) (by kernel_rfl) (by kernel_rfl) (by kernel_rfl) (by kernel_rfl) (by kernel_rfl) (by kernel_rfl) (kcast (by kernel_rfl) h) hN (by kernel_rfl)
theorem s14_12 {R : VP} {K1 : VP} {Q : EQ} (hN : ∀ e w, (m14_7 R K1 (e 0) (e 1) (e 15) (e 16) (e 17) w) → Q .normal e w) (e : Env) (w : World) (h : m14_12 R K1 (e 0) (e 1) (e 6) (e 7) (e 15) (e 16) (e 17) w) : W14 k14_12 Q e w := by
  unfold m14_12 at h
  refine seA ?_
  have hN : ∀ e w, (m14_13 R K1 (e 0) (e 1) (e 6) (e 15) (e 16) (e 17) w) → (thenE (W14 k14_13 Q) Q) .normal e w := fun e w h => then_N (s14_13 (R := R) (Q := Q) (K1 := K1) hN e w h)
  exact tree_ok 9 19 [false, false, false, false, false, false, false, false, false, false, false, false, false, false, false, false, false, false, false] (.take 0 [true, false, false, false, false, false, false, false, false, false, false, false, false, false, false, false, false, false, false] (.take 1 [true, true, false, false, false, false, false, false, false, false, false, false, false, false, false, false, false, false, false] (.take 2 [true, true, true, false, false, false, false, false, false, false, false, false, false, false, false, false, false, false, false] (.take 3 [true, true, true, true, false, false, false, false, false, false, false, false, false, false, false, false, false, false, false] (.take 4 [true, true, true, true, true, false, false, false, false, false, false, false, false, false, false, false, false, false, false] (.take 6 [true, true, true, true, true, false, true, false, false, false, false, false, false, false, false, false, false, false, false] (.take 7 [true, true, true, true, true, false, true, true, false, false, false, false, false, false, false, false, false, false, false] (.take 8 [true, true, true, true, true, false, true, true, true, false, false, false, false, false, false, false, false, false, false] (.take 10 [true, true, true, true, true, false, true, true, true, false, true, false, false, false, false, false, false, false, false] (.alt 5 [true, true, true, true, true, true, true, true, true, false, true, false, false, false, false, false, false, false, false] (.alt 9 [true, true, true, true, true, true, true, true, true, true, true, false, false, false, false, false, false, false, false] (.take 11 [true, true, true, true, true, true, true, true, true, true, true, true, false, false, false, false, false, false, false] (.take 12 [true, true, true, true, true, true, true, true, true, true, true, true, true, false, false, false, false, false, false] (.take 13 [true, true, true, true, true, true, true, true, true, true, true, true, true, true, false, false, false, false, false] (.take 14 [true, true, true, true, true, true, true, true, true, true, true, true, true, true, true, false, false, false, false] (.alt 15 [true, true, true, true, true, true, true, true, true, true, true, true, true, true, true, true, false, false, false] (.take 16 [true, true, true, true, true, true, true, true, true, true, true, true, true, true, true, true, true, false, false] (.take 17 [true, true, true, true, true, true, true, true, true, true, true, true, true, true, true, true, true, true, false] (.alt 18 [true, true, true, true, true, true, true, true, true, true, true, true, true, true, true, true, true, true, true] .done .stop))) .stop))))) .stop) (.alt 9 [true, true, true, true, true, false, true, true, true, true, true, false, false, false, false, false, false, false, false] (.take 11 [true, true, true, true, true, false, true, true, true, true, true, true, false, false, false, false, false, false, false] (.alt 5 [true, true, true, true, true, true, true, true, true, true, true, true, false, false, false, false, false, false, false] (.take 12 [true, true, true, true, true, true, true, true, true, true, true, true, true, false, false, false, false, false, false] (.take 13 [true, true, true, true, true, true, true, true, true, true, true, true, true, true, false, false, false, false, false] (.take 14 [true, true, true, true, true, true, true, true, true, true, true, true, true, true, true, false, false, false, false] (.alt 15 [true, true, true, true, true, true, true, true, true, true, true, true, true, true, true, true, false, false, false] (.take 16 [true, true, true, true, true, true, true, true, true, true, true, true, true, true, true, true, true, false, false] (.take 17 [true, true, true, true, true, true, true, true, true, true, true, true, true, true, true, true, true, true, false] (.alt 18 [true, true, true, true, true, true, true, true, true, true, true, true, true, true, true, true, true, true, true] .done .stop))) .stop)))) .stop)) .stop))))))))))) (fun e w => m14_13 R K1 (e 0) (e 1) (e 6) (e 15) (e 16) (e 17) w) (by kernel_rfl) (by kernel_rfl) (by kernel_rfl) (by kernel_rfl) (by kernel_rfl) (by kernel_rfl) (kcast (by kernel_rfl) h) hN (by kernel_rfl)
theorem s14_11 {R : VP} {K1 : VP} {Q : EQ} (hN : ∀ e w, (m14_7 R K1 (e 0) (e 1) (e 15) (e 16) (e 17) w) → Q .normal e w) (e : Env) (w : World) (h : m14_11 R K1 (e 0) (e 1) (e 6) (e 7) (e 15) (e 16) (e 17) w) : W14 k14_11 Q e w := by
  unfold m14_11 at h
  refine seA ?_
  have hN : ∀ e w, (m14_12 R K1 (e 0) (e 1) (e 6) (e 7) (e 15) (e 16) (e 17) w) → (thenE (W14 k14_12 Q) Q) .normal e w := fun e w h => then_N (s14_12 (R := R) (Q := Q) (K1 := K1) hN e w h)
  exact tree_ok 8 11 [false, false, false, false, false, false, false, false, false, false, false] (.take 0 [true, false, false, false, false, false, false, false, false, false, false] (.take 1 [true, true, false, false, false, false, false, false, false, false, false] (.take 2 [true, true, true, false, false, false, false, false, false, false, false] (.take 4 [true, true, true, false, true, false, false, false, false, false, false] (.alt 3 [true, true, true, true, true, false, false, false, false, false, false] (.alt 5 [true, true, true, true, true, true, false, false, false, false, false] (.alt 6 [true, true, true, true, true, true, true, false, false, false, false] (.take 7 [true, true, true, true, true, true, true, true, false, false, false] (.take 8 [true, true, true, true, true, true, true, true, true, false, false] (.take 9 [true, true, true, true, true, true, true, true, true, true, false] (.alt 10 [true, true, true, true, true, true, true, true, true, true, true] .done .stop)))) .stop) .stop) (.alt 5 [true, true, true, false, true, true, false, false, false, false, false] (.alt 3 [true, true, true, true, true, true, false, false, false, false, false] (.alt 6 [true, true, true, true, true, true, true, false, false, false, false] (.take 7 [true, true, true, true, true, true, true, true, false, false, false] (.take 8 [true, true, true, true, true, true, true, true, true, false, false] (.take 9 [true, true, true, true, true, true, true, true, true, true, false] (.alt 10 [true, true, true, true, true, true, true, true, true, true, true] .done .stop)))) .stop) (.alt 6 [true, true, true, false, true, true, true, false, false, false, false] (.alt 3 [true, true, true, true, true, true, true, false, false, false, false] (.take 7 [true, true, true, true, true, true, true, true, false, false, false] (.take 8 [true, true, true, true, true, true, true, true, true, false, false] (.take 9 [true, true, true, true, true, true, true, true, true, true, false] (.alt 10 [true, true, true, true, true, true, true, true, true, true, true] .done .stop)))) .stop) .stop)) .stop)))))) (fun e w => m14_12 R K1 (e 0) (e 1) (e 6) (e 7) (e 15) (e 16) (e 17) w) (by kernel_rfl) (by kernel_rfl) (by kernel_rfl) (by kernel_rfl) (by kernel_rfl) (by kernel_rfl) (kcast (by kernel_rfl) h) hN (by kernel_rfl)
theorem s14_14 {R : VP} {K1 : VP} {Q : EQ} (hN : ∀ e w, (m14_11 R K1 (e 0) (e 1) (e 6) (e 7) (e 15) (e 16) (e 17) w) → Q .normal e w) (e : Env) (w : World) (h : m14_14 R K1 (e 0) (e 1) (e 4) (e 6) (e 7) (e 15) (e 16) (e 17) (e 31) w) : W14 k14_14 Q e w := by
  unfold m14_14 at h
  refine coA (Operand.tmp 31) h (fun h1 => ?_) (fun h1 => ?_)
  · exact quA 7 (fun e w => m14_11 R K1 (e 0) (e 1) (e 6) (e 7) (e 15) (e 16) (e 17) w) h1 hN
  · exact skA (hN _ _ h1)
theorem s14_10 {R : VP} {K1 : VP} {Q : EQ} (hN : ∀ e w, (m14_7 R K1 (e 0) (e 1) (e 15) (e 16) (e 17) w) → Q .normal e w) (e : Env) (w : World) (h : m14_10 R K1 (e 0) (e 1) (e 4) (e 6) (e 7) (e 15) (e 16) (e 17) w) : W14 k14_10 Q e w := by
  unfold m14_10 at h
  refine seA ?_
  have hN : ∀ e w, (m14_11 R K1 (e 0) (e 1) (e 6) (e 7) (e 15) (e 16) (e 17) w) → (thenE (W14 k14_11 Q) Q) .normal e w := fun e w h => then_N (s14_11 (R := R) (Q := Q) (K1 := K1) hN e w h)
  refine seA ?_
  have hN : ∀ e w, (m14_14 R K1 (e 0) (e 1) (e 4) (e 6) (e 7) (e 15) (e 16) (e 17) (e 31) w) → (thenE (W14 k14_14 (thenE (W14 k14_11 Q) Q)) (thenE (W14 k14_11 Q) Q)) .normal e w := fun e w h => then_N (s14_14 (R := R) (Q := (thenE (W14 k14_11 Q) Q)) (K1 := K1) hN e w h)
  exact rgA 6 (fun e w => m14_14 R K1 (e 0) (e 1) (e 4) (e 6) (e 7) (e 15) (e 16) (e 17) (e 31) w) h hN
theorem s14_9 {R : VP} {K1 : VP} {Q : EQ} (hN : ∀ e w, (m14_7 R K1 (e 0) (e 1) (e 15) (e 16) (e 17) w) → Q .normal e w) (e : Env) (w : World) (h : m14_9 R K1 (e 0) (e 1) (e 4) (e 6) (e 15) (e 16) (e 17) w) : W14 k14_9 Q e w := by
  unfold m14_9 at h
  refine seA ?_
  have hN : ∀ e w, (m14_10 R K1 (e 0) (e 1) (e 4) (e 6) (e 7) (e 15) (e 16) (e 17) w) → (thenE (W14 k14_10 Q) Q) .normal e w := fun e w h => then_N (s14_10 (R := R) (Q := Q) (K1 := K1) hN e w h)
  exact rgA 5 (fun e w => m14_10 R K1 (e 0) (e 1) (e 4) (e 6) (e 7) (e 15) (e 16) (e 17) w) h hN
theorem s14_8 {R : VP} {K1 : VP} {Q : EQ} (hN : ∀ e w, (m14_7 R K1 (e 0) (e 1) (e 15) (e 16) (e 17) w) → Q .normal e w) (e : Env) (w : World) (h : m14_8 R K1 (e 0) (e 1) (e 4) (e 5) (e 15) (e 16) (e 17) w) : W14 k14_8 Q e w := by
  unfold m14_8 at h
  refine seA ?_
  have hN : ∀ e w, (m14_9 R K1 (e 0) (e 1) (e 4) (e 6) (e 15) (e 16) (e 17) w) → (thenE (W14 k14_9 Q) Q) .normal e w := fun e w h => then_N (s14_9 (R := R) (Q := Q) (K1 := K1) hN e w h)
  exact rgA 4 (fun e w => m14_9 R K1 (e 0) (e 1) (e 4) (e 6) (e 15) (e 16) (e 17) w) h hN
theorem s14_6 {R : VP} {K1 : VP} {Q : EQ} (hN : ∀ e w, (K1 (e 17) w) → Q .normal e w) (e : Env) (w : World) (h : m14_6 R K1 (e 0) (e 1) (e 15) (e 16) (e 17) w) : W14 k14_6 Q e w := by
  unfold m14_6 at h
  refine seA ?_
  have hN : ∀ e w, (m14_7 R K1 (e 0) (e 1) (e 15) (e 16) (e 17) w) → (thenE (W14 k14_7 Q) Q) .normal e w := fun e w h => then_N (s14_7 (R := R) (Q := Q) (K1 := K1) hN e w h)
  refine block_ok 1 (by kernel_rfl) ?_
  have hN : ∀ e w, (m14_7 R K1 (e 0) (e 1) (e 15) (e 16) (e 17) w) → (inBlockE 1 (thenE (W14 k14_7 Q) Q)) .normal e w := fun e w h => block_N (hN e w h)
  refine seA ?_
  have hN : ∀ e w, (m14_8 R K1 (e 0) (e 1) (e 4) (e 5) (e 15) (e 16) (e 17) w) → (thenE (W14 k14_8 (inBlockE 1 (thenE (W14 k14_7 Q) Q))) (inBlockE 1 (thenE (W14 k14_7 Q) Q))) .normal e w := fun e w h => then_N (s14_8 (R := R) (Q := (inBlockE 1 (thenE (W14 k14_7 Q) Q))) (K1 := K1) hN e w h)
  exact rgA 3 (fun e w => m14_8 R K1 (e 0) (e 1) (e 4) (e 5) (e 15) (e 16) (e 17) w) h hN
theorem s14_2 {R : VP} {Q : EQ} (hN : ∀ e w, (R (Value.tuple #[]) w) → Q .normal e w) (e : Env) (w : World) (h : m14_2 R (e 0) w) : W14 k14_2 Q e w := by
  unfold m14_2 at h
  exact rgA 12 (fun e w => R (Value.tuple #[]) w) h hN
theorem s14_5 {R : VP} {K1 : VP} {Q : EQ} (hN : ∀ e w, (K1 (e 17) w) → Q .normal e w) (hX0 : ∀ e w, (m14_2 R (e 0) w) → Q (.exit 0) e w) (e : Env) (w : World) (h : m14_5 R K1 (e 0) (e 1) (e 15) (e 16) (e 17) (e 18) w) : W14 k14_5 Q e w := by
  unfold m14_5 at h
  refine seA ?_
  have hN : ∀ e w, (m14_6 R K1 (e 0) (e 1) (e 15) (e 16) (e 17) w) → (thenE (W14 k14_6 Q) Q) .normal e w := fun e w h => then_N (s14_6 (R := R) (Q := Q) (K1 := K1) hN e w h)
  have hX0 : ∀ e w, (m14_2 R (e 0) w) → (thenE (W14 k14_6 Q) Q) (.exit 0) e w := fun e w h => then_X (hX0 e w h)
  refine coA (Operand.tmp 18) h (fun h1 => ?_) (fun h1 => ?_)
  · exact skA (hN _ _ h1)
  · exact exA 0 (hX0 _ _ h1)
theorem s14_4 {R : VP} {K1 : VP} {Q : EQ} (hN : ∀ e w, (K1 (e 17) w) → Q .normal e w) (hX0 : ∀ e w, (m14_2 R (e 0) w) → Q (.exit 0) e w) (e : Env) (w : World) (h : m14_4 R K1 (e 0) (e 1) (e 15) (e 16) (e 17) w) : W14 k14_4 Q e w := by
  unfold m14_4 at h
  refine seA ?_
  have hN : ∀ e w, (m14_5 R K1 (e 0) (e 1) (e 15) (e 16) (e 17) (e 18) w) → (thenE (W14 k14_5 Q) Q) .normal e w := fun e w h => then_N (s14_5 (R := R) (Q := Q) (K1 := K1) hN hX0 e w h)
  exact rgA 2 (fun e w => m14_5 R K1 (e 0) (e 1) (e 15) (e 16) (e 17) (e 18) w) h hN
theorem s14_3 {R : VP} {Q : EQ} (hN : ∀ e w, (m14_2 R (e 0) w) → Q .normal e w) (e : Env) (w : World) (h : m14_3 R (e 0) (e 1) (e 15) (e 16) (e 17) w) : W14 k14_3 Q e w := by
  unfold m14_3 at h
  refine block_ok 0 (by kernel_rfl) ?_
  have hX0 : ∀ e w, (m14_2 R (e 0) w) → (inBlockE 0 Q) (.exit 0) e w := fun e w h => inBlock_same (Q := Q) 0 (hN e w h)
  refine loop_ok' (fun (e : Env) => e 17) [0, 1, 15, 16] (by kernel_rfl) (by kernel_rfl) h (fun K e' w' hk h' => ?_)
  have r0 : e' 0 = e 0 := hk 0 (by decide)
  have r1 : e' 1 = e 1 := hk 1 (by decide)
  have r15 : e' 15 = e 15 := hk 15 (by decide)
  have r16 : e' 16 = e 16 := hk 16 (by decide)
  have hX0 : ∀ e w, (m14_2 R (e 0) w) → (thenE (fun (e : Env) w => K (e 17) w) (inBlockE 0 Q)) (.exit 0) e w := fun e w h => then_X (hX0 e w h)
  exact s14_4 (R := R) (Q := (thenE (fun (e : Env) w => K (e 17) w) (inBlockE 0 Q))) (K1 := K) (fun _ _ h => then_N h) hX0 e' w' (by rw [r0, r1, r15, r16]; exact h')
theorem s14_1 {R : VP} {Q : EQ} (hN : ∀ e w, (R (Value.tuple #[]) w) → Q .normal e w) (e : Env) (w : World) (h : m14_1 R (e 0) (e 1) w) : W14 k14_1 Q e w := by
  unfold m14_1 at h
  refine seA ?_
  have hN : ∀ e w, (m14_2 R (e 0) w) → (thenE (W14 k14_2 Q) Q) .normal e w := fun e w h => then_N (s14_2 (R := R) (Q := Q) hN e w h)
  refine seA ?_
  have hN : ∀ e w, (m14_3 R (e 0) (e 1) (e 15) (e 16) (e 17) w) → (thenE (W14 k14_3 (thenE (W14 k14_2 Q) Q)) (thenE (W14 k14_2 Q) Q)) .normal e w := fun e w h => then_N (s14_3 (R := R) (Q := (thenE (W14 k14_2 Q) Q)) hN e w h)
  exact rgA 1 (fun e w => m14_3 R (e 0) (e 1) (e 15) (e 16) (e 17) w) h hN
theorem s14_15 {R : VP} {Q : EQ} (hN : ∀ e w, (m14_1 R (e 0) (e 1) w) → Q .normal e w) (hR : ∀ e w, (R (Value.tuple #[]) w) → Q .ret e w) (e : Env) (w : World) (h : m14_15 R (e 0) (e 1) (e 9) w) : W14 k14_15 Q e w := by
  unfold m14_15 at h
  refine coA (Operand.tmp 9) h (fun h1 => ?_) (fun h1 => ?_)
  · exact reA (hR _ _ h1)
  · exact skA (hN _ _ h1)
theorem s14_0 {R : VP} {Q : EQ} (hN : ∀ e w, (R (Value.tuple #[]) w) → Q .normal e w) (hR : ∀ e w, (R (Value.tuple #[]) w) → Q .ret e w) (e : Env) (w : World) (h : m14_0 R (e 0) (e 1) w) : W14 k14_0 Q e w := by
  unfold m14_0 at h
  refine seA ?_
  have hN : ∀ e w, (m14_1 R (e 0) (e 1) w) → (thenE (W14 k14_1 Q) Q) .normal e w := fun e w h => then_N (s14_1 (R := R) (Q := Q) hN e w h)
  have hR : ∀ e w, (R (Value.tuple #[]) w) → (thenE (W14 k14_1 Q) Q) .ret e w := fun e w h => then_R (hR e w h)
  refine seA ?_
  have hN : ∀ e w, (m14_15 R (e 0) (e 1) (e 9) w) → (thenE (W14 k14_15 (thenE (W14 k14_1 Q) Q)) (thenE (W14 k14_1 Q) Q)) .normal e w := fun e w h => then_N (s14_15 (R := R) (Q := (thenE (W14 k14_1 Q) Q)) hN hR e w h)
  exact rgA 0 (fun e w => m14_15 R (e 0) (e 1) (e 9) w) h hN
abbrev m14 (R : VP) (d0 keep1 : Value) (w : World) : Prop := m14_0 R d0 keep1 w
theorem s14 (d0 keep1 : Value) {R : VP} {w : World} (h : m14 R d0 keep1 w) :
    Calls Tryd.prog 14 #[d0, keep1] w fun e w' => ∃ v, e = .returned v ∧ R v w' :=
  calls_of_cwp (st := (fun i => cond (Nat.beq i 7) 1 (0))) (c := k14_0) (by kernel_rfl) Tryd.func14 (by kernel_rfl) (Nat.le_of_ble_eq_true (by kernel_rfl)) (by kernel_rfl)
    (s14_0 (R := R) (Q := endE Tryd.prog Tryd.f14 R) (fun e w h => kcast (by kernel_rfl) h) (fun e w h => kcast (by kernel_rfl) h) (argsE #[d0, keep1]) w (kcast (by kernel_rfl) h))
/-! ### (*headgate/disk.Disk).Read -/
def m15_10 (R : VP) (t4 t5 : Value) (w : World) : Prop :=
  R (Value.tuple #[t4, t5]) w
def m15_7 (R : VP) (t4 t5 : Value) (w : World) : Prop :=
  R (Value.tuple #[t4, t5]) w
def m15_5 (R : VP) (t4 t5 : Value) (w : World) : Prop :=
  R (Value.tuple #[t4, t5]) w
def m15_4 (R : VP) (f7 : Value) (w : World) : Prop :=
  nilCheckP f7 fun t24 =>
  valQ Tryd.prog (Instr.fieldAt 65 t24 0) w fun t25 =>
  valQ Tryd.prog (Instr.loadAt 9 t25) w fun t26 =>
  nilCheckP f7 fun t28 =>
  valQ Tryd.prog (Instr.fieldAt 65 t28 1) w fun t29 =>
  valQ Tryd.prog (Instr.loadAt 9 t29) w fun t30 =>
  valQ Tryd.prog (binS BinOp.add 9 (Operand.tmp 26) (Operand.tmp 30) t26 t30) w fun t31 =>
  anyDraw w fun w =>
  m15_5 R t31 (Value.int IntKind.i64 0) w
def m15_6 (R : VP) (f7 t22 : Value) (w : World) : Prop :=
  condP t22
  (m15_7 R (Value.string ⟨#[]⟩) (Value.int IntKind.i64 3) w)
  (m15_4 R f7 w)
def m15_3 (R : VP) (f7 : Value) (w : World) : Prop :=
  valP Tryd.prog (binS BinOp.eql 63 (Operand.tmp 21) (Operand.const (Value.pointer none)) f7 (Value.pointer none)) w fun t22 w =>
  m15_6 R f7 t22 w
def m15_2 (R : VP) (d0 name1 : Value) (w : World) : Prop :=
  nilCheckP d0 fun t16 =>
  valP Tryd.prog (Instr.fieldAt 61 t16 0) w fun t17 w =>
  valP Tryd.prog (Instr.loadAt 59 t17) w fun t18 w =>
  valP Tryd.prog (Instr.lookup 59 t18 name1 false) w fun t20 w =>
  m15_3 R t20 w
def m15_9 (R : VP) (d0 name1 e6 t13 : Value) (w : World) : Prop :=
  condP t13
  (m15_10 R (Value.string ⟨#[]⟩) e6 w)
  (m15_2 R d0 name1 w)
def m15_8 (R : VP) (d0 name1 e6 : Value) (w : World) : Prop :=
  valP Tryd.prog (binS BinOp.neq 24 (Operand.tmp 12) (Operand.const (Value.int IntKind.i64 0)) e6 (Value.int IntKind.i64 0)) w fun t13 w =>
  m15_9 R d0 name1 e6 t13 w
def m15_1 (R : VP) (d0 name1 : Value) (w : World) : Prop :=
  valP Tryd.prog (Instr.buildSlice 22 1 #[(0, name1)]) w fun t10 w =>
  callP Tryd.prog (fnV 31) #[d0, t10] w fun t11 w =>
  m15_8 R d0 name1 t11 w
def m15_0 (R : VP) (d0 name1 : Value) (w : World) : Prop :=
  m15_1 R d0 name1 w
abbrev W15 := cwp Tryd.prog (fun i => cond (Nat.beq i 7) 1 (0))
noncomputable def k15_0 : Code := (bodyOf Tryd.f15)
noncomputable def k15_1 : Code := (c2 k15_0)
noncomputable def k15_2 : Code := (c2 k15_1)
noncomputable def k15_3 : Code := (c2 k15_2)
noncomputable def k15_4 : Code := (c2 k15_3)
noncomputable def k15_5 : Code := (c2 k15_4)
noncomputable def k15_6 : Code := (c2 (c1 k15_3))
noncomputable def k15_7 : Code := (c2 (c1 k15_6))
noncomputable def k15_8 : Code := (c2 (c1 k15_1))
noncomputable def k15_9 : Code := (c2 k15_8)
noncomputable def k15_10 : Code := (c2 (c1 k15_9))
theorem s15_10 {R : VP} {Q : EQ} (hR : ∀ e w, (R (Value.tuple #[(e 4), (e 5)]) w) → Q .ret e w) (e : Env) (w : World) (h : m15_10 R (e 4) (e 5) w) : W15 k15_10 Q e w := by
  unfold m15_10 at h
  exact reA (hR _ _ h)
theorem s15_7 {R : VP} {Q : EQ} (hR : ∀ e w, (R (Value.tuple #[(e 4), (e 5)]) w) → Q .ret e w) (e : Env) (w : World) (h : m15_7 R (e 4) (e 5) w) : W15 k15_7 Q e w := by
  unfold m15_7 at h
  exact reA (hR _ _ h)
theorem s15_5 {R : VP} {Q : EQ} (hR : ∀ e w, (R (Value.tuple #[(e 4), (e 5)]) w) → Q .ret e w) (e : Env) (w : World) (h : m15_5 R (e 4) (e 5) w) : W15 k15_5 Q e w := by
  unfold m15_5 at h
  exact reA (hR _ _ h)
theorem s15_4 {R : VP} {Q : EQ} (hR : ∀ e w, (R (Value.tuple #[(e 4), (e 5)]) w) → Q .ret e w) (e : Env) (w : World) (h : m15_4 R (e 7) w) : W15 k15_4 Q e w := by
  unfold m15_4 at h
  refine seA ?_
  have hN : ∀ e w, (m15_5 R (e 4) (e 5) w) → (thenE (W15 k15_5 Q) Q) .normal e w := fun e w h => then_N (s15_5 (R := R) (Q := Q) hR e w h)
  exact quA 7 (fun e w => m15_5 R (e 4) (e 5) w) h hN
theorem s15_6 {R : VP} {Q : EQ} (hN : ∀ e w, (m15_4 R (e 7) w) → Q .normal e w) (hR : ∀ e w, (R (Value.tuple #[(e 4), (e 5)]) w) → Q .ret e w) (e : Env) (w : World) (h : m15_6 R (e 7) (e 22) w) : W15 k15_6 Q e w := by
  unfold m15_6 at h
  refine coA (Operand.tmp 22) h (fun h1 => ?_) (fun h1 => ?_)
  · refine seA ?_
    have hN : ∀ e w, (m15_7 R (e 4) (e 5) w) → (thenE (W15 k15_7 Q) Q) .normal e w := fun e w h => then_N (s15_7 (R := R) (Q := Q) hR e w h)
    exact rgA 6 (fun e w => m15_7 R (e 4) (e 5) w) h1 hN
  · exact skA (hN _ _ h1)
theorem s15_3 {R : VP} {Q : EQ} (hR : ∀ e w, (R (Value.tuple #[(e 4), (e 5)]) w) → Q .ret e w) (e : Env) (w : World) (h : m15_3 R (e 7) w) : W15 k15_3 Q e w := by
  unfold m15_3 at h
  refine seA ?_
  have hN : ∀ e w, (m15_4 R (e 7) w) → (thenE (W15 k15_4 Q) Q) .normal e w := fun e w h => then_N (s15_4 (R := R) (Q := Q) hR e w h)
  have hR : ∀ e w, (R (Value.tuple #[(e 4), (e 5)]) w) → (thenE (W15 k15_4 Q) Q) .ret e w := fun e w h => then_R (hR e w h)
  refine seA ?_
  have hN : ∀ e w, (m15_6 R (e 7) (e 22) w) → (thenE (W15 k15_6 (thenE (W15 k15_4 Q) Q)) (thenE (W15 k15_4 Q) Q)) .normal e w := fun e w h => then_N (s15_6 (R := R) (Q := (thenE (W15 k15_4 Q) Q)) hN hR e w h)
  exact rgA 5 (fun e w => m15_6 R (e 7) (e 22) w) h hN
theorem s15_2 {R : VP} {Q : EQ} (hR : ∀ e w, (R (Value.tuple #[(e 4), (e 5)]) w) → Q .ret e w) (e : Env) (w : World) (h : m15_2 R (e 0) (e 1) w) : W15 k15_2 Q e w := by
  unfold m15_2 at h
  refine seA ?_
  have hN : ∀ e w, (m15_3 R (e 7) w) → (thenE (W15 k15_3 Q) Q) .normal e w := fun e w h => then_N (s15_3 (R := R) (Q := Q) hR e w h)
  exact rgA 4 (fun e w => m15_3 R (e 7) w) h hN
theorem s15_9 {R : VP} {Q : EQ} (hN : ∀ e w, (m15_2 R (e 0) (e 1) w) → Q .normal e w) (hR : ∀ e w, (R (Value.tuple #[(e 4), (e 5)]) w) → Q .ret e w) (e : Env) (w : World) (h : m15_9 R (e 0) (e 1) (e 6) (e 13) w) : W15 k15_9 Q e w := by
  unfold m15_9 at h
  refine coA (Operand.tmp 13) h (fun h1 => ?_) (fun h1 => ?_)
  · refine seA ?_
    have hN : ∀ e w, (m15_10 R (e 4) (e 5) w) → (thenE (W15 k15_10 Q) Q) .normal e w := fun e w h => then_N (s15_10 (R := R) (Q := Q) hR e w h)
    exact rgA 3 (fun e w => m15_10 R (e 4) (e 5) w) h1 hN
  · exact skA (hN _ _ h1)
theorem s15_8 {R : VP} {Q : EQ} (hN : ∀ e w, (m15_2 R (e 0) (e 1) w) → Q .normal e w) (hR : ∀ e w, (R (Value.tuple #[(e 4), (e 5)]) w) → Q .ret e w) (e : Env) (w : World) (h : m15_8 R (e 0) (e 1) (e 6) w) : W15 k15_8 Q e w := by
  unfold m15_8 at h
  refine seA ?_
  have hN : ∀ e w, (m15_9 R (e 0) (e 1) (e 6) (e 13) w) → (thenE (W15 k15_9 Q) Q) .normal e w := fun e w h => then_N (s15_9 (R := R) (Q := Q) hN hR e w h)
  exact rgA 2 (fun e w => m15_9 R (e 0) (e 1) (e 6) (e 13) w) h hN
theorem s15_1 {R : VP} {Q : EQ} (hR : ∀ e w, (R (Value.tuple #[(e 4), (e 5)]) w) → Q .ret e w) (e : Env) (w : World) (h : m15_1 R (e 0) (e 1) w) : W15 k15_1 Q e w := by
  unfold m15_1 at h
  refine seA ?_
  have hN : ∀ e w, (m15_2 R (e 0) (e 1) w) → (thenE (W15 k15_2 Q) Q) .normal e w := fun e w h => then_N (s15_2 (R := R) (Q := Q) hR e w h)
  have hR : ∀ e w, (R (Value.tuple #[(e 4), (e 5)]) w) → (thenE (W15 k15_2 Q) Q) .ret e w := fun e w h => then_R (hR e w h)
  refine seA ?_
  have hN : ∀ e w, (m15_8 R (e 0) (e 1) (e 6) w) → (thenE (W15 k15_8 (thenE (W15 k15_2 Q) Q)) (thenE (W15 k15_2 Q) Q)) .normal e w := fun e w h => then_N (s15_8 (R := R) (Q := (thenE (W15 k15_2 Q) Q)) hN hR e w h)
  exact rgA 1 (fun e w => m15_8 R (e 0) (e 1) (e 6) w) h hN
theorem s15_0 {R : VP} {Q : EQ} (hR : ∀ e w, (R (Value.tuple #[(e 4), (e 5)]) w) → Q .ret e w) (e : Env) (w : World) (h : m15_0 R (e 0) (e 1) w) : W15 k15_0 Q e w := by
  unfold m15_0 at h
  refine seA ?_
  have hN : ∀ e w, (m15_1 R (e 0) (e 1) w) → (thenE (W15 k15_1 Q) Q) .normal e w := fun e w h => then_N (s15_1 (R := R) (Q := Q) hR e w h)
  exact rgA 0 (fun e w => m15_1 R (e 0) (e 1) w) h hN
abbrev m15 (R : VP) (d0 name1 : Value) (w : World) : Prop := m15_0 R d0 name1 w
theorem s15 (d0 name1 : Value) {R : VP} {w : World} (h : m15 R d0 name1 w) :
    Calls Tryd.prog 15 #[d0, name1] w fun e w' => ∃ v, e = .returned v ∧ R v w' :=
  calls_of_cwp (st := (fun i => cond (Nat.beq i 7) 1 (0))) (c := k15_0) (by kernel_rfl) Tryd.func15 (by kernel_rfl) (Nat.le_of_ble_eq_true (by kernel_rfl)) (by kernel_rfl)
    (s15_0 (R := R) (Q := endE Tryd.prog Tryd.f15 R) (fun e w h => kcast (by kernel_rfl) h) (argsE #[d0, name1]) w (kcast (by kernel_rfl) h))
/-! ### (*headgate/disk.Disk).Files -/
def m20_14 (R : VP) (t2 : Value) (w : World) : Prop :=
  R t2 w
def m20_10 (R : VP) (K1 : (Value × Value) → World → Prop) (d0 l3 t15 t16 t17 : Value) (w : World) : Prop :=
  valP Tryd.prog (binS BinOp.add 3 (Operand.tmp 17) (Operand.const (Value.int IntKind.i64 1)) t17 (Value.int IntKind.i64 1)) w fun t40 w =>
  K1 (l3, t40) w
def m20_12 (R : VP) (K1 : (Value × Value) → World → Prop) (d0 l3 name5 f6 t15 t16 t17 : Value) (w : World) : Prop :=
  anyDraw w fun w =>
  heldP w fun J =>
  nilCheckP f6 fun t30 =>
  valJ Tryd.prog J (Instr.fieldAt 65 t30 0) fun t31 =>
  valJ Tryd.prog J (Instr.loadAt 9 t31) fun t32 =>
  nilCheckP f6 fun t34 =>
  valJ Tryd.prog J (Instr.fieldAt 65 t34 1) fun t35 =>
  valJ Tryd.prog J (Instr.loadAt 9 t35) fun t36 =>
  valJ Tryd.prog J (Instr.build 42 #[(0, name5), (1, t32), (2, t36)]) fun t37 =>
  valP Tryd.prog (Instr.buildSlice 38 1 #[(0, t37)]) w fun t38 w =>
  stayP J w
  (builtinP Tryd.prog Builtin.append #[38, 38] 38 #[false, false] #[l3, t38] w fun t39 w =>
  stayP J w
  (m20_10 R K1 d0 t39 t15 t16 t17 w))
def m20_11 (R : VP) (K1 : (Value × Value) → World → Prop) (d0 l3 name5 t15 t16 t17 : Value) (w : World) : Prop :=
  nilCheckP d0 fun t22 =>
  valP Tryd.prog (Instr.fieldAt 61 t22 0) w fun t23 w =>
  valP Tryd.prog (Instr.loadAt 59 t23) w fun t24 w =>
  valP Tryd.prog (Instr.lookup 59 t24 name5 false) w fun t26 w =>
  m20_12 R K1 d0 l3 name5 t26 t15 t16 t17 w
def m20_9 (R : VP) (K1 : (Value × Value) → World → Prop) (d0 l3 t15 t16 t17 : Value) (w : World) : Prop :=
  valP Tryd.prog (Instr.indexAt 22 t15 t17) w fun t19 w =>
  valP Tryd.prog (Instr.loadAt 9 t19) w fun t20 w =>
  m20_11 R K1 d0 l3 t20 t15 t16 t17 w
def m20_5 (R : VP) (t2 : Value) (w : World) : Prop :=
  R t2 w
def m20_4 (R : VP) (l3 : Value) (w : World) : Prop :=
  m20_5 R l3 w
def m20_8 (R : VP) (K1 : (Value × Value) → World → Prop) (d0 l3 t15 t16 t17 t18 : Value) (w : World) : Prop :=
  condP t18
  (m20_9 R K1 d0 l3 t15 t16 t17 w)
  (m20_4 R l3 w)
def m20_7 (R : VP) (K1 : (Value × Value) → World → Prop) (d0 l3 t15 t16 t17 : Value) (w : World) : Prop :=
  valP Tryd.prog (binS BinOp.lss 3 (Operand.tmp 17) (Operand.tmp 16) t17 t16) w fun t18 w =>
  m20_8 R K1 d0 l3 t15 t16 t17 t18 w
def m20_6 (R : VP) (d0 l3 t15 t16 t17 : Value) (w : World) : Prop :=
  loopP (fun (K1 : (Value × Value) → World → Prop) (s : Value × Value) w => m20_7 R K1 d0 s.1 t15 t16 s.2 w) (l3, t17) w
def m20_3 (R : VP) (d0 l3 : Value) (w : World) : Prop :=
  nilCheckP d0 fun t11 =>
  valP Tryd.prog (Instr.fieldAt 61 t11 0) w fun t12 w =>
  valP Tryd.prog (Instr.loadAt 59 t12) w fun t13 w =>
  callP Tryd.prog (fnV 36) #[t13] w fun t14 w =>
  callP Tryd.prog (fnV 35) #[t14] w fun t15 w =>
  builtinP Tryd.prog Builtin.len #[22] 3 #[false] #[t15] w fun t16 w =>
  m20_6 R d0 l3 t15 t16 (Value.int IntKind.i64 0) w
def m20_13 (R : VP) (d0 l3 t8 : Value) (w : World) : Prop :=
  condP t8
  (m20_14 R l3 w)
  (m20_3 R d0 l3 w)
def m20_2 (R : VP) (d0 l3 : Value) (w : World) : Prop :=
  valP Tryd.prog (binS BinOp.eql 23 (Operand.tmp 7) (Operand.const (Value.pointer none)) d0 (Value.pointer none)) w fun t8 w =>
  m20_13 R d0 l3 t8 w
def m20_1 (R : VP) (d0 : Value) (w : World) : Prop :=
  m20_2 R d0 (Value.slice none 0 0) w
def m20_0 (R : VP) (d0 : Value) (w : World) : Prop :=
  m20_1 R d0 w
abbrev W20 := cwp Tryd.prog (fun i => 0)
noncomputable def k20_0 : Code := (bodyOf Tryd.f20)
noncomputable def k20_1 : Code := (c2 k20_0)
noncomputable def k20_2 : Code := (c2 k20_1)
noncomputable def k20_3 : Code := (c2 k20_2)
noncomputable def k20_4 : Code := (c2 k20_3)
noncomputable def k20_5 : Code := (c2 k20_4)
noncomputable def k20_6 : Code := (c2 (c1 k20_3))
noncomputable def k20_7 : Code := (c1 (c1 k20_6))
noncomputable def k20_8 : Code := (c2 k20_7)
noncomputable def k20_9 : Code := (c2 k20_8)
noncomputable def k20_10 : Code := (c2 k20_9)
noncomputable def k20_11 : Code := (c2 (c1 (c1 k20_9)))
noncomputable def k20_12 : Code := (c2 k20_11)
noncomputable def k20_13 : Code := (c2 (c1 k20_2))
noncomputable def k20_14 : Code := (c2 (c1 k20_13))
theorem s20_14 {R : VP} {Q : EQ} (hR : ∀ e w, (R (e 2) w) → Q .ret e w) (e : Env) (w : World) (h : m20_14 R (e 2) w) : W20 k20_14 Q e w := by
  unfold m20_14 at h
  exact reA (hR _ _ h)
theorem s20_10 {R : VP} {K1 : (Value × Value) → World → Prop} {Q : EQ} (hN : ∀ e w, (K1 ((e 3), (e 17)) w) → Q .normal e w) (e : Env) (w : World) (h : m20_10 R K1 (e 0) (e 3) (e 15) (e 16) (e 17) w) : W20 k20_10 Q e w := by
  unfold m20_10 at h
  exact rgA 9 (fun e w => K1 ((e 3), (e 17)) w) h hN
theorem s20_12 {R : VP} {K1 : (Value × Value) → World → Prop} {Q : EQ} (hN : ∀ e w, (m20_10 R K1 (e 0) (e 3) (e 15) (e 16) (e 17) w) → Q .normal e w) (e : Env) (w : World) (h : m20_12 R K1 (e 0) (e 3) (e 5) (e 6) (e 15) (e 16) (e 17) w) : W20 k20_12 Q e w := by
  unfold m20_12 at h
  exact treeJ_ok 8 14 [false, false, false, false, false, false, false, false, false, false, false, false, false, false] (.take 0 [true, false, false, false, false, false, false, false, false, false, false, false, false, false] (.take 1 [true, true, false, false, false, false, false, false, false, false, false, false, false, false] (.take 2 [true, true, true, false, false, false, false, false, false, false, false, false, false, false] (.take 3 [true, true, true, true, false, false, false, false, false, false, false, false, false, false] (.take 4 [true, true, true, true, true, false, false, false, false, false, false, false, false, false] (.take 5 [true, true, true, true, true, true, false, false, false, false, false, false, false, false] (.take 6 [true, true, true, true, true, true, true, false, false, false, false, false, false, false] (.take 7 [true, true, true, true, true, true, true, true, false, false, false, false, false, false] (.take 8 [true, true, true, true, true, true, true, true, true, false, false, false, false, false] (.take 9 [true, true, true, true, true, true, true, true, true, true, false, false, false, false] (.take 10 [true, true, true, true, true, true, true, true, true, true, true, false, false, false] (.alt 11 [true, true, true, true, true, true, true, true, true, true, true, true, false, false] (.alt 12 [true, true, true, true, true, true, true, true, true, true, true, true, true, false] (.take 13 [true, true, true, true, true, true, true, true, true, true, true, true, true, true] .done) .stop) .stop)))))))))))) (fun e w => m20_10 R K1 (e 0) (e 3) (e 15) (e 16) (e 17) w) (by kernel_rfl) (by kernel_rfl) (by kernel_rfl) (by kernel_rfl) (by kernel_rfl) (by kernel_rfl) (kcast (by kernel_rfl) h) hN (by kernel_rfl)
theorem s20_11 {R : VP} {K1 : (Value × Value) → World → Prop} {Q : EQ} (hN : ∀ e w, (m20_10 R K1 (e 0) (e 3) (e 15) (e 16) (e 17) w) → Q .normal e w) (e : Env) (w : World) (h : m20_11 R K1 (e 0) (e 3) (e 5) (e 15) (e 16) (e 17) w) : W20 k20_11 Q e w := by
  unfold m20_11 at h
  refine seA ?_
  have hN : ∀ e w, (m20_12 R K1 (e 0) (e 3) (e 5) (e 6) (e 15) (e 16) (e 17) w) → (thenE (W20 k20_12 Q) Q) .normal e w := fun e w h => then_N (s20_12 (R := R) (Q := Q) (K1 := K1) hN e w h)
  exact rgA 7 (fun e w => m20_12 R K1 (e 0) (e 3) (e 5) (e 6) (e 15) (e 16) (e 17) w) h hN
theorem s20_9 {R : VP} {K1 : (Value × Value) → World → Prop} {Q : EQ} (hN : ∀ e w, (K1 ((e 3), (e 17)) w) → Q .normal e w) (e : Env) (w : World) (h : m20_9 R K1 (e 0) (e 3) (e 15) (e 16) (e 17) w) : W20 k20_9 Q e w := by
  unfold m20_9 at h
  refine seA ?_
  have hN : ∀ e w, (m20_10 R K1 (e 0) (e 3) (e 15) (e 16) (e 17) w) → (thenE (W20 k20_10 Q) Q) .normal e w := fun e w h => then_N (s20_10 (R := R) (Q := Q) (K1 := K1) hN e w h)
  refine block_ok 1 (by kernel_rfl) ?_
  have hN : ∀ e w, (m20_10 R K1 (e 0) (e 3) (e 15) (e 16) (e 17) w) → (inBlockE 1 (thenE (W20 k20_10 Q) Q)) .normal e w := fun e w h => block_N (hN e w h)
  refine seA ?_
  have hN : ∀ e w, (m20_11 R K1 (e 0) (e 3) (e 5) (e 15) (e 16) (e 17) w) → (thenE (W20 k20_11 (inBlockE 1 (thenE (W20 k20_10 Q) Q))) (inBlockE 1 (thenE (W20 k20_10 Q) Q))) .normal e w := fun e w h => then_N (s20_11 (R := R) (Q := (inBlockE 1 (thenE (W20 k20_10 Q) Q))) (K1 := K1) hN e w h)
  exact rgA 6 (fun e w => m20_11 R K1 (e 0) (e 3) (e 5) (e 15) (e 16) (e 17) w) h hN
theorem s20_5 {R : VP} {Q : EQ} (hR : ∀ e w, (R (e 2) w) → Q .ret e w) (e : Env) (w : World) (h : m20_5 R (e 2) w) : W20 k20_5 Q e w := by
  unfold m20_5 at h
  exact reA (hR _ _ h)
theorem s20_4 {R : VP} {Q : EQ} (hR : ∀ e w, (R (e 2) w) → Q .ret e w) (e : Env) (w : World) (h : m20_4 R (e 3) w) : W20 k20_4 Q e w := by
  unfold m20_4 at h
  refine seA ?_
  have hN : ∀ e w, (m20_5 R (e 2) w) → (thenE (W20 k20_5 Q) Q) .normal e w := fun e w h => then_N (s20_5 (R := R) (Q := Q) hR e w h)
  exact rgA 10 (fun e w => m20_5 R (e 2) w) h hN
theorem s20_8 {R : VP} {K1 : (Value × Value) → World → Prop} {Q : EQ} (hN : ∀ e w, (K1 ((e 3), (e 17)) w) → Q .normal e w) (hX0 : ∀ e w, (m20_4 R (e 3) w) → Q (.exit 0) e w) (e : Env) (w : World) (h : m20_8 R K1 (e 0) (e 3) (e 15) (e 16) (e 17) (e 18) w) : W20 k20_8 Q e w := by
  unfold m20_8 at h
  refine seA ?_
  have hN : ∀ e w, (m20_9 R K1 (e 0) (e 3) (e 15) (e 16) (e 17) w) → (thenE (W20 k20_9 Q) Q) .normal e w := fun e w h => then_N (s20_9 (R := R) (Q := Q) (K1 := K1) hN e w h)
  have hX0 : ∀ e w, (m20_4 R (e 3) w) → (thenE (W20 k20_9 Q) Q) (.exit 0) e w := fun e w h => then_X (hX0 e w h)
  refine coA (Operand.tmp 18) h (fun h1 => ?_) (fun h1 => ?_)
  · exact skA (hN _ _ h1)
  · exact exA 0 (hX0 _ _ h1)
theorem s20_7 {R : VP} {K1 : (Value × Value) → World → Prop} {Q : EQ} (hN : ∀ e w, (K1 ((e 3), (e 17)) w) → Q .normal e w) (hX0 : ∀ e w, (m20_4 R (e 3) w) → Q (.exit 0) e w) (e : Env) (w : World) (h : m20_7 R K1 (e 0) (e 3) (e 15) (e 16) (e 17) w) : W20 k20_7 Q e w := by
  unfold m20_7 at h
  refine seA ?_
  have hN : ∀ e w, (m20_8 R K1 (e 0) (e 3) (e 15) (e 16) (e 17) (e 18) w) → (thenE (W20 k20_8 Q) Q) .normal e w := fun e w h => then_N (s20_8 (R := R) (Q := Q) (K1 := K1) hN hX0 e w h)
  exact rgA 5 (fun e w => m20_8 R K1 (e 0) (e 3) (e 15) (e 16) (e 17) (e 18) w) h hN
theorem s20_6 {R : VP} {Q : EQ} (hN : ∀ e w, (m20_4 R (e 3) w) → Q .normal e w) (e : Env) (w : World) (h : m20_6 R (e 0) (e 3) (e 15) (e 16) (e 17) w) : W20 k20_6 Q e w := by
  unfold m20_6 at h
  refine block_ok 0 (by kernel_rfl) ?_
  have hX0 : ∀ e w, (m20_4 R (e 3) w) → (inBlockE 0 Q) (.exit 0) e w := fun e w h => inBlock_same (Q := Q) 0 (hN e w h)
  refine loop_ok' (fun (e : Env) => (e 3, e 17)) [0, 15, 16] (by kernel_rfl) (by kernel_rfl) h (fun K e' w' hk h' => ?_)
  have r0 : e' 0 = e 0 := hk 0 (by decide)
  have r15 : e' 15 = e 15 := hk 15 (by decide)
  have r16 : e' 16 = e 16 := hk 16 (by decide)
  have hX0 : ∀ e w, (m20_4 R (e 3) w) → (thenE (fun (e : Env) w => K ((e 3), (e 17)) w) (inBlockE 0 Q)) (.exit 0) e w := fun e w h => then_X (hX0 e w h)
  exact s20_7 (R := R) (Q := (thenE (fun (e : Env) w => K ((e 3), (e 17)) w) (inBlockE 0 Q))) (K1 := K) (fun _ _ h => then_N h) hX0 e' w' (by rw [r0, r15, r16]; exact h')
theorem s20_3 {R : VP} {Q : EQ} (hR : ∀ e w, (R (e 2) w) → Q .ret e w) (e : Env) (w : World) (h : m20_3 R (e 0) (e 3) w) : W20 k20_3 Q e w := by
  unfold m20_3 at h
  refine seA ?_
  have hN : ∀ e w, (m20_4 R (e 3) w) → (thenE (W20 k20_4 Q) Q) .normal e w := fun e w h => then_N (s20_4 (R := R) (Q := Q) hR e w h)
  refine seA ?_
  have hN : ∀ e w, (m20_6 R (e 0) (e 3) (e 15) (e 16) (e 17) w) → (thenE (W20 k20_6 (thenE (W20 k20_4 Q) Q)) (thenE (W20 k20_4 Q) Q)) .normal e w := fun e w h => then_N (s20_6 (R := R) (Q := (thenE (W20 k20_4 Q) Q)) hN e w h)
  exact rgA 4 (fun e w => m20_6 R (e 0) (e 3) (e 15) (e 16) (e 17) w) h hN
theorem s20_13 {R : VP} {Q : EQ} (hN : ∀ e w, (m20_3 R (e 0) (e 3) w) → Q .normal e w) (hR : ∀ e w, (R (e 2) w) → Q .ret e w) (e : Env) (w : World) (h : m20_13 R (e 0) (e 3) (e 8) w) : W20 k20_13 Q e w := by
  unfold m20_13 at h
  refine coA (Operand.tmp 8) h (fun h1 => ?_) (fun h1 => ?_)
  · refine seA ?_
    have hN : ∀ e w, (m20_14 R (e 2) w) → (thenE (W20 k20_14 Q) Q) .normal e w := fun e w h => then_N (s20_14 (R := R) (Q := Q) hR e w h)
    exact rgA 3 (fun e w => m20_14 R (e 2) w) h1 hN
  · exact skA (hN _ _ h1)
theorem s20_2 {R : VP} {Q : EQ} (hR : ∀ e w, (R (e 2) w) → Q .ret e w) (e : Env) (w : World) (h : m20_2 R (e 0) (e 3) w) : W20 k20_2 Q e w := by
  unfold m20_2 at h
  refine seA ?_
  have hN : ∀ e w, (m20_3 R (e 0) (e 3) w) → (thenE (W20 k20_3 Q) Q) .normal e w := fun e w h => then_N (s20_3 (R := R) (Q := Q) hR e w h)
  have hR : ∀ e w, (R (e 2) w) → (thenE (W20 k20_3 Q) Q) .ret e w := fun e w h => then_R (hR e w h)
  refine seA ?_
  have hN : ∀ e w, (m20_13 R (e 0) (e 3) (e 8) w) → (thenE (W20 k20_13 (thenE (W20 k20_3 Q) Q)) (thenE (W20 k20_3 Q) Q)) .normal e w := fun e w h => then_N (s20_13 (R := R) (Q := (thenE (W20 k20_3 Q) Q)) hN hR e w h)
  exact rgA 2 (fun e w => m20_13 R (e 0) (e 3) (e 8) w) h hN
theorem s20_1 {R : VP} {Q : EQ} (hR : ∀ e w, (R (e 2) w) → Q .ret e w) (e : Env) (w : World) (h : m20_1 R (e 0) w) : W20 k20_1 Q e w := by
  unfold m20_1 at h
  refine seA ?_
  have hN : ∀ e w, (m20_2 R (e 0) (e 3) w) → (thenE (W20 k20_2 Q) Q) .normal e w := fun e w h => then_N (s20_2 (R := R) (Q := Q) hR e w h)
  exact rgA 1 (fun e w => m20_2 R (e 0) (e 3) w) h hN
theorem s20_0 {R : VP} {Q : EQ} (hR : ∀ e w, (R (e 2) w) → Q .ret e w) (e : Env) (w : World) (h : m20_0 R (e 0) w) : W20 k20_0 Q e w := by
  unfold m20_0 at h
  refine seA ?_
  have hN : ∀ e w, (m20_1 R (e 0) w) → (thenE (W20 k20_1 Q) Q) .normal e w := fun e w h => then_N (s20_1 (R := R) (Q := Q) hR e w h)
  exact rgA 0 (fun e w => m20_1 R (e 0) w) h hN
abbrev m20 (R : VP) (d0 : Value) (w : World) : Prop := m20_0 R d0 w
theorem s20 (d0 : Value) {R : VP} {w : World} (h : m20 R d0 w) :
    Calls Tryd.prog 20 #[d0] w fun e w' => ∃ v, e = .returned v ∧ R v w' :=
  calls_of_cwp (st := (fun i => 0)) (c := k20_0) (by kernel_rfl) Tryd.func20 (by kernel_rfl) (Nat.le_of_ble_eq_true (by kernel_rfl)) (by kernel_rfl)
    (s20_0 (R := R) (Q := endE Tryd.prog Tryd.f20 R) (fun e w h => kcast (by kernel_rfl) h) (argsE #[d0]) w (kcast (by kernel_rfl) h))
/-! ### (*headgate/disk.Disk).Rename -/
def m22_6 (R : VP) (t6 : Value) (w : World) : Prop :=
  R t6 w
def m22_3 (R : VP) (t6 : Value) (w : World) : Prop :=
  R t6 w
def m22_2 (R : VP) (d3 from4 to5 : Value) (w : World) : Prop :=
  valP Tryd.prog (Instr.loadAt 23 d3) w fun t16 w =>
  valP Tryd.prog (Instr.loadAt 9 from4) w fun t17 w =>
  valP Tryd.prog (Instr.makeFunc (Fn.func 38) #[] #[d3, to5, from4]) w fun t18 w =>
  callP Tryd.prog (fnV 37) #[t16, t17, t18] w fun t19 w =>
  m22_3 R t19 w
def m22_5 (R : VP) (d3 from4 to5 e7 t14 : Value) (w : World) : Prop :=
  condP t14
  (m22_6 R e7 w)
  (m22_2 R d3 from4 to5 w)
def m22_4 (R : VP) (d3 from4 to5 e7 : Value) (w : World) : Prop :=
  valP Tryd.prog (binS BinOp.neq 24 (Operand.tmp 13) (Operand.const (Value.int IntKind.i64 0)) e7 (Value.int IntKind.i64 0)) w fun t14 w =>
  m22_5 R d3 from4 to5 e7 t14 w
def m22_1 (R : VP) (d3 from4 to5 : Value) (w : World) : Prop :=
  valP Tryd.prog (Instr.loadAt 23 d3) w fun t8 w =>
  valP Tryd.prog (Instr.loadAt 9 from4) w fun t9 w =>
  valP Tryd.prog (Instr.loadAt 9 to5) w fun t10 w =>
  valP Tryd.prog (Instr.buildSlice 22 2 #[(0, t9), (1, t10)]) w fun t11 w =>
  callP Tryd.prog (fnV 31) #[t8, t11] w fun t12 w =>
  m22_4 R d3 from4 to5 t12 w
def m22_0 (R : VP) (d0 from1 to2 : Value) (w : World) : Prop :=
  valP Tryd.prog (Instr.box 23 d0) w fun d3 w =>
  valP Tryd.prog (Instr.box 9 from1) w fun from4 w =>
  valP Tryd.prog (Instr.box 9 to2) w fun to5 w =>
  m22_1 R d3 from4 to5 w
abbrev W22 := cwp Tryd.prog (fun i => 0)
noncomputable def k22_0 : Code := (bodyOf Tryd.f22)
noncomputable def k22_1 : Code := (c2 k22_0)
noncomputable def k22_2 : Code := (c2 k22_1)
noncomputable def k22_3 : Code := (c2 k22_2)
noncomputable def k22_4 : Code := (c2 (c1 k22_1))
noncomputable def k22_5 : Code := (c2 k22_4)
noncomputable def k22_6 : Code := (c2 (c1 k22_5))
theorem s22_6 {R : VP} {Q : EQ} (hR : ∀ e w, (R (e 6) w) → Q .ret e w) (e : Env) (w : World) (h : m22_6 R (e 6) w) : W22 k22_6 Q e w := by
  unfold m22_6 at h
  exact reA (hR _ _ h)
theorem s22_3 {R : VP} {Q : EQ} (hR : ∀ e w, (R (e 6) w) → Q .ret e w) (e : Env) (w : World) (h : m22_3 R (e 6) w) : W22 k22_3 Q e w := by
  unfold m22_3 at h
  exact reA (hR _ _ h)
theorem s22_2 {R : VP} {Q : EQ} (hR : ∀ e w, (R (e 6) w) → Q .ret e w) (e : Env) (w : World) (h : m22_2 R (e 3) (e 4) (e 5) w) : W22 k22_2 Q e w := by
  unfold m22_2 at h
  refine seA ?_
  have hN : ∀ e w, (m22_3 R (e 6) w) → (thenE (W22 k22_3 Q) Q) .normal e w := fun e w h => then_N (s22_3 (R := R) (Q := Q) hR e w h)
  exact rgA 4 (fun e w => m22_3 R (e 6) w) h hN
theorem s22_5 {R : VP} {Q : EQ} (hN : ∀ e w, (m22_2 R (e 3) (e 4) (e 5) w) → Q .normal e w) (hR : ∀ e w, (R (e 6) w) → Q .ret e w) (e : Env) (w : World) (h : m22_5 R (e 3) (e 4) (e 5) (e 7) (e 14) w) : W22 k22_5 Q e w := by
  unfold m22_5 at h
  refine coA (Operand.tmp 14) h (fun h1 => ?_) (fun h1 => ?_)
  · refine seA ?_
    have hN : ∀ e w, (m22_6 R (e 6) w) → (thenE (W22 k22_6 Q) Q) .normal e w := fun e w h => then_N (s22_6 (R := R) (Q := Q) hR e w h)
    exact rgA 3 (fun e w => m22_6 R (e 6) w) h1 hN
  · exact skA (hN _ _ h1)
theorem s22_4 {R : VP} {Q : EQ} (hN : ∀ e w, (m22_2 R (e 3) (e 4) (e 5) w) → Q .normal e w) (hR : ∀ e w, (R (e 6) w) → Q .ret e w) (e : Env) (w : World) (h : m22_4 R (e 3) (e 4) (e 5) (e 7) w) : W22 k22_4 Q e w := by
  unfold m22_4 at h
  refine seA ?_
  have hN : ∀ e w, (m22_5 R (e 3) (e 4) (e 5) (e 7) (e 14) w) → (thenE (W22 k22_5 Q) Q) .normal e w := fun e w h => then_N (s22_5 (R := R) (Q := Q) hN hR e w h)
  exact rgA 2 (fun e w => m22_5 R (e 3) (e 4) (e 5) (e 7) (e 14) w) h hN
theorem s22_1 {R : VP} {Q : EQ} (hR : ∀ e w, (R (e 6) w) → Q .ret e w) (e : Env) (w : World) (h : m22_1 R (e 3) (e 4) (e 5) w) : W22 k22_1 Q e w := by
  unfold m22_1 at h
  refine seA ?_
  have hN : ∀ e w, (m22_2 R (e 3) (e 4) (e 5) w) → (thenE (W22 k22_2 Q) Q) .normal e w := fun e w h => then_N (s22_2 (R := R) (Q := Q) hR e w h)
  have hR : ∀ e w, (R (e 6) w) → (thenE (W22 k22_2 Q) Q) .ret e w := fun e w h => then_R (hR e w h)
  refine seA ?_
  have hN : ∀ e w, (m22_4 R (e 3) (e 4) (e 5) (e 7) w) → (thenE (W22 k22_4 (thenE (W22 k22_2 Q) Q)) (thenE (W22 k22_2 Q) Q)) .normal e w := fun e w h => then_N (s22_4 (R := R) (Q := (thenE (W22 k22_2 Q) Q)) hN hR e w h)
  exact rgA 1 (fun e w => m22_4 R (e 3) (e 4) (e 5) (e 7) w) h hN
theorem s22_0 {R : VP} {Q : EQ} (hR : ∀ e w, (R (e 6) w) → Q .ret e w) (e : Env) (w : World) (h : m22_0 R (e 0) (e 1) (e 2) w) : W22 k22_0 Q e w := by
  unfold m22_0 at h
  refine seA ?_
  have hN : ∀ e w, (m22_1 R (e 3) (e 4) (e 5) w) → (thenE (W22 k22_1 Q) Q) .normal e w := fun e w h => then_N (s22_1 (R := R) (Q := Q) hR e w h)
  exact rgA 0 (fun e w => m22_1 R (e 3) (e 4) (e 5) w) h hN
abbrev m22 (R : VP) (d0 from1 to2 : Value) (w : World) : Prop := m22_0 R d0 from1 to2 w
theorem s22 (d0 from1 to2 : Value) {R : VP} {w : World} (h : m22 R d0 from1 to2 w) :
    Calls Tryd.prog 22 #[d0, from1, to2] w fun e w' => ∃ v, e = .returned v ∧ R v w' :=
  calls_of_cwp (st := (fun i => 0)) (c := k22_0) (by kernel_rfl) Tryd.func22 (by kernel_rfl) (Nat.le_of_ble_eq_true (by kernel_rfl)) (by kernel_rfl)
    (s22_0 (R := R) (Q := endE Tryd.prog Tryd.f22 R) (fun e w h => kcast (by kernel_rfl) h) (argsE #[d0, from1, to2]) w (kcast (by kernel_rfl) h))
/-! ### (*headgate/disk.Disk).Truncate -/
def m29_10 (R : VP) (t6 : Value) (w : World) : Prop :=
  R t6 w
def m29_7 (R : VP) (t6 : Value) (w : World) : Prop :=
  R t6 w
def m29_4 (R : VP) (t6 : Value) (w : World) : Prop :=
  R t6 w
def m29_3 (R : VP) (name1 d3 n5 : Value) (w : World) : Prop :=
  valP Tryd.prog (Instr.loadAt 23 d3) w fun t34 w =>
  valP Tryd.prog (Instr.makeFunc (Fn.func 40) #[] #[d3, n5]) w fun t36 w =>
  callP Tryd.prog (fnV 37) #[t34, name1, t36] w fun t37 w =>
  m29_4 R t37 w
def m29_6 (R : VP) (name1 d3 n5 t33 : Value) (w : World) : Prop :=
  condP t33
  (m29_7 R (Value.int IntKind.i64 6) w)
  (m29_3 R name1 d3 n5 w)
def m29_5 (R : VP) (name1 d3 n5 f8 : Value) (w : World) : Prop :=
  anyDraw w fun w =>
  heldP w fun J =>
  valJ Tryd.prog J (binS BinOp.neq 63 (Operand.tmp 22) (Operand.const (Value.pointer none)) f8 (Value.pointer none)) fun t23 =>
  condP t23
  (valJ Tryd.prog J (Instr.loadAt 3 n5) fun t25 =>
  valJ Tryd.prog J (binS BinOp.lss 3 (Operand.tmp 25) (Operand.const (Value.int IntKind.i64 0)) t25 (Value.int IntKind.i64 0)) fun t26 =>
  condP t26
  (pickP t26 (Value.bool true) undef fun t32 =>
  pickP t23 t32 (Value.bool false) fun t33 =>
  m29_6 R name1 d3 n5 t33 w)
  (valJ Tryd.prog J (Instr.loadAt 3 n5) fun t28 =>
  callP Tryd.prog (fnV 33) #[f8] w fun t30 w =>
  stayP J w
  (valJ Tryd.prog J (binS BinOp.gtr 3 (Operand.tmp 28) (Operand.tmp 30) t28 t30) fun t31 =>
  pickP t26 (Value.bool true) t31 fun t32 =>
  pickP t23 t32 (Value.bool false) fun t33 =>
  m29_6 R name1 d3 n5 t33 w)))
  (pickP t23 undef (Value.bool false) fun t33 =>
  m29_6 R name1 d3 n5 t33 w)
def m29_2 (R : VP) (name1 d3 n5 : Value) (w : World) : Prop :=
  valP Tryd.prog (Instr.loadAt 23 d3) w fun t16 w =>
  nilCheckP t16 fun t17 =>
  valP Tryd.prog (Instr.fieldAt 61 t17 0) w fun t18 w =>
  valP Tryd.prog (Instr.loadAt 59 t18) w fun t19 w =>
  valP Tryd.prog (Instr.lookup 59 t19 name1 false) w fun t21 w =>
  m29_5 R name1 d3 n5 t21 w
def m29_9 (R : VP) (name1 d3 n5 e7 t14 : Value) (w : World) : Prop :=
  condP t14
  (m29_10 R e7 w)
  (m29_2 R name1 d3 n5 w)
def m29_8 (R : VP) (name1 d3 n5 e7 : Value) (w : World) : Prop :=
  valP Tryd.prog (binS BinOp.neq 24 (Operand.tmp 13) (Operand.const (Value.int IntKind.i64 0)) e7 (Value.int IntKind.i64 0)) w fun t14 w =>
  m29_9 R name1 d3 n5 e7 t14 w
def m29_1 (R : VP) (name1 d3 n5 : Value) (w : World) : Prop :=
  valP Tryd.prog (Instr.loadAt 23 d3) w fun t9 w =>
  valP Tryd.prog (Instr.buildSlice 22 1 #[(0, name1)]) w fun t11 w =>
  callP Tryd.prog (fnV 31) #[t9, t11] w fun t12 w =>
  m29_8 R name1 d3 n5 t12 w
def m29_0 (R : VP) (d0 name1 n2 : Value) (w : World) : Prop :=
  valP Tryd.prog (Instr.box 23 d0) w fun d3 w =>
  valP Tryd.prog (Instr.box 3 n2) w fun n5 w =>
  m29_1 R name1 d3 n5 w
abbrev W29 := cwp Tryd.prog (fun i => 0)
noncomputable def k29_0 : Code := (bodyOf Tryd.f29)
noncomputable def k29_1 : Code := (c2 k29_0)
noncomputable def k29_2 : Code := (c2 k29_1)
noncomputable def k29_3 : Code := (c2 k29_2)
noncomputable def k29_4 : Code := (c2 k29_3)
noncomputable def k29_5 : Code := (c2 (c1 k29_2))
noncomputable def k29_6 : Code := (c2 k29_5)
noncomputable def k29_7 : Code := (c2 (c1 k29_6))
noncomputable def k29_8 : Code := (c2 (c1 k29_1))
noncomputable def k29_9 : Code := (c2 k29_8)
noncomputable def k29_10 : Code := (c2 (c1 k29_9))
theorem s29_10 {R : VP} {Q : EQ} (hR : ∀ e w, (R (e 6) w) → Q .ret e w) (e : Env) (w : World) (h : m29_10 R (e 6) w) : W29 k29_10 Q e w := by
  unfold m29_10 at h
  exact reA (hR _ _ h)
theorem s29_7 {R : VP} {Q : EQ} (hR : ∀ e w, (R (e 6) w) → Q .ret e w) (e : Env) (w : World) (h : m29_7 R (e 6) w) : W29 k29_7 Q e w := by
  unfold m29_7 at h
  exact reA (hR _ _ h)
theorem s29_4 {R : VP} {Q : EQ} (hR : ∀ e w, (R (e 6) w) → Q .ret e w) (e : Env) (w : World) (h : m29_4 R (e 6) w) : W29 k29_4 Q e w := by
  unfold m29_4 at h
  exact reA (hR _ _ h)
theorem s29_3 {R : VP} {Q : EQ} (hR : ∀ e w, (R (e 6) w) → Q .ret e w) (e : Env) (w : World) (h : m29_3 R (e 1) (e 3) (e 5) w) : W29 k29_3 Q e w := by
  unfold m29_3 at h
  refine seA ?_
  have hN : ∀ e w, (m29_4 R (e 6) w) → (thenE (W29 k29_4 Q) Q) .normal e w := fun e w h => then_N (s29_4 (R := R) (Q := Q) hR e w h)
  exact rgA 7 (fun e w => m29_4 R (e 6) w) h hN
theorem s29_6 {R : VP} {Q : EQ} (hN : ∀ e w, (m29_3 R (e 1) (e 3) (e 5) w) → Q .normal e w) (hR : ∀ e w, (R (e 6) w) → Q .ret e w) (e : Env) (w : World) (h : m29_6 R (e 1) (e 3) (e 5) (e 33) w) : W29 k29_6 Q e w := by
  unfold m29_6 at h
  refine coA (Operand.tmp 33) h (fun h1 => ?_) (fun h1 => ?_)
  · refine seA ?_
    have hN : ∀ e w, (m29_7 R (e 6) w) → (thenE (W29 k29_7 Q) Q) .normal e w := fun e w h => then_N (s29_7 (R := R) (Q := Q) hR e w h)
    exact rgA 6 (fun e w => m29_7 R (e 6) w) h1 hN
  · exact skA (hN _ _ h1)
theorem s29_5 {R : VP} {Q : EQ} (hN : ∀ e w, (m29_3 R (e 1) (e 3) (e 5) w) → Q .normal e w) (hR : ∀ e w, (R (e 6) w) → Q .ret e w) (e : Env) (w : World) (h : m29_5 R (e 1) (e 3) (e 5) (e 8) w) : W29 k29_5 Q e w := by
  unfold m29_5 at h
  refine seA ?_
  have hN : ∀ e w, (m29_6 R (e 1) (e 3) (e 5) (e 33) w) → (thenE (W29 k29_6 Q) Q) .normal e w := fun e w h => then_N (s29_6 (R := R) (Q := Q) hN hR e w h)
  exact treeJ_ok 5 12 [false, false, false, false, false, false, false, false, false, false, false, false] (.take 0 [true, false, false, false, false, false, false, false, false, false, false, false] (.take 1 [true, true, false, false, false, false, false, false, false, false, false, false] (.take 2 [true, true, true, false, false, false, false, false, false, false, false, false] (.take 3 [true, true, true, true, false, false, false, false, false, false, false, false] (.take 4 [true, true, true, true, true, false, false, false, false, false, false, false] (.take 5 [true, true, true, true, true, true, false, false, false, false, false, false] (.take 6 [true, true, true, true, true, true, true, false, false, false, false, false] (.take 7 [true, true, true, true, true, true, true, true, false, false, false, false] (.alt 8 [true, true, true, true, true, true, true, true, true, false, false, false] (.take 9 [true, true, true, true, true, true, true, true, true, true, false, false] (.take 10 [true, true, true, true, true, true, true, true, true, true, true, false] (.take 11 [true, true, true, true, true, true, true, true, true, true, true, true] .done))) .stop))))))))) (fun e w => m29_6 R (e 1) (e 3) (e 5) (e 33) w) (by kernel_rfl) (by kernel_rfl) (by kernel_rfl) (by kernel_rfl) (by kernel_rfl) (by kernel_rfl) (kcast (by kernel_rfl) h) hN (by kernel_rfl)
theorem s29_2 {R : VP} {Q : EQ} (hR : ∀ e w, (R (e 6) w) → Q .ret e w) (e : Env) (w : World) (h : m29_2 R (e 1) (e 3) (e 5) w) : W29 k29_2 Q e w := by
  unfold m29_2 at h
  refine seA ?_
  have hN : ∀ e w, (m29_3 R (e 1) (e 3) (e 5) w) → (thenE (W29 k29_3 Q) Q) .normal e w := fun e w h => then_N (s29_3 (R := R) (Q := Q) hR e w h)
  have hR : ∀ e w, (R (e 6) w) → (thenE (W29 k29_3 Q) Q) .ret e w := fun e w h => then_R (hR e w h)
  refine seA ?_
  have hN : ∀ e w, (m29_5 R (e 1) (e 3) (e 5) (e 8) w) → (thenE (W29 k29_5 (thenE (W29 k29_3 Q) Q)) (thenE (W29 k29_3 Q) Q)) .normal e w := fun e w h => then_N (s29_5 (R := R) (Q := (thenE (W29 k29_3 Q) Q)) hN hR e w h)
  exact rgA 4 (fun e w => m29_5 R (e 1) (e 3) (e 5) (e 8) w) h hN
theorem s29_9 {R : VP} {Q : EQ} (hN : ∀ e w, (m29_2 R (e 1) (e 3) (e 5) w) → Q .normal e w) (hR : ∀ e w, (R (e 6) w) → Q .ret e w) (e : Env) (w : World) (h : m29_9 R (e 1) (e 3) (e 5) (e 7) (e 14) w) : W29 k29_9 Q e w := by
  unfold m29_9 at h
  refine coA (Operand.tmp 14) h (fun h1 => ?_) (fun h1 => ?_)
  · refine seA ?_
    have hN : ∀ e w, (m29_10 R (e 6) w) → (thenE (W29 k29_10 Q) Q) .normal e w := fun e w h => then_N (s29_10 (R := R) (Q := Q) hR e w h)
    exact rgA 3 (fun e w => m29_10 R (e 6) w) h1 hN
  · exact skA (hN _ _ h1)
theorem s29_8 {R : VP} {Q : EQ} (hN : ∀ e w, (m29_2 R (e 1) (e 3) (e 5) w) → Q .normal e w) (hR : ∀ e w, (R (e 6) w) → Q .ret e w) (e : Env) (w : World) (h : m29_8 R (e 1) (e 3) (e 5) (e 7) w) : W29 k29_8 Q e w := by
  unfold m29_8 at h
  refine seA ?_
  have hN : ∀ e w, (m29_9 R (e 1) (e 3) (e 5) (e 7) (e 14) w) → (thenE (W29 k29_9 Q) Q) .normal e w := fun e w h => then_N (s29_9 (R := R) (Q := Q) hN hR e w h)
  exact rgA 2 (fun e w => m29_9 R (e 1) (e 3) (e 5) (e 7) (e 14) w) h hN
theorem s29_1 {R : VP} {Q : EQ} (hR : ∀ e w, (R (e 6) w) → Q .ret e w) (e : Env) (w : World) (h : m29_1 R (e 1) (e 3) (e 5) w) : W29 k29_1 Q e w := by
  unfold m29_1 at h
  refine seA ?_
  have hN : ∀ e w, (m29_2 R (e 1) (e 3) (e 5) w) → (thenE (W29 k29_2 Q) Q) .normal e w := fun e w h => then_N (s29_2 (R := R) (Q := Q) hR e w h)
  have hR : ∀ e w, (R (e 6) w) → (thenE (W29 k29_2 Q) Q) .ret e w := fun e w h => then_R (hR e w h)
  refine seA ?_
  have hN : ∀ e w, (m29_8 R (e 1) (e 3) (e 5) (e 7) w) → (thenE (W29 k29_8 (thenE (W29 k29_2 Q) Q)) (thenE (W29 k29_2 Q) Q)) .normal e w := fun e w h => then_N (s29_8 (R := R) (Q := (thenE (W29 k29_2 Q) Q)) hN hR e w h)
  exact rgA 1 (fun e w => m29_8 R (e 1) (e 3) (e 5) (e 7) w) h hN
theorem s29_0 {R : VP} {Q : EQ} (hR : ∀ e w, (R (e 6) w) → Q .ret e w) (e : Env) (w : World) (h : m29_0 R (e 0) (e 1) (e 2) w) : W29 k29_0 Q e w := by
  unfold m29_0 at h
  refine seA ?_
  have hN : ∀ e w, (m29_1 R (e 1) (e 3) (e 5) w) → (thenE (W29 k29_1 Q) Q) .normal e w := fun e w h => then_N (s29_1 (R := R) (Q := Q) hR e w h)
  exact rgA 0 (fun e w => m29_1 R (e 1) (e 3) (e 5) w) h hN
abbrev m29 (R : VP) (d0 name1 n2 : Value) (w : World) : Prop := m29_0 R d0 name1 n2 w
theorem s29 (d0 name1 n2 : Value) {R : VP} {w : World} (h : m29 R d0 name1 n2 w) :
    Calls Tryd.prog 29 #[d0, name1, n2] w fun e w' => ∃ v, e = .returned v ∧ R v w' :=
  calls_of_cwp (st := (fun i => 0)) (c := k29_0) (by kernel_rfl) Tryd.func29 (by kernel_rfl) (Nat.le_of_ble_eq_true (by kernel_rfl)) (by kernel_rfl)
    (s29_0 (R := R) (Q := endE Tryd.prog Tryd.f29 R) (fun e w h => kcast (by kernel_rfl) h) (argsE #[d0, name1, n2]) w (kcast (by kernel_rfl) h))
/-! ### (*headgate/disk.Disk).Copy -/
def m25_13 (R : VP) (t2 : Value) (w : World) : Prop :=
  R t2 w
def m25_11 (R : VP) (K1 : Unit → World → Prop) (c3 name4 f5 t17 : Value) (w : World) : Prop :=
  anyDraw w fun w =>
  heldP w fun J =>
  valJ Tryd.prog J (Instr.fieldAt 61 c3 0) fun t23 =>
  valJ Tryd.prog J (Instr.loadAt 59 t23) fun t24 =>
  nilCheckP f5 fun t27 =>
  valJ Tryd.prog J (Instr.fieldAt 65 t27 0) fun t28 =>
  valJ Tryd.prog J (Instr.loadAt 9 t28) fun t29 =>
  nilCheckP f5 fun t31 =>
  valJ Tryd.prog J (Instr.fieldAt 65 t31 1) fun t32 =>
  valJ Tryd.prog J (Instr.loadAt 9 t32) fun t33 =>
  valJ Tryd.prog J (Instr.build 65 #[(0, t29), (1, t33)]) fun t34 =>
  valP Tryd.prog (Instr.box 65 t34) w fun t35 w =>
  stayP J w
  (unitP Tryd.prog (Instr.mapUpdate 59 t24 name4 t35) w fun _ w =>
  stayP J w
  (K1 () w))
def m25_10 (R : VP) (K1 : Unit → World → Prop) (c3 t17 : Value) (w : World) : Prop :=
  valP Tryd.prog (Instr.entry t17) w fun t20 w =>
  valP Tryd.prog (Instr.extract t20 0) w fun t21 w =>
  valP Tryd.prog (Instr.extract t20 1) w fun t22 w =>
  m25_11 R K1 c3 t21 t22 t17 w
def m25_6 (R : VP) (t2 : Value) (w : World) : Prop :=
  R t2 w
def m25_5 (R : VP) (c3 : Value) (w : World) : Prop :=
  m25_6 R c3 w
def m25_9 (R : VP) (K1 : Unit → World → Prop) (c3 t17 t19 : Value) (w : World) : Prop :=
  condP t19
  (m25_10 R K1 c3 t17 w)
  (m25_5 R c3 w)
def m25_8 (R : VP) (K1 : Unit → World → Prop) (c3 t17 : Value) (w : World) : Prop :=
  valP Tryd.prog (Instr.next t17 false 0) w fun t18 w =>
  valP Tryd.prog (Instr.extract t18 0) w fun t19 w =>
  m25_9 R K1 c3 t17 t19 w
def m25_7 (R : VP) (c3 t17 : Value) (w : World) : Prop :=
  loopP (fun (K1 : Unit → World → Prop) (s : Unit) w => m25_8 R K1 c3 t17 w) () w
def m25_4 (R : VP) (d0 c3 : Value) (w : World) : Prop :=
  nilCheckP d0 fun t14 =>
  valP Tryd.prog (Instr.fieldAt 61 t14 0) w fun t15 w =>
  valP Tryd.prog (Instr.loadAt 59 t15) w fun t16 w =>
  valP Tryd.prog (Instr.range 59 t16) w fun t17 w =>
  m25_7 R c3 t17 w
def m25_3 (R : VP) (d0 c3 : Value) (w : World) : Prop :=
  valP Tryd.prog (Instr.makeMap 59 none) w fun t11 w =>
  valP Tryd.prog (Instr.fieldAt 61 c3 0) w fun t12 w =>
  unitP Tryd.prog (Instr.storeAt 59 t12 t11) w fun _ w =>
  m25_4 R d0 c3 w
def m25_2 (R : VP) (d0 : Value) (w : World) : Prop :=
  nilCheckP d0 fun t9 =>
  valP Tryd.prog (Instr.loadAt 61 t9) w fun t10 w =>
  valP Tryd.prog (Instr.alloc 61 true (.tuple #[])) w fun c3 w =>
  unitP Tryd.prog (Instr.storeAt 61 c3 t10) w fun _ w =>
  m25_3 R d0 c3 w
def m25_12 (R : VP) (d0 t7 : Value) (w : World) : Prop :=
  condP t7
  (m25_13 R (Value.pointer none) w)
  (m25_2 R d0 w)
def m25_1 (R : VP) (d0 : Value) (w : World) : Prop :=
  valP Tryd.prog (binS BinOp.eql 23 (Operand.tmp 6) (Operand.const (Value.pointer none)) d0 (Value.pointer none)) w fun t7 w =>
  m25_12 R d0 t7 w
def m25_0 (R : VP) (d0 : Value) (w : World) : Prop :=
  m25_1 R d0 w
abbrev W25 := cwp Tryd.prog (fun i => 0)
noncomputable def k25_0 : Code := (bodyOf Tryd.f25)
noncomputable def k25_1 : Code := (c2 k25_0)
noncomputable def k25_2 : Code := (c2 k25_1)
noncomputable def k25_3 : Code := (c2 k25_2)
noncomputable def k25_4 : Code := (c2 k25_3)
noncomputable def k25_5 : Code := (c2 k25_4)
noncomputable def k25_6 : Code := (c2 k25_5)
noncomputable def k25_7 : Code := (c2 (c1 k25_4))
noncomputable def k25_8 : Code := (c1 (c1 k25_7))
noncomputable def k25_9 : Code := (c2 k25_8)
noncomputable def k25_10 : Code := (c2 k25_9)
noncomputable def k25_11 : Code := (c2 (c1 k25_10))
noncomputable def k25_12 : Code := (c2 (c1 k25_1))
noncomputable def k25_13 : Code := (c2 (c1 k25_12))
theorem s25_13 {R : VP} {Q : EQ} (hR : ∀ e w, (R (e 2) w) → Q .ret e w) (e : Env) (w : World) (h : m25_13 R (e 2) w) : W25 k25_13 Q e w := by
  unfold m25_13 at h
  exact reA (hR _ _ h)
theorem s25_11 {R : VP} {K1 : Unit → World → Prop} {Q : EQ} (hN : ∀ e w, (K1 () w) → Q .normal e w) (e : Env) (w : World) (h : m25_11 R K1 (e 3) (e 4) (e 5) (e 17) w) : W25 k25_11 Q e w := by
  unfold m25_11 at h
  exact treeJ_ok 8 14 [false, false, false, false, false, false, false, false, false, false, false, false, false, false] (.take 0 [true, false, false, false, false, false, false, false, false, false, false, false, false, false] (.take 1 [true, true, false, false, false, false, false, false, false, false, false, false, false, false] (.take 2 [true, true, true, false, false, false, false, false, false, false, false, false, false, false] (.take 3 [true, true, true, true, false, false, false, false, false, false, false, false, false, false] (.take 4 [true, true, true, true, true, false, false, false, false, false, false, false, false, false] (.take 5 [true, true, true, true, true, true, false, false, false, false, false, false, false, false] (.take 6 [true, true, true, true, true, true, true, false, false, false, false, false, false, false] (.take 7 [true, true, true, true, true, true, true, true, false, false, false, false, false, false] (.take 8 [true, true, true, true, true, true, true, true, true, false, false, false, false, false] (.take 9 [true, true, true, true, true, true, true, true, true, true, false, false, false, false] (.take 10 [true, true, true, true, true, true, true, true, true, true, true, false, false, false] (.take 11 [true, true, true, true, true, true, true, true, true, true, true, true, false, false] (.alt 12 [true, true, true, true, true, true, true, true, true, true, true, true, true, false] (.alt 13 [true, true, true, true, true, true, true, true, true, true, true, true, true, true] .done .stop) .stop))))))))))))) (fun e w => K1 () w) (by kernel_rfl) (by kernel_rfl) (by kernel_rfl) (by kernel_rfl) (by kernel_rfl) (by kernel_rfl) (kcast (by kernel_rfl) h) hN (by kernel_rfl)
theorem s25_10 {R : VP} {K1 : Unit → World → Prop} {Q : EQ} (hN : ∀ e w, (K1 () w) → Q .normal e w) (e : Env) (w : World) (h : m25_10 R K1 (e 3) (e 17) w) : W25 k25_10 Q e w := by
  unfold m25_10 at h
  refine block_ok 1 (by kernel_rfl) ?_
  have hN : ∀ e w, (K1 () w) → (inBlockE 1 Q) .normal e w := fun e w h => block_N (hN e w h)
  refine seA ?_
  have hN : ∀ e w, (m25_11 R K1 (e 3) (e 4) (e 5) (e 17) w) → (thenE (W25 k25_11 (inBlockE 1 Q)) (inBlockE 1 Q)) .normal e w := fun e w h => then_N (s25_11 (R := R) (Q := (inBlockE 1 Q)) (K1 := K1) hN e w h)
  exact rgA 7 (fun e w => m25_11 R K1 (e 3) (e 4) (e 5) (e 17) w) h hN
theorem s25_6 {R : VP} {Q : EQ} (hR : ∀ e w, (R (e 2) w) → Q .ret e w) (e : Env) (w : World) (h : m25_6 R (e 2) w) : W25 k25_6 Q e w := by
  unfold m25_6 at h
  exact reA (hR _ _ h)
theorem s25_5 {R : VP} {Q : EQ} (hR : ∀ e w, (R (e 2) w) → Q .ret e w) (e : Env) (w : World) (h : m25_5 R (e 3) w) : W25 k25_5 Q e w := by
  unfold m25_5 at h
  refine seA ?_
  have hN : ∀ e w, (m25_6 R (e 2) w) → (thenE (W25 k25_6 Q) Q) .normal e w := fun e w h => then_N (s25_6 (R := R) (Q := Q) hR e w h)
  exact rgA 9 (fun e w => m25_6 R (e 2) w) h hN
theorem s25_9 {R : VP} {K1 : Unit → World → Prop} {Q : EQ} (hN : ∀ e w, (K1 () w) → Q .normal e w) (hX0 : ∀ e w, (m25_5 R (e 3) w) → Q (.exit 0) e w) (e : Env) (w : World) (h : m25_9 R K1 (e 3) (e 17) (e 19) w) : W25 k25_9 Q e w := by
  unfold m25_9 at h
  refine seA ?_
  have hN : ∀ e w, (m25_10 R K1 (e 3) (e 17) w) → (thenE (W25 k25_10 Q) Q) .normal e w := fun e w h => then_N (s25_10 (R := R) (Q := Q) (K1 := K1) hN e w h)
  have hX0 : ∀ e w, (m25_5 R (e 3) w) → (thenE (W25 k25_10 Q) Q) (.exit 0) e w := fun e w h => then_X (hX0 e w h)
  refine coA (Operand.tmp 19) h (fun h1 => ?_) (fun h1 => ?_)
  · exact skA (hN _ _ h1)
  · exact exA 0 (hX0 _ _ h1)
theorem s25_8 {R : VP} {K1 : Unit → World → Prop} {Q : EQ} (hN : ∀ e w, (K1 () w) → Q .normal e w) (hX0 : ∀ e w, (m25_5 R (e 3) w) → Q (.exit 0) e w) (e : Env) (w : World) (h : m25_8 R K1 (e 3) (e 17) w) : W25 k25_8 Q e w := by
  unfold m25_8 at h
  refine seA ?_
  have hN : ∀ e w, (m25_9 R K1 (e 3) (e 17) (e 19) w) → (thenE (W25 k25_9 Q) Q) .normal e w := fun e w h => then_N (s25_9 (R := R) (Q := Q) (K1 := K1) hN hX0 e w h)
  exact rgA 6 (fun e w => m25_9 R K1 (e 3) (e 17) (e 19) w) h hN
theorem s25_7 {R : VP} {Q : EQ} (hN : ∀ e w, (m25_5 R (e 3) w) → Q .normal e w) (e : Env) (w : World) (h : m25_7 R (e 3) (e 17) w) : W25 k25_7 Q e w := by
  unfold m25_7 at h
  refine block_ok 0 (by kernel_rfl) ?_
  have hX0 : ∀ e w, (m25_5 R (e 3) w) → (inBlockE 0 Q) (.exit 0) e w := fun e w h => inBlock_same (Q := Q) 0 (hN e w h)
  refine loop_ok' (fun (e : Env) => ()) [3, 17] (by kernel_rfl) (by kernel_rfl) h (fun K e' w' hk h' => ?_)
  have r3 : e' 3 = e 3 := hk 3 (by decide)
  have r17 : e' 17 = e 17 := hk 17 (by decide)
  have hX0 : ∀ e w, (m25_5 R (e 3) w) → (thenE (fun (e : Env) w => K () w) (inBlockE 0 Q)) (.exit 0) e w := fun e w h => then_X (hX0 e w h)
  exact s25_8 (R := R) (Q := (thenE (fun (e : Env) w => K () w) (inBlockE 0 Q))) (K1 := K) (fun _ _ h => then_N h) hX0 e' w' (by rw [r3, r17]; exact h')
theorem s25_4 {R : VP} {Q : EQ} (hR : ∀ e w, (R (e 2) w) → Q .ret e w) (e : Env) (w : World) (h : m25_4 R (e 0) (e 3) w) : W25 k25_4 Q e w := by
  unfold m25_4 at h
  refine seA ?_
  have hN : ∀ e w, (m25_5 R (e 3) w) → (thenE (W25 k25_5 Q) Q) .normal e w := fun e w h => then_N (s25_5 (R := R) (Q := Q) hR e w h)
  refine seA ?_
  have hN : ∀ e w, (m25_7 R (e 3) (e 17) w) → (thenE (W25 k25_7 (thenE (W25 k25_5 Q) Q)) (thenE (W25 k25_5 Q) Q)) .normal e w := fun e w h => then_N (s25_7 (R := R) (Q := (thenE (W25 k25_5 Q) Q)) hN e w h)
  exact rgA 5 (fun e w => m25_7 R (e 3) (e 17) w) h hN
theorem s25_3 {R : VP} {Q : EQ} (hR : ∀ e w, (R (e 2) w) → Q .ret e w) (e : Env) (w : World) (h : m25_3 R (e 0) (e 3) w) : W25 k25_3 Q e w := by
  unfold m25_3 at h
  refine seA ?_
  have hN : ∀ e w, (m25_4 R (e 0) (e 3) w) → (thenE (W25 k25_4 Q) Q) .normal e w := fun e w h => then_N (s25_4 (R := R) (Q := Q) hR e w h)
  exact rgA 4 (fun e w => m25_4 R (e 0) (e 3) w) h hN
theorem s25_2 {R : VP} {Q : EQ} (hR : ∀ e w, (R (e 2) w) → Q .ret e w) (e : Env) (w : World) (h : m25_2 R (e 0) w) : W25 k25_2 Q e w := by
  unfold m25_2 at h
  refine seA ?_
  have hN : ∀ e w, (m25_3 R (e 0) (e 3) w) → (thenE (W25 k25_3 Q) Q) .normal e w := fun e w h => then_N (s25_3 (R := R) (Q := Q) hR e w h)
  exact rgA 3 (fun e w => m25_3 R (e 0) (e 3) w) h hN
theorem s25_12 {R : VP} {Q : EQ} (hN : ∀ e w, (m25_2 R (e 0) w) → Q .normal e w) (hR : ∀ e w, (R (e 2) w) → Q .ret e w) (e : Env) (w : World) (h : m25_12 R (e 0) (e 7) w) : W25 k25_12 Q e w := by
  unfold m25_12 at h
  refine coA (Operand.tmp 7) h (fun h1 => ?_) (fun h1 => ?_)
  · refine seA ?_
    have hN : ∀ e w, (m25_13 R (e 2) w) → (thenE (W25 k25_13 Q) Q) .normal e w := fun e w h => then_N (s25_13 (R := R) (Q := Q) hR e w h)
    exact rgA 2 (fun e w => m25_13 R (e 2) w) h1 hN
  · exact skA (hN _ _ h1)
theorem s25_1 {R : VP} {Q : EQ} (hR : ∀ e w, (R (e 2) w) → Q .ret e w) (e : Env) (w : World) (h : m25_1 R (e 0) w) : W25 k25_1 Q e w := by
  unfold m25_1 at h
  refine seA ?_
  have hN : ∀ e w, (m25_2 R (e 0) w) → (thenE (W25 k25_2 Q) Q) .normal e w := fun e w h => then_N (s25_2 (R := R) (Q := Q) hR e w h)
  have hR : ∀ e w, (R (e 2) w) → (thenE (W25 k25_2 Q) Q) .ret e w := fun e w h => then_R (hR e w h)
  refine seA ?_
  have hN : ∀ e w, (m25_12 R (e 0) (e 7) w) → (thenE (W25 k25_12 (thenE (W25 k25_2 Q) Q)) (thenE (W25 k25_2 Q) Q)) .normal e w := fun e w h => then_N (s25_12 (R := R) (Q := (thenE (W25 k25_2 Q) Q)) hN hR e w h)
  exact rgA 1 (fun e w => m25_12 R (e 0) (e 7) w) h hN
theorem s25_0 {R : VP} {Q : EQ} (hR : ∀ e w, (R (e 2) w) → Q .ret e w) (e : Env) (w : World) (h : m25_0 R (e 0) w) : W25 k25_0 Q e w := by
  unfold m25_0 at h
  refine seA ?_
  have hN : ∀ e w, (m25_1 R (e 0) w) → (thenE (W25 k25_1 Q) Q) .normal e w := fun e w h => then_N (s25_1 (R := R) (Q := Q) hR e w h)
  exact rgA 0 (fun e w => m25_1 R (e 0) w) h hN
abbrev m25 (R : VP) (d0 : Value) (w : World) : Prop := m25_0 R d0 w
theorem s25 (d0 : Value) {R : VP} {w : World} (h : m25 R d0 w) :
    Calls Tryd.prog 25 #[d0] w fun e w' => ∃ v, e = .returned v ∧ R v w' :=
  calls_of_cwp (st := (fun i => 0)) (c := k25_0) (by kernel_rfl) Tryd.func25 (by kernel_rfl) (Nat.le_of_ble_eq_true (by kernel_rfl)) (by kernel_rfl)
    (s25_0 (R := R) (Q := endE Tryd.prog Tryd.f25 R) (fun e w h => kcast (by kernel_rfl) h) (argsE #[d0]) w (kcast (by kernel_rfl) h))
end Go.Proofs.YtcldjjmfpmkldaaDoor.M
