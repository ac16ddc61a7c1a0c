/- What functions' texts ask of their ends, told over values that have names; printed by a program of this work. -/
import Derived.Test.YtjjmlopmemmobaaFw
import Derived.Test.YtjjmlopmemmobaaProg
namespace Go.Proofs.Ytjjmlopmemmobaa.M
open Go.Proofs.Ytjjmlopmemmobaa.F
set_option linter.unusedVariables false
set_option maxRecDepth 100000
/-! ### (*headgate/headgateref35.Coop).Join -/
def m28_24 (R : VP) (t4 : Value) (w : World) : Prop :=
  R t4 w
def m28_21 (R : VP) (K1 : VP) (t4 : Value) (w : World) : Prop :=
  R t4 w
def m28_19 (R : VP) (K1 : VP) (t4 : Value) (w : World) : Prop :=
  R t4 w
def m28_16 (R : VP) (K1 : VP) (c0 members1 i5 : Value) (w : World) : Prop :=
  valP Try.prog (binS BinOp.add 3 (Operand.tmp 14) (Operand.const (Value.int IntKind.i64 1)) i5 (Value.int IntKind.i64 1)) w fun t15 w =>
  K1 t15 w
def m28_18 (R : VP) (K1 : VP) (c0 members1 i5 t44 : Value) (w : World) : Prop :=
  condP t44
  (m28_19 R K1 (Value.int IntKind.i64 9) w)
  (m28_16 R K1 c0 members1 i5 w)
def m28_17 (R : VP) (K1 : VP) (c0 members1 i5 : Value) (w : World) : Prop :=
  anyDraw w fun w =>
  pureP Try.prog (Instr.indexAt 28 members1 i5) fun t31 =>
  valP Try.prog (Instr.loadAt 3 t31) w fun t32 w =>
  callP Try.prog (fnV 62) #[c0, t32] w fun t33 w =>
  condP t33
  (pickP t33 (Value.bool true) undef fun t44 =>
  m28_18 R K1 c0 members1 i5 t44 w)
  (pureP Try.prog (Instr.sliceAt 28 members1 none (some i5) none) fun t37 =>
  pureP Try.prog (Instr.indexAt 28 members1 i5) fun t40 =>
  valP Try.prog (Instr.loadAt 3 t40) w fun t41 w =>
  callP Try.prog (fnV 21) #[t37, t41] w fun t42 w =>
  pureP Try.prog (binS BinOp.gtr 3 (Operand.tmp 42) (Operand.const (Value.int IntKind.i64 0)) t42 (Value.int IntKind.i64 0)) fun t43 =>
  pickP t33 (Value.bool true) t43 fun t44 =>
  m28_18 R K1 c0 members1 i5 t44 w)
def m28_20 (R : VP) (K1 : VP) (c0 members1 i5 t27 : Value) (w : World) : Prop :=
  condP t27
  (m28_21 R K1 (Value.int IntKind.i64 1) w)
  (m28_17 R K1 c0 members1 i5 w)
def m28_15 (R : VP) (K1 : VP) (c0 members1 i5 : Value) (w : World) : Prop :=
  valP Try.prog (Instr.indexAt 28 members1 i5) w fun t18 w =>
  valP Try.prog (Instr.loadAt 3 t18) w fun t19 w =>
  valP Try.prog (binS BinOp.lss 3 (Operand.tmp 19) (Operand.const (Value.int IntKind.i64 1)) t19 (Value.int IntKind.i64 1)) w fun t20 w =>
  condP t20
  (pickP t20 (Value.bool true) undef fun t27 =>
  m28_20 R K1 c0 members1 i5 t27 w)
  (valP Try.prog (Instr.indexAt 28 members1 i5) w fun t24 w =>
  valP Try.prog (Instr.loadAt 3 t24) w fun t25 w =>
  valP Try.prog (binS BinOp.gtr 3 (Operand.tmp 25) (Operand.const (Value.int IntKind.i64 1099511627776)) t25 (Value.int IntKind.i64 1099511627776)) w fun t26 w =>
  pickP t20 (Value.bool true) t26 fun t27 =>
  m28_20 R K1 c0 members1 i5 t27 w)
def m28_12 (R : VP) (t4 : Value) (w : World) : Prop :=
  R t4 w
def m28_10 (R : VP) (t4 : Value) (w : World) : Prop :=
  R t4 w
def m28_9 (R : VP) (w : World) : Prop :=
  m28_10 R (Value.int IntKind.i64 0) w
def m28_8 (R : VP) (c0 : Value) (w : World) : Prop :=
  callP Try.prog (fnV 64) #[c0] w fun t69 w =>
  m28_9 R w
def m28_7 (R : VP) (c0 all6 : Value) (w : World) : Prop :=
  callP Try.prog (fnV 63) #[all6] w fun t65 w =>
  nilCheckP c0 fun t66 =>
  valP Try.prog (Instr.fieldAt 55 t66 1) w fun t67 w =>
  unitP Try.prog (Instr.storeAt 28 t67 t65) w fun _ w =>
  m28_8 R c0 w
def m28_6 (R : VP) (c0 members1 all6 : Value) (w : World) : Prop :=
  builtinP Try.prog Builtin.append #[28, 28] 28 #[false, false] #[all6, members1] w fun t62 w =>
  m28_7 R c0 t62 w
def m28_5 (R : VP) (c0 members1 all6 : Value) (w : World) : Prop :=
  nilCheckP c0 fun t56 =>
  valP Try.prog (Instr.fieldAt 55 t56 1) w fun t57 w =>
  valP Try.prog (Instr.loadAt 28 t57) w fun t58 w =>
  builtinP Try.prog Builtin.append #[28, 28] 28 #[false, false] #[all6, t58] w fun t59 w =>
  m28_6 R c0 members1 t59 w
def m28_4 (R : VP) (c0 members1 : Value) (w : World) : Prop :=
  m28_5 R c0 members1 (Value.slice none 0 0) w
def m28_11 (R : VP) (c0 members1 t53 : Value) (w : World) : Prop :=
  condP t53
  (m28_12 R (Value.int IntKind.i64 5) w)
  (m28_4 R c0 members1 w)
def m28_3 (R : VP) (c0 members1 : Value) (w : World) : Prop :=
  nilCheckP c0 fun t46 =>
  valP Try.prog (Instr.fieldAt 55 t46 1) w fun t47 w =>
  valP Try.prog (Instr.loadAt 28 t47) w fun t48 w =>
  builtinP Try.prog Builtin.len #[28] 3 #[false] #[t48] w fun t49 w =>
  builtinP Try.prog Builtin.len #[28] 3 #[false] #[members1] w fun t51 w =>
  valP Try.prog (binS BinOp.add 3 (Operand.tmp 49) (Operand.tmp 51) t49 t51) w fun t52 w =>
  valP Try.prog (binS BinOp.gtr 3 (Operand.tmp 52) (Operand.const (Value.int IntKind.i64 8)) t52 (Value.int IntKind.i64 8)) w fun t53 w =>
  m28_11 R c0 members1 t53 w
def m28_22 (R : VP) (K1 : VP) (c0 members1 i5 t13 : Value) (w : World) : Prop :=
  condP t13
  (m28_15 R K1 c0 members1 i5 w)
  (m28_3 R c0 members1 w)
def m28_14 (R : VP) (K1 : VP) (c0 members1 i5 : Value) (w : World) : Prop :=
  builtinP Try.prog Builtin.len #[28] 3 #[false] #[members1] w fun t12 w =>
  valP Try.prog (binS BinOp.lss 3 (Operand.tmp 10) (Operand.tmp 12) i5 t12) w fun t13 w =>
  m28_22 R K1 c0 members1 i5 t13 w
def m28_13 (R : VP) (c0 members1 i5 : Value) (w : World) : Prop :=
  loopP (fun (K1 : VP) (s : Value) w => m28_14 R K1 c0 members1 s w) i5 w
def m28_2 (R : VP) (c0 members1 : Value) (w : World) : Prop :=
  m28_13 R c0 members1 (Value.int IntKind.i64 0) w
def m28_23 (R : VP) (c0 members1 t9 : Value) (w : World) : Prop :=
  condP t9
  (m28_24 R (Value.int IntKind.i64 1) w)
  (m28_2 R c0 members1 w)
def m28_1 (R : VP) (c0 members1 : Value) (w : World) : Prop :=
  builtinP Try.prog Builtin.len #[28] 3 #[false] #[members1] w fun t8 w =>
  valP Try.prog (binS BinOp.eql 3 (Operand.tmp 8) (Operand.const (Value.int IntKind.i64 0)) t8 (Value.int IntKind.i64 0)) w fun t9 w =>
  m28_23 R c0 members1 t9 w
def m28_0 (R : VP) (c0 members1 : Value) (w : World) : Prop :=
  m28_1 R c0 members1 w
abbrev W28 := cwp Try.prog (fun i => 0)
noncomputable def k28_0 : Code := (bodyOf Try.f28)
noncomputable def k28_1 : Code := (c2 k28_0)
noncomputable def k28_2 : Code := (c2 k28_1)
noncomputable def k28_3 : Code := (c2 k28_2)
noncomputable def k28_4 : Code := (c2 k28_3)
noncomputable def k28_5 : Code := (c2 k28_4)
noncomputable def k28_6 : Code := (c2 k28_5)
noncomputable def k28_7 : Code := (c2 k28_6)
noncomputable def k28_8 : Code := (c2 k28_7)
noncomputable def k28_9 : Code := (c2 k28_8)
noncomputable def k28_10 : Code := (c2 k28_9)
noncomputable def k28_11 : Code := (c2 (c1 k28_3))
noncomputable def k28_12 : Code := (c2 (c1 k28_11))
noncomputable def k28_13 : Code := (c2 (c1 k28_2))
noncomputable def k28_14 : Code := (c1 (c1 k28_13))
noncomputable def k28_15 : Code := (c2 k28_14)
noncomputable def k28_16 : Code := (c2 k28_15)
noncomputable def k28_17 : Code := (c2 (c1 (c1 k28_15)))
noncomputable def k28_18 : Code := (c2 k28_17)
noncomputable def k28_19 : Code := (c2 (c1 k28_18))
noncomputable def k28_20 : Code := (c2 (c1 (c1 (c1 k28_15))))
noncomputable def k28_21 : Code := (c2 (c1 k28_20))
noncomputable def k28_22 : Code := (c2 (c1 k28_14))
noncomputable def k28_23 : Code := (c2 (c1 k28_1))
noncomputable def k28_24 : Code := (c2 (c1 k28_23))
theorem s28_24 {R : VP} {Q : EQ} (hR : ∀ e w, (R (e 4) w) → Q .ret e w) (e : Env) (w : World) (h : m28_24 R (e 4) w) : W28 k28_24 Q e w := by
  unfold m28_24 at h
  exact reA (hR _ _ h)
theorem s28_21 {R : VP} {K1 : VP} {Q : EQ} (hR : ∀ e w, (R (e 4) w) → Q .ret e w) (e : Env) (w : World) (h : m28_21 R K1 (e 4) w) : W28 k28_21 Q e w := by
  unfold m28_21 at h
  exact reA (hR _ _ h)
theorem s28_19 {R : VP} {K1 : VP} {Q : EQ} (hR : ∀ e w, (R (e 4) w) → Q .ret e w) (e : Env) (w : World) (h : m28_19 R K1 (e 4) w) : W28 k28_19 Q e w := by
  unfold m28_19 at h
  exact reA (hR _ _ h)
theorem s28_16 {R : VP} {K1 : VP} {Q : EQ} (hN : ∀ e w, (K1 (e 5) w) → Q .normal e w) (e : Env) (w : World) (h : m28_16 R K1 (e 0) (e 1) (e 5) w) : W28 k28_16 Q e w := by
  unfold m28_16 at h
  exact rgA 5 (fun e w => K1 (e 5) w) h hN
theorem s28_18 {R : VP} {K1 : VP} {Q : EQ} (hN : ∀ e w, (m28_16 R K1 (e 0) (e 1) (e 5) w) → Q .normal e w) (hR : ∀ e w, (R (e 4) w) → Q .ret e w) (e : Env) (w : World) (h : m28_18 R K1 (e 0) (e 1) (e 5) (e 44) w) : W28 k28_18 Q e w := by
  unfold m28_18 at h
  refine coA (Operand.tmp 44) h (fun h1 => ?_) (fun h1 => ?_)
  · refine seA ?_
    have hN : ∀ e w, (m28_19 R K1 (e 4) w) → (thenE (W28 k28_19 Q) Q) .normal e w := fun e w h => then_N (s28_19 (R := R) (Q := Q) (K1 := K1) hR e w h)
    exact rgA 9 (fun e w => m28_19 R K1 (e 4) w) h1 hN
  · exact skA (hN _ _ h1)
theorem s28_17 {R : VP} {K1 : VP} {Q : EQ} (hN : ∀ e w, (m28_16 R K1 (e 0) (e 1) (e 5) w) → Q .normal e w) (hR : ∀ e w, (R (e 4) w) → Q .ret e w) (e : Env) (w : World) (h : m28_17 R K1 (e 0) (e 1) (e 5) w) : W28 k28_17 Q e w := by
  unfold m28_17 at h
  refine seA ?_
  have hN : ∀ e w, (m28_18 R K1 (e 0) (e 1) (e 5) (e 44) w) → (thenE (W28 k28_18 Q) Q) .normal e w := fun e w h => then_N (s28_18 (R := R) (Q := Q) (K1 := K1) hN hR e w h)
  exact tree_ok 8 17 [false, false, false, false, false, false, false, false, false, false, false, false, false, false, false, false, false] (.take 0 [true, false, false, false, false, false, false, false, false, false, false, false, false, false, false, false, false] (.take 1 [true, true, false, false, false, false, false, false, false, false, false, false, false, false, false, false, false] (.take 2 [true, true, true, false, false, false, false, false, false, false, false, false, false, false, false, false, false] (.take 3 [true, true, true, true, false, false, false, false, false, false, false, false, false, false, false, false, false] (.alt 4 [true, true, true, true, true, false, false, false, false, false, false, false, false, false, false, false, false] (.alt 5 [true, true, true, true, true, true, false, false, false, false, false, false, false, false, false, false, false] (.take 6 [true, true, true, true, true, true, true, false, false, false, false, false, false, false, false, false, false] (.take 7 [true, true, true, true, true, true, true, true, false, false, false, false, false, false, false, false, false] (.take 8 [true, true, true, true, true, true, true, true, true, false, false, false, false, false, false, false, false] (.take 9 [true, true, true, true, true, true, true, true, true, true, false, false, false, false, false, false, false] (.take 10 [true, true, true, true, true, true, true, true, true, true, true, false, false, false, false, false, false] (.take 11 [true, true, true, true, true, true, true, true, true, true, true, true, false, false, false, false, false] (.take 12 [true, true, true, true, true, true, true, true, true, true, true, true, true, false, false, false, false] (.alt 13 [true, true, true, true, true, true, true, true, true, true, true, true, true, true, false, false, false] (.alt 14 [true, true, true, true, true, true, true, true, true, true, true, true, true, true, true, false, false] (.take 15 [true, true, true, true, true, true, true, true, true, true, true, true, true, true, true, true, false] (.take 16 [true, true, true, true, true, true, true, true, true, true, true, true, true, true, true, true, true] .done)) .stop) .stop)))))))) .stop) .stop))))) (fun e w => m28_18 R K1 (e 0) (e 1) (e 5) (e 44) w) (by kernel_rfl) (by kernel_rfl) (by kernel_rfl) (by kernel_rfl) (by kernel_rfl) (by kernel_rfl) (kcast (by kernel_rfl) h) hN (by kernel_rfl)
theorem s28_20 {R : VP} {K1 : VP} {Q : EQ} (hN : ∀ e w, (m28_17 R K1 (e 0) (e 1) (e 5) w) → Q .normal e w) (hR : ∀ e w, (R (e 4) w) → Q .ret e w) (e : Env) (w : World) (h : m28_20 R K1 (e 0) (e 1) (e 5) (e 27) w) : W28 k28_20 Q e w := by
  unfold m28_20 at h
  refine coA (Operand.tmp 27) h (fun h1 => ?_) (fun h1 => ?_)
  · refine seA ?_
    have hN : ∀ e w, (m28_21 R K1 (e 4) w) → (thenE (W28 k28_21 Q) Q) .normal e w := fun e w h => then_N (s28_21 (R := R) (Q := Q) (K1 := K1) hR e w h)
    exact rgA 7 (fun e w => m28_21 R K1 (e 4) w) h1 hN
  · exact skA (hN _ _ h1)
theorem s28_15 {R : VP} {K1 : VP} {Q : EQ} (hN : ∀ e w, (K1 (e 5) w) → Q .normal e w) (hR : ∀ e w, (R (e 4) w) → Q .ret e w) (e : Env) (w : World) (h : m28_15 R K1 (e 0) (e 1) (e 5) w) : W28 k28_15 Q e w := by
  unfold m28_15 at h
  refine seA ?_
  have hN : ∀ e w, (m28_16 R K1 (e 0) (e 1) (e 5) w) → (thenE (W28 k28_16 Q) Q) .normal e w := fun e w h => then_N (s28_16 (R := R) (Q := Q) (K1 := K1) hN e w h)
  have hR : ∀ e w, (R (e 4) w) → (thenE (W28 k28_16 Q) Q) .ret e w := fun e w h => then_R (hR e w h)
  refine block_ok 1 (by kernel_rfl) ?_
  have hN : ∀ e w, (m28_16 R K1 (e 0) (e 1) (e 5) w) → (inBlockE 1 (thenE (W28 k28_16 Q) Q)) .normal e w := fun e w h => block_N (hN e w h)
  have hR : ∀ e w, (R (e 4) w) → (inBlockE 1 (thenE (W28 k28_16 Q) Q)) .ret e w := fun e w h => block_R (hR e w h)
  refine seA ?_
  have hN : ∀ e w, (m28_17 R K1 (e 0) (e 1) (e 5) w) → (thenE (W28 k28_17 (inBlockE 1 (thenE (W28 k28_16 Q) Q))) (inBlockE 1 (thenE (W28 k28_16 Q) Q))) .normal e w := fun e w h => then_N (s28_17 (R := R) (Q := (inBlockE 1 (thenE (W28 k28_16 Q) Q))) (K1 := K1) hN hR e w h)
  have hR : ∀ e w, (R (e 4) w) → (thenE (W28 k28_17 (inBlockE 1 (thenE (W28 k28_16 Q) Q))) (inBlockE 1 (thenE (W28 k28_16 Q) Q))) .ret e w := fun e w h => then_R (hR e w h)
  refine seA ?_
  have hN : ∀ e w, (m28_20 R K1 (e 0) (e 1) (e 5) (e 27) w) → (thenE (W28 k28_20 (thenE (W28 k28_17 (inBlockE 1 (thenE (W28 k28_16 Q) Q))) (inBlockE 1 (thenE (W28 k28_16 Q) Q)))) (thenE (W28 k28_17 (inBlockE 1 (thenE (W28 k28_16 Q) Q))) (inBlockE 1 (thenE (W28 k28_16 Q) Q)))) .normal e w := fun e w h => then_N (s28_20 (R := R) (Q := (thenE (W28 k28_17 (inBlockE 1 (thenE (W28 k28_16 Q) Q))) (inBlockE 1 (thenE (W28 k28_16 Q) Q)))) (K1 := K1) hN hR e w h)
  exact rgA 6 (fun e w => m28_20 R K1 (e 0) (e 1) (e 5) (e 27) w) h hN
theorem s28_12 {R : VP} {Q : EQ} (hR : ∀ e w, (R (e 4) w) → Q .ret e w) (e : Env) (w : World) (h : m28_12 R (e 4) w) : W28 k28_12 Q e w := by
  unfold m28_12 at h
  exact reA (hR _ _ h)
theorem s28_10 {R : VP} {Q : EQ} (hR : ∀ e w, (R (e 4) w) → Q .ret e w) (e : Env) (w : World) (h : m28_10 R (e 4) w) : W28 k28_10 Q e w := by
  unfold m28_10 at h
  exact reA (hR _ _ h)
theorem s28_9 {R : VP} {Q : EQ} (hR : ∀ e w, (R (e 4) w) → Q .ret e w) (e : Env) (w : World) (h : m28_9 R w) : W28 k28_9 Q e w := by
  unfold m28_9 at h
  refine seA ?_
  have hN : ∀ e w, (m28_10 R (e 4) w) → (thenE (W28 k28_10 Q) Q) .normal e w := fun e w h => then_N (s28_10 (R := R) (Q := Q) hR e w h)
  exact rgA 17 (fun e w => m28_10 R (e 4) w) h hN
theorem s28_8 {R : VP} {Q : EQ} (hR : ∀ e w, (R (e 4) w) → Q .ret e w) (e : Env) (w : World) (h : m28_8 R (e 0) w) : W28 k28_8 Q e w := by
  unfold m28_8 at h
  refine seA ?_
  have hN : ∀ e w, (m28_9 R w) → (thenE (W28 k28_9 Q) Q) .normal e w := fun e w h => then_N (s28_9 (R := R) (Q := Q) hR e w h)
  exact rgA 16 (fun e w => m28_9 R w) h hN
theorem s28_7 {R : VP} {Q : EQ} (hR : ∀ e w, (R (e 4) w) → Q .ret e w) (e : Env) (w : World) (h : m28_7 R (e 0) (e 6) w) : W28 k28_7 Q e w := by
  unfold m28_7 at h
  refine seA ?_
  have hN : ∀ e w, (m28_8 R (e 0) w) → (thenE (W28 k28_8 Q) Q) .normal e w := fun e w h => then_N (s28_8 (R := R) (Q := Q) hR e w h)
  exact rgA 15 (fun e w => m28_8 R (e 0) w) h hN
theorem s28_6 {R : VP} {Q : EQ} (hR : ∀ e w, (R (e 4) w) → Q .ret e w) (e : Env) (w : World) (h : m28_6 R (e 0) (e 1) (e 6) w) : W28 k28_6 Q e w := by
  unfold m28_6 at h
  refine seA ?_
  have hN : ∀ e w, (m28_7 R (e 0) (e 6) w) → (thenE (W28 k28_7 Q) Q) .normal e w := fun e w h => then_N (s28_7 (R := R) (Q := Q) hR e w h)
  exact rgA 14 (fun e w => m28_7 R (e 0) (e 6) w) h hN
theorem s28_5 {R : VP} {Q : EQ} (hR : ∀ e w, (R (e 4) w) → Q .ret e w) (e : Env) (w : World) (h : m28_5 R (e 0) (e 1) (e 6) w) : W28 k28_5 Q e w := by
  unfold m28_5 at h
  refine seA ?_
  have hN : ∀ e w, (m28_6 R (e 0) (e 1) (e 6) w) → (thenE (W28 k28_6 Q) Q) .normal e w := fun e w h => then_N (s28_6 (R := R) (Q := Q) hR e w h)
  exact rgA 13 (fun e w => m28_6 R (e 0) (e 1) (e 6) w) h hN
theorem s28_4 {R : VP} {Q : EQ} (hR : ∀ e w, (R (e 4) w) → Q .ret e w) (e : Env) (w : World) (h : m28_4 R (e 0) (e 1) w) : W28 k28_4 Q e w := by
  unfold m28_4 at h
  refine seA ?_
  have hN : ∀ e w, (m28_5 R (e 0) (e 1) (e 6) w) → (thenE (W28 k28_5 Q) Q) .normal e w := fun e w h => then_N (s28_5 (R := R) (Q := Q) hR e w h)
  exact rgA 12 (fun e w => m28_5 R (e 0) (e 1) (e 6) w) h hN
theorem s28_11 {R : VP} {Q : EQ} (hN : ∀ e w, (m28_4 R (e 0) (e 1) w) → Q .normal e w) (hR : ∀ e w, (R (e 4) w) → Q .ret e w) (e : Env) (w : World) (h : m28_11 R (e 0) (e 1) (e 53) w) : W28 k28_11 Q e w := by
  unfold m28_11 at h
  refine coA (Operand.tmp 53) h (fun h1 => ?_) (fun h1 => ?_)
  · refine seA ?_
    have hN : ∀ e w, (m28_12 R (e 4) w) → (thenE (W28 k28_12 Q) Q) .normal e w := fun e w h => then_N (s28_12 (R := R) (Q := Q) hR e w h)
    exact rgA 11 (fun e w => m28_12 R (e 4) w) h1 hN
  · exact skA (hN _ _ h1)
theorem s28_3 {R : VP} {Q : EQ} (hR : ∀ e w, (R (e 4) w) → Q .ret e w) (e : Env) (w : World) (h : m28_3 R (e 0) (e 1) w) : W28 k28_3 Q e w := by
  unfold m28_3 at h
  refine seA ?_
  have hN : ∀ e w, (m28_4 R (e 0) (e 1) w) → (thenE (W28 k28_4 Q) Q) .normal e w := fun e w h => then_N (s28_4 (R := R) (Q := Q) hR e w h)
  have hR : ∀ e w, (R (e 4) w) → (thenE (W28 k28_4 Q) Q) .ret e w := fun e w h => then_R (hR e w h)
  refine seA ?_
  have hN : ∀ e w, (m28_11 R (e 0) (e 1) (e 53) w) → (thenE (W28 k28_11 (thenE (W28 k28_4 Q) Q)) (thenE (W28 k28_4 Q) Q)) .normal e w := fun e w h => then_N (s28_11 (R := R) (Q := (thenE (W28 k28_4 Q) Q)) hN hR e w h)
  exact rgA 10 (fun e w => m28_11 R (e 0) (e 1) (e 53) w) h hN
theorem s28_22 {R : VP} {K1 : VP} {Q : EQ} (hN : ∀ e w, (m28_15 R K1 (e 0) (e 1) (e 5) w) → Q .normal e w) (hX0 : ∀ e w, (m28_3 R (e 0) (e 1) w) → Q (.exit 0) e w) (e : Env) (w : World) (h : m28_22 R K1 (e 0) (e 1) (e 5) (e 13) w) : W28 k28_22 Q e w := by
  unfold m28_22 at h
  refine coA (Operand.tmp 13) h (fun h1 => ?_) (fun h1 => ?_)
  · exact skA (hN _ _ h1)
  · exact exA 0 (hX0 _ _ h1)
theorem s28_14 {R : VP} {K1 : VP} {Q : EQ} (hN : ∀ e w, (K1 (e 5) w) → Q .normal e w) (hR : ∀ e w, (R (e 4) w) → Q .ret e w) (hX0 : ∀ e w, (m28_3 R (e 0) (e 1) w) → Q (.exit 0) e w) (e : Env) (w : World) (h : m28_14 R K1 (e 0) (e 1) (e 5) w) : W28 k28_14 Q e w := by
  unfold m28_14 at h
  refine seA ?_
  have hN : ∀ e w, (m28_15 R K1 (e 0) (e 1) (e 5) w) → (thenE (W28 k28_15 Q) Q) .normal e w := fun e w h => then_N (s28_15 (R := R) (Q := Q) (K1 := K1) hN hR e w h)
  have hX0 : ∀ e w, (m28_3 R (e 0) (e 1) w) → (thenE (W28 k28_15 Q) Q) (.exit 0) e w := fun e w h => then_X (hX0 e w h)
  refine seA ?_
  have hN : ∀ e w, (m28_22 R K1 (e 0) (e 1) (e 5) (e 13) w) → (thenE (W28 k28_22 (thenE (W28 k28_15 Q) Q)) (thenE (W28 k28_15 Q) Q)) .normal e w := fun e w h => then_N (s28_22 (R := R) (Q := (thenE (W28 k28_15 Q) Q)) (K1 := K1) hN hX0 e w h)
  exact rgA 4 (fun e w => m28_22 R K1 (e 0) (e 1) (e 5) (e 13) w) h hN
theorem s28_13 {R : VP} {Q : EQ} (hN : ∀ e w, (m28_3 R (e 0) (e 1) w) → Q .normal e w) (hR : ∀ e w, (R (e 4) w) → Q .ret e w) (e : Env) (w : World) (h : m28_13 R (e 0) (e 1) (e 5) w) : W28 k28_13 Q e w := by
  unfold m28_13 at h
  refine block_ok 0 (by kernel_rfl) ?_
  have hX0 : ∀ e w, (m28_3 R (e 0) (e 1) w) → (inBlockE 0 Q) (.exit 0) e w := fun e w h => inBlock_same (Q := Q) 0 (hN e w h)
  have hR : ∀ e w, (R (e 4) w) → (inBlockE 0 Q) .ret e w := fun e w h => block_R (hR e w h)
  refine loop_ok' (fun (e : Env) => e 5) [0, 1] (by kernel_rfl) (by kernel_rfl) h (fun K e' w' hk h' => ?_)
  have r0 : e' 0 = e 0 := hk 0 (by decide)
  have r1 : e' 1 = e 1 := hk 1 (by decide)
  have hR : ∀ e w, (R (e 4) w) → (thenE (fun (e : Env) w => K (e 5) w) (inBlockE 0 Q)) .ret e w := fun e w h => then_R (hR e w h)
  have hX0 : ∀ e w, (m28_3 R (e 0) (e 1) w) → (thenE (fun (e : Env) w => K (e 5) w) (inBlockE 0 Q)) (.exit 0) e w := fun e w h => then_X (hX0 e w h)
  exact s28_14 (R := R) (Q := (thenE (fun (e : Env) w => K (e 5) w) (inBlockE 0 Q))) (K1 := K) (fun _ _ h => then_N h) hR hX0 e' w' (by rw [r0, r1]; exact h')
theorem s28_2 {R : VP} {Q : EQ} (hR : ∀ e w, (R (e 4) w) → Q .ret e w) (e : Env) (w : World) (h : m28_2 R (e 0) (e 1) w) : W28 k28_2 Q e w := by
  unfold m28_2 at h
  refine seA ?_
  have hN : ∀ e w, (m28_3 R (e 0) (e 1) w) → (thenE (W28 k28_3 Q) Q) .normal e w := fun e w h => then_N (s28_3 (R := R) (Q := Q) hR e w h)
  have hR : ∀ e w, (R (e 4) w) → (thenE (W28 k28_3 Q) Q) .ret e w := fun e w h => then_R (hR e w h)
  refine seA ?_
  have hN : ∀ e w, (m28_13 R (e 0) (e 1) (e 5) w) → (thenE (W28 k28_13 (thenE (W28 k28_3 Q) Q)) (thenE (W28 k28_3 Q) Q)) .normal e w := fun e w h => then_N (s28_13 (R := R) (Q := (thenE (W28 k28_3 Q) Q)) hN hR e w h)
  exact rgA 3 (fun e w => m28_13 R (e 0) (e 1) (e 5) w) h hN
theorem s28_23 {R : VP} {Q : EQ} (hN : ∀ e w, (m28_2 R (e 0) (e 1) w) → Q .normal e w) (hR : ∀ e w, (R (e 4) w) → Q .ret e w) (e : Env) (w : World) (h : m28_23 R (e 0) (e 1) (e 9) w) : W28 k28_23 Q e w := by
  unfold m28_23 at h
  refine coA (Operand.tmp 9) h (fun h1 => ?_) (fun h1 => ?_)
  · refine seA ?_
    have hN : ∀ e w, (m28_24 R (e 4) w) → (thenE (W28 k28_24 Q) Q) .normal e w := fun e w h => then_N (s28_24 (R := R) (Q := Q) hR e w h)
    exact rgA 2 (fun e w => m28_24 R (e 4) w) h1 hN
  · exact skA (hN _ _ h1)
theorem s28_1 {R : VP} {Q : EQ} (hR : ∀ e w, (R (e 4) w) → Q .ret e w) (e : Env) (w : World) (h : m28_1 R (e 0) (e 1) w) : W28 k28_1 Q e w := by
  unfold m28_1 at h
  refine seA ?_
  have hN : ∀ e w, (m28_2 R (e 0) (e 1) w) → (thenE (W28 k28_2 Q) Q) .normal e w := fun e w h => then_N (s28_2 (R := R) (Q := Q) hR e w h)
  have hR : ∀ e w, (R (e 4) w) → (thenE (W28 k28_2 Q) Q) .ret e w := fun e w h => then_R (hR e w h)
  refine seA ?_
  have hN : ∀ e w, (m28_23 R (e 0) (e 1) (e 9) w) → (thenE (W28 k28_23 (thenE (W28 k28_2 Q) Q)) (thenE (W28 k28_2 Q) Q)) .normal e w := fun e w h => then_N (s28_23 (R := R) (Q := (thenE (W28 k28_2 Q) Q)) hN hR e w h)
  exact rgA 1 (fun e w => m28_23 R (e 0) (e 1) (e 9) w) h hN
theorem s28_0 {R : VP} {Q : EQ} (hR : ∀ e w, (R (e 4) w) → Q .ret e w) (e : Env) (w : World) (h : m28_0 R (e 0) (e 1) w) : W28 k28_0 Q e w := by
  unfold m28_0 at h
  refine seA ?_
  have hN : ∀ e w, (m28_1 R (e 0) (e 1) w) → (thenE (W28 k28_1 Q) Q) .normal e w := fun e w h => then_N (s28_1 (R := R) (Q := Q) hR e w h)
  exact rgA 0 (fun e w => m28_1 R (e 0) (e 1) w) h hN
abbrev m28 (R : VP) (c0 members1 : Value) (w : World) : Prop := m28_0 R c0 members1 w
theorem s28 (c0 members1 : Value) {R : VP} {w : World} (h : m28 R c0 members1 w) :
    Calls Try.prog 28 #[c0, members1] w fun e w' => ∃ v, e = .returned v ∧ R v w' :=
  calls_of_cwp (st := (fun i => 0)) (c := k28_0) (by kernel_rfl) Try.func28 (by kernel_rfl) (Nat.le_of_ble_eq_true (by kernel_rfl)) (by kernel_rfl)
    (s28_0 (R := R) (Q := endE Try.prog Try.f28 R) (fun e w h => kcast (by kernel_rfl) h) (argsE #[c0, members1]) w (kcast (by kernel_rfl) h))
/-! ### (*headgate/headgateref35.Coop).Leave -/
def m30_15 (R : VP) (t4 : Value) (w : World) : Prop :=
  R t4 w
def m30_11 (R : VP) (K1 : (Value × Value) → World → Prop) (c0 m1 l5 i6 : Value) (w : World) : Prop :=
  valP Try.prog (binS BinOp.add 3 (Operand.tmp 18) (Operand.const (Value.int IntKind.i64 1)) i6 (Value.int IntKind.i64 1)) w fun t19 w =>
  K1 (l5, t19) w
def m30_12 (R : VP) (K1 : (Value × Value) → World → Prop) (c0 m1 l5 i6 t28 : Value) (w : World) : Prop :=
  condP t28
  (nilCheckP c0 fun t31 =>
  valP Try.prog (Instr.fieldAt 55 t31 1) w fun t32 w =>
  valP Try.prog (Instr.loadAt 28 t32) w fun t33 w =>
  valP Try.prog (Instr.indexAt 28 t33 i6) w fun t35 w =>
  valP Try.prog (Instr.loadAt 3 t35) w fun t36 w =>
  valP Try.prog (Instr.buildSlice 28 1 #[(0, t36)]) w fun t37 w =>
  builtinP Try.prog Builtin.append #[28, 28] 28 #[false, false] #[l5, t37] w fun t38 w =>
  m30_11 R K1 c0 m1 t38 i6 w)
  (m30_11 R K1 c0 m1 l5 i6 w)
def m30_10 (R : VP) (K1 : (Value × Value) → World → Prop) (c0 m1 l5 i6 : Value) (w : World) : Prop :=
  nilCheckP c0 fun t21 =>
  valP Try.prog (Instr.fieldAt 55 t21 1) w fun t22 w =>
  valP Try.prog (Instr.loadAt 28 t22) w fun t23 w =>
  valP Try.prog (Instr.indexAt 28 t23 i6) w fun t25 w =>
  valP Try.prog (Instr.loadAt 3 t25) w fun t26 w =>
  valP Try.prog (binS BinOp.neq 3 (Operand.tmp 26) (Operand.tmp 27) t26 m1) w fun t28 w =>
  m30_12 R K1 c0 m1 l5 i6 t28 w
def m30_7 (R : VP) (t4 : Value) (w : World) : Prop :=
  R t4 w
def m30_6 (R : VP) (w : World) : Prop :=
  m30_7 R (Value.int IntKind.i64 0) w
def m30_5 (R : VP) (c0 : Value) (w : World) : Prop :=
  callP Try.prog (fnV 64) #[c0] w fun t44 w =>
  m30_6 R w
def m30_4 (R : VP) (c0 l5 : Value) (w : World) : Prop :=
  nilCheckP c0 fun t41 =>
  valP Try.prog (Instr.fieldAt 55 t41 1) w fun t42 w =>
  unitP Try.prog (Instr.storeAt 28 t42 l5) w fun _ w =>
  m30_5 R c0 w
def m30_13 (R : VP) (K1 : (Value × Value) → World → Prop) (c0 m1 l5 i6 t17 : Value) (w : World) : Prop :=
  condP t17
  (m30_10 R K1 c0 m1 l5 i6 w)
  (m30_4 R c0 l5 w)
def m30_9 (R : VP) (K1 : (Value × Value) → World → Prop) (c0 m1 l5 i6 : Value) (w : World) : Prop :=
  nilCheckP c0 fun t13 =>
  valP Try.prog (Instr.fieldAt 55 t13 1) w fun t14 w =>
  valP Try.prog (Instr.loadAt 28 t14) w fun t15 w =>
  builtinP Try.prog Builtin.len #[28] 3 #[false] #[t15] w fun t16 w =>
  valP Try.prog (binS BinOp.lss 3 (Operand.tmp 11) (Operand.tmp 16) i6 t16) w fun t17 w =>
  m30_13 R K1 c0 m1 l5 i6 t17 w
def m30_8 (R : VP) (c0 m1 l5 i6 : Value) (w : World) : Prop :=
  loopP (fun (K1 : (Value × Value) → World → Prop) (s : Value × Value) w => m30_9 R K1 c0 m1 s.1 s.2 w) (l5, i6) w
def m30_3 (R : VP) (c0 m1 l5 : Value) (w : World) : Prop :=
  m30_8 R c0 m1 l5 (Value.int IntKind.i64 0) w
def m30_2 (R : VP) (c0 m1 : Value) (w : World) : Prop :=
  m30_3 R c0 m1 (Value.slice none 0 0) w
def m30_14 (R : VP) (c0 m1 t10 : Value) (w : World) : Prop :=
  condP t10
  (m30_15 R (Value.int IntKind.i64 11) w)
  (m30_2 R c0 m1 w)
def m30_1 (R : VP) (c0 m1 : Value) (w : World) : Prop :=
  callP Try.prog (fnV 62) #[c0, m1] w fun t9 w =>
  valP Try.prog (Op.unary UnOp.not t9) w fun t10 w =>
  m30_14 R c0 m1 t10 w
def m30_0 (R : VP) (c0 m1 : Value) (w : World) : Prop :=
  m30_1 R c0 m1 w
abbrev W30 := cwp Try.prog (fun i => 0)
noncomputable def k30_0 : Code := (bodyOf Try.f30)
noncomputable def k30_1 : Code := (c2 k30_0)
noncomputable def k30_2 : Code := (c2 k30_1)
noncomputable def k30_3 : Code := (c2 k30_2)
noncomputable def k30_4 : Code := (c2 k30_3)
noncomputable def k30_5 : Code := (c2 k30_4)
noncomputable def k30_6 : Code := (c2 k30_5)
noncomputable def k30_7 : Code := (c2 k30_6)
noncomputable def k30_8 : Code := (c2 (c1 k30_3))
noncomputable def k30_9 : Code := (c1 (c1 k30_8))
noncomputable def k30_10 : Code := (c2 k30_9)
noncomputable def k30_11 : Code := (c2 k30_10)
noncomputable def k30_12 : Code := (c2 (c1 (c1 k30_10)))
noncomputable def k30_13 : Code := (c2 (c1 k30_9))
noncomputable def k30_14 : Code := (c2 (c1 k30_1))
noncomputable def k30_15 : Code := (c2 (c1 k30_14))
theorem s30_15 {R : VP} {Q : EQ} (hR : ∀ e w, (R (e 4) w) → Q .ret e w) (e : Env) (w : World) (h : m30_15 R (e 4) w) : W30 k30_15 Q e w := by
  unfold m30_15 at h
  exact reA (hR _ _ h)
theorem s30_11 {R : VP} {K1 : (Value × Value) → World → Prop} {Q : EQ} (hN : ∀ e w, (K1 ((e 5), (e 6)) w) → Q .normal e w) (e : Env) (w : World) (h : m30_11 R K1 (e 0) (e 1) (e 5) (e 6) w) : W30 k30_11 Q e w := by
  unfold m30_11 at h
  exact rgA 6 (fun e w => K1 ((e 5), (e 6)) w) h hN
theorem s30_12 {R : VP} {K1 : (Value × Value) → World → Prop} {Q : EQ} (hN : ∀ e w, (m30_11 R K1 (e 0) (e 1) (e 5) (e 6) w) → Q .normal e w) (e : Env) (w : World) (h : m30_12 R K1 (e 0) (e 1) (e 5) (e 6) (e 28) w) : W30 k30_12 Q e w := by
  unfold m30_12 at h
  refine coA (Operand.tmp 28) h (fun h1 => ?_) (fun h1 => ?_)
  · exact rgA 8 (fun e w => m30_11 R K1 (e 0) (e 1) (e 5) (e 6) w) h1 hN
  · exact skA (hN _ _ h1)
theorem s30_10 {R : VP} {K1 : (Value × Value) → World → Prop} {Q : EQ} (hN : ∀ e w, (K1 ((e 5), (e 6)) w) → Q .normal e w) (e : Env) (w : World) (h : m30_10 R K1 (e 0) (e 1) (e 5) (e 6) w) : W30 k30_10 Q e w := by
  unfold m30_10 at h
  refine seA ?_
  have hN : ∀ e w, (m30_11 R K1 (e 0) (e 1) (e 5) (e 6) w) → (thenE (W30 k30_11 Q) Q) .normal e w := fun e w h => then_N (s30_11 (R := R) (Q := Q) (K1 := K1) hN e w h)
  refine block_ok 1 (by kernel_rfl) ?_
  have hN : ∀ e w, (m30_11 R K1 (e 0) (e 1) (e 5) (e 6) w) → (inBlockE 1 (thenE (W30 k30_11 Q) Q)) .normal e w := fun e w h => block_N (hN e w h)
  refine seA ?_
  have hN : ∀ e w, (m30_12 R K1 (e 0) (e 1) (e 5) (e 6) (e 28) w) → (thenE (W30 k30_12 (inBlockE 1 (thenE (W30 k30_11 Q) Q))) (inBlockE 1 (thenE (W30 k30_11 Q) Q))) .normal e w := fun e w h => then_N (s30_12 (R := R) (Q := (inBlockE 1 (thenE (W30 k30_11 Q) Q))) (K1 := K1) hN e w h)
  exact rgA 7 (fun e w => m30_12 R K1 (e 0) (e 1) (e 5) (e 6) (e 28) w) h hN
theorem s30_7 {R : VP} {Q : EQ} (hR : ∀ e w, (R (e 4) w) → Q .ret e w) (e : Env) (w : World) (h : m30_7 R (e 4) w) : W30 k30_7 Q e w := by
  unfold m30_7 at h
  exact reA (hR _ _ h)
theorem s30_6 {R : VP} {Q : EQ} (hR : ∀ e w, (R (e 4) w) → Q .ret e w) (e : Env) (w : World) (h : m30_6 R w) : W30 k30_6 Q e w := by
  unfold m30_6 at h
  refine seA ?_
  have hN : ∀ e w, (m30_7 R (e 4) w) → (thenE (W30 k30_7 Q) Q) .normal e w := fun e w h => then_N (s30_7 (R := R) (Q := Q) hR e w h)
  exact rgA 11 (fun e w => m30_7 R (e 4) w) h hN
theorem s30_5 {R : VP} {Q : EQ} (hR : ∀ e w, (R (e 4) w) → Q .ret e w) (e : Env) (w : World) (h : m30_5 R (e 0) w) : W30 k30_5 Q e w := by
  unfold m30_5 at h
  refine seA ?_
  have hN : ∀ e w, (m30_6 R w) → (thenE (W30 k30_6 Q) Q) .normal e w := fun e w h => then_N (s30_6 (R := R) (Q := Q) hR e w h)
  exact rgA 10 (fun e w => m30_6 R w) h hN
theorem s30_4 {R : VP} {Q : EQ} (hR : ∀ e w, (R (e 4) w) → Q .ret e w) (e : Env) (w : World) (h : m30_4 R (e 0) (e 5) w) : W30 k30_4 Q e w := by
  unfold m30_4 at h
  refine seA ?_
  have hN : ∀ e w, (m30_5 R (e 0) w) → (thenE (W30 k30_5 Q) Q) .normal e w := fun e w h => then_N (s30_5 (R := R) (Q := Q) hR e w h)
  exact rgA 9 (fun e w => m30_5 R (e 0) w) h hN
theorem s30_13 {R : VP} {K1 : (Value × Value) → World → Prop} {Q : EQ} (hN : ∀ e w, (m30_10 R K1 (e 0) (e 1) (e 5) (e 6) w) → Q .normal e w) (hX0 : ∀ e w, (m30_4 R (e 0) (e 5) w) → Q (.exit 0) e w) (e : Env) (w : World) (h : m30_13 R K1 (e 0) (e 1) (e 5) (e 6) (e 17) w) : W30 k30_13 Q e w := by
  unfold m30_13 at h
  refine coA (Operand.tmp 17) h (fun h1 => ?_) (fun h1 => ?_)
  · exact skA (hN _ _ h1)
  · exact exA 0 (hX0 _ _ h1)
theorem s30_9 {R : VP} {K1 : (Value × Value) → World → Prop} {Q : EQ} (hN : ∀ e w, (K1 ((e 5), (e 6)) w) → Q .normal e w) (hX0 : ∀ e w, (m30_4 R (e 0) (e 5) w) → Q (.exit 0) e w) (e : Env) (w : World) (h : m30_9 R K1 (e 0) (e 1) (e 5) (e 6) w) : W30 k30_9 Q e w := by
  unfold m30_9 at h
  refine seA ?_
  have hN : ∀ e w, (m30_10 R K1 (e 0) (e 1) (e 5) (e 6) w) → (thenE (W30 k30_10 Q) Q) .normal e w := fun e w h => then_N (s30_10 (R := R) (Q := Q) (K1 := K1) hN e w h)
  have hX0 : ∀ e w, (m30_4 R (e 0) (e 5) w) → (thenE (W30 k30_10 Q) Q) (.exit 0) e w := fun e w h => then_X (hX0 e w h)
  refine seA ?_
  have hN : ∀ e w, (m30_13 R K1 (e 0) (e 1) (e 5) (e 6) (e 17) w) → (thenE (W30 k30_13 (thenE (W30 k30_10 Q) Q)) (thenE (W30 k30_10 Q) Q)) .normal e w := fun e w h => then_N (s30_13 (R := R) (Q := (thenE (W30 k30_10 Q) Q)) (K1 := K1) hN hX0 e w h)
  exact rgA 5 (fun e w => m30_13 R K1 (e 0) (e 1) (e 5) (e 6) (e 17) w) h hN
theorem s30_8 {R : VP} {Q : EQ} (hN : ∀ e w, (m30_4 R (e 0) (e 5) w) → Q .normal e w) (e : Env) (w : World) (h : m30_8 R (e 0) (e 1) (e 5) (e 6) w) : W30 k30_8 Q e w := by
  unfold m30_8 at h
  refine block_ok 0 (by kernel_rfl) ?_
  have hX0 : ∀ e w, (m30_4 R (e 0) (e 5) w) → (inBlockE 0 Q) (.exit 0) e w := fun e w h => inBlock_same (Q := Q) 0 (hN e w h)
  refine loop_ok' (fun (e : Env) => (e 5, e 6)) [0, 1] (by kernel_rfl) (by kernel_rfl) h (fun K e' w' hk h' => ?_)
  have r0 : e' 0 = e 0 := hk 0 (by decide)
  have r1 : e' 1 = e 1 := hk 1 (by decide)
  have hX0 : ∀ e w, (m30_4 R (e 0) (e 5) w) → (thenE (fun (e : Env) w => K ((e 5), (e 6)) w) (inBlockE 0 Q)) (.exit 0) e w := fun e w h => then_X (hX0 e w h)
  exact s30_9 (R := R) (Q := (thenE (fun (e : Env) w => K ((e 5), (e 6)) w) (inBlockE 0 Q))) (K1 := K) (fun _ _ h => then_N h) hX0 e' w' (by rw [r0, r1]; exact h')
theorem s30_3 {R : VP} {Q : EQ} (hR : ∀ e w, (R (e 4) w) → Q .ret e w) (e : Env) (w : World) (h : m30_3 R (e 0) (e 1) (e 5) w) : W30 k30_3 Q e w := by
  unfold m30_3 at h
  refine seA ?_
  have hN : ∀ e w, (m30_4 R (e 0) (e 5) w) → (thenE (W30 k30_4 Q) Q) .normal e w := fun e w h => then_N (s30_4 (R := R) (Q := Q) hR e w h)
  refine seA ?_
  have hN : ∀ e w, (m30_8 R (e 0) (e 1) (e 5) (e 6) w) → (thenE (W30 k30_8 (thenE (W30 k30_4 Q) Q)) (thenE (W30 k30_4 Q) Q)) .normal e w := fun e w h => then_N (s30_8 (R := R) (Q := (thenE (W30 k30_4 Q) Q)) hN e w h)
  exact rgA 4 (fun e w => m30_8 R (e 0) (e 1) (e 5) (e 6) w) h hN
theorem s30_2 {R : VP} {Q : EQ} (hR : ∀ e w, (R (e 4) w) → Q .ret e w) (e : Env) (w : World) (h : m30_2 R (e 0) (e 1) w) : W30 k30_2 Q e w := by
  unfold m30_2 at h
  refine seA ?_
  have hN : ∀ e w, (m30_3 R (e 0) (e 1) (e 5) w) → (thenE (W30 k30_3 Q) Q) .normal e w := fun e w h => then_N (s30_3 (R := R) (Q := Q) hR e w h)
  exact rgA 3 (fun e w => m30_3 R (e 0) (e 1) (e 5) w) h hN
theorem s30_14 {R : VP} {Q : EQ} (hN : ∀ e w, (m30_2 R (e 0) (e 1) w) → Q .normal e w) (hR : ∀ e w, (R (e 4) w) → Q .ret e w) (e : Env) (w : World) (h : m30_14 R (e 0) (e 1) (e 10) w) : W30 k30_14 Q e w := by
  unfold m30_14 at h
  refine coA (Operand.tmp 10) h (fun h1 => ?_) (fun h1 => ?_)
  · refine seA ?_
    have hN : ∀ e w, (m30_15 R (e 4) w) → (thenE (W30 k30_15 Q) Q) .normal e w := fun e w h => then_N (s30_15 (R := R) (Q := Q) hR e w h)
    exact rgA 2 (fun e w => m30_15 R (e 4) w) h1 hN
  · exact skA (hN _ _ h1)
theorem s30_1 {R : VP} {Q : EQ} (hR : ∀ e w, (R (e 4) w) → Q .ret e w) (e : Env) (w : World) (h : m30_1 R (e 0) (e 1) w) : W30 k30_1 Q e w := by
  unfold m30_1 at h
  refine seA ?_
  have hN : ∀ e w, (m30_2 R (e 0) (e 1) w) → (thenE (W30 k30_2 Q) Q) .normal e w := fun e w h => then_N (s30_2 (R := R) (Q := Q) hR e w h)
  have hR : ∀ e w, (R (e 4) w) → (thenE (W30 k30_2 Q) Q) .ret e w := fun e w h => then_R (hR e w h)
  refine seA ?_
  have hN : ∀ e w, (m30_14 R (e 0) (e 1) (e 10) w) → (thenE (W30 k30_14 (thenE (W30 k30_2 Q) Q)) (thenE (W30 k30_2 Q) Q)) .normal e w := fun e w h => then_N (s30_14 (R := R) (Q := (thenE (W30 k30_2 Q) Q)) hN hR e w h)
  exact rgA 1 (fun e w => m30_14 R (e 0) (e 1) (e 10) w) h hN
theorem s30_0 {R : VP} {Q : EQ} (hR : ∀ e w, (R (e 4) w) → Q .ret e w) (e : Env) (w : World) (h : m30_0 R (e 0) (e 1) w) : W30 k30_0 Q e w := by
  unfold m30_0 at h
  refine seA ?_
  have hN : ∀ e w, (m30_1 R (e 0) (e 1) w) → (thenE (W30 k30_1 Q) Q) .normal e w := fun e w h => then_N (s30_1 (R := R) (Q := Q) hR e w h)
  exact rgA 0 (fun e w => m30_1 R (e 0) (e 1) w) h hN
abbrev m30 (R : VP) (c0 m1 : Value) (w : World) : Prop := m30_0 R c0 m1 w
theorem s30 (c0 m1 : Value) {R : VP} {w : World} (h : m30 R c0 m1 w) :
    Calls Try.prog 30 #[c0, m1] w fun e w' => ∃ v, e = .returned v ∧ R v w' :=
  calls_of_cwp (st := (fun i => 0)) (c := k30_0) (by kernel_rfl) Try.func30 (by kernel_rfl) (Nat.le_of_ble_eq_true (by kernel_rfl)) (by kernel_rfl)
    (s30_0 (R := R) (Q := endE Try.prog Try.f30 R) (fun e w h => kcast (by kernel_rfl) h) (argsE #[c0, m1]) w (kcast (by kernel_rfl) h))
/-! ### (*headgate/headgateref35.Coop).Revoke -/
def m31_13 (R : VP) (t4 t5 : Value) (w : World) : Prop :=
  R (Value.tuple #[t4, t5]) w
def m31_9 (R : VP) (K1 : (Value × Value) → World → Prop) (c0 m1 l6 p7 : Value) (w : World) : Prop :=
  valP Try.prog (binS BinOp.add 3 (Operand.tmp 19) (Operand.const (Value.int IntKind.i64 1)) p7 (Value.int IntKind.i64 1)) w fun t20 w =>
  K1 (l6, t20) w
def m31_10 (R : VP) (K1 : (Value × Value) → World → Prop) (c0 m1 l6 p7 t40 : Value) (w : World) : Prop :=
  condP t40
  (valP Try.prog (Instr.buildSlice 28 1 #[(0, p7)]) w fun t43 w =>
  builtinP Try.prog Builtin.append #[28, 28] 28 #[false, false] #[l6, t43] w fun t44 w =>
  m31_9 R K1 c0 m1 t44 p7 w)
  (m31_9 R K1 c0 m1 l6 p7 w)
def m31_8 (R : VP) (K1 : (Value × Value) → World → Prop) (c0 m1 l6 p7 : Value) (w : World) : Prop :=
  nilCheckP c0 fun t22 =>
  valP Try.prog (Instr.fieldAt 55 t22 2) w fun t23 w =>
  valP Try.prog (Instr.loadAt 28 t23) w fun t24 w =>
  valP Try.prog (Instr.indexAt 28 t24 p7) w fun t26 w =>
  valP Try.prog (Instr.loadAt 3 t26) w fun t27 w =>
  valP Try.prog (binS BinOp.eql 3 (Operand.tmp 27) (Operand.tmp 28) t27 m1) w fun t29 w =>
  condP t29
  (nilCheckP c0 fun t32 =>
  valP Try.prog (Instr.fieldAt 55 t32 3) w fun t33 w =>
  valP Try.prog (Instr.loadAt 28 t33) w fun t34 w =>
  valP Try.prog (Instr.indexAt 28 t34 p7) w fun t36 w =>
  valP Try.prog (Instr.loadAt 3 t36) w fun t37 w =>
  valP Try.prog (binS BinOp.neq 3 (Operand.tmp 37) (Operand.tmp 38) t37 m1) w fun t39 w =>
  pickP t29 t39 (Value.bool false) fun t40 =>
  m31_10 R K1 c0 m1 l6 p7 t40 w)
  (pickP t29 undef (Value.bool false) fun t40 =>
  m31_10 R K1 c0 m1 l6 p7 t40 w)
def m31_5 (R : VP) (t4 t5 : Value) (w : World) : Prop :=
  R (Value.tuple #[t4, t5]) w
def m31_4 (R : VP) (l6 : Value) (w : World) : Prop :=
  m31_5 R l6 (Value.int IntKind.i64 0) w
def m31_11 (R : VP) (K1 : (Value × Value) → World → Prop) (c0 m1 l6 p7 t18 : Value) (w : World) : Prop :=
  condP t18
  (m31_8 R K1 c0 m1 l6 p7 w)
  (m31_4 R l6 w)
def m31_7 (R : VP) (K1 : (Value × Value) → World → Prop) (c0 m1 l6 p7 : Value) (w : World) : Prop :=
  nilCheckP c0 fun t14 =>
  valP Try.prog (Instr.fieldAt 55 t14 2) w fun t15 w =>
  valP Try.prog (Instr.loadAt 28 t15) w fun t16 w =>
  builtinP Try.prog Builtin.len #[28] 3 #[false] #[t16] w fun t17 w =>
  valP Try.prog (binS BinOp.lss 3 (Operand.tmp 12) (Operand.tmp 17) p7 t17) w fun t18 w =>
  m31_11 R K1 c0 m1 l6 p7 t18 w
def m31_6 (R : VP) (c0 m1 l6 p7 : Value) (w : World) : Prop :=
  loopP (fun (K1 : (Value × Value) → World → Prop) (s : Value × Value) w => m31_7 R K1 c0 m1 s.1 s.2 w) (l6, p7) w
def m31_3 (R : VP) (c0 m1 l6 : Value) (w : World) : Prop :=
  m31_6 R c0 m1 l6 (Value.int IntKind.i64 0) w
def m31_2 (R : VP) (c0 m1 : Value) (w : World) : Prop :=
  m31_3 R c0 m1 (Value.slice none 0 0) w
def m31_12 (R : VP) (c0 m1 t11 : Value) (w : World) : Prop :=
  condP t11
  (m31_13 R (Value.slice none 0 0) (Value.int IntKind.i64 11) w)
  (m31_2 R c0 m1 w)
def m31_1 (R : VP) (c0 m1 : Value) (w : World) : Prop :=
  callP Try.prog (fnV 62) #[c0, m1] w fun t10 w =>
  valP Try.prog (Op.unary UnOp.not t10) w fun t11 w =>
  m31_12 R c0 m1 t11 w
def m31_0 (R : VP) (c0 m1 : Value) (w : World) : Prop :=
  m31_1 R c0 m1 w
abbrev W31 := cwp Try.prog (fun i => 0)
noncomputable def k31_0 : Code := (bodyOf Try.f31)
noncomputable def k31_1 : Code := (c2 k31_0)
noncomputable def k31_2 : Code := (c2 k31_1)
noncomputable def k31_3 : Code := (c2 k31_2)
noncomputable def k31_4 : Code := (c2 k31_3)
noncomputable def k31_5 : Code := (c2 k31_4)
noncomputable def k31_6 : Code := (c2 (c1 k31_3))
noncomputable def k31_7 : Code := (c1 (c1 k31_6))
noncomputable def k31_8 : Code := (c2 k31_7)
noncomputable def k31_9 : Code := (c2 k31_8)
noncomputable def k31_10 : Code := (c2 (c1 (c1 k31_8)))
noncomputable def k31_11 : Code := (c2 (c1 k31_7))
noncomputable def k31_12 : Code := (c2 (c1 k31_1))
noncomputable def k31_13 : Code := (c2 (c1 k31_12))
theorem s31_13 {R : VP} {Q : EQ} (hR : ∀ e w, (R (Value.tuple #[(e 4), (e 5)]) w) → Q .ret e w) (e : Env) (w : World) (h : m31_13 R (e 4) (e 5) w) : W31 k31_13 Q e w := by
  unfold m31_13 at h
  exact reA (hR _ _ h)
theorem s31_9 {R : VP} {K1 : (Value × Value) → World → Prop} {Q : EQ} (hN : ∀ e w, (K1 ((e 6), (e 7)) w) → Q .normal e w) (e : Env) (w : World) (h : m31_9 R K1 (e 0) (e 1) (e 6) (e 7) w) : W31 k31_9 Q e w := by
  unfold m31_9 at h
  exact rgA 6 (fun e w => K1 ((e 6), (e 7)) w) h hN
theorem s31_10 {R : VP} {K1 : (Value × Value) → World → Prop} {Q : EQ} (hN : ∀ e w, (m31_9 R K1 (e 0) (e 1) (e 6) (e 7) w) → Q .normal e w) (e : Env) (w : World) (h : m31_10 R K1 (e 0) (e 1) (e 6) (e 7) (e 40) w) : W31 k31_10 Q e w := by
  unfold m31_10 at h
  refine coA (Operand.tmp 40) h (fun h1 => ?_) (fun h1 => ?_)
  · exact rgA 8 (fun e w => m31_9 R K1 (e 0) (e 1) (e 6) (e 7) w) h1 hN
  · exact skA (hN _ _ h1)
theorem s31_8 {R : VP} {K1 : (Value × Value) → World → Prop} {Q : EQ} (hN : ∀ e w, (K1 ((e 6), (e 7)) w) → Q .normal e w) (e : Env) (w : World) (h : m31_8 R K1 (e 0) (e 1) (e 6) (e 7) w) : W31 k31_8 Q e w := by
  unfold m31_8 at h
  refine seA ?_
  have hN : ∀ e w, (m31_9 R K1 (e 0) (e 1) (e 6) (e 7) w) → (thenE (W31 k31_9 Q) Q) .normal e w := fun e w h => then_N (s31_9 (R := R) (Q := Q) (K1 := K1) hN e w h)
  refine block_ok 1 (by kernel_rfl) ?_
  have hN : ∀ e w, (m31_9 R K1 (e 0) (e 1) (e 6) (e 7) w) → (inBlockE 1 (thenE (W31 k31_9 Q) Q)) .normal e w := fun e w h => block_N (hN e w h)
  refine seA ?_
  have hN : ∀ e w, (m31_10 R K1 (e 0) (e 1) (e 6) (e 7) (e 40) w) → (thenE (W31 k31_10 (inBlockE 1 (thenE (W31 k31_9 Q) Q))) (inBlockE 1 (thenE (W31 k31_9 Q) Q))) .normal e w := fun e w h => then_N (s31_10 (R := R) (Q := (inBlockE 1 (thenE (W31 k31_9 Q) Q))) (K1 := K1) hN e w h)
  exact rgA 7 (fun e w => m31_10 R K1 (e 0) (e 1) (e 6) (e 7) (e 40) w) h hN
theorem s31_5 {R : VP} {Q : EQ} (hR : ∀ e w, (R (Value.tuple #[(e 4), (e 5)]) w) → Q .ret e w) (e : Env) (w : World) (h : m31_5 R (e 4) (e 5) w) : W31 k31_5 Q e w := by
  unfold m31_5 at h
  exact reA (hR _ _ h)
theorem s31_4 {R : VP} {Q : EQ} (hR : ∀ e w, (R (Value.tuple #[(e 4), (e 5)]) w) → Q .ret e w) (e : Env) (w : World) (h : m31_4 R (e 6) w) : W31 k31_4 Q e w := by
  unfold m31_4 at h
  refine seA ?_
  have hN : ∀ e w, (m31_5 R (e 4) (e 5) w) → (thenE (W31 k31_5 Q) Q) .normal e w := fun e w h => then_N (s31_5 (R := R) (Q := Q) hR e w h)
  exact rgA 9 (fun e w => m31_5 R (e 4) (e 5) w) h hN
theorem s31_11 {R : VP} {K1 : (Value × Value) → World → Prop} {Q : EQ} (hN : ∀ e w, (m31_8 R K1 (e 0) (e 1) (e 6) (e 7) w) → Q .normal e w) (hX0 : ∀ e w, (m31_4 R (e 6) w) → Q (.exit 0) e w) (e : Env) (w : World) (h : m31_11 R K1 (e 0) (e 1) (e 6) (e 7) (e 18) w) : W31 k31_11 Q e w := by
  unfold m31_11 at h
  refine coA (Operand.tmp 18) h (fun h1 => ?_) (fun h1 => ?_)
  · exact skA (hN _ _ h1)
  · exact exA 0 (hX0 _ _ h1)
theorem s31_7 {R : VP} {K1 : (Value × Value) → World → Prop} {Q : EQ} (hN : ∀ e w, (K1 ((e 6), (e 7)) w) → Q .normal e w) (hX0 : ∀ e w, (m31_4 R (e 6) w) → Q (.exit 0) e w) (e : Env) (w : World) (h : m31_7 R K1 (e 0) (e 1) (e 6) (e 7) w) : W31 k31_7 Q e w := by
  unfold m31_7 at h
  refine seA ?_
  have hN : ∀ e w, (m31_8 R K1 (e 0) (e 1) (e 6) (e 7) w) → (thenE (W31 k31_8 Q) Q) .normal e w := fun e w h => then_N (s31_8 (R := R) (Q := Q) (K1 := K1) hN e w h)
  have hX0 : ∀ e w, (m31_4 R (e 6) w) → (thenE (W31 k31_8 Q) Q) (.exit 0) e w := fun e w h => then_X (hX0 e w h)
  refine seA ?_
  have hN : ∀ e w, (m31_11 R K1 (e 0) (e 1) (e 6) (e 7) (e 18) w) → (thenE (W31 k31_11 (thenE (W31 k31_8 Q) Q)) (thenE (W31 k31_8 Q) Q)) .normal e w := fun e w h => then_N (s31_11 (R := R) (Q := (thenE (W31 k31_8 Q) Q)) (K1 := K1) hN hX0 e w h)
  exact rgA 5 (fun e w => m31_11 R K1 (e 0) (e 1) (e 6) (e 7) (e 18) w) h hN
theorem s31_6 {R : VP} {Q : EQ} (hN : ∀ e w, (m31_4 R (e 6) w) → Q .normal e w) (e : Env) (w : World) (h : m31_6 R (e 0) (e 1) (e 6) (e 7) w) : W31 k31_6 Q e w := by
  unfold m31_6 at h
  refine block_ok 0 (by kernel_rfl) ?_
  have hX0 : ∀ e w, (m31_4 R (e 6) w) → (inBlockE 0 Q) (.exit 0) e w := fun e w h => inBlock_same (Q := Q) 0 (hN e w h)
  refine loop_ok' (fun (e : Env) => (e 6, e 7)) [0, 1] (by kernel_rfl) (by kernel_rfl) h (fun K e' w' hk h' => ?_)
  have r0 : e' 0 = e 0 := hk 0 (by decide)
  have r1 : e' 1 = e 1 := hk 1 (by decide)
  have hX0 : ∀ e w, (m31_4 R (e 6) w) → (thenE (fun (e : Env) w => K ((e 6), (e 7)) w) (inBlockE 0 Q)) (.exit 0) e w := fun e w h => then_X (hX0 e w h)
  exact s31_7 (R := R) (Q := (thenE (fun (e : Env) w => K ((e 6), (e 7)) w) (inBlockE 0 Q))) (K1 := K) (fun _ _ h => then_N h) hX0 e' w' (by rw [r0, r1]; exact h')
theorem s31_3 {R : VP} {Q : EQ} (hR : ∀ e w, (R (Value.tuple #[(e 4), (e 5)]) w) → Q .ret e w) (e : Env) (w : World) (h : m31_3 R (e 0) (e 1) (e 6) w) : W31 k31_3 Q e w := by
  unfold m31_3 at h
  refine seA ?_
  have hN : ∀ e w, (m31_4 R (e 6) w) → (thenE (W31 k31_4 Q) Q) .normal e w := fun e w h => then_N (s31_4 (R := R) (Q := Q) hR e w h)
  refine seA ?_
  have hN : ∀ e w, (m31_6 R (e 0) (e 1) (e 6) (e 7) w) → (thenE (W31 k31_6 (thenE (W31 k31_4 Q) Q)) (thenE (W31 k31_4 Q) Q)) .normal e w := fun e w h => then_N (s31_6 (R := R) (Q := (thenE (W31 k31_4 Q) Q)) hN e w h)
  exact rgA 4 (fun e w => m31_6 R (e 0) (e 1) (e 6) (e 7) w) h hN
theorem s31_2 {R : VP} {Q : EQ} (hR : ∀ e w, (R (Value.tuple #[(e 4), (e 5)]) w) → Q .ret e w) (e : Env) (w : World) (h : m31_2 R (e 0) (e 1) w) : W31 k31_2 Q e w := by
  unfold m31_2 at h
  refine seA ?_
  have hN : ∀ e w, (m31_3 R (e 0) (e 1) (e 6) w) → (thenE (W31 k31_3 Q) Q) .normal e w := fun e w h => then_N (s31_3 (R := R) (Q := Q) hR e w h)
  exact rgA 3 (fun e w => m31_3 R (e 0) (e 1) (e 6) w) h hN
theorem s31_12 {R : VP} {Q : EQ} (hN : ∀ e w, (m31_2 R (e 0) (e 1) w) → Q .normal e w) (hR : ∀ e w, (R (Value.tuple #[(e 4), (e 5)]) w) → Q .ret e w) (e : Env) (w : World) (h : m31_12 R (e 0) (e 1) (e 11) w) : W31 k31_12 Q e w := by
  unfold m31_12 at h
  refine coA (Operand.tmp 11) h (fun h1 => ?_) (fun h1 => ?_)
  · refine seA ?_
    have hN : ∀ e w, (m31_13 R (e 4) (e 5) w) → (thenE (W31 k31_13 Q) Q) .normal e w := fun e w h => then_N (s31_13 (R := R) (Q := Q) hR e w h)
    exact rgA 2 (fun e w => m31_13 R (e 4) (e 5) w) h1 hN
  · exact skA (hN _ _ h1)
theorem s31_1 {R : VP} {Q : EQ} (hR : ∀ e w, (R (Value.tuple #[(e 4), (e 5)]) w) → Q .ret e w) (e : Env) (w : World) (h : m31_1 R (e 0) (e 1) w) : W31 k31_1 Q e w := by
  unfold m31_1 at h
  refine seA ?_
  have hN : ∀ e w, (m31_2 R (e 0) (e 1) w) → (thenE (W31 k31_2 Q) Q) .normal e w := fun e w h => then_N (s31_2 (R := R) (Q := Q) hR e w h)
  have hR : ∀ e w, (R (Value.tuple #[(e 4), (e 5)]) w) → (thenE (W31 k31_2 Q) Q) .ret e w := fun e w h => then_R (hR e w h)
  refine seA ?_
  have hN : ∀ e w, (m31_12 R (e 0) (e 1) (e 11) w) → (thenE (W31 k31_12 (thenE (W31 k31_2 Q) Q)) (thenE (W31 k31_2 Q) Q)) .normal e w := fun e w h => then_N (s31_12 (R := R) (Q := (thenE (W31 k31_2 Q) Q)) hN hR e w h)
  exact rgA 1 (fun e w => m31_12 R (e 0) (e 1) (e 11) w) h hN
theorem s31_0 {R : VP} {Q : EQ} (hR : ∀ e w, (R (Value.tuple #[(e 4), (e 5)]) w) → Q .ret e w) (e : Env) (w : World) (h : m31_0 R (e 0) (e 1) w) : W31 k31_0 Q e w := by
  unfold m31_0 at h
  refine seA ?_
  have hN : ∀ e w, (m31_1 R (e 0) (e 1) w) → (thenE (W31 k31_1 Q) Q) .normal e w := fun e w h => then_N (s31_1 (R := R) (Q := Q) hR e w h)
  exact rgA 0 (fun e w => m31_1 R (e 0) (e 1) w) h hN
abbrev m31 (R : VP) (c0 m1 : Value) (w : World) : Prop := m31_0 R c0 m1 w
theorem s31 (c0 m1 : Value) {R : VP} {w : World} (h : m31 R c0 m1 w) :
    Calls Try.prog 31 #[c0, m1] w fun e w' => ∃ v, e = .returned v ∧ R v w' :=
  calls_of_cwp (st := (fun i => 0)) (c := k31_0) (by kernel_rfl) Try.func31 (by kernel_rfl) (Nat.le_of_ble_eq_true (by kernel_rfl)) (by kernel_rfl)
    (s31_0 (R := R) (Q := endE Try.prog Try.f31 R) (fun e w h => kcast (by kernel_rfl) h) (argsE #[c0, m1]) w (kcast (by kernel_rfl) h))
/-! ### (*headgate/headgateref35.Coop).Done -/
def m34_13 (R : VP) (t6 : Value) (w : World) : Prop :=
  R t6 w
def m34_11 (R : VP) (t6 : Value) (w : World) : Prop :=
  R t6 w
def m34_9 (R : VP) (t6 : Value) (w : World) : Prop :=
  R t6 w
def m34_7 (R : VP) (t6 : Value) (w : World) : Prop :=
  R t6 w
def m34_6 (R : VP) (w : World) : Prop :=
  m34_7 R (Value.int IntKind.i64 0) w
def m34_5 (R : VP) (c0 : Value) (w : World) : Prop :=
  callP Try.prog (fnV 68) #[c0] w fun t49 w =>
  m34_6 R w
def m34_4 (R : VP) (c0 p2 : Value) (w : World) : Prop :=
  nilCheckP c0 fun t43 =>
  valP Try.prog (Instr.fieldAt 55 t43 2) w fun t44 w =>
  valP Try.prog (Instr.loadAt 28 t44) w fun t45 w =>
  valP Try.prog (Instr.indexAt 28 t45 p2) w fun t47 w =>
  unitP Try.prog (Instr.storeAt 3 t47 (Value.int IntKind.i64 0)) w fun _ w =>
  m34_5 R c0 w
def m34_8 (R : VP) (c0 p2 t41 : Value) (w : World) : Prop :=
  condP t41
  (m34_9 R (Value.int IntKind.i64 13) w)
  (m34_4 R c0 p2 w)
def m34_3 (R : VP) (c0 m1 p2 : Value) (w : World) : Prop :=
  nilCheckP c0 fun t23 =>
  valP Try.prog (Instr.fieldAt 55 t23 2) w fun t24 w =>
  valP Try.prog (Instr.loadAt 28 t24) w fun t25 w =>
  valP Try.prog (Instr.indexAt 28 t25 p2) w fun t27 w =>
  valP Try.prog (Instr.loadAt 3 t27) w fun t28 w =>
  valP Try.prog (binS BinOp.neq 3 (Operand.tmp 28) (Operand.tmp 29) t28 m1) w fun t30 w =>
  condP t30
  (pickP t30 (Value.bool true) undef fun t41 =>
  m34_8 R c0 p2 t41 w)
  (nilCheckP c0 fun t33 =>
  valP Try.prog (Instr.fieldAt 55 t33 3) w fun t34 w =>
  valP Try.prog (Instr.loadAt 28 t34) w fun t35 w =>
  valP Try.prog (Instr.indexAt 28 t35 p2) w fun t37 w =>
  valP Try.prog (Instr.loadAt 3 t37) w fun t38 w =>
  valP Try.prog (binS BinOp.eql 3 (Operand.tmp 38) (Operand.tmp 39) t38 m1) w fun t40 w =>
  pickP t30 (Value.bool true) t40 fun t41 =>
  m34_8 R c0 p2 t41 w)
def m34_10 (R : VP) (c0 m1 p2 t21 : Value) (w : World) : Prop :=
  condP t21
  (m34_11 R (Value.int IntKind.i64 6) w)
  (m34_3 R c0 m1 p2 w)
def m34_2 (R : VP) (c0 m1 p2 : Value) (w : World) : Prop :=
  valP Try.prog (binS BinOp.lss 3 (Operand.tmp 11) (Operand.const (Value.int IntKind.i64 0)) p2 (Value.int IntKind.i64 0)) w fun t12 w =>
  condP t12
  (pickP t12 (Value.bool true) undef fun t21 =>
  m34_10 R c0 m1 p2 t21 w)
  (nilCheckP c0 fun t16 =>
  valP Try.prog (Instr.fieldAt 55 t16 2) w fun t17 w =>
  valP Try.prog (Instr.loadAt 28 t17) w fun t18 w =>
  builtinP Try.prog Builtin.len #[28] 3 #[false] #[t18] w fun t19 w =>
  valP Try.prog (binS BinOp.geq 3 (Operand.tmp 14) (Operand.tmp 19) p2 t19) w fun t20 w =>
  pickP t12 (Value.bool true) t20 fun t21 =>
  m34_10 R c0 m1 p2 t21 w)
def m34_12 (R : VP) (c0 m1 p2 t10 : Value) (w : World) : Prop :=
  condP t10
  (m34_13 R (Value.int IntKind.i64 11) w)
  (m34_2 R c0 m1 p2 w)
def m34_1 (R : VP) (c0 m1 p2 : Value) (w : World) : Prop :=
  callP Try.prog (fnV 62) #[c0, m1] w fun t9 w =>
  valP Try.prog (Op.unary UnOp.not t9) w fun t10 w =>
  m34_12 R c0 m1 p2 t10 w
def m34_0 (R : VP) (c0 m1 p2 : Value) (w : World) : Prop :=
  m34_1 R c0 m1 p2 w
abbrev W34 := cwp Try.prog (fun i => 0)
noncomputable def k34_0 : Code := (bodyOf Try.f34)
noncomputable def k34_1 : Code := (c2 k34_0)
noncomputable def k34_2 : Code := (c2 k34_1)
noncomputable def k34_3 : Code := (c2 k34_2)
noncomputable def k34_4 : Code := (c2 k34_3)
noncomputable def k34_5 : Code := (c2 k34_4)
noncomputable def k34_6 : Code := (c2 k34_5)
noncomputable def k34_7 : Code := (c2 k34_6)
noncomputable def k34_8 : Code := (c2 (c1 k34_3))
noncomputable def k34_9 : Code := (c2 (c1 k34_8))
noncomputable def k34_10 : Code := (c2 (c1 k34_2))
noncomputable def k34_11 : Code := (c2 (c1 k34_10))
noncomputable def k34_12 : Code := (c2 (c1 k34_1))
noncomputable def k34_13 : Code := (c2 (c1 k34_12))
theorem s34_13 {R : VP} {Q : EQ} (hR : ∀ e w, (R (e 6) w) → Q .ret e w) (e : Env) (w : World) (h : m34_13 R (e 6) w) : W34 k34_13 Q e w := by
  unfold m34_13 at h
  exact reA (hR _ _ h)
theorem s34_11 {R : VP} {Q : EQ} (hR : ∀ e w, (R (e 6) w) → Q .ret e w) (e : Env) (w : World) (h : m34_11 R (e 6) w) : W34 k34_11 Q e w := by
  unfold m34_11 at h
  exact reA (hR _ _ h)
theorem s34_9 {R : VP} {Q : EQ} (hR : ∀ e w, (R (e 6) w) → Q .ret e w) (e : Env) (w : World) (h : m34_9 R (e 6) w) : W34 k34_9 Q e w := by
  unfold m34_9 at h
  exact reA (hR _ _ h)
theorem s34_7 {R : VP} {Q : EQ} (hR : ∀ e w, (R (e 6) w) → Q .ret e w) (e : Env) (w : World) (h : m34_7 R (e 6) w) : W34 k34_7 Q e w := by
  unfold m34_7 at h
  exact reA (hR _ _ h)
theorem s34_6 {R : VP} {Q : EQ} (hR : ∀ e w, (R (e 6) w) → Q .ret e w) (e : Env) (w : World) (h : m34_6 R w) : W34 k34_6 Q e w := by
  unfold m34_6 at h
  refine seA ?_
  have hN : ∀ e w, (m34_7 R (e 6) w) → (thenE (W34 k34_7 Q) Q) .normal e w := fun e w h => then_N (s34_7 (R := R) (Q := Q) hR e w h)
  exact rgA 9 (fun e w => m34_7 R (e 6) w) h hN
theorem s34_5 {R : VP} {Q : EQ} (hR : ∀ e w, (R (e 6) w) → Q .ret e w) (e : Env) (w : World) (h : m34_5 R (e 0) w) : W34 k34_5 Q e w := by
  unfold m34_5 at h
  refine seA ?_
  have hN : ∀ e w, (m34_6 R w) → (thenE (W34 k34_6 Q) Q) .normal e w := fun e w h => then_N (s34_6 (R := R) (Q := Q) hR e w h)
  exact rgA 8 (fun e w => m34_6 R w) h hN
theorem s34_4 {R : VP} {Q : EQ} (hR : ∀ e w, (R (e 6) w) → Q .ret e w) (e : Env) (w : World) (h : m34_4 R (e 0) (e 2) w) : W34 k34_4 Q e w := by
  unfold m34_4 at h
  refine seA ?_
  have hN : ∀ e w, (m34_5 R (e 0) w) → (thenE (W34 k34_5 Q) Q) .normal e w := fun e w h => then_N (s34_5 (R := R) (Q := Q) hR e w h)
  exact rgA 7 (fun e w => m34_5 R (e 0) w) h hN
theorem s34_8 {R : VP} {Q : EQ} (hN : ∀ e w, (m34_4 R (e 0) (e 2) w) → Q .normal e w) (hR : ∀ e w, (R (e 6) w) → Q .ret e w) (e : Env) (w : World) (h : m34_8 R (e 0) (e 2) (e 41) w) : W34 k34_8 Q e w := by
  unfold m34_8 at h
  refine coA (Operand.tmp 41) h (fun h1 => ?_) (fun h1 => ?_)
  · refine seA ?_
    have hN : ∀ e w, (m34_9 R (e 6) w) → (thenE (W34 k34_9 Q) Q) .normal e w := fun e w h => then_N (s34_9 (R := R) (Q := Q) hR e w h)
    exact rgA 6 (fun e w => m34_9 R (e 6) w) h1 hN
  · exact skA (hN _ _ h1)
theorem s34_3 {R : VP} {Q : EQ} (hR : ∀ e w, (R (e 6) w) → Q .ret e w) (e : Env) (w : World) (h : m34_3 R (e 0) (e 1) (e 2) w) : W34 k34_3 Q e w := by
  unfold m34_3 at h
  refine seA ?_
  have hN : ∀ e w, (m34_4 R (e 0) (e 2) w) → (thenE (W34 k34_4 Q) Q) .normal e w := fun e w h => then_N (s34_4 (R := R) (Q := Q) hR e w h)
  have hR : ∀ e w, (R (e 6) w) → (thenE (W34 k34_4 Q) Q) .ret e w := fun e w h => then_R (hR e w h)
  refine seA ?_
  have hN : ∀ e w, (m34_8 R (e 0) (e 2) (e 41) w) → (thenE (W34 k34_8 (thenE (W34 k34_4 Q) Q)) (thenE (W34 k34_4 Q) Q)) .normal e w := fun e w h => then_N (s34_8 (R := R) (Q := (thenE (W34 k34_4 Q) Q)) hN hR e w h)
  exact rgA 5 (fun e w => m34_8 R (e 0) (e 2) (e 41) w) h hN
theorem s34_10 {R : VP} {Q : EQ} (hN : ∀ e w, (m34_3 R (e 0) (e 1) (e 2) w) → Q .normal e w) (hR : ∀ e w, (R (e 6) w) → Q .ret e w) (e : Env) (w : World) (h : m34_10 R (e 0) (e 1) (e 2) (e 21) w) : W34 k34_10 Q e w := by
  unfold m34_10 at h
  refine coA (Operand.tmp 21) h (fun h1 => ?_) (fun h1 => ?_)
  · refine seA ?_
    have hN : ∀ e w, (m34_11 R (e 6) w) → (thenE (W34 k34_11 Q) Q) .normal e w := fun e w h => then_N (s34_11 (R := R) (Q := Q) hR e w h)
    exact rgA 4 (fun e w => m34_11 R (e 6) w) h1 hN
  · exact skA (hN _ _ h1)
theorem s34_2 {R : VP} {Q : EQ} (hR : ∀ e w, (R (e 6) w) → Q .ret e w) (e : Env) (w : World) (h : m34_2 R (e 0) (e 1) (e 2) w) : W34 k34_2 Q e w := by
  unfold m34_2 at h
  refine seA ?_
  have hN : ∀ e w, (m34_3 R (e 0) (e 1) (e 2) w) → (thenE (W34 k34_3 Q) Q) .normal e w := fun e w h => then_N (s34_3 (R := R) (Q := Q) hR e w h)
  have hR : ∀ e w, (R (e 6) w) → (thenE (W34 k34_3 Q) Q) .ret e w := fun e w h => then_R (hR e w h)
  refine seA ?_
  have hN : ∀ e w, (m34_10 R (e 0) (e 1) (e 2) (e 21) w) → (thenE (W34 k34_10 (thenE (W34 k34_3 Q) Q)) (thenE (W34 k34_3 Q) Q)) .normal e w := fun e w h => then_N (s34_10 (R := R) (Q := (thenE (W34 k34_3 Q) Q)) hN hR e w h)
  exact rgA 3 (fun e w => m34_10 R (e 0) (e 1) (e 2) (e 21) w) h hN
theorem s34_12 {R : VP} {Q : EQ} (hN : ∀ e w, (m34_2 R (e 0) (e 1) (e 2) w) → Q .normal e w) (hR : ∀ e w, (R (e 6) w) → Q .ret e w) (e : Env) (w : World) (h : m34_12 R (e 0) (e 1) (e 2) (e 10) w) : W34 k34_12 Q e w := by
  unfold m34_12 at h
  refine coA (Operand.tmp 10) h (fun h1 => ?_) (fun h1 => ?_)
  · refine seA ?_
    have hN : ∀ e w, (m34_13 R (e 6) w) → (thenE (W34 k34_13 Q) Q) .normal e w := fun e w h => then_N (s34_13 (R := R) (Q := Q) hR e w h)
    exact rgA 2 (fun e w => m34_13 R (e 6) w) h1 hN
  · exact skA (hN _ _ h1)
theorem s34_1 {R : VP} {Q : EQ} (hR : ∀ e w, (R (e 6) w) → Q .ret e w) (e : Env) (w : World) (h : m34_1 R (e 0) (e 1) (e 2) w) : W34 k34_1 Q e w := by
  unfold m34_1 at h
  refine seA ?_
  have hN : ∀ e w, (m34_2 R (e 0) (e 1) (e 2) w) → (thenE (W34 k34_2 Q) Q) .normal e w := fun e w h => then_N (s34_2 (R := R) (Q := Q) hR e w h)
  have hR : ∀ e w, (R (e 6) w) → (thenE (W34 k34_2 Q) Q) .ret e w := fun e w h => then_R (hR e w h)
  refine seA ?_
  have hN : ∀ e w, (m34_12 R (e 0) (e 1) (e 2) (e 10) w) → (thenE (W34 k34_12 (thenE (W34 k34_2 Q) Q)) (thenE (W34 k34_2 Q) Q)) .normal e w := fun e w h => then_N (s34_12 (R := R) (Q := (thenE (W34 k34_2 Q) Q)) hN hR e w h)
  exact rgA 1 (fun e w => m34_12 R (e 0) (e 1) (e 2) (e 10) w) h hN
theorem s34_0 {R : VP} {Q : EQ} (hR : ∀ e w, (R (e 6) w) → Q .ret e w) (e : Env) (w : World) (h : m34_0 R (e 0) (e 1) (e 2) w) : W34 k34_0 Q e w := by
  unfold m34_0 at h
  refine seA ?_
  have hN : ∀ e w, (m34_1 R (e 0) (e 1) (e 2) w) → (thenE (W34 k34_1 Q) Q) .normal e w := fun e w h => then_N (s34_1 (R := R) (Q := Q) hR e w h)
  exact rgA 0 (fun e w => m34_1 R (e 0) (e 1) (e 2) w) h hN
abbrev m34 (R : VP) (c0 m1 p2 : Value) (w : World) : Prop := m34_0 R c0 m1 p2 w
theorem s34 (c0 m1 p2 : Value) {R : VP} {w : World} (h : m34 R c0 m1 p2 w) :
    Calls Try.prog 34 #[c0, m1, p2] w fun e w' => ∃ v, e = .returned v ∧ R v w' :=
  calls_of_cwp (st := (fun i => 0)) (c := k34_0) (by kernel_rfl) Try.func34 (by kernel_rfl) (Nat.le_of_ble_eq_true (by kernel_rfl)) (by kernel_rfl)
    (s34_0 (R := R) (Q := endE Try.prog Try.f34 R) (fun e w h => kcast (by kernel_rfl) h) (argsE #[c0, m1, p2]) w (kcast (by kernel_rfl) h))
/-! ### (*headgate/coop.Coop).turn -/
def m60_17 (R : VP) (K1 : VP) (c0 t17 t18 t19 : Value) (w : World) : Prop :=
  valP Try.prog (binS BinOp.add 3 (Operand.tmp 19) (Operand.const (Value.int IntKind.i64 1)) t19 (Value.int IntKind.i64 1)) w fun t34 w =>
  K1 t34 w
def m60_19 (R : VP) (K1 : VP) (c0 p2 t17 t18 t19 t27 : Value) (w : World) : Prop :=
  condP t27
  (nilCheckP c0 fun t29 =>
  valP Try.prog (Instr.fieldAt 94 t29 2) w fun t30 w =>
  valP Try.prog (Instr.loadAt 28 t30) w fun t31 w =>
  valP Try.prog (Instr.indexAt 28 t31 p2) w fun t33 w =>
  unitP Try.prog (Instr.storeAt 3 t33 (Value.int IntKind.i64 0)) w fun _ w =>
  m60_17 R K1 c0 t17 t18 t19 w)
  (m60_17 R K1 c0 t17 t18 t19 w)
def m60_18 (R : VP) (K1 : VP) (c0 p2 m3 t17 t18 t19 : Value) (w : World) : Prop :=
  callP Try.prog (fnV 61) #[c0, m3] w fun t26 w =>
  valP Try.prog (Op.unary UnOp.not t26) w fun t27 w =>
  m60_19 R K1 c0 p2 t17 t18 t19 t27 w
def m60_16 (R : VP) (K1 : VP) (c0 t17 t18 t19 : Value) (w : World) : Prop :=
  valP Try.prog (Instr.indexAt 28 t17 t19) w fun t22 w =>
  valP Try.prog (Instr.loadAt 3 t22) w fun t23 w =>
  m60_18 R K1 c0 t19 t23 t17 t18 t19 w
def m60_10 (R : VP) (K1 : VP) (c0 old4 t43 t44 t45 : Value) (w : World) : Prop :=
  valP Try.prog (binS BinOp.add 3 (Operand.tmp 45) (Operand.const (Value.int IntKind.i64 1)) t45 (Value.int IntKind.i64 1)) w fun t56 w =>
  K1 t56 w
def m60_12 (R : VP) (K1 : VP) (c0 old4 p5 m6 t43 t44 t45 t51 : Value) (w : World) : Prop :=
  condP t51
  (valP Try.prog (Instr.indexAt 28 old4 p5) w fun t55 w =>
  unitP Try.prog (Instr.storeAt 3 t55 m6) w fun _ w =>
  m60_10 R K1 c0 old4 t43 t44 t45 w)
  (m60_10 R K1 c0 old4 t43 t44 t45 w)
def m60_11 (R : VP) (K1 : VP) (c0 old4 p5 m6 t43 t44 t45 : Value) (w : World) : Prop :=
  valP Try.prog (binS BinOp.neq 3 (Operand.tmp 50) (Operand.const (Value.int IntKind.i64 0)) m6 (Value.int IntKind.i64 0)) w fun t51 w =>
  m60_12 R K1 c0 old4 p5 m6 t43 t44 t45 t51 w
def m60_9 (R : VP) (K1 : VP) (c0 old4 t43 t44 t45 : Value) (w : World) : Prop :=
  valP Try.prog (Instr.indexAt 28 t43 t45) w fun t48 w =>
  valP Try.prog (Instr.loadAt 3 t48) w fun t49 w =>
  m60_11 R K1 c0 old4 t45 t49 t43 t44 t45 w
def m60_5 (R : VP) (c0 : Value) (w : World) : Prop :=
  callP Try.prog (fnV 67) #[c0] w fun t75 w =>
  R (Value.tuple #[]) w
def m60_4 (R : VP) (c0 old4 : Value) (w : World) : Prop :=
  anyDraw w fun w =>
  heldP w fun J =>
  nilCheckP c0 fun t60 =>
  valJ Try.prog J (Instr.fieldAt 94 t60 2) fun t61 =>
  valJ Try.prog J (Instr.loadAt 28 t61) fun t62 =>
  builtinJ Try.prog J Builtin.len #[28] 3 #[false] #[t62] fun t63 =>
  nilCheckP c0 fun t65 =>
  valJ Try.prog J (Instr.fieldAt 94 t65 1) fun t66 =>
  valJ Try.prog J (Instr.loadAt 28 t66) fun t67 =>
  callP Try.prog (fnV 88) #[t63, t67, old4] w fun t69 w =>
  stayP J w
  (valJ Try.prog J (Instr.extract t69 0) fun t70 =>
  valJ Try.prog J (Instr.extract t69 1) fun t71 =>
  nilCheckP c0 fun t72 =>
  valJ Try.prog J (Instr.fieldAt 94 t72 3) fun t73 =>
  unitP Try.prog (Instr.storeAt 28 t73 t70) w fun _ w =>
  stayP J w
  (m60_5 R c0 w))
def m60_8 (R : VP) (K1 : VP) (c0 old4 t43 t44 t45 t46 : Value) (w : World) : Prop :=
  condP t46
  (m60_9 R K1 c0 old4 t43 t44 t45 w)
  (m60_4 R c0 old4 w)
def m60_7 (R : VP) (K1 : VP) (c0 old4 t43 t44 t45 : Value) (w : World) : Prop :=
  valP Try.prog (binS BinOp.lss 3 (Operand.tmp 45) (Operand.tmp 44) t45 t44) w fun t46 w =>
  m60_8 R K1 c0 old4 t43 t44 t45 t46 w
def m60_6 (R : VP) (c0 old4 t43 t44 t45 : Value) (w : World) : Prop :=
  loopP (fun (K1 : VP) (s : Value) w => m60_7 R K1 c0 old4 t43 t44 s w) t45 w
def m60_3 (R : VP) (c0 old4 : Value) (w : World) : Prop :=
  nilCheckP c0 fun t41 =>
  valP Try.prog (Instr.fieldAt 94 t41 2) w fun t42 w =>
  valP Try.prog (Instr.loadAt 28 t42) w fun t43 w =>
  builtinP Try.prog Builtin.len #[28] 3 #[false] #[t43] w fun t44 w =>
  m60_6 R c0 old4 t43 t44 (Value.int IntKind.i64 0) w
def m60_2 (R : VP) (c0 : Value) (w : World) : Prop :=
  nilCheckP c0 fun t36 =>
  valP Try.prog (Instr.fieldAt 94 t36 3) w fun t37 w =>
  valP Try.prog (Instr.loadAt 28 t37) w fun t38 w =>
  callP Try.prog (fnV 55) #[t38] w fun t39 w =>
  m60_3 R c0 t39 w
def m60_15 (R : VP) (K1 : VP) (c0 t17 t18 t19 t20 : Value) (w : World) : Prop :=
  condP t20
  (m60_16 R K1 c0 t17 t18 t19 w)
  (m60_2 R c0 w)
def m60_14 (R : VP) (K1 : VP) (c0 t17 t18 t19 : Value) (w : World) : Prop :=
  valP Try.prog (binS BinOp.lss 3 (Operand.tmp 19) (Operand.tmp 18) t19 t18) w fun t20 w =>
  m60_15 R K1 c0 t17 t18 t19 t20 w
def m60_13 (R : VP) (c0 t17 t18 t19 : Value) (w : World) : Prop :=
  loopP (fun (K1 : VP) (s : Value) w => m60_14 R K1 c0 t17 t18 s w) t19 w
def m60_1 (R : VP) (c0 : Value) (w : World) : Prop :=
  nilCheckP c0 fun t15 =>
  valP Try.prog (Instr.fieldAt 94 t15 2) w fun t16 w =>
  valP Try.prog (Instr.loadAt 28 t16) w fun t17 w =>
  builtinP Try.prog Builtin.len #[28] 3 #[false] #[t17] w fun t18 w =>
  m60_13 R c0 t17 t18 (Value.int IntKind.i64 0) w
def m60_0 (R : VP) (c0 : Value) (w : World) : Prop :=
  nilCheckP c0 fun t8 =>
  valP Try.prog (Instr.fieldAt 94 t8 0) w fun t9 w =>
  valP Try.prog (Instr.loadAt 3 t9) w fun t10 w =>
  valP Try.prog (binS BinOp.add 3 (Operand.tmp 10) (Operand.const (Value.int IntKind.i64 1)) t10 (Value.int IntKind.i64 1)) w fun t11 w =>
  nilCheckP c0 fun t12 =>
  valP Try.prog (Instr.fieldAt 94 t12 0) w fun t13 w =>
  unitP Try.prog (Instr.storeAt 3 t13 t11) w fun _ w =>
  m60_1 R c0 w
abbrev W60 := cwp Try.prog (fun i => 0)
noncomputable def k60_0 : Code := (bodyOf Try.f60)
noncomputable def k60_1 : Code := (c2 k60_0)
noncomputable def k60_2 : Code := (c2 k60_1)
noncomputable def k60_3 : Code := (c2 k60_2)
noncomputable def k60_4 : Code := (c2 k60_3)
noncomputable def k60_5 : Code := (c2 k60_4)
noncomputable def k60_6 : Code := (c2 (c1 k60_3))
noncomputable def k60_7 : Code := (c1 (c1 k60_6))
noncomputable def k60_8 : Code := (c2 k60_7)
noncomputable def k60_9 : Code := (c2 k60_8)
noncomputable def k60_10 : Code := (c2 k60_9)
noncomputable def k60_11 : Code := (c2 (c1 (c1 k60_9)))
noncomputable def k60_12 : Code := (c2 k60_11)
noncomputable def k60_13 : Code := (c2 (c1 k60_1))
noncomputable def k60_14 : Code := (c1 (c1 k60_13))
noncomputable def k60_15 : Code := (c2 k60_14)
noncomputable def k60_16 : Code := (c2 k60_15)
noncomputable def k60_17 : Code := (c2 k60_16)
noncomputable def k60_18 : Code := (c2 (c1 (c1 k60_16)))
noncomputable def k60_19 : Code := (c2 k60_18)
theorem s60_17 {R : VP} {K1 : VP} {Q : EQ} (hN : ∀ e w, (K1 (e 19) w) → Q .normal e w) (e : Env) (w : World) (h : m60_17 R K1 (e 0) (e 17) (e 18) (e 19) w) : W60 k60_17 Q e w := by
  unfold m60_17 at h
  exact rgA 6 (fun e w => K1 (e 19) w) h hN
theorem s60_19 {R : VP} {K1 : VP} {Q : EQ} (hN : ∀ e w, (m60_17 R K1 (e 0) (e 17) (e 18) (e 19) w) → Q .normal e w) (e : Env) (w : World) (h : m60_19 R K1 (e 0) (e 2) (e 17) (e 18) (e 19) (e 27) w) : W60 k60_19 Q e w := by
  unfold m60_19 at h
  refine coA (Operand.tmp 27) h (fun h1 => ?_) (fun h1 => ?_)
  · exact rgA 5 (fun e w => m60_17 R K1 (e 0) (e 17) (e 18) (e 19) w) h1 hN
  · exact skA (hN _ _ h1)
theorem s60_18 {R : VP} {K1 : VP} {Q : EQ} (hN : ∀ e w, (m60_17 R K1 (e 0) (e 17) (e 18) (e 19) w) → Q .normal e w) (e : Env) (w : World) (h : m60_18 R K1 (e 0) (e 2) (e 3) (e 17) (e 18) (e 19) w) : W60 k60_18 Q e w := by
  unfold m60_18 at h
  refine seA ?_
  have hN : ∀ e w, (m60_19 R K1 (e 0) (e 2) (e 17) (e 18) (e 19) (e 27) w) → (thenE (W60 k60_19 Q) Q) .normal e w := fun e w h => then_N (s60_19 (R := R) (Q := Q) (K1 := K1) hN e w h)
  exact rgA 4 (fun e w => m60_19 R K1 (e 0) (e 2) (e 17) (e 18) (e 19) (e 27) w) h hN
theorem s60_16 {R : VP} {K1 : VP} {Q : EQ} (hN : ∀ e w, (K1 (e 19) w) → Q .normal e w) (e : Env) (w : World) (h : m60_16 R K1 (e 0) (e 17) (e 18) (e 19) w) : W60 k60_16 Q e w := by
  unfold m60_16 at h
  refine seA ?_
  have hN : ∀ e w, (m60_17 R K1 (e 0) (e 17) (e 18) (e 19) w) → (thenE (W60 k60_17 Q) Q) .normal e w := fun e w h => then_N (s60_17 (R := R) (Q := Q) (K1 := K1) hN e w h)
  refine block_ok 1 (by kernel_rfl) ?_
  have hN : ∀ e w, (m60_17 R K1 (e 0) (e 17) (e 18) (e 19) w) → (inBlockE 1 (thenE (W60 k60_17 Q) Q)) .normal e w := fun e w h => block_N (hN e w h)
  refine seA ?_
  have hN : ∀ e w, (m60_18 R K1 (e 0) (e 2) (e 3) (e 17) (e 18) (e 19) w) → (thenE (W60 k60_18 (inBlockE 1 (thenE (W60 k60_17 Q) Q))) (inBlockE 1 (thenE (W60 k60_17 Q) Q))) .normal e w := fun e w h => then_N (s60_18 (R := R) (Q := (inBlockE 1 (thenE (W60 k60_17 Q) Q))) (K1 := K1) hN e w h)
  exact rgA 3 (fun e w => m60_18 R K1 (e 0) (e 2) (e 3) (e 17) (e 18) (e 19) w) h hN
theorem s60_10 {R : VP} {K1 : VP} {Q : EQ} (hN : ∀ e w, (K1 (e 45) w) → Q .normal e w) (e : Env) (w : World) (h : m60_10 R K1 (e 0) (e 4) (e 43) (e 44) (e 45) w) : W60 k60_10 Q e w := by
  unfold m60_10 at h
  exact rgA 13 (fun e w => K1 (e 45) w) h hN
theorem s60_12 {R : VP} {K1 : VP} {Q : EQ} (hN : ∀ e w, (m60_10 R K1 (e 0) (e 4) (e 43) (e 44) (e 45) w) → Q .normal e w) (e : Env) (w : World) (h : m60_12 R K1 (e 0) (e 4) (e 5) (e 6) (e 43) (e 44) (e 45) (e 51) w) : W60 k60_12 Q e w := by
  unfold m60_12 at h
  refine coA (Operand.tmp 51) h (fun h1 => ?_) (fun h1 => ?_)
  · exact rgA 12 (fun e w => m60_10 R K1 (e 0) (e 4) (e 43) (e 44) (e 45) w) h1 hN
  · exact skA (hN _ _ h1)
theorem s60_11 {R : VP} {K1 : VP} {Q : EQ} (hN : ∀ e w, (m60_10 R K1 (e 0) (e 4) (e 43) (e 44) (e 45) w) → Q .normal e w) (e : Env) (w : World) (h : m60_11 R K1 (e 0) (e 4) (e 5) (e 6) (e 43) (e 44) (e 45) w) : W60 k60_11 Q e w := by
  unfold m60_11 at h
  refine seA ?_
  have hN : ∀ e w, (m60_12 R K1 (e 0) (e 4) (e 5) (e 6) (e 43) (e 44) (e 45) (e 51) w) → (thenE (W60 k60_12 Q) Q) .normal e w := fun e w h => then_N (s60_12 (R := R) (Q := Q) (K1 := K1) hN e w h)
  exact rgA 11 (fun e w => m60_12 R K1 (e 0) (e 4) (e 5) (e 6) (e 43) (e 44) (e 45) (e 51) w) h hN
theorem s60_9 {R : VP} {K1 : VP} {Q : EQ} (hN : ∀ e w, (K1 (e 45) w) → Q .normal e w) (e : Env) (w : World) (h : m60_9 R K1 (e 0) (e 4) (e 43) (e 44) (e 45) w) : W60 k60_9 Q e w := by
  unfold m60_9 at h
  refine seA ?_
  have hN : ∀ e w, (m60_10 R K1 (e 0) (e 4) (e 43) (e 44) (e 45) w) → (thenE (W60 k60_10 Q) Q) .normal e w := fun e w h => then_N (s60_10 (R := R) (Q := Q) (K1 := K1) hN e w h)
  refine block_ok 3 (by kernel_rfl) ?_
  have hN : ∀ e w, (m60_10 R K1 (e 0) (e 4) (e 43) (e 44) (e 45) w) → (inBlockE 3 (thenE (W60 k60_10 Q) Q)) .normal e w := fun e w h => block_N (hN e w h)
  refine seA ?_
  have hN : ∀ e w, (m60_11 R K1 (e 0) (e 4) (e 5) (e 6) (e 43) (e 44) (e 45) w) → (thenE (W60 k60_11 (inBlockE 3 (thenE (W60 k60_10 Q) Q))) (inBlockE 3 (thenE (W60 k60_10 Q) Q))) .normal e w := fun e w h => then_N (s60_11 (R := R) (Q := (inBlockE 3 (thenE (W60 k60_10 Q) Q))) (K1 := K1) hN e w h)
  exact rgA 10 (fun e w => m60_11 R K1 (e 0) (e 4) (e 5) (e 6) (e 43) (e 44) (e 45) w) h hN
theorem s60_5 {R : VP} {Q : EQ} (hN : ∀ e w, (R (Value.tuple #[]) w) → Q .normal e w) (e : Env) (w : World) (h : m60_5 R (e 0) w) : W60 k60_5 Q e w := by
  unfold m60_5 at h
  exact rgA 15 (fun e w => R (Value.tuple #[]) w) h hN
theorem s60_4 {R : VP} {Q : EQ} (hN : ∀ e w, (R (Value.tuple #[]) w) → Q .normal e w) (e : Env) (w : World) (h : m60_4 R (e 0) (e 4) w) : W60 k60_4 Q e w := by
  unfold m60_4 at h
  refine seA ?_
  have hN : ∀ e w, (m60_5 R (e 0) w) → (thenE (W60 k60_5 Q) Q) .normal e w := fun e w h => then_N (s60_5 (R := R) (Q := Q) hN e w h)
  exact treeJ_ok 14 18 [false, false, false, false, false, false, false, false, false, false, false, false, false, false, false, false, false, false] (.take 0 [true, false, false, false, false, false, false, false, false, false, false, false, false, false, false, false, false, false] (.take 1 [true, true, false, false, false, false, false, false, false, false, false, false, false, false, false, false, false, false] (.take 2 [true, true, true, false, false, false, false, false, false, false, false, false, false, false, false, false, false, false] (.take 3 [true, true, true, true, false, false, false, false, false, false, false, false, false, false, false, false, false, false] (.take 4 [true, true, true, true, true, false, false, false, false, false, false, false, false, false, false, false, false, false] (.take 5 [true, true, true, true, true, true, false, false, false, false, false, false, false, false, false, false, false, false] (.take 6 [true, true, true, true, true, true, true, false, false, false, false, false, false, false, false, false, false, false] (.take 7 [true, true, true, true, true, true, true, true, false, false, false, false, false, false, false, false, false, false] (.take 8 [true, true, true, true, true, true, true, true, true, false, false, false, false, false, false, false, false, false] (.take 9 [true, true, true, true, true, true, true, true, true, true, false, false, false, false, false, false, false, false] (.take 10 [true, true, true, true, true, true, true, true, true, true, true, false, false, false, false, false, false, false] (.alt 11 [true, true, true, true, true, true, true, true, true, true, true, true, false, false, false, false, false, false] (.take 12 [true, true, true, true, true, true, true, true, true, true, true, true, true, false, false, false, false, false] (.take 13 [true, true, true, true, true, true, true, true, true, true, true, true, true, true, false, false, false, false] (.take 14 [true, true, true, true, true, true, true, true, true, true, true, true, true, true, true, false, false, false] (.take 15 [true, true, true, true, true, true, true, true, true, true, true, true, true, true, true, true, false, false] (.take 16 [true, true, true, true, true, true, true, true, true, true, true, true, true, true, true, true, true, false] (.alt 17 [true, true, true, true, true, true, true, true, true, true, true, true, true, true, true, true, true, true] .done .stop)))))) .stop)))))))))))) (fun e w => m60_5 R (e 0) w) (by kernel_rfl) (by kernel_rfl) (by kernel_rfl) (by kernel_rfl) (by kernel_rfl) (by kernel_rfl) (kcast (by kernel_rfl) h) hN (by kernel_rfl)
theorem s60_8 {R : VP} {K1 : VP} {Q : EQ} (hN : ∀ e w, (K1 (e 45) w) → Q .normal e w) (hX2 : ∀ e w, (m60_4 R (e 0) (e 4) w) → Q (.exit 2) e w) (e : Env) (w : World) (h : m60_8 R K1 (e 0) (e 4) (e 43) (e 44) (e 45) (e 46) w) : W60 k60_8 Q e w := by
  unfold m60_8 at h
  refine seA ?_
  have hN : ∀ e w, (m60_9 R K1 (e 0) (e 4) (e 43) (e 44) (e 45) w) → (thenE (W60 k60_9 Q) Q) .normal e w := fun e w h => then_N (s60_9 (R := R) (Q := Q) (K1 := K1) hN e w h)
  have hX2 : ∀ e w, (m60_4 R (e 0) (e 4) w) → (thenE (W60 k60_9 Q) Q) (.exit 2) e w := fun e w h => then_X (hX2 e w h)
  refine coA (Operand.tmp 46) h (fun h1 => ?_) (fun h1 => ?_)
  · exact skA (hN _ _ h1)
  · exact exA 2 (hX2 _ _ h1)
theorem s60_7 {R : VP} {K1 : VP} {Q : EQ} (hN : ∀ e w, (K1 (e 45) w) → Q .normal e w) (hX2 : ∀ e w, (m60_4 R (e 0) (e 4) w) → Q (.exit 2) e w) (e : Env) (w : World) (h : m60_7 R K1 (e 0) (e 4) (e 43) (e 44) (e 45) w) : W60 k60_7 Q e w := by
  unfold m60_7 at h
  refine seA ?_
  have hN : ∀ e w, (m60_8 R K1 (e 0) (e 4) (e 43) (e 44) (e 45) (e 46) w) → (thenE (W60 k60_8 Q) Q) .normal e w := fun e w h => then_N (s60_8 (R := R) (Q := Q) (K1 := K1) hN hX2 e w h)
  exact rgA 9 (fun e w => m60_8 R K1 (e 0) (e 4) (e 43) (e 44) (e 45) (e 46) w) h hN
theorem s60_6 {R : VP} {Q : EQ} (hN : ∀ e w, (m60_4 R (e 0) (e 4) w) → Q .normal e w) (e : Env) (w : World) (h : m60_6 R (e 0) (e 4) (e 43) (e 44) (e 45) w) : W60 k60_6 Q e w := by
  unfold m60_6 at h
  refine block_ok 2 (by kernel_rfl) ?_
  have hX2 : ∀ e w, (m60_4 R (e 0) (e 4) w) → (inBlockE 2 Q) (.exit 2) e w := fun e w h => inBlock_same (Q := Q) 2 (hN e w h)
  refine loop_ok' (fun (e : Env) => e 45) [0, 4, 43, 44] (by kernel_rfl) (by kernel_rfl) h (fun K e' w' hk h' => ?_)
  have r0 : e' 0 = e 0 := hk 0 (by decide)
  have r4 : e' 4 = e 4 := hk 4 (by decide)
  have r43 : e' 43 = e 43 := hk 43 (by decide)
  have r44 : e' 44 = e 44 := hk 44 (by decide)
  have hX2 : ∀ e w, (m60_4 R (e 0) (e 4) w) → (thenE (fun (e : Env) w => K (e 45) w) (inBlockE 2 Q)) (.exit 2) e w := fun e w h => then_X (hX2 e w h)
  exact s60_7 (R := R) (Q := (thenE (fun (e : Env) w => K (e 45) w) (inBlockE 2 Q))) (K1 := K) (fun _ _ h => then_N h) hX2 e' w' (by rw [r0, r4, r43, r44]; exact h')
theorem s60_3 {R : VP} {Q : EQ} (hN : ∀ e w, (R (Value.tuple #[]) w) → Q .normal e w) (e : Env) (w : World) (h : m60_3 R (e 0) (e 4) w) : W60 k60_3 Q e w := by
  unfold m60_3 at h
  refine seA ?_
  have hN : ∀ e w, (m60_4 R (e 0) (e 4) w) → (thenE (W60 k60_4 Q) Q) .normal e w := fun e w h => then_N (s60_4 (R := R) (Q := Q) hN e w h)
  refine seA ?_
  have hN : ∀ e w, (m60_6 R (e 0) (e 4) (e 43) (e 44) (e 45) w) → (thenE (W60 k60_6 (thenE (W60 k60_4 Q) Q)) (thenE (W60 k60_4 Q) Q)) .normal e w := fun e w h => then_N (s60_6 (R := R) (Q := (thenE (W60 k60_4 Q) Q)) hN e w h)
  exact rgA 8 (fun e w => m60_6 R (e 0) (e 4) (e 43) (e 44) (e 45) w) h hN
theorem s60_2 {R : VP} {Q : EQ} (hN : ∀ e w, (R (Value.tuple #[]) w) → Q .normal e w) (e : Env) (w : World) (h : m60_2 R (e 0) w) : W60 k60_2 Q e w := by
  unfold m60_2 at h
  refine seA ?_
  have hN : ∀ e w, (m60_3 R (e 0) (e 4) w) → (thenE (W60 k60_3 Q) Q) .normal e w := fun e w h => then_N (s60_3 (R := R) (Q := Q) hN e w h)
  exact rgA 7 (fun e w => m60_3 R (e 0) (e 4) w) h hN
theorem s60_15 {R : VP} {K1 : VP} {Q : EQ} (hN : ∀ e w, (K1 (e 19) w) → Q .normal e w) (hX0 : ∀ e w, (m60_2 R (e 0) w) → Q (.exit 0) e w) (e : Env) (w : World) (h : m60_15 R K1 (e 0) (e 17) (e 18) (e 19) (e 20) w) : W60 k60_15 Q e w := by
  unfold m60_15 at h
  refine seA ?_
  have hN : ∀ e w, (m60_16 R K1 (e 0) (e 17) (e 18) (e 19) w) → (thenE (W60 k60_16 Q) Q) .normal e w := fun e w h => then_N (s60_16 (R := R) (Q := Q) (K1 := K1) hN e w h)
  have hX0 : ∀ e w, (m60_2 R (e 0) w) → (thenE (W60 k60_16 Q) Q) (.exit 0) e w := fun e w h => then_X (hX0 e w h)
  refine coA (Operand.tmp 20) h (fun h1 => ?_) (fun h1 => ?_)
  · exact skA (hN _ _ h1)
  · exact exA 0 (hX0 _ _ h1)
theorem s60_14 {R : VP} {K1 : VP} {Q : EQ} (hN : ∀ e w, (K1 (e 19) w) → Q .normal e w) (hX0 : ∀ e w, (m60_2 R (e 0) w) → Q (.exit 0) e w) (e : Env) (w : World) (h : m60_14 R K1 (e 0) (e 17) (e 18) (e 19) w) : W60 k60_14 Q e w := by
  unfold m60_14 at h
  refine seA ?_
  have hN : ∀ e w, (m60_15 R K1 (e 0) (e 17) (e 18) (e 19) (e 20) w) → (thenE (W60 k60_15 Q) Q) .normal e w := fun e w h => then_N (s60_15 (R := R) (Q := Q) (K1 := K1) hN hX0 e w h)
  exact rgA 2 (fun e w => m60_15 R K1 (e 0) (e 17) (e 18) (e 19) (e 20) w) h hN
theorem s60_13 {R : VP} {Q : EQ} (hN : ∀ e w, (m60_2 R (e 0) w) → Q .normal e w) (e : Env) (w : World) (h : m60_13 R (e 0) (e 17) (e 18) (e 19) w) : W60 k60_13 Q e w := by
  unfold m60_13 at h
  refine block_ok 0 (by kernel_rfl) ?_
  have hX0 : ∀ e w, (m60_2 R (e 0) w) → (inBlockE 0 Q) (.exit 0) e w := fun e w h => inBlock_same (Q := Q) 0 (hN e w h)
  refine loop_ok' (fun (e : Env) => e 19) [0, 17, 18] (by kernel_rfl) (by kernel_rfl) h (fun K e' w' hk h' => ?_)
  have r0 : e' 0 = e 0 := hk 0 (by decide)
  have r17 : e' 17 = e 17 := hk 17 (by decide)
  have r18 : e' 18 = e 18 := hk 18 (by decide)
  have hX0 : ∀ e w, (m60_2 R (e 0) w) → (thenE (fun (e : Env) w => K (e 19) w) (inBlockE 0 Q)) (.exit 0) e w := fun e w h => then_X (hX0 e w h)
  exact s60_14 (R := R) (Q := (thenE (fun (e : Env) w => K (e 19) w) (inBlockE 0 Q))) (K1 := K) (fun _ _ h => then_N h) hX0 e' w' (by rw [r0, r17, r18]; exact h')
theorem s60_1 {R : VP} {Q : EQ} (hN : ∀ e w, (R (Value.tuple #[]) w) → Q .normal e w) (e : Env) (w : World) (h : m60_1 R (e 0) w) : W60 k60_1 Q e w := by
  unfold m60_1 at h
  refine seA ?_
  have hN : ∀ e w, (m60_2 R (e 0) w) → (thenE (W60 k60_2 Q) Q) .normal e w := fun e w h => then_N (s60_2 (R := R) (Q := Q) hN e w h)
  refine seA ?_
  have hN : ∀ e w, (m60_13 R (e 0) (e 17) (e 18) (e 19) w) → (thenE (W60 k60_13 (thenE (W60 k60_2 Q) Q)) (thenE (W60 k60_2 Q) Q)) .normal e w := fun e w h => then_N (s60_13 (R := R) (Q := (thenE (W60 k60_2 Q) Q)) hN e w h)
  exact rgA 1 (fun e w => m60_13 R (e 0) (e 17) (e 18) (e 19) w) h hN
theorem s60_0 {R : VP} {Q : EQ} (hN : ∀ e w, (R (Value.tuple #[]) w) → Q .normal e w) (e : Env) (w : World) (h : m60_0 R (e 0) w) : W60 k60_0 Q e w := by
  unfold m60_0 at h
  refine seA ?_
  have hN : ∀ e w, (m60_1 R (e 0) w) → (thenE (W60 k60_1 Q) Q) .normal e w := fun e w h => then_N (s60_1 (R := R) (Q := Q) hN e w h)
  exact rgA 0 (fun e w => m60_1 R (e 0) w) h hN
abbrev m60 (R : VP) (c0 : Value) (w : World) : Prop := m60_0 R c0 w
theorem s60 (c0 : Value) {R : VP} {w : World} (h : m60 R c0 w) :
    Calls Try.prog 60 #[c0] w fun e w' => ∃ v, e = .returned v ∧ R v w' :=
  calls_of_cwp (st := (fun i => 0)) (c := k60_0) (by kernel_rfl) Try.func60 (by kernel_rfl) (Nat.le_of_ble_eq_true (by kernel_rfl)) (by kernel_rfl)
    (s60_0 (R := R) (Q := endE Try.prog Try.f60 R) (fun e w h => kcast (by kernel_rfl) h) (argsE #[c0]) w (kcast (by kernel_rfl) h))
/-! ### (*headgate/coop.Coop).is -/
def m61_2 (R : VP) (t4 : Value) (w : World) : Prop :=
  R t4 w
def m61_1 (R : VP) (c0 m1 : Value) (w : World) : Prop :=
  nilCheckP c0 fun t6 =>
  valP Try.prog (Instr.fieldAt 94 t6 1) w fun t7 w =>
  valP Try.prog (Instr.loadAt 28 t7) w fun t8 w =>
  callP Try.prog (fnV 57) #[t8, m1] w fun t10 w =>
  m61_2 R t10 w
def m61_0 (R : VP) (c0 m1 : Value) (w : World) : Prop :=
  m61_1 R c0 m1 w
abbrev W61 := cwp Try.prog (fun i => 0)
noncomputable def k61_0 : Code := (bodyOf Try.f61)
noncomputable def k61_1 : Code := (c2 k61_0)
noncomputable def k61_2 : Code := (c2 k61_1)
theorem s61_2 {R : VP} {Q : EQ} (hR : ∀ e w, (R (e 4) w) → Q .ret e w) (e : Env) (w : World) (h : m61_2 R (e 4) w) : W61 k61_2 Q e w := by
  unfold m61_2 at h
  exact reA (hR _ _ h)
theorem s61_1 {R : VP} {Q : EQ} (hR : ∀ e w, (R (e 4) w) → Q .ret e w) (e : Env) (w : World) (h : m61_1 R (e 0) (e 1) w) : W61 k61_1 Q e w := by
  unfold m61_1 at h
  refine seA ?_
  have hN : ∀ e w, (m61_2 R (e 4) w) → (thenE (W61 k61_2 Q) Q) .normal e w := fun e w h => then_N (s61_2 (R := R) (Q := Q) hR e w h)
  exact rgA 1 (fun e w => m61_2 R (e 4) w) h hN
theorem s61_0 {R : VP} {Q : EQ} (hR : ∀ e w, (R (e 4) w) → Q .ret e w) (e : Env) (w : World) (h : m61_0 R (e 0) (e 1) w) : W61 k61_0 Q e w := by
  unfold m61_0 at h
  refine seA ?_
  have hN : ∀ e w, (m61_1 R (e 0) (e 1) w) → (thenE (W61 k61_1 Q) Q) .normal e w := fun e w h => then_N (s61_1 (R := R) (Q := Q) hR e w h)
  exact rgA 0 (fun e w => m61_1 R (e 0) (e 1) w) h hN
abbrev m61 (R : VP) (c0 m1 : Value) (w : World) : Prop := m61_0 R c0 m1 w
theorem s61 (c0 m1 : Value) {R : VP} {w : World} (h : m61 R c0 m1 w) :
    Calls Try.prog 61 #[c0, m1] w fun e w' => ∃ v, e = .returned v ∧ R v w' :=
  calls_of_cwp (st := (fun i => 0)) (c := k61_0) (by kernel_rfl) Try.func61 (by kernel_rfl) (Nat.le_of_ble_eq_true (by kernel_rfl)) (by kernel_rfl)
    (s61_0 (R := R) (Q := endE Try.prog Try.f61 R) (fun e w h => kcast (by kernel_rfl) h) (argsE #[c0, m1]) w (kcast (by kernel_rfl) h))
/-! ### (*headgate/headgateref35.Coop).Is -/
def m62_2 (R : VP) (t4 : Value) (w : World) : Prop :=
  R t4 w
def m62_1 (R : VP) (c0 m1 : Value) (w : World) : Prop :=
  nilCheckP c0 fun t6 =>
  valP Try.prog (Instr.fieldAt 55 t6 1) w fun t7 w =>
  valP Try.prog (Instr.loadAt 28 t7) w fun t8 w =>
  callP Try.prog (fnV 21) #[t8, m1] w fun t10 w =>
  valP Try.prog (binS BinOp.gtr 3 (Operand.tmp 10) (Operand.const (Value.int IntKind.i64 0)) t10 (Value.int IntKind.i64 0)) w fun t11 w =>
  m62_2 R t11 w
def m62_0 (R : VP) (c0 m1 : Value) (w : World) : Prop :=
  m62_1 R c0 m1 w
abbrev W62 := cwp Try.prog (fun i => 0)
noncomputable def k62_0 : Code := (bodyOf Try.f62)
noncomputable def k62_1 : Code := (c2 k62_0)
noncomputable def k62_2 : Code := (c2 k62_1)
theorem s62_2 {R : VP} {Q : EQ} (hR : ∀ e w, (R (e 4) w) → Q .ret e w) (e : Env) (w : World) (h : m62_2 R (e 4) w) : W62 k62_2 Q e w := by
  unfold m62_2 at h
  exact reA (hR _ _ h)
theorem s62_1 {R : VP} {Q : EQ} (hR : ∀ e w, (R (e 4) w) → Q .ret e w) (e : Env) (w : World) (h : m62_1 R (e 0) (e 1) w) : W62 k62_1 Q e w := by
  unfold m62_1 at h
  refine seA ?_
  have hN : ∀ e w, (m62_2 R (e 4) w) → (thenE (W62 k62_2 Q) Q) .normal e w := fun e w h => then_N (s62_2 (R := R) (Q := Q) hR e w h)
  exact rgA 1 (fun e w => m62_2 R (e 4) w) h hN
theorem s62_0 {R : VP} {Q : EQ} (hR : ∀ e w, (R (e 4) w) → Q .ret e w) (e : Env) (w : World) (h : m62_0 R (e 0) (e 1) w) : W62 k62_0 Q e w := by
  unfold m62_0 at h
  refine seA ?_
  have hN : ∀ e w, (m62_1 R (e 0) (e 1) w) → (thenE (W62 k62_1 Q) Q) .normal e w := fun e w h => then_N (s62_1 (R := R) (Q := Q) hR e w h)
  exact rgA 0 (fun e w => m62_1 R (e 0) (e 1) w) h hN
abbrev m62 (R : VP) (c0 m1 : Value) (w : World) : Prop := m62_0 R c0 m1 w
theorem s62 (c0 m1 : Value) {R : VP} {w : World} (h : m62 R c0 m1 w) :
    Calls Try.prog 62 #[c0, m1] w fun e w' => ∃ v, e = .returned v ∧ R v w' :=
  calls_of_cwp (st := (fun i => 0)) (c := k62_0) (by kernel_rfl) Try.func62 (by kernel_rfl) (Nat.le_of_ble_eq_true (by kernel_rfl)) (by kernel_rfl)
    (s62_0 (R := R) (Q := endE Try.prog Try.f62 R) (fun e w h => kcast (by kernel_rfl) h) (argsE #[c0, m1]) w (kcast (by kernel_rfl) h))
/-! ### (*headgate/headgateref35.Coop).begin -/
def m64_9 (R : VP) (K1 : (Value × Value) → World → Prop) (c0 old2 p3 : Value) (w : World) : Prop :=
  valP Try.prog (binS BinOp.add 3 (Operand.tmp 21) (Operand.const (Value.int IntKind.i64 1)) p3 (Value.int IntKind.i64 1)) w fun t22 w =>
  K1 (old2, t22) w
def m64_11 (R : VP) (K1 : (Value × Value) → World → Prop) (c0 old2 p3 t46 : Value) (w : World) : Prop :=
  condP t46
  (nilCheckP c0 fun t49 =>
  valP Try.prog (Instr.fieldAt 55 t49 2) w fun t50 w =>
  valP Try.prog (Instr.loadAt 28 t50) w fun t51 w =>
  valP Try.prog (Instr.indexAt 28 t51 p3) w fun t53 w =>
  valP Try.prog (Instr.loadAt 3 t53) w fun t54 w =>
  valP Try.prog (Instr.buildSlice 28 1 #[(0, t54)]) w fun t55 w =>
  builtinP Try.prog Builtin.append #[28, 28] 28 #[false, false] #[old2, t55] w fun t56 w =>
  m64_9 R K1 c0 t56 p3 w)
  (nilCheckP c0 fun t59 =>
  valP Try.prog (Instr.fieldAt 55 t59 3) w fun t60 w =>
  valP Try.prog (Instr.loadAt 28 t60) w fun t61 w =>
  valP Try.prog (Instr.indexAt 28 t61 p3) w fun t63 w =>
  valP Try.prog (Instr.loadAt 3 t63) w fun t64 w =>
  valP Try.prog (Instr.buildSlice 28 1 #[(0, t64)]) w fun t65 w =>
  builtinP Try.prog Builtin.append #[28, 28] 28 #[false, false] #[old2, t65] w fun t66 w =>
  m64_9 R K1 c0 t66 p3 w)
def m64_10 (R : VP) (K1 : (Value × Value) → World → Prop) (c0 old2 p3 : Value) (w : World) : Prop :=
  nilCheckP c0 fun t40 =>
  valP Try.prog (Instr.fieldAt 55 t40 2) w fun t41 w =>
  valP Try.prog (Instr.loadAt 28 t41) w fun t42 w =>
  valP Try.prog (Instr.indexAt 28 t42 p3) w fun t44 w =>
  valP Try.prog (Instr.loadAt 3 t44) w fun t45 w =>
  valP Try.prog (binS BinOp.gtr 3 (Operand.tmp 45) (Operand.const (Value.int IntKind.i64 0)) t45 (Value.int IntKind.i64 0)) w fun t46 w =>
  m64_11 R K1 c0 old2 p3 t46 w
def m64_12 (R : VP) (K1 : (Value × Value) → World → Prop) (c0 old2 p3 t32 : Value) (w : World) : Prop :=
  condP t32
  (nilCheckP c0 fun t34 =>
  valP Try.prog (Instr.fieldAt 55 t34 2) w fun t35 w =>
  valP Try.prog (Instr.loadAt 28 t35) w fun t36 w =>
  valP Try.prog (Instr.indexAt 28 t36 p3) w fun t38 w =>
  unitP Try.prog (Instr.storeAt 3 t38 (Value.int IntKind.i64 0)) w fun _ w =>
  m64_10 R K1 c0 old2 p3 w)
  (m64_10 R K1 c0 old2 p3 w)
def m64_8 (R : VP) (K1 : (Value × Value) → World → Prop) (c0 old2 p3 : Value) (w : World) : Prop :=
  nilCheckP c0 fun t25 =>
  valP Try.prog (Instr.fieldAt 55 t25 2) w fun t26 w =>
  valP Try.prog (Instr.loadAt 28 t26) w fun t27 w =>
  valP Try.prog (Instr.indexAt 28 t27 p3) w fun t29 w =>
  valP Try.prog (Instr.loadAt 3 t29) w fun t30 w =>
  callP Try.prog (fnV 62) #[c0, t30] w fun t31 w =>
  valP Try.prog (Op.unary UnOp.not t31) w fun t32 w =>
  m64_12 R K1 c0 old2 p3 t32 w
def m64_5 (R : VP) (c0 : Value) (w : World) : Prop :=
  callP Try.prog (fnV 68) #[c0] w fun t86 w =>
  R (Value.tuple #[]) w
def m64_4 (R : VP) (c0 l4 : Value) (w : World) : Prop :=
  nilCheckP c0 fun t83 =>
  valP Try.prog (Instr.fieldAt 55 t83 3) w fun t84 w =>
  unitP Try.prog (Instr.storeAt 28 t84 l4) w fun _ w =>
  m64_5 R c0 w
def m64_3 (R : VP) (c0 old2 : Value) (w : World) : Prop :=
  anyDraw w fun w =>
  heldP w fun J =>
  nilCheckP c0 fun t69 =>
  valJ Try.prog J (Instr.fieldAt 55 t69 2) fun t70 =>
  valJ Try.prog J (Instr.loadAt 28 t70) fun t71 =>
  builtinJ Try.prog J Builtin.len #[28] 3 #[false] #[t71] fun t72 =>
  nilCheckP c0 fun t74 =>
  valJ Try.prog J (Instr.fieldAt 55 t74 1) fun t75 =>
  valJ Try.prog J (Instr.loadAt 28 t75) fun t76 =>
  callP Try.prog (fnV 89) #[t72, t76, old2] w fun t78 w =>
  stayP J w
  (valJ Try.prog J (Instr.extract t78 0) fun t79 =>
  valJ Try.prog J (Instr.extract t78 1) fun t80 =>
  m64_4 R c0 t79 w)
def m64_13 (R : VP) (K1 : (Value × Value) → World → Prop) (c0 old2 p3 t20 : Value) (w : World) : Prop :=
  condP t20
  (m64_8 R K1 c0 old2 p3 w)
  (m64_3 R c0 old2 w)
def m64_7 (R : VP) (K1 : (Value × Value) → World → Prop) (c0 old2 p3 : Value) (w : World) : Prop :=
  nilCheckP c0 fun t16 =>
  valP Try.prog (Instr.fieldAt 55 t16 2) w fun t17 w =>
  valP Try.prog (Instr.loadAt 28 t17) w fun t18 w =>
  builtinP Try.prog Builtin.len #[28] 3 #[false] #[t18] w fun t19 w =>
  valP Try.prog (binS BinOp.lss 3 (Operand.tmp 14) (Operand.tmp 19) p3 t19) w fun t20 w =>
  m64_13 R K1 c0 old2 p3 t20 w
def m64_6 (R : VP) (c0 old2 p3 : Value) (w : World) : Prop :=
  loopP (fun (K1 : (Value × Value) → World → Prop) (s : Value × Value) w => m64_7 R K1 c0 s.1 s.2 w) (old2, p3) w
def m64_2 (R : VP) (c0 old2 : Value) (w : World) : Prop :=
  m64_6 R c0 old2 (Value.int IntKind.i64 0) w
def m64_1 (R : VP) (c0 : Value) (w : World) : Prop :=
  m64_2 R c0 (Value.slice none 0 0) w
def m64_0 (R : VP) (c0 : Value) (w : World) : Prop :=
  nilCheckP c0 fun t8 =>
  valP Try.prog (Instr.fieldAt 55 t8 0) w fun t9 w =>
  valP Try.prog (Instr.loadAt 3 t9) w fun t10 w =>
  valP Try.prog (binS BinOp.add 3 (Operand.tmp 10) (Operand.const (Value.int IntKind.i64 1)) t10 (Value.int IntKind.i64 1)) w fun t11 w =>
  nilCheckP c0 fun t12 =>
  valP Try.prog (Instr.fieldAt 55 t12 0) w fun t13 w =>
  unitP Try.prog (Instr.storeAt 3 t13 t11) w fun _ w =>
  m64_1 R c0 w
abbrev W64 := cwp Try.prog (fun i => 0)
noncomputable def k64_0 : Code := (bodyOf Try.f64)
noncomputable def k64_1 : Code := (c2 k64_0)
noncomputable def k64_2 : Code := (c2 k64_1)
noncomputable def k64_3 : Code := (c2 k64_2)
noncomputable def k64_4 : Code := (c2 k64_3)
noncomputable def k64_5 : Code := (c2 k64_4)
noncomputable def k64_6 : Code := (c2 (c1 k64_2))
noncomputable def k64_7 : Code := (c1 (c1 k64_6))
noncomputable def k64_8 : Code := (c2 k64_7)
noncomputable def k64_9 : Code := (c2 k64_8)
noncomputable def k64_10 : Code := (c2 (c1 (c1 k64_8)))
noncomputable def k64_11 : Code := (c2 k64_10)
noncomputable def k64_12 : Code := (c2 (c1 (c1 (c1 k64_8))))
noncomputable def k64_13 : Code := (c2 (c1 k64_7))
theorem s64_9 {R : VP} {K1 : (Value × Value) → World → Prop} {Q : EQ} (hN : ∀ e w, (K1 ((e 2), (e 3)) w) → Q .normal e w) (e : Env) (w : World) (h : m64_9 R K1 (e 0) (e 2) (e 3) w) : W64 k64_9 Q e w := by
  unfold m64_9 at h
  exact rgA 4 (fun e w => K1 ((e 2), (e 3)) w) h hN
theorem s64_11 {R : VP} {K1 : (Value × Value) → World → Prop} {Q : EQ} (hN : ∀ e w, (m64_9 R K1 (e 0) (e 2) (e 3) w) → Q .normal e w) (e : Env) (w : World) (h : m64_11 R K1 (e 0) (e 2) (e 3) (e 46) w) : W64 k64_11 Q e w := by
  unfold m64_11 at h
  refine coA (Operand.tmp 46) h (fun h1 => ?_) (fun h1 => ?_)
  · exact rgA 8 (fun e w => m64_9 R K1 (e 0) (e 2) (e 3) w) h1 hN
  · exact rgA 9 (fun e w => m64_9 R K1 (e 0) (e 2) (e 3) w) h1 hN
theorem s64_10 {R : VP} {K1 : (Value × Value) → World → Prop} {Q : EQ} (hN : ∀ e w, (m64_9 R K1 (e 0) (e 2) (e 3) w) → Q .normal e w) (e : Env) (w : World) (h : m64_10 R K1 (e 0) (e 2) (e 3) w) : W64 k64_10 Q e w := by
  unfold m64_10 at h
  refine seA ?_
  have hN : ∀ e w, (m64_11 R K1 (e 0) (e 2) (e 3) (e 46) w) → (thenE (W64 k64_11 Q) Q) .normal e w := fun e w h => then_N (s64_11 (R := R) (Q := Q) (K1 := K1) hN e w h)
  exact rgA 7 (fun e w => m64_11 R K1 (e 0) (e 2) (e 3) (e 46) w) h hN
theorem s64_12 {R : VP} {K1 : (Value × Value) → World → Prop} {Q : EQ} (hN : ∀ e w, (m64_10 R K1 (e 0) (e 2) (e 3) w) → Q .normal e w) (e : Env) (w : World) (h : m64_12 R K1 (e 0) (e 2) (e 3) (e 32) w) : W64 k64_12 Q e w := by
  unfold m64_12 at h
  refine coA (Operand.tmp 32) h (fun h1 => ?_) (fun h1 => ?_)
  · exact rgA 6 (fun e w => m64_10 R K1 (e 0) (e 2) (e 3) w) h1 hN
  · exact skA (hN _ _ h1)
theorem s64_8 {R : VP} {K1 : (Value × Value) → World → Prop} {Q : EQ} (hN : ∀ e w, (K1 ((e 2), (e 3)) w) → Q .normal e w) (e : Env) (w : World) (h : m64_8 R K1 (e 0) (e 2) (e 3) w) : W64 k64_8 Q e w := by
  unfold m64_8 at h
  refine seA ?_
  have hN : ∀ e w, (m64_9 R K1 (e 0) (e 2) (e 3) w) → (thenE (W64 k64_9 Q) Q) .normal e w := fun e w h => then_N (s64_9 (R := R) (Q := Q) (K1 := K1) hN e w h)
  refine block_ok 1 (by kernel_rfl) ?_
  have hN : ∀ e w, (m64_9 R K1 (e 0) (e 2) (e 3) w) → (inBlockE 1 (thenE (W64 k64_9 Q) Q)) .normal e w := fun e w h => block_N (hN e w h)
  refine seA ?_
  have hN : ∀ e w, (m64_10 R K1 (e 0) (e 2) (e 3) w) → (thenE (W64 k64_10 (inBlockE 1 (thenE (W64 k64_9 Q) Q))) (inBlockE 1 (thenE (W64 k64_9 Q) Q))) .normal e w := fun e w h => then_N (s64_10 (R := R) (Q := (inBlockE 1 (thenE (W64 k64_9 Q) Q))) (K1 := K1) hN e w h)
  refine seA ?_
  have hN : ∀ e w, (m64_12 R K1 (e 0) (e 2) (e 3) (e 32) w) → (thenE (W64 k64_12 (thenE (W64 k64_10 (inBlockE 1 (thenE (W64 k64_9 Q) Q))) (inBlockE 1 (thenE (W64 k64_9 Q) Q)))) (thenE (W64 k64_10 (inBlockE 1 (thenE (W64 k64_9 Q) Q))) (inBlockE 1 (thenE (W64 k64_9 Q) Q)))) .normal e w := fun e w h => then_N (s64_12 (R := R) (Q := (thenE (W64 k64_10 (inBlockE 1 (thenE (W64 k64_9 Q) Q))) (inBlockE 1 (thenE (W64 k64_9 Q) Q)))) (K1 := K1) hN e w h)
  exact rgA 5 (fun e w => m64_12 R K1 (e 0) (e 2) (e 3) (e 32) w) h hN
theorem s64_5 {R : VP} {Q : EQ} (hN : ∀ e w, (R (Value.tuple #[]) w) → Q .normal e w) (e : Env) (w : World) (h : m64_5 R (e 0) w) : W64 k64_5 Q e w := by
  unfold m64_5 at h
  exact rgA 12 (fun e w => R (Value.tuple #[]) w) h hN
theorem s64_4 {R : VP} {Q : EQ} (hN : ∀ e w, (R (Value.tuple #[]) w) → Q .normal e w) (e : Env) (w : World) (h : m64_4 R (e 0) (e 4) w) : W64 k64_4 Q e w := by
  unfold m64_4 at h
  refine seA ?_
  have hN : ∀ e w, (m64_5 R (e 0) w) → (thenE (W64 k64_5 Q) Q) .normal e w := fun e w h => then_N (s64_5 (R := R) (Q := Q) hN e w h)
  exact rgA 11 (fun e w => m64_5 R (e 0) w) h hN
theorem s64_3 {R : VP} {Q : EQ} (hN : ∀ e w, (R (Value.tuple #[]) w) → Q .normal e w) (e : Env) (w : World) (h : m64_3 R (e 0) (e 2) w) : W64 k64_3 Q e w := by
  unfold m64_3 at h
  refine seA ?_
  have hN : ∀ e w, (m64_4 R (e 0) (e 4) w) → (thenE (W64 k64_4 Q) Q) .normal e w := fun e w h => then_N (s64_4 (R := R) (Q := Q) hN e w h)
  exact treeJ_ok 10 16 [false, false, false, false, false, false, false, false, false, false, false, false, false, false, false, false] (.take 0 [true, false, false, false, false, false, false, false, false, false, false, false, false, false, false, false] (.take 1 [true, true, false, false, false, false, false, false, false, false, false, false, false, false, false, false] (.take 2 [true, true, true, false, false, false, false, false, false, false, false, false, false, false, false, false] (.take 3 [true, true, true, true, false, false, false, false, false, false, false, false, false, false, false, false] (.take 4 [true, true, true, true, true, false, false, false, false, false, false, false, false, false, false, false] (.take 5 [true, true, true, true, true, true, false, false, false, false, false, false, false, false, false, false] (.take 6 [true, true, true, true, true, true, true, false, false, false, false, false, false, false, false, false] (.take 7 [true, true, true, true, true, true, true, true, false, false, false, false, false, false, false, false] (.take 8 [true, true, true, true, true, true, true, true, true, false, false, false, false, false, false, false] (.take 9 [true, true, true, true, true, true, true, true, true, true, false, false, false, false, false, false] (.alt 10 [true, true, true, true, true, true, true, true, true, true, true, false, false, false, false, false] (.take 11 [true, true, true, true, true, true, true, true, true, true, true, true, false, false, false, false] (.take 12 [true, true, true, true, true, true, true, true, true, true, true, true, true, false, false, false] (.take 13 [true, true, true, true, true, true, true, true, true, true, true, true, true, true, false, false] (.take 14 [true, true, true, true, true, true, true, true, true, true, true, true, true, true, true, false] (.take 15 [true, true, true, true, true, true, true, true, true, true, true, true, true, true, true, true] .done))))) .stop))))))))))) (fun e w => m64_4 R (e 0) (e 4) w) (by kernel_rfl) (by kernel_rfl) (by kernel_rfl) (by kernel_rfl) (by kernel_rfl) (by kernel_rfl) (kcast (by kernel_rfl) h) hN (by kernel_rfl)
theorem s64_13 {R : VP} {K1 : (Value × Value) → World → Prop} {Q : EQ} (hN : ∀ e w, (m64_8 R K1 (e 0) (e 2) (e 3) w) → Q .normal e w) (hX0 : ∀ e w, (m64_3 R (e 0) (e 2) w) → Q (.exit 0) e w) (e : Env) (w : World) (h : m64_13 R K1 (e 0) (e 2) (e 3) (e 20) w) : W64 k64_13 Q e w := by
  unfold m64_13 at h
  refine coA (Operand.tmp 20) h (fun h1 => ?_) (fun h1 => ?_)
  · exact skA (hN _ _ h1)
  · exact exA 0 (hX0 _ _ h1)
theorem s64_7 {R : VP} {K1 : (Value × Value) → World → Prop} {Q : EQ} (hN : ∀ e w, (K1 ((e 2), (e 3)) w) → Q .normal e w) (hX0 : ∀ e w, (m64_3 R (e 0) (e 2) w) → Q (.exit 0) e w) (e : Env) (w : World) (h : m64_7 R K1 (e 0) (e 2) (e 3) w) : W64 k64_7 Q e w := by
  unfold m64_7 at h
  refine seA ?_
  have hN : ∀ e w, (m64_8 R K1 (e 0) (e 2) (e 3) w) → (thenE (W64 k64_8 Q) Q) .normal e w := fun e w h => then_N (s64_8 (R := R) (Q := Q) (K1 := K1) hN e w h)
  have hX0 : ∀ e w, (m64_3 R (e 0) (e 2) w) → (thenE (W64 k64_8 Q) Q) (.exit 0) e w := fun e w h => then_X (hX0 e w h)
  refine seA ?_
  have hN : ∀ e w, (m64_13 R K1 (e 0) (e 2) (e 3) (e 20) w) → (thenE (W64 k64_13 (thenE (W64 k64_8 Q) Q)) (thenE (W64 k64_8 Q) Q)) .normal e w := fun e w h => then_N (s64_13 (R := R) (Q := (thenE (W64 k64_8 Q) Q)) (K1 := K1) hN hX0 e w h)
  exact rgA 3 (fun e w => m64_13 R K1 (e 0) (e 2) (e 3) (e 20) w) h hN
theorem s64_6 {R : VP} {Q : EQ} (hN : ∀ e w, (m64_3 R (e 0) (e 2) w) → Q .normal e w) (e : Env) (w : World) (h : m64_6 R (e 0) (e 2) (e 3) w) : W64 k64_6 Q e w := by
  unfold m64_6 at h
  refine block_ok 0 (by kernel_rfl) ?_
  have hX0 : ∀ e w, (m64_3 R (e 0) (e 2) w) → (inBlockE 0 Q) (.exit 0) e w := fun e w h => inBlock_same (Q := Q) 0 (hN e w h)
  refine loop_ok' (fun (e : Env) => (e 2, e 3)) [0] (by kernel_rfl) (by kernel_rfl) h (fun K e' w' hk h' => ?_)
  have r0 : e' 0 = e 0 := hk 0 (by decide)
  have hX0 : ∀ e w, (m64_3 R (e 0) (e 2) w) → (thenE (fun (e : Env) w => K ((e 2), (e 3)) w) (inBlockE 0 Q)) (.exit 0) e w := fun e w h => then_X (hX0 e w h)
  exact s64_7 (R := R) (Q := (thenE (fun (e : Env) w => K ((e 2), (e 3)) w) (inBlockE 0 Q))) (K1 := K) (fun _ _ h => then_N h) hX0 e' w' (by rw [r0]; exact h')
theorem s64_2 {R : VP} {Q : EQ} (hN : ∀ e w, (R (Value.tuple #[]) w) → Q .normal e w) (e : Env) (w : World) (h : m64_2 R (e 0) (e 2) w) : W64 k64_2 Q e w := by
  unfold m64_2 at h
  refine seA ?_
  have hN : ∀ e w, (m64_3 R (e 0) (e 2) w) → (thenE (W64 k64_3 Q) Q) .normal e w := fun e w h => then_N (s64_3 (R := R) (Q := Q) hN e w h)
  refine seA ?_
  have hN : ∀ e w, (m64_6 R (e 0) (e 2) (e 3) w) → (thenE (W64 k64_6 (thenE (W64 k64_3 Q) Q)) (thenE (W64 k64_3 Q) Q)) .normal e w := fun e w h => then_N (s64_6 (R := R) (Q := (thenE (W64 k64_3 Q) Q)) hN e w h)
  exact rgA 2 (fun e w => m64_6 R (e 0) (e 2) (e 3) w) h hN
theorem s64_1 {R : VP} {Q : EQ} (hN : ∀ e w, (R (Value.tuple #[]) w) → Q .normal e w) (e : Env) (w : World) (h : m64_1 R (e 0) w) : W64 k64_1 Q e w := by
  unfold m64_1 at h
  refine seA ?_
  have hN : ∀ e w, (m64_2 R (e 0) (e 2) w) → (thenE (W64 k64_2 Q) Q) .normal e w := fun e w h => then_N (s64_2 (R := R) (Q := Q) hN e w h)
  exact rgA 1 (fun e w => m64_2 R (e 0) (e 2) w) h hN
theorem s64_0 {R : VP} {Q : EQ} (hN : ∀ e w, (R (Value.tuple #[]) w) → Q .normal e w) (e : Env) (w : World) (h : m64_0 R (e 0) w) : W64 k64_0 Q e w := by
  unfold m64_0 at h
  refine seA ?_
  have hN : ∀ e w, (m64_1 R (e 0) w) → (thenE (W64 k64_1 Q) Q) .normal e w := fun e w h => then_N (s64_1 (R := R) (Q := Q) hN e w h)
  exact rgA 0 (fun e w => m64_1 R (e 0) w) h hN
abbrev m64 (R : VP) (c0 : Value) (w : World) : Prop := m64_0 R c0 w
theorem s64 (c0 : Value) {R : VP} {w : World} (h : m64 R c0 w) :
    Calls Try.prog 64 #[c0] w fun e w' => ∃ v, e = .returned v ∧ R v w' :=
  calls_of_cwp (st := (fun i => 0)) (c := k64_0) (by kernel_rfl) Try.func64 (by kernel_rfl) (Nat.le_of_ble_eq_true (by kernel_rfl)) (by kernel_rfl)
    (s64_0 (R := R) (Q := endE Try.prog Try.f64 R) (fun e w h => kcast (by kernel_rfl) h) (argsE #[c0]) w (kcast (by kernel_rfl) h))
/-! ### (*headgate/coop.Coop).Leave$1 -/
def m66_2 (R : VP) (t3 : Value) (w : World) : Prop :=
  R t3 w
def m66_1 (R : VP) (x0 t1 : Value) (w : World) : Prop :=
  valP Try.prog (Instr.loadAt 3 t1) w fun t5 w =>
  valP Try.prog (binS BinOp.eql 3 (Operand.tmp 4) (Operand.tmp 5) x0 t5) w fun t6 w =>
  m66_2 R t6 w
def m66_0 (R : VP) (x0 t1 : Value) (w : World) : Prop :=
  m66_1 R x0 t1 w
abbrev W66 := cwp Try.prog (fun i => 0)
noncomputable def k66_0 : Code := (bodyOf Try.f66)
noncomputable def k66_1 : Code := (c2 k66_0)
noncomputable def k66_2 : Code := (c2 k66_1)
theorem s66_2 {R : VP} {Q : EQ} (hR : ∀ e w, (R (e 3) w) → Q .ret e w) (e : Env) (w : World) (h : m66_2 R (e 3) w) : W66 k66_2 Q e w := by
  unfold m66_2 at h
  exact reA (hR _ _ h)
theorem s66_1 {R : VP} {Q : EQ} (hR : ∀ e w, (R (e 3) w) → Q .ret e w) (e : Env) (w : World) (h : m66_1 R (e 0) (e 1) w) : W66 k66_1 Q e w := by
  unfold m66_1 at h
  refine seA ?_
  have hN : ∀ e w, (m66_2 R (e 3) w) → (thenE (W66 k66_2 Q) Q) .normal e w := fun e w h => then_N (s66_2 (R := R) (Q := Q) hR e w h)
  exact rgA 1 (fun e w => m66_2 R (e 3) w) h hN
theorem s66_0 {R : VP} {Q : EQ} (hR : ∀ e w, (R (e 3) w) → Q .ret e w) (e : Env) (w : World) (h : m66_0 R (e 0) (e 1) w) : W66 k66_0 Q e w := by
  unfold m66_0 at h
  refine seA ?_
  have hN : ∀ e w, (m66_1 R (e 0) (e 1) w) → (thenE (W66 k66_1 Q) Q) .normal e w := fun e w h => then_N (s66_1 (R := R) (Q := Q) hR e w h)
  exact rgA 0 (fun e w => m66_1 R (e 0) (e 1) w) h hN
abbrev m66 (R : VP) (x0 t1 : Value) (w : World) : Prop := m66_0 R x0 t1 w
theorem s66 (x0 t1 : Value) {R : VP} {w : World} (h : m66 R x0 t1 w) :
    Calls Try.prog 66 #[x0, t1] w fun e w' => ∃ v, e = .returned v ∧ R v w' :=
  calls_of_cwp (st := (fun i => 0)) (c := k66_0) (by kernel_rfl) Try.func66 (by kernel_rfl) (Nat.le_of_ble_eq_true (by kernel_rfl)) (by kernel_rfl)
    (s66_0 (R := R) (Q := endE Try.prog Try.f66 R) (fun e w h => kcast (by kernel_rfl) h) (argsE #[x0, t1]) w (kcast (by kernel_rfl) h))
/-! ### (*headgate/coop.Coop).give -/
def m67_5 (R : VP) (K1 : VP) (c0 t7 t8 t9 : Value) (w : World) : Prop :=
  valP Try.prog (binS BinOp.add 3 (Operand.tmp 9) (Operand.const (Value.int IntKind.i64 1)) t9 (Value.int IntKind.i64 1)) w fun t29 w =>
  K1 t29 w
def m67_7 (R : VP) (K1 : VP) (c0 p2 t7 t8 t9 t15 : Value) (w : World) : Prop :=
  condP t15
  (anyDraw w fun w =>
  nilCheckP c0 fun t17 =>
  valS Try.prog (Instr.fieldAt 94 t17 2) w fun t18 =>
  valS Try.prog (Instr.loadAt 28 t18) w fun t19 =>
  nilCheckP c0 fun t22 =>
  valS Try.prog (Instr.fieldAt 94 t22 3) w fun t23 =>
  valS Try.prog (Instr.loadAt 28 t23) w fun t24 =>
  valS Try.prog (Instr.indexAt 28 t24 p2) w fun t26 =>
  valS Try.prog (Instr.loadAt 3 t26) w fun t27 =>
  valS Try.prog (Instr.indexAt 28 t19 p2) w fun t28 =>
  unitP Try.prog (Instr.storeAt 3 t28 t27) w fun _ w =>
  m67_5 R K1 c0 t7 t8 t9 w)
  (m67_5 R K1 c0 t7 t8 t9 w)
def m67_6 (R : VP) (K1 : VP) (c0 p2 m3 t7 t8 t9 : Value) (w : World) : Prop :=
  valP Try.prog (binS BinOp.eql 3 (Operand.tmp 14) (Operand.const (Value.int IntKind.i64 0)) m3 (Value.int IntKind.i64 0)) w fun t15 w =>
  m67_7 R K1 c0 p2 t7 t8 t9 t15 w
def m67_4 (R : VP) (K1 : VP) (c0 t7 t8 t9 : Value) (w : World) : Prop :=
  valP Try.prog (Instr.indexAt 28 t7 t9) w fun t12 w =>
  valP Try.prog (Instr.loadAt 3 t12) w fun t13 w =>
  m67_6 R K1 c0 t9 t13 t7 t8 t9 w
def m67_3 (R : VP) (K1 : VP) (c0 t7 t8 t9 t10 : Value) (w : World) : Prop :=
  condP t10
  (m67_4 R K1 c0 t7 t8 t9 w)
  (R (Value.tuple #[]) w)
def m67_2 (R : VP) (K1 : VP) (c0 t7 t8 t9 : Value) (w : World) : Prop :=
  valP Try.prog (binS BinOp.lss 3 (Operand.tmp 9) (Operand.tmp 8) t9 t8) w fun t10 w =>
  m67_3 R K1 c0 t7 t8 t9 t10 w
def m67_1 (R : VP) (c0 t7 t8 t9 : Value) (w : World) : Prop :=
  loopP (fun (K1 : VP) (s : Value) w => m67_2 R K1 c0 t7 t8 s w) t9 w
def m67_0 (R : VP) (c0 : Value) (w : World) : Prop :=
  nilCheckP c0 fun t5 =>
  valP Try.prog (Instr.fieldAt 94 t5 2) w fun t6 w =>
  valP Try.prog (Instr.loadAt 28 t6) w fun t7 w =>
  builtinP Try.prog Builtin.len #[28] 3 #[false] #[t7] w fun t8 w =>
  m67_1 R c0 t7 t8 (Value.int IntKind.i64 0) w
abbrev W67 := cwp Try.prog (fun i => cond (Nat.beq i 4) 15 (0))
noncomputable def k67_0 : Code := (bodyOf Try.f67)
noncomputable def k67_1 : Code := (c2 k67_0)
noncomputable def k67_2 : Code := (c1 (c1 k67_1))
noncomputable def k67_3 : Code := (c2 k67_2)
noncomputable def k67_4 : Code := (c2 k67_3)
noncomputable def k67_5 : Code := (c2 k67_4)
noncomputable def k67_6 : Code := (c2 (c1 (c1 k67_4)))
noncomputable def k67_7 : Code := (c2 k67_6)
theorem s67_5 {R : VP} {K1 : VP} {Q : EQ} (hN : ∀ e w, (K1 (e 9) w) → Q .normal e w) (e : Env) (w : World) (h : m67_5 R K1 (e 0) (e 7) (e 8) (e 9) w) : W67 k67_5 Q e w := by
  unfold m67_5 at h
  exact rgA 5 (fun e w => K1 (e 9) w) h hN
theorem s67_7 {R : VP} {K1 : VP} {Q : EQ} (hN : ∀ e w, (m67_5 R K1 (e 0) (e 7) (e 8) (e 9) w) → Q .normal e w) (e : Env) (w : World) (h : m67_7 R K1 (e 0) (e 2) (e 7) (e 8) (e 9) (e 15) w) : W67 k67_7 Q e w := by
  unfold m67_7 at h
  refine coA (Operand.tmp 15) h (fun h1 => ?_) (fun h1 => ?_)
  · exact taA 4 13 (fun e w => m67_5 R K1 (e 0) (e 7) (e 8) (e 9) w) h1 hN
  · exact skA (hN _ _ h1)
theorem s67_6 {R : VP} {K1 : VP} {Q : EQ} (hN : ∀ e w, (m67_5 R K1 (e 0) (e 7) (e 8) (e 9) w) → Q .normal e w) (e : Env) (w : World) (h : m67_6 R K1 (e 0) (e 2) (e 3) (e 7) (e 8) (e 9) w) : W67 k67_6 Q e w := by
  unfold m67_6 at h
  refine seA ?_
  have hN : ∀ e w, (m67_7 R K1 (e 0) (e 2) (e 7) (e 8) (e 9) (e 15) w) → (thenE (W67 k67_7 Q) Q) .normal e w := fun e w h => then_N (s67_7 (R := R) (Q := Q) (K1 := K1) hN e w h)
  exact rgA 3 (fun e w => m67_7 R K1 (e 0) (e 2) (e 7) (e 8) (e 9) (e 15) w) h hN
theorem s67_4 {R : VP} {K1 : VP} {Q : EQ} (hN : ∀ e w, (K1 (e 9) w) → Q .normal e w) (e : Env) (w : World) (h : m67_4 R K1 (e 0) (e 7) (e 8) (e 9) w) : W67 k67_4 Q e w := by
  unfold m67_4 at h
  refine seA ?_
  have hN : ∀ e w, (m67_5 R K1 (e 0) (e 7) (e 8) (e 9) w) → (thenE (W67 k67_5 Q) Q) .normal e w := fun e w h => then_N (s67_5 (R := R) (Q := Q) (K1 := K1) hN e w h)
  refine block_ok 1 (by kernel_rfl) ?_
  have hN : ∀ e w, (m67_5 R K1 (e 0) (e 7) (e 8) (e 9) w) → (inBlockE 1 (thenE (W67 k67_5 Q) Q)) .normal e w := fun e w h => block_N (hN e w h)
  refine seA ?_
  have hN : ∀ e w, (m67_6 R K1 (e 0) (e 2) (e 3) (e 7) (e 8) (e 9) w) → (thenE (W67 k67_6 (inBlockE 1 (thenE (W67 k67_5 Q) Q))) (inBlockE 1 (thenE (W67 k67_5 Q) Q))) .normal e w := fun e w h => then_N (s67_6 (R := R) (Q := (inBlockE 1 (thenE (W67 k67_5 Q) Q))) (K1 := K1) hN e w h)
  exact rgA 2 (fun e w => m67_6 R K1 (e 0) (e 2) (e 3) (e 7) (e 8) (e 9) w) h hN
theorem s67_3 {R : VP} {K1 : VP} {Q : EQ} (hN : ∀ e w, (K1 (e 9) w) → Q .normal e w) (hX0 : ∀ e w, (R (Value.tuple #[]) w) → Q (.exit 0) e w) (e : Env) (w : World) (h : m67_3 R K1 (e 0) (e 7) (e 8) (e 9) (e 10) w) : W67 k67_3 Q e w := by
  unfold m67_3 at h
  refine seA ?_
  have hN : ∀ e w, (m67_4 R K1 (e 0) (e 7) (e 8) (e 9) w) → (thenE (W67 k67_4 Q) Q) .normal e w := fun e w h => then_N (s67_4 (R := R) (Q := Q) (K1 := K1) hN e w h)
  have hX0 : ∀ e w, (R (Value.tuple #[]) w) → (thenE (W67 k67_4 Q) Q) (.exit 0) e w := fun e w h => then_X (hX0 e w h)
  refine coA (Operand.tmp 10) h (fun h1 => ?_) (fun h1 => ?_)
  · exact skA (hN _ _ h1)
  · exact exA 0 (hX0 _ _ h1)
theorem s67_2 {R : VP} {K1 : VP} {Q : EQ} (hN : ∀ e w, (K1 (e 9) w) → Q .normal e w) (hX0 : ∀ e w, (R (Value.tuple #[]) w) → Q (.exit 0) e w) (e : Env) (w : World) (h : m67_2 R K1 (e 0) (e 7) (e 8) (e 9) w) : W67 k67_2 Q e w := by
  unfold m67_2 at h
  refine seA ?_
  have hN : ∀ e w, (m67_3 R K1 (e 0) (e 7) (e 8) (e 9) (e 10) w) → (thenE (W67 k67_3 Q) Q) .normal e w := fun e w h => then_N (s67_3 (R := R) (Q := Q) (K1 := K1) hN hX0 e w h)
  exact rgA 1 (fun e w => m67_3 R K1 (e 0) (e 7) (e 8) (e 9) (e 10) w) h hN
theorem s67_1 {R : VP} {Q : EQ} (hN : ∀ e w, (R (Value.tuple #[]) w) → Q .normal e w) (e : Env) (w : World) (h : m67_1 R (e 0) (e 7) (e 8) (e 9) w) : W67 k67_1 Q e w := by
  unfold m67_1 at h
  refine block_ok 0 (by kernel_rfl) ?_
  have hX0 : ∀ e w, (R (Value.tuple #[]) w) → (inBlockE 0 Q) (.exit 0) e w := fun e w h => inBlock_same (Q := Q) 0 (hN e w h)
  refine loop_ok' (fun (e : Env) => e 9) [0, 7, 8] (by kernel_rfl) (by kernel_rfl) h (fun K e' w' hk h' => ?_)
  have r0 : e' 0 = e 0 := hk 0 (by decide)
  have r7 : e' 7 = e 7 := hk 7 (by decide)
  have r8 : e' 8 = e 8 := hk 8 (by decide)
  have hX0 : ∀ e w, (R (Value.tuple #[]) w) → (thenE (fun (e : Env) w => K (e 9) w) (inBlockE 0 Q)) (.exit 0) e w := fun e w h => then_X (hX0 e w h)
  exact s67_2 (R := R) (Q := (thenE (fun (e : Env) w => K (e 9) w) (inBlockE 0 Q))) (K1 := K) (fun _ _ h => then_N h) hX0 e' w' (by rw [r0, r7, r8]; exact h')
theorem s67_0 {R : VP} {Q : EQ} (hN : ∀ e w, (R (Value.tuple #[]) w) → Q .normal e w) (e : Env) (w : World) (h : m67_0 R (e 0) w) : W67 k67_0 Q e w := by
  unfold m67_0 at h
  refine seA ?_
  have hN : ∀ e w, (m67_1 R (e 0) (e 7) (e 8) (e 9) w) → (thenE (W67 k67_1 Q) Q) .normal e w := fun e w h => then_N (s67_1 (R := R) (Q := Q) hN e w h)
  exact rgA 0 (fun e w => m67_1 R (e 0) (e 7) (e 8) (e 9) w) h hN
abbrev m67 (R : VP) (c0 : Value) (w : World) : Prop := m67_0 R c0 w
theorem s67 (c0 : Value) {R : VP} {w : World} (h : m67 R c0 w) :
    Calls Try.prog 67 #[c0] w fun e w' => ∃ v, e = .returned v ∧ R v w' :=
  calls_of_cwp (st := (fun i => cond (Nat.beq i 4) 15 (0))) (c := k67_0) (by kernel_rfl) Try.func67 (by kernel_rfl) (Nat.le_of_ble_eq_true (by kernel_rfl)) (by kernel_rfl)
    (s67_0 (R := R) (Q := endE Try.prog Try.f67 R) (fun e w h => kcast (by kernel_rfl) h) (argsE #[c0]) w (kcast (by kernel_rfl) h))
/-! ### (*headgate/headgateref35.Coop).given -/
def m68_4 (R : VP) (K1 : VP) (c0 p2 : Value) (w : World) : Prop :=
  valP Try.prog (binS BinOp.add 3 (Operand.tmp 10) (Operand.const (Value.int IntKind.i64 1)) p2 (Value.int IntKind.i64 1)) w fun t11 w =>
  K1 t11 w
def m68_5 (R : VP) (K1 : VP) (c0 p2 t19 : Value) (w : World) : Prop :=
  condP t19
  (anyDraw w fun w =>
  nilCheckP c0 fun t21 =>
  valS Try.prog (Instr.fieldAt 55 t21 2) w fun t22 =>
  valS Try.prog (Instr.loadAt 28 t22) w fun t23 =>
  nilCheckP c0 fun t26 =>
  valS Try.prog (Instr.fieldAt 55 t26 3) w fun t27 =>
  valS Try.prog (Instr.loadAt 28 t27) w fun t28 =>
  valS Try.prog (Instr.indexAt 28 t28 p2) w fun t30 =>
  valS Try.prog (Instr.loadAt 3 t30) w fun t31 =>
  valS Try.prog (Instr.indexAt 28 t23 p2) w fun t32 =>
  unitP Try.prog (Instr.storeAt 3 t32 t31) w fun _ w =>
  m68_4 R K1 c0 p2 w)
  (m68_4 R K1 c0 p2 w)
def m68_3 (R : VP) (K1 : VP) (c0 p2 : Value) (w : World) : Prop :=
  nilCheckP c0 fun t13 =>
  valP Try.prog (Instr.fieldAt 55 t13 2) w fun t14 w =>
  valP Try.prog (Instr.loadAt 28 t14) w fun t15 w =>
  valP Try.prog (Instr.indexAt 28 t15 p2) w fun t17 w =>
  valP Try.prog (Instr.loadAt 3 t17) w fun t18 w =>
  valP Try.prog (binS BinOp.eql 3 (Operand.tmp 18) (Operand.const (Value.int IntKind.i64 0)) t18 (Value.int IntKind.i64 0)) w fun t19 w =>
  m68_5 R K1 c0 p2 t19 w
def m68_6 (R : VP) (K1 : VP) (c0 p2 t9 : Value) (w : World) : Prop :=
  condP t9
  (m68_3 R K1 c0 p2 w)
  (R (Value.tuple #[]) w)
def m68_2 (R : VP) (K1 : VP) (c0 p2 : Value) (w : World) : Prop :=
  nilCheckP c0 fun t5 =>
  valP Try.prog (Instr.fieldAt 55 t5 2) w fun t6 w =>
  valP Try.prog (Instr.loadAt 28 t6) w fun t7 w =>
  builtinP Try.prog Builtin.len #[28] 3 #[false] #[t7] w fun t8 w =>
  valP Try.prog (binS BinOp.lss 3 (Operand.tmp 3) (Operand.tmp 8) p2 t8) w fun t9 w =>
  m68_6 R K1 c0 p2 t9 w
def m68_1 (R : VP) (c0 p2 : Value) (w : World) : Prop :=
  loopP (fun (K1 : VP) (s : Value) w => m68_2 R K1 c0 s w) p2 w
def m68_0 (R : VP) (c0 : Value) (w : World) : Prop :=
  m68_1 R c0 (Value.int IntKind.i64 0) w
abbrev W68 := cwp Try.prog (fun i => cond (Nat.beq i 4) 15 (0))
noncomputable def k68_0 : Code := (bodyOf Try.f68)
noncomputable def k68_1 : Code := (c2 k68_0)
noncomputable def k68_2 : Code := (c1 (c1 k68_1))
noncomputable def k68_3 : Code := (c2 k68_2)
noncomputable def k68_4 : Code := (c2 k68_3)
noncomputable def k68_5 : Code := (c2 (c1 (c1 k68_3)))
noncomputable def k68_6 : Code := (c2 (c1 k68_2))
theorem s68_4 {R : VP} {K1 : VP} {Q : EQ} (hN : ∀ e w, (K1 (e 2) w) → Q .normal e w) (e : Env) (w : World) (h : m68_4 R K1 (e 0) (e 2) w) : W68 k68_4 Q e w := by
  unfold m68_4 at h
  exact rgA 2 (fun e w => K1 (e 2) w) h hN
theorem s68_5 {R : VP} {K1 : VP} {Q : EQ} (hN : ∀ e w, (m68_4 R K1 (e 0) (e 2) w) → Q .normal e w) (e : Env) (w : World) (h : m68_5 R K1 (e 0) (e 2) (e 19) w) : W68 k68_5 Q e w := by
  unfold m68_5 at h
  refine coA (Operand.tmp 19) h (fun h1 => ?_) (fun h1 => ?_)
  · exact taA 4 13 (fun e w => m68_4 R K1 (e 0) (e 2) w) h1 hN
  · exact skA (hN _ _ h1)
theorem s68_3 {R : VP} {K1 : VP} {Q : EQ} (hN : ∀ e w, (K1 (e 2) w) → Q .normal e w) (e : Env) (w : World) (h : m68_3 R K1 (e 0) (e 2) w) : W68 k68_3 Q e w := by
  unfold m68_3 at h
  refine seA ?_
  have hN : ∀ e w, (m68_4 R K1 (e 0) (e 2) w) → (thenE (W68 k68_4 Q) Q) .normal e w := fun e w h => then_N (s68_4 (R := R) (Q := Q) (K1 := K1) hN e w h)
  refine block_ok 1 (by kernel_rfl) ?_
  have hN : ∀ e w, (m68_4 R K1 (e 0) (e 2) w) → (inBlockE 1 (thenE (W68 k68_4 Q) Q)) .normal e w := fun e w h => block_N (hN e w h)
  refine seA ?_
  have hN : ∀ e w, (m68_5 R K1 (e 0) (e 2) (e 19) w) → (thenE (W68 k68_5 (inBlockE 1 (thenE (W68 k68_4 Q) Q))) (inBlockE 1 (thenE (W68 k68_4 Q) Q))) .normal e w := fun e w h => then_N (s68_5 (R := R) (Q := (inBlockE 1 (thenE (W68 k68_4 Q) Q))) (K1 := K1) hN e w h)
  exact rgA 3 (fun e w => m68_5 R K1 (e 0) (e 2) (e 19) w) h hN
theorem s68_6 {R : VP} {K1 : VP} {Q : EQ} (hN : ∀ e w, (m68_3 R K1 (e 0) (e 2) w) → Q .normal e w) (hX0 : ∀ e w, (R (Value.tuple #[]) w) → Q (.exit 0) e w) (e : Env) (w : World) (h : m68_6 R K1 (e 0) (e 2) (e 9) w) : W68 k68_6 Q e w := by
  unfold m68_6 at h
  refine coA (Operand.tmp 9) h (fun h1 => ?_) (fun h1 => ?_)
  · exact skA (hN _ _ h1)
  · exact exA 0 (hX0 _ _ h1)
theorem s68_2 {R : VP} {K1 : VP} {Q : EQ} (hN : ∀ e w, (K1 (e 2) w) → Q .normal e w) (hX0 : ∀ e w, (R (Value.tuple #[]) w) → Q (.exit 0) e w) (e : Env) (w : World) (h : m68_2 R K1 (e 0) (e 2) w) : W68 k68_2 Q e w := by
  unfold m68_2 at h
  refine seA ?_
  have hN : ∀ e w, (m68_3 R K1 (e 0) (e 2) w) → (thenE (W68 k68_3 Q) Q) .normal e w := fun e w h => then_N (s68_3 (R := R) (Q := Q) (K1 := K1) hN e w h)
  have hX0 : ∀ e w, (R (Value.tuple #[]) w) → (thenE (W68 k68_3 Q) Q) (.exit 0) e w := fun e w h => then_X (hX0 e w h)
  refine seA ?_
  have hN : ∀ e w, (m68_6 R K1 (e 0) (e 2) (e 9) w) → (thenE (W68 k68_6 (thenE (W68 k68_3 Q) Q)) (thenE (W68 k68_3 Q) Q)) .normal e w := fun e w h => then_N (s68_6 (R := R) (Q := (thenE (W68 k68_3 Q) Q)) (K1 := K1) hN hX0 e w h)
  exact rgA 1 (fun e w => m68_6 R K1 (e 0) (e 2) (e 9) w) h hN
theorem s68_1 {R : VP} {Q : EQ} (hN : ∀ e w, (R (Value.tuple #[]) w) → Q .normal e w) (e : Env) (w : World) (h : m68_1 R (e 0) (e 2) w) : W68 k68_1 Q e w := by
  unfold m68_1 at h
  refine block_ok 0 (by kernel_rfl) ?_
  have hX0 : ∀ e w, (R (Value.tuple #[]) w) → (inBlockE 0 Q) (.exit 0) e w := fun e w h => inBlock_same (Q := Q) 0 (hN e w h)
  refine loop_ok' (fun (e : Env) => e 2) [0] (by kernel_rfl) (by kernel_rfl) h (fun K e' w' hk h' => ?_)
  have r0 : e' 0 = e 0 := hk 0 (by decide)
  have hX0 : ∀ e w, (R (Value.tuple #[]) w) → (thenE (fun (e : Env) w => K (e 2) w) (inBlockE 0 Q)) (.exit 0) e w := fun e w h => then_X (hX0 e w h)
  exact s68_2 (R := R) (Q := (thenE (fun (e : Env) w => K (e 2) w) (inBlockE 0 Q))) (K1 := K) (fun _ _ h => then_N h) hX0 e' w' (by rw [r0]; exact h')
theorem s68_0 {R : VP} {Q : EQ} (hN : ∀ e w, (R (Value.tuple #[]) w) → Q .normal e w) (e : Env) (w : World) (h : m68_0 R (e 0) w) : W68 k68_0 Q e w := by
  unfold m68_0 at h
  refine seA ?_
  have hN : ∀ e w, (m68_1 R (e 0) (e 2) w) → (thenE (W68 k68_1 Q) Q) .normal e w := fun e w h => then_N (s68_1 (R := R) (Q := Q) hN e w h)
  exact rgA 0 (fun e w => m68_1 R (e 0) (e 2) w) h hN
abbrev m68 (R : VP) (c0 : Value) (w : World) : Prop := m68_0 R c0 w
theorem s68 (c0 : Value) {R : VP} {w : World} (h : m68 R c0 w) :
    Calls Try.prog 68 #[c0] w fun e w' => ∃ v, e = .returned v ∧ R v w' :=
  calls_of_cwp (st := (fun i => cond (Nat.beq i 4) 15 (0))) (c := k68_0) (by kernel_rfl) Try.func68 (by kernel_rfl) (Nat.le_of_ble_eq_true (by kernel_rfl)) (by kernel_rfl)
    (s68_0 (R := R) (Q := endE Try.prog Try.f68 R) (fun e w h => kcast (by kernel_rfl) h) (argsE #[c0]) w (kcast (by kernel_rfl) h))
/-! ### slices.Equal[[]int,int] -/
def m56_14 (R : VP) (t4 : Value) (w : World) : Prop :=
  R t4 w
def m56_12 (R : VP) (K1 : VP) (t4 : Value) (w : World) : Prop :=
  R t4 w
def m56_9 (R : VP) (K1 : VP) (s10 s21 t12 t13 : Value) (w : World) : Prop :=
  valP Try.prog (binS BinOp.add 3 (Operand.tmp 13) (Operand.const (Value.int IntKind.i64 1)) t13 (Value.int IntKind.i64 1)) w fun t25 w =>
  K1 t25 w
def m56_11 (R : VP) (K1 : VP) (s10 s21 t12 t13 t24 : Value) (w : World) : Prop :=
  condP t24
  (m56_12 R K1 (Value.bool false) w)
  (m56_9 R K1 s10 s21 t12 t13 w)
def m56_10 (R : VP) (K1 : VP) (s10 s21 i5 t12 t13 : Value) (w : World) : Prop :=
  valQ Try.prog (Instr.indexAt 28 s10 i5) w fun t18 =>
  valQ Try.prog (Instr.loadAt 3 t18) w fun t19 =>
  valQ Try.prog (Instr.indexAt 28 s21 i5) w fun t22 =>
  valQ Try.prog (Instr.loadAt 3 t22) w fun t23 =>
  valQ Try.prog (binS BinOp.neq 3 (Operand.tmp 19) (Operand.tmp 23) t19 t23) w fun t24 =>
  anyDraw w fun w =>
  m56_11 R K1 s10 s21 t12 t13 t24 w
def m56_8 (R : VP) (K1 : VP) (s10 s21 t12 t13 : Value) (w : World) : Prop :=
  m56_10 R K1 s10 s21 t13 t12 t13 w
def m56_4 (R : VP) (t4 : Value) (w : World) : Prop :=
  R t4 w
def m56_3 (R : VP) (w : World) : Prop :=
  m56_4 R (Value.bool true) w
def m56_7 (R : VP) (K1 : VP) (s10 s21 t12 t13 t14 : Value) (w : World) : Prop :=
  condP t14
  (m56_8 R K1 s10 s21 t12 t13 w)
  (m56_3 R w)
def m56_6 (R : VP) (K1 : VP) (s10 s21 t12 t13 : Value) (w : World) : Prop :=
  valP Try.prog (binS BinOp.lss 3 (Operand.tmp 13) (Operand.tmp 12) t13 t12) w fun t14 w =>
  m56_7 R K1 s10 s21 t12 t13 t14 w
def m56_5 (R : VP) (s10 s21 t12 t13 : Value) (w : World) : Prop :=
  loopP (fun (K1 : VP) (s : Value) w => m56_6 R K1 s10 s21 t12 s w) t13 w
def m56_2 (R : VP) (s10 s21 : Value) (w : World) : Prop :=
  builtinP Try.prog Builtin.len #[28] 3 #[false] #[s10] w fun t12 w =>
  m56_5 R s10 s21 t12 (Value.int IntKind.i64 0) w
def m56_13 (R : VP) (s10 s21 t10 : Value) (w : World) : Prop :=
  condP t10
  (m56_14 R (Value.bool false) w)
  (m56_2 R s10 s21 w)
def m56_1 (R : VP) (s10 s21 : Value) (w : World) : Prop :=
  builtinP Try.prog Builtin.len #[28] 3 #[false] #[s10] w fun t7 w =>
  builtinP Try.prog Builtin.len #[28] 3 #[false] #[s21] w fun t9 w =>
  valP Try.prog (binS BinOp.neq 3 (Operand.tmp 7) (Operand.tmp 9) t7 t9) w fun t10 w =>
  m56_13 R s10 s21 t10 w
def m56_0 (R : VP) (s10 s21 : Value) (w : World) : Prop :=
  m56_1 R s10 s21 w
abbrev W56 := cwp Try.prog (fun i => cond (Nat.beq i 6) 1 (0))
noncomputable def k56_0 : Code := (bodyOf Try.f56)
noncomputable def k56_1 : Code := (c2 k56_0)
noncomputable def k56_2 : Code := (c2 k56_1)
noncomputable def k56_3 : Code := (c2 k56_2)
noncomputable def k56_4 : Code := (c2 k56_3)
noncomputable def k56_5 : Code := (c2 (c1 k56_2))
noncomputable def k56_6 : Code := (c1 (c1 k56_5))
noncomputable def k56_7 : Code := (c2 k56_6)
noncomputable def k56_8 : Code := (c2 k56_7)
noncomputable def k56_9 : Code := (c2 k56_8)
noncomputable def k56_10 : Code := (c2 (c1 (c1 k56_8)))
noncomputable def k56_11 : Code := (c2 k56_10)
noncomputable def k56_12 : Code := (c2 (c1 k56_11))
noncomputable def k56_13 : Code := (c2 (c1 k56_1))
noncomputable def k56_14 : Code := (c2 (c1 k56_13))
theorem s56_14 {R : VP} {Q : EQ} (hR : ∀ e w, (R (e 4) w) → Q .ret e w) (e : Env) (w : World) (h : m56_14 R (e 4) w) : W56 k56_14 Q e w := by
  unfold m56_14 at h
  exact reA (hR _ _ h)
theorem s56_12 {R : VP} {K1 : VP} {Q : EQ} (hR : ∀ e w, (R (e 4) w) → Q .ret e w) (e : Env) (w : World) (h : m56_12 R K1 (e 4) w) : W56 k56_12 Q e w := by
  unfold m56_12 at h
  exact reA (hR _ _ h)
theorem s56_9 {R : VP} {K1 : VP} {Q : EQ} (hN : ∀ e w, (K1 (e 13) w) → Q .normal e w) (e : Env) (w : World) (h : m56_9 R K1 (e 0) (e 1) (e 12) (e 13) w) : W56 k56_9 Q e w := by
  unfold m56_9 at h
  exact rgA 8 (fun e w => K1 (e 13) w) h hN
theorem s56_11 {R : VP} {K1 : VP} {Q : EQ} (hN : ∀ e w, (m56_9 R K1 (e 0) (e 1) (e 12) (e 13) w) → Q .normal e w) (hR : ∀ e w, (R (e 4) w) → Q .ret e w) (e : Env) (w : World) (h : m56_11 R K1 (e 0) (e 1) (e 12) (e 13) (e 24) w) : W56 k56_11 Q e w := by
  unfold m56_11 at h
  refine coA (Operand.tmp 24) h (fun h1 => ?_) (fun h1 => ?_)
  · refine seA ?_
    have hN : ∀ e w, (m56_12 R K1 (e 4) w) → (thenE (W56 k56_12 Q) Q) .normal e w := fun e w h => then_N (s56_12 (R := R) (Q := Q) (K1 := K1) hR e w h)
    exact rgA 7 (fun e w => m56_12 R K1 (e 4) w) h1 hN
  · exact skA (hN _ _ h1)
theorem s56_10 {R : VP} {K1 : VP} {Q : EQ} (hN : ∀ e w, (m56_9 R K1 (e 0) (e 1) (e 12) (e 13) w) → Q .normal e w) (hR : ∀ e w, (R (e 4) w) → Q .ret e w) (e : Env) (w : World) (h : m56_10 R K1 (e 0) (e 1) (e 5) (e 12) (e 13) w) : W56 k56_10 Q e w := by
  unfold m56_10 at h
  refine seA ?_
  have hN : ∀ e w, (m56_11 R K1 (e 0) (e 1) (e 12) (e 13) (e 24) w) → (thenE (W56 k56_11 Q) Q) .normal e w := fun e w h => then_N (s56_11 (R := R) (Q := Q) (K1 := K1) hN hR e w h)
  exact quA 6 (fun e w => m56_11 R K1 (e 0) (e 1) (e 12) (e 13) (e 24) w) h hN
theorem s56_8 {R : VP} {K1 : VP} {Q : EQ} (hN : ∀ e w, (K1 (e 13) w) → Q .normal e w) (hR : ∀ e w, (R (e 4) w) → Q .ret e w) (e : Env) (w : World) (h : m56_8 R K1 (e 0) (e 1) (e 12) (e 13) w) : W56 k56_8 Q e w := by
  unfold m56_8 at h
  refine seA ?_
  have hN : ∀ e w, (m56_9 R K1 (e 0) (e 1) (e 12) (e 13) w) → (thenE (W56 k56_9 Q) Q) .normal e w := fun e w h => then_N (s56_9 (R := R) (Q := Q) (K1 := K1) hN e w h)
  have hR : ∀ e w, (R (e 4) w) → (thenE (W56 k56_9 Q) Q) .ret e w := fun e w h => then_R (hR e w h)
  refine block_ok 1 (by kernel_rfl) ?_
  have hN : ∀ e w, (m56_9 R K1 (e 0) (e 1) (e 12) (e 13) w) → (inBlockE 1 (thenE (W56 k56_9 Q) Q)) .normal e w := fun e w h => block_N (hN e w h)
  have hR : ∀ e w, (R (e 4) w) → (inBlockE 1 (thenE (W56 k56_9 Q) Q)) .ret e w := fun e w h => block_R (hR e w h)
  refine seA ?_
  have hN : ∀ e w, (m56_10 R K1 (e 0) (e 1) (e 5) (e 12) (e 13) w) → (thenE (W56 k56_10 (inBlockE 1 (thenE (W56 k56_9 Q) Q))) (inBlockE 1 (thenE (W56 k56_9 Q) Q))) .normal e w := fun e w h => then_N (s56_10 (R := R) (Q := (inBlockE 1 (thenE (W56 k56_9 Q) Q))) (K1 := K1) hN hR e w h)
  exact rgA 5 (fun e w => m56_10 R K1 (e 0) (e 1) (e 5) (e 12) (e 13) w) h hN
theorem s56_4 {R : VP} {Q : EQ} (hR : ∀ e w, (R (e 4) w) → Q .ret e w) (e : Env) (w : World) (h : m56_4 R (e 4) w) : W56 k56_4 Q e w := by
  unfold m56_4 at h
  exact reA (hR _ _ h)
theorem s56_3 {R : VP} {Q : EQ} (hR : ∀ e w, (R (e 4) w) → Q .ret e w) (e : Env) (w : World) (h : m56_3 R w) : W56 k56_3 Q e w := by
  unfold m56_3 at h
  refine seA ?_
  have hN : ∀ e w, (m56_4 R (e 4) w) → (thenE (W56 k56_4 Q) Q) .normal e w := fun e w h => then_N (s56_4 (R := R) (Q := Q) hR e w h)
  exact rgA 9 (fun e w => m56_4 R (e 4) w) h hN
theorem s56_7 {R : VP} {K1 : VP} {Q : EQ} (hN : ∀ e w, (K1 (e 13) w) → Q .normal e w) (hR : ∀ e w, (R (e 4) w) → Q .ret e w) (hX0 : ∀ e w, (m56_3 R w) → Q (.exit 0) e w) (e : Env) (w : World) (h : m56_7 R K1 (e 0) (e 1) (e 12) (e 13) (e 14) w) : W56 k56_7 Q e w := by
  unfold m56_7 at h
  refine seA ?_
  have hN : ∀ e w, (m56_8 R K1 (e 0) (e 1) (e 12) (e 13) w) → (thenE (W56 k56_8 Q) Q) .normal e w := fun e w h => then_N (s56_8 (R := R) (Q := Q) (K1 := K1) hN hR e w h)
  have hX0 : ∀ e w, (m56_3 R w) → (thenE (W56 k56_8 Q) Q) (.exit 0) e w := fun e w h => then_X (hX0 e w h)
  refine coA (Operand.tmp 14) h (fun h1 => ?_) (fun h1 => ?_)
  · exact skA (hN _ _ h1)
  · exact exA 0 (hX0 _ _ h1)
theorem s56_6 {R : VP} {K1 : VP} {Q : EQ} (hN : ∀ e w, (K1 (e 13) w) → Q .normal e w) (hR : ∀ e w, (R (e 4) w) → Q .ret e w) (hX0 : ∀ e w, (m56_3 R w) → Q (.exit 0) e w) (e : Env) (w : World) (h : m56_6 R K1 (e 0) (e 1) (e 12) (e 13) w) : W56 k56_6 Q e w := by
  unfold m56_6 at h
  refine seA ?_
  have hN : ∀ e w, (m56_7 R K1 (e 0) (e 1) (e 12) (e 13) (e 14) w) → (thenE (W56 k56_7 Q) Q) .normal e w := fun e w h => then_N (s56_7 (R := R) (Q := Q) (K1 := K1) hN hR hX0 e w h)
  exact rgA 4 (fun e w => m56_7 R K1 (e 0) (e 1) (e 12) (e 13) (e 14) w) h hN
theorem s56_5 {R : VP} {Q : EQ} (hN : ∀ e w, (m56_3 R w) → Q .normal e w) (hR : ∀ e w, (R (e 4) w) → Q .ret e w) (e : Env) (w : World) (h : m56_5 R (e 0) (e 1) (e 12) (e 13) w) : W56 k56_5 Q e w := by
  unfold m56_5 at h
  refine block_ok 0 (by kernel_rfl) ?_
  have hX0 : ∀ e w, (m56_3 R w) → (inBlockE 0 Q) (.exit 0) e w := fun e w h => inBlock_same (Q := Q) 0 (hN e w h)
  have hR : ∀ e w, (R (e 4) w) → (inBlockE 0 Q) .ret e w := fun e w h => block_R (hR e w h)
  refine loop_ok' (fun (e : Env) => e 13) [0, 1, 12] (by kernel_rfl) (by kernel_rfl) h (fun K e' w' hk h' => ?_)
  have r0 : e' 0 = e 0 := hk 0 (by decide)
  have r1 : e' 1 = e 1 := hk 1 (by decide)
  have r12 : e' 12 = e 12 := hk 12 (by decide)
  have hR : ∀ e w, (R (e 4) w) → (thenE (fun (e : Env) w => K (e 13) w) (inBlockE 0 Q)) .ret e w := fun e w h => then_R (hR e w h)
  have hX0 : ∀ e w, (m56_3 R w) → (thenE (fun (e : Env) w => K (e 13) w) (inBlockE 0 Q)) (.exit 0) e w := fun e w h => then_X (hX0 e w h)
  exact s56_6 (R := R) (Q := (thenE (fun (e : Env) w => K (e 13) w) (inBlockE 0 Q))) (K1 := K) (fun _ _ h => then_N h) hR hX0 e' w' (by rw [r0, r1, r12]; exact h')
theorem s56_2 {R : VP} {Q : EQ} (hR : ∀ e w, (R (e 4) w) → Q .ret e w) (e : Env) (w : World) (h : m56_2 R (e 0) (e 1) w) : W56 k56_2 Q e w := by
  unfold m56_2 at h
  refine seA ?_
  have hN : ∀ e w, (m56_3 R w) → (thenE (W56 k56_3 Q) Q) .normal e w := fun e w h => then_N (s56_3 (R := R) (Q := Q) hR e w h)
  have hR : ∀ e w, (R (e 4) w) → (thenE (W56 k56_3 Q) Q) .ret e w := fun e w h => then_R (hR e w h)
  refine seA ?_
  have hN : ∀ e w, (m56_5 R (e 0) (e 1) (e 12) (e 13) w) → (thenE (W56 k56_5 (thenE (W56 k56_3 Q) Q)) (thenE (W56 k56_3 Q) Q)) .normal e w := fun e w h => then_N (s56_5 (R := R) (Q := (thenE (W56 k56_3 Q) Q)) hN hR e w h)
  exact rgA 3 (fun e w => m56_5 R (e 0) (e 1) (e 12) (e 13) w) h hN
theorem s56_13 {R : VP} {Q : EQ} (hN : ∀ e w, (m56_2 R (e 0) (e 1) w) → Q .normal e w) (hR : ∀ e w, (R (e 4) w) → Q .ret e w) (e : Env) (w : World) (h : m56_13 R (e 0) (e 1) (e 10) w) : W56 k56_13 Q e w := by
  unfold m56_13 at h
  refine coA (Operand.tmp 10) h (fun h1 => ?_) (fun h1 => ?_)
  · refine seA ?_
    have hN : ∀ e w, (m56_14 R (e 4) w) → (thenE (W56 k56_14 Q) Q) .normal e w := fun e w h => then_N (s56_14 (R := R) (Q := Q) hR e w h)
    exact rgA 2 (fun e w => m56_14 R (e 4) w) h1 hN
  · exact skA (hN _ _ h1)
theorem s56_1 {R : VP} {Q : EQ} (hR : ∀ e w, (R (e 4) w) → Q .ret e w) (e : Env) (w : World) (h : m56_1 R (e 0) (e 1) w) : W56 k56_1 Q e w := by
  unfold m56_1 at h
  refine seA ?_
  have hN : ∀ e w, (m56_2 R (e 0) (e 1) w) → (thenE (W56 k56_2 Q) Q) .normal e w := fun e w h => then_N (s56_2 (R := R) (Q := Q) hR e w h)
  have hR : ∀ e w, (R (e 4) w) → (thenE (W56 k56_2 Q) Q) .ret e w := fun e w h => then_R (hR e w h)
  refine seA ?_
  have hN : ∀ e w, (m56_13 R (e 0) (e 1) (e 10) w) → (thenE (W56 k56_13 (thenE (W56 k56_2 Q) Q)) (thenE (W56 k56_2 Q) Q)) .normal e w := fun e w h => then_N (s56_13 (R := R) (Q := (thenE (W56 k56_2 Q) Q)) hN hR e w h)
  exact rgA 1 (fun e w => m56_13 R (e 0) (e 1) (e 10) w) h hN
theorem s56_0 {R : VP} {Q : EQ} (hR : ∀ e w, (R (e 4) w) → Q .ret e w) (e : Env) (w : World) (h : m56_0 R (e 0) (e 1) w) : W56 k56_0 Q e w := by
  unfold m56_0 at h
  refine seA ?_
  have hN : ∀ e w, (m56_1 R (e 0) (e 1) w) → (thenE (W56 k56_1 Q) Q) .normal e w := fun e w h => then_N (s56_1 (R := R) (Q := Q) hR e w h)
  exact rgA 0 (fun e w => m56_1 R (e 0) (e 1) w) h hN
abbrev m56 (R : VP) (s10 s21 : Value) (w : World) : Prop := m56_0 R s10 s21 w
theorem s56 (s10 s21 : Value) {R : VP} {w : World} (h : m56 R s10 s21 w) :
    Calls Try.prog 56 #[s10, s21] w fun e w' => ∃ v, e = .returned v ∧ R v w' :=
  calls_of_cwp (st := (fun i => cond (Nat.beq i 6) 1 (0))) (c := k56_0) (by kernel_rfl) Try.func56 (by kernel_rfl) (Nat.le_of_ble_eq_true (by kernel_rfl)) (by kernel_rfl)
    (s56_0 (R := R) (Q := endE Try.prog Try.f56 R) (fun e w h => kcast (by kernel_rfl) h) (argsE #[s10, s21]) w (kcast (by kernel_rfl) h))
/-! ### slices.Contains[[]int,int] -/
def m57_2 (R : VP) (t4 : Value) (w : World) : Prop :=
  R t4 w
def m57_1 (R : VP) (s0 v1 : Value) (w : World) : Prop :=
  callP Try.prog (fnV 84) #[s0, v1] w fun t7 w =>
  valP Try.prog (binS BinOp.geq 3 (Operand.tmp 7) (Operand.const (Value.int IntKind.i64 0)) t7 (Value.int IntKind.i64 0)) w fun t8 w =>
  m57_2 R t8 w
def m57_0 (R : VP) (s0 v1 : Value) (w : World) : Prop :=
  m57_1 R s0 v1 w
abbrev W57 := cwp Try.prog (fun i => 0)
noncomputable def k57_0 : Code := (bodyOf Try.f57)
noncomputable def k57_1 : Code := (c2 k57_0)
noncomputable def k57_2 : Code := (c2 k57_1)
theorem s57_2 {R : VP} {Q : EQ} (hR : ∀ e w, (R (e 4) w) → Q .ret e w) (e : Env) (w : World) (h : m57_2 R (e 4) w) : W57 k57_2 Q e w := by
  unfold m57_2 at h
  exact reA (hR _ _ h)
theorem s57_1 {R : VP} {Q : EQ} (hR : ∀ e w, (R (e 4) w) → Q .ret e w) (e : Env) (w : World) (h : m57_1 R (e 0) (e 1) w) : W57 k57_1 Q e w := by
  unfold m57_1 at h
  refine seA ?_
  have hN : ∀ e w, (m57_2 R (e 4) w) → (thenE (W57 k57_2 Q) Q) .normal e w := fun e w h => then_N (s57_2 (R := R) (Q := Q) hR e w h)
  exact rgA 1 (fun e w => m57_2 R (e 4) w) h hN
theorem s57_0 {R : VP} {Q : EQ} (hR : ∀ e w, (R (e 4) w) → Q .ret e w) (e : Env) (w : World) (h : m57_0 R (e 0) (e 1) w) : W57 k57_0 Q e w := by
  unfold m57_0 at h
  refine seA ?_
  have hN : ∀ e w, (m57_1 R (e 0) (e 1) w) → (thenE (W57 k57_1 Q) Q) .normal e w := fun e w h => then_N (s57_1 (R := R) (Q := Q) hR e w h)
  exact rgA 0 (fun e w => m57_1 R (e 0) (e 1) w) h hN
abbrev m57 (R : VP) (s0 v1 : Value) (w : World) : Prop := m57_0 R s0 v1 w
theorem s57 (s0 v1 : Value) {R : VP} {w : World} (h : m57 R s0 v1 w) :
    Calls Try.prog 57 #[s0, v1] w fun e w' => ∃ v, e = .returned v ∧ R v w' :=
  calls_of_cwp (st := (fun i => 0)) (c := k57_0) (by kernel_rfl) Try.func57 (by kernel_rfl) (Nat.le_of_ble_eq_true (by kernel_rfl)) (by kernel_rfl)
    (s57_0 (R := R) (Q := endE Try.prog Try.f57 R) (fun e w h => kcast (by kernel_rfl) h) (argsE #[s0, v1]) w (kcast (by kernel_rfl) h))
/-! ### slices.Index[[]int,int] -/
def m84_11 (R : VP) (K1 : VP) (t4 : Value) (w : World) : Prop :=
  R t4 w
def m84_8 (R : VP) (K1 : VP) (s0 v1 t7 t8 : Value) (w : World) : Prop :=
  valP Try.prog (binS BinOp.add 3 (Operand.tmp 8) (Operand.const (Value.int IntKind.i64 1)) t8 (Value.int IntKind.i64 1)) w fun t18 w =>
  K1 t18 w
def m84_10 (R : VP) (K1 : VP) (s0 v1 i5 t7 t8 t16 : Value) (w : World) : Prop :=
  condP t16
  (m84_11 R K1 i5 w)
  (m84_8 R K1 s0 v1 t7 t8 w)
def m84_9 (R : VP) (K1 : VP) (s0 v1 i5 t7 t8 : Value) (w : World) : Prop :=
  valP Try.prog (Instr.indexAt 28 s0 i5) w fun t14 w =>
  valP Try.prog (Instr.loadAt 3 t14) w fun t15 w =>
  valP Try.prog (binS BinOp.eql 3 (Operand.tmp 11) (Operand.tmp 15) v1 t15) w fun t16 w =>
  m84_10 R K1 s0 v1 i5 t7 t8 t16 w
def m84_7 (R : VP) (K1 : VP) (s0 v1 t7 t8 : Value) (w : World) : Prop :=
  m84_9 R K1 s0 v1 t8 t7 t8 w
def m84_3 (R : VP) (t4 : Value) (w : World) : Prop :=
  R t4 w
def m84_2 (R : VP) (w : World) : Prop :=
  m84_3 R (Value.int IntKind.i64 (-1)) w
def m84_6 (R : VP) (K1 : VP) (s0 v1 t7 t8 t9 : Value) (w : World) : Prop :=
  condP t9
  (m84_7 R K1 s0 v1 t7 t8 w)
  (m84_2 R w)
def m84_5 (R : VP) (K1 : VP) (s0 v1 t7 t8 : Value) (w : World) : Prop :=
  valP Try.prog (binS BinOp.lss 3 (Operand.tmp 8) (Operand.tmp 7) t8 t7) w fun t9 w =>
  m84_6 R K1 s0 v1 t7 t8 t9 w
def m84_4 (R : VP) (s0 v1 t7 t8 : Value) (w : World) : Prop :=
  loopP (fun (K1 : VP) (s : Value) w => m84_5 R K1 s0 v1 t7 s w) t8 w
def m84_1 (R : VP) (s0 v1 : Value) (w : World) : Prop :=
  builtinP Try.prog Builtin.len #[28] 3 #[false] #[s0] w fun t7 w =>
  m84_4 R s0 v1 t7 (Value.int IntKind.i64 0) w
def m84_0 (R : VP) (s0 v1 : Value) (w : World) : Prop :=
  m84_1 R s0 v1 w
abbrev W84 := cwp Try.prog (fun i => 0)
noncomputable def k84_0 : Code := (bodyOf Try.f84)
noncomputable def k84_1 : Code := (c2 k84_0)
noncomputable def k84_2 : Code := (c2 k84_1)
noncomputable def k84_3 : Code := (c2 k84_2)
noncomputable def k84_4 : Code := (c2 (c1 k84_1))
noncomputable def k84_5 : Code := (c1 (c1 k84_4))
noncomputable def k84_6 : Code := (c2 k84_5)
noncomputable def k84_7 : Code := (c2 k84_6)
noncomputable def k84_8 : Code := (c2 k84_7)
noncomputable def k84_9 : Code := (c2 (c1 (c1 k84_7)))
noncomputable def k84_10 : Code := (c2 k84_9)
noncomputable def k84_11 : Code := (c2 (c1 k84_10))
theorem s84_11 {R : VP} {K1 : VP} {Q : EQ} (hR : ∀ e w, (R (e 4) w) → Q .ret e w) (e : Env) (w : World) (h : m84_11 R K1 (e 4) w) : W84 k84_11 Q e w := by
  unfold m84_11 at h
  exact reA (hR _ _ h)
theorem s84_8 {R : VP} {K1 : VP} {Q : EQ} (hN : ∀ e w, (K1 (e 8) w) → Q .normal e w) (e : Env) (w : World) (h : m84_8 R K1 (e 0) (e 1) (e 7) (e 8) w) : W84 k84_8 Q e w := by
  unfold m84_8 at h
  exact rgA 6 (fun e w => K1 (e 8) w) h hN
theorem s84_10 {R : VP} {K1 : VP} {Q : EQ} (hN : ∀ e w, (m84_8 R K1 (e 0) (e 1) (e 7) (e 8) w) → Q .normal e w) (hR : ∀ e w, (R (e 4) w) → Q .ret e w) (e : Env) (w : World) (h : m84_10 R K1 (e 0) (e 1) (e 5) (e 7) (e 8) (e 16) w) : W84 k84_10 Q e w := by
  unfold m84_10 at h
  refine coA (Operand.tmp 16) h (fun h1 => ?_) (fun h1 => ?_)
  · refine seA ?_
    have hN : ∀ e w, (m84_11 R K1 (e 4) w) → (thenE (W84 k84_11 Q) Q) .normal e w := fun e w h => then_N (s84_11 (R := R) (Q := Q) (K1 := K1) hR e w h)
    exact rgA 5 (fun e w => m84_11 R K1 (e 4) w) h1 hN
  · exact skA (hN _ _ h1)
theorem s84_9 {R : VP} {K1 : VP} {Q : EQ} (hN : ∀ e w, (m84_8 R K1 (e 0) (e 1) (e 7) (e 8) w) → Q .normal e w) (hR : ∀ e w, (R (e 4) w) → Q .ret e w) (e : Env) (w : World) (h : m84_9 R K1 (e 0) (e 1) (e 5) (e 7) (e 8) w) : W84 k84_9 Q e w := by
  unfold m84_9 at h
  refine seA ?_
  have hN : ∀ e w, (m84_10 R K1 (e 0) (e 1) (e 5) (e 7) (e 8) (e 16) w) → (thenE (W84 k84_10 Q) Q) .normal e w := fun e w h => then_N (s84_10 (R := R) (Q := Q) (K1 := K1) hN hR e w h)
  exact rgA 4 (fun e w => m84_10 R K1 (e 0) (e 1) (e 5) (e 7) (e 8) (e 16) w) h hN
theorem s84_7 {R : VP} {K1 : VP} {Q : EQ} (hN : ∀ e w, (K1 (e 8) w) → Q .normal e w) (hR : ∀ e w, (R (e 4) w) → Q .ret e w) (e : Env) (w : World) (h : m84_7 R K1 (e 0) (e 1) (e 7) (e 8) w) : W84 k84_7 Q e w := by
  unfold m84_7 at h
  refine seA ?_
  have hN : ∀ e w, (m84_8 R K1 (e 0) (e 1) (e 7) (e 8) w) → (thenE (W84 k84_8 Q) Q) .normal e w := fun e w h => then_N (s84_8 (R := R) (Q := Q) (K1 := K1) hN e w h)
  have hR : ∀ e w, (R (e 4) w) → (thenE (W84 k84_8 Q) Q) .ret e w := fun e w h => then_R (hR e w h)
  refine block_ok 1 (by kernel_rfl) ?_
  have hN : ∀ e w, (m84_8 R K1 (e 0) (e 1) (e 7) (e 8) w) → (inBlockE 1 (thenE (W84 k84_8 Q) Q)) .normal e w := fun e w h => block_N (hN e w h)
  have hR : ∀ e w, (R (e 4) w) → (inBlockE 1 (thenE (W84 k84_8 Q) Q)) .ret e w := fun e w h => block_R (hR e w h)
  refine seA ?_
  have hN : ∀ e w, (m84_9 R K1 (e 0) (e 1) (e 5) (e 7) (e 8) w) → (thenE (W84 k84_9 (inBlockE 1 (thenE (W84 k84_8 Q) Q))) (inBlockE 1 (thenE (W84 k84_8 Q) Q))) .normal e w := fun e w h => then_N (s84_9 (R := R) (Q := (inBlockE 1 (thenE (W84 k84_8 Q) Q))) (K1 := K1) hN hR e w h)
  exact rgA 3 (fun e w => m84_9 R K1 (e 0) (e 1) (e 5) (e 7) (e 8) w) h hN
theorem s84_3 {R : VP} {Q : EQ} (hR : ∀ e w, (R (e 4) w) → Q .ret e w) (e : Env) (w : World) (h : m84_3 R (e 4) w) : W84 k84_3 Q e w := by
  unfold m84_3 at h
  exact reA (hR _ _ h)
theorem s84_2 {R : VP} {Q : EQ} (hR : ∀ e w, (R (e 4) w) → Q .ret e w) (e : Env) (w : World) (h : m84_2 R w) : W84 k84_2 Q e w := by
  unfold m84_2 at h
  refine seA ?_
  have hN : ∀ e w, (m84_3 R (e 4) w) → (thenE (W84 k84_3 Q) Q) .normal e w := fun e w h => then_N (s84_3 (R := R) (Q := Q) hR e w h)
  exact rgA 7 (fun e w => m84_3 R (e 4) w) h hN
theorem s84_6 {R : VP} {K1 : VP} {Q : EQ} (hN : ∀ e w, (K1 (e 8) w) → Q .normal e w) (hR : ∀ e w, (R (e 4) w) → Q .ret e w) (hX0 : ∀ e w, (m84_2 R w) → Q (.exit 0) e w) (e : Env) (w : World) (h : m84_6 R K1 (e 0) (e 1) (e 7) (e 8) (e 9) w) : W84 k84_6 Q e w := by
  unfold m84_6 at h
  refine seA ?_
  have hN : ∀ e w, (m84_7 R K1 (e 0) (e 1) (e 7) (e 8) w) → (thenE (W84 k84_7 Q) Q) .normal e w := fun e w h => then_N (s84_7 (R := R) (Q := Q) (K1 := K1) hN hR e w h)
  have hX0 : ∀ e w, (m84_2 R w) → (thenE (W84 k84_7 Q) Q) (.exit 0) e w := fun e w h => then_X (hX0 e w h)
  refine coA (Operand.tmp 9) h (fun h1 => ?_) (fun h1 => ?_)
  · exact skA (hN _ _ h1)
  · exact exA 0 (hX0 _ _ h1)
theorem s84_5 {R : VP} {K1 : VP} {Q : EQ} (hN : ∀ e w, (K1 (e 8) w) → Q .normal e w) (hR : ∀ e w, (R (e 4) w) → Q .ret e w) (hX0 : ∀ e w, (m84_2 R w) → Q (.exit 0) e w) (e : Env) (w : World) (h : m84_5 R K1 (e 0) (e 1) (e 7) (e 8) w) : W84 k84_5 Q e w := by
  unfold m84_5 at h
  refine seA ?_
  have hN : ∀ e w, (m84_6 R K1 (e 0) (e 1) (e 7) (e 8) (e 9) w) → (thenE (W84 k84_6 Q) Q) .normal e w := fun e w h => then_N (s84_6 (R := R) (Q := Q) (K1 := K1) hN hR hX0 e w h)
  exact rgA 2 (fun e w => m84_6 R K1 (e 0) (e 1) (e 7) (e 8) (e 9) w) h hN
theorem s84_4 {R : VP} {Q : EQ} (hN : ∀ e w, (m84_2 R w) → Q .normal e w) (hR : ∀ e w, (R (e 4) w) → Q .ret e w) (e : Env) (w : World) (h : m84_4 R (e 0) (e 1) (e 7) (e 8) w) : W84 k84_4 Q e w := by
  unfold m84_4 at h
  refine block_ok 0 (by kernel_rfl) ?_
  have hX0 : ∀ e w, (m84_2 R w) → (inBlockE 0 Q) (.exit 0) e w := fun e w h => inBlock_same (Q := Q) 0 (hN e w h)
  have hR : ∀ e w, (R (e 4) w) → (inBlockE 0 Q) .ret e w := fun e w h => block_R (hR e w h)
  refine loop_ok' (fun (e : Env) => e 8) [0, 1, 7] (by kernel_rfl) (by kernel_rfl) h (fun K e' w' hk h' => ?_)
  have r0 : e' 0 = e 0 := hk 0 (by decide)
  have r1 : e' 1 = e 1 := hk 1 (by decide)
  have r7 : e' 7 = e 7 := hk 7 (by decide)
  have hR : ∀ e w, (R (e 4) w) → (thenE (fun (e : Env) w => K (e 8) w) (inBlockE 0 Q)) .ret e w := fun e w h => then_R (hR e w h)
  have hX0 : ∀ e w, (m84_2 R w) → (thenE (fun (e : Env) w => K (e 8) w) (inBlockE 0 Q)) (.exit 0) e w := fun e w h => then_X (hX0 e w h)
  exact s84_5 (R := R) (Q := (thenE (fun (e : Env) w => K (e 8) w) (inBlockE 0 Q))) (K1 := K) (fun _ _ h => then_N h) hR hX0 e' w' (by rw [r0, r1, r7]; exact h')
theorem s84_1 {R : VP} {Q : EQ} (hR : ∀ e w, (R (e 4) w) → Q .ret e w) (e : Env) (w : World) (h : m84_1 R (e 0) (e 1) w) : W84 k84_1 Q e w := by
  unfold m84_1 at h
  refine seA ?_
  have hN : ∀ e w, (m84_2 R w) → (thenE (W84 k84_2 Q) Q) .normal e w := fun e w h => then_N (s84_2 (R := R) (Q := Q) hR e w h)
  have hR : ∀ e w, (R (e 4) w) → (thenE (W84 k84_2 Q) Q) .ret e w := fun e w h => then_R (hR e w h)
  refine seA ?_
  have hN : ∀ e w, (m84_4 R (e 0) (e 1) (e 7) (e 8) w) → (thenE (W84 k84_4 (thenE (W84 k84_2 Q) Q)) (thenE (W84 k84_2 Q) Q)) .normal e w := fun e w h => then_N (s84_4 (R := R) (Q := (thenE (W84 k84_2 Q) Q)) hN hR e w h)
  exact rgA 1 (fun e w => m84_4 R (e 0) (e 1) (e 7) (e 8) w) h hN
theorem s84_0 {R : VP} {Q : EQ} (hR : ∀ e w, (R (e 4) w) → Q .ret e w) (e : Env) (w : World) (h : m84_0 R (e 0) (e 1) w) : W84 k84_0 Q e w := by
  unfold m84_0 at h
  refine seA ?_
  have hN : ∀ e w, (m84_1 R (e 0) (e 1) w) → (thenE (W84 k84_1 Q) Q) .normal e w := fun e w h => then_N (s84_1 (R := R) (Q := Q) hR e w h)
  exact rgA 0 (fun e w => m84_1 R (e 0) (e 1) w) h hN
abbrev m84 (R : VP) (s0 v1 : Value) (w : World) : Prop := m84_0 R s0 v1 w
theorem s84 (s0 v1 : Value) {R : VP} {w : World} (h : m84 R s0 v1 w) :
    Calls Try.prog 84 #[s0, v1] w fun e w' => ∃ v, e = .returned v ∧ R v w' :=
  calls_of_cwp (st := (fun i => 0)) (c := k84_0) (by kernel_rfl) Try.func84 (by kernel_rfl) (Nat.le_of_ble_eq_true (by kernel_rfl)) (by kernel_rfl)
    (s84_0 (R := R) (Q := endE Try.prog Try.f84 R) (fun e w h => kcast (by kernel_rfl) h) (argsE #[s0, v1]) w (kcast (by kernel_rfl) h))
end Go.Proofs.Ytjjmlopmemmobaa.M
