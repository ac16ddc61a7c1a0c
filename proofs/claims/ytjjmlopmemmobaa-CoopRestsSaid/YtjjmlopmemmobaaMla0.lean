/- What functions' texts ask of their ends, told over values that have names; printed by a program of this work. -/
import Derived.Test.YtjjmlopmemmobaaFw
import Derived.Test.YtjjmlopmemmobaaProg
namespace Go.Proofs.Ytjjmlopmemmobaa.M
open Go.Proofs.Ytjjmlopmemmobaa.F
set_option linter.unusedVariables false
set_option maxRecDepth 100000
/-! ### headgate/headgatelaw35.CoopMembers -/
def m3_25 (R : VP) (t4 : Value) (w : World) : Prop :=
  R t4 w
def m3_21 (R : VP) (K1 : VP) (K2 : VP) (t4 : Value) (w : World) : Prop :=
  R t4 w
def m3_19 (R : VP) (K1 : VP) (K2 : VP) (t4 : Value) (w : World) : Prop :=
  R t4 w
def m3_16 (R : VP) (K1 : VP) (K2 : VP) (l1 c5 i6 m7 have8 want9 p10 : Value) (w : World) : Prop :=
  valP Try.prog (binS BinOp.add 3 (Operand.tmp 41) (Operand.const (Value.int IntKind.i64 1)) p10 (Value.int IntKind.i64 1)) w fun t42 w =>
  K2 t42 w
def m3_18 (R : VP) (K1 : VP) (K2 : VP) (l1 c5 i6 m7 have8 want9 p10 t78 : Value) (w : World) : Prop :=
  condP t78
  (m3_19 R K1 K2 (Value.bool false) w)
  (m3_16 R K1 K2 l1 c5 i6 m7 have8 want9 p10 w)
def m3_17 (R : VP) (K1 : VP) (K2 : VP) (l1 c5 i6 m7 have8 want9 p10 : Value) (w : World) : Prop :=
  builtinP Try.prog Builtin.len #[28] 3 #[false] #[m7] w fun t59 w =>
  valP Try.prog (binS BinOp.gtr 3 (Operand.tmp 59) (Operand.const (Value.int IntKind.i64 0)) t59 (Value.int IntKind.i64 0)) w fun t60 w =>
  condP t60
  (valP Try.prog (Instr.indexAt 28 have8 p10) w fun t65 w =>
  valP Try.prog (Instr.loadAt 3 t65) w fun t66 w =>
  callP Try.prog (fnV 21) #[m7, t66] w fun t67 w =>
  valP Try.prog (binS BinOp.neq 3 (Operand.tmp 67) (Operand.const (Value.int IntKind.i64 1)) t67 (Value.int IntKind.i64 1)) w fun t68 w =>
  condP t68
  (pickP t68 (Value.bool true) undef fun t77 =>
  pickP t60 t77 (Value.bool false) fun t78 =>
  m3_18 R K1 K2 l1 c5 i6 m7 have8 want9 p10 t78 w)
  (valP Try.prog (Instr.indexAt 28 want9 p10) w fun t73 w =>
  valP Try.prog (Instr.loadAt 3 t73) w fun t74 w =>
  callP Try.prog (fnV 21) #[m7, t74] w fun t75 w =>
  valP Try.prog (binS BinOp.neq 3 (Operand.tmp 75) (Operand.const (Value.int IntKind.i64 1)) t75 (Value.int IntKind.i64 1)) w fun t76 w =>
  pickP t68 (Value.bool true) t76 fun t77 =>
  pickP t60 t77 (Value.bool false) fun t78 =>
  m3_18 R K1 K2 l1 c5 i6 m7 have8 want9 p10 t78 w))
  (pickP t60 undef (Value.bool false) fun t78 =>
  m3_18 R K1 K2 l1 c5 i6 m7 have8 want9 p10 t78 w)
def m3_20 (R : VP) (K1 : VP) (K2 : VP) (l1 c5 i6 m7 have8 want9 p10 t57 : Value) (w : World) : Prop :=
  condP t57
  (m3_21 R K1 K2 (Value.bool false) w)
  (m3_17 R K1 K2 l1 c5 i6 m7 have8 want9 p10 w)
def m3_15 (R : VP) (K1 : VP) (K2 : VP) (l1 c5 i6 m7 have8 want9 p10 : Value) (w : World) : Prop :=
  builtinQ Try.prog Builtin.len #[28] 3 #[false] #[m7] w fun t44 =>
  valQ Try.prog (binS BinOp.eql 3 (Operand.tmp 44) (Operand.const (Value.int IntKind.i64 0)) t44 (Value.int IntKind.i64 0)) w fun t45 =>
  condP t45
  (valQ Try.prog (Instr.indexAt 28 have8 p10) w fun t49 =>
  valQ Try.prog (Instr.loadAt 3 t49) w fun t50 =>
  valQ Try.prog (Instr.indexAt 28 want9 p10) w fun t53 =>
  valQ Try.prog (Instr.loadAt 3 t53) w fun t54 =>
  valQ Try.prog (binS BinOp.add 3 (Operand.tmp 50) (Operand.tmp 54) t50 t54) w fun t55 =>
  valQ Try.prog (binS BinOp.neq 3 (Operand.tmp 55) (Operand.const (Value.int IntKind.i64 0)) t55 (Value.int IntKind.i64 0)) w fun t56 =>
  pickP t45 t56 (Value.bool false) fun t57 =>
  anyDraw w fun w =>
  m3_20 R K1 K2 l1 c5 i6 m7 have8 want9 p10 t57 w)
  (pickP t45 undef (Value.bool false) fun t57 =>
  anyDraw w fun w =>
  m3_20 R K1 K2 l1 c5 i6 m7 have8 want9 p10 t57 w)
def m3_10 (R : VP) (K1 : VP) (l1 c5 i6 : Value) (w : World) : Prop :=
  valP Try.prog (binS BinOp.add 3 (Operand.tmp 21) (Operand.const (Value.int IntKind.i64 1)) i6 (Value.int IntKind.i64 1)) w fun t22 w =>
  K1 t22 w
def m3_22 (R : VP) (K1 : VP) (K2 : VP) (l1 c5 i6 m7 have8 want9 p10 t40 : Value) (w : World) : Prop :=
  condP t40
  (m3_15 R K1 K2 l1 c5 i6 m7 have8 want9 p10 w)
  (m3_10 R K1 l1 c5 i6 w)
def m3_14 (R : VP) (K1 : VP) (K2 : VP) (l1 c5 i6 m7 have8 want9 p10 : Value) (w : World) : Prop :=
  builtinP Try.prog Builtin.len #[28] 3 #[false] #[have8] w fun t39 w =>
  valP Try.prog (binS BinOp.lss 3 (Operand.tmp 37) (Operand.tmp 39) p10 t39) w fun t40 w =>
  m3_22 R K1 K2 l1 c5 i6 m7 have8 want9 p10 t40 w
def m3_13 (R : VP) (K1 : VP) (l1 c5 i6 m7 have8 want9 p10 : Value) (w : World) : Prop :=
  loopP (fun (K2 : VP) (s : Value) w => m3_14 R K1 K2 l1 c5 i6 m7 have8 want9 s w) p10 w
def m3_12 (R : VP) (K1 : VP) (l1 c5 i6 m7 have8 want9 : Value) (w : World) : Prop :=
  m3_13 R K1 l1 c5 i6 m7 have8 want9 (Value.int IntKind.i64 0) w
def m3_11 (R : VP) (K1 : VP) (l1 c5 i6 : Value) (w : World) : Prop :=
  callP Try.prog (fnV 18) #[c5] w fun t32 w =>
  callP Try.prog (fnV 19) #[c5] w fun t34 w =>
  callP Try.prog (fnV 20) #[c5] w fun t36 w =>
  m3_12 R K1 l1 c5 i6 t32 t34 t36 w
def m3_9 (R : VP) (K1 : VP) (l1 c5 i6 : Value) (w : World) : Prop :=
  valP Try.prog (Instr.indexAt 22 l1 i6) w fun t26 w =>
  valP Try.prog (Instr.loadAt 30 t26) w fun t27 w =>
  callP Try.prog (fnV 17) #[t27, c5] w fun t29 w =>
  callP Try.prog (fnV 16) #[c5, t29] w fun t30 w =>
  m3_11 R K1 l1 c5 i6 w
def m3_6 (R : VP) (t4 : Value) (w : World) : Prop :=
  R t4 w
def m3_5 (R : VP) (w : World) : Prop :=
  callP Try.prog (fnV 22) #[] w fun t79 w =>
  m3_6 R t79 w
def m3_23 (R : VP) (K1 : VP) (l1 c5 i6 t20 : Value) (w : World) : Prop :=
  condP t20
  (m3_9 R K1 l1 c5 i6 w)
  (m3_5 R w)
def m3_8 (R : VP) (K1 : VP) (l1 c5 i6 : Value) (w : World) : Prop :=
  builtinP Try.prog Builtin.len #[22] 3 #[false] #[l1] w fun t19 w =>
  valP Try.prog (binS BinOp.lss 3 (Operand.tmp 17) (Operand.tmp 19) i6 t19) w fun t20 w =>
  m3_23 R K1 l1 c5 i6 t20 w
def m3_7 (R : VP) (l1 c5 i6 : Value) (w : World) : Prop :=
  loopP (fun (K1 : VP) (s : Value) w => m3_8 R K1 l1 c5 s w) i6 w
def m3_4 (R : VP) (l1 c5 : Value) (w : World) : Prop :=
  m3_7 R l1 c5 (Value.int IntKind.i64 0) w
def m3_3 (R : VP) (l1 c5 : Value) (w : World) : Prop :=
  callP Try.prog (fnV 15) #[l1] w fun t16 w =>
  m3_4 R t16 c5 w
def m3_24 (R : VP) (l1 c5 t14 : Value) (w : World) : Prop :=
  condP t14
  (m3_25 R (Value.bool false) w)
  (m3_3 R l1 c5 w)
def m3_2 (R : VP) (l1 c5 : Value) (w : World) : Prop :=
  valP Try.prog (binS BinOp.eql 23 (Operand.tmp 13) (Operand.const (Value.pointer none)) c5 (Value.pointer none)) w fun t14 w =>
  m3_24 R l1 c5 t14 w
def m3_1 (R : VP) (parts0 l1 : Value) (w : World) : Prop :=
  callP Try.prog (fnV 14) #[parts0] w fun t12 w =>
  m3_2 R l1 t12 w
def m3_0 (R : VP) (parts0 l1 : Value) (w : World) : Prop :=
  m3_1 R parts0 l1 w
abbrev W3 := cwp Try.prog (fun i => cond (Nat.beq i 13) 1 (0))
noncomputable def k3_0 : Code := (bodyOf Try.f3)
noncomputable def k3_1 : Code := (c2 k3_0)
noncomputable def k3_2 : Code := (c2 k3_1)
noncomputable def k3_3 : Code := (c2 k3_2)
noncomputable def k3_4 : Code := (c2 k3_3)
noncomputable def k3_5 : Code := (c2 k3_4)
noncomputable def k3_6 : Code := (c2 k3_5)
noncomputable def k3_7 : Code := (c2 (c1 k3_4))
noncomputable def k3_8 : Code := (c1 (c1 k3_7))
noncomputable def k3_9 : Code := (c2 k3_8)
noncomputable def k3_10 : Code := (c2 k3_9)
noncomputable def k3_11 : Code := (c2 (c1 (c1 k3_9)))
noncomputable def k3_12 : Code := (c2 k3_11)
noncomputable def k3_13 : Code := (c2 k3_12)
noncomputable def k3_14 : Code := (c1 (c1 k3_13))
noncomputable def k3_15 : Code := (c2 k3_14)
noncomputable def k3_16 : Code := (c2 k3_15)
noncomputable def k3_17 : Code := (c2 (c1 (c1 k3_15)))
noncomputable def k3_18 : Code := (c2 k3_17)
noncomputable def k3_19 : Code := (c2 (c1 k3_18))
noncomputable def k3_20 : Code := (c2 (c1 (c1 (c1 k3_15))))
noncomputable def k3_21 : Code := (c2 (c1 k3_20))
noncomputable def k3_22 : Code := (c2 (c1 k3_14))
noncomputable def k3_23 : Code := (c2 (c1 k3_8))
noncomputable def k3_24 : Code := (c2 (c1 k3_2))
noncomputable def k3_25 : Code := (c2 (c1 k3_24))
theorem s3_25 {R : VP} {Q : EQ} (hR : ∀ e w, (R (e 4) w) → Q .ret e w) (e : Env) (w : World) (h : m3_25 R (e 4) w) : W3 k3_25 Q e w := by
  unfold m3_25 at h
  exact reA (hR _ _ h)
theorem s3_21 {R : VP} {K1 : VP} {K2 : VP} {Q : EQ} (hR : ∀ e w, (R (e 4) w) → Q .ret e w) (e : Env) (w : World) (h : m3_21 R K1 K2 (e 4) w) : W3 k3_21 Q e w := by
  unfold m3_21 at h
  exact reA (hR _ _ h)
theorem s3_19 {R : VP} {K1 : VP} {K2 : VP} {Q : EQ} (hR : ∀ e w, (R (e 4) w) → Q .ret e w) (e : Env) (w : World) (h : m3_19 R K1 K2 (e 4) w) : W3 k3_19 Q e w := by
  unfold m3_19 at h
  exact reA (hR _ _ h)
theorem s3_16 {R : VP} {K1 : VP} {K2 : VP} {Q : EQ} (hN : ∀ e w, (K2 (e 10) w) → Q .normal e w) (e : Env) (w : World) (h : m3_16 R K1 K2 (e 1) (e 5) (e 6) (e 7) (e 8) (e 9) (e 10) w) : W3 k3_16 Q e w := by
  unfold m3_16 at h
  exact rgA 12 (fun e w => K2 (e 10) w) h hN
theorem s3_18 {R : VP} {K1 : VP} {K2 : VP} {Q : EQ} (hN : ∀ e w, (m3_16 R K1 K2 (e 1) (e 5) (e 6) (e 7) (e 8) (e 9) (e 10) w) → Q .normal e w) (hR : ∀ e w, (R (e 4) w) → Q .ret e w) (e : Env) (w : World) (h : m3_18 R K1 K2 (e 1) (e 5) (e 6) (e 7) (e 8) (e 9) (e 10) (e 78) w) : W3 k3_18 Q e w := by
  unfold m3_18 at h
  refine coA (Operand.tmp 78) h (fun h1 => ?_) (fun h1 => ?_)
  · refine seA ?_
    have hN : ∀ e w, (m3_19 R K1 K2 (e 4) w) → (thenE (W3 k3_19 Q) Q) .normal e w := fun e w h => then_N (s3_19 (R := R) (Q := Q) (K1 := K1) (K2 := K2) hR e w h)
    exact rgA 16 (fun e w => m3_19 R K1 K2 (e 4) w) h1 hN
  · exact skA (hN _ _ h1)
theorem s3_17 {R : VP} {K1 : VP} {K2 : VP} {Q : EQ} (hN : ∀ e w, (m3_16 R K1 K2 (e 1) (e 5) (e 6) (e 7) (e 8) (e 9) (e 10) w) → Q .normal e w) (hR : ∀ e w, (R (e 4) w) → Q .ret e w) (e : Env) (w : World) (h : m3_17 R K1 K2 (e 1) (e 5) (e 6) (e 7) (e 8) (e 9) (e 10) w) : W3 k3_17 Q e w := by
  unfold m3_17 at h
  refine seA ?_
  have hN : ∀ e w, (m3_18 R K1 K2 (e 1) (e 5) (e 6) (e 7) (e 8) (e 9) (e 10) (e 78) w) → (thenE (W3 k3_18 Q) Q) .normal e w := fun e w h => then_N (s3_18 (R := R) (Q := Q) (K1 := K1) (K2 := K2) hN hR e w h)
  exact rgA 15 (fun e w => m3_18 R K1 K2 (e 1) (e 5) (e 6) (e 7) (e 8) (e 9) (e 10) (e 78) w) h hN
theorem s3_20 {R : VP} {K1 : VP} {K2 : VP} {Q : EQ} (hN : ∀ e w, (m3_17 R K1 K2 (e 1) (e 5) (e 6) (e 7) (e 8) (e 9) (e 10) w) → Q .normal e w) (hR : ∀ e w, (R (e 4) w) → Q .ret e w) (e : Env) (w : World) (h : m3_20 R K1 K2 (e 1) (e 5) (e 6) (e 7) (e 8) (e 9) (e 10) (e 57) w) : W3 k3_20 Q e w := by
  unfold m3_20 at h
  refine coA (Operand.tmp 57) h (fun h1 => ?_) (fun h1 => ?_)
  · refine seA ?_
    have hN : ∀ e w, (m3_21 R K1 K2 (e 4) w) → (thenE (W3 k3_21 Q) Q) .normal e w := fun e w h => then_N (s3_21 (R := R) (Q := Q) (K1 := K1) (K2 := K2) hR e w h)
    exact rgA 14 (fun e w => m3_21 R K1 K2 (e 4) w) h1 hN
  · exact skA (hN _ _ h1)
theorem s3_15 {R : VP} {K1 : VP} {K2 : VP} {Q : EQ} (hN : ∀ e w, (K2 (e 10) w) → Q .normal e w) (hR : ∀ e w, (R (e 4) w) → Q .ret e w) (e : Env) (w : World) (h : m3_15 R K1 K2 (e 1) (e 5) (e 6) (e 7) (e 8) (e 9) (e 10) w) : W3 k3_15 Q e w := by
  unfold m3_15 at h
  refine seA ?_
  have hN : ∀ e w, (m3_16 R K1 K2 (e 1) (e 5) (e 6) (e 7) (e 8) (e 9) (e 10) w) → (thenE (W3 k3_16 Q) Q) .normal e w := fun e w h => then_N (s3_16 (R := R) (Q := Q) (K1 := K1) (K2 := K2) hN e w h)
  have hR : ∀ e w, (R (e 4) w) → (thenE (W3 k3_16 Q) Q) .ret e w := fun e w h => then_R (hR e w h)
  refine block_ok 3 (by kernel_rfl) ?_
  have hN : ∀ e w, (m3_16 R K1 K2 (e 1) (e 5) (e 6) (e 7) (e 8) (e 9) (e 10) w) → (inBlockE 3 (thenE (W3 k3_16 Q) Q)) .normal e w := fun e w h => block_N (hN e w h)
  have hR : ∀ e w, (R (e 4) w) → (inBlockE 3 (thenE (W3 k3_16 Q) Q)) .ret e w := fun e w h => block_R (hR e w h)
  refine seA ?_
  have hN : ∀ e w, (m3_17 R K1 K2 (e 1) (e 5) (e 6) (e 7) (e 8) (e 9) (e 10) w) → (thenE (W3 k3_17 (inBlockE 3 (thenE (W3 k3_16 Q) Q))) (inBlockE 3 (thenE (W3 k3_16 Q) Q))) .normal e w := fun e w h => then_N (s3_17 (R := R) (Q := (inBlockE 3 (thenE (W3 k3_16 Q) Q))) (K1 := K1) (K2 := K2) hN hR e w h)
  have hR : ∀ e w, (R (e 4) w) → (thenE (W3 k3_17 (inBlockE 3 (thenE (W3 k3_16 Q) Q))) (inBlockE 3 (thenE (W3 k3_16 Q) Q))) .ret e w := fun e w h => then_R (hR e w h)
  refine seA ?_
  have hN : ∀ e w, (m3_20 R K1 K2 (e 1) (e 5) (e 6) (e 7) (e 8) (e 9) (e 10) (e 57) w) → (thenE (W3 k3_20 (thenE (W3 k3_17 (inBlockE 3 (thenE (W3 k3_16 Q) Q))) (inBlockE 3 (thenE (W3 k3_16 Q) Q)))) (thenE (W3 k3_17 (inBlockE 3 (thenE (W3 k3_16 Q) Q))) (inBlockE 3 (thenE (W3 k3_16 Q) Q)))) .normal e w := fun e w h => then_N (s3_20 (R := R) (Q := (thenE (W3 k3_17 (inBlockE 3 (thenE (W3 k3_16 Q) Q))) (inBlockE 3 (thenE (W3 k3_16 Q) Q)))) (K1 := K1) (K2 := K2) hN hR e w h)
  exact quA 13 (fun e w => m3_20 R K1 K2 (e 1) (e 5) (e 6) (e 7) (e 8) (e 9) (e 10) (e 57) w) h hN
theorem s3_10 {R : VP} {K1 : VP} {Q : EQ} (hN : ∀ e w, (K1 (e 6) w) → Q .normal e w) (e : Env) (w : World) (h : m3_10 R K1 (e 1) (e 5) (e 6) w) : W3 k3_10 Q e w := by
  unfold m3_10 at h
  exact rgA 7 (fun e w => K1 (e 6) w) h hN
theorem s3_22 {R : VP} {K1 : VP} {K2 : VP} {Q : EQ} (hN : ∀ e w, (m3_15 R K1 K2 (e 1) (e 5) (e 6) (e 7) (e 8) (e 9) (e 10) w) → Q .normal e w) (hX2 : ∀ e w, (m3_10 R K1 (e 1) (e 5) (e 6) w) → Q (.exit 2) e w) (e : Env) (w : World) (h : m3_22 R K1 K2 (e 1) (e 5) (e 6) (e 7) (e 8) (e 9) (e 10) (e 40) w) : W3 k3_22 Q e w := by
  unfold m3_22 at h
  refine coA (Operand.tmp 40) h (fun h1 => ?_) (fun h1 => ?_)
  · exact skA (hN _ _ h1)
  · exact exA 2 (hX2 _ _ h1)
theorem s3_14 {R : VP} {K1 : VP} {K2 : VP} {Q : EQ} (hN : ∀ e w, (K2 (e 10) w) → Q .normal e w) (hR : ∀ e w, (R (e 4) w) → Q .ret e w) (hX2 : ∀ e w, (m3_10 R K1 (e 1) (e 5) (e 6) w) → Q (.exit 2) e w) (e : Env) (w : World) (h : m3_14 R K1 K2 (e 1) (e 5) (e 6) (e 7) (e 8) (e 9) (e 10) w) : W3 k3_14 Q e w := by
  unfold m3_14 at h
  refine seA ?_
  have hN : ∀ e w, (m3_15 R K1 K2 (e 1) (e 5) (e 6) (e 7) (e 8) (e 9) (e 10) w) → (thenE (W3 k3_15 Q) Q) .normal e w := fun e w h => then_N (s3_15 (R := R) (Q := Q) (K1 := K1) (K2 := K2) hN hR e w h)
  have hX2 : ∀ e w, (m3_10 R K1 (e 1) (e 5) (e 6) w) → (thenE (W3 k3_15 Q) Q) (.exit 2) e w := fun e w h => then_X (hX2 e w h)
  refine seA ?_
  have hN : ∀ e w, (m3_22 R K1 K2 (e 1) (e 5) (e 6) (e 7) (e 8) (e 9) (e 10) (e 40) w) → (thenE (W3 k3_22 (thenE (W3 k3_15 Q) Q)) (thenE (W3 k3_15 Q) Q)) .normal e w := fun e w h => then_N (s3_22 (R := R) (Q := (thenE (W3 k3_15 Q) Q)) (K1 := K1) (K2 := K2) hN hX2 e w h)
  exact rgA 11 (fun e w => m3_22 R K1 K2 (e 1) (e 5) (e 6) (e 7) (e 8) (e 9) (e 10) (e 40) w) h hN
theorem s3_13 {R : VP} {K1 : VP} {Q : EQ} (hN : ∀ e w, (m3_10 R K1 (e 1) (e 5) (e 6) w) → Q .normal e w) (hR : ∀ e w, (R (e 4) w) → Q .ret e w) (e : Env) (w : World) (h : m3_13 R K1 (e 1) (e 5) (e 6) (e 7) (e 8) (e 9) (e 10) w) : W3 k3_13 Q e w := by
  unfold m3_13 at h
  refine block_ok 2 (by kernel_rfl) ?_
  have hX2 : ∀ e w, (m3_10 R K1 (e 1) (e 5) (e 6) w) → (inBlockE 2 Q) (.exit 2) e w := fun e w h => inBlock_same (Q := Q) 2 (hN e w h)
  have hR : ∀ e w, (R (e 4) w) → (inBlockE 2 Q) .ret e w := fun e w h => block_R (hR e w h)
  refine loop_ok' (fun (e : Env) => e 10) [1, 5, 6, 7, 8, 9] (by kernel_rfl) (by kernel_rfl) h (fun K e' w' hk h' => ?_)
  have r1 : e' 1 = e 1 := hk 1 (by decide)
  have r5 : e' 5 = e 5 := hk 5 (by decide)
  have r6 : e' 6 = e 6 := hk 6 (by decide)
  have r7 : e' 7 = e 7 := hk 7 (by decide)
  have r8 : e' 8 = e 8 := hk 8 (by decide)
  have r9 : e' 9 = e 9 := hk 9 (by decide)
  have hR : ∀ e w, (R (e 4) w) → (thenE (fun (e : Env) w => K (e 10) w) (inBlockE 2 Q)) .ret e w := fun e w h => then_R (hR e w h)
  have hX2 : ∀ e w, (m3_10 R K1 (e 1) (e 5) (e 6) w) → (thenE (fun (e : Env) w => K (e 10) w) (inBlockE 2 Q)) (.exit 2) e w := fun e w h => then_X (hX2 e w h)
  exact s3_14 (R := R) (Q := (thenE (fun (e : Env) w => K (e 10) w) (inBlockE 2 Q))) (K1 := K1) (K2 := K) (fun _ _ h => then_N h) hR hX2 e' w' (by rw [r1, r5, r6, r7, r8, r9]; exact h')
theorem s3_12 {R : VP} {K1 : VP} {Q : EQ} (hN : ∀ e w, (m3_10 R K1 (e 1) (e 5) (e 6) w) → Q .normal e w) (hR : ∀ e w, (R (e 4) w) → Q .ret e w) (e : Env) (w : World) (h : m3_12 R K1 (e 1) (e 5) (e 6) (e 7) (e 8) (e 9) w) : W3 k3_12 Q e w := by
  unfold m3_12 at h
  refine seA ?_
  have hN : ∀ e w, (m3_13 R K1 (e 1) (e 5) (e 6) (e 7) (e 8) (e 9) (e 10) w) → (thenE (W3 k3_13 Q) Q) .normal e w := fun e w h => then_N (s3_13 (R := R) (Q := Q) (K1 := K1) hN hR e w h)
  exact rgA 10 (fun e w => m3_13 R K1 (e 1) (e 5) (e 6) (e 7) (e 8) (e 9) (e 10) w) h hN
theorem s3_11 {R : VP} {K1 : VP} {Q : EQ} (hN : ∀ e w, (m3_10 R K1 (e 1) (e 5) (e 6) w) → Q .normal e w) (hR : ∀ e w, (R (e 4) w) → Q .ret e w) (e : Env) (w : World) (h : m3_11 R K1 (e 1) (e 5) (e 6) w) : W3 k3_11 Q e w := by
  unfold m3_11 at h
  refine seA ?_
  have hN : ∀ e w, (m3_12 R K1 (e 1) (e 5) (e 6) (e 7) (e 8) (e 9) w) → (thenE (W3 k3_12 Q) Q) .normal e w := fun e w h => then_N (s3_12 (R := R) (Q := Q) (K1 := K1) hN hR e w h)
  exact rgA 9 (fun e w => m3_12 R K1 (e 1) (e 5) (e 6) (e 7) (e 8) (e 9) w) h hN
theorem s3_9 {R : VP} {K1 : VP} {Q : EQ} (hN : ∀ e w, (K1 (e 6) w) → Q .normal e w) (hR : ∀ e w, (R (e 4) w) → Q .ret e w) (e : Env) (w : World) (h : m3_9 R K1 (e 1) (e 5) (e 6) w) : W3 k3_9 Q e w := by
  unfold m3_9 at h
  refine seA ?_
  have hN : ∀ e w, (m3_10 R K1 (e 1) (e 5) (e 6) w) → (thenE (W3 k3_10 Q) Q) .normal e w := fun e w h => then_N (s3_10 (R := R) (Q := Q) (K1 := K1) hN e w h)
  have hR : ∀ e w, (R (e 4) w) → (thenE (W3 k3_10 Q) Q) .ret e w := fun e w h => then_R (hR e w h)
  refine block_ok 1 (by kernel_rfl) ?_
  have hN : ∀ e w, (m3_10 R K1 (e 1) (e 5) (e 6) w) → (inBlockE 1 (thenE (W3 k3_10 Q) Q)) .normal e w := fun e w h => block_N (hN e w h)
  have hR : ∀ e w, (R (e 4) w) → (inBlockE 1 (thenE (W3 k3_10 Q) Q)) .ret e w := fun e w h => block_R (hR e w h)
  refine seA ?_
  have hN : ∀ e w, (m3_11 R K1 (e 1) (e 5) (e 6) w) → (thenE (W3 k3_11 (inBlockE 1 (thenE (W3 k3_10 Q) Q))) (inBlockE 1 (thenE (W3 k3_10 Q) Q))) .normal e w := fun e w h => then_N (s3_11 (R := R) (Q := (inBlockE 1 (thenE (W3 k3_10 Q) Q))) (K1 := K1) hN hR e w h)
  exact rgA 8 (fun e w => m3_11 R K1 (e 1) (e 5) (e 6) w) h hN
theorem s3_6 {R : VP} {Q : EQ} (hR : ∀ e w, (R (e 4) w) → Q .ret e w) (e : Env) (w : World) (h : m3_6 R (e 4) w) : W3 k3_6 Q e w := by
  unfold m3_6 at h
  exact reA (hR _ _ h)
theorem s3_5 {R : VP} {Q : EQ} (hR : ∀ e w, (R (e 4) w) → Q .ret e w) (e : Env) (w : World) (h : m3_5 R w) : W3 k3_5 Q e w := by
  unfold m3_5 at h
  refine seA ?_
  have hN : ∀ e w, (m3_6 R (e 4) w) → (thenE (W3 k3_6 Q) Q) .normal e w := fun e w h => then_N (s3_6 (R := R) (Q := Q) hR e w h)
  exact rgA 17 (fun e w => m3_6 R (e 4) w) h hN
theorem s3_23 {R : VP} {K1 : VP} {Q : EQ} (hN : ∀ e w, (m3_9 R K1 (e 1) (e 5) (e 6) w) → Q .normal e w) (hX0 : ∀ e w, (m3_5 R w) → Q (.exit 0) e w) (e : Env) (w : World) (h : m3_23 R K1 (e 1) (e 5) (e 6) (e 20) w) : W3 k3_23 Q e w := by
  unfold m3_23 at h
  refine coA (Operand.tmp 20) h (fun h1 => ?_) (fun h1 => ?_)
  · exact skA (hN _ _ h1)
  · exact exA 0 (hX0 _ _ h1)
theorem s3_8 {R : VP} {K1 : VP} {Q : EQ} (hN : ∀ e w, (K1 (e 6) w) → Q .normal e w) (hR : ∀ e w, (R (e 4) w) → Q .ret e w) (hX0 : ∀ e w, (m3_5 R w) → Q (.exit 0) e w) (e : Env) (w : World) (h : m3_8 R K1 (e 1) (e 5) (e 6) w) : W3 k3_8 Q e w := by
  unfold m3_8 at h
  refine seA ?_
  have hN : ∀ e w, (m3_9 R K1 (e 1) (e 5) (e 6) w) → (thenE (W3 k3_9 Q) Q) .normal e w := fun e w h => then_N (s3_9 (R := R) (Q := Q) (K1 := K1) hN hR e w h)
  have hX0 : ∀ e w, (m3_5 R w) → (thenE (W3 k3_9 Q) Q) (.exit 0) e w := fun e w h => then_X (hX0 e w h)
  refine seA ?_
  have hN : ∀ e w, (m3_23 R K1 (e 1) (e 5) (e 6) (e 20) w) → (thenE (W3 k3_23 (thenE (W3 k3_9 Q) Q)) (thenE (W3 k3_9 Q) Q)) .normal e w := fun e w h => then_N (s3_23 (R := R) (Q := (thenE (W3 k3_9 Q) Q)) (K1 := K1) hN hX0 e w h)
  exact rgA 6 (fun e w => m3_23 R K1 (e 1) (e 5) (e 6) (e 20) w) h hN
theorem s3_7 {R : VP} {Q : EQ} (hN : ∀ e w, (m3_5 R w) → Q .normal e w) (hR : ∀ e w, (R (e 4) w) → Q .ret e w) (e : Env) (w : World) (h : m3_7 R (e 1) (e 5) (e 6) w) : W3 k3_7 Q e w := by
  unfold m3_7 at h
  refine block_ok 0 (by kernel_rfl) ?_
  have hX0 : ∀ e w, (m3_5 R w) → (inBlockE 0 Q) (.exit 0) e w := fun e w h => inBlock_same (Q := Q) 0 (hN e w h)
  have hR : ∀ e w, (R (e 4) w) → (inBlockE 0 Q) .ret e w := fun e w h => block_R (hR e w h)
  refine loop_ok' (fun (e : Env) => e 6) [1, 5] (by kernel_rfl) (by kernel_rfl) h (fun K e' w' hk h' => ?_)
  have r1 : e' 1 = e 1 := hk 1 (by decide)
  have r5 : e' 5 = e 5 := hk 5 (by decide)
  have hR : ∀ e w, (R (e 4) w) → (thenE (fun (e : Env) w => K (e 6) w) (inBlockE 0 Q)) .ret e w := fun e w h => then_R (hR e w h)
  have hX0 : ∀ e w, (m3_5 R w) → (thenE (fun (e : Env) w => K (e 6) w) (inBlockE 0 Q)) (.exit 0) e w := fun e w h => then_X (hX0 e w h)
  exact s3_8 (R := R) (Q := (thenE (fun (e : Env) w => K (e 6) w) (inBlockE 0 Q))) (K1 := K) (fun _ _ h => then_N h) hR hX0 e' w' (by rw [r1, r5]; exact h')
theorem s3_4 {R : VP} {Q : EQ} (hR : ∀ e w, (R (e 4) w) → Q .ret e w) (e : Env) (w : World) (h : m3_4 R (e 1) (e 5) w) : W3 k3_4 Q e w := by
  unfold m3_4 at h
  refine seA ?_
  have hN : ∀ e w, (m3_5 R w) → (thenE (W3 k3_5 Q) Q) .normal e w := fun e w h => then_N (s3_5 (R := R) (Q := Q) hR e w h)
  have hR : ∀ e w, (R (e 4) w) → (thenE (W3 k3_5 Q) Q) .ret e w := fun e w h => then_R (hR e w h)
  refine seA ?_
  have hN : ∀ e w, (m3_7 R (e 1) (e 5) (e 6) w) → (thenE (W3 k3_7 (thenE (W3 k3_5 Q) Q)) (thenE (W3 k3_5 Q) Q)) .normal e w := fun e w h => then_N (s3_7 (R := R) (Q := (thenE (W3 k3_5 Q) Q)) hN hR e w h)
  exact rgA 5 (fun e w => m3_7 R (e 1) (e 5) (e 6) w) h hN
theorem s3_3 {R : VP} {Q : EQ} (hR : ∀ e w, (R (e 4) w) → Q .ret e w) (e : Env) (w : World) (h : m3_3 R (e 1) (e 5) w) : W3 k3_3 Q e w := by
  unfold m3_3 at h
  refine seA ?_
  have hN : ∀ e w, (m3_4 R (e 1) (e 5) w) → (thenE (W3 k3_4 Q) Q) .normal e w := fun e w h => then_N (s3_4 (R := R) (Q := Q) hR e w h)
  exact rgA 4 (fun e w => m3_4 R (e 1) (e 5) w) h hN
theorem s3_24 {R : VP} {Q : EQ} (hN : ∀ e w, (m3_3 R (e 1) (e 5) w) → Q .normal e w) (hR : ∀ e w, (R (e 4) w) → Q .ret e w) (e : Env) (w : World) (h : m3_24 R (e 1) (e 5) (e 14) w) : W3 k3_24 Q e w := by
  unfold m3_24 at h
  refine coA (Operand.tmp 14) h (fun h1 => ?_) (fun h1 => ?_)
  · refine seA ?_
    have hN : ∀ e w, (m3_25 R (e 4) w) → (thenE (W3 k3_25 Q) Q) .normal e w := fun e w h => then_N (s3_25 (R := R) (Q := Q) hR e w h)
    exact rgA 3 (fun e w => m3_25 R (e 4) w) h1 hN
  · exact skA (hN _ _ h1)
theorem s3_2 {R : VP} {Q : EQ} (hR : ∀ e w, (R (e 4) w) → Q .ret e w) (e : Env) (w : World) (h : m3_2 R (e 1) (e 5) w) : W3 k3_2 Q e w := by
  unfold m3_2 at h
  refine seA ?_
  have hN : ∀ e w, (m3_3 R (e 1) (e 5) w) → (thenE (W3 k3_3 Q) Q) .normal e w := fun e w h => then_N (s3_3 (R := R) (Q := Q) hR e w h)
  have hR : ∀ e w, (R (e 4) w) → (thenE (W3 k3_3 Q) Q) .ret e w := fun e w h => then_R (hR e w h)
  refine seA ?_
  have hN : ∀ e w, (m3_24 R (e 1) (e 5) (e 14) w) → (thenE (W3 k3_24 (thenE (W3 k3_3 Q) Q)) (thenE (W3 k3_3 Q) Q)) .normal e w := fun e w h => then_N (s3_24 (R := R) (Q := (thenE (W3 k3_3 Q) Q)) hN hR e w h)
  exact rgA 2 (fun e w => m3_24 R (e 1) (e 5) (e 14) w) h hN
theorem s3_1 {R : VP} {Q : EQ} (hR : ∀ e w, (R (e 4) w) → Q .ret e w) (e : Env) (w : World) (h : m3_1 R (e 0) (e 1) w) : W3 k3_1 Q e w := by
  unfold m3_1 at h
  refine seA ?_
  have hN : ∀ e w, (m3_2 R (e 1) (e 5) w) → (thenE (W3 k3_2 Q) Q) .normal e w := fun e w h => then_N (s3_2 (R := R) (Q := Q) hR e w h)
  exact rgA 1 (fun e w => m3_2 R (e 1) (e 5) w) h hN
theorem s3_0 {R : VP} {Q : EQ} (hR : ∀ e w, (R (e 4) w) → Q .ret e w) (e : Env) (w : World) (h : m3_0 R (e 0) (e 1) w) : W3 k3_0 Q e w := by
  unfold m3_0 at h
  refine seA ?_
  have hN : ∀ e w, (m3_1 R (e 0) (e 1) w) → (thenE (W3 k3_1 Q) Q) .normal e w := fun e w h => then_N (s3_1 (R := R) (Q := Q) hR e w h)
  exact rgA 0 (fun e w => m3_1 R (e 0) (e 1) w) h hN
abbrev m3 (R : VP) (parts0 l1 : Value) (w : World) : Prop := m3_0 R parts0 l1 w
theorem s3 (parts0 l1 : Value) {R : VP} {w : World} (h : m3 R parts0 l1 w) :
    Calls Try.prog 3 #[parts0, l1] w fun e w' => ∃ v, e = .returned v ∧ R v w' :=
  calls_of_cwp (st := (fun i => cond (Nat.beq i 13) 1 (0))) (c := k3_0) (by kernel_rfl) Try.func3 (by kernel_rfl) (Nat.le_of_ble_eq_true (by kernel_rfl)) (by kernel_rfl)
    (s3_0 (R := R) (Q := endE Try.prog Try.f3 R) (fun e w h => kcast (by kernel_rfl) h) (argsE #[parts0, l1]) w (kcast (by kernel_rfl) h))
end Go.Proofs.Ytjjmlopmemmobaa.M
