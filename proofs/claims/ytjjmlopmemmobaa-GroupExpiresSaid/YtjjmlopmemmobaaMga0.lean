/- What functions' texts ask of their ends, told over values that have names; printed by a program of this work. -/
import Derived.Test.YtjjmlopmemmobaaFw
import Derived.Test.YtjjmlopmemmobaaProg
namespace Go.Proofs.Ytjjmlopmemmobaa.M
open Go.Proofs.Ytjjmlopmemmobaa.F
set_option linter.unusedVariables false
set_option maxRecDepth 100000
/-! ### headgate/headgatelaw10.GroupExpires -/
def m8_36 (R : VP) (t6 : Value) (w : World) : Prop :=
  R t6 w
def m8_33 (R : VP) (K1 : VP) (l1 silent2 g7 i9 : Value) (w : World) : Prop :=
  valP Try.prog (binS BinOp.add 3 (Operand.tmp 33) (Operand.const (Value.int IntKind.i64 1)) i9 (Value.int IntKind.i64 1)) w fun t34 w =>
  K1 t34 w
def m8_32 (R : VP) (K1 : VP) (l1 silent2 g7 i9 : Value) (w : World) : Prop :=
  valP Try.prog (Instr.indexAt 58 l1 i9) w fun t38 w =>
  valP Try.prog (Instr.loadAt 65 t38) w fun t39 w =>
  callP Try.prog (fnV 38) #[g7, t39] w fun t40 w =>
  m8_33 R K1 l1 silent2 g7 i9 w
def m8_29 (R : VP) (t6 : Value) (w : World) : Prop :=
  R t6 w
def m8_24 (R : VP) (K1 : VP) (K2 : VP) (g7 m10 quiet11 t12 k13 : Value) (w : World) : Prop :=
  valP Try.prog (binS BinOp.add 3 (Operand.tmp 72) (Operand.const (Value.int IntKind.i64 1)) k13 (Value.int IntKind.i64 1)) w fun t73 w =>
  K2 t73 w
def m8_25 (R : VP) (K1 : VP) (K2 : VP) (g7 m10 quiet11 t12 k13 t80 : Value) (w : World) : Prop :=
  condP t80
  (valP Try.prog (Instr.indexAt 66 m10 k13) w fun t84 w =>
  valP Try.prog (Instr.fieldAt 69 t84 0) w fun t85 w =>
  valP Try.prog (Instr.loadAt 3 t85) w fun t86 w =>
  callP Try.prog (fnV 41) #[g7, t86] w fun t87 w =>
  m8_24 R K1 K2 g7 m10 quiet11 t12 k13 w)
  (m8_24 R K1 K2 g7 m10 quiet11 t12 k13 w)
def m8_23 (R : VP) (K1 : VP) (K2 : VP) (g7 m10 quiet11 t12 k13 : Value) (w : World) : Prop :=
  valP Try.prog (Instr.indexAt 66 m10 k13) w fun t76 w =>
  valP Try.prog (Instr.fieldAt 69 t76 0) w fun t77 w =>
  valP Try.prog (Instr.loadAt 3 t77) w fun t78 w =>
  valP Try.prog (binS BinOp.neq 3 (Operand.tmp 78) (Operand.tmp 79) t78 quiet11) w fun t80 w =>
  m8_25 R K1 K2 g7 m10 quiet11 t12 k13 t80 w
def m8_20 (R : VP) (K1 : VP) (t6 : Value) (w : World) : Prop :=
  R t6 w
def m8_16 (R : VP) (K1 : VP) (g7 m10 quiet11 t12 : Value) (w : World) : Prop :=
  valP Try.prog (binS BinOp.add 3 (Operand.tmp 66) (Operand.const (Value.int IntKind.i64 1)) t12 (Value.int IntKind.i64 1)) w fun t67 w =>
  K1 t67 w
def m8_19 (R : VP) (K1 : VP) (g7 m10 quiet11 t12 t93 : Value) (w : World) : Prop :=
  condP t93
  (m8_20 R K1 (Value.bool false) w)
  (m8_16 R K1 g7 m10 quiet11 t12 w)
def m8_18 (R : VP) (K1 : VP) (g7 m10 quiet11 t12 gone14 : Value) (w : World) : Prop :=
  valP Try.prog (binS BinOp.eql 3 (Operand.tmp 91) (Operand.const (Value.int IntKind.i64 12)) t12 (Value.int IntKind.i64 12)) w fun t92 w =>
  valP Try.prog (binS BinOp.neq 4 (Operand.tmp 90) (Operand.tmp 92) gone14 t92) w fun t93 w =>
  m8_19 R K1 g7 m10 quiet11 t12 t93 w
def m8_17 (R : VP) (K1 : VP) (g7 m10 quiet11 t12 : Value) (w : World) : Prop :=
  callP Try.prog (fnV 42) #[g7] w fun t89 w =>
  m8_18 R K1 g7 m10 quiet11 t12 t89 w
def m8_26 (R : VP) (K1 : VP) (K2 : VP) (g7 m10 quiet11 t12 k13 t71 : Value) (w : World) : Prop :=
  condP t71
  (m8_23 R K1 K2 g7 m10 quiet11 t12 k13 w)
  (m8_17 R K1 g7 m10 quiet11 t12 w)
def m8_22 (R : VP) (K1 : VP) (K2 : VP) (g7 m10 quiet11 t12 k13 : Value) (w : World) : Prop :=
  builtinP Try.prog Builtin.len #[66] 3 #[false] #[m10] w fun t70 w =>
  valP Try.prog (binS BinOp.lss 3 (Operand.tmp 68) (Operand.tmp 70) k13 t70) w fun t71 w =>
  m8_26 R K1 K2 g7 m10 quiet11 t12 k13 t71 w
def m8_21 (R : VP) (K1 : VP) (g7 m10 quiet11 t12 k13 : Value) (w : World) : Prop :=
  loopP (fun (K2 : VP) (s : Value) w => m8_22 R K1 K2 g7 m10 quiet11 t12 s w) k13 w
def m8_15 (R : VP) (K1 : VP) (g7 m10 quiet11 t12 : Value) (w : World) : Prop :=
  m8_21 R K1 g7 m10 quiet11 t12 (Value.int IntKind.i64 0) w
def m8_12 (R : VP) (t6 : Value) (w : World) : Prop :=
  R t6 w
def m8_11 (R : VP) (m10 quiet11 now15 : Value) (w : World) : Prop :=
  builtinP Try.prog Builtin.len #[28] 3 #[false] #[now15] w fun t98 w =>
  builtinP Try.prog Builtin.len #[66] 3 #[false] #[m10] w fun t100 w =>
  valP Try.prog (binS BinOp.sub 3 (Operand.tmp 100) (Operand.const (Value.int IntKind.i64 1)) t100 (Value.int IntKind.i64 1)) w fun t101 w =>
  valP Try.prog (binS BinOp.eql 3 (Operand.tmp 98) (Operand.tmp 101) t98 t101) w fun t102 w =>
  condP t102
  (callP Try.prog (fnV 21) #[now15, quiet11] w fun t106 w =>
  valP Try.prog (binS BinOp.eql 3 (Operand.tmp 106) (Operand.const (Value.int IntKind.i64 0)) t106 (Value.int IntKind.i64 0)) w fun t107 w =>
  pickP t102 t107 (Value.bool false) fun t108 =>
  condP t108
  (callP Try.prog (fnV 40) #[] w fun t110 w =>
  pickP t108 t110 (Value.bool false) fun t111 =>
  m8_12 R t111 w)
  (pickP t108 undef (Value.bool false) fun t111 =>
  m8_12 R t111 w))
  (pickP t102 undef (Value.bool false) fun t108 =>
  condP t108
  (callP Try.prog (fnV 40) #[] w fun t110 w =>
  pickP t108 t110 (Value.bool false) fun t111 =>
  m8_12 R t111 w)
  (pickP t108 undef (Value.bool false) fun t111 =>
  m8_12 R t111 w))
def m8_10 (R : VP) (g7 m10 quiet11 : Value) (w : World) : Prop :=
  callP Try.prog (fnV 39) #[g7] w fun t95 w =>
  callP Try.prog (fnV 43) #[t95] w fun t96 w =>
  m8_11 R m10 quiet11 t96 w
def m8_27 (R : VP) (K1 : VP) (g7 m10 quiet11 t12 t65 : Value) (w : World) : Prop :=
  condP t65
  (m8_15 R K1 g7 m10 quiet11 t12 w)
  (m8_10 R g7 m10 quiet11 w)
def m8_14 (R : VP) (K1 : VP) (g7 m10 quiet11 t12 : Value) (w : World) : Prop :=
  valP Try.prog (binS BinOp.leq 3 (Operand.tmp 64) (Operand.const (Value.int IntKind.i64 12)) t12 (Value.int IntKind.i64 12)) w fun t65 w =>
  m8_27 R K1 g7 m10 quiet11 t12 t65 w
def m8_13 (R : VP) (g7 m10 quiet11 t12 : Value) (w : World) : Prop :=
  loopP (fun (K1 : VP) (s : Value) w => m8_14 R K1 g7 m10 quiet11 s w) t12 w
def m8_9 (R : VP) (g7 m10 quiet11 : Value) (w : World) : Prop :=
  m8_13 R g7 m10 quiet11 (Value.int IntKind.i64 1) w
def m8_8 (R : VP) (g7 m10 quiet11 : Value) (w : World) : Prop :=
  callP Try.prog (fnV 41) #[g7, quiet11] w fun t63 w =>
  m8_9 R g7 m10 quiet11 w
def m8_7 (R : VP) (silent2 g7 m10 : Value) (w : World) : Prop :=
  builtinP Try.prog Builtin.len #[66] 3 #[false] #[m10] w fun t50 w =>
  valP Try.prog (binS BinOp.rem 3 (Operand.tmp 48) (Operand.tmp 50) silent2 t50) w fun t51 w =>
  builtinP Try.prog Builtin.len #[66] 3 #[false] #[m10] w fun t53 w =>
  valP Try.prog (binS BinOp.add 3 (Operand.tmp 51) (Operand.tmp 53) t51 t53) w fun t54 w =>
  builtinP Try.prog Builtin.len #[66] 3 #[false] #[m10] w fun t56 w =>
  valP Try.prog (binS BinOp.rem 3 (Operand.tmp 54) (Operand.tmp 56) t54 t56) w fun t57 w =>
  valP Try.prog (Instr.indexAt 66 m10 t57) w fun t58 w =>
  valP Try.prog (Instr.fieldAt 69 t58 0) w fun t59 w =>
  valP Try.prog (Instr.loadAt 3 t59) w fun t60 w =>
  m8_8 R g7 m10 t60 w
def m8_28 (R : VP) (silent2 g7 m10 t45 : Value) (w : World) : Prop :=
  condP t45
  (callP Try.prog (fnV 40) #[] w fun t46 w =>
  m8_29 R t46 w)
  (m8_7 R silent2 g7 m10 w)
def m8_6 (R : VP) (silent2 g7 m10 : Value) (w : World) : Prop :=
  builtinP Try.prog Builtin.len #[66] 3 #[false] #[m10] w fun t44 w =>
  valP Try.prog (binS BinOp.eql 3 (Operand.tmp 44) (Operand.const (Value.int IntKind.i64 0)) t44 (Value.int IntKind.i64 0)) w fun t45 w =>
  m8_28 R silent2 g7 m10 t45 w
def m8_5 (R : VP) (silent2 g7 : Value) (w : World) : Prop :=
  callP Try.prog (fnV 39) #[g7] w fun t42 w =>
  m8_6 R silent2 g7 t42 w
def m8_34 (R : VP) (K1 : VP) (l1 silent2 g7 i9 t32 : Value) (w : World) : Prop :=
  condP t32
  (m8_32 R K1 l1 silent2 g7 i9 w)
  (m8_5 R silent2 g7 w)
def m8_31 (R : VP) (K1 : VP) (l1 silent2 g7 i9 : Value) (w : World) : Prop :=
  builtinP Try.prog Builtin.len #[58] 3 #[false] #[l1] w fun t31 w =>
  valP Try.prog (binS BinOp.lss 3 (Operand.tmp 29) (Operand.tmp 31) i9 t31) w fun t32 w =>
  m8_34 R K1 l1 silent2 g7 i9 t32 w
def m8_30 (R : VP) (l1 silent2 g7 i9 : Value) (w : World) : Prop :=
  loopP (fun (K1 : VP) (s : Value) w => m8_31 R K1 l1 silent2 g7 s w) i9 w
def m8_4 (R : VP) (l1 silent2 g7 : Value) (w : World) : Prop :=
  m8_30 R l1 silent2 g7 (Value.int IntKind.i64 0) w
def m8_3 (R : VP) (l1 silent2 g7 : Value) (w : World) : Prop :=
  callP Try.prog (fnV 37) #[l1] w fun t28 w =>
  m8_4 R t28 silent2 g7 w
def m8_35 (R : VP) (l1 silent2 g7 t26 : Value) (w : World) : Prop :=
  condP t26
  (m8_36 R (Value.bool false) w)
  (m8_3 R l1 silent2 g7 w)
def m8_2 (R : VP) (l1 silent2 g7 e8 : Value) (w : World) : Prop :=
  valP Try.prog (binS BinOp.neq 26 (Operand.tmp 21) (Operand.const (Value.int IntKind.i64 0)) e8 (Value.int IntKind.i64 0)) w fun t22 w =>
  condP t22
  (pickP t22 (Value.bool true) undef fun t26 =>
  m8_35 R l1 silent2 g7 t26 w)
  (valP Try.prog (binS BinOp.eql 59 (Operand.tmp 24) (Operand.const (Value.pointer none)) g7 (Value.pointer none)) w fun t25 w =>
  pickP t22 (Value.bool true) t25 fun t26 =>
  m8_35 R l1 silent2 g7 t26 w)
def m8_1 (R : VP) (sticky0 l1 silent2 : Value) (w : World) : Prop :=
  callP Try.prog (fnV 36) #[(Value.int IntKind.i64 4), sticky0, (Value.int IntKind.i64 0), (Value.int IntKind.i64 1)] w fun t18 w =>
  valP Try.prog (Instr.extract t18 0) w fun t19 w =>
  valP Try.prog (Instr.extract t18 1) w fun t20 w =>
  m8_2 R l1 silent2 t19 t20 w
def m8_0 (R : VP) (sticky0 l1 silent2 : Value) (w : World) : Prop :=
  m8_1 R sticky0 l1 silent2 w
abbrev W8 := cwp Try.prog (fun i => 0)
noncomputable def k8_0 : Code := (bodyOf Try.f8)
noncomputable def k8_1 : Code := (c2 k8_0)
noncomputable def k8_2 : Code := (c2 k8_1)
noncomputable def k8_3 : Code := (c2 k8_2)
noncomputable def k8_4 : Code := (c2 k8_3)
noncomputable def k8_5 : Code := (c2 k8_4)
noncomputable def k8_6 : Code := (c2 k8_5)
noncomputable def k8_7 : Code := (c2 k8_6)
noncomputable def k8_8 : Code := (c2 k8_7)
noncomputable def k8_9 : Code := (c2 k8_8)
noncomputable def k8_10 : Code := (c2 k8_9)
noncomputable def k8_11 : Code := (c2 k8_10)
noncomputable def k8_12 : Code := (c2 k8_11)
noncomputable def k8_13 : Code := (c2 (c1 k8_9))
noncomputable def k8_14 : Code := (c1 (c1 k8_13))
noncomputable def k8_15 : Code := (c2 k8_14)
noncomputable def k8_16 : Code := (c2 k8_15)
noncomputable def k8_17 : Code := (c2 (c1 (c1 k8_15)))
noncomputable def k8_18 : Code := (c2 k8_17)
noncomputable def k8_19 : Code := (c2 k8_18)
noncomputable def k8_20 : Code := (c2 (c1 k8_19))
noncomputable def k8_21 : Code := (c2 (c1 (c1 (c1 k8_15))))
noncomputable def k8_22 : Code := (c1 (c1 k8_21))
noncomputable def k8_23 : Code := (c2 k8_22)
noncomputable def k8_24 : Code := (c2 k8_23)
noncomputable def k8_25 : Code := (c2 (c1 (c1 k8_23)))
noncomputable def k8_26 : Code := (c2 (c1 k8_22))
noncomputable def k8_27 : Code := (c2 (c1 k8_14))
noncomputable def k8_28 : Code := (c2 (c1 k8_6))
noncomputable def k8_29 : Code := (c2 (c1 k8_28))
noncomputable def k8_30 : Code := (c2 (c1 k8_4))
noncomputable def k8_31 : Code := (c1 (c1 k8_30))
noncomputable def k8_32 : Code := (c2 k8_31)
noncomputable def k8_33 : Code := (c2 k8_32)
noncomputable def k8_34 : Code := (c2 (c1 k8_31))
noncomputable def k8_35 : Code := (c2 (c1 k8_2))
noncomputable def k8_36 : Code := (c2 (c1 k8_35))
theorem s8_36 {R : VP} {Q : EQ} (hR : ∀ e w, (R (e 6) w) → Q .ret e w) (e : Env) (w : World) (h : m8_36 R (e 6) w) : W8 k8_36 Q e w := by
  unfold m8_36 at h
  exact reA (hR _ _ h)
theorem s8_33 {R : VP} {K1 : VP} {Q : EQ} (hN : ∀ e w, (K1 (e 9) w) → Q .normal e w) (e : Env) (w : World) (h : m8_33 R K1 (e 1) (e 2) (e 7) (e 9) w) : W8 k8_33 Q e w := by
  unfold m8_33 at h
  exact rgA 7 (fun e w => K1 (e 9) w) h hN
theorem s8_32 {R : VP} {K1 : VP} {Q : EQ} (hN : ∀ e w, (K1 (e 9) w) → Q .normal e w) (e : Env) (w : World) (h : m8_32 R K1 (e 1) (e 2) (e 7) (e 9) w) : W8 k8_32 Q e w := by
  unfold m8_32 at h
  refine seA ?_
  have hN : ∀ e w, (m8_33 R K1 (e 1) (e 2) (e 7) (e 9) w) → (thenE (W8 k8_33 Q) Q) .normal e w := fun e w h => then_N (s8_33 (R := R) (Q := Q) (K1 := K1) hN e w h)
  refine block_ok 1 (by kernel_rfl) ?_
  have hN : ∀ e w, (m8_33 R K1 (e 1) (e 2) (e 7) (e 9) w) → (inBlockE 1 (thenE (W8 k8_33 Q) Q)) .normal e w := fun e w h => block_N (hN e w h)
  exact rgA 8 (fun e w => m8_33 R K1 (e 1) (e 2) (e 7) (e 9) w) h hN
theorem s8_29 {R : VP} {Q : EQ} (hR : ∀ e w, (R (e 6) w) → Q .ret e w) (e : Env) (w : World) (h : m8_29 R (e 6) w) : W8 k8_29 Q e w := by
  unfold m8_29 at h
  exact reA (hR _ _ h)
theorem s8_24 {R : VP} {K1 : VP} {K2 : VP} {Q : EQ} (hN : ∀ e w, (K2 (e 13) w) → Q .normal e w) (e : Env) (w : World) (h : m8_24 R K1 K2 (e 7) (e 10) (e 11) (e 12) (e 13) w) : W8 k8_24 Q e w := by
  unfold m8_24 at h
  exact rgA 19 (fun e w => K2 (e 13) w) h hN
theorem s8_25 {R : VP} {K1 : VP} {K2 : VP} {Q : EQ} (hN : ∀ e w, (m8_24 R K1 K2 (e 7) (e 10) (e 11) (e 12) (e 13) w) → Q .normal e w) (e : Env) (w : World) (h : m8_25 R K1 K2 (e 7) (e 10) (e 11) (e 12) (e 13) (e 80) w) : W8 k8_25 Q e w := by
  unfold m8_25 at h
  refine coA (Operand.tmp 80) h (fun h1 => ?_) (fun h1 => ?_)
  · exact rgA 21 (fun e w => m8_24 R K1 K2 (e 7) (e 10) (e 11) (e 12) (e 13) w) h1 hN
  · exact skA (hN _ _ h1)
theorem s8_23 {R : VP} {K1 : VP} {K2 : VP} {Q : EQ} (hN : ∀ e w, (K2 (e 13) w) → Q .normal e w) (e : Env) (w : World) (h : m8_23 R K1 K2 (e 7) (e 10) (e 11) (e 12) (e 13) w) : W8 k8_23 Q e w := by
  unfold m8_23 at h
  refine seA ?_
  have hN : ∀ e w, (m8_24 R K1 K2 (e 7) (e 10) (e 11) (e 12) (e 13) w) → (thenE (W8 k8_24 Q) Q) .normal e w := fun e w h => then_N (s8_24 (R := R) (Q := Q) (K1 := K1) (K2 := K2) hN e w h)
  refine block_ok 5 (by kernel_rfl) ?_
  have hN : ∀ e w, (m8_24 R K1 K2 (e 7) (e 10) (e 11) (e 12) (e 13) w) → (inBlockE 5 (thenE (W8 k8_24 Q) Q)) .normal e w := fun e w h => block_N (hN e w h)
  refine seA ?_
  have hN : ∀ e w, (m8_25 R K1 K2 (e 7) (e 10) (e 11) (e 12) (e 13) (e 80) w) → (thenE (W8 k8_25 (inBlockE 5 (thenE (W8 k8_24 Q) Q))) (inBlockE 5 (thenE (W8 k8_24 Q) Q))) .normal e w := fun e w h => then_N (s8_25 (R := R) (Q := (inBlockE 5 (thenE (W8 k8_24 Q) Q))) (K1 := K1) (K2 := K2) hN e w h)
  exact rgA 20 (fun e w => m8_25 R K1 K2 (e 7) (e 10) (e 11) (e 12) (e 13) (e 80) w) h hN
theorem s8_20 {R : VP} {K1 : VP} {Q : EQ} (hR : ∀ e w, (R (e 6) w) → Q .ret e w) (e : Env) (w : World) (h : m8_20 R K1 (e 6) w) : W8 k8_20 Q e w := by
  unfold m8_20 at h
  exact reA (hR _ _ h)
theorem s8_16 {R : VP} {K1 : VP} {Q : EQ} (hN : ∀ e w, (K1 (e 12) w) → Q .normal e w) (e : Env) (w : World) (h : m8_16 R K1 (e 7) (e 10) (e 11) (e 12) w) : W8 k8_16 Q e w := by
  unfold m8_16 at h
  exact rgA 16 (fun e w => K1 (e 12) w) h hN
theorem s8_19 {R : VP} {K1 : VP} {Q : EQ} (hN : ∀ e w, (m8_16 R K1 (e 7) (e 10) (e 11) (e 12) w) → Q .normal e w) (hR : ∀ e w, (R (e 6) w) → Q .ret e w) (e : Env) (w : World) (h : m8_19 R K1 (e 7) (e 10) (e 11) (e 12) (e 93) w) : W8 k8_19 Q e w := by
  unfold m8_19 at h
  refine coA (Operand.tmp 93) h (fun h1 => ?_) (fun h1 => ?_)
  · refine seA ?_
    have hN : ∀ e w, (m8_20 R K1 (e 6) w) → (thenE (W8 k8_20 Q) Q) .normal e w := fun e w h => then_N (s8_20 (R := R) (Q := Q) (K1 := K1) hR e w h)
    exact rgA 24 (fun e w => m8_20 R K1 (e 6) w) h1 hN
  · exact skA (hN _ _ h1)
theorem s8_18 {R : VP} {K1 : VP} {Q : EQ} (hN : ∀ e w, (m8_16 R K1 (e 7) (e 10) (e 11) (e 12) w) → Q .normal e w) (hR : ∀ e w, (R (e 6) w) → Q .ret e w) (e : Env) (w : World) (h : m8_18 R K1 (e 7) (e 10) (e 11) (e 12) (e 14) w) : W8 k8_18 Q e w := by
  unfold m8_18 at h
  refine seA ?_
  have hN : ∀ e w, (m8_19 R K1 (e 7) (e 10) (e 11) (e 12) (e 93) w) → (thenE (W8 k8_19 Q) Q) .normal e w := fun e w h => then_N (s8_19 (R := R) (Q := Q) (K1 := K1) hN hR e w h)
  exact rgA 23 (fun e w => m8_19 R K1 (e 7) (e 10) (e 11) (e 12) (e 93) w) h hN
theorem s8_17 {R : VP} {K1 : VP} {Q : EQ} (hN : ∀ e w, (m8_16 R K1 (e 7) (e 10) (e 11) (e 12) w) → Q .normal e w) (hR : ∀ e w, (R (e 6) w) → Q .ret e w) (e : Env) (w : World) (h : m8_17 R K1 (e 7) (e 10) (e 11) (e 12) w) : W8 k8_17 Q e w := by
  unfold m8_17 at h
  refine seA ?_
  have hN : ∀ e w, (m8_18 R K1 (e 7) (e 10) (e 11) (e 12) (e 14) w) → (thenE (W8 k8_18 Q) Q) .normal e w := fun e w h => then_N (s8_18 (R := R) (Q := Q) (K1 := K1) hN hR e w h)
  exact rgA 22 (fun e w => m8_18 R K1 (e 7) (e 10) (e 11) (e 12) (e 14) w) h hN
theorem s8_26 {R : VP} {K1 : VP} {K2 : VP} {Q : EQ} (hN : ∀ e w, (m8_23 R K1 K2 (e 7) (e 10) (e 11) (e 12) (e 13) w) → Q .normal e w) (hX4 : ∀ e w, (m8_17 R K1 (e 7) (e 10) (e 11) (e 12) w) → Q (.exit 4) e w) (e : Env) (w : World) (h : m8_26 R K1 K2 (e 7) (e 10) (e 11) (e 12) (e 13) (e 71) w) : W8 k8_26 Q e w := by
  unfold m8_26 at h
  refine coA (Operand.tmp 71) h (fun h1 => ?_) (fun h1 => ?_)
  · exact skA (hN _ _ h1)
  · exact exA 4 (hX4 _ _ h1)
theorem s8_22 {R : VP} {K1 : VP} {K2 : VP} {Q : EQ} (hN : ∀ e w, (K2 (e 13) w) → Q .normal e w) (hX4 : ∀ e w, (m8_17 R K1 (e 7) (e 10) (e 11) (e 12) w) → Q (.exit 4) e w) (e : Env) (w : World) (h : m8_22 R K1 K2 (e 7) (e 10) (e 11) (e 12) (e 13) w) : W8 k8_22 Q e w := by
  unfold m8_22 at h
  refine seA ?_
  have hN : ∀ e w, (m8_23 R K1 K2 (e 7) (e 10) (e 11) (e 12) (e 13) w) → (thenE (W8 k8_23 Q) Q) .normal e w := fun e w h => then_N (s8_23 (R := R) (Q := Q) (K1 := K1) (K2 := K2) hN e w h)
  have hX4 : ∀ e w, (m8_17 R K1 (e 7) (e 10) (e 11) (e 12) w) → (thenE (W8 k8_23 Q) Q) (.exit 4) e w := fun e w h => then_X (hX4 e w h)
  refine seA ?_
  have hN : ∀ e w, (m8_26 R K1 K2 (e 7) (e 10) (e 11) (e 12) (e 13) (e 71) w) → (thenE (W8 k8_26 (thenE (W8 k8_23 Q) Q)) (thenE (W8 k8_23 Q) Q)) .normal e w := fun e w h => then_N (s8_26 (R := R) (Q := (thenE (W8 k8_23 Q) Q)) (K1 := K1) (K2 := K2) hN hX4 e w h)
  exact rgA 18 (fun e w => m8_26 R K1 K2 (e 7) (e 10) (e 11) (e 12) (e 13) (e 71) w) h hN
theorem s8_21 {R : VP} {K1 : VP} {Q : EQ} (hN : ∀ e w, (m8_17 R K1 (e 7) (e 10) (e 11) (e 12) w) → Q .normal e w) (e : Env) (w : World) (h : m8_21 R K1 (e 7) (e 10) (e 11) (e 12) (e 13) w) : W8 k8_21 Q e w := by
  unfold m8_21 at h
  refine block_ok 4 (by kernel_rfl) ?_
  have hX4 : ∀ e w, (m8_17 R K1 (e 7) (e 10) (e 11) (e 12) w) → (inBlockE 4 Q) (.exit 4) e w := fun e w h => inBlock_same (Q := Q) 4 (hN e w h)
  refine loop_ok' (fun (e : Env) => e 13) [7, 10, 11, 12] (by kernel_rfl) (by kernel_rfl) h (fun K e' w' hk h' => ?_)
  have r7 : e' 7 = e 7 := hk 7 (by decide)
  have r10 : e' 10 = e 10 := hk 10 (by decide)
  have r11 : e' 11 = e 11 := hk 11 (by decide)
  have r12 : e' 12 = e 12 := hk 12 (by decide)
  have hX4 : ∀ e w, (m8_17 R K1 (e 7) (e 10) (e 11) (e 12) w) → (thenE (fun (e : Env) w => K (e 13) w) (inBlockE 4 Q)) (.exit 4) e w := fun e w h => then_X (hX4 e w h)
  exact s8_22 (R := R) (Q := (thenE (fun (e : Env) w => K (e 13) w) (inBlockE 4 Q))) (K1 := K1) (K2 := K) (fun _ _ h => then_N h) hX4 e' w' (by rw [r7, r10, r11, r12]; exact h')
theorem s8_15 {R : VP} {K1 : VP} {Q : EQ} (hN : ∀ e w, (K1 (e 12) w) → Q .normal e w) (hR : ∀ e w, (R (e 6) w) → Q .ret e w) (e : Env) (w : World) (h : m8_15 R K1 (e 7) (e 10) (e 11) (e 12) w) : W8 k8_15 Q e w := by
  unfold m8_15 at h
  refine seA ?_
  have hN : ∀ e w, (m8_16 R K1 (e 7) (e 10) (e 11) (e 12) w) → (thenE (W8 k8_16 Q) Q) .normal e w := fun e w h => then_N (s8_16 (R := R) (Q := Q) (K1 := K1) hN e w h)
  have hR : ∀ e w, (R (e 6) w) → (thenE (W8 k8_16 Q) Q) .ret e w := fun e w h => then_R (hR e w h)
  refine block_ok 3 (by kernel_rfl) ?_
  have hN : ∀ e w, (m8_16 R K1 (e 7) (e 10) (e 11) (e 12) w) → (inBlockE 3 (thenE (W8 k8_16 Q) Q)) .normal e w := fun e w h => block_N (hN e w h)
  have hR : ∀ e w, (R (e 6) w) → (inBlockE 3 (thenE (W8 k8_16 Q) Q)) .ret e w := fun e w h => block_R (hR e w h)
  refine seA ?_
  have hN : ∀ e w, (m8_17 R K1 (e 7) (e 10) (e 11) (e 12) w) → (thenE (W8 k8_17 (inBlockE 3 (thenE (W8 k8_16 Q) Q))) (inBlockE 3 (thenE (W8 k8_16 Q) Q))) .normal e w := fun e w h => then_N (s8_17 (R := R) (Q := (inBlockE 3 (thenE (W8 k8_16 Q) Q))) (K1 := K1) hN hR e w h)
  refine seA ?_
  have hN : ∀ e w, (m8_21 R K1 (e 7) (e 10) (e 11) (e 12) (e 13) w) → (thenE (W8 k8_21 (thenE (W8 k8_17 (inBlockE 3 (thenE (W8 k8_16 Q) Q))) (inBlockE 3 (thenE (W8 k8_16 Q) Q)))) (thenE (W8 k8_17 (inBlockE 3 (thenE (W8 k8_16 Q) Q))) (inBlockE 3 (thenE (W8 k8_16 Q) Q)))) .normal e w := fun e w h => then_N (s8_21 (R := R) (Q := (thenE (W8 k8_17 (inBlockE 3 (thenE (W8 k8_16 Q) Q))) (inBlockE 3 (thenE (W8 k8_16 Q) Q)))) (K1 := K1) hN e w h)
  exact rgA 17 (fun e w => m8_21 R K1 (e 7) (e 10) (e 11) (e 12) (e 13) w) h hN
theorem s8_12 {R : VP} {Q : EQ} (hR : ∀ e w, (R (e 6) w) → Q .ret e w) (e : Env) (w : World) (h : m8_12 R (e 6) w) : W8 k8_12 Q e w := by
  unfold m8_12 at h
  exact reA (hR _ _ h)
theorem s8_11 {R : VP} {Q : EQ} (hR : ∀ e w, (R (e 6) w) → Q .ret e w) (e : Env) (w : World) (h : m8_11 R (e 10) (e 11) (e 15) w) : W8 k8_11 Q e w := by
  unfold m8_11 at h
  refine seA ?_
  have hN : ∀ e w, (m8_12 R (e 6) w) → (thenE (W8 k8_12 Q) Q) .normal e w := fun e w h => then_N (s8_12 (R := R) (Q := Q) hR e w h)
  exact rgA 26 (fun e w => m8_12 R (e 6) w) h hN
theorem s8_10 {R : VP} {Q : EQ} (hR : ∀ e w, (R (e 6) w) → Q .ret e w) (e : Env) (w : World) (h : m8_10 R (e 7) (e 10) (e 11) w) : W8 k8_10 Q e w := by
  unfold m8_10 at h
  refine seA ?_
  have hN : ∀ e w, (m8_11 R (e 10) (e 11) (e 15) w) → (thenE (W8 k8_11 Q) Q) .normal e w := fun e w h => then_N (s8_11 (R := R) (Q := Q) hR e w h)
  exact rgA 25 (fun e w => m8_11 R (e 10) (e 11) (e 15) w) h hN
theorem s8_27 {R : VP} {K1 : VP} {Q : EQ} (hN : ∀ e w, (m8_15 R K1 (e 7) (e 10) (e 11) (e 12) w) → Q .normal e w) (hX2 : ∀ e w, (m8_10 R (e 7) (e 10) (e 11) w) → Q (.exit 2) e w) (e : Env) (w : World) (h : m8_27 R K1 (e 7) (e 10) (e 11) (e 12) (e 65) w) : W8 k8_27 Q e w := by
  unfold m8_27 at h
  refine coA (Operand.tmp 65) h (fun h1 => ?_) (fun h1 => ?_)
  · exact skA (hN _ _ h1)
  · exact exA 2 (hX2 _ _ h1)
theorem s8_14 {R : VP} {K1 : VP} {Q : EQ} (hN : ∀ e w, (K1 (e 12) w) → Q .normal e w) (hR : ∀ e w, (R (e 6) w) → Q .ret e w) (hX2 : ∀ e w, (m8_10 R (e 7) (e 10) (e 11) w) → Q (.exit 2) e w) (e : Env) (w : World) (h : m8_14 R K1 (e 7) (e 10) (e 11) (e 12) w) : W8 k8_14 Q e w := by
  unfold m8_14 at h
  refine seA ?_
  have hN : ∀ e w, (m8_15 R K1 (e 7) (e 10) (e 11) (e 12) w) → (thenE (W8 k8_15 Q) Q) .normal e w := fun e w h => then_N (s8_15 (R := R) (Q := Q) (K1 := K1) hN hR e w h)
  have hX2 : ∀ e w, (m8_10 R (e 7) (e 10) (e 11) w) → (thenE (W8 k8_15 Q) Q) (.exit 2) e w := fun e w h => then_X (hX2 e w h)
  refine seA ?_
  have hN : ∀ e w, (m8_27 R K1 (e 7) (e 10) (e 11) (e 12) (e 65) w) → (thenE (W8 k8_27 (thenE (W8 k8_15 Q) Q)) (thenE (W8 k8_15 Q) Q)) .normal e w := fun e w h => then_N (s8_27 (R := R) (Q := (thenE (W8 k8_15 Q) Q)) (K1 := K1) hN hX2 e w h)
  exact rgA 15 (fun e w => m8_27 R K1 (e 7) (e 10) (e 11) (e 12) (e 65) w) h hN
theorem s8_13 {R : VP} {Q : EQ} (hN : ∀ e w, (m8_10 R (e 7) (e 10) (e 11) w) → Q .normal e w) (hR : ∀ e w, (R (e 6) w) → Q .ret e w) (e : Env) (w : World) (h : m8_13 R (e 7) (e 10) (e 11) (e 12) w) : W8 k8_13 Q e w := by
  unfold m8_13 at h
  refine block_ok 2 (by kernel_rfl) ?_
  have hX2 : ∀ e w, (m8_10 R (e 7) (e 10) (e 11) w) → (inBlockE 2 Q) (.exit 2) e w := fun e w h => inBlock_same (Q := Q) 2 (hN e w h)
  have hR : ∀ e w, (R (e 6) w) → (inBlockE 2 Q) .ret e w := fun e w h => block_R (hR e w h)
  refine loop_ok' (fun (e : Env) => e 12) [7, 10, 11] (by kernel_rfl) (by kernel_rfl) h (fun K e' w' hk h' => ?_)
  have r7 : e' 7 = e 7 := hk 7 (by decide)
  have r10 : e' 10 = e 10 := hk 10 (by decide)
  have r11 : e' 11 = e 11 := hk 11 (by decide)
  have hR : ∀ e w, (R (e 6) w) → (thenE (fun (e : Env) w => K (e 12) w) (inBlockE 2 Q)) .ret e w := fun e w h => then_R (hR e w h)
  have hX2 : ∀ e w, (m8_10 R (e 7) (e 10) (e 11) w) → (thenE (fun (e : Env) w => K (e 12) w) (inBlockE 2 Q)) (.exit 2) e w := fun e w h => then_X (hX2 e w h)
  exact s8_14 (R := R) (Q := (thenE (fun (e : Env) w => K (e 12) w) (inBlockE 2 Q))) (K1 := K) (fun _ _ h => then_N h) hR hX2 e' w' (by rw [r7, r10, r11]; exact h')
theorem s8_9 {R : VP} {Q : EQ} (hR : ∀ e w, (R (e 6) w) → Q .ret e w) (e : Env) (w : World) (h : m8_9 R (e 7) (e 10) (e 11) w) : W8 k8_9 Q e w := by
  unfold m8_9 at h
  refine seA ?_
  have hN : ∀ e w, (m8_10 R (e 7) (e 10) (e 11) w) → (thenE (W8 k8_10 Q) Q) .normal e w := fun e w h => then_N (s8_10 (R := R) (Q := Q) hR e w h)
  have hR : ∀ e w, (R (e 6) w) → (thenE (W8 k8_10 Q) Q) .ret e w := fun e w h => then_R (hR e w h)
  refine seA ?_
  have hN : ∀ e w, (m8_13 R (e 7) (e 10) (e 11) (e 12) w) → (thenE (W8 k8_13 (thenE (W8 k8_10 Q) Q)) (thenE (W8 k8_10 Q) Q)) .normal e w := fun e w h => then_N (s8_13 (R := R) (Q := (thenE (W8 k8_10 Q) Q)) hN hR e w h)
  exact rgA 14 (fun e w => m8_13 R (e 7) (e 10) (e 11) (e 12) w) h hN
theorem s8_8 {R : VP} {Q : EQ} (hR : ∀ e w, (R (e 6) w) → Q .ret e w) (e : Env) (w : World) (h : m8_8 R (e 7) (e 10) (e 11) w) : W8 k8_8 Q e w := by
  unfold m8_8 at h
  refine seA ?_
  have hN : ∀ e w, (m8_9 R (e 7) (e 10) (e 11) w) → (thenE (W8 k8_9 Q) Q) .normal e w := fun e w h => then_N (s8_9 (R := R) (Q := Q) hR e w h)
  exact rgA 13 (fun e w => m8_9 R (e 7) (e 10) (e 11) w) h hN
theorem s8_7 {R : VP} {Q : EQ} (hR : ∀ e w, (R (e 6) w) → Q .ret e w) (e : Env) (w : World) (h : m8_7 R (e 2) (e 7) (e 10) w) : W8 k8_7 Q e w := by
  unfold m8_7 at h
  refine seA ?_
  have hN : ∀ e w, (m8_8 R (e 7) (e 10) (e 11) w) → (thenE (W8 k8_8 Q) Q) .normal e w := fun e w h => then_N (s8_8 (R := R) (Q := Q) hR e w h)
  exact rgA 12 (fun e w => m8_8 R (e 7) (e 10) (e 11) w) h hN
theorem s8_28 {R : VP} {Q : EQ} (hN : ∀ e w, (m8_7 R (e 2) (e 7) (e 10) w) → Q .normal e w) (hR : ∀ e w, (R (e 6) w) → Q .ret e w) (e : Env) (w : World) (h : m8_28 R (e 2) (e 7) (e 10) (e 45) w) : W8 k8_28 Q e w := by
  unfold m8_28 at h
  refine coA (Operand.tmp 45) h (fun h1 => ?_) (fun h1 => ?_)
  · refine seA ?_
    have hN : ∀ e w, (m8_29 R (e 6) w) → (thenE (W8 k8_29 Q) Q) .normal e w := fun e w h => then_N (s8_29 (R := R) (Q := Q) hR e w h)
    exact rgA 11 (fun e w => m8_29 R (e 6) w) h1 hN
  · exact skA (hN _ _ h1)
theorem s8_6 {R : VP} {Q : EQ} (hR : ∀ e w, (R (e 6) w) → Q .ret e w) (e : Env) (w : World) (h : m8_6 R (e 2) (e 7) (e 10) w) : W8 k8_6 Q e w := by
  unfold m8_6 at h
  refine seA ?_
  have hN : ∀ e w, (m8_7 R (e 2) (e 7) (e 10) w) → (thenE (W8 k8_7 Q) Q) .normal e w := fun e w h => then_N (s8_7 (R := R) (Q := Q) hR e w h)
  have hR : ∀ e w, (R (e 6) w) → (thenE (W8 k8_7 Q) Q) .ret e w := fun e w h => then_R (hR e w h)
  refine seA ?_
  have hN : ∀ e w, (m8_28 R (e 2) (e 7) (e 10) (e 45) w) → (thenE (W8 k8_28 (thenE (W8 k8_7 Q) Q)) (thenE (W8 k8_7 Q) Q)) .normal e w := fun e w h => then_N (s8_28 (R := R) (Q := (thenE (W8 k8_7 Q) Q)) hN hR e w h)
  exact rgA 10 (fun e w => m8_28 R (e 2) (e 7) (e 10) (e 45) w) h hN
theorem s8_5 {R : VP} {Q : EQ} (hR : ∀ e w, (R (e 6) w) → Q .ret e w) (e : Env) (w : World) (h : m8_5 R (e 2) (e 7) w) : W8 k8_5 Q e w := by
  unfold m8_5 at h
  refine seA ?_
  have hN : ∀ e w, (m8_6 R (e 2) (e 7) (e 10) w) → (thenE (W8 k8_6 Q) Q) .normal e w := fun e w h => then_N (s8_6 (R := R) (Q := Q) hR e w h)
  exact rgA 9 (fun e w => m8_6 R (e 2) (e 7) (e 10) w) h hN
theorem s8_34 {R : VP} {K1 : VP} {Q : EQ} (hN : ∀ e w, (m8_32 R K1 (e 1) (e 2) (e 7) (e 9) w) → Q .normal e w) (hX0 : ∀ e w, (m8_5 R (e 2) (e 7) w) → Q (.exit 0) e w) (e : Env) (w : World) (h : m8_34 R K1 (e 1) (e 2) (e 7) (e 9) (e 32) w) : W8 k8_34 Q e w := by
  unfold m8_34 at h
  refine coA (Operand.tmp 32) h (fun h1 => ?_) (fun h1 => ?_)
  · exact skA (hN _ _ h1)
  · exact exA 0 (hX0 _ _ h1)
theorem s8_31 {R : VP} {K1 : VP} {Q : EQ} (hN : ∀ e w, (K1 (e 9) w) → Q .normal e w) (hX0 : ∀ e w, (m8_5 R (e 2) (e 7) w) → Q (.exit 0) e w) (e : Env) (w : World) (h : m8_31 R K1 (e 1) (e 2) (e 7) (e 9) w) : W8 k8_31 Q e w := by
  unfold m8_31 at h
  refine seA ?_
  have hN : ∀ e w, (m8_32 R K1 (e 1) (e 2) (e 7) (e 9) w) → (thenE (W8 k8_32 Q) Q) .normal e w := fun e w h => then_N (s8_32 (R := R) (Q := Q) (K1 := K1) hN e w h)
  have hX0 : ∀ e w, (m8_5 R (e 2) (e 7) w) → (thenE (W8 k8_32 Q) Q) (.exit 0) e w := fun e w h => then_X (hX0 e w h)
  refine seA ?_
  have hN : ∀ e w, (m8_34 R K1 (e 1) (e 2) (e 7) (e 9) (e 32) w) → (thenE (W8 k8_34 (thenE (W8 k8_32 Q) Q)) (thenE (W8 k8_32 Q) Q)) .normal e w := fun e w h => then_N (s8_34 (R := R) (Q := (thenE (W8 k8_32 Q) Q)) (K1 := K1) hN hX0 e w h)
  exact rgA 6 (fun e w => m8_34 R K1 (e 1) (e 2) (e 7) (e 9) (e 32) w) h hN
theorem s8_30 {R : VP} {Q : EQ} (hN : ∀ e w, (m8_5 R (e 2) (e 7) w) → Q .normal e w) (e : Env) (w : World) (h : m8_30 R (e 1) (e 2) (e 7) (e 9) w) : W8 k8_30 Q e w := by
  unfold m8_30 at h
  refine block_ok 0 (by kernel_rfl) ?_
  have hX0 : ∀ e w, (m8_5 R (e 2) (e 7) w) → (inBlockE 0 Q) (.exit 0) e w := fun e w h => inBlock_same (Q := Q) 0 (hN e w h)
  refine loop_ok' (fun (e : Env) => e 9) [1, 2, 7] (by kernel_rfl) (by kernel_rfl) h (fun K e' w' hk h' => ?_)
  have r1 : e' 1 = e 1 := hk 1 (by decide)
  have r2 : e' 2 = e 2 := hk 2 (by decide)
  have r7 : e' 7 = e 7 := hk 7 (by decide)
  have hX0 : ∀ e w, (m8_5 R (e 2) (e 7) w) → (thenE (fun (e : Env) w => K (e 9) w) (inBlockE 0 Q)) (.exit 0) e w := fun e w h => then_X (hX0 e w h)
  exact s8_31 (R := R) (Q := (thenE (fun (e : Env) w => K (e 9) w) (inBlockE 0 Q))) (K1 := K) (fun _ _ h => then_N h) hX0 e' w' (by rw [r1, r2, r7]; exact h')
theorem s8_4 {R : VP} {Q : EQ} (hR : ∀ e w, (R (e 6) w) → Q .ret e w) (e : Env) (w : World) (h : m8_4 R (e 1) (e 2) (e 7) w) : W8 k8_4 Q e w := by
  unfold m8_4 at h
  refine seA ?_
  have hN : ∀ e w, (m8_5 R (e 2) (e 7) w) → (thenE (W8 k8_5 Q) Q) .normal e w := fun e w h => then_N (s8_5 (R := R) (Q := Q) hR e w h)
  refine seA ?_
  have hN : ∀ e w, (m8_30 R (e 1) (e 2) (e 7) (e 9) w) → (thenE (W8 k8_30 (thenE (W8 k8_5 Q) Q)) (thenE (W8 k8_5 Q) Q)) .normal e w := fun e w h => then_N (s8_30 (R := R) (Q := (thenE (W8 k8_5 Q) Q)) hN e w h)
  exact rgA 5 (fun e w => m8_30 R (e 1) (e 2) (e 7) (e 9) w) h hN
theorem s8_3 {R : VP} {Q : EQ} (hR : ∀ e w, (R (e 6) w) → Q .ret e w) (e : Env) (w : World) (h : m8_3 R (e 1) (e 2) (e 7) w) : W8 k8_3 Q e w := by
  unfold m8_3 at h
  refine seA ?_
  have hN : ∀ e w, (m8_4 R (e 1) (e 2) (e 7) w) → (thenE (W8 k8_4 Q) Q) .normal e w := fun e w h => then_N (s8_4 (R := R) (Q := Q) hR e w h)
  exact rgA 4 (fun e w => m8_4 R (e 1) (e 2) (e 7) w) h hN
theorem s8_35 {R : VP} {Q : EQ} (hN : ∀ e w, (m8_3 R (e 1) (e 2) (e 7) w) → Q .normal e w) (hR : ∀ e w, (R (e 6) w) → Q .ret e w) (e : Env) (w : World) (h : m8_35 R (e 1) (e 2) (e 7) (e 26) w) : W8 k8_35 Q e w := by
  unfold m8_35 at h
  refine coA (Operand.tmp 26) h (fun h1 => ?_) (fun h1 => ?_)
  · refine seA ?_
    have hN : ∀ e w, (m8_36 R (e 6) w) → (thenE (W8 k8_36 Q) Q) .normal e w := fun e w h => then_N (s8_36 (R := R) (Q := Q) hR e w h)
    exact rgA 3 (fun e w => m8_36 R (e 6) w) h1 hN
  · exact skA (hN _ _ h1)
theorem s8_2 {R : VP} {Q : EQ} (hR : ∀ e w, (R (e 6) w) → Q .ret e w) (e : Env) (w : World) (h : m8_2 R (e 1) (e 2) (e 7) (e 8) w) : W8 k8_2 Q e w := by
  unfold m8_2 at h
  refine seA ?_
  have hN : ∀ e w, (m8_3 R (e 1) (e 2) (e 7) w) → (thenE (W8 k8_3 Q) Q) .normal e w := fun e w h => then_N (s8_3 (R := R) (Q := Q) hR e w h)
  have hR : ∀ e w, (R (e 6) w) → (thenE (W8 k8_3 Q) Q) .ret e w := fun e w h => then_R (hR e w h)
  refine seA ?_
  have hN : ∀ e w, (m8_35 R (e 1) (e 2) (e 7) (e 26) w) → (thenE (W8 k8_35 (thenE (W8 k8_3 Q) Q)) (thenE (W8 k8_3 Q) Q)) .normal e w := fun e w h => then_N (s8_35 (R := R) (Q := (thenE (W8 k8_3 Q) Q)) hN hR e w h)
  exact rgA 2 (fun e w => m8_35 R (e 1) (e 2) (e 7) (e 26) w) h hN
theorem s8_1 {R : VP} {Q : EQ} (hR : ∀ e w, (R (e 6) w) → Q .ret e w) (e : Env) (w : World) (h : m8_1 R (e 0) (e 1) (e 2) w) : W8 k8_1 Q e w := by
  unfold m8_1 at h
  refine seA ?_
  have hN : ∀ e w, (m8_2 R (e 1) (e 2) (e 7) (e 8) w) → (thenE (W8 k8_2 Q) Q) .normal e w := fun e w h => then_N (s8_2 (R := R) (Q := Q) hR e w h)
  exact rgA 1 (fun e w => m8_2 R (e 1) (e 2) (e 7) (e 8) w) h hN
theorem s8_0 {R : VP} {Q : EQ} (hR : ∀ e w, (R (e 6) w) → Q .ret e w) (e : Env) (w : World) (h : m8_0 R (e 0) (e 1) (e 2) w) : W8 k8_0 Q e w := by
  unfold m8_0 at h
  refine seA ?_
  have hN : ∀ e w, (m8_1 R (e 0) (e 1) (e 2) w) → (thenE (W8 k8_1 Q) Q) .normal e w := fun e w h => then_N (s8_1 (R := R) (Q := Q) hR e w h)
  exact rgA 0 (fun e w => m8_1 R (e 0) (e 1) (e 2) w) h hN
abbrev m8 (R : VP) (sticky0 l1 silent2 : Value) (w : World) : Prop := m8_0 R sticky0 l1 silent2 w
theorem s8 (sticky0 l1 silent2 : Value) {R : VP} {w : World} (h : m8 R sticky0 l1 silent2 w) :
    Calls Try.prog 8 #[sticky0, l1, silent2] w fun e w' => ∃ v, e = .returned v ∧ R v w' :=
  calls_of_cwp (st := (fun i => 0)) (c := k8_0) (by kernel_rfl) Try.func8 (by kernel_rfl) (Nat.le_of_ble_eq_true (by kernel_rfl)) (by kernel_rfl)
    (s8_0 (R := R) (Q := endE Try.prog Try.f8 R) (fun e w h => kcast (by kernel_rfl) h) (argsE #[sticky0, l1, silent2]) w (kcast (by kernel_rfl) h))
end Go.Proofs.Ytjjmlopmemmobaa.M
