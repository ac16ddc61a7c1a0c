/- What functions' texts ask of their ends, told over values that have names; printed by a program of this work. -/
import Derived.Test.YtnhgdngbdoifnaaFw
import Derived.Test.YtnhgdngbdoifnaaProg
namespace Go.Proofs.Ytnhgdngbdoifnaa.M
open Go.Proofs.Ytnhgdngbdoifnaa.F
set_option linter.unusedVariables false
set_option maxRecDepth 100000
/-! ### headgate/varint.Take -/
def m31_16 (R : VP) (K1 : (Value × Value) → World → Prop) (t2 t3 t4 : Value) (w : World) : Prop :=
  R (Value.tuple #[t2, t3, t4]) w
def m31_13 (R : VP) (K1 : (Value × Value) → World → Prop) (t2 t3 t4 : Value) (w : World) : Prop :=
  R (Value.tuple #[t2, t3, t4]) w
def m31_11 (R : VP) (K1 : (Value × Value) → World → Prop) (t2 t3 t4 : Value) (w : World) : Prop :=
  R (Value.tuple #[t2, t3, t4]) w
def m31_10 (R : VP) (K1 : (Value × Value) → World → Prop) (s0 u5 k6 : Value) (w : World) : Prop :=
  valQ Try.prog (binS BinOp.shr 73 (Operand.tmp 45) (Operand.const (Value.int IntKind.u64 1)) u5 (Value.int IntKind.u64 1)) w fun t46 =>
  valQ Try.prog (convert 73 3 t46) w fun t47 =>
  valQ Try.prog (binS BinOp.and 73 (Operand.tmp 48) (Operand.const (Value.int IntKind.u64 1)) u5 (Value.int IntKind.u64 1)) w fun t49 =>
  valQ Try.prog (convert 73 3 t49) w fun t50 =>
  valQ Try.prog (Op.unary UnOp.neg t50) w fun t51 =>
  valQ Try.prog (binS BinOp.xor 3 (Operand.tmp 47) (Operand.tmp 51) t47 t51) w fun t52 =>
  valQ Try.prog (Instr.sliceAt 9 s0 (some k6) none none) w fun t55 =>
  anyDraw w fun w =>
  m31_11 R K1 t52 t55 (Value.int IntKind.i64 0) w
def m31_12 (R : VP) (K1 : (Value × Value) → World → Prop) (s0 u5 k6 t44 : Value) (w : World) : Prop :=
  condP t44
  (m31_13 R K1 (Value.int IntKind.i64 0) (Value.string ⟨#[]⟩) (Value.int IntKind.i64 2) w)
  (m31_10 R K1 s0 u5 k6 w)
def m31_9 (R : VP) (K1 : (Value × Value) → World → Prop) (s0 u5 k6 c7 : Value) (w : World) : Prop :=
  valP Try.prog (binS BinOp.gtr 3 (Operand.tmp 31) (Operand.const (Value.int IntKind.i64 1)) k6 (Value.int IntKind.i64 1)) w fun t32 w =>
  condP t32
  (valP Try.prog (binS BinOp.eql 5 (Operand.tmp 34) (Operand.const (Value.int IntKind.u8 0)) c7 (Value.int IntKind.u8 0)) w fun t35 w =>
  pickP t32 t35 (Value.bool false) fun t36 =>
  condP t36
  (pickP t36 (Value.bool true) undef fun t44 =>
  m31_12 R K1 s0 u5 k6 t44 w)
  (valP Try.prog (binS BinOp.eql 3 (Operand.tmp 38) (Operand.const (Value.int IntKind.i64 10)) k6 (Value.int IntKind.i64 10)) w fun t39 w =>
  condP t39
  (valP Try.prog (binS BinOp.gtr 5 (Operand.tmp 41) (Operand.const (Value.int IntKind.u8 1)) c7 (Value.int IntKind.u8 1)) w fun t42 w =>
  pickP t39 t42 (Value.bool false) fun t43 =>
  pickP t36 (Value.bool true) t43 fun t44 =>
  m31_12 R K1 s0 u5 k6 t44 w)
  (pickP t39 undef (Value.bool false) fun t43 =>
  pickP t36 (Value.bool true) t43 fun t44 =>
  m31_12 R K1 s0 u5 k6 t44 w)))
  (pickP t32 undef (Value.bool false) fun t36 =>
  condP t36
  (pickP t36 (Value.bool true) undef fun t44 =>
  m31_12 R K1 s0 u5 k6 t44 w)
  (valP Try.prog (binS BinOp.eql 3 (Operand.tmp 38) (Operand.const (Value.int IntKind.i64 10)) k6 (Value.int IntKind.i64 10)) w fun t39 w =>
  condP t39
  (valP Try.prog (binS BinOp.gtr 5 (Operand.tmp 41) (Operand.const (Value.int IntKind.u8 1)) c7 (Value.int IntKind.u8 1)) w fun t42 w =>
  pickP t39 t42 (Value.bool false) fun t43 =>
  pickP t36 (Value.bool true) t43 fun t44 =>
  m31_12 R K1 s0 u5 k6 t44 w)
  (pickP t39 undef (Value.bool false) fun t43 =>
  pickP t36 (Value.bool true) t43 fun t44 =>
  m31_12 R K1 s0 u5 k6 t44 w)))
def m31_14 (R : VP) (K1 : (Value × Value) → World → Prop) (s0 u5 k6 c7 t30 : Value) (w : World) : Prop :=
  condP t30
  (K1 (u5, k6) w)
  (m31_9 R K1 s0 u5 k6 c7 w)
def m31_8 (R : VP) (K1 : (Value × Value) → World → Prop) (s0 u5 k6 c7 : Value) (w : World) : Prop :=
  valP Try.prog (binS BinOp.geq 5 (Operand.tmp 29) (Operand.const (Value.int IntKind.u8 128)) c7 (Value.int IntKind.u8 128)) w fun t30 w =>
  m31_14 R K1 s0 u5 k6 c7 t30 w
def m31_7 (R : VP) (K1 : (Value × Value) → World → Prop) (s0 u5 k6 c7 : Value) (w : World) : Prop :=
  valP Try.prog (binS BinOp.add 3 (Operand.tmp 27) (Operand.const (Value.int IntKind.i64 1)) k6 (Value.int IntKind.i64 1)) w fun t28 w =>
  m31_8 R K1 s0 u5 t28 c7 w
def m31_6 (R : VP) (K1 : (Value × Value) → World → Prop) (s0 u5 k6 c7 : Value) (w : World) : Prop :=
  valP Try.prog (binS BinOp.and 5 (Operand.tmp 20) (Operand.const (Value.int IntKind.u8 127)) c7 (Value.int IntKind.u8 127)) w fun t21 w =>
  valP Try.prog (convert 5 73 t21) w fun t22 w =>
  valP Try.prog (binS BinOp.mul 3 (Operand.const (Value.int IntKind.i64 7)) (Operand.tmp 23) (Value.int IntKind.i64 7) k6) w fun t24 w =>
  valP Try.prog (binS BinOp.shl 73 (Operand.tmp 22) (Operand.tmp 24) t22 t24) w fun t25 w =>
  valP Try.prog (binS BinOp.or 73 (Operand.tmp 19) (Operand.tmp 25) u5 t25) w fun t26 w =>
  m31_7 R K1 s0 t26 k6 c7 w
def m31_5 (R : VP) (K1 : (Value × Value) → World → Prop) (s0 u5 k6 : Value) (w : World) : Prop :=
  valP Try.prog (Instr.index 9 s0 k6) w fun t18 w =>
  m31_6 R K1 s0 u5 k6 t18 w
def m31_15 (R : VP) (K1 : (Value × Value) → World → Prop) (s0 u5 k6 t15 : Value) (w : World) : Prop :=
  condP t15
  (m31_16 R K1 (Value.int IntKind.i64 0) (Value.string ⟨#[]⟩) (Value.int IntKind.i64 2) w)
  (m31_5 R K1 s0 u5 k6 w)
def m31_4 (R : VP) (K1 : (Value × Value) → World → Prop) (s0 u5 k6 : Value) (w : World) : Prop :=
  builtinP Try.prog Builtin.len #[9] 3 #[false] #[s0] w fun t10 w =>
  valP Try.prog (binS BinOp.eql 3 (Operand.tmp 8) (Operand.tmp 10) k6 t10) w fun t11 w =>
  condP t11
  (pickP t11 (Value.bool true) undef fun t15 =>
  m31_15 R K1 s0 u5 k6 t15 w)
  (valP Try.prog (binS BinOp.eql 3 (Operand.tmp 13) (Operand.const (Value.int IntKind.i64 10)) k6 (Value.int IntKind.i64 10)) w fun t14 w =>
  pickP t11 (Value.bool true) t14 fun t15 =>
  m31_15 R K1 s0 u5 k6 t15 w)
def m31_3 (R : VP) (s0 u5 k6 : Value) (w : World) : Prop :=
  loopP (fun (K1 : (Value × Value) → World → Prop) (s : Value × Value) w => m31_4 R K1 s0 s.1 s.2 w) (u5, k6) w
def m31_2 (R : VP) (s0 u5 : Value) (w : World) : Prop :=
  m31_3 R s0 u5 (Value.int IntKind.i64 0) w
def m31_1 (R : VP) (s0 : Value) (w : World) : Prop :=
  m31_2 R s0 (Value.int IntKind.u64 0) w
def m31_0 (R : VP) (s0 : Value) (w : World) : Prop :=
  m31_1 R s0 w
abbrev W31 := cwp Try.prog (fun i => cond (Nat.beq i 11) 1 (0))
abbrev WL31 := cwpL Try.prog (fun i => cond (Nat.beq i 11) 1 (0))
abbrev WT31 := cwpT Try.prog (fun i => cond (Nat.beq i 11) 1 (0))
noncomputable def k31_0 : Code := (bodyOf Try.f31)
noncomputable def k31_1 : Code := (cS (c2 k31_0))
noncomputable def k31_2 : Code := (c2 k31_1)
noncomputable def k31_3 : Code := (c2 k31_2)
noncomputable def k31_4 : Code := (c2 k31_3)
noncomputable def k31_5 : Code := (c2 k31_4)
noncomputable def k31_6 : Code := (c2 k31_5)
noncomputable def k31_7 : Code := (c2 k31_6)
noncomputable def k31_8 : Code := (c2 k31_7)
noncomputable def k31_9 : Code := (c2 k31_8)
noncomputable def k31_10 : Code := (c2 k31_9)
noncomputable def k31_11 : Code := (c2 k31_10)
noncomputable def k31_12 : Code := (c2 (c1 k31_9))
noncomputable def k31_13 : Code := (c2 (c1 k31_12))
noncomputable def k31_14 : Code := (c2 (c1 k31_8))
noncomputable def k31_15 : Code := (c2 (c1 k31_4))
noncomputable def k31_16 : Code := (c2 (c1 k31_15))
theorem s31_16 {R : VP} {K1 : (Value × Value) → World → Prop} {Q : EQ} (hR : ∀ e w, (R (Value.tuple #[(e 2), (e 3), (e 4)]) w) → Q .ret e w) (e : Env) (w : World) (h : m31_16 R K1 (e 2) (e 3) (e 4) w) : W31 k31_16 Q e w := by
  unfold m31_16 at h
  exact reA (hR _ _ h)
theorem s31_13 {R : VP} {K1 : (Value × Value) → World → Prop} {Q : EQ} (hR : ∀ e w, (R (Value.tuple #[(e 2), (e 3), (e 4)]) w) → Q .ret e w) (e : Env) (w : World) (h : m31_13 R K1 (e 2) (e 3) (e 4) w) : W31 k31_13 Q e w := by
  unfold m31_13 at h
  exact reA (hR _ _ h)
theorem s31_11 {R : VP} {K1 : (Value × Value) → World → Prop} {Q : EQ} (hR : ∀ e w, (R (Value.tuple #[(e 2), (e 3), (e 4)]) w) → Q .ret e w) (e : Env) (w : World) (h : m31_11 R K1 (e 2) (e 3) (e 4) w) : W31 k31_11 Q e w := by
  unfold m31_11 at h
  exact reA (hR _ _ h)
theorem s31_10 {R : VP} {K1 : (Value × Value) → World → Prop} {Q : EQ} (hR : ∀ e w, (R (Value.tuple #[(e 2), (e 3), (e 4)]) w) → Q .ret e w) (e : Env) (w : World) (h : m31_10 R K1 (e 0) (e 5) (e 6) w) : W31 k31_10 Q e w := by
  unfold m31_10 at h
  refine seA ?_
  have hN : ∀ e w, (m31_11 R K1 (e 2) (e 3) (e 4) w) → (thenE (W31 k31_11 Q) Q) .normal e w := fun e w h => then_N (s31_11 (R := R) (Q := Q) (K1 := K1) hR e w h)
  exact quA 11 (fun e w => m31_11 R K1 (e 2) (e 3) (e 4) w) h hN
theorem s31_12 {R : VP} {K1 : (Value × Value) → World → Prop} {Q : EQ} (hN : ∀ e w, (m31_10 R K1 (e 0) (e 5) (e 6) w) → Q .normal e w) (hR : ∀ e w, (R (Value.tuple #[(e 2), (e 3), (e 4)]) w) → Q .ret e w) (e : Env) (w : World) (h : m31_12 R K1 (e 0) (e 5) (e 6) (e 44) w) : W31 k31_12 Q e w := by
  unfold m31_12 at h
  refine coA (Operand.tmp 44) h (fun h1 => ?_) (fun h1 => ?_)
  · refine seA ?_
    have hN : ∀ e w, (m31_13 R K1 (e 2) (e 3) (e 4) w) → (thenE (W31 k31_13 Q) Q) .normal e w := fun e w h => then_N (s31_13 (R := R) (Q := Q) (K1 := K1) hR e w h)
    exact rgA 10 (fun e w => m31_13 R K1 (e 2) (e 3) (e 4) w) h1 hN
  · exact skA (hN _ _ h1)
theorem s31_9 {R : VP} {K1 : (Value × Value) → World → Prop} {Q : EQ} (hR : ∀ e w, (R (Value.tuple #[(e 2), (e 3), (e 4)]) w) → Q .ret e w) (e : Env) (w : World) (h : m31_9 R K1 (e 0) (e 5) (e 6) (e 7) w) : W31 k31_9 Q e w := by
  unfold m31_9 at h
  refine seA ?_
  have hN : ∀ e w, (m31_10 R K1 (e 0) (e 5) (e 6) w) → (thenE (W31 k31_10 Q) Q) .normal e w := fun e w h => then_N (s31_10 (R := R) (Q := Q) (K1 := K1) hR e w h)
  have hR : ∀ e w, (R (Value.tuple #[(e 2), (e 3), (e 4)]) w) → (thenE (W31 k31_10 Q) Q) .ret e w := fun e w h => then_R (hR e w h)
  refine seA ?_
  have hN : ∀ e w, (m31_12 R K1 (e 0) (e 5) (e 6) (e 44) w) → (thenE (W31 k31_12 (thenE (W31 k31_10 Q) Q)) (thenE (W31 k31_10 Q) Q)) .normal e w := fun e w h => then_N (s31_12 (R := R) (Q := (thenE (W31 k31_10 Q) Q)) (K1 := K1) hN hR e w h)
  exact rgA 9 (fun e w => m31_12 R K1 (e 0) (e 5) (e 6) (e 44) w) h hN
theorem s31_14 {R : VP} {K1 : (Value × Value) → World → Prop} {Q : EQ} (hG0 : ∀ e w, (K1 ((e 5), (e 6)) w) → Q (.goto 0) e w) (hN : ∀ e w, (m31_9 R K1 (e 0) (e 5) (e 6) (e 7) w) → Q .normal e w) (e : Env) (w : World) (h : m31_14 R K1 (e 0) (e 5) (e 6) (e 7) (e 30) w) : W31 k31_14 Q e w := by
  unfold m31_14 at h
  refine coA (Operand.tmp 30) h (fun h1 => ?_) (fun h1 => ?_)
  · exact goA 0 (hG0 _ _ h1)
  · exact skA (hN _ _ h1)
theorem s31_8 {R : VP} {K1 : (Value × Value) → World → Prop} {Q : EQ} (hG0 : ∀ e w, (K1 ((e 5), (e 6)) w) → Q (.goto 0) e w) (hR : ∀ e w, (R (Value.tuple #[(e 2), (e 3), (e 4)]) w) → Q .ret e w) (e : Env) (w : World) (h : m31_8 R K1 (e 0) (e 5) (e 6) (e 7) w) : W31 k31_8 Q e w := by
  unfold m31_8 at h
  refine seA ?_
  have hN : ∀ e w, (m31_9 R K1 (e 0) (e 5) (e 6) (e 7) w) → (thenE (W31 k31_9 Q) Q) .normal e w := fun e w h => then_N (s31_9 (R := R) (Q := Q) (K1 := K1) hR e w h)
  have hG0 : ∀ e w, (K1 ((e 5), (e 6)) w) → (thenE (W31 k31_9 Q) Q) (.goto 0) e w := fun e w h => then_G (hG0 e w h)
  refine seA ?_
  have hN : ∀ e w, (m31_14 R K1 (e 0) (e 5) (e 6) (e 7) (e 30) w) → (thenE (W31 k31_14 (thenE (W31 k31_9 Q) Q)) (thenE (W31 k31_9 Q) Q)) .normal e w := fun e w h => then_N (s31_14 (R := R) (Q := (thenE (W31 k31_9 Q) Q)) (K1 := K1) hG0 hN e w h)
  exact rgA 8 (fun e w => m31_14 R K1 (e 0) (e 5) (e 6) (e 7) (e 30) w) h hN
theorem s31_7 {R : VP} {K1 : (Value × Value) → World → Prop} {Q : EQ} (hG0 : ∀ e w, (K1 ((e 5), (e 6)) w) → Q (.goto 0) e w) (hR : ∀ e w, (R (Value.tuple #[(e 2), (e 3), (e 4)]) w) → Q .ret e w) (e : Env) (w : World) (h : m31_7 R K1 (e 0) (e 5) (e 6) (e 7) w) : W31 k31_7 Q e w := by
  unfold m31_7 at h
  refine seA ?_
  have hN : ∀ e w, (m31_8 R K1 (e 0) (e 5) (e 6) (e 7) w) → (thenE (W31 k31_8 Q) Q) .normal e w := fun e w h => then_N (s31_8 (R := R) (Q := Q) (K1 := K1) hG0 hR e w h)
  exact rgA 7 (fun e w => m31_8 R K1 (e 0) (e 5) (e 6) (e 7) w) h hN
theorem s31_6 {R : VP} {K1 : (Value × Value) → World → Prop} {Q : EQ} (hG0 : ∀ e w, (K1 ((e 5), (e 6)) w) → Q (.goto 0) e w) (hR : ∀ e w, (R (Value.tuple #[(e 2), (e 3), (e 4)]) w) → Q .ret e w) (e : Env) (w : World) (h : m31_6 R K1 (e 0) (e 5) (e 6) (e 7) w) : W31 k31_6 Q e w := by
  unfold m31_6 at h
  refine seA ?_
  have hN : ∀ e w, (m31_7 R K1 (e 0) (e 5) (e 6) (e 7) w) → (thenE (W31 k31_7 Q) Q) .normal e w := fun e w h => then_N (s31_7 (R := R) (Q := Q) (K1 := K1) hG0 hR e w h)
  exact rgA 6 (fun e w => m31_7 R K1 (e 0) (e 5) (e 6) (e 7) w) h hN
theorem s31_5 {R : VP} {K1 : (Value × Value) → World → Prop} {Q : EQ} (hG0 : ∀ e w, (K1 ((e 5), (e 6)) w) → Q (.goto 0) e w) (hR : ∀ e w, (R (Value.tuple #[(e 2), (e 3), (e 4)]) w) → Q .ret e w) (e : Env) (w : World) (h : m31_5 R K1 (e 0) (e 5) (e 6) w) : W31 k31_5 Q e w := by
  unfold m31_5 at h
  refine seA ?_
  have hN : ∀ e w, (m31_6 R K1 (e 0) (e 5) (e 6) (e 7) w) → (thenE (W31 k31_6 Q) Q) .normal e w := fun e w h => then_N (s31_6 (R := R) (Q := Q) (K1 := K1) hG0 hR e w h)
  exact rgA 5 (fun e w => m31_6 R K1 (e 0) (e 5) (e 6) (e 7) w) h hN
theorem s31_15 {R : VP} {K1 : (Value × Value) → World → Prop} {Q : EQ} (hN : ∀ e w, (m31_5 R K1 (e 0) (e 5) (e 6) w) → Q .normal e w) (hR : ∀ e w, (R (Value.tuple #[(e 2), (e 3), (e 4)]) w) → Q .ret e w) (e : Env) (w : World) (h : m31_15 R K1 (e 0) (e 5) (e 6) (e 15) w) : W31 k31_15 Q e w := by
  unfold m31_15 at h
  refine coA (Operand.tmp 15) h (fun h1 => ?_) (fun h1 => ?_)
  · refine seA ?_
    have hN : ∀ e w, (m31_16 R K1 (e 2) (e 3) (e 4) w) → (thenE (W31 k31_16 Q) Q) .normal e w := fun e w h => then_N (s31_16 (R := R) (Q := Q) (K1 := K1) hR e w h)
    exact rgA 4 (fun e w => m31_16 R K1 (e 2) (e 3) (e 4) w) h1 hN
  · exact skA (hN _ _ h1)
theorem s31_4 {R : VP} {K1 : (Value × Value) → World → Prop} {Q : EQ} (hG0 : ∀ e w, (K1 ((e 5), (e 6)) w) → Q (.goto 0) e w) (hR : ∀ e w, (R (Value.tuple #[(e 2), (e 3), (e 4)]) w) → Q .ret e w) (e : Env) (w : World) (h : m31_4 R K1 (e 0) (e 5) (e 6) w) : W31 k31_4 Q e w := by
  unfold m31_4 at h
  refine seA ?_
  have hN : ∀ e w, (m31_5 R K1 (e 0) (e 5) (e 6) w) → (thenE (W31 k31_5 Q) Q) .normal e w := fun e w h => then_N (s31_5 (R := R) (Q := Q) (K1 := K1) hG0 hR e w h)
  have hR : ∀ e w, (R (Value.tuple #[(e 2), (e 3), (e 4)]) w) → (thenE (W31 k31_5 Q) Q) .ret e w := fun e w h => then_R (hR e w h)
  refine seA ?_
  have hN : ∀ e w, (m31_15 R K1 (e 0) (e 5) (e 6) (e 15) w) → (thenE (W31 k31_15 (thenE (W31 k31_5 Q) Q)) (thenE (W31 k31_5 Q) Q)) .normal e w := fun e w h => then_N (s31_15 (R := R) (Q := (thenE (W31 k31_5 Q) Q)) (K1 := K1) hN hR e w h)
  exact rgA 3 (fun e w => m31_15 R K1 (e 0) (e 5) (e 6) (e 15) w) h hN
theorem s31_3 {R : VP} {Q : EQ} (hR : ∀ e w, (R (Value.tuple #[(e 2), (e 3), (e 4)]) w) → Q .ret e w) (e : Env) (w : World) (h : m31_3 R (e 0) (e 5) (e 6) w) : WL31 k31_3 Q e w := by
  unfold m31_3 at h
  refine lab_ok 0 (fun (e : Env) => (e 5, e 6)) [0] (by kernel_rfl) (by kernel_rfl) h (fun K e' w' hk h' => ?_)
  have r0 : e' 0 = e 0 := hk 0 (by decide)
  have hR : ∀ e w, (R (Value.tuple #[(e 2), (e 3), (e 4)]) w) → (gotoE 0 (fun (e : Env) w => K ((e 5), (e 6)) w) Q) .ret e w := fun e w h => goto_R (hR e w h)
  exact s31_4 (R := R) (Q := (gotoE 0 (fun (e : Env) w => K ((e 5), (e 6)) w) Q)) (K1 := K) (fun _ _ h => goto_K h) hR e' w' (by rw [r0]; exact h')
theorem s31_2 {R : VP} {Q : EQ} (hR : ∀ e w, (R (Value.tuple #[(e 2), (e 3), (e 4)]) w) → Q .ret e w) (e : Env) (w : World) (h : m31_2 R (e 0) (e 5) w) : WL31 k31_2 Q e w := by
  unfold m31_2 at h
  refine seL ?_
  have hN : ∀ e w, (m31_3 R (e 0) (e 5) (e 6) w) → (thenE (WL31 k31_3 Q) Q) .normal e w := fun e w h => then_N (s31_3 (R := R) (Q := Q) hR e w h)
  exact rgA 2 (fun e w => m31_3 R (e 0) (e 5) (e 6) w) h hN
theorem s31_1 {R : VP} {Q : EQ} (hR : ∀ e w, (R (Value.tuple #[(e 2), (e 3), (e 4)]) w) → Q .ret e w) (e : Env) (w : World) (h : m31_1 R (e 0) w) : WL31 k31_1 Q e w := by
  unfold m31_1 at h
  refine seL ?_
  have hN : ∀ e w, (m31_2 R (e 0) (e 5) w) → (thenE (WL31 k31_2 Q) Q) .normal e w := fun e w h => then_N (s31_2 (R := R) (Q := Q) hR e w h)
  exact rgA 1 (fun e w => m31_2 R (e 0) (e 5) w) h hN
theorem s31_0 {R : VP} {Q : EQ} (hR : ∀ e w, (R (Value.tuple #[(e 2), (e 3), (e 4)]) w) → Q .ret e w) (e : Env) (w : World) (h : m31_0 R (e 0) w) : WT31 k31_0 Q e w := by
  unfold m31_0 at h
  show cwp Try.prog _ (c1 k31_0) (thenE (WL31 k31_1 Q) Q) e w
  have hN : ∀ e w, (m31_1 R (e 0) w) → (thenE (WL31 k31_1 Q) Q) .normal e w := fun e w h => then_N (s31_1 (R := R) (Q := Q) hR e w h)
  exact rgA 0 (fun e w => m31_1 R (e 0) w) h hN
abbrev m31 (R : VP) (s0 : Value) (w : World) : Prop := m31_0 R s0 w
theorem s31 (s0 : Value) {R : VP} {w : World} (h : m31 R s0 w) :
    Calls Try.prog 31 #[s0] w fun e w' => ∃ v, e = .returned v ∧ R v w' :=
  calls_of_cwpT (st := (fun i => cond (Nat.beq i 11) 1 (0))) (c := k31_0) 0 (by kernel_rfl) Try.func31 (by kernel_rfl) (by kernel_rfl) (Nat.le_of_ble_eq_true (by kernel_rfl)) (by kernel_rfl) (by kernel_rfl)
    (s31_0 (R := R) (Q := endE Try.prog Try.f31 R) (fun e w h => kcast (by kernel_rfl) h) (argsE #[s0]) w (kcast (by kernel_rfl) h))
/-! ### headgate/headgateref01.Put -/
def m17_10 (R : VP) (K1 : (Value × Value) → World → Prop) (u3 b4 : Value) (w : World) : Prop :=
  valP Try.prog (binS BinOp.quo 73 (Operand.tmp 25) (Operand.const (Value.int IntKind.u64 128)) u3 (Value.int IntKind.u64 128)) w fun t26 w =>
  K1 (t26, b4) w
def m17_9 (R : VP) (K1 : (Value × Value) → World → Prop) (u3 b4 : Value) (w : World) : Prop :=
  valP Try.prog (binS BinOp.rem 73 (Operand.tmp 19) (Operand.const (Value.int IntKind.u64 128)) u3 (Value.int IntKind.u64 128)) w fun t20 w =>
  valP Try.prog (binS BinOp.add 73 (Operand.tmp 20) (Operand.const (Value.int IntKind.u64 128)) t20 (Value.int IntKind.u64 128)) w fun t21 w =>
  valP Try.prog (convert 73 5 t21) w fun t22 w =>
  valP Try.prog (Instr.buildSlice 74 1 #[(0, t22)]) w fun t23 w =>
  builtinP Try.prog Builtin.append #[74, 74] 74 #[false, false] #[b4, t23] w fun t24 w =>
  m17_10 R K1 u3 t24 w
def m17_7 (R : VP) (t2 : Value) (w : World) : Prop :=
  R t2 w
def m17_6 (R : VP) (b4 : Value) (w : World) : Prop :=
  valP Try.prog (convert 74 9 b4) w fun t33 w =>
  m17_7 R t33 w
def m17_5 (R : VP) (u3 b4 : Value) (w : World) : Prop :=
  valP Try.prog (convert 73 5 u3) w fun t29 w =>
  valP Try.prog (Instr.buildSlice 74 1 #[(0, t29)]) w fun t30 w =>
  builtinP Try.prog Builtin.append #[74, 74] 74 #[false, false] #[b4, t30] w fun t31 w =>
  m17_6 R t31 w
def m17_11 (R : VP) (K1 : (Value × Value) → World → Prop) (u3 b4 t17 : Value) (w : World) : Prop :=
  condP t17
  (m17_9 R K1 u3 b4 w)
  (m17_5 R u3 b4 w)
def m17_8 (R : VP) (K1 : (Value × Value) → World → Prop) (u3 b4 : Value) (w : World) : Prop :=
  valP Try.prog (binS BinOp.gtr 73 (Operand.tmp 16) (Operand.const (Value.int IntKind.u64 127)) u3 (Value.int IntKind.u64 127)) w fun t17 w =>
  m17_11 R K1 u3 b4 t17 w
def m17_4 (R : VP) (u3 b4 : Value) (w : World) : Prop :=
  loopP (fun (K1 : (Value × Value) → World → Prop) (s : Value × Value) w => m17_8 R K1 s.1 s.2 w) (u3, b4) w
def m17_3 (R : VP) (u3 : Value) (w : World) : Prop :=
  m17_4 R u3 (Value.slice none 0 0) w
def m17_12 (R : VP) (n0 u3 t9 : Value) (w : World) : Prop :=
  condP t9
  (valP Try.prog (binS BinOp.add 3 (Operand.tmp 10) (Operand.const (Value.int IntKind.i64 1)) n0 (Value.int IntKind.i64 1)) w fun t11 w =>
  valP Try.prog (Op.unary UnOp.neg t11) w fun t12 w =>
  valP Try.prog (convert 3 73 t12) w fun t13 w =>
  valP Try.prog (binS BinOp.mul 73 (Operand.tmp 13) (Operand.const (Value.int IntKind.u64 2)) t13 (Value.int IntKind.u64 2)) w fun t14 w =>
  valP Try.prog (binS BinOp.add 73 (Operand.tmp 14) (Operand.const (Value.int IntKind.u64 1)) t14 (Value.int IntKind.u64 1)) w fun t15 w =>
  m17_3 R t15 w)
  (m17_3 R u3 w)
def m17_2 (R : VP) (n0 u3 : Value) (w : World) : Prop :=
  valP Try.prog (binS BinOp.lss 3 (Operand.tmp 8) (Operand.const (Value.int IntKind.i64 0)) n0 (Value.int IntKind.i64 0)) w fun t9 w =>
  m17_12 R n0 u3 t9 w
def m17_1 (R : VP) (n0 : Value) (w : World) : Prop :=
  valP Try.prog (convert 3 73 n0) w fun t6 w =>
  valP Try.prog (binS BinOp.mul 73 (Operand.tmp 6) (Operand.const (Value.int IntKind.u64 2)) t6 (Value.int IntKind.u64 2)) w fun t7 w =>
  m17_2 R n0 t7 w
def m17_0 (R : VP) (n0 : Value) (w : World) : Prop :=
  m17_1 R n0 w
abbrev W17 := cwp Try.prog (fun i => 0)
noncomputable def k17_0 : Code := (bodyOf Try.f17)
noncomputable def k17_1 : Code := (c2 k17_0)
noncomputable def k17_2 : Code := (c2 k17_1)
noncomputable def k17_3 : Code := (c2 k17_2)
noncomputable def k17_4 : Code := (c2 k17_3)
noncomputable def k17_5 : Code := (c2 k17_4)
noncomputable def k17_6 : Code := (c2 k17_5)
noncomputable def k17_7 : Code := (c2 k17_6)
noncomputable def k17_8 : Code := (c1 (c1 (c1 k17_4)))
noncomputable def k17_9 : Code := (c2 k17_8)
noncomputable def k17_10 : Code := (c2 (c1 k17_9))
noncomputable def k17_11 : Code := (c2 (c1 k17_8))
noncomputable def k17_12 : Code := (c2 (c1 k17_2))
theorem s17_10 {R : VP} {K1 : (Value × Value) → World → Prop} {Q : EQ} (hN : ∀ e w, (K1 ((e 3), (e 4)) w) → Q .normal e w) (e : Env) (w : World) (h : m17_10 R K1 (e 3) (e 4) w) : W17 k17_10 Q e w := by
  unfold m17_10 at h
  exact rgA 7 (fun e w => K1 ((e 3), (e 4)) w) h hN
theorem s17_9 {R : VP} {K1 : (Value × Value) → World → Prop} {Q : EQ} (hN : ∀ e w, (K1 ((e 3), (e 4)) w) → Q .normal e w) (e : Env) (w : World) (h : m17_9 R K1 (e 3) (e 4) w) : W17 k17_9 Q e w := by
  unfold m17_9 at h
  refine block_ok 1 (by kernel_rfl) ?_
  have hN : ∀ e w, (K1 ((e 3), (e 4)) w) → (inBlockE 1 Q) .normal e w := fun e w h => block_N (hN e w h)
  refine seA ?_
  have hN : ∀ e w, (m17_10 R K1 (e 3) (e 4) w) → (thenE (W17 k17_10 (inBlockE 1 Q)) (inBlockE 1 Q)) .normal e w := fun e w h => then_N (s17_10 (R := R) (Q := (inBlockE 1 Q)) (K1 := K1) hN e w h)
  exact rgA 6 (fun e w => m17_10 R K1 (e 3) (e 4) w) h hN
theorem s17_7 {R : VP} {Q : EQ} (hR : ∀ e w, (R (e 2) w) → Q .ret e w) (e : Env) (w : World) (h : m17_7 R (e 2) w) : W17 k17_7 Q e w := by
  unfold m17_7 at h
  exact reA (hR _ _ h)
theorem s17_6 {R : VP} {Q : EQ} (hR : ∀ e w, (R (e 2) w) → Q .ret e w) (e : Env) (w : World) (h : m17_6 R (e 4) w) : W17 k17_6 Q e w := by
  unfold m17_6 at h
  refine seA ?_
  have hN : ∀ e w, (m17_7 R (e 2) w) → (thenE (W17 k17_7 Q) Q) .normal e w := fun e w h => then_N (s17_7 (R := R) (Q := Q) hR e w h)
  exact rgA 9 (fun e w => m17_7 R (e 2) w) h hN
theorem s17_5 {R : VP} {Q : EQ} (hR : ∀ e w, (R (e 2) w) → Q .ret e w) (e : Env) (w : World) (h : m17_5 R (e 3) (e 4) w) : W17 k17_5 Q e w := by
  unfold m17_5 at h
  refine seA ?_
  have hN : ∀ e w, (m17_6 R (e 4) w) → (thenE (W17 k17_6 Q) Q) .normal e w := fun e w h => then_N (s17_6 (R := R) (Q := Q) hR e w h)
  exact rgA 8 (fun e w => m17_6 R (e 4) w) h hN
theorem s17_11 {R : VP} {K1 : (Value × Value) → World → Prop} {Q : EQ} (hN : ∀ e w, (m17_9 R K1 (e 3) (e 4) w) → Q .normal e w) (hX0 : ∀ e w, (m17_5 R (e 3) (e 4) w) → Q (.exit 0) e w) (e : Env) (w : World) (h : m17_11 R K1 (e 3) (e 4) (e 17) w) : W17 k17_11 Q e w := by
  unfold m17_11 at h
  refine coA (Operand.tmp 17) h (fun h1 => ?_) (fun h1 => ?_)
  · exact skA (hN _ _ h1)
  · exact exA 0 (hX0 _ _ h1)
theorem s17_8 {R : VP} {K1 : (Value × Value) → World → Prop} {Q : EQ} (hN : ∀ e w, (K1 ((e 3), (e 4)) w) → Q .normal e w) (hX0 : ∀ e w, (m17_5 R (e 3) (e 4) w) → Q (.exit 0) e w) (e : Env) (w : World) (h : m17_8 R K1 (e 3) (e 4) w) : W17 k17_8 Q e w := by
  unfold m17_8 at h
  refine seA ?_
  have hN : ∀ e w, (m17_9 R K1 (e 3) (e 4) w) → (thenE (W17 k17_9 Q) Q) .normal e w := fun e w h => then_N (s17_9 (R := R) (Q := Q) (K1 := K1) hN e w h)
  have hX0 : ∀ e w, (m17_5 R (e 3) (e 4) w) → (thenE (W17 k17_9 Q) Q) (.exit 0) e w := fun e w h => then_X (hX0 e w h)
  refine seA ?_
  have hN : ∀ e w, (m17_11 R K1 (e 3) (e 4) (e 17) w) → (thenE (W17 k17_11 (thenE (W17 k17_9 Q) Q)) (thenE (W17 k17_9 Q) Q)) .normal e w := fun e w h => then_N (s17_11 (R := R) (Q := (thenE (W17 k17_9 Q) Q)) (K1 := K1) hN hX0 e w h)
  exact rgA 5 (fun e w => m17_11 R K1 (e 3) (e 4) (e 17) w) h hN
theorem s17_4 {R : VP} {Q : EQ} (hR : ∀ e w, (R (e 2) w) → Q .ret e w) (e : Env) (w : World) (h : m17_4 R (e 3) (e 4) w) : W17 k17_4 Q e w := by
  unfold m17_4 at h
  refine seA ?_
  have hN : ∀ e w, (m17_5 R (e 3) (e 4) w) → (thenE (W17 k17_5 Q) Q) .normal e w := fun e w h => then_N (s17_5 (R := R) (Q := Q) hR e w h)
  refine block_ok 0 (by kernel_rfl) ?_
  have hX0 : ∀ e w, (m17_5 R (e 3) (e 4) w) → (inBlockE 0 (thenE (W17 k17_5 Q) Q)) (.exit 0) e w := fun e w h => inBlock_same (Q := (thenE (W17 k17_5 Q) Q)) 0 (hN e w h)
  refine loop_ok' (fun (e : Env) => (e 3, e 4)) [] (by kernel_rfl) (by kernel_rfl) h (fun K e' w' hk h' => ?_)
  have hX0 : ∀ e w, (m17_5 R (e 3) (e 4) w) → (thenE (fun (e : Env) w => K ((e 3), (e 4)) w) (inBlockE 0 (thenE (W17 k17_5 Q) Q))) (.exit 0) e w := fun e w h => then_X (hX0 e w h)
  exact s17_8 (R := R) (Q := (thenE (fun (e : Env) w => K ((e 3), (e 4)) w) (inBlockE 0 (thenE (W17 k17_5 Q) Q)))) (K1 := K) (fun _ _ h => then_N h) hX0 e' w' h'
theorem s17_3 {R : VP} {Q : EQ} (hR : ∀ e w, (R (e 2) w) → Q .ret e w) (e : Env) (w : World) (h : m17_3 R (e 3) w) : W17 k17_3 Q e w := by
  unfold m17_3 at h
  refine seA ?_
  have hN : ∀ e w, (m17_4 R (e 3) (e 4) w) → (thenE (W17 k17_4 Q) Q) .normal e w := fun e w h => then_N (s17_4 (R := R) (Q := Q) hR e w h)
  exact rgA 4 (fun e w => m17_4 R (e 3) (e 4) w) h hN
theorem s17_12 {R : VP} {Q : EQ} (hN : ∀ e w, (m17_3 R (e 3) w) → Q .normal e w) (e : Env) (w : World) (h : m17_12 R (e 0) (e 3) (e 9) w) : W17 k17_12 Q e w := by
  unfold m17_12 at h
  refine coA (Operand.tmp 9) h (fun h1 => ?_) (fun h1 => ?_)
  · exact rgA 3 (fun e w => m17_3 R (e 3) w) h1 hN
  · exact skA (hN _ _ h1)
theorem s17_2 {R : VP} {Q : EQ} (hR : ∀ e w, (R (e 2) w) → Q .ret e w) (e : Env) (w : World) (h : m17_2 R (e 0) (e 3) w) : W17 k17_2 Q e w := by
  unfold m17_2 at h
  refine seA ?_
  have hN : ∀ e w, (m17_3 R (e 3) w) → (thenE (W17 k17_3 Q) Q) .normal e w := fun e w h => then_N (s17_3 (R := R) (Q := Q) hR e w h)
  refine seA ?_
  have hN : ∀ e w, (m17_12 R (e 0) (e 3) (e 9) w) → (thenE (W17 k17_12 (thenE (W17 k17_3 Q) Q)) (thenE (W17 k17_3 Q) Q)) .normal e w := fun e w h => then_N (s17_12 (R := R) (Q := (thenE (W17 k17_3 Q) Q)) hN e w h)
  exact rgA 2 (fun e w => m17_12 R (e 0) (e 3) (e 9) w) h hN
theorem s17_1 {R : VP} {Q : EQ} (hR : ∀ e w, (R (e 2) w) → Q .ret e w) (e : Env) (w : World) (h : m17_1 R (e 0) w) : W17 k17_1 Q e w := by
  unfold m17_1 at h
  refine seA ?_
  have hN : ∀ e w, (m17_2 R (e 0) (e 3) w) → (thenE (W17 k17_2 Q) Q) .normal e w := fun e w h => then_N (s17_2 (R := R) (Q := Q) hR e w h)
  exact rgA 1 (fun e w => m17_2 R (e 0) (e 3) w) h hN
theorem s17_0 {R : VP} {Q : EQ} (hR : ∀ e w, (R (e 2) w) → Q .ret e w) (e : Env) (w : World) (h : m17_0 R (e 0) w) : W17 k17_0 Q e w := by
  unfold m17_0 at h
  refine seA ?_
  have hN : ∀ e w, (m17_1 R (e 0) w) → (thenE (W17 k17_1 Q) Q) .normal e w := fun e w h => then_N (s17_1 (R := R) (Q := Q) hR e w h)
  exact rgA 0 (fun e w => m17_1 R (e 0) w) h hN
abbrev m17 (R : VP) (n0 : Value) (w : World) : Prop := m17_0 R n0 w
theorem s17 (n0 : Value) {R : VP} {w : World} (h : m17 R n0 w) :
    Calls Try.prog 17 #[n0] w fun e w' => ∃ v, e = .returned v ∧ R v w' :=
  calls_of_cwp (st := (fun i => 0)) (c := k17_0) (by kernel_rfl) Try.func17 (by kernel_rfl) (Nat.le_of_ble_eq_true (by kernel_rfl)) (by kernel_rfl)
    (s17_0 (R := R) (Q := endE Try.prog Try.f17 R) (fun e w h => kcast (by kernel_rfl) h) (argsE #[n0]) w (kcast (by kernel_rfl) h))
/-! ### headgate/headgateref01.Take -/
def m55_22 (R : VP) (K1 : VP) (s0 k5 : Value) (w : World) : Prop :=
  valP Try.prog (binS BinOp.add 3 (Operand.tmp 23) (Operand.const (Value.int IntKind.i64 1)) k5 (Value.int IntKind.i64 1)) w fun t24 w =>
  K1 t24 w
def m55_20 (R : VP) (t2 t3 t4 : Value) (w : World) : Prop :=
  R (Value.tuple #[t2, t3, t4]) w
def m55_17 (R : VP) (K1 : (Value × Value) → World → Prop) (s0 k5 u6 i7 : Value) (w : World) : Prop :=
  valP Try.prog (binS BinOp.sub 3 (Operand.tmp 36) (Operand.const (Value.int IntKind.i64 1)) i7 (Value.int IntKind.i64 1)) w fun t37 w =>
  K1 (u6, t37) w
def m55_16 (R : VP) (K1 : (Value × Value) → World → Prop) (s0 k5 u6 i7 : Value) (w : World) : Prop :=
  valP Try.prog (binS BinOp.mul 73 (Operand.tmp 38) (Operand.const (Value.int IntKind.u64 128)) u6 (Value.int IntKind.u64 128)) w fun t39 w =>
  valP Try.prog (Instr.index 9 s0 i7) w fun t42 w =>
  valP Try.prog (convert 5 73 t42) w fun t43 w =>
  valP Try.prog (binS BinOp.rem 73 (Operand.tmp 43) (Operand.const (Value.int IntKind.u64 128)) t43 (Value.int IntKind.u64 128)) w fun t44 w =>
  valP Try.prog (binS BinOp.add 73 (Operand.tmp 39) (Operand.tmp 44) t39 t44) w fun t45 w =>
  m55_17 R K1 s0 k5 t45 i7 w
def m55_12 (R : VP) (t2 t3 t4 : Value) (w : World) : Prop :=
  R (Value.tuple #[t2, t3, t4]) w
def m55_10 (R : VP) (t2 t3 t4 : Value) (w : World) : Prop :=
  R (Value.tuple #[t2, t3, t4]) w
def m55_9 (R : VP) (s0 k5 n8 : Value) (w : World) : Prop :=
  valQ Try.prog (binS BinOp.add 3 (Operand.tmp 64) (Operand.const (Value.int IntKind.i64 1)) k5 (Value.int IntKind.i64 1)) w fun t65 =>
  valQ Try.prog (Instr.sliceAt 9 s0 (some t65) none none) w fun t66 =>
  anyDraw w fun w =>
  m55_10 R n8 t66 (Value.int IntKind.i64 0) w
def m55_11 (R : VP) (s0 k5 n8 t61 : Value) (w : World) : Prop :=
  condP t61
  (m55_12 R (Value.int IntKind.i64 0) (Value.string ⟨#[]⟩) (Value.int IntKind.i64 2) w)
  (m55_9 R s0 k5 n8 w)
def m55_8 (R : VP) (s0 k5 n8 : Value) (w : World) : Prop :=
  anyDraw w fun w =>
  pureP Try.prog (binS BinOp.add 3 (Operand.tmp 58) (Operand.const (Value.int IntKind.i64 1)) k5 (Value.int IntKind.i64 1)) fun t59 =>
  pureP Try.prog (Instr.sliceAt 9 s0 none (some t59) none) fun t60 =>
  callP Try.prog (fnV 17) #[n8] w fun t56 w =>
  pureP Try.prog (binS BinOp.neq 9 (Operand.tmp 56) (Operand.tmp 60) t56 t60) fun t61 =>
  m55_11 R s0 k5 n8 t61 w
def m55_13 (R : VP) (s0 k5 n8 t51 : Value) (w : World) : Prop :=
  condP t51
  (valP Try.prog (Op.unary UnOp.neg n8) w fun t53 w =>
  valP Try.prog (binS BinOp.sub 3 (Operand.tmp 53) (Operand.const (Value.int IntKind.i64 1)) t53 (Value.int IntKind.i64 1)) w fun t54 w =>
  m55_8 R s0 k5 t54 w)
  (m55_8 R s0 k5 n8 w)
def m55_7 (R : VP) (s0 k5 u6 n8 : Value) (w : World) : Prop :=
  valP Try.prog (binS BinOp.rem 73 (Operand.tmp 49) (Operand.const (Value.int IntKind.u64 2)) u6 (Value.int IntKind.u64 2)) w fun t50 w =>
  valP Try.prog (binS BinOp.eql 73 (Operand.tmp 50) (Operand.const (Value.int IntKind.u64 1)) t50 (Value.int IntKind.u64 1)) w fun t51 w =>
  m55_13 R s0 k5 n8 t51 w
def m55_6 (R : VP) (s0 k5 u6 : Value) (w : World) : Prop :=
  valP Try.prog (binS BinOp.quo 73 (Operand.tmp 46) (Operand.const (Value.int IntKind.u64 2)) u6 (Value.int IntKind.u64 2)) w fun t47 w =>
  valP Try.prog (convert 73 3 t47) w fun t48 w =>
  m55_7 R s0 k5 u6 t48 w
def m55_18 (R : VP) (K1 : (Value × Value) → World → Prop) (s0 k5 u6 i7 t35 : Value) (w : World) : Prop :=
  condP t35
  (m55_16 R K1 s0 k5 u6 i7 w)
  (m55_6 R s0 k5 u6 w)
def m55_15 (R : VP) (K1 : (Value × Value) → World → Prop) (s0 k5 u6 i7 : Value) (w : World) : Prop :=
  valP Try.prog (binS BinOp.geq 3 (Operand.tmp 34) (Operand.const (Value.int IntKind.i64 0)) i7 (Value.int IntKind.i64 0)) w fun t35 w =>
  m55_18 R K1 s0 k5 u6 i7 t35 w
def m55_14 (R : VP) (s0 k5 u6 i7 : Value) (w : World) : Prop :=
  loopP (fun (K1 : (Value × Value) → World → Prop) (s : Value × Value) w => m55_15 R K1 s0 k5 s.1 s.2 w) (u6, i7) w
def m55_5 (R : VP) (s0 k5 u6 : Value) (w : World) : Prop :=
  m55_14 R s0 k5 u6 k5 w
def m55_4 (R : VP) (s0 k5 : Value) (w : World) : Prop :=
  m55_5 R s0 k5 (Value.int IntKind.u64 0) w
def m55_19 (R : VP) (s0 k5 t32 : Value) (w : World) : Prop :=
  condP t32
  (m55_20 R (Value.int IntKind.i64 0) (Value.string ⟨#[]⟩) (Value.int IntKind.i64 2) w)
  (m55_4 R s0 k5 w)
def m55_3 (R : VP) (s0 k5 : Value) (w : World) : Prop :=
  builtinP Try.prog Builtin.len #[9] 3 #[false] #[s0] w fun t27 w =>
  valP Try.prog (binS BinOp.eql 3 (Operand.tmp 25) (Operand.tmp 27) k5 t27) w fun t28 w =>
  condP t28
  (pickP t28 (Value.bool true) undef fun t32 =>
  m55_19 R s0 k5 t32 w)
  (valP Try.prog (binS BinOp.eql 3 (Operand.tmp 30) (Operand.const (Value.int IntKind.i64 10)) k5 (Value.int IntKind.i64 10)) w fun t31 w =>
  pickP t28 (Value.bool true) t31 fun t32 =>
  m55_19 R s0 k5 t32 w)
def m55_23 (R : VP) (K1 : VP) (s0 k5 t22 : Value) (w : World) : Prop :=
  condP t22
  (m55_22 R K1 s0 k5 w)
  (m55_3 R s0 k5 w)
def m55_21 (R : VP) (K1 : VP) (s0 k5 : Value) (w : World) : Prop :=
  builtinP Try.prog Builtin.len #[9] 3 #[false] #[s0] w fun t11 w =>
  valP Try.prog (binS BinOp.lss 3 (Operand.tmp 9) (Operand.tmp 11) k5 t11) w fun t12 w =>
  condP t12
  (valP Try.prog (binS BinOp.lss 3 (Operand.tmp 14) (Operand.const (Value.int IntKind.i64 10)) k5 (Value.int IntKind.i64 10)) w fun t15 w =>
  pickP t12 t15 (Value.bool false) fun t16 =>
  condP t16
  (valP Try.prog (Instr.index 9 s0 k5) w fun t20 w =>
  valP Try.prog (binS BinOp.gtr 5 (Operand.tmp 20) (Operand.const (Value.int IntKind.u8 127)) t20 (Value.int IntKind.u8 127)) w fun t21 w =>
  pickP t16 t21 (Value.bool false) fun t22 =>
  m55_23 R K1 s0 k5 t22 w)
  (pickP t16 undef (Value.bool false) fun t22 =>
  m55_23 R K1 s0 k5 t22 w))
  (pickP t12 undef (Value.bool false) fun t16 =>
  condP t16
  (valP Try.prog (Instr.index 9 s0 k5) w fun t20 w =>
  valP Try.prog (binS BinOp.gtr 5 (Operand.tmp 20) (Operand.const (Value.int IntKind.u8 127)) t20 (Value.int IntKind.u8 127)) w fun t21 w =>
  pickP t16 t21 (Value.bool false) fun t22 =>
  m55_23 R K1 s0 k5 t22 w)
  (pickP t16 undef (Value.bool false) fun t22 =>
  m55_23 R K1 s0 k5 t22 w))
def m55_2 (R : VP) (s0 k5 : Value) (w : World) : Prop :=
  loopP (fun (K1 : VP) (s : Value) w => m55_21 R K1 s0 s w) k5 w
def m55_1 (R : VP) (s0 : Value) (w : World) : Prop :=
  m55_2 R s0 (Value.int IntKind.i64 0) w
def m55_0 (R : VP) (s0 : Value) (w : World) : Prop :=
  m55_1 R s0 w
abbrev W55 := cwp Try.prog (fun i => cond (Nat.beq i 16) 1 (0))
noncomputable def k55_0 : Code := (bodyOf Try.f55)
noncomputable def k55_1 : Code := (c2 k55_0)
noncomputable def k55_2 : Code := (c2 k55_1)
noncomputable def k55_3 : Code := (c2 k55_2)
noncomputable def k55_4 : Code := (c2 k55_3)
noncomputable def k55_5 : Code := (c2 k55_4)
noncomputable def k55_6 : Code := (c2 k55_5)
noncomputable def k55_7 : Code := (c2 k55_6)
noncomputable def k55_8 : Code := (c2 k55_7)
noncomputable def k55_9 : Code := (c2 k55_8)
noncomputable def k55_10 : Code := (c2 k55_9)
noncomputable def k55_11 : Code := (c2 (c1 k55_8))
noncomputable def k55_12 : Code := (c2 (c1 k55_11))
noncomputable def k55_13 : Code := (c2 (c1 k55_7))
noncomputable def k55_14 : Code := (c2 (c1 k55_5))
noncomputable def k55_15 : Code := (c1 (c1 k55_14))
noncomputable def k55_16 : Code := (c2 k55_15)
noncomputable def k55_17 : Code := (c2 k55_16)
noncomputable def k55_18 : Code := (c2 (c1 k55_15))
noncomputable def k55_19 : Code := (c2 (c1 k55_3))
noncomputable def k55_20 : Code := (c2 (c1 k55_19))
noncomputable def k55_21 : Code := (c1 (c1 (c1 k55_2)))
noncomputable def k55_22 : Code := (c2 k55_21)
noncomputable def k55_23 : Code := (c2 (c1 k55_21))
theorem s55_22 {R : VP} {K1 : VP} {Q : EQ} (hN : ∀ e w, (K1 (e 5) w) → Q .normal e w) (e : Env) (w : World) (h : m55_22 R K1 (e 0) (e 5) w) : W55 k55_22 Q e w := by
  unfold m55_22 at h
  refine block_ok 1 (by kernel_rfl) ?_
  have hN : ∀ e w, (K1 (e 5) w) → (inBlockE 1 Q) .normal e w := fun e w h => block_N (hN e w h)
  exact rgA 3 (fun e w => K1 (e 5) w) h hN
theorem s55_20 {R : VP} {Q : EQ} (hR : ∀ e w, (R (Value.tuple #[(e 2), (e 3), (e 4)]) w) → Q .ret e w) (e : Env) (w : World) (h : m55_20 R (e 2) (e 3) (e 4) w) : W55 k55_20 Q e w := by
  unfold m55_20 at h
  exact reA (hR _ _ h)
theorem s55_17 {R : VP} {K1 : (Value × Value) → World → Prop} {Q : EQ} (hN : ∀ e w, (K1 ((e 6), (e 7)) w) → Q .normal e w) (e : Env) (w : World) (h : m55_17 R K1 (e 0) (e 5) (e 6) (e 7) w) : W55 k55_17 Q e w := by
  unfold m55_17 at h
  exact rgA 9 (fun e w => K1 ((e 6), (e 7)) w) h hN
theorem s55_16 {R : VP} {K1 : (Value × Value) → World → Prop} {Q : EQ} (hN : ∀ e w, (K1 ((e 6), (e 7)) w) → Q .normal e w) (e : Env) (w : World) (h : m55_16 R K1 (e 0) (e 5) (e 6) (e 7) w) : W55 k55_16 Q e w := by
  unfold m55_16 at h
  refine seA ?_
  have hN : ∀ e w, (m55_17 R K1 (e 0) (e 5) (e 6) (e 7) w) → (thenE (W55 k55_17 Q) Q) .normal e w := fun e w h => then_N (s55_17 (R := R) (Q := Q) (K1 := K1) hN e w h)
  refine block_ok 3 (by kernel_rfl) ?_
  have hN : ∀ e w, (m55_17 R K1 (e 0) (e 5) (e 6) (e 7) w) → (inBlockE 3 (thenE (W55 k55_17 Q) Q)) .normal e w := fun e w h => block_N (hN e w h)
  exact rgA 10 (fun e w => m55_17 R K1 (e 0) (e 5) (e 6) (e 7) w) h hN
theorem s55_12 {R : VP} {Q : EQ} (hR : ∀ e w, (R (Value.tuple #[(e 2), (e 3), (e 4)]) w) → Q .ret e w) (e : Env) (w : World) (h : m55_12 R (e 2) (e 3) (e 4) w) : W55 k55_12 Q e w := by
  unfold m55_12 at h
  exact reA (hR _ _ h)
theorem s55_10 {R : VP} {Q : EQ} (hR : ∀ e w, (R (Value.tuple #[(e 2), (e 3), (e 4)]) w) → Q .ret e w) (e : Env) (w : World) (h : m55_10 R (e 2) (e 3) (e 4) w) : W55 k55_10 Q e w := by
  unfold m55_10 at h
  exact reA (hR _ _ h)
theorem s55_9 {R : VP} {Q : EQ} (hR : ∀ e w, (R (Value.tuple #[(e 2), (e 3), (e 4)]) w) → Q .ret e w) (e : Env) (w : World) (h : m55_9 R (e 0) (e 5) (e 8) w) : W55 k55_9 Q e w := by
  unfold m55_9 at h
  refine seA ?_
  have hN : ∀ e w, (m55_10 R (e 2) (e 3) (e 4) w) → (thenE (W55 k55_10 Q) Q) .normal e w := fun e w h => then_N (s55_10 (R := R) (Q := Q) hR e w h)
  exact quA 16 (fun e w => m55_10 R (e 2) (e 3) (e 4) w) h hN
theorem s55_11 {R : VP} {Q : EQ} (hN : ∀ e w, (m55_9 R (e 0) (e 5) (e 8) w) → Q .normal e w) (hR : ∀ e w, (R (Value.tuple #[(e 2), (e 3), (e 4)]) w) → Q .ret e w) (e : Env) (w : World) (h : m55_11 R (e 0) (e 5) (e 8) (e 61) w) : W55 k55_11 Q e w := by
  unfold m55_11 at h
  refine coA (Operand.tmp 61) h (fun h1 => ?_) (fun h1 => ?_)
  · refine seA ?_
    have hN : ∀ e w, (m55_12 R (e 2) (e 3) (e 4) w) → (thenE (W55 k55_12 Q) Q) .normal e w := fun e w h => then_N (s55_12 (R := R) (Q := Q) hR e w h)
    exact rgA 15 (fun e w => m55_12 R (e 2) (e 3) (e 4) w) h1 hN
  · exact skA (hN _ _ h1)
theorem s55_8 {R : VP} {Q : EQ} (hR : ∀ e w, (R (Value.tuple #[(e 2), (e 3), (e 4)]) w) → Q .ret e w) (e : Env) (w : World) (h : m55_8 R (e 0) (e 5) (e 8) w) : W55 k55_8 Q e w := by
  unfold m55_8 at h
  refine seA ?_
  have hN : ∀ e w, (m55_9 R (e 0) (e 5) (e 8) w) → (thenE (W55 k55_9 Q) Q) .normal e w := fun e w h => then_N (s55_9 (R := R) (Q := Q) hR e w h)
  have hR : ∀ e w, (R (Value.tuple #[(e 2), (e 3), (e 4)]) w) → (thenE (W55 k55_9 Q) Q) .ret e w := fun e w h => then_R (hR e w h)
  refine seA ?_
  have hN : ∀ e w, (m55_11 R (e 0) (e 5) (e 8) (e 61) w) → (thenE (W55 k55_11 (thenE (W55 k55_9 Q) Q)) (thenE (W55 k55_9 Q) Q)) .normal e w := fun e w h => then_N (s55_11 (R := R) (Q := (thenE (W55 k55_9 Q) Q)) hN hR e w h)
  exact tree_ok 14 7 [false, false, false, false, false, false, false] (.take 0 [true, false, false, false, false, false, false] (.take 2 [true, false, true, false, false, false, false] (.take 3 [true, false, true, true, false, false, false] (.take 4 [true, false, true, true, true, false, false] (.take 5 [true, false, true, true, true, true, false] (.alt 1 [true, true, true, true, true, true, false] (.take 6 [true, true, true, true, true, true, true] .done) .stop)))))) (fun e w => m55_11 R (e 0) (e 5) (e 8) (e 61) w) (by kernel_rfl) (by kernel_rfl) (by kernel_rfl) (by kernel_rfl) (by kernel_rfl) (by kernel_rfl) (kcast (by kernel_rfl) h) hN (by kernel_rfl)
theorem s55_13 {R : VP} {Q : EQ} (hN : ∀ e w, (m55_8 R (e 0) (e 5) (e 8) w) → Q .normal e w) (e : Env) (w : World) (h : m55_13 R (e 0) (e 5) (e 8) (e 51) w) : W55 k55_13 Q e w := by
  unfold m55_13 at h
  refine coA (Operand.tmp 51) h (fun h1 => ?_) (fun h1 => ?_)
  · exact rgA 13 (fun e w => m55_8 R (e 0) (e 5) (e 8) w) h1 hN
  · exact skA (hN _ _ h1)
theorem s55_7 {R : VP} {Q : EQ} (hR : ∀ e w, (R (Value.tuple #[(e 2), (e 3), (e 4)]) w) → Q .ret e w) (e : Env) (w : World) (h : m55_7 R (e 0) (e 5) (e 6) (e 8) w) : W55 k55_7 Q e w := by
  unfold m55_7 at h
  refine seA ?_
  have hN : ∀ e w, (m55_8 R (e 0) (e 5) (e 8) w) → (thenE (W55 k55_8 Q) Q) .normal e w := fun e w h => then_N (s55_8 (R := R) (Q := Q) hR e w h)
  refine seA ?_
  have hN : ∀ e w, (m55_13 R (e 0) (e 5) (e 8) (e 51) w) → (thenE (W55 k55_13 (thenE (W55 k55_8 Q) Q)) (thenE (W55 k55_8 Q) Q)) .normal e w := fun e w h => then_N (s55_13 (R := R) (Q := (thenE (W55 k55_8 Q) Q)) hN e w h)
  exact rgA 12 (fun e w => m55_13 R (e 0) (e 5) (e 8) (e 51) w) h hN
theorem s55_6 {R : VP} {Q : EQ} (hR : ∀ e w, (R (Value.tuple #[(e 2), (e 3), (e 4)]) w) → Q .ret e w) (e : Env) (w : World) (h : m55_6 R (e 0) (e 5) (e 6) w) : W55 k55_6 Q e w := by
  unfold m55_6 at h
  refine seA ?_
  have hN : ∀ e w, (m55_7 R (e 0) (e 5) (e 6) (e 8) w) → (thenE (W55 k55_7 Q) Q) .normal e w := fun e w h => then_N (s55_7 (R := R) (Q := Q) hR e w h)
  exact rgA 11 (fun e w => m55_7 R (e 0) (e 5) (e 6) (e 8) w) h hN
theorem s55_18 {R : VP} {K1 : (Value × Value) → World → Prop} {Q : EQ} (hN : ∀ e w, (m55_16 R K1 (e 0) (e 5) (e 6) (e 7) w) → Q .normal e w) (hX2 : ∀ e w, (m55_6 R (e 0) (e 5) (e 6) w) → Q (.exit 2) e w) (e : Env) (w : World) (h : m55_18 R K1 (e 0) (e 5) (e 6) (e 7) (e 35) w) : W55 k55_18 Q e w := by
  unfold m55_18 at h
  refine coA (Operand.tmp 35) h (fun h1 => ?_) (fun h1 => ?_)
  · exact skA (hN _ _ h1)
  · exact exA 2 (hX2 _ _ h1)
theorem s55_15 {R : VP} {K1 : (Value × Value) → World → Prop} {Q : EQ} (hN : ∀ e w, (K1 ((e 6), (e 7)) w) → Q .normal e w) (hX2 : ∀ e w, (m55_6 R (e 0) (e 5) (e 6) w) → Q (.exit 2) e w) (e : Env) (w : World) (h : m55_15 R K1 (e 0) (e 5) (e 6) (e 7) w) : W55 k55_15 Q e w := by
  unfold m55_15 at h
  refine seA ?_
  have hN : ∀ e w, (m55_16 R K1 (e 0) (e 5) (e 6) (e 7) w) → (thenE (W55 k55_16 Q) Q) .normal e w := fun e w h => then_N (s55_16 (R := R) (Q := Q) (K1 := K1) hN e w h)
  have hX2 : ∀ e w, (m55_6 R (e 0) (e 5) (e 6) w) → (thenE (W55 k55_16 Q) Q) (.exit 2) e w := fun e w h => then_X (hX2 e w h)
  refine seA ?_
  have hN : ∀ e w, (m55_18 R K1 (e 0) (e 5) (e 6) (e 7) (e 35) w) → (thenE (W55 k55_18 (thenE (W55 k55_16 Q) Q)) (thenE (W55 k55_16 Q) Q)) .normal e w := fun e w h => then_N (s55_18 (R := R) (Q := (thenE (W55 k55_16 Q) Q)) (K1 := K1) hN hX2 e w h)
  exact rgA 8 (fun e w => m55_18 R K1 (e 0) (e 5) (e 6) (e 7) (e 35) w) h hN
theorem s55_14 {R : VP} {Q : EQ} (hN : ∀ e w, (m55_6 R (e 0) (e 5) (e 6) w) → Q .normal e w) (e : Env) (w : World) (h : m55_14 R (e 0) (e 5) (e 6) (e 7) w) : W55 k55_14 Q e w := by
  unfold m55_14 at h
  refine block_ok 2 (by kernel_rfl) ?_
  have hX2 : ∀ e w, (m55_6 R (e 0) (e 5) (e 6) w) → (inBlockE 2 Q) (.exit 2) e w := fun e w h => inBlock_same (Q := Q) 2 (hN e w h)
  refine loop_ok' (fun (e : Env) => (e 6, e 7)) [0, 5] (by kernel_rfl) (by kernel_rfl) h (fun K e' w' hk h' => ?_)
  have r0 : e' 0 = e 0 := hk 0 (by decide)
  have r5 : e' 5 = e 5 := hk 5 (by decide)
  have hX2 : ∀ e w, (m55_6 R (e 0) (e 5) (e 6) w) → (thenE (fun (e : Env) w => K ((e 6), (e 7)) w) (inBlockE 2 Q)) (.exit 2) e w := fun e w h => then_X (hX2 e w h)
  exact s55_15 (R := R) (Q := (thenE (fun (e : Env) w => K ((e 6), (e 7)) w) (inBlockE 2 Q))) (K1 := K) (fun _ _ h => then_N h) hX2 e' w' (by rw [r0, r5]; exact h')
theorem s55_5 {R : VP} {Q : EQ} (hR : ∀ e w, (R (Value.tuple #[(e 2), (e 3), (e 4)]) w) → Q .ret e w) (e : Env) (w : World) (h : m55_5 R (e 0) (e 5) (e 6) w) : W55 k55_5 Q e w := by
  unfold m55_5 at h
  refine seA ?_
  have hN : ∀ e w, (m55_6 R (e 0) (e 5) (e 6) w) → (thenE (W55 k55_6 Q) Q) .normal e w := fun e w h => then_N (s55_6 (R := R) (Q := Q) hR e w h)
  refine seA ?_
  have hN : ∀ e w, (m55_14 R (e 0) (e 5) (e 6) (e 7) w) → (thenE (W55 k55_14 (thenE (W55 k55_6 Q) Q)) (thenE (W55 k55_6 Q) Q)) .normal e w := fun e w h => then_N (s55_14 (R := R) (Q := (thenE (W55 k55_6 Q) Q)) hN e w h)
  exact rgA 7 (fun e w => m55_14 R (e 0) (e 5) (e 6) (e 7) w) h hN
theorem s55_4 {R : VP} {Q : EQ} (hR : ∀ e w, (R (Value.tuple #[(e 2), (e 3), (e 4)]) w) → Q .ret e w) (e : Env) (w : World) (h : m55_4 R (e 0) (e 5) w) : W55 k55_4 Q e w := by
  unfold m55_4 at h
  refine seA ?_
  have hN : ∀ e w, (m55_5 R (e 0) (e 5) (e 6) w) → (thenE (W55 k55_5 Q) Q) .normal e w := fun e w h => then_N (s55_5 (R := R) (Q := Q) hR e w h)
  exact rgA 6 (fun e w => m55_5 R (e 0) (e 5) (e 6) w) h hN
theorem s55_19 {R : VP} {Q : EQ} (hN : ∀ e w, (m55_4 R (e 0) (e 5) w) → Q .normal e w) (hR : ∀ e w, (R (Value.tuple #[(e 2), (e 3), (e 4)]) w) → Q .ret e w) (e : Env) (w : World) (h : m55_19 R (e 0) (e 5) (e 32) w) : W55 k55_19 Q e w := by
  unfold m55_19 at h
  refine coA (Operand.tmp 32) h (fun h1 => ?_) (fun h1 => ?_)
  · refine seA ?_
    have hN : ∀ e w, (m55_20 R (e 2) (e 3) (e 4) w) → (thenE (W55 k55_20 Q) Q) .normal e w := fun e w h => then_N (s55_20 (R := R) (Q := Q) hR e w h)
    exact rgA 5 (fun e w => m55_20 R (e 2) (e 3) (e 4) w) h1 hN
  · exact skA (hN _ _ h1)
theorem s55_3 {R : VP} {Q : EQ} (hR : ∀ e w, (R (Value.tuple #[(e 2), (e 3), (e 4)]) w) → Q .ret e w) (e : Env) (w : World) (h : m55_3 R (e 0) (e 5) w) : W55 k55_3 Q e w := by
  unfold m55_3 at h
  refine seA ?_
  have hN : ∀ e w, (m55_4 R (e 0) (e 5) w) → (thenE (W55 k55_4 Q) Q) .normal e w := fun e w h => then_N (s55_4 (R := R) (Q := Q) hR e w h)
  have hR : ∀ e w, (R (Value.tuple #[(e 2), (e 3), (e 4)]) w) → (thenE (W55 k55_4 Q) Q) .ret e w := fun e w h => then_R (hR e w h)
  refine seA ?_
  have hN : ∀ e w, (m55_19 R (e 0) (e 5) (e 32) w) → (thenE (W55 k55_19 (thenE (W55 k55_4 Q) Q)) (thenE (W55 k55_4 Q) Q)) .normal e w := fun e w h => then_N (s55_19 (R := R) (Q := (thenE (W55 k55_4 Q) Q)) hN hR e w h)
  exact rgA 4 (fun e w => m55_19 R (e 0) (e 5) (e 32) w) h hN
theorem s55_23 {R : VP} {K1 : VP} {Q : EQ} (hN : ∀ e w, (m55_22 R K1 (e 0) (e 5) w) → Q .normal e w) (hX0 : ∀ e w, (m55_3 R (e 0) (e 5) w) → Q (.exit 0) e w) (e : Env) (w : World) (h : m55_23 R K1 (e 0) (e 5) (e 22) w) : W55 k55_23 Q e w := by
  unfold m55_23 at h
  refine coA (Operand.tmp 22) h (fun h1 => ?_) (fun h1 => ?_)
  · exact skA (hN _ _ h1)
  · exact exA 0 (hX0 _ _ h1)
theorem s55_21 {R : VP} {K1 : VP} {Q : EQ} (hN : ∀ e w, (K1 (e 5) w) → Q .normal e w) (hX0 : ∀ e w, (m55_3 R (e 0) (e 5) w) → Q (.exit 0) e w) (e : Env) (w : World) (h : m55_21 R K1 (e 0) (e 5) w) : W55 k55_21 Q e w := by
  unfold m55_21 at h
  refine seA ?_
  have hN : ∀ e w, (m55_22 R K1 (e 0) (e 5) w) → (thenE (W55 k55_22 Q) Q) .normal e w := fun e w h => then_N (s55_22 (R := R) (Q := Q) (K1 := K1) hN e w h)
  have hX0 : ∀ e w, (m55_3 R (e 0) (e 5) w) → (thenE (W55 k55_22 Q) Q) (.exit 0) e w := fun e w h => then_X (hX0 e w h)
  refine seA ?_
  have hN : ∀ e w, (m55_23 R K1 (e 0) (e 5) (e 22) w) → (thenE (W55 k55_23 (thenE (W55 k55_22 Q) Q)) (thenE (W55 k55_22 Q) Q)) .normal e w := fun e w h => then_N (s55_23 (R := R) (Q := (thenE (W55 k55_22 Q) Q)) (K1 := K1) hN hX0 e w h)
  exact rgA 2 (fun e w => m55_23 R K1 (e 0) (e 5) (e 22) w) h hN
theorem s55_2 {R : VP} {Q : EQ} (hR : ∀ e w, (R (Value.tuple #[(e 2), (e 3), (e 4)]) w) → Q .ret e w) (e : Env) (w : World) (h : m55_2 R (e 0) (e 5) w) : W55 k55_2 Q e w := by
  unfold m55_2 at h
  refine seA ?_
  have hN : ∀ e w, (m55_3 R (e 0) (e 5) w) → (thenE (W55 k55_3 Q) Q) .normal e w := fun e w h => then_N (s55_3 (R := R) (Q := Q) hR e w h)
  refine block_ok 0 (by kernel_rfl) ?_
  have hX0 : ∀ e w, (m55_3 R (e 0) (e 5) w) → (inBlockE 0 (thenE (W55 k55_3 Q) Q)) (.exit 0) e w := fun e w h => inBlock_same (Q := (thenE (W55 k55_3 Q) Q)) 0 (hN e w h)
  refine loop_ok' (fun (e : Env) => e 5) [0] (by kernel_rfl) (by kernel_rfl) h (fun K e' w' hk h' => ?_)
  have r0 : e' 0 = e 0 := hk 0 (by decide)
  have hX0 : ∀ e w, (m55_3 R (e 0) (e 5) w) → (thenE (fun (e : Env) w => K (e 5) w) (inBlockE 0 (thenE (W55 k55_3 Q) Q))) (.exit 0) e w := fun e w h => then_X (hX0 e w h)
  exact s55_21 (R := R) (Q := (thenE (fun (e : Env) w => K (e 5) w) (inBlockE 0 (thenE (W55 k55_3 Q) Q)))) (K1 := K) (fun _ _ h => then_N h) hX0 e' w' (by rw [r0]; exact h')
theorem s55_1 {R : VP} {Q : EQ} (hR : ∀ e w, (R (Value.tuple #[(e 2), (e 3), (e 4)]) w) → Q .ret e w) (e : Env) (w : World) (h : m55_1 R (e 0) w) : W55 k55_1 Q e w := by
  unfold m55_1 at h
  refine seA ?_
  have hN : ∀ e w, (m55_2 R (e 0) (e 5) w) → (thenE (W55 k55_2 Q) Q) .normal e w := fun e w h => then_N (s55_2 (R := R) (Q := Q) hR e w h)
  exact rgA 1 (fun e w => m55_2 R (e 0) (e 5) w) h hN
theorem s55_0 {R : VP} {Q : EQ} (hR : ∀ e w, (R (Value.tuple #[(e 2), (e 3), (e 4)]) w) → Q .ret e w) (e : Env) (w : World) (h : m55_0 R (e 0) w) : W55 k55_0 Q e w := by
  unfold m55_0 at h
  refine seA ?_
  have hN : ∀ e w, (m55_1 R (e 0) w) → (thenE (W55 k55_1 Q) Q) .normal e w := fun e w h => then_N (s55_1 (R := R) (Q := Q) hR e w h)
  exact rgA 0 (fun e w => m55_1 R (e 0) w) h hN
abbrev m55 (R : VP) (s0 : Value) (w : World) : Prop := m55_0 R s0 w
theorem s55 (s0 : Value) {R : VP} {w : World} (h : m55 R s0 w) :
    Calls Try.prog 55 #[s0] w fun e w' => ∃ v, e = .returned v ∧ R v w' :=
  calls_of_cwp (st := (fun i => cond (Nat.beq i 16) 1 (0))) (c := k55_0) (by kernel_rfl) Try.func55 (by kernel_rfl) (Nat.le_of_ble_eq_true (by kernel_rfl)) (by kernel_rfl)
    (s55_0 (R := R) (Q := endE Try.prog Try.f55 R) (fun e w h => kcast (by kernel_rfl) h) (argsE #[s0]) w (kcast (by kernel_rfl) h))
/-! ### headgate/varint.Put -/
def m32_10 (R : VP) (K1 : (Value × Value) → World → Prop) (u3 b4 k5 : Value) (w : World) : Prop :=
  valP Try.prog (binS BinOp.add 3 (Operand.tmp 15) (Operand.const (Value.int IntKind.i64 1)) k5 (Value.int IntKind.i64 1)) w fun t16 w =>
  K1 (u3, t16) w
def m32_11 (R : VP) (K1 : (Value × Value) → World → Prop) (u3 b4 k5 : Value) (w : World) : Prop :=
  valP Try.prog (binS BinOp.shr 73 (Operand.tmp 22) (Operand.const (Value.int IntKind.u64 7)) u3 (Value.int IntKind.u64 7)) w fun t23 w =>
  m32_10 R K1 t23 b4 k5 w
def m32_9 (R : VP) (K1 : (Value × Value) → World → Prop) (u3 b4 k5 : Value) (w : World) : Prop :=
  valP Try.prog (convert 73 5 u3) w fun t19 w =>
  valP Try.prog (binS BinOp.or 5 (Operand.tmp 19) (Operand.const (Value.int IntKind.u8 128)) t19 (Value.int IntKind.u8 128)) w fun t20 w =>
  valP Try.prog (Instr.indexAt 96 b4 k5) w fun t21 w =>
  unitP Try.prog (Instr.storeAt 5 t21 t20) w fun _ w =>
  m32_11 R K1 u3 b4 k5 w
def m32_7 (R : VP) (t2 : Value) (w : World) : Prop :=
  R t2 w
def m32_6 (R : VP) (b4 k5 : Value) (w : World) : Prop :=
  valP Try.prog (binS BinOp.add 3 (Operand.tmp 28) (Operand.const (Value.int IntKind.i64 1)) k5 (Value.int IntKind.i64 1)) w fun t29 w =>
  valP Try.prog (Instr.sliceAt 96 b4 none (some t29) none) w fun t30 w =>
  valP Try.prog (convert 74 9 t30) w fun t31 w =>
  m32_7 R t31 w
def m32_5 (R : VP) (u3 b4 k5 : Value) (w : World) : Prop :=
  valP Try.prog (convert 73 5 u3) w fun t26 w =>
  valP Try.prog (Instr.indexAt 96 b4 k5) w fun t27 w =>
  unitP Try.prog (Instr.storeAt 5 t27 t26) w fun _ w =>
  m32_6 R b4 k5 w
def m32_12 (R : VP) (K1 : (Value × Value) → World → Prop) (u3 b4 k5 t14 : Value) (w : World) : Prop :=
  condP t14
  (m32_9 R K1 u3 b4 k5 w)
  (m32_5 R u3 b4 k5 w)
def m32_8 (R : VP) (K1 : (Value × Value) → World → Prop) (u3 b4 k5 : Value) (w : World) : Prop :=
  valP Try.prog (binS BinOp.geq 73 (Operand.tmp 13) (Operand.const (Value.int IntKind.u64 128)) u3 (Value.int IntKind.u64 128)) w fun t14 w =>
  m32_12 R K1 u3 b4 k5 t14 w
def m32_4 (R : VP) (u3 b4 k5 : Value) (w : World) : Prop :=
  loopP (fun (K1 : (Value × Value) → World → Prop) (s : Value × Value) w => m32_8 R K1 s.1 b4 s.2 w) (u3, k5) w
def m32_3 (R : VP) (u3 b4 : Value) (w : World) : Prop :=
  m32_4 R u3 b4 (Value.int IntKind.i64 0) w
def m32_2 (R : VP) (u3 : Value) (w : World) : Prop :=
  valP Try.prog (Instr.alloc 96 true (.tuple #[])) w fun b4 w =>
  m32_3 R u3 b4 w
def m32_1 (R : VP) (n0 : Value) (w : World) : Prop :=
  valP Try.prog (convert 3 73 n0) w fun t7 w =>
  valP Try.prog (binS BinOp.shl 73 (Operand.tmp 7) (Operand.const (Value.int IntKind.u64 1)) t7 (Value.int IntKind.u64 1)) w fun t8 w =>
  valP Try.prog (binS BinOp.shr 3 (Operand.tmp 9) (Operand.const (Value.int IntKind.u64 63)) n0 (Value.int IntKind.u64 63)) w fun t10 w =>
  valP Try.prog (convert 3 73 t10) w fun t11 w =>
  valP Try.prog (binS BinOp.xor 73 (Operand.tmp 8) (Operand.tmp 11) t8 t11) w fun t12 w =>
  m32_2 R t12 w
def m32_0 (R : VP) (n0 : Value) (w : World) : Prop :=
  m32_1 R n0 w
abbrev W32 := cwp Try.prog (fun i => 0)
noncomputable def k32_0 : Code := (bodyOf Try.f32)
noncomputable def k32_1 : Code := (c2 k32_0)
noncomputable def k32_2 : Code := (c2 k32_1)
noncomputable def k32_3 : Code := (c2 k32_2)
noncomputable def k32_4 : Code := (c2 k32_3)
noncomputable def k32_5 : Code := (c2 k32_4)
noncomputable def k32_6 : Code := (c2 k32_5)
noncomputable def k32_7 : Code := (c2 k32_6)
noncomputable def k32_8 : Code := (c1 (c1 (c1 k32_4)))
noncomputable def k32_9 : Code := (c2 k32_8)
noncomputable def k32_10 : Code := (c2 k32_9)
noncomputable def k32_11 : Code := (c2 (c1 (c1 k32_9)))
noncomputable def k32_12 : Code := (c2 (c1 k32_8))
theorem s32_10 {R : VP} {K1 : (Value × Value) → World → Prop} {Q : EQ} (hN : ∀ e w, (K1 ((e 3), (e 5)) w) → Q .normal e w) (e : Env) (w : World) (h : m32_10 R K1 (e 3) (e 4) (e 5) w) : W32 k32_10 Q e w := by
  unfold m32_10 at h
  exact rgA 5 (fun e w => K1 ((e 3), (e 5)) w) h hN
theorem s32_11 {R : VP} {K1 : (Value × Value) → World → Prop} {Q : EQ} (hN : ∀ e w, (m32_10 R K1 (e 3) (e 4) (e 5) w) → Q .normal e w) (e : Env) (w : World) (h : m32_11 R K1 (e 3) (e 4) (e 5) w) : W32 k32_11 Q e w := by
  unfold m32_11 at h
  exact rgA 7 (fun e w => m32_10 R K1 (e 3) (e 4) (e 5) w) h hN
theorem s32_9 {R : VP} {K1 : (Value × Value) → World → Prop} {Q : EQ} (hN : ∀ e w, (K1 ((e 3), (e 5)) w) → Q .normal e w) (e : Env) (w : World) (h : m32_9 R K1 (e 3) (e 4) (e 5) w) : W32 k32_9 Q e w := by
  unfold m32_9 at h
  refine seA ?_
  have hN : ∀ e w, (m32_10 R K1 (e 3) (e 4) (e 5) w) → (thenE (W32 k32_10 Q) Q) .normal e w := fun e w h => then_N (s32_10 (R := R) (Q := Q) (K1 := K1) hN e w h)
  refine block_ok 1 (by kernel_rfl) ?_
  have hN : ∀ e w, (m32_10 R K1 (e 3) (e 4) (e 5) w) → (inBlockE 1 (thenE (W32 k32_10 Q) Q)) .normal e w := fun e w h => block_N (hN e w h)
  refine seA ?_
  have hN : ∀ e w, (m32_11 R K1 (e 3) (e 4) (e 5) w) → (thenE (W32 k32_11 (inBlockE 1 (thenE (W32 k32_10 Q) Q))) (inBlockE 1 (thenE (W32 k32_10 Q) Q))) .normal e w := fun e w h => then_N (s32_11 (R := R) (Q := (inBlockE 1 (thenE (W32 k32_10 Q) Q))) (K1 := K1) hN e w h)
  exact rgA 6 (fun e w => m32_11 R K1 (e 3) (e 4) (e 5) w) h hN
theorem s32_7 {R : VP} {Q : EQ} (hR : ∀ e w, (R (e 2) w) → Q .ret e w) (e : Env) (w : World) (h : m32_7 R (e 2) w) : W32 k32_7 Q e w := by
  unfold m32_7 at h
  exact reA (hR _ _ h)
theorem s32_6 {R : VP} {Q : EQ} (hR : ∀ e w, (R (e 2) w) → Q .ret e w) (e : Env) (w : World) (h : m32_6 R (e 4) (e 5) w) : W32 k32_6 Q e w := by
  unfold m32_6 at h
  refine seA ?_
  have hN : ∀ e w, (m32_7 R (e 2) w) → (thenE (W32 k32_7 Q) Q) .normal e w := fun e w h => then_N (s32_7 (R := R) (Q := Q) hR e w h)
  exact rgA 9 (fun e w => m32_7 R (e 2) w) h hN
theorem s32_5 {R : VP} {Q : EQ} (hR : ∀ e w, (R (e 2) w) → Q .ret e w) (e : Env) (w : World) (h : m32_5 R (e 3) (e 4) (e 5) w) : W32 k32_5 Q e w := by
  unfold m32_5 at h
  refine seA ?_
  have hN : ∀ e w, (m32_6 R (e 4) (e 5) w) → (thenE (W32 k32_6 Q) Q) .normal e w := fun e w h => then_N (s32_6 (R := R) (Q := Q) hR e w h)
  exact rgA 8 (fun e w => m32_6 R (e 4) (e 5) w) h hN
theorem s32_12 {R : VP} {K1 : (Value × Value) → World → Prop} {Q : EQ} (hN : ∀ e w, (m32_9 R K1 (e 3) (e 4) (e 5) w) → Q .normal e w) (hX0 : ∀ e w, (m32_5 R (e 3) (e 4) (e 5) w) → Q (.exit 0) e w) (e : Env) (w : World) (h : m32_12 R K1 (e 3) (e 4) (e 5) (e 14) w) : W32 k32_12 Q e w := by
  unfold m32_12 at h
  refine coA (Operand.tmp 14) h (fun h1 => ?_) (fun h1 => ?_)
  · exact skA (hN _ _ h1)
  · exact exA 0 (hX0 _ _ h1)
theorem s32_8 {R : VP} {K1 : (Value × Value) → World → Prop} {Q : EQ} (hN : ∀ e w, (K1 ((e 3), (e 5)) w) → Q .normal e w) (hX0 : ∀ e w, (m32_5 R (e 3) (e 4) (e 5) w) → Q (.exit 0) e w) (e : Env) (w : World) (h : m32_8 R K1 (e 3) (e 4) (e 5) w) : W32 k32_8 Q e w := by
  unfold m32_8 at h
  refine seA ?_
  have hN : ∀ e w, (m32_9 R K1 (e 3) (e 4) (e 5) w) → (thenE (W32 k32_9 Q) Q) .normal e w := fun e w h => then_N (s32_9 (R := R) (Q := Q) (K1 := K1) hN e w h)
  have hX0 : ∀ e w, (m32_5 R (e 3) (e 4) (e 5) w) → (thenE (W32 k32_9 Q) Q) (.exit 0) e w := fun e w h => then_X (hX0 e w h)
  refine seA ?_
  have hN : ∀ e w, (m32_12 R K1 (e 3) (e 4) (e 5) (e 14) w) → (thenE (W32 k32_12 (thenE (W32 k32_9 Q) Q)) (thenE (W32 k32_9 Q) Q)) .normal e w := fun e w h => then_N (s32_12 (R := R) (Q := (thenE (W32 k32_9 Q) Q)) (K1 := K1) hN hX0 e w h)
  exact rgA 4 (fun e w => m32_12 R K1 (e 3) (e 4) (e 5) (e 14) w) h hN
theorem s32_4 {R : VP} {Q : EQ} (hR : ∀ e w, (R (e 2) w) → Q .ret e w) (e : Env) (w : World) (h : m32_4 R (e 3) (e 4) (e 5) w) : W32 k32_4 Q e w := by
  unfold m32_4 at h
  refine seA ?_
  have hN : ∀ e w, (m32_5 R (e 3) (e 4) (e 5) w) → (thenE (W32 k32_5 Q) Q) .normal e w := fun e w h => then_N (s32_5 (R := R) (Q := Q) hR e w h)
  refine block_ok 0 (by kernel_rfl) ?_
  have hX0 : ∀ e w, (m32_5 R (e 3) (e 4) (e 5) w) → (inBlockE 0 (thenE (W32 k32_5 Q) Q)) (.exit 0) e w := fun e w h => inBlock_same (Q := (thenE (W32 k32_5 Q) Q)) 0 (hN e w h)
  refine loop_ok' (fun (e : Env) => (e 3, e 5)) [4] (by kernel_rfl) (by kernel_rfl) h (fun K e' w' hk h' => ?_)
  have r4 : e' 4 = e 4 := hk 4 (by decide)
  have hX0 : ∀ e w, (m32_5 R (e 3) (e 4) (e 5) w) → (thenE (fun (e : Env) w => K ((e 3), (e 5)) w) (inBlockE 0 (thenE (W32 k32_5 Q) Q))) (.exit 0) e w := fun e w h => then_X (hX0 e w h)
  exact s32_8 (R := R) (Q := (thenE (fun (e : Env) w => K ((e 3), (e 5)) w) (inBlockE 0 (thenE (W32 k32_5 Q) Q)))) (K1 := K) (fun _ _ h => then_N h) hX0 e' w' (by rw [r4]; exact h')
theorem s32_3 {R : VP} {Q : EQ} (hR : ∀ e w, (R (e 2) w) → Q .ret e w) (e : Env) (w : World) (h : m32_3 R (e 3) (e 4) w) : W32 k32_3 Q e w := by
  unfold m32_3 at h
  refine seA ?_
  have hN : ∀ e w, (m32_4 R (e 3) (e 4) (e 5) w) → (thenE (W32 k32_4 Q) Q) .normal e w := fun e w h => then_N (s32_4 (R := R) (Q := Q) hR e w h)
  exact rgA 3 (fun e w => m32_4 R (e 3) (e 4) (e 5) w) h hN
theorem s32_2 {R : VP} {Q : EQ} (hR : ∀ e w, (R (e 2) w) → Q .ret e w) (e : Env) (w : World) (h : m32_2 R (e 3) w) : W32 k32_2 Q e w := by
  unfold m32_2 at h
  refine seA ?_
  have hN : ∀ e w, (m32_3 R (e 3) (e 4) w) → (thenE (W32 k32_3 Q) Q) .normal e w := fun e w h => then_N (s32_3 (R := R) (Q := Q) hR e w h)
  exact rgA 2 (fun e w => m32_3 R (e 3) (e 4) w) h hN
theorem s32_1 {R : VP} {Q : EQ} (hR : ∀ e w, (R (e 2) w) → Q .ret e w) (e : Env) (w : World) (h : m32_1 R (e 0) w) : W32 k32_1 Q e w := by
  unfold m32_1 at h
  refine seA ?_
  have hN : ∀ e w, (m32_2 R (e 3) w) → (thenE (W32 k32_2 Q) Q) .normal e w := fun e w h => then_N (s32_2 (R := R) (Q := Q) hR e w h)
  exact rgA 1 (fun e w => m32_2 R (e 3) w) h hN
theorem s32_0 {R : VP} {Q : EQ} (hR : ∀ e w, (R (e 2) w) → Q .ret e w) (e : Env) (w : World) (h : m32_0 R (e 0) w) : W32 k32_0 Q e w := by
  unfold m32_0 at h
  refine seA ?_
  have hN : ∀ e w, (m32_1 R (e 0) w) → (thenE (W32 k32_1 Q) Q) .normal e w := fun e w h => then_N (s32_1 (R := R) (Q := Q) hR e w h)
  exact rgA 0 (fun e w => m32_1 R (e 0) w) h hN
abbrev m32 (R : VP) (n0 : Value) (w : World) : Prop := m32_0 R n0 w
theorem s32 (n0 : Value) {R : VP} {w : World} (h : m32 R n0 w) :
    Calls Try.prog 32 #[n0] w fun e w' => ∃ v, e = .returned v ∧ R v w' :=
  calls_of_cwp (st := (fun i => 0)) (c := k32_0) (by kernel_rfl) Try.func32 (by kernel_rfl) (Nat.le_of_ble_eq_true (by kernel_rfl)) (by kernel_rfl)
    (s32_0 (R := R) (Q := endE Try.prog Try.f32 R) (fun e w h => kcast (by kernel_rfl) h) (argsE #[n0]) w (kcast (by kernel_rfl) h))
/-! ### headgate/cleaner.about -/
def m18_6 (R : VP) (t2 t3 : Value) (w : World) : Prop :=
  valS Try.prog (loadC 46 t2) w fun r0 =>
  R (Value.tuple #[r0, t3]) w
def m18_8 (R : VP) (t2 t3 : Value) (w : World) : Prop :=
  valS Try.prog (loadC 46 t2) w fun r0 =>
  R (Value.tuple #[r0, t3]) w
def m18_4 (R : VP) (t2 t3 : Value) (w : World) : Prop :=
  valS Try.prog (loadC 46 t2) w fun r0 =>
  R (Value.tuple #[r0, t3]) w
def m18_3 (R : VP) (r1 t2 : Value) (w : World) : Prop :=
  valP Try.prog (Instr.fieldAt 46 r1 0) w fun t30 w =>
  valP Try.prog (Instr.loadAt 3 t30) w fun t31 w =>
  valP Try.prog (Instr.fieldAt 46 r1 1) w fun t32 w =>
  valP Try.prog (Instr.loadAt 3 t32) w fun t33 w =>
  valP Try.prog (Instr.build 46 #[(0, t31), (1, t33)]) w fun t34 w =>
  unitP Try.prog (Instr.storeAt 46 t2 t34) w fun _ w =>
  m18_4 R t2 (Value.bool true) w
def m18_7 (R : VP) (r1 t2 t26 : Value) (w : World) : Prop :=
  condP t26
  (valP Try.prog (Instr.build 46 #[(2, (Value.string ⟨#[99, 111, 117, 110, 116, 115]⟩))]) w fun t29 w =>
  unitP Try.prog (Instr.storeAt 46 t2 t29) w fun _ w =>
  m18_8 R t2 (Value.bool true) w)
  (m18_3 R r1 t2 w)
def m18_5 (R : VP) (r1 t2 sort4 t14 : Value) (w : World) : Prop :=
  condP t14
  (valP Try.prog (Instr.build 46 #[]) w fun t25 w =>
  unitP Try.prog (Instr.storeAt 46 t2 t25) w fun _ w =>
  m18_6 R t2 (Value.bool false) w)
  (valP Try.prog (binS BinOp.eql 3 (Operand.tmp 27) (Operand.const (Value.int IntKind.i64 0)) sort4 (Value.int IntKind.i64 0)) w fun t28 w =>
  m18_7 R r1 t2 t28 w)
def m18_2 (R : VP) (r1 t2 sort4 e6 : Value) (w : World) : Prop :=
  valP Try.prog (binS BinOp.neq 35 (Operand.tmp 15) (Operand.const (Value.int IntKind.i64 0)) e6 (Value.int IntKind.i64 0)) w fun t16 w =>
  condP t16
  (pickP t16 (Value.bool true) undef fun t20 =>
  condP t20
  (pickP t20 (Value.bool true) undef fun t24 =>
  m18_5 R r1 t2 sort4 t24 w)
  (valP Try.prog (binS BinOp.gtr 3 (Operand.tmp 22) (Operand.const (Value.int IntKind.i64 2)) sort4 (Value.int IntKind.i64 2)) w fun t23 w =>
  pickP t20 (Value.bool true) t23 fun t24 =>
  m18_5 R r1 t2 sort4 t24 w))
  (valP Try.prog (binS BinOp.lss 3 (Operand.tmp 18) (Operand.const (Value.int IntKind.i64 0)) sort4 (Value.int IntKind.i64 0)) w fun t19 w =>
  pickP t16 (Value.bool true) t19 fun t20 =>
  condP t20
  (pickP t20 (Value.bool true) undef fun t24 =>
  m18_5 R r1 t2 sort4 t24 w)
  (valP Try.prog (binS BinOp.gtr 3 (Operand.tmp 22) (Operand.const (Value.int IntKind.i64 2)) sort4 (Value.int IntKind.i64 2)) w fun t23 w =>
  pickP t20 (Value.bool true) t23 fun t24 =>
  m18_5 R r1 t2 sort4 t24 w))
def m18_1 (R : VP) (r1 t2 : Value) (w : World) : Prop :=
  valP Try.prog (Instr.fieldAt 46 r1 2) w fun t8 w =>
  valP Try.prog (Instr.loadAt 9 t8) w fun t9 w =>
  callP Try.prog (fnV 31) #[t9] w fun t10 w =>
  valP Try.prog (Instr.extract t10 0) w fun t11 w =>
  valP Try.prog (Instr.extract t10 1) w fun t12 w =>
  valP Try.prog (Instr.extract t10 2) w fun t13 w =>
  m18_2 R r1 t2 t11 t13 w
def m18_0 (R : VP) (r0 : Value) (w : World) : Prop :=
  valP Try.prog (Instr.box 46 r0) w fun r1 w =>
  valP Try.prog (Instr.alloc 46 true (.tuple #[])) w fun t2 w =>
  m18_1 R r1 t2 w
abbrev W18 := cwp Try.prog (fun i => 0)
noncomputable def k18_0 : Code := (bodyOf Try.f18)
noncomputable def k18_1 : Code := (c2 k18_0)
noncomputable def k18_2 : Code := (c2 k18_1)
noncomputable def k18_3 : Code := (c2 k18_2)
noncomputable def k18_4 : Code := (c2 k18_3)
noncomputable def k18_5 : Code := (c2 (c1 (c1 k18_2)))
noncomputable def k18_6 : Code := (c2 (c1 k18_5))
noncomputable def k18_7 : Code := (c2 (c2 k18_5))
noncomputable def k18_8 : Code := (c2 (c1 k18_7))
theorem s18_6 {R : VP} {Q : EQ} (hR : ∀ e w, (valS Try.prog (loadC 46 (e 2)) w fun r0 =>
R (Value.tuple #[r0, (e 3)]) w) → Q .ret e w) (e : Env) (w : World) (h : m18_6 R (e 2) (e 3) w) : W18 k18_6 Q e w := by
  unfold m18_6 at h
  exact reA (hR _ _ h)
theorem s18_8 {R : VP} {Q : EQ} (hR : ∀ e w, (valS Try.prog (loadC 46 (e 2)) w fun r0 =>
R (Value.tuple #[r0, (e 3)]) w) → Q .ret e w) (e : Env) (w : World) (h : m18_8 R (e 2) (e 3) w) : W18 k18_8 Q e w := by
  unfold m18_8 at h
  exact reA (hR _ _ h)
theorem s18_4 {R : VP} {Q : EQ} (hR : ∀ e w, (valS Try.prog (loadC 46 (e 2)) w fun r0 =>
R (Value.tuple #[r0, (e 3)]) w) → Q .ret e w) (e : Env) (w : World) (h : m18_4 R (e 2) (e 3) w) : W18 k18_4 Q e w := by
  unfold m18_4 at h
  exact reA (hR _ _ h)
theorem s18_3 {R : VP} {Q : EQ} (hR : ∀ e w, (valS Try.prog (loadC 46 (e 2)) w fun r0 =>
R (Value.tuple #[r0, (e 3)]) w) → Q .ret e w) (e : Env) (w : World) (h : m18_3 R (e 1) (e 2) w) : W18 k18_3 Q e w := by
  unfold m18_3 at h
  refine seA ?_
  have hN : ∀ e w, (m18_4 R (e 2) (e 3) w) → (thenE (W18 k18_4 Q) Q) .normal e w := fun e w h => then_N (s18_4 (R := R) (Q := Q) hR e w h)
  exact rgA 6 (fun e w => m18_4 R (e 2) (e 3) w) h hN
theorem s18_7 {R : VP} {Q : EQ} (hN : ∀ e w, (m18_3 R (e 1) (e 2) w) → Q .normal e w) (hR : ∀ e w, (valS Try.prog (loadC 46 (e 2)) w fun r0 =>
R (Value.tuple #[r0, (e 3)]) w) → Q .ret e w) (e : Env) (w : World) (h : m18_7 R (e 1) (e 2) (e 26) w) : W18 k18_7 Q e w := by
  unfold m18_7 at h
  refine coA (Operand.tmp 26) h (fun h1 => ?_) (fun h1 => ?_)
  · refine seA ?_
    have hN : ∀ e w, (m18_8 R (e 2) (e 3) w) → (thenE (W18 k18_8 Q) Q) .normal e w := fun e w h => then_N (s18_8 (R := R) (Q := Q) hR e w h)
    exact rgA 5 (fun e w => m18_8 R (e 2) (e 3) w) h1 hN
  · exact skA (hN _ _ h1)
theorem s18_5 {R : VP} {Q : EQ} (hN : ∀ e w, (m18_3 R (e 1) (e 2) w) → Q .normal e w) (hR : ∀ e w, (valS Try.prog (loadC 46 (e 2)) w fun r0 =>
R (Value.tuple #[r0, (e 3)]) w) → Q .ret e w) (e : Env) (w : World) (h : m18_5 R (e 1) (e 2) (e 4) (e 14) w) : W18 k18_5 Q e w := by
  unfold m18_5 at h
  refine coA (Operand.tmp 14) h (fun h1 => ?_) (fun h1 => ?_)
  · refine seA ?_
    have hN : ∀ e w, (m18_6 R (e 2) (e 3) w) → (thenE (W18 k18_6 Q) Q) .normal e w := fun e w h => then_N (s18_6 (R := R) (Q := Q) hR e w h)
    exact rgA 3 (fun e w => m18_6 R (e 2) (e 3) w) h1 hN
  · refine seA ?_
    have hN : ∀ e w, (m18_7 R (e 1) (e 2) (e 26) w) → (thenE (W18 k18_7 Q) Q) .normal e w := fun e w h => then_N (s18_7 (R := R) (Q := Q) hN hR e w h)
    exact rgA 4 (fun e w => m18_7 R (e 1) (e 2) (e 26) w) h1 hN
theorem s18_2 {R : VP} {Q : EQ} (hR : ∀ e w, (valS Try.prog (loadC 46 (e 2)) w fun r0 =>
R (Value.tuple #[r0, (e 3)]) w) → Q .ret e w) (e : Env) (w : World) (h : m18_2 R (e 1) (e 2) (e 4) (e 6) w) : W18 k18_2 Q e w := by
  unfold m18_2 at h
  refine seA ?_
  have hN : ∀ e w, (m18_3 R (e 1) (e 2) w) → (thenE (W18 k18_3 Q) Q) .normal e w := fun e w h => then_N (s18_3 (R := R) (Q := Q) hR e w h)
  have hR : ∀ e w, (valS Try.prog (loadC 46 (e 2)) w fun r0 =>
  R (Value.tuple #[r0, (e 3)]) w) → (thenE (W18 k18_3 Q) Q) .ret e w := fun e w h => then_R (hR e w h)
  refine block_ok 0 (by kernel_rfl) ?_
  have hN : ∀ e w, (m18_3 R (e 1) (e 2) w) → (inBlockE 0 (thenE (W18 k18_3 Q) Q)) .normal e w := fun e w h => block_N (hN e w h)
  have hR : ∀ e w, (valS Try.prog (loadC 46 (e 2)) w fun r0 =>
  R (Value.tuple #[r0, (e 3)]) w) → (inBlockE 0 (thenE (W18 k18_3 Q) Q)) .ret e w := fun e w h => block_R (hR e w h)
  refine seA ?_
  have hN : ∀ e w, (m18_5 R (e 1) (e 2) (e 4) (e 14) w) → (thenE (W18 k18_5 (inBlockE 0 (thenE (W18 k18_3 Q) Q))) (inBlockE 0 (thenE (W18 k18_3 Q) Q))) .normal e w := fun e w h => then_N (s18_5 (R := R) (Q := (inBlockE 0 (thenE (W18 k18_3 Q) Q))) hN hR e w h)
  exact rgA 2 (fun e w => m18_5 R (e 1) (e 2) (e 4) (e 14) w) h hN
theorem s18_1 {R : VP} {Q : EQ} (hR : ∀ e w, (valS Try.prog (loadC 46 (e 2)) w fun r0 =>
R (Value.tuple #[r0, (e 3)]) w) → Q .ret e w) (e : Env) (w : World) (h : m18_1 R (e 1) (e 2) w) : W18 k18_1 Q e w := by
  unfold m18_1 at h
  refine seA ?_
  have hN : ∀ e w, (m18_2 R (e 1) (e 2) (e 4) (e 6) w) → (thenE (W18 k18_2 Q) Q) .normal e w := fun e w h => then_N (s18_2 (R := R) (Q := Q) hR e w h)
  exact rgA 1 (fun e w => m18_2 R (e 1) (e 2) (e 4) (e 6) w) h hN
theorem s18_0 {R : VP} {Q : EQ} (hR : ∀ e w, (valS Try.prog (loadC 46 (e 2)) w fun r0 =>
R (Value.tuple #[r0, (e 3)]) w) → Q .ret e w) (e : Env) (w : World) (h : m18_0 R (e 0) w) : W18 k18_0 Q e w := by
  unfold m18_0 at h
  refine seA ?_
  have hN : ∀ e w, (m18_1 R (e 1) (e 2) w) → (thenE (W18 k18_1 Q) Q) .normal e w := fun e w h => then_N (s18_1 (R := R) (Q := Q) hR e w h)
  exact rgA 0 (fun e w => m18_1 R (e 1) (e 2) w) h hN
abbrev m18 (R : VP) (r0 : Value) (w : World) : Prop := m18_0 R r0 w
theorem s18 (r0 : Value) {R : VP} {w : World} (h : m18 R r0 w) :
    Calls Try.prog 18 #[r0] w fun e w' => ∃ v, e = .returned v ∧ R v w' :=
  calls_of_cwp (st := (fun i => 0)) (c := k18_0) (by kernel_rfl) Try.func18 (by kernel_rfl) (Nat.le_of_ble_eq_true (by kernel_rfl)) (by kernel_rfl)
    (s18_0 (R := R) (Q := endE Try.prog Try.f18 R) (fun e w h => kcast (by kernel_rfl) h) (argsE #[r0]) w (kcast (by kernel_rfl) h))
/-! ### headgate/cleaner.gone -/
def m19_2 (R : VP) (t2 : Value) (w : World) : Prop :=
  R t2 w
def m19_1 (R : VP) (r1 : Value) (w : World) : Prop :=
  anyDraw w fun w =>
  heldP w fun J =>
  valJ Try.prog J (Instr.fieldAt 46 r1 2) fun t3 =>
  valJ Try.prog J (Instr.loadAt 9 t3) fun t4 =>
  callP Try.prog (fnV 32) #[(Value.int IntKind.i64 2)] w fun t5 w =>
  stayP J w
  (valJ Try.prog J (binS BinOp.eql 9 (Operand.tmp 4) (Operand.tmp 5) t4 t5) fun t6 =>
  m19_2 R t6 w)
def m19_0 (R : VP) (r0 : Value) (w : World) : Prop :=
  valP Try.prog (Instr.box 46 r0) w fun r1 w =>
  m19_1 R r1 w
abbrev W19 := cwp Try.prog (fun i => 0)
noncomputable def k19_0 : Code := (bodyOf Try.f19)
noncomputable def k19_1 : Code := (c2 k19_0)
noncomputable def k19_2 : Code := (c2 k19_1)
theorem s19_2 {R : VP} {Q : EQ} (hR : ∀ e w, (R (e 2) w) → Q .ret e w) (e : Env) (w : World) (h : m19_2 R (e 2) w) : W19 k19_2 Q e w := by
  unfold m19_2 at h
  exact reA (hR _ _ h)
theorem s19_1 {R : VP} {Q : EQ} (hR : ∀ e w, (R (e 2) w) → Q .ret e w) (e : Env) (w : World) (h : m19_1 R (e 1) w) : W19 k19_1 Q e w := by
  unfold m19_1 at h
  refine seA ?_
  have hN : ∀ e w, (m19_2 R (e 2) w) → (thenE (W19 k19_2 Q) Q) .normal e w := fun e w h => then_N (s19_2 (R := R) (Q := Q) hR e w h)
  exact treeJ_ok 1 5 [false, false, false, false, false] (.take 0 [true, false, false, false, false] (.take 1 [true, true, false, false, false] (.alt 2 [true, true, true, false, false] (.take 3 [true, true, true, true, false] (.take 4 [true, true, true, true, true] .done)) .stop))) (fun e w => m19_2 R (e 2) w) (by kernel_rfl) (by kernel_rfl) (by kernel_rfl) (by kernel_rfl) (by kernel_rfl) (by kernel_rfl) (kcast (by kernel_rfl) h) hN (by kernel_rfl)
theorem s19_0 {R : VP} {Q : EQ} (hR : ∀ e w, (R (e 2) w) → Q .ret e w) (e : Env) (w : World) (h : m19_0 R (e 0) w) : W19 k19_0 Q e w := by
  unfold m19_0 at h
  refine seA ?_
  have hN : ∀ e w, (m19_1 R (e 1) w) → (thenE (W19 k19_1 Q) Q) .normal e w := fun e w h => then_N (s19_1 (R := R) (Q := Q) hR e w h)
  exact rgA 0 (fun e w => m19_1 R (e 1) w) h hN
abbrev m19 (R : VP) (r0 : Value) (w : World) : Prop := m19_0 R r0 w
theorem s19 (r0 : Value) {R : VP} {w : World} (h : m19 R r0 w) :
    Calls Try.prog 19 #[r0] w fun e w' => ∃ v, e = .returned v ∧ R v w' :=
  calls_of_cwp (st := (fun i => 0)) (c := k19_0) (by kernel_rfl) Try.func19 (by kernel_rfl) (Nat.le_of_ble_eq_true (by kernel_rfl)) (by kernel_rfl)
    (s19_0 (R := R) (Q := endE Try.prog Try.f19 R) (fun e w h => kcast (by kernel_rfl) h) (argsE #[r0]) w (kcast (by kernel_rfl) h))
end Go.Proofs.Ytnhgdngbdoifnaa.M
