/- What functions' texts ask of their ends, told over values that have names; printed by a program of this work. -/
import Derived.Test.YtcdnkbplplghmaaFw
import Derived.Test.YtcdnkbplplghmaaProg
namespace Go.Proofs.Ytcdnkbplplghmaa.M
open Go.Proofs.Ytcdnkbplplghmaa.F
set_option linter.unusedVariables false
set_option maxRecDepth 100000
/-! ### headgate/varint.Take -/
def m40_16 (R : VP) (K1 : (Value × Value) → World → Prop) (t2 t3 t4 : Value) (w : World) : Prop :=
  R (Value.tuple #[t2, t3, t4]) w
def m40_13 (R : VP) (K1 : (Value × Value) → World → Prop) (t2 t3 t4 : Value) (w : World) : Prop :=
  R (Value.tuple #[t2, t3, t4]) w
def m40_11 (R : VP) (K1 : (Value × Value) → World → Prop) (t2 t3 t4 : Value) (w : World) : Prop :=
  R (Value.tuple #[t2, t3, t4]) w
def m40_10 (R : VP) (K1 : (Value × Value) → World → Prop) (s0 u5 k6 : Value) (w : World) : Prop :=
  valQ Try.prog (binS BinOp.shr 97 (Operand.tmp 45) (Operand.const (Value.int IntKind.u64 1)) u5 (Value.int IntKind.u64 1)) w fun t46 =>
  valQ Try.prog (convert 97 3 t46) w fun t47 =>
  valQ Try.prog (binS BinOp.and 97 (Operand.tmp 48) (Operand.const (Value.int IntKind.u64 1)) u5 (Value.int IntKind.u64 1)) w fun t49 =>
  valQ Try.prog (convert 97 3 t49) w fun t50 =>
  valQ Try.prog (Op.unary UnOp.neg t50) w fun t51 =>
  valQ Try.prog (binS BinOp.xor 3 (Operand.tmp 47) (Operand.tmp 51) t47 t51) w fun t52 =>
  valQ Try.prog (Instr.sliceAt 9 s0 (some k6) none none) w fun t55 =>
  anyDraw w fun w =>
  m40_11 R K1 t52 t55 (Value.int IntKind.i64 0) w
def m40_12 (R : VP) (K1 : (Value × Value) → World → Prop) (s0 u5 k6 t44 : Value) (w : World) : Prop :=
  condP t44
  (m40_13 R K1 (Value.int IntKind.i64 0) (Value.string ⟨#[]⟩) (Value.int IntKind.i64 2) w)
  (m40_10 R K1 s0 u5 k6 w)
def m40_9 (R : VP) (K1 : (Value × Value) → World → Prop) (s0 u5 k6 c7 : Value) (w : World) : Prop :=
  valP Try.prog (binS BinOp.gtr 3 (Operand.tmp 31) (Operand.const (Value.int IntKind.i64 1)) k6 (Value.int IntKind.i64 1)) w fun t32 w =>
  condP t32
  (valP Try.prog (binS BinOp.eql 5 (Operand.tmp 34) (Operand.const (Value.int IntKind.u8 0)) c7 (Value.int IntKind.u8 0)) w fun t35 w =>
  pickP t32 t35 (Value.bool false) fun t36 =>
  condP t36
  (pickP t36 (Value.bool true) undef fun t44 =>
  m40_12 R K1 s0 u5 k6 t44 w)
  (valP Try.prog (binS BinOp.eql 3 (Operand.tmp 38) (Operand.const (Value.int IntKind.i64 10)) k6 (Value.int IntKind.i64 10)) w fun t39 w =>
  condP t39
  (valP Try.prog (binS BinOp.gtr 5 (Operand.tmp 41) (Operand.const (Value.int IntKind.u8 1)) c7 (Value.int IntKind.u8 1)) w fun t42 w =>
  pickP t39 t42 (Value.bool false) fun t43 =>
  pickP t36 (Value.bool true) t43 fun t44 =>
  m40_12 R K1 s0 u5 k6 t44 w)
  (pickP t39 undef (Value.bool false) fun t43 =>
  pickP t36 (Value.bool true) t43 fun t44 =>
  m40_12 R K1 s0 u5 k6 t44 w)))
  (pickP t32 undef (Value.bool false) fun t36 =>
  condP t36
  (pickP t36 (Value.bool true) undef fun t44 =>
  m40_12 R K1 s0 u5 k6 t44 w)
  (valP Try.prog (binS BinOp.eql 3 (Operand.tmp 38) (Operand.const (Value.int IntKind.i64 10)) k6 (Value.int IntKind.i64 10)) w fun t39 w =>
  condP t39
  (valP Try.prog (binS BinOp.gtr 5 (Operand.tmp 41) (Operand.const (Value.int IntKind.u8 1)) c7 (Value.int IntKind.u8 1)) w fun t42 w =>
  pickP t39 t42 (Value.bool false) fun t43 =>
  pickP t36 (Value.bool true) t43 fun t44 =>
  m40_12 R K1 s0 u5 k6 t44 w)
  (pickP t39 undef (Value.bool false) fun t43 =>
  pickP t36 (Value.bool true) t43 fun t44 =>
  m40_12 R K1 s0 u5 k6 t44 w)))
def m40_14 (R : VP) (K1 : (Value × Value) → World → Prop) (s0 u5 k6 c7 t30 : Value) (w : World) : Prop :=
  condP t30
  (K1 (u5, k6) w)
  (m40_9 R K1 s0 u5 k6 c7 w)
def m40_8 (R : VP) (K1 : (Value × Value) → World → Prop) (s0 u5 k6 c7 : Value) (w : World) : Prop :=
  valP Try.prog (binS BinOp.geq 5 (Operand.tmp 29) (Operand.const (Value.int IntKind.u8 128)) c7 (Value.int IntKind.u8 128)) w fun t30 w =>
  m40_14 R K1 s0 u5 k6 c7 t30 w
def m40_7 (R : VP) (K1 : (Value × Value) → World → Prop) (s0 u5 k6 c7 : Value) (w : World) : Prop :=
  valP Try.prog (binS BinOp.add 3 (Operand.tmp 27) (Operand.const (Value.int IntKind.i64 1)) k6 (Value.int IntKind.i64 1)) w fun t28 w =>
  m40_8 R K1 s0 u5 t28 c7 w
def m40_6 (R : VP) (K1 : (Value × Value) → World → Prop) (s0 u5 k6 c7 : Value) (w : World) : Prop :=
  valP Try.prog (binS BinOp.and 5 (Operand.tmp 20) (Operand.const (Value.int IntKind.u8 127)) c7 (Value.int IntKind.u8 127)) w fun t21 w =>
  valP Try.prog (convert 5 97 t21) w fun t22 w =>
  valP Try.prog (binS BinOp.mul 3 (Operand.const (Value.int IntKind.i64 7)) (Operand.tmp 23) (Value.int IntKind.i64 7) k6) w fun t24 w =>
  valP Try.prog (binS BinOp.shl 97 (Operand.tmp 22) (Operand.tmp 24) t22 t24) w fun t25 w =>
  valP Try.prog (binS BinOp.or 97 (Operand.tmp 19) (Operand.tmp 25) u5 t25) w fun t26 w =>
  m40_7 R K1 s0 t26 k6 c7 w
def m40_5 (R : VP) (K1 : (Value × Value) → World → Prop) (s0 u5 k6 : Value) (w : World) : Prop :=
  valP Try.prog (Instr.index 9 s0 k6) w fun t18 w =>
  m40_6 R K1 s0 u5 k6 t18 w
def m40_15 (R : VP) (K1 : (Value × Value) → World → Prop) (s0 u5 k6 t15 : Value) (w : World) : Prop :=
  condP t15
  (m40_16 R K1 (Value.int IntKind.i64 0) (Value.string ⟨#[]⟩) (Value.int IntKind.i64 2) w)
  (m40_5 R K1 s0 u5 k6 w)
def m40_4 (R : VP) (K1 : (Value × Value) → World → Prop) (s0 u5 k6 : Value) (w : World) : Prop :=
  builtinP Try.prog Builtin.len #[9] 3 #[false] #[s0] w fun t10 w =>
  valP Try.prog (binS BinOp.eql 3 (Operand.tmp 8) (Operand.tmp 10) k6 t10) w fun t11 w =>
  condP t11
  (pickP t11 (Value.bool true) undef fun t15 =>
  m40_15 R K1 s0 u5 k6 t15 w)
  (valP Try.prog (binS BinOp.eql 3 (Operand.tmp 13) (Operand.const (Value.int IntKind.i64 10)) k6 (Value.int IntKind.i64 10)) w fun t14 w =>
  pickP t11 (Value.bool true) t14 fun t15 =>
  m40_15 R K1 s0 u5 k6 t15 w)
def m40_3 (R : VP) (s0 u5 k6 : Value) (w : World) : Prop :=
  loopP (fun (K1 : (Value × Value) → World → Prop) (s : Value × Value) w => m40_4 R K1 s0 s.1 s.2 w) (u5, k6) w
def m40_2 (R : VP) (s0 u5 : Value) (w : World) : Prop :=
  m40_3 R s0 u5 (Value.int IntKind.i64 0) w
def m40_1 (R : VP) (s0 : Value) (w : World) : Prop :=
  m40_2 R s0 (Value.int IntKind.u64 0) w
def m40_0 (R : VP) (s0 : Value) (w : World) : Prop :=
  m40_1 R s0 w
abbrev W40 := cwp Try.prog (fun i => cond (Nat.beq i 11) 1 (0))
abbrev WL40 := cwpL Try.prog (fun i => cond (Nat.beq i 11) 1 (0))
abbrev WT40 := cwpT Try.prog (fun i => cond (Nat.beq i 11) 1 (0))
noncomputable def k40_0 : Code := (bodyOf Try.f40)
noncomputable def k40_1 : Code := (cS (c2 k40_0))
noncomputable def k40_2 : Code := (c2 k40_1)
noncomputable def k40_3 : Code := (c2 k40_2)
noncomputable def k40_4 : Code := (c2 k40_3)
noncomputable def k40_5 : Code := (c2 k40_4)
noncomputable def k40_6 : Code := (c2 k40_5)
noncomputable def k40_7 : Code := (c2 k40_6)
noncomputable def k40_8 : Code := (c2 k40_7)
noncomputable def k40_9 : Code := (c2 k40_8)
noncomputable def k40_10 : Code := (c2 k40_9)
noncomputable def k40_11 : Code := (c2 k40_10)
noncomputable def k40_12 : Code := (c2 (c1 k40_9))
noncomputable def k40_13 : Code := (c2 (c1 k40_12))
noncomputable def k40_14 : Code := (c2 (c1 k40_8))
noncomputable def k40_15 : Code := (c2 (c1 k40_4))
noncomputable def k40_16 : Code := (c2 (c1 k40_15))
theorem s40_16 {R : VP} {K1 : (Value × Value) → World → Prop} {Q : EQ} (hR : ∀ e w, (R (Value.tuple #[(e 2), (e 3), (e 4)]) w) → Q .ret e w) (e : Env) (w : World) (h : m40_16 R K1 (e 2) (e 3) (e 4) w) : W40 k40_16 Q e w := by
  unfold m40_16 at h
  exact reA (hR _ _ h)
theorem s40_13 {R : VP} {K1 : (Value × Value) → World → Prop} {Q : EQ} (hR : ∀ e w, (R (Value.tuple #[(e 2), (e 3), (e 4)]) w) → Q .ret e w) (e : Env) (w : World) (h : m40_13 R K1 (e 2) (e 3) (e 4) w) : W40 k40_13 Q e w := by
  unfold m40_13 at h
  exact reA (hR _ _ h)
theorem s40_11 {R : VP} {K1 : (Value × Value) → World → Prop} {Q : EQ} (hR : ∀ e w, (R (Value.tuple #[(e 2), (e 3), (e 4)]) w) → Q .ret e w) (e : Env) (w : World) (h : m40_11 R K1 (e 2) (e 3) (e 4) w) : W40 k40_11 Q e w := by
  unfold m40_11 at h
  exact reA (hR _ _ h)
theorem s40_10 {R : VP} {K1 : (Value × Value) → World → Prop} {Q : EQ} (hR : ∀ e w, (R (Value.tuple #[(e 2), (e 3), (e 4)]) w) → Q .ret e w) (e : Env) (w : World) (h : m40_10 R K1 (e 0) (e 5) (e 6) w) : W40 k40_10 Q e w := by
  unfold m40_10 at h
  refine seA ?_
  have hN : ∀ e w, (m40_11 R K1 (e 2) (e 3) (e 4) w) → (thenE (W40 k40_11 Q) Q) .normal e w := fun e w h => then_N (s40_11 (R := R) (Q := Q) (K1 := K1) hR e w h)
  exact quA 11 (fun e w => m40_11 R K1 (e 2) (e 3) (e 4) w) h hN
theorem s40_12 {R : VP} {K1 : (Value × Value) → World → Prop} {Q : EQ} (hN : ∀ e w, (m40_10 R K1 (e 0) (e 5) (e 6) w) → Q .normal e w) (hR : ∀ e w, (R (Value.tuple #[(e 2), (e 3), (e 4)]) w) → Q .ret e w) (e : Env) (w : World) (h : m40_12 R K1 (e 0) (e 5) (e 6) (e 44) w) : W40 k40_12 Q e w := by
  unfold m40_12 at h
  refine coA (Operand.tmp 44) h (fun h1 => ?_) (fun h1 => ?_)
  · refine seA ?_
    have hN : ∀ e w, (m40_13 R K1 (e 2) (e 3) (e 4) w) → (thenE (W40 k40_13 Q) Q) .normal e w := fun e w h => then_N (s40_13 (R := R) (Q := Q) (K1 := K1) hR e w h)
    exact rgA 10 (fun e w => m40_13 R K1 (e 2) (e 3) (e 4) w) h1 hN
  · exact skA (hN _ _ h1)
theorem s40_9 {R : VP} {K1 : (Value × Value) → World → Prop} {Q : EQ} (hR : ∀ e w, (R (Value.tuple #[(e 2), (e 3), (e 4)]) w) → Q .ret e w) (e : Env) (w : World) (h : m40_9 R K1 (e 0) (e 5) (e 6) (e 7) w) : W40 k40_9 Q e w := by
  unfold m40_9 at h
  refine seA ?_
  have hN : ∀ e w, (m40_10 R K1 (e 0) (e 5) (e 6) w) → (thenE (W40 k40_10 Q) Q) .normal e w := fun e w h => then_N (s40_10 (R := R) (Q := Q) (K1 := K1) hR e w h)
  have hR : ∀ e w, (R (Value.tuple #[(e 2), (e 3), (e 4)]) w) → (thenE (W40 k40_10 Q) Q) .ret e w := fun e w h => then_R (hR e w h)
  refine seA ?_
  have hN : ∀ e w, (m40_12 R K1 (e 0) (e 5) (e 6) (e 44) w) → (thenE (W40 k40_12 (thenE (W40 k40_10 Q) Q)) (thenE (W40 k40_10 Q) Q)) .normal e w := fun e w h => then_N (s40_12 (R := R) (Q := (thenE (W40 k40_10 Q) Q)) (K1 := K1) hN hR e w h)
  exact rgA 9 (fun e w => m40_12 R K1 (e 0) (e 5) (e 6) (e 44) w) h hN
theorem s40_14 {R : VP} {K1 : (Value × Value) → World → Prop} {Q : EQ} (hG0 : ∀ e w, (K1 ((e 5), (e 6)) w) → Q (.goto 0) e w) (hN : ∀ e w, (m40_9 R K1 (e 0) (e 5) (e 6) (e 7) w) → Q .normal e w) (e : Env) (w : World) (h : m40_14 R K1 (e 0) (e 5) (e 6) (e 7) (e 30) w) : W40 k40_14 Q e w := by
  unfold m40_14 at h
  refine coA (Operand.tmp 30) h (fun h1 => ?_) (fun h1 => ?_)
  · exact goA 0 (hG0 _ _ h1)
  · exact skA (hN _ _ h1)
theorem s40_8 {R : VP} {K1 : (Value × Value) → World → Prop} {Q : EQ} (hG0 : ∀ e w, (K1 ((e 5), (e 6)) w) → Q (.goto 0) e w) (hR : ∀ e w, (R (Value.tuple #[(e 2), (e 3), (e 4)]) w) → Q .ret e w) (e : Env) (w : World) (h : m40_8 R K1 (e 0) (e 5) (e 6) (e 7) w) : W40 k40_8 Q e w := by
  unfold m40_8 at h
  refine seA ?_
  have hN : ∀ e w, (m40_9 R K1 (e 0) (e 5) (e 6) (e 7) w) → (thenE (W40 k40_9 Q) Q) .normal e w := fun e w h => then_N (s40_9 (R := R) (Q := Q) (K1 := K1) hR e w h)
  have hG0 : ∀ e w, (K1 ((e 5), (e 6)) w) → (thenE (W40 k40_9 Q) Q) (.goto 0) e w := fun e w h => then_G (hG0 e w h)
  refine seA ?_
  have hN : ∀ e w, (m40_14 R K1 (e 0) (e 5) (e 6) (e 7) (e 30) w) → (thenE (W40 k40_14 (thenE (W40 k40_9 Q) Q)) (thenE (W40 k40_9 Q) Q)) .normal e w := fun e w h => then_N (s40_14 (R := R) (Q := (thenE (W40 k40_9 Q) Q)) (K1 := K1) hG0 hN e w h)
  exact rgA 8 (fun e w => m40_14 R K1 (e 0) (e 5) (e 6) (e 7) (e 30) w) h hN
theorem s40_7 {R : VP} {K1 : (Value × Value) → World → Prop} {Q : EQ} (hG0 : ∀ e w, (K1 ((e 5), (e 6)) w) → Q (.goto 0) e w) (hR : ∀ e w, (R (Value.tuple #[(e 2), (e 3), (e 4)]) w) → Q .ret e w) (e : Env) (w : World) (h : m40_7 R K1 (e 0) (e 5) (e 6) (e 7) w) : W40 k40_7 Q e w := by
  unfold m40_7 at h
  refine seA ?_
  have hN : ∀ e w, (m40_8 R K1 (e 0) (e 5) (e 6) (e 7) w) → (thenE (W40 k40_8 Q) Q) .normal e w := fun e w h => then_N (s40_8 (R := R) (Q := Q) (K1 := K1) hG0 hR e w h)
  exact rgA 7 (fun e w => m40_8 R K1 (e 0) (e 5) (e 6) (e 7) w) h hN
theorem s40_6 {R : VP} {K1 : (Value × Value) → World → Prop} {Q : EQ} (hG0 : ∀ e w, (K1 ((e 5), (e 6)) w) → Q (.goto 0) e w) (hR : ∀ e w, (R (Value.tuple #[(e 2), (e 3), (e 4)]) w) → Q .ret e w) (e : Env) (w : World) (h : m40_6 R K1 (e 0) (e 5) (e 6) (e 7) w) : W40 k40_6 Q e w := by
  unfold m40_6 at h
  refine seA ?_
  have hN : ∀ e w, (m40_7 R K1 (e 0) (e 5) (e 6) (e 7) w) → (thenE (W40 k40_7 Q) Q) .normal e w := fun e w h => then_N (s40_7 (R := R) (Q := Q) (K1 := K1) hG0 hR e w h)
  exact rgA 6 (fun e w => m40_7 R K1 (e 0) (e 5) (e 6) (e 7) w) h hN
theorem s40_5 {R : VP} {K1 : (Value × Value) → World → Prop} {Q : EQ} (hG0 : ∀ e w, (K1 ((e 5), (e 6)) w) → Q (.goto 0) e w) (hR : ∀ e w, (R (Value.tuple #[(e 2), (e 3), (e 4)]) w) → Q .ret e w) (e : Env) (w : World) (h : m40_5 R K1 (e 0) (e 5) (e 6) w) : W40 k40_5 Q e w := by
  unfold m40_5 at h
  refine seA ?_
  have hN : ∀ e w, (m40_6 R K1 (e 0) (e 5) (e 6) (e 7) w) → (thenE (W40 k40_6 Q) Q) .normal e w := fun e w h => then_N (s40_6 (R := R) (Q := Q) (K1 := K1) hG0 hR e w h)
  exact rgA 5 (fun e w => m40_6 R K1 (e 0) (e 5) (e 6) (e 7) w) h hN
theorem s40_15 {R : VP} {K1 : (Value × Value) → World → Prop} {Q : EQ} (hN : ∀ e w, (m40_5 R K1 (e 0) (e 5) (e 6) w) → Q .normal e w) (hR : ∀ e w, (R (Value.tuple #[(e 2), (e 3), (e 4)]) w) → Q .ret e w) (e : Env) (w : World) (h : m40_15 R K1 (e 0) (e 5) (e 6) (e 15) w) : W40 k40_15 Q e w := by
  unfold m40_15 at h
  refine coA (Operand.tmp 15) h (fun h1 => ?_) (fun h1 => ?_)
  · refine seA ?_
    have hN : ∀ e w, (m40_16 R K1 (e 2) (e 3) (e 4) w) → (thenE (W40 k40_16 Q) Q) .normal e w := fun e w h => then_N (s40_16 (R := R) (Q := Q) (K1 := K1) hR e w h)
    exact rgA 4 (fun e w => m40_16 R K1 (e 2) (e 3) (e 4) w) h1 hN
  · exact skA (hN _ _ h1)
theorem s40_4 {R : VP} {K1 : (Value × Value) → World → Prop} {Q : EQ} (hG0 : ∀ e w, (K1 ((e 5), (e 6)) w) → Q (.goto 0) e w) (hR : ∀ e w, (R (Value.tuple #[(e 2), (e 3), (e 4)]) w) → Q .ret e w) (e : Env) (w : World) (h : m40_4 R K1 (e 0) (e 5) (e 6) w) : W40 k40_4 Q e w := by
  unfold m40_4 at h
  refine seA ?_
  have hN : ∀ e w, (m40_5 R K1 (e 0) (e 5) (e 6) w) → (thenE (W40 k40_5 Q) Q) .normal e w := fun e w h => then_N (s40_5 (R := R) (Q := Q) (K1 := K1) hG0 hR e w h)
  have hR : ∀ e w, (R (Value.tuple #[(e 2), (e 3), (e 4)]) w) → (thenE (W40 k40_5 Q) Q) .ret e w := fun e w h => then_R (hR e w h)
  refine seA ?_
  have hN : ∀ e w, (m40_15 R K1 (e 0) (e 5) (e 6) (e 15) w) → (thenE (W40 k40_15 (thenE (W40 k40_5 Q) Q)) (thenE (W40 k40_5 Q) Q)) .normal e w := fun e w h => then_N (s40_15 (R := R) (Q := (thenE (W40 k40_5 Q) Q)) (K1 := K1) hN hR e w h)
  exact rgA 3 (fun e w => m40_15 R K1 (e 0) (e 5) (e 6) (e 15) w) h hN
theorem s40_3 {R : VP} {Q : EQ} (hR : ∀ e w, (R (Value.tuple #[(e 2), (e 3), (e 4)]) w) → Q .ret e w) (e : Env) (w : World) (h : m40_3 R (e 0) (e 5) (e 6) w) : WL40 k40_3 Q e w := by
  unfold m40_3 at h
  refine lab_ok 0 (fun (e : Env) => (e 5, e 6)) [0] (by kernel_rfl) (by kernel_rfl) h (fun K e' w' hk h' => ?_)
  have r0 : e' 0 = e 0 := hk 0 (by decide)
  have hR : ∀ e w, (R (Value.tuple #[(e 2), (e 3), (e 4)]) w) → (gotoE 0 (fun (e : Env) w => K ((e 5), (e 6)) w) Q) .ret e w := fun e w h => goto_R (hR e w h)
  exact s40_4 (R := R) (Q := (gotoE 0 (fun (e : Env) w => K ((e 5), (e 6)) w) Q)) (K1 := K) (fun _ _ h => goto_K h) hR e' w' (by rw [r0]; exact h')
theorem s40_2 {R : VP} {Q : EQ} (hR : ∀ e w, (R (Value.tuple #[(e 2), (e 3), (e 4)]) w) → Q .ret e w) (e : Env) (w : World) (h : m40_2 R (e 0) (e 5) w) : WL40 k40_2 Q e w := by
  unfold m40_2 at h
  refine seL ?_
  have hN : ∀ e w, (m40_3 R (e 0) (e 5) (e 6) w) → (thenE (WL40 k40_3 Q) Q) .normal e w := fun e w h => then_N (s40_3 (R := R) (Q := Q) hR e w h)
  exact rgA 2 (fun e w => m40_3 R (e 0) (e 5) (e 6) w) h hN
theorem s40_1 {R : VP} {Q : EQ} (hR : ∀ e w, (R (Value.tuple #[(e 2), (e 3), (e 4)]) w) → Q .ret e w) (e : Env) (w : World) (h : m40_1 R (e 0) w) : WL40 k40_1 Q e w := by
  unfold m40_1 at h
  refine seL ?_
  have hN : ∀ e w, (m40_2 R (e 0) (e 5) w) → (thenE (WL40 k40_2 Q) Q) .normal e w := fun e w h => then_N (s40_2 (R := R) (Q := Q) hR e w h)
  exact rgA 1 (fun e w => m40_2 R (e 0) (e 5) w) h hN
theorem s40_0 {R : VP} {Q : EQ} (hR : ∀ e w, (R (Value.tuple #[(e 2), (e 3), (e 4)]) w) → Q .ret e w) (e : Env) (w : World) (h : m40_0 R (e 0) w) : WT40 k40_0 Q e w := by
  unfold m40_0 at h
  show cwp Try.prog _ (c1 k40_0) (thenE (WL40 k40_1 Q) Q) e w
  have hN : ∀ e w, (m40_1 R (e 0) w) → (thenE (WL40 k40_1 Q) Q) .normal e w := fun e w h => then_N (s40_1 (R := R) (Q := Q) hR e w h)
  exact rgA 0 (fun e w => m40_1 R (e 0) w) h hN
abbrev m40 (R : VP) (s0 : Value) (w : World) : Prop := m40_0 R s0 w
theorem s40 (s0 : Value) {R : VP} {w : World} (h : m40 R s0 w) :
    Calls Try.prog 40 #[s0] w fun e w' => ∃ v, e = .returned v ∧ R v w' :=
  calls_of_cwpT (st := (fun i => cond (Nat.beq i 11) 1 (0))) (c := k40_0) 0 (by kernel_rfl) Try.func40 (by kernel_rfl) (by kernel_rfl) (Nat.le_of_ble_eq_true (by kernel_rfl)) (by kernel_rfl) (by kernel_rfl)
    (s40_0 (R := R) (Q := endE Try.prog Try.f40 R) (fun e w h => kcast (by kernel_rfl) h) (argsE #[s0]) w (kcast (by kernel_rfl) h))
/-! ### headgate/varint.Put -/
def m32_10 (R : VP) (K1 : (Value × Value) → World → Prop) (u3 b4 k5 : Value) (w : World) : Prop :=
  valP Try.prog (binS BinOp.add 3 (Operand.tmp 15) (Operand.const (Value.int IntKind.i64 1)) k5 (Value.int IntKind.i64 1)) w fun t16 w =>
  K1 (u3, t16) w
def m32_11 (R : VP) (K1 : (Value × Value) → World → Prop) (u3 b4 k5 : Value) (w : World) : Prop :=
  valP Try.prog (binS BinOp.shr 97 (Operand.tmp 22) (Operand.const (Value.int IntKind.u64 7)) u3 (Value.int IntKind.u64 7)) w fun t23 w =>
  m32_10 R K1 t23 b4 k5 w
def m32_9 (R : VP) (K1 : (Value × Value) → World → Prop) (u3 b4 k5 : Value) (w : World) : Prop :=
  valP Try.prog (convert 97 5 u3) w fun t19 w =>
  valP Try.prog (binS BinOp.or 5 (Operand.tmp 19) (Operand.const (Value.int IntKind.u8 128)) t19 (Value.int IntKind.u8 128)) w fun t20 w =>
  valP Try.prog (Instr.indexAt 111 b4 k5) w fun t21 w =>
  unitP Try.prog (Instr.storeAt 5 t21 t20) w fun _ w =>
  m32_11 R K1 u3 b4 k5 w
def m32_7 (R : VP) (t2 : Value) (w : World) : Prop :=
  R t2 w
def m32_6 (R : VP) (b4 k5 : Value) (w : World) : Prop :=
  valP Try.prog (binS BinOp.add 3 (Operand.tmp 28) (Operand.const (Value.int IntKind.i64 1)) k5 (Value.int IntKind.i64 1)) w fun t29 w =>
  valP Try.prog (Instr.sliceAt 111 b4 none (some t29) none) w fun t30 w =>
  valP Try.prog (convert 71 9 t30) w fun t31 w =>
  m32_7 R t31 w
def m32_5 (R : VP) (u3 b4 k5 : Value) (w : World) : Prop :=
  valP Try.prog (convert 97 5 u3) w fun t26 w =>
  valP Try.prog (Instr.indexAt 111 b4 k5) w fun t27 w =>
  unitP Try.prog (Instr.storeAt 5 t27 t26) w fun _ w =>
  m32_6 R b4 k5 w
def m32_12 (R : VP) (K1 : (Value × Value) → World → Prop) (u3 b4 k5 t14 : Value) (w : World) : Prop :=
  condP t14
  (m32_9 R K1 u3 b4 k5 w)
  (m32_5 R u3 b4 k5 w)
def m32_8 (R : VP) (K1 : (Value × Value) → World → Prop) (u3 b4 k5 : Value) (w : World) : Prop :=
  valP Try.prog (binS BinOp.geq 97 (Operand.tmp 13) (Operand.const (Value.int IntKind.u64 128)) u3 (Value.int IntKind.u64 128)) w fun t14 w =>
  m32_12 R K1 u3 b4 k5 t14 w
def m32_4 (R : VP) (u3 b4 k5 : Value) (w : World) : Prop :=
  loopP (fun (K1 : (Value × Value) → World → Prop) (s : Value × Value) w => m32_8 R K1 s.1 b4 s.2 w) (u3, k5) w
def m32_3 (R : VP) (u3 b4 : Value) (w : World) : Prop :=
  m32_4 R u3 b4 (Value.int IntKind.i64 0) w
def m32_2 (R : VP) (u3 : Value) (w : World) : Prop :=
  valP Try.prog (Instr.alloc 111 true (.tuple #[])) w fun b4 w =>
  m32_3 R u3 b4 w
def m32_1 (R : VP) (n0 : Value) (w : World) : Prop :=
  valP Try.prog (convert 3 97 n0) w fun t7 w =>
  valP Try.prog (binS BinOp.shl 97 (Operand.tmp 7) (Operand.const (Value.int IntKind.u64 1)) t7 (Value.int IntKind.u64 1)) w fun t8 w =>
  valP Try.prog (binS BinOp.shr 3 (Operand.tmp 9) (Operand.const (Value.int IntKind.u64 63)) n0 (Value.int IntKind.u64 63)) w fun t10 w =>
  valP Try.prog (convert 3 97 t10) w fun t11 w =>
  valP Try.prog (binS BinOp.xor 97 (Operand.tmp 8) (Operand.tmp 11) t8 t11) w fun t12 w =>
  m32_2 R t12 w
def m32_0 (R : VP) (n0 : Value) (w : World) : Prop :=
  m32_1 R n0 w
abbrev W32 := cwp Try.prog (fun i => 0)
noncomputable def k32_0 : Code := (bodyOf Try.f32)
noncomputable def k32_1 : Code := (c2 k32_0)
noncomputable def k32_2 : Code := (c2 k32_1)
noncomputable def k32_3 : Code := (c2 k32_2)
noncomputable def k32_4 : Code := (c2 k32_3)
noncomputable def k32_5 : Code := (c2 k32_4)
noncomputable def k32_6 : Code := (c2 k32_5)
noncomputable def k32_7 : Code := (c2 k32_6)
noncomputable def k32_8 : Code := (c1 (c1 (c1 k32_4)))
noncomputable def k32_9 : Code := (c2 k32_8)
noncomputable def k32_10 : Code := (c2 k32_9)
noncomputable def k32_11 : Code := (c2 (c1 (c1 k32_9)))
noncomputable def k32_12 : Code := (c2 (c1 k32_8))
theorem s32_10 {R : VP} {K1 : (Value × Value) → World → Prop} {Q : EQ} (hN : ∀ e w, (K1 ((e 3), (e 5)) w) → Q .normal e w) (e : Env) (w : World) (h : m32_10 R K1 (e 3) (e 4) (e 5) w) : W32 k32_10 Q e w := by
  unfold m32_10 at h
  exact rgA 5 (fun e w => K1 ((e 3), (e 5)) w) h hN
theorem s32_11 {R : VP} {K1 : (Value × Value) → World → Prop} {Q : EQ} (hN : ∀ e w, (m32_10 R K1 (e 3) (e 4) (e 5) w) → Q .normal e w) (e : Env) (w : World) (h : m32_11 R K1 (e 3) (e 4) (e 5) w) : W32 k32_11 Q e w := by
  unfold m32_11 at h
  exact rgA 7 (fun e w => m32_10 R K1 (e 3) (e 4) (e 5) w) h hN
theorem s32_9 {R : VP} {K1 : (Value × Value) → World → Prop} {Q : EQ} (hN : ∀ e w, (K1 ((e 3), (e 5)) w) → Q .normal e w) (e : Env) (w : World) (h : m32_9 R K1 (e 3) (e 4) (e 5) w) : W32 k32_9 Q e w := by
  unfold m32_9 at h
  refine seA ?_
  have hN : ∀ e w, (m32_10 R K1 (e 3) (e 4) (e 5) w) → (thenE (W32 k32_10 Q) Q) .normal e w := fun e w h => then_N (s32_10 (R := R) (Q := Q) (K1 := K1) hN e w h)
  refine block_ok 1 (by kernel_rfl) ?_
  have hN : ∀ e w, (m32_10 R K1 (e 3) (e 4) (e 5) w) → (inBlockE 1 (thenE (W32 k32_10 Q) Q)) .normal e w := fun e w h => block_N (hN e w h)
  refine seA ?_
  have hN : ∀ e w, (m32_11 R K1 (e 3) (e 4) (e 5) w) → (thenE (W32 k32_11 (inBlockE 1 (thenE (W32 k32_10 Q) Q))) (inBlockE 1 (thenE (W32 k32_10 Q) Q))) .normal e w := fun e w h => then_N (s32_11 (R := R) (Q := (inBlockE 1 (thenE (W32 k32_10 Q) Q))) (K1 := K1) hN e w h)
  exact rgA 6 (fun e w => m32_11 R K1 (e 3) (e 4) (e 5) w) h hN
theorem s32_7 {R : VP} {Q : EQ} (hR : ∀ e w, (R (e 2) w) → Q .ret e w) (e : Env) (w : World) (h : m32_7 R (e 2) w) : W32 k32_7 Q e w := by
  unfold m32_7 at h
  exact reA (hR _ _ h)
theorem s32_6 {R : VP} {Q : EQ} (hR : ∀ e w, (R (e 2) w) → Q .ret e w) (e : Env) (w : World) (h : m32_6 R (e 4) (e 5) w) : W32 k32_6 Q e w := by
  unfold m32_6 at h
  refine seA ?_
  have hN : ∀ e w, (m32_7 R (e 2) w) → (thenE (W32 k32_7 Q) Q) .normal e w := fun e w h => then_N (s32_7 (R := R) (Q := Q) hR e w h)
  exact rgA 9 (fun e w => m32_7 R (e 2) w) h hN
theorem s32_5 {R : VP} {Q : EQ} (hR : ∀ e w, (R (e 2) w) → Q .ret e w) (e : Env) (w : World) (h : m32_5 R (e 3) (e 4) (e 5) w) : W32 k32_5 Q e w := by
  unfold m32_5 at h
  refine seA ?_
  have hN : ∀ e w, (m32_6 R (e 4) (e 5) w) → (thenE (W32 k32_6 Q) Q) .normal e w := fun e w h => then_N (s32_6 (R := R) (Q := Q) hR e w h)
  exact rgA 8 (fun e w => m32_6 R (e 4) (e 5) w) h hN
theorem s32_12 {R : VP} {K1 : (Value × Value) → World → Prop} {Q : EQ} (hN : ∀ e w, (m32_9 R K1 (e 3) (e 4) (e 5) w) → Q .normal e w) (hX0 : ∀ e w, (m32_5 R (e 3) (e 4) (e 5) w) → Q (.exit 0) e w) (e : Env) (w : World) (h : m32_12 R K1 (e 3) (e 4) (e 5) (e 14) w) : W32 k32_12 Q e w := by
  unfold m32_12 at h
  refine coA (Operand.tmp 14) h (fun h1 => ?_) (fun h1 => ?_)
  · exact skA (hN _ _ h1)
  · exact exA 0 (hX0 _ _ h1)
theorem s32_8 {R : VP} {K1 : (Value × Value) → World → Prop} {Q : EQ} (hN : ∀ e w, (K1 ((e 3), (e 5)) w) → Q .normal e w) (hX0 : ∀ e w, (m32_5 R (e 3) (e 4) (e 5) w) → Q (.exit 0) e w) (e : Env) (w : World) (h : m32_8 R K1 (e 3) (e 4) (e 5) w) : W32 k32_8 Q e w := by
  unfold m32_8 at h
  refine seA ?_
  have hN : ∀ e w, (m32_9 R K1 (e 3) (e 4) (e 5) w) → (thenE (W32 k32_9 Q) Q) .normal e w := fun e w h => then_N (s32_9 (R := R) (Q := Q) (K1 := K1) hN e w h)
  have hX0 : ∀ e w, (m32_5 R (e 3) (e 4) (e 5) w) → (thenE (W32 k32_9 Q) Q) (.exit 0) e w := fun e w h => then_X (hX0 e w h)
  refine seA ?_
  have hN : ∀ e w, (m32_12 R K1 (e 3) (e 4) (e 5) (e 14) w) → (thenE (W32 k32_12 (thenE (W32 k32_9 Q) Q)) (thenE (W32 k32_9 Q) Q)) .normal e w := fun e w h => then_N (s32_12 (R := R) (Q := (thenE (W32 k32_9 Q) Q)) (K1 := K1) hN hX0 e w h)
  exact rgA 4 (fun e w => m32_12 R K1 (e 3) (e 4) (e 5) (e 14) w) h hN
theorem s32_4 {R : VP} {Q : EQ} (hR : ∀ e w, (R (e 2) w) → Q .ret e w) (e : Env) (w : World) (h : m32_4 R (e 3) (e 4) (e 5) w) : W32 k32_4 Q e w := by
  unfold m32_4 at h
  refine seA ?_
  have hN : ∀ e w, (m32_5 R (e 3) (e 4) (e 5) w) → (thenE (W32 k32_5 Q) Q) .normal e w := fun e w h => then_N (s32_5 (R := R) (Q := Q) hR e w h)
  refine block_ok 0 (by kernel_rfl) ?_
  have hX0 : ∀ e w, (m32_5 R (e 3) (e 4) (e 5) w) → (inBlockE 0 (thenE (W32 k32_5 Q) Q)) (.exit 0) e w := fun e w h => inBlock_same (Q := (thenE (W32 k32_5 Q) Q)) 0 (hN e w h)
  refine loop_ok' (fun (e : Env) => (e 3, e 5)) [4] (by kernel_rfl) (by kernel_rfl) h (fun K e' w' hk h' => ?_)
  have r4 : e' 4 = e 4 := hk 4 (by decide)
  have hX0 : ∀ e w, (m32_5 R (e 3) (e 4) (e 5) w) → (thenE (fun (e : Env) w => K ((e 3), (e 5)) w) (inBlockE 0 (thenE (W32 k32_5 Q) Q))) (.exit 0) e w := fun e w h => then_X (hX0 e w h)
  exact s32_8 (R := R) (Q := (thenE (fun (e : Env) w => K ((e 3), (e 5)) w) (inBlockE 0 (thenE (W32 k32_5 Q) Q)))) (K1 := K) (fun _ _ h => then_N h) hX0 e' w' (by rw [r4]; exact h')
theorem s32_3 {R : VP} {Q : EQ} (hR : ∀ e w, (R (e 2) w) → Q .ret e w) (e : Env) (w : World) (h : m32_3 R (e 3) (e 4) w) : W32 k32_3 Q e w := by
  unfold m32_3 at h
  refine seA ?_
  have hN : ∀ e w, (m32_4 R (e 3) (e 4) (e 5) w) → (thenE (W32 k32_4 Q) Q) .normal e w := fun e w h => then_N (s32_4 (R := R) (Q := Q) hR e w h)
  exact rgA 3 (fun e w => m32_4 R (e 3) (e 4) (e 5) w) h hN
theorem s32_2 {R : VP} {Q : EQ} (hR : ∀ e w, (R (e 2) w) → Q .ret e w) (e : Env) (w : World) (h : m32_2 R (e 3) w) : W32 k32_2 Q e w := by
  unfold m32_2 at h
  refine seA ?_
  have hN : ∀ e w, (m32_3 R (e 3) (e 4) w) → (thenE (W32 k32_3 Q) Q) .normal e w := fun e w h => then_N (s32_3 (R := R) (Q := Q) hR e w h)
  exact rgA 2 (fun e w => m32_3 R (e 3) (e 4) w) h hN
theorem s32_1 {R : VP} {Q : EQ} (hR : ∀ e w, (R (e 2) w) → Q .ret e w) (e : Env) (w : World) (h : m32_1 R (e 0) w) : W32 k32_1 Q e w := by
  unfold m32_1 at h
  refine seA ?_
  have hN : ∀ e w, (m32_2 R (e 3) w) → (thenE (W32 k32_2 Q) Q) .normal e w := fun e w h => then_N (s32_2 (R := R) (Q := Q) hR e w h)
  exact rgA 1 (fun e w => m32_2 R (e 3) w) h hN
theorem s32_0 {R : VP} {Q : EQ} (hR : ∀ e w, (R (e 2) w) → Q .ret e w) (e : Env) (w : World) (h : m32_0 R (e 0) w) : W32 k32_0 Q e w := by
  unfold m32_0 at h
  refine seA ?_
  have hN : ∀ e w, (m32_1 R (e 0) w) → (thenE (W32 k32_1 Q) Q) .normal e w := fun e w h => then_N (s32_1 (R := R) (Q := Q) hR e w h)
  exact rgA 0 (fun e w => m32_1 R (e 0) w) h hN
abbrev m32 (R : VP) (n0 : Value) (w : World) : Prop := m32_0 R n0 w
theorem s32 (n0 : Value) {R : VP} {w : World} (h : m32 R n0 w) :
    Calls Try.prog 32 #[n0] w fun e w' => ∃ v, e = .returned v ∧ R v w' :=
  calls_of_cwp (st := (fun i => 0)) (c := k32_0) (by kernel_rfl) Try.func32 (by kernel_rfl) (Nat.le_of_ble_eq_true (by kernel_rfl)) (by kernel_rfl)
    (s32_0 (R := R) (Q := endE Try.prog Try.f32 R) (fun e w h => kcast (by kernel_rfl) h) (argsE #[n0]) w (kcast (by kernel_rfl) h))
/-! ### headgate/headgateref01.Take -/
def m43_22 (R : VP) (K1 : VP) (s0 k5 : Value) (w : World) : Prop :=
  valP Try.prog (binS BinOp.add 3 (Operand.tmp 23) (Operand.const (Value.int IntKind.i64 1)) k5 (Value.int IntKind.i64 1)) w fun t24 w =>
  K1 t24 w
def m43_20 (R : VP) (t2 t3 t4 : Value) (w : World) : Prop :=
  R (Value.tuple #[t2, t3, t4]) w
def m43_17 (R : VP) (K1 : (Value × Value) → World → Prop) (s0 k5 u6 i7 : Value) (w : World) : Prop :=
  valP Try.prog (binS BinOp.sub 3 (Operand.tmp 36) (Operand.const (Value.int IntKind.i64 1)) i7 (Value.int IntKind.i64 1)) w fun t37 w =>
  K1 (u6, t37) w
def m43_16 (R : VP) (K1 : (Value × Value) → World → Prop) (s0 k5 u6 i7 : Value) (w : World) : Prop :=
  valP Try.prog (binS BinOp.mul 97 (Operand.tmp 38) (Operand.const (Value.int IntKind.u64 128)) u6 (Value.int IntKind.u64 128)) w fun t39 w =>
  valP Try.prog (Instr.index 9 s0 i7) w fun t42 w =>
  valP Try.prog (convert 5 97 t42) w fun t43 w =>
  valP Try.prog (binS BinOp.rem 97 (Operand.tmp 43) (Operand.const (Value.int IntKind.u64 128)) t43 (Value.int IntKind.u64 128)) w fun t44 w =>
  valP Try.prog (binS BinOp.add 97 (Operand.tmp 39) (Operand.tmp 44) t39 t44) w fun t45 w =>
  m43_17 R K1 s0 k5 t45 i7 w
def m43_12 (R : VP) (t2 t3 t4 : Value) (w : World) : Prop :=
  R (Value.tuple #[t2, t3, t4]) w
def m43_10 (R : VP) (t2 t3 t4 : Value) (w : World) : Prop :=
  R (Value.tuple #[t2, t3, t4]) w
def m43_9 (R : VP) (s0 k5 n8 : Value) (w : World) : Prop :=
  valQ Try.prog (binS BinOp.add 3 (Operand.tmp 64) (Operand.const (Value.int IntKind.i64 1)) k5 (Value.int IntKind.i64 1)) w fun t65 =>
  valQ Try.prog (Instr.sliceAt 9 s0 (some t65) none none) w fun t66 =>
  anyDraw w fun w =>
  m43_10 R n8 t66 (Value.int IntKind.i64 0) w
def m43_11 (R : VP) (s0 k5 n8 t61 : Value) (w : World) : Prop :=
  condP t61
  (m43_12 R (Value.int IntKind.i64 0) (Value.string ⟨#[]⟩) (Value.int IntKind.i64 2) w)
  (m43_9 R s0 k5 n8 w)
def m43_8 (R : VP) (s0 k5 n8 : Value) (w : World) : Prop :=
  anyDraw w fun w =>
  pureP Try.prog (binS BinOp.add 3 (Operand.tmp 58) (Operand.const (Value.int IntKind.i64 1)) k5 (Value.int IntKind.i64 1)) fun t59 =>
  pureP Try.prog (Instr.sliceAt 9 s0 none (some t59) none) fun t60 =>
  callP Try.prog (fnV 26) #[n8] w fun t56 w =>
  pureP Try.prog (binS BinOp.neq 9 (Operand.tmp 56) (Operand.tmp 60) t56 t60) fun t61 =>
  m43_11 R s0 k5 n8 t61 w
def m43_13 (R : VP) (s0 k5 n8 t51 : Value) (w : World) : Prop :=
  condP t51
  (valP Try.prog (Op.unary UnOp.neg n8) w fun t53 w =>
  valP Try.prog (binS BinOp.sub 3 (Operand.tmp 53) (Operand.const (Value.int IntKind.i64 1)) t53 (Value.int IntKind.i64 1)) w fun t54 w =>
  m43_8 R s0 k5 t54 w)
  (m43_8 R s0 k5 n8 w)
def m43_7 (R : VP) (s0 k5 u6 n8 : Value) (w : World) : Prop :=
  valP Try.prog (binS BinOp.rem 97 (Operand.tmp 49) (Operand.const (Value.int IntKind.u64 2)) u6 (Value.int IntKind.u64 2)) w fun t50 w =>
  valP Try.prog (binS BinOp.eql 97 (Operand.tmp 50) (Operand.const (Value.int IntKind.u64 1)) t50 (Value.int IntKind.u64 1)) w fun t51 w =>
  m43_13 R s0 k5 n8 t51 w
def m43_6 (R : VP) (s0 k5 u6 : Value) (w : World) : Prop :=
  valP Try.prog (binS BinOp.quo 97 (Operand.tmp 46) (Operand.const (Value.int IntKind.u64 2)) u6 (Value.int IntKind.u64 2)) w fun t47 w =>
  valP Try.prog (convert 97 3 t47) w fun t48 w =>
  m43_7 R s0 k5 u6 t48 w
def m43_18 (R : VP) (K1 : (Value × Value) → World → Prop) (s0 k5 u6 i7 t35 : Value) (w : World) : Prop :=
  condP t35
  (m43_16 R K1 s0 k5 u6 i7 w)
  (m43_6 R s0 k5 u6 w)
def m43_15 (R : VP) (K1 : (Value × Value) → World → Prop) (s0 k5 u6 i7 : Value) (w : World) : Prop :=
  valP Try.prog (binS BinOp.geq 3 (Operand.tmp 34) (Operand.const (Value.int IntKind.i64 0)) i7 (Value.int IntKind.i64 0)) w fun t35 w =>
  m43_18 R K1 s0 k5 u6 i7 t35 w
def m43_14 (R : VP) (s0 k5 u6 i7 : Value) (w : World) : Prop :=
  loopP (fun (K1 : (Value × Value) → World → Prop) (s : Value × Value) w => m43_15 R K1 s0 k5 s.1 s.2 w) (u6, i7) w
def m43_5 (R : VP) (s0 k5 u6 : Value) (w : World) : Prop :=
  m43_14 R s0 k5 u6 k5 w
def m43_4 (R : VP) (s0 k5 : Value) (w : World) : Prop :=
  m43_5 R s0 k5 (Value.int IntKind.u64 0) w
def m43_19 (R : VP) (s0 k5 t32 : Value) (w : World) : Prop :=
  condP t32
  (m43_20 R (Value.int IntKind.i64 0) (Value.string ⟨#[]⟩) (Value.int IntKind.i64 2) w)
  (m43_4 R s0 k5 w)
def m43_3 (R : VP) (s0 k5 : Value) (w : World) : Prop :=
  builtinP Try.prog Builtin.len #[9] 3 #[false] #[s0] w fun t27 w =>
  valP Try.prog (binS BinOp.eql 3 (Operand.tmp 25) (Operand.tmp 27) k5 t27) w fun t28 w =>
  condP t28
  (pickP t28 (Value.bool true) undef fun t32 =>
  m43_19 R s0 k5 t32 w)
  (valP Try.prog (binS BinOp.eql 3 (Operand.tmp 30) (Operand.const (Value.int IntKind.i64 10)) k5 (Value.int IntKind.i64 10)) w fun t31 w =>
  pickP t28 (Value.bool true) t31 fun t32 =>
  m43_19 R s0 k5 t32 w)
def m43_23 (R : VP) (K1 : VP) (s0 k5 t22 : Value) (w : World) : Prop :=
  condP t22
  (m43_22 R K1 s0 k5 w)
  (m43_3 R s0 k5 w)
def m43_21 (R : VP) (K1 : VP) (s0 k5 : Value) (w : World) : Prop :=
  builtinP Try.prog Builtin.len #[9] 3 #[false] #[s0] w fun t11 w =>
  valP Try.prog (binS BinOp.lss 3 (Operand.tmp 9) (Operand.tmp 11) k5 t11) w fun t12 w =>
  condP t12
  (valP Try.prog (binS BinOp.lss 3 (Operand.tmp 14) (Operand.const (Value.int IntKind.i64 10)) k5 (Value.int IntKind.i64 10)) w fun t15 w =>
  pickP t12 t15 (Value.bool false) fun t16 =>
  condP t16
  (valP Try.prog (Instr.index 9 s0 k5) w fun t20 w =>
  valP Try.prog (binS BinOp.gtr 5 (Operand.tmp 20) (Operand.const (Value.int IntKind.u8 127)) t20 (Value.int IntKind.u8 127)) w fun t21 w =>
  pickP t16 t21 (Value.bool false) fun t22 =>
  m43_23 R K1 s0 k5 t22 w)
  (pickP t16 undef (Value.bool false) fun t22 =>
  m43_23 R K1 s0 k5 t22 w))
  (pickP t12 undef (Value.bool false) fun t16 =>
  condP t16
  (valP Try.prog (Instr.index 9 s0 k5) w fun t20 w =>
  valP Try.prog (binS BinOp.gtr 5 (Operand.tmp 20) (Operand.const (Value.int IntKind.u8 127)) t20 (Value.int IntKind.u8 127)) w fun t21 w =>
  pickP t16 t21 (Value.bool false) fun t22 =>
  m43_23 R K1 s0 k5 t22 w)
  (pickP t16 undef (Value.bool false) fun t22 =>
  m43_23 R K1 s0 k5 t22 w))
def m43_2 (R : VP) (s0 k5 : Value) (w : World) : Prop :=
  loopP (fun (K1 : VP) (s : Value) w => m43_21 R K1 s0 s w) k5 w
def m43_1 (R : VP) (s0 : Value) (w : World) : Prop :=
  m43_2 R s0 (Value.int IntKind.i64 0) w
def m43_0 (R : VP) (s0 : Value) (w : World) : Prop :=
  m43_1 R s0 w
abbrev W43 := cwp Try.prog (fun i => cond (Nat.beq i 16) 1 (0))
noncomputable def k43_0 : Code := (bodyOf Try.f43)
noncomputable def k43_1 : Code := (c2 k43_0)
noncomputable def k43_2 : Code := (c2 k43_1)
noncomputable def k43_3 : Code := (c2 k43_2)
noncomputable def k43_4 : Code := (c2 k43_3)
noncomputable def k43_5 : Code := (c2 k43_4)
noncomputable def k43_6 : Code := (c2 k43_5)
noncomputable def k43_7 : Code := (c2 k43_6)
noncomputable def k43_8 : Code := (c2 k43_7)
noncomputable def k43_9 : Code := (c2 k43_8)
noncomputable def k43_10 : Code := (c2 k43_9)
noncomputable def k43_11 : Code := (c2 (c1 k43_8))
noncomputable def k43_12 : Code := (c2 (c1 k43_11))
noncomputable def k43_13 : Code := (c2 (c1 k43_7))
noncomputable def k43_14 : Code := (c2 (c1 k43_5))
noncomputable def k43_15 : Code := (c1 (c1 k43_14))
noncomputable def k43_16 : Code := (c2 k43_15)
noncomputable def k43_17 : Code := (c2 k43_16)
noncomputable def k43_18 : Code := (c2 (c1 k43_15))
noncomputable def k43_19 : Code := (c2 (c1 k43_3))
noncomputable def k43_20 : Code := (c2 (c1 k43_19))
noncomputable def k43_21 : Code := (c1 (c1 (c1 k43_2)))
noncomputable def k43_22 : Code := (c2 k43_21)
noncomputable def k43_23 : Code := (c2 (c1 k43_21))
theorem s43_22 {R : VP} {K1 : VP} {Q : EQ} (hN : ∀ e w, (K1 (e 5) w) → Q .normal e w) (e : Env) (w : World) (h : m43_22 R K1 (e 0) (e 5) w) : W43 k43_22 Q e w := by
  unfold m43_22 at h
  refine block_ok 1 (by kernel_rfl) ?_
  have hN : ∀ e w, (K1 (e 5) w) → (inBlockE 1 Q) .normal e w := fun e w h => block_N (hN e w h)
  exact rgA 3 (fun e w => K1 (e 5) w) h hN
theorem s43_20 {R : VP} {Q : EQ} (hR : ∀ e w, (R (Value.tuple #[(e 2), (e 3), (e 4)]) w) → Q .ret e w) (e : Env) (w : World) (h : m43_20 R (e 2) (e 3) (e 4) w) : W43 k43_20 Q e w := by
  unfold m43_20 at h
  exact reA (hR _ _ h)
theorem s43_17 {R : VP} {K1 : (Value × Value) → World → Prop} {Q : EQ} (hN : ∀ e w, (K1 ((e 6), (e 7)) w) → Q .normal e w) (e : Env) (w : World) (h : m43_17 R K1 (e 0) (e 5) (e 6) (e 7) w) : W43 k43_17 Q e w := by
  unfold m43_17 at h
  exact rgA 9 (fun e w => K1 ((e 6), (e 7)) w) h hN
theorem s43_16 {R : VP} {K1 : (Value × Value) → World → Prop} {Q : EQ} (hN : ∀ e w, (K1 ((e 6), (e 7)) w) → Q .normal e w) (e : Env) (w : World) (h : m43_16 R K1 (e 0) (e 5) (e 6) (e 7) w) : W43 k43_16 Q e w := by
  unfold m43_16 at h
  refine seA ?_
  have hN : ∀ e w, (m43_17 R K1 (e 0) (e 5) (e 6) (e 7) w) → (thenE (W43 k43_17 Q) Q) .normal e w := fun e w h => then_N (s43_17 (R := R) (Q := Q) (K1 := K1) hN e w h)
  refine block_ok 3 (by kernel_rfl) ?_
  have hN : ∀ e w, (m43_17 R K1 (e 0) (e 5) (e 6) (e 7) w) → (inBlockE 3 (thenE (W43 k43_17 Q) Q)) .normal e w := fun e w h => block_N (hN e w h)
  exact rgA 10 (fun e w => m43_17 R K1 (e 0) (e 5) (e 6) (e 7) w) h hN
theorem s43_12 {R : VP} {Q : EQ} (hR : ∀ e w, (R (Value.tuple #[(e 2), (e 3), (e 4)]) w) → Q .ret e w) (e : Env) (w : World) (h : m43_12 R (e 2) (e 3) (e 4) w) : W43 k43_12 Q e w := by
  unfold m43_12 at h
  exact reA (hR _ _ h)
theorem s43_10 {R : VP} {Q : EQ} (hR : ∀ e w, (R (Value.tuple #[(e 2), (e 3), (e 4)]) w) → Q .ret e w) (e : Env) (w : World) (h : m43_10 R (e 2) (e 3) (e 4) w) : W43 k43_10 Q e w := by
  unfold m43_10 at h
  exact reA (hR _ _ h)
theorem s43_9 {R : VP} {Q : EQ} (hR : ∀ e w, (R (Value.tuple #[(e 2), (e 3), (e 4)]) w) → Q .ret e w) (e : Env) (w : World) (h : m43_9 R (e 0) (e 5) (e 8) w) : W43 k43_9 Q e w := by
  unfold m43_9 at h
  refine seA ?_
  have hN : ∀ e w, (m43_10 R (e 2) (e 3) (e 4) w) → (thenE (W43 k43_10 Q) Q) .normal e w := fun e w h => then_N (s43_10 (R := R) (Q := Q) hR e w h)
  exact quA 16 (fun e w => m43_10 R (e 2) (e 3) (e 4) w) h hN
theorem s43_11 {R : VP} {Q : EQ} (hN : ∀ e w, (m43_9 R (e 0) (e 5) (e 8) w) → Q .normal e w) (hR : ∀ e w, (R (Value.tuple #[(e 2), (e 3), (e 4)]) w) → Q .ret e w) (e : Env) (w : World) (h : m43_11 R (e 0) (e 5) (e 8) (e 61) w) : W43 k43_11 Q e w := by
  unfold m43_11 at h
  refine coA (Operand.tmp 61) h (fun h1 => ?_) (fun h1 => ?_)
  · refine seA ?_
    have hN : ∀ e w, (m43_12 R (e 2) (e 3) (e 4) w) → (thenE (W43 k43_12 Q) Q) .normal e w := fun e w h => then_N (s43_12 (R := R) (Q := Q) hR e w h)
    exact rgA 15 (fun e w => m43_12 R (e 2) (e 3) (e 4) w) h1 hN
  · exact skA (hN _ _ h1)
theorem s43_8 {R : VP} {Q : EQ} (hR : ∀ e w, (R (Value.tuple #[(e 2), (e 3), (e 4)]) w) → Q .ret e w) (e : Env) (w : World) (h : m43_8 R (e 0) (e 5) (e 8) w) : W43 k43_8 Q e w := by
  unfold m43_8 at h
  refine seA ?_
  have hN : ∀ e w, (m43_9 R (e 0) (e 5) (e 8) w) → (thenE (W43 k43_9 Q) Q) .normal e w := fun e w h => then_N (s43_9 (R := R) (Q := Q) hR e w h)
  have hR : ∀ e w, (R (Value.tuple #[(e 2), (e 3), (e 4)]) w) → (thenE (W43 k43_9 Q) Q) .ret e w := fun e w h => then_R (hR e w h)
  refine seA ?_
  have hN : ∀ e w, (m43_11 R (e 0) (e 5) (e 8) (e 61) w) → (thenE (W43 k43_11 (thenE (W43 k43_9 Q) Q)) (thenE (W43 k43_9 Q) Q)) .normal e w := fun e w h => then_N (s43_11 (R := R) (Q := (thenE (W43 k43_9 Q) Q)) hN hR e w h)
  exact tree_ok 14 7 [false, false, false, false, false, false, false] (.take 0 [true, false, false, false, false, false, false] (.take 2 [true, false, true, false, false, false, false] (.take 3 [true, false, true, true, false, false, false] (.take 4 [true, false, true, true, true, false, false] (.take 5 [true, false, true, true, true, true, false] (.alt 1 [true, true, true, true, true, true, false] (.take 6 [true, true, true, true, true, true, true] .done) .stop)))))) (fun e w => m43_11 R (e 0) (e 5) (e 8) (e 61) w) (by kernel_rfl) (by kernel_rfl) (by kernel_rfl) (by kernel_rfl) (by kernel_rfl) (by kernel_rfl) (kcast (by kernel_rfl) h) hN (by kernel_rfl)
theorem s43_13 {R : VP} {Q : EQ} (hN : ∀ e w, (m43_8 R (e 0) (e 5) (e 8) w) → Q .normal e w) (e : Env) (w : World) (h : m43_13 R (e 0) (e 5) (e 8) (e 51) w) : W43 k43_13 Q e w := by
  unfold m43_13 at h
  refine coA (Operand.tmp 51) h (fun h1 => ?_) (fun h1 => ?_)
  · exact rgA 13 (fun e w => m43_8 R (e 0) (e 5) (e 8) w) h1 hN
  · exact skA (hN _ _ h1)
theorem s43_7 {R : VP} {Q : EQ} (hR : ∀ e w, (R (Value.tuple #[(e 2), (e 3), (e 4)]) w) → Q .ret e w) (e : Env) (w : World) (h : m43_7 R (e 0) (e 5) (e 6) (e 8) w) : W43 k43_7 Q e w := by
  unfold m43_7 at h
  refine seA ?_
  have hN : ∀ e w, (m43_8 R (e 0) (e 5) (e 8) w) → (thenE (W43 k43_8 Q) Q) .normal e w := fun e w h => then_N (s43_8 (R := R) (Q := Q) hR e w h)
  refine seA ?_
  have hN : ∀ e w, (m43_13 R (e 0) (e 5) (e 8) (e 51) w) → (thenE (W43 k43_13 (thenE (W43 k43_8 Q) Q)) (thenE (W43 k43_8 Q) Q)) .normal e w := fun e w h => then_N (s43_13 (R := R) (Q := (thenE (W43 k43_8 Q) Q)) hN e w h)
  exact rgA 12 (fun e w => m43_13 R (e 0) (e 5) (e 8) (e 51) w) h hN
theorem s43_6 {R : VP} {Q : EQ} (hR : ∀ e w, (R (Value.tuple #[(e 2), (e 3), (e 4)]) w) → Q .ret e w) (e : Env) (w : World) (h : m43_6 R (e 0) (e 5) (e 6) w) : W43 k43_6 Q e w := by
  unfold m43_6 at h
  refine seA ?_
  have hN : ∀ e w, (m43_7 R (e 0) (e 5) (e 6) (e 8) w) → (thenE (W43 k43_7 Q) Q) .normal e w := fun e w h => then_N (s43_7 (R := R) (Q := Q) hR e w h)
  exact rgA 11 (fun e w => m43_7 R (e 0) (e 5) (e 6) (e 8) w) h hN
theorem s43_18 {R : VP} {K1 : (Value × Value) → World → Prop} {Q : EQ} (hN : ∀ e w, (m43_16 R K1 (e 0) (e 5) (e 6) (e 7) w) → Q .normal e w) (hX2 : ∀ e w, (m43_6 R (e 0) (e 5) (e 6) w) → Q (.exit 2) e w) (e : Env) (w : World) (h : m43_18 R K1 (e 0) (e 5) (e 6) (e 7) (e 35) w) : W43 k43_18 Q e w := by
  unfold m43_18 at h
  refine coA (Operand.tmp 35) h (fun h1 => ?_) (fun h1 => ?_)
  · exact skA (hN _ _ h1)
  · exact exA 2 (hX2 _ _ h1)
theorem s43_15 {R : VP} {K1 : (Value × Value) → World → Prop} {Q : EQ} (hN : ∀ e w, (K1 ((e 6), (e 7)) w) → Q .normal e w) (hX2 : ∀ e w, (m43_6 R (e 0) (e 5) (e 6) w) → Q (.exit 2) e w) (e : Env) (w : World) (h : m43_15 R K1 (e 0) (e 5) (e 6) (e 7) w) : W43 k43_15 Q e w := by
  unfold m43_15 at h
  refine seA ?_
  have hN : ∀ e w, (m43_16 R K1 (e 0) (e 5) (e 6) (e 7) w) → (thenE (W43 k43_16 Q) Q) .normal e w := fun e w h => then_N (s43_16 (R := R) (Q := Q) (K1 := K1) hN e w h)
  have hX2 : ∀ e w, (m43_6 R (e 0) (e 5) (e 6) w) → (thenE (W43 k43_16 Q) Q) (.exit 2) e w := fun e w h => then_X (hX2 e w h)
  refine seA ?_
  have hN : ∀ e w, (m43_18 R K1 (e 0) (e 5) (e 6) (e 7) (e 35) w) → (thenE (W43 k43_18 (thenE (W43 k43_16 Q) Q)) (thenE (W43 k43_16 Q) Q)) .normal e w := fun e w h => then_N (s43_18 (R := R) (Q := (thenE (W43 k43_16 Q) Q)) (K1 := K1) hN hX2 e w h)
  exact rgA 8 (fun e w => m43_18 R K1 (e 0) (e 5) (e 6) (e 7) (e 35) w) h hN
theorem s43_14 {R : VP} {Q : EQ} (hN : ∀ e w, (m43_6 R (e 0) (e 5) (e 6) w) → Q .normal e w) (e : Env) (w : World) (h : m43_14 R (e 0) (e 5) (e 6) (e 7) w) : W43 k43_14 Q e w := by
  unfold m43_14 at h
  refine block_ok 2 (by kernel_rfl) ?_
  have hX2 : ∀ e w, (m43_6 R (e 0) (e 5) (e 6) w) → (inBlockE 2 Q) (.exit 2) e w := fun e w h => inBlock_same (Q := Q) 2 (hN e w h)
  refine loop_ok' (fun (e : Env) => (e 6, e 7)) [0, 5] (by kernel_rfl) (by kernel_rfl) h (fun K e' w' hk h' => ?_)
  have r0 : e' 0 = e 0 := hk 0 (by decide)
  have r5 : e' 5 = e 5 := hk 5 (by decide)
  have hX2 : ∀ e w, (m43_6 R (e 0) (e 5) (e 6) w) → (thenE (fun (e : Env) w => K ((e 6), (e 7)) w) (inBlockE 2 Q)) (.exit 2) e w := fun e w h => then_X (hX2 e w h)
  exact s43_15 (R := R) (Q := (thenE (fun (e : Env) w => K ((e 6), (e 7)) w) (inBlockE 2 Q))) (K1 := K) (fun _ _ h => then_N h) hX2 e' w' (by rw [r0, r5]; exact h')
theorem s43_5 {R : VP} {Q : EQ} (hR : ∀ e w, (R (Value.tuple #[(e 2), (e 3), (e 4)]) w) → Q .ret e w) (e : Env) (w : World) (h : m43_5 R (e 0) (e 5) (e 6) w) : W43 k43_5 Q e w := by
  unfold m43_5 at h
  refine seA ?_
  have hN : ∀ e w, (m43_6 R (e 0) (e 5) (e 6) w) → (thenE (W43 k43_6 Q) Q) .normal e w := fun e w h => then_N (s43_6 (R := R) (Q := Q) hR e w h)
  refine seA ?_
  have hN : ∀ e w, (m43_14 R (e 0) (e 5) (e 6) (e 7) w) → (thenE (W43 k43_14 (thenE (W43 k43_6 Q) Q)) (thenE (W43 k43_6 Q) Q)) .normal e w := fun e w h => then_N (s43_14 (R := R) (Q := (thenE (W43 k43_6 Q) Q)) hN e w h)
  exact rgA 7 (fun e w => m43_14 R (e 0) (e 5) (e 6) (e 7) w) h hN
theorem s43_4 {R : VP} {Q : EQ} (hR : ∀ e w, (R (Value.tuple #[(e 2), (e 3), (e 4)]) w) → Q .ret e w) (e : Env) (w : World) (h : m43_4 R (e 0) (e 5) w) : W43 k43_4 Q e w := by
  unfold m43_4 at h
  refine seA ?_
  have hN : ∀ e w, (m43_5 R (e 0) (e 5) (e 6) w) → (thenE (W43 k43_5 Q) Q) .normal e w := fun e w h => then_N (s43_5 (R := R) (Q := Q) hR e w h)
  exact rgA 6 (fun e w => m43_5 R (e 0) (e 5) (e 6) w) h hN
theorem s43_19 {R : VP} {Q : EQ} (hN : ∀ e w, (m43_4 R (e 0) (e 5) w) → Q .normal e w) (hR : ∀ e w, (R (Value.tuple #[(e 2), (e 3), (e 4)]) w) → Q .ret e w) (e : Env) (w : World) (h : m43_19 R (e 0) (e 5) (e 32) w) : W43 k43_19 Q e w := by
  unfold m43_19 at h
  refine coA (Operand.tmp 32) h (fun h1 => ?_) (fun h1 => ?_)
  · refine seA ?_
    have hN : ∀ e w, (m43_20 R (e 2) (e 3) (e 4) w) → (thenE (W43 k43_20 Q) Q) .normal e w := fun e w h => then_N (s43_20 (R := R) (Q := Q) hR e w h)
    exact rgA 5 (fun e w => m43_20 R (e 2) (e 3) (e 4) w) h1 hN
  · exact skA (hN _ _ h1)
theorem s43_3 {R : VP} {Q : EQ} (hR : ∀ e w, (R (Value.tuple #[(e 2), (e 3), (e 4)]) w) → Q .ret e w) (e : Env) (w : World) (h : m43_3 R (e 0) (e 5) w) : W43 k43_3 Q e w := by
  unfold m43_3 at h
  refine seA ?_
  have hN : ∀ e w, (m43_4 R (e 0) (e 5) w) → (thenE (W43 k43_4 Q) Q) .normal e w := fun e w h => then_N (s43_4 (R := R) (Q := Q) hR e w h)
  have hR : ∀ e w, (R (Value.tuple #[(e 2), (e 3), (e 4)]) w) → (thenE (W43 k43_4 Q) Q) .ret e w := fun e w h => then_R (hR e w h)
  refine seA ?_
  have hN : ∀ e w, (m43_19 R (e 0) (e 5) (e 32) w) → (thenE (W43 k43_19 (thenE (W43 k43_4 Q) Q)) (thenE (W43 k43_4 Q) Q)) .normal e w := fun e w h => then_N (s43_19 (R := R) (Q := (thenE (W43 k43_4 Q) Q)) hN hR e w h)
  exact rgA 4 (fun e w => m43_19 R (e 0) (e 5) (e 32) w) h hN
theorem s43_23 {R : VP} {K1 : VP} {Q : EQ} (hN : ∀ e w, (m43_22 R K1 (e 0) (e 5) w) → Q .normal e w) (hX0 : ∀ e w, (m43_3 R (e 0) (e 5) w) → Q (.exit 0) e w) (e : Env) (w : World) (h : m43_23 R K1 (e 0) (e 5) (e 22) w) : W43 k43_23 Q e w := by
  unfold m43_23 at h
  refine coA (Operand.tmp 22) h (fun h1 => ?_) (fun h1 => ?_)
  · exact skA (hN _ _ h1)
  · exact exA 0 (hX0 _ _ h1)
theorem s43_21 {R : VP} {K1 : VP} {Q : EQ} (hN : ∀ e w, (K1 (e 5) w) → Q .normal e w) (hX0 : ∀ e w, (m43_3 R (e 0) (e 5) w) → Q (.exit 0) e w) (e : Env) (w : World) (h : m43_21 R K1 (e 0) (e 5) w) : W43 k43_21 Q e w := by
  unfold m43_21 at h
  refine seA ?_
  have hN : ∀ e w, (m43_22 R K1 (e 0) (e 5) w) → (thenE (W43 k43_22 Q) Q) .normal e w := fun e w h => then_N (s43_22 (R := R) (Q := Q) (K1 := K1) hN e w h)
  have hX0 : ∀ e w, (m43_3 R (e 0) (e 5) w) → (thenE (W43 k43_22 Q) Q) (.exit 0) e w := fun e w h => then_X (hX0 e w h)
  refine seA ?_
  have hN : ∀ e w, (m43_23 R K1 (e 0) (e 5) (e 22) w) → (thenE (W43 k43_23 (thenE (W43 k43_22 Q) Q)) (thenE (W43 k43_22 Q) Q)) .normal e w := fun e w h => then_N (s43_23 (R := R) (Q := (thenE (W43 k43_22 Q) Q)) (K1 := K1) hN hX0 e w h)
  exact rgA 2 (fun e w => m43_23 R K1 (e 0) (e 5) (e 22) w) h hN
theorem s43_2 {R : VP} {Q : EQ} (hR : ∀ e w, (R (Value.tuple #[(e 2), (e 3), (e 4)]) w) → Q .ret e w) (e : Env) (w : World) (h : m43_2 R (e 0) (e 5) w) : W43 k43_2 Q e w := by
  unfold m43_2 at h
  refine seA ?_
  have hN : ∀ e w, (m43_3 R (e 0) (e 5) w) → (thenE (W43 k43_3 Q) Q) .normal e w := fun e w h => then_N (s43_3 (R := R) (Q := Q) hR e w h)
  refine block_ok 0 (by kernel_rfl) ?_
  have hX0 : ∀ e w, (m43_3 R (e 0) (e 5) w) → (inBlockE 0 (thenE (W43 k43_3 Q) Q)) (.exit 0) e w := fun e w h => inBlock_same (Q := (thenE (W43 k43_3 Q) Q)) 0 (hN e w h)
  refine loop_ok' (fun (e : Env) => e 5) [0] (by kernel_rfl) (by kernel_rfl) h (fun K e' w' hk h' => ?_)
  have r0 : e' 0 = e 0 := hk 0 (by decide)
  have hX0 : ∀ e w, (m43_3 R (e 0) (e 5) w) → (thenE (fun (e : Env) w => K (e 5) w) (inBlockE 0 (thenE (W43 k43_3 Q) Q))) (.exit 0) e w := fun e w h => then_X (hX0 e w h)
  exact s43_21 (R := R) (Q := (thenE (fun (e : Env) w => K (e 5) w) (inBlockE 0 (thenE (W43 k43_3 Q) Q)))) (K1 := K) (fun _ _ h => then_N h) hX0 e' w' (by rw [r0]; exact h')
theorem s43_1 {R : VP} {Q : EQ} (hR : ∀ e w, (R (Value.tuple #[(e 2), (e 3), (e 4)]) w) → Q .ret e w) (e : Env) (w : World) (h : m43_1 R (e 0) w) : W43 k43_1 Q e w := by
  unfold m43_1 at h
  refine seA ?_
  have hN : ∀ e w, (m43_2 R (e 0) (e 5) w) → (thenE (W43 k43_2 Q) Q) .normal e w := fun e w h => then_N (s43_2 (R := R) (Q := Q) hR e w h)
  exact rgA 1 (fun e w => m43_2 R (e 0) (e 5) w) h hN
theorem s43_0 {R : VP} {Q : EQ} (hR : ∀ e w, (R (Value.tuple #[(e 2), (e 3), (e 4)]) w) → Q .ret e w) (e : Env) (w : World) (h : m43_0 R (e 0) w) : W43 k43_0 Q e w := by
  unfold m43_0 at h
  refine seA ?_
  have hN : ∀ e w, (m43_1 R (e 0) w) → (thenE (W43 k43_1 Q) Q) .normal e w := fun e w h => then_N (s43_1 (R := R) (Q := Q) hR e w h)
  exact rgA 0 (fun e w => m43_1 R (e 0) w) h hN
abbrev m43 (R : VP) (s0 : Value) (w : World) : Prop := m43_0 R s0 w
theorem s43 (s0 : Value) {R : VP} {w : World} (h : m43 R s0 w) :
    Calls Try.prog 43 #[s0] w fun e w' => ∃ v, e = .returned v ∧ R v w' :=
  calls_of_cwp (st := (fun i => cond (Nat.beq i 16) 1 (0))) (c := k43_0) (by kernel_rfl) Try.func43 (by kernel_rfl) (Nat.le_of_ble_eq_true (by kernel_rfl)) (by kernel_rfl)
    (s43_0 (R := R) (Q := endE Try.prog Try.f43 R) (fun e w h => kcast (by kernel_rfl) h) (argsE #[s0]) w (kcast (by kernel_rfl) h))
/-! ### headgate/headgateref01.Put -/
def m26_10 (R : VP) (K1 : (Value × Value) → World → Prop) (u3 b4 : Value) (w : World) : Prop :=
  valP Try.prog (binS BinOp.quo 97 (Operand.tmp 25) (Operand.const (Value.int IntKind.u64 128)) u3 (Value.int IntKind.u64 128)) w fun t26 w =>
  K1 (t26, b4) w
def m26_9 (R : VP) (K1 : (Value × Value) → World → Prop) (u3 b4 : Value) (w : World) : Prop :=
  valP Try.prog (binS BinOp.rem 97 (Operand.tmp 19) (Operand.const (Value.int IntKind.u64 128)) u3 (Value.int IntKind.u64 128)) w fun t20 w =>
  valP Try.prog (binS BinOp.add 97 (Operand.tmp 20) (Operand.const (Value.int IntKind.u64 128)) t20 (Value.int IntKind.u64 128)) w fun t21 w =>
  valP Try.prog (convert 97 5 t21) w fun t22 w =>
  valP Try.prog (Instr.buildSlice 71 1 #[(0, t22)]) w fun t23 w =>
  builtinP Try.prog Builtin.append #[71, 71] 71 #[false, false] #[b4, t23] w fun t24 w =>
  m26_10 R K1 u3 t24 w
def m26_7 (R : VP) (t2 : Value) (w : World) : Prop :=
  R t2 w
def m26_6 (R : VP) (b4 : Value) (w : World) : Prop :=
  valP Try.prog (convert 71 9 b4) w fun t33 w =>
  m26_7 R t33 w
def m26_5 (R : VP) (u3 b4 : Value) (w : World) : Prop :=
  valP Try.prog (convert 97 5 u3) w fun t29 w =>
  valP Try.prog (Instr.buildSlice 71 1 #[(0, t29)]) w fun t30 w =>
  builtinP Try.prog Builtin.append #[71, 71] 71 #[false, false] #[b4, t30] w fun t31 w =>
  m26_6 R t31 w
def m26_11 (R : VP) (K1 : (Value × Value) → World → Prop) (u3 b4 t17 : Value) (w : World) : Prop :=
  condP t17
  (m26_9 R K1 u3 b4 w)
  (m26_5 R u3 b4 w)
def m26_8 (R : VP) (K1 : (Value × Value) → World → Prop) (u3 b4 : Value) (w : World) : Prop :=
  valP Try.prog (binS BinOp.gtr 97 (Operand.tmp 16) (Operand.const (Value.int IntKind.u64 127)) u3 (Value.int IntKind.u64 127)) w fun t17 w =>
  m26_11 R K1 u3 b4 t17 w
def m26_4 (R : VP) (u3 b4 : Value) (w : World) : Prop :=
  loopP (fun (K1 : (Value × Value) → World → Prop) (s : Value × Value) w => m26_8 R K1 s.1 s.2 w) (u3, b4) w
def m26_3 (R : VP) (u3 : Value) (w : World) : Prop :=
  m26_4 R u3 (Value.slice none 0 0) w
def m26_12 (R : VP) (n0 u3 t9 : Value) (w : World) : Prop :=
  condP t9
  (valP Try.prog (binS BinOp.add 3 (Operand.tmp 10) (Operand.const (Value.int IntKind.i64 1)) n0 (Value.int IntKind.i64 1)) w fun t11 w =>
  valP Try.prog (Op.unary UnOp.neg t11) w fun t12 w =>
  valP Try.prog (convert 3 97 t12) w fun t13 w =>
  valP Try.prog (binS BinOp.mul 97 (Operand.tmp 13) (Operand.const (Value.int IntKind.u64 2)) t13 (Value.int IntKind.u64 2)) w fun t14 w =>
  valP Try.prog (binS BinOp.add 97 (Operand.tmp 14) (Operand.const (Value.int IntKind.u64 1)) t14 (Value.int IntKind.u64 1)) w fun t15 w =>
  m26_3 R t15 w)
  (m26_3 R u3 w)
def m26_2 (R : VP) (n0 u3 : Value) (w : World) : Prop :=
  valP Try.prog (binS BinOp.lss 3 (Operand.tmp 8) (Operand.const (Value.int IntKind.i64 0)) n0 (Value.int IntKind.i64 0)) w fun t9 w =>
  m26_12 R n0 u3 t9 w
def m26_1 (R : VP) (n0 : Value) (w : World) : Prop :=
  valP Try.prog (convert 3 97 n0) w fun t6 w =>
  valP Try.prog (binS BinOp.mul 97 (Operand.tmp 6) (Operand.const (Value.int IntKind.u64 2)) t6 (Value.int IntKind.u64 2)) w fun t7 w =>
  m26_2 R n0 t7 w
def m26_0 (R : VP) (n0 : Value) (w : World) : Prop :=
  m26_1 R n0 w
abbrev W26 := cwp Try.prog (fun i => 0)
noncomputable def k26_0 : Code := (bodyOf Try.f26)
noncomputable def k26_1 : Code := (c2 k26_0)
noncomputable def k26_2 : Code := (c2 k26_1)
noncomputable def k26_3 : Code := (c2 k26_2)
noncomputable def k26_4 : Code := (c2 k26_3)
noncomputable def k26_5 : Code := (c2 k26_4)
noncomputable def k26_6 : Code := (c2 k26_5)
noncomputable def k26_7 : Code := (c2 k26_6)
noncomputable def k26_8 : Code := (c1 (c1 (c1 k26_4)))
noncomputable def k26_9 : Code := (c2 k26_8)
noncomputable def k26_10 : Code := (c2 (c1 k26_9))
noncomputable def k26_11 : Code := (c2 (c1 k26_8))
noncomputable def k26_12 : Code := (c2 (c1 k26_2))
theorem s26_10 {R : VP} {K1 : (Value × Value) → World → Prop} {Q : EQ} (hN : ∀ e w, (K1 ((e 3), (e 4)) w) → Q .normal e w) (e : Env) (w : World) (h : m26_10 R K1 (e 3) (e 4) w) : W26 k26_10 Q e w := by
  unfold m26_10 at h
  exact rgA 7 (fun e w => K1 ((e 3), (e 4)) w) h hN
theorem s26_9 {R : VP} {K1 : (Value × Value) → World → Prop} {Q : EQ} (hN : ∀ e w, (K1 ((e 3), (e 4)) w) → Q .normal e w) (e : Env) (w : World) (h : m26_9 R K1 (e 3) (e 4) w) : W26 k26_9 Q e w := by
  unfold m26_9 at h
  refine block_ok 1 (by kernel_rfl) ?_
  have hN : ∀ e w, (K1 ((e 3), (e 4)) w) → (inBlockE 1 Q) .normal e w := fun e w h => block_N (hN e w h)
  refine seA ?_
  have hN : ∀ e w, (m26_10 R K1 (e 3) (e 4) w) → (thenE (W26 k26_10 (inBlockE 1 Q)) (inBlockE 1 Q)) .normal e w := fun e w h => then_N (s26_10 (R := R) (Q := (inBlockE 1 Q)) (K1 := K1) hN e w h)
  exact rgA 6 (fun e w => m26_10 R K1 (e 3) (e 4) w) h hN
theorem s26_7 {R : VP} {Q : EQ} (hR : ∀ e w, (R (e 2) w) → Q .ret e w) (e : Env) (w : World) (h : m26_7 R (e 2) w) : W26 k26_7 Q e w := by
  unfold m26_7 at h
  exact reA (hR _ _ h)
theorem s26_6 {R : VP} {Q : EQ} (hR : ∀ e w, (R (e 2) w) → Q .ret e w) (e : Env) (w : World) (h : m26_6 R (e 4) w) : W26 k26_6 Q e w := by
  unfold m26_6 at h
  refine seA ?_
  have hN : ∀ e w, (m26_7 R (e 2) w) → (thenE (W26 k26_7 Q) Q) .normal e w := fun e w h => then_N (s26_7 (R := R) (Q := Q) hR e w h)
  exact rgA 9 (fun e w => m26_7 R (e 2) w) h hN
theorem s26_5 {R : VP} {Q : EQ} (hR : ∀ e w, (R (e 2) w) → Q .ret e w) (e : Env) (w : World) (h : m26_5 R (e 3) (e 4) w) : W26 k26_5 Q e w := by
  unfold m26_5 at h
  refine seA ?_
  have hN : ∀ e w, (m26_6 R (e 4) w) → (thenE (W26 k26_6 Q) Q) .normal e w := fun e w h => then_N (s26_6 (R := R) (Q := Q) hR e w h)
  exact rgA 8 (fun e w => m26_6 R (e 4) w) h hN
theorem s26_11 {R : VP} {K1 : (Value × Value) → World → Prop} {Q : EQ} (hN : ∀ e w, (m26_9 R K1 (e 3) (e 4) w) → Q .normal e w) (hX0 : ∀ e w, (m26_5 R (e 3) (e 4) w) → Q (.exit 0) e w) (e : Env) (w : World) (h : m26_11 R K1 (e 3) (e 4) (e 17) w) : W26 k26_11 Q e w := by
  unfold m26_11 at h
  refine coA (Operand.tmp 17) h (fun h1 => ?_) (fun h1 => ?_)
  · exact skA (hN _ _ h1)
  · exact exA 0 (hX0 _ _ h1)
theorem s26_8 {R : VP} {K1 : (Value × Value) → World → Prop} {Q : EQ} (hN : ∀ e w, (K1 ((e 3), (e 4)) w) → Q .normal e w) (hX0 : ∀ e w, (m26_5 R (e 3) (e 4) w) → Q (.exit 0) e w) (e : Env) (w : World) (h : m26_8 R K1 (e 3) (e 4) w) : W26 k26_8 Q e w := by
  unfold m26_8 at h
  refine seA ?_
  have hN : ∀ e w, (m26_9 R K1 (e 3) (e 4) w) → (thenE (W26 k26_9 Q) Q) .normal e w := fun e w h => then_N (s26_9 (R := R) (Q := Q) (K1 := K1) hN e w h)
  have hX0 : ∀ e w, (m26_5 R (e 3) (e 4) w) → (thenE (W26 k26_9 Q) Q) (.exit 0) e w := fun e w h => then_X (hX0 e w h)
  refine seA ?_
  have hN : ∀ e w, (m26_11 R K1 (e 3) (e 4) (e 17) w) → (thenE (W26 k26_11 (thenE (W26 k26_9 Q) Q)) (thenE (W26 k26_9 Q) Q)) .normal e w := fun e w h => then_N (s26_11 (R := R) (Q := (thenE (W26 k26_9 Q) Q)) (K1 := K1) hN hX0 e w h)
  exact rgA 5 (fun e w => m26_11 R K1 (e 3) (e 4) (e 17) w) h hN
theorem s26_4 {R : VP} {Q : EQ} (hR : ∀ e w, (R (e 2) w) → Q .ret e w) (e : Env) (w : World) (h : m26_4 R (e 3) (e 4) w) : W26 k26_4 Q e w := by
  unfold m26_4 at h
  refine seA ?_
  have hN : ∀ e w, (m26_5 R (e 3) (e 4) w) → (thenE (W26 k26_5 Q) Q) .normal e w := fun e w h => then_N (s26_5 (R := R) (Q := Q) hR e w h)
  refine block_ok 0 (by kernel_rfl) ?_
  have hX0 : ∀ e w, (m26_5 R (e 3) (e 4) w) → (inBlockE 0 (thenE (W26 k26_5 Q) Q)) (.exit 0) e w := fun e w h => inBlock_same (Q := (thenE (W26 k26_5 Q) Q)) 0 (hN e w h)
  refine loop_ok' (fun (e : Env) => (e 3, e 4)) [] (by kernel_rfl) (by kernel_rfl) h (fun K e' w' hk h' => ?_)
  have hX0 : ∀ e w, (m26_5 R (e 3) (e 4) w) → (thenE (fun (e : Env) w => K ((e 3), (e 4)) w) (inBlockE 0 (thenE (W26 k26_5 Q) Q))) (.exit 0) e w := fun e w h => then_X (hX0 e w h)
  exact s26_8 (R := R) (Q := (thenE (fun (e : Env) w => K ((e 3), (e 4)) w) (inBlockE 0 (thenE (W26 k26_5 Q) Q)))) (K1 := K) (fun _ _ h => then_N h) hX0 e' w' h'
theorem s26_3 {R : VP} {Q : EQ} (hR : ∀ e w, (R (e 2) w) → Q .ret e w) (e : Env) (w : World) (h : m26_3 R (e 3) w) : W26 k26_3 Q e w := by
  unfold m26_3 at h
  refine seA ?_
  have hN : ∀ e w, (m26_4 R (e 3) (e 4) w) → (thenE (W26 k26_4 Q) Q) .normal e w := fun e w h => then_N (s26_4 (R := R) (Q := Q) hR e w h)
  exact rgA 4 (fun e w => m26_4 R (e 3) (e 4) w) h hN
theorem s26_12 {R : VP} {Q : EQ} (hN : ∀ e w, (m26_3 R (e 3) w) → Q .normal e w) (e : Env) (w : World) (h : m26_12 R (e 0) (e 3) (e 9) w) : W26 k26_12 Q e w := by
  unfold m26_12 at h
  refine coA (Operand.tmp 9) h (fun h1 => ?_) (fun h1 => ?_)
  · exact rgA 3 (fun e w => m26_3 R (e 3) w) h1 hN
  · exact skA (hN _ _ h1)
theorem s26_2 {R : VP} {Q : EQ} (hR : ∀ e w, (R (e 2) w) → Q .ret e w) (e : Env) (w : World) (h : m26_2 R (e 0) (e 3) w) : W26 k26_2 Q e w := by
  unfold m26_2 at h
  refine seA ?_
  have hN : ∀ e w, (m26_3 R (e 3) w) → (thenE (W26 k26_3 Q) Q) .normal e w := fun e w h => then_N (s26_3 (R := R) (Q := Q) hR e w h)
  refine seA ?_
  have hN : ∀ e w, (m26_12 R (e 0) (e 3) (e 9) w) → (thenE (W26 k26_12 (thenE (W26 k26_3 Q) Q)) (thenE (W26 k26_3 Q) Q)) .normal e w := fun e w h => then_N (s26_12 (R := R) (Q := (thenE (W26 k26_3 Q) Q)) hN e w h)
  exact rgA 2 (fun e w => m26_12 R (e 0) (e 3) (e 9) w) h hN
theorem s26_1 {R : VP} {Q : EQ} (hR : ∀ e w, (R (e 2) w) → Q .ret e w) (e : Env) (w : World) (h : m26_1 R (e 0) w) : W26 k26_1 Q e w := by
  unfold m26_1 at h
  refine seA ?_
  have hN : ∀ e w, (m26_2 R (e 0) (e 3) w) → (thenE (W26 k26_2 Q) Q) .normal e w := fun e w h => then_N (s26_2 (R := R) (Q := Q) hR e w h)
  exact rgA 1 (fun e w => m26_2 R (e 0) (e 3) w) h hN
theorem s26_0 {R : VP} {Q : EQ} (hR : ∀ e w, (R (e 2) w) → Q .ret e w) (e : Env) (w : World) (h : m26_0 R (e 0) w) : W26 k26_0 Q e w := by
  unfold m26_0 at h
  refine seA ?_
  have hN : ∀ e w, (m26_1 R (e 0) w) → (thenE (W26 k26_1 Q) Q) .normal e w := fun e w h => then_N (s26_1 (R := R) (Q := Q) hR e w h)
  exact rgA 0 (fun e w => m26_1 R (e 0) w) h hN
abbrev m26 (R : VP) (n0 : Value) (w : World) : Prop := m26_0 R n0 w
theorem s26 (n0 : Value) {R : VP} {w : World} (h : m26 R n0 w) :
    Calls Try.prog 26 #[n0] w fun e w' => ∃ v, e = .returned v ∧ R v w' :=
  calls_of_cwp (st := (fun i => 0)) (c := k26_0) (by kernel_rfl) Try.func26 (by kernel_rfl) (Nat.le_of_ble_eq_true (by kernel_rfl)) (by kernel_rfl)
    (s26_0 (R := R) (Q := endE Try.prog Try.f26 R) (fun e w h => kcast (by kernel_rfl) h) (argsE #[n0]) w (kcast (by kernel_rfl) h))
/-! ### headgate/cleaner.about -/
def m22_6 (R : VP) (t2 t3 : Value) (w : World) : Prop :=
  valS Try.prog (loadC 38 t2) w fun r0 =>
  R (Value.tuple #[r0, t3]) w
def m22_8 (R : VP) (t2 t3 : Value) (w : World) : Prop :=
  valS Try.prog (loadC 38 t2) w fun r0 =>
  R (Value.tuple #[r0, t3]) w
def m22_4 (R : VP) (t2 t3 : Value) (w : World) : Prop :=
  valS Try.prog (loadC 38 t2) w fun r0 =>
  R (Value.tuple #[r0, t3]) w
def m22_3 (R : VP) (r1 t2 : Value) (w : World) : Prop :=
  valP Try.prog (Instr.fieldAt 38 r1 0) w fun t30 w =>
  valP Try.prog (Instr.loadAt 3 t30) w fun t31 w =>
  valP Try.prog (Instr.fieldAt 38 r1 1) w fun t32 w =>
  valP Try.prog (Instr.loadAt 3 t32) w fun t33 w =>
  valP Try.prog (Instr.build 38 #[(0, t31), (1, t33)]) w fun t34 w =>
  unitP Try.prog (Instr.storeAt 38 t2 t34) w fun _ w =>
  m22_4 R t2 (Value.bool true) w
def m22_7 (R : VP) (r1 t2 t26 : Value) (w : World) : Prop :=
  condP t26
  (valP Try.prog (Instr.build 38 #[(2, (Value.string ⟨#[99, 111, 117, 110, 116, 115]⟩))]) w fun t29 w =>
  unitP Try.prog (Instr.storeAt 38 t2 t29) w fun _ w =>
  m22_8 R t2 (Value.bool true) w)
  (m22_3 R r1 t2 w)
def m22_5 (R : VP) (r1 t2 sort4 t14 : Value) (w : World) : Prop :=
  condP t14
  (valP Try.prog (Instr.build 38 #[]) w fun t25 w =>
  unitP Try.prog (Instr.storeAt 38 t2 t25) w fun _ w =>
  m22_6 R t2 (Value.bool false) w)
  (valP Try.prog (binS BinOp.eql 3 (Operand.tmp 27) (Operand.const (Value.int IntKind.i64 0)) sort4 (Value.int IntKind.i64 0)) w fun t28 w =>
  m22_7 R r1 t2 t28 w)
def m22_2 (R : VP) (r1 t2 sort4 e6 : Value) (w : World) : Prop :=
  valP Try.prog (binS BinOp.neq 42 (Operand.tmp 15) (Operand.const (Value.int IntKind.i64 0)) e6 (Value.int IntKind.i64 0)) w fun t16 w =>
  condP t16
  (pickP t16 (Value.bool true) undef fun t20 =>
  condP t20
  (pickP t20 (Value.bool true) undef fun t24 =>
  m22_5 R r1 t2 sort4 t24 w)
  (valP Try.prog (binS BinOp.gtr 3 (Operand.tmp 22) (Operand.const (Value.int IntKind.i64 2)) sort4 (Value.int IntKind.i64 2)) w fun t23 w =>
  pickP t20 (Value.bool true) t23 fun t24 =>
  m22_5 R r1 t2 sort4 t24 w))
  (valP Try.prog (binS BinOp.lss 3 (Operand.tmp 18) (Operand.const (Value.int IntKind.i64 0)) sort4 (Value.int IntKind.i64 0)) w fun t19 w =>
  pickP t16 (Value.bool true) t19 fun t20 =>
  condP t20
  (pickP t20 (Value.bool true) undef fun t24 =>
  m22_5 R r1 t2 sort4 t24 w)
  (valP Try.prog (binS BinOp.gtr 3 (Operand.tmp 22) (Operand.const (Value.int IntKind.i64 2)) sort4 (Value.int IntKind.i64 2)) w fun t23 w =>
  pickP t20 (Value.bool true) t23 fun t24 =>
  m22_5 R r1 t2 sort4 t24 w))
def m22_1 (R : VP) (r1 t2 : Value) (w : World) : Prop :=
  valP Try.prog (Instr.fieldAt 38 r1 2) w fun t8 w =>
  valP Try.prog (Instr.loadAt 9 t8) w fun t9 w =>
  callP Try.prog (fnV 40) #[t9] w fun t10 w =>
  valP Try.prog (Instr.extract t10 0) w fun t11 w =>
  valP Try.prog (Instr.extract t10 1) w fun t12 w =>
  valP Try.prog (Instr.extract t10 2) w fun t13 w =>
  m22_2 R r1 t2 t11 t13 w
def m22_0 (R : VP) (r0 : Value) (w : World) : Prop :=
  valP Try.prog (Instr.box 38 r0) w fun r1 w =>
  valP Try.prog (Instr.alloc 38 true (.tuple #[])) w fun t2 w =>
  m22_1 R r1 t2 w
abbrev W22 := cwp Try.prog (fun i => 0)
noncomputable def k22_0 : Code := (bodyOf Try.f22)
noncomputable def k22_1 : Code := (c2 k22_0)
noncomputable def k22_2 : Code := (c2 k22_1)
noncomputable def k22_3 : Code := (c2 k22_2)
noncomputable def k22_4 : Code := (c2 k22_3)
noncomputable def k22_5 : Code := (c2 (c1 (c1 k22_2)))
noncomputable def k22_6 : Code := (c2 (c1 k22_5))
noncomputable def k22_7 : Code := (c2 (c2 k22_5))
noncomputable def k22_8 : Code := (c2 (c1 k22_7))
theorem s22_6 {R : VP} {Q : EQ} (hR : ∀ e w, (valS Try.prog (loadC 38 (e 2)) w fun r0 =>
R (Value.tuple #[r0, (e 3)]) w) → Q .ret e w) (e : Env) (w : World) (h : m22_6 R (e 2) (e 3) w) : W22 k22_6 Q e w := by
  unfold m22_6 at h
  exact reA (hR _ _ h)
theorem s22_8 {R : VP} {Q : EQ} (hR : ∀ e w, (valS Try.prog (loadC 38 (e 2)) w fun r0 =>
R (Value.tuple #[r0, (e 3)]) w) → Q .ret e w) (e : Env) (w : World) (h : m22_8 R (e 2) (e 3) w) : W22 k22_8 Q e w := by
  unfold m22_8 at h
  exact reA (hR _ _ h)
theorem s22_4 {R : VP} {Q : EQ} (hR : ∀ e w, (valS Try.prog (loadC 38 (e 2)) w fun r0 =>
R (Value.tuple #[r0, (e 3)]) w) → Q .ret e w) (e : Env) (w : World) (h : m22_4 R (e 2) (e 3) w) : W22 k22_4 Q e w := by
  unfold m22_4 at h
  exact reA (hR _ _ h)
theorem s22_3 {R : VP} {Q : EQ} (hR : ∀ e w, (valS Try.prog (loadC 38 (e 2)) w fun r0 =>
R (Value.tuple #[r0, (e 3)]) w) → Q .ret e w) (e : Env) (w : World) (h : m22_3 R (e 1) (e 2) w) : W22 k22_3 Q e w := by
  unfold m22_3 at h
  refine seA ?_
  have hN : ∀ e w, (m22_4 R (e 2) (e 3) w) → (thenE (W22 k22_4 Q) Q) .normal e w := fun e w h => then_N (s22_4 (R := R) (Q := Q) hR e w h)
  exact rgA 6 (fun e w => m22_4 R (e 2) (e 3) w) h hN
theorem s22_7 {R : VP} {Q : EQ} (hN : ∀ e w, (m22_3 R (e 1) (e 2) w) → Q .normal e w) (hR : ∀ e w, (valS Try.prog (loadC 38 (e 2)) w fun r0 =>
R (Value.tuple #[r0, (e 3)]) w) → Q .ret e w) (e : Env) (w : World) (h : m22_7 R (e 1) (e 2) (e 26) w) : W22 k22_7 Q e w := by
  unfold m22_7 at h
  refine coA (Operand.tmp 26) h (fun h1 => ?_) (fun h1 => ?_)
  · refine seA ?_
    have hN : ∀ e w, (m22_8 R (e 2) (e 3) w) → (thenE (W22 k22_8 Q) Q) .normal e w := fun e w h => then_N (s22_8 (R := R) (Q := Q) hR e w h)
    exact rgA 5 (fun e w => m22_8 R (e 2) (e 3) w) h1 hN
  · exact skA (hN _ _ h1)
theorem s22_5 {R : VP} {Q : EQ} (hN : ∀ e w, (m22_3 R (e 1) (e 2) w) → Q .normal e w) (hR : ∀ e w, (valS Try.prog (loadC 38 (e 2)) w fun r0 =>
R (Value.tuple #[r0, (e 3)]) w) → Q .ret e w) (e : Env) (w : World) (h : m22_5 R (e 1) (e 2) (e 4) (e 14) w) : W22 k22_5 Q e w := by
  unfold m22_5 at h
  refine coA (Operand.tmp 14) h (fun h1 => ?_) (fun h1 => ?_)
  · refine seA ?_
    have hN : ∀ e w, (m22_6 R (e 2) (e 3) w) → (thenE (W22 k22_6 Q) Q) .normal e w := fun e w h => then_N (s22_6 (R := R) (Q := Q) hR e w h)
    exact rgA 3 (fun e w => m22_6 R (e 2) (e 3) w) h1 hN
  · refine seA ?_
    have hN : ∀ e w, (m22_7 R (e 1) (e 2) (e 26) w) → (thenE (W22 k22_7 Q) Q) .normal e w := fun e w h => then_N (s22_7 (R := R) (Q := Q) hN hR e w h)
    exact rgA 4 (fun e w => m22_7 R (e 1) (e 2) (e 26) w) h1 hN
theorem s22_2 {R : VP} {Q : EQ} (hR : ∀ e w, (valS Try.prog (loadC 38 (e 2)) w fun r0 =>
R (Value.tuple #[r0, (e 3)]) w) → Q .ret e w) (e : Env) (w : World) (h : m22_2 R (e 1) (e 2) (e 4) (e 6) w) : W22 k22_2 Q e w := by
  unfold m22_2 at h
  refine seA ?_
  have hN : ∀ e w, (m22_3 R (e 1) (e 2) w) → (thenE (W22 k22_3 Q) Q) .normal e w := fun e w h => then_N (s22_3 (R := R) (Q := Q) hR e w h)
  have hR : ∀ e w, (valS Try.prog (loadC 38 (e 2)) w fun r0 =>
  R (Value.tuple #[r0, (e 3)]) w) → (thenE (W22 k22_3 Q) Q) .ret e w := fun e w h => then_R (hR e w h)
  refine block_ok 0 (by kernel_rfl) ?_
  have hN : ∀ e w, (m22_3 R (e 1) (e 2) w) → (inBlockE 0 (thenE (W22 k22_3 Q) Q)) .normal e w := fun e w h => block_N (hN e w h)
  have hR : ∀ e w, (valS Try.prog (loadC 38 (e 2)) w fun r0 =>
  R (Value.tuple #[r0, (e 3)]) w) → (inBlockE 0 (thenE (W22 k22_3 Q) Q)) .ret e w := fun e w h => block_R (hR e w h)
  refine seA ?_
  have hN : ∀ e w, (m22_5 R (e 1) (e 2) (e 4) (e 14) w) → (thenE (W22 k22_5 (inBlockE 0 (thenE (W22 k22_3 Q) Q))) (inBlockE 0 (thenE (W22 k22_3 Q) Q))) .normal e w := fun e w h => then_N (s22_5 (R := R) (Q := (inBlockE 0 (thenE (W22 k22_3 Q) Q))) hN hR e w h)
  exact rgA 2 (fun e w => m22_5 R (e 1) (e 2) (e 4) (e 14) w) h hN
theorem s22_1 {R : VP} {Q : EQ} (hR : ∀ e w, (valS Try.prog (loadC 38 (e 2)) w fun r0 =>
R (Value.tuple #[r0, (e 3)]) w) → Q .ret e w) (e : Env) (w : World) (h : m22_1 R (e 1) (e 2) w) : W22 k22_1 Q e w := by
  unfold m22_1 at h
  refine seA ?_
  have hN : ∀ e w, (m22_2 R (e 1) (e 2) (e 4) (e 6) w) → (thenE (W22 k22_2 Q) Q) .normal e w := fun e w h => then_N (s22_2 (R := R) (Q := Q) hR e w h)
  exact rgA 1 (fun e w => m22_2 R (e 1) (e 2) (e 4) (e 6) w) h hN
theorem s22_0 {R : VP} {Q : EQ} (hR : ∀ e w, (valS Try.prog (loadC 38 (e 2)) w fun r0 =>
R (Value.tuple #[r0, (e 3)]) w) → Q .ret e w) (e : Env) (w : World) (h : m22_0 R (e 0) w) : W22 k22_0 Q e w := by
  unfold m22_0 at h
  refine seA ?_
  have hN : ∀ e w, (m22_1 R (e 1) (e 2) w) → (thenE (W22 k22_1 Q) Q) .normal e w := fun e w h => then_N (s22_1 (R := R) (Q := Q) hR e w h)
  exact rgA 0 (fun e w => m22_1 R (e 1) (e 2) w) h hN
abbrev m22 (R : VP) (r0 : Value) (w : World) : Prop := m22_0 R r0 w
theorem s22 (r0 : Value) {R : VP} {w : World} (h : m22 R r0 w) :
    Calls Try.prog 22 #[r0] w fun e w' => ∃ v, e = .returned v ∧ R v w' :=
  calls_of_cwp (st := (fun i => 0)) (c := k22_0) (by kernel_rfl) Try.func22 (by kernel_rfl) (Nat.le_of_ble_eq_true (by kernel_rfl)) (by kernel_rfl)
    (s22_0 (R := R) (Q := endE Try.prog Try.f22 R) (fun e w h => kcast (by kernel_rfl) h) (argsE #[r0]) w (kcast (by kernel_rfl) h))
/-! ### headgate/cleaner.gone -/
def m23_2 (R : VP) (t2 : Value) (w : World) : Prop :=
  R t2 w
def m23_1 (R : VP) (r1 : Value) (w : World) : Prop :=
  anyDraw w fun w =>
  heldP w fun J =>
  valJ Try.prog J (Instr.fieldAt 38 r1 2) fun t3 =>
  valJ Try.prog J (Instr.loadAt 9 t3) fun t4 =>
  callP Try.prog (fnV 32) #[(Value.int IntKind.i64 2)] w fun t5 w =>
  stayP J w
  (valJ Try.prog J (binS BinOp.eql 9 (Operand.tmp 4) (Operand.tmp 5) t4 t5) fun t6 =>
  m23_2 R t6 w)
def m23_0 (R : VP) (r0 : Value) (w : World) : Prop :=
  valP Try.prog (Instr.box 38 r0) w fun r1 w =>
  m23_1 R r1 w
abbrev W23 := cwp Try.prog (fun i => 0)
noncomputable def k23_0 : Code := (bodyOf Try.f23)
noncomputable def k23_1 : Code := (c2 k23_0)
noncomputable def k23_2 : Code := (c2 k23_1)
theorem s23_2 {R : VP} {Q : EQ} (hR : ∀ e w, (R (e 2) w) → Q .ret e w) (e : Env) (w : World) (h : m23_2 R (e 2) w) : W23 k23_2 Q e w := by
  unfold m23_2 at h
  exact reA (hR _ _ h)
theorem s23_1 {R : VP} {Q : EQ} (hR : ∀ e w, (R (e 2) w) → Q .ret e w) (e : Env) (w : World) (h : m23_1 R (e 1) w) : W23 k23_1 Q e w := by
  unfold m23_1 at h
  refine seA ?_
  have hN : ∀ e w, (m23_2 R (e 2) w) → (thenE (W23 k23_2 Q) Q) .normal e w := fun e w h => then_N (s23_2 (R := R) (Q := Q) hR e w h)
  exact treeJ_ok 1 5 [false, false, false, false, false] (.take 0 [true, false, false, false, false] (.take 1 [true, true, false, false, false] (.alt 2 [true, true, true, false, false] (.take 3 [true, true, true, true, false] (.take 4 [true, true, true, true, true] .done)) .stop))) (fun e w => m23_2 R (e 2) w) (by kernel_rfl) (by kernel_rfl) (by kernel_rfl) (by kernel_rfl) (by kernel_rfl) (by kernel_rfl) (kcast (by kernel_rfl) h) hN (by kernel_rfl)
theorem s23_0 {R : VP} {Q : EQ} (hR : ∀ e w, (R (e 2) w) → Q .ret e w) (e : Env) (w : World) (h : m23_0 R (e 0) w) : W23 k23_0 Q e w := by
  unfold m23_0 at h
  refine seA ?_
  have hN : ∀ e w, (m23_1 R (e 1) w) → (thenE (W23 k23_1 Q) Q) .normal e w := fun e w h => then_N (s23_1 (R := R) (Q := Q) hR e w h)
  exact rgA 0 (fun e w => m23_1 R (e 1) w) h hN
abbrev m23 (R : VP) (r0 : Value) (w : World) : Prop := m23_0 R r0 w
theorem s23 (r0 : Value) {R : VP} {w : World} (h : m23 R r0 w) :
    Calls Try.prog 23 #[r0] w fun e w' => ∃ v, e = .returned v ∧ R v w' :=
  calls_of_cwp (st := (fun i => 0)) (c := k23_0) (by kernel_rfl) Try.func23 (by kernel_rfl) (Nat.le_of_ble_eq_true (by kernel_rfl)) (by kernel_rfl)
    (s23_0 (R := R) (Q := endE Try.prog Try.f23 R) (fun e w h => kcast (by kernel_rfl) h) (argsE #[r0]) w (kcast (by kernel_rfl) h))
/-! ### headgate/headgateref33.sort -/
def m79_6 (R : VP) (t2 : Value) (w : World) : Prop :=
  R t2 w
def m79_4 (R : VP) (t2 : Value) (w : World) : Prop :=
  R t2 w
def m79_3 (R : VP) (n3 : Value) (w : World) : Prop :=
  m79_4 R n3 w
def m79_5 (R : VP) (n3 t22 : Value) (w : World) : Prop :=
  condP t22
  (m79_6 R (Value.int IntKind.i64 (-1)) w)
  (m79_3 R n3 w)
def m79_2 (R : VP) (n3 e5 : Value) (w : World) : Prop :=
  valP Try.prog (binS BinOp.neq 3 (Operand.tmp 13) (Operand.const (Value.int IntKind.i64 0)) e5 (Value.int IntKind.i64 0)) w fun t14 w =>
  condP t14
  (pickP t14 (Value.bool true) undef fun t18 =>
  condP t18
  (pickP t18 (Value.bool true) undef fun t22 =>
  m79_5 R n3 t22 w)
  (valP Try.prog (binS BinOp.gtr 3 (Operand.tmp 20) (Operand.const (Value.int IntKind.i64 2)) n3 (Value.int IntKind.i64 2)) w fun t21 w =>
  pickP t18 (Value.bool true) t21 fun t22 =>
  m79_5 R n3 t22 w))
  (valP Try.prog (binS BinOp.lss 3 (Operand.tmp 16) (Operand.const (Value.int IntKind.i64 0)) n3 (Value.int IntKind.i64 0)) w fun t17 w =>
  pickP t14 (Value.bool true) t17 fun t18 =>
  condP t18
  (pickP t18 (Value.bool true) undef fun t22 =>
  m79_5 R n3 t22 w)
  (valP Try.prog (binS BinOp.gtr 3 (Operand.tmp 20) (Operand.const (Value.int IntKind.i64 2)) n3 (Value.int IntKind.i64 2)) w fun t21 w =>
  pickP t18 (Value.bool true) t21 fun t22 =>
  m79_5 R n3 t22 w))
def m79_1 (R : VP) (r1 : Value) (w : World) : Prop :=
  valP Try.prog (Instr.fieldAt 38 r1 2) w fun t7 w =>
  valP Try.prog (Instr.loadAt 9 t7) w fun t8 w =>
  callP Try.prog (fnV 43) #[t8] w fun t9 w =>
  valP Try.prog (Instr.extract t9 0) w fun t10 w =>
  valP Try.prog (Instr.extract t9 1) w fun t11 w =>
  valP Try.prog (Instr.extract t9 2) w fun t12 w =>
  m79_2 R t10 t12 w
def m79_0 (R : VP) (r0 : Value) (w : World) : Prop :=
  valP Try.prog (Instr.box 38 r0) w fun r1 w =>
  m79_1 R r1 w
abbrev W79 := cwp Try.prog (fun i => 0)
noncomputable def k79_0 : Code := (bodyOf Try.f79)
noncomputable def k79_1 : Code := (c2 k79_0)
noncomputable def k79_2 : Code := (c2 k79_1)
noncomputable def k79_3 : Code := (c2 k79_2)
noncomputable def k79_4 : Code := (c2 k79_3)
noncomputable def k79_5 : Code := (c2 (c1 k79_2))
noncomputable def k79_6 : Code := (c2 (c1 k79_5))
theorem s79_6 {R : VP} {Q : EQ} (hR : ∀ e w, (R (e 2) w) → Q .ret e w) (e : Env) (w : World) (h : m79_6 R (e 2) w) : W79 k79_6 Q e w := by
  unfold m79_6 at h
  exact reA (hR _ _ h)
theorem s79_4 {R : VP} {Q : EQ} (hR : ∀ e w, (R (e 2) w) → Q .ret e w) (e : Env) (w : World) (h : m79_4 R (e 2) w) : W79 k79_4 Q e w := by
  unfold m79_4 at h
  exact reA (hR _ _ h)
theorem s79_3 {R : VP} {Q : EQ} (hR : ∀ e w, (R (e 2) w) → Q .ret e w) (e : Env) (w : World) (h : m79_3 R (e 3) w) : W79 k79_3 Q e w := by
  unfold m79_3 at h
  refine seA ?_
  have hN : ∀ e w, (m79_4 R (e 2) w) → (thenE (W79 k79_4 Q) Q) .normal e w := fun e w h => then_N (s79_4 (R := R) (Q := Q) hR e w h)
  exact rgA 4 (fun e w => m79_4 R (e 2) w) h hN
theorem s79_5 {R : VP} {Q : EQ} (hN : ∀ e w, (m79_3 R (e 3) w) → Q .normal e w) (hR : ∀ e w, (R (e 2) w) → Q .ret e w) (e : Env) (w : World) (h : m79_5 R (e 3) (e 22) w) : W79 k79_5 Q e w := by
  unfold m79_5 at h
  refine coA (Operand.tmp 22) h (fun h1 => ?_) (fun h1 => ?_)
  · refine seA ?_
    have hN : ∀ e w, (m79_6 R (e 2) w) → (thenE (W79 k79_6 Q) Q) .normal e w := fun e w h => then_N (s79_6 (R := R) (Q := Q) hR e w h)
    exact rgA 3 (fun e w => m79_6 R (e 2) w) h1 hN
  · exact skA (hN _ _ h1)
theorem s79_2 {R : VP} {Q : EQ} (hR : ∀ e w, (R (e 2) w) → Q .ret e w) (e : Env) (w : World) (h : m79_2 R (e 3) (e 5) w) : W79 k79_2 Q e w := by
  unfold m79_2 at h
  refine seA ?_
  have hN : ∀ e w, (m79_3 R (e 3) w) → (thenE (W79 k79_3 Q) Q) .normal e w := fun e w h => then_N (s79_3 (R := R) (Q := Q) hR e w h)
  have hR : ∀ e w, (R (e 2) w) → (thenE (W79 k79_3 Q) Q) .ret e w := fun e w h => then_R (hR e w h)
  refine seA ?_
  have hN : ∀ e w, (m79_5 R (e 3) (e 22) w) → (thenE (W79 k79_5 (thenE (W79 k79_3 Q) Q)) (thenE (W79 k79_3 Q) Q)) .normal e w := fun e w h => then_N (s79_5 (R := R) (Q := (thenE (W79 k79_3 Q) Q)) hN hR e w h)
  exact rgA 2 (fun e w => m79_5 R (e 3) (e 22) w) h hN
theorem s79_1 {R : VP} {Q : EQ} (hR : ∀ e w, (R (e 2) w) → Q .ret e w) (e : Env) (w : World) (h : m79_1 R (e 1) w) : W79 k79_1 Q e w := by
  unfold m79_1 at h
  refine seA ?_
  have hN : ∀ e w, (m79_2 R (e 3) (e 5) w) → (thenE (W79 k79_2 Q) Q) .normal e w := fun e w h => then_N (s79_2 (R := R) (Q := Q) hR e w h)
  exact rgA 1 (fun e w => m79_2 R (e 3) (e 5) w) h hN
theorem s79_0 {R : VP} {Q : EQ} (hR : ∀ e w, (R (e 2) w) → Q .ret e w) (e : Env) (w : World) (h : m79_0 R (e 0) w) : W79 k79_0 Q e w := by
  unfold m79_0 at h
  refine seA ?_
  have hN : ∀ e w, (m79_1 R (e 1) w) → (thenE (W79 k79_1 Q) Q) .normal e w := fun e w h => then_N (s79_1 (R := R) (Q := Q) hR e w h)
  exact rgA 0 (fun e w => m79_1 R (e 1) w) h hN
abbrev m79 (R : VP) (r0 : Value) (w : World) : Prop := m79_0 R r0 w
theorem s79 (r0 : Value) {R : VP} {w : World} (h : m79 R r0 w) :
    Calls Try.prog 79 #[r0] w fun e w' => ∃ v, e = .returned v ∧ R v w' :=
  calls_of_cwp (st := (fun i => 0)) (c := k79_0) (by kernel_rfl) Try.func79 (by kernel_rfl) (Nat.le_of_ble_eq_true (by kernel_rfl)) (by kernel_rfl)
    (s79_0 (R := R) (Q := endE Try.prog Try.f79 R) (fun e w h => kcast (by kernel_rfl) h) (argsE #[r0]) w (kcast (by kernel_rfl) h))
/-! ### headgate/headgateref33.same -/
def m49_8 (R : VP) (t4 : Value) (w : World) : Prop :=
  R t4 w
def m49_6 (R : VP) (t4 : Value) (w : World) : Prop :=
  R t4 w
def m49_4 (R : VP) (t4 : Value) (w : World) : Prop :=
  R t4 w
def m49_3 (R : VP) (a2 b3 : Value) (w : World) : Prop :=
  valP Try.prog (Instr.fieldAt 38 a2 0) w fun t26 w =>
  valP Try.prog (Instr.loadAt 3 t26) w fun t27 w =>
  valP Try.prog (Instr.fieldAt 38 b3 0) w fun t28 w =>
  valP Try.prog (Instr.loadAt 3 t28) w fun t29 w =>
  valP Try.prog (binS BinOp.eql 3 (Operand.tmp 27) (Operand.tmp 29) t27 t29) w fun t30 w =>
  condP t30
  (valP Try.prog (Instr.fieldAt 38 a2 1) w fun t32 w =>
  valP Try.prog (Instr.loadAt 3 t32) w fun t33 w =>
  valP Try.prog (Instr.fieldAt 38 b3 1) w fun t34 w =>
  valP Try.prog (Instr.loadAt 3 t34) w fun t35 w =>
  valP Try.prog (binS BinOp.eql 3 (Operand.tmp 33) (Operand.tmp 35) t33 t35) w fun t36 w =>
  pickP t30 t36 (Value.bool false) fun t37 =>
  m49_4 R t37 w)
  (pickP t30 undef (Value.bool false) fun t37 =>
  m49_4 R t37 w)
def m49_5 (R : VP) (a2 b3 t20 : Value) (w : World) : Prop :=
  condP t20
  (anyDraw w fun w =>
  heldP w fun J =>
  valJ Try.prog J (Instr.loadAt 38 a2) fun t21 =>
  valJ Try.prog J (Instr.loadAt 38 b3) fun t23 =>
  callP Try.prog (fnV 79) #[t21] w fun t22 w =>
  stayP J w
  (callP Try.prog (fnV 79) #[t23] w fun t24 w =>
  stayP J w
  (valJ Try.prog J (binS BinOp.eql 3 (Operand.tmp 22) (Operand.tmp 24) t22 t24) fun t25 =>
  m49_6 R t25 w)))
  (m49_3 R a2 b3 w)
def m49_2 (R : VP) (a2 b3 : Value) (w : World) : Prop :=
  valP Try.prog (Instr.loadAt 38 a2) w fun t13 w =>
  callP Try.prog (fnV 79) #[t13] w fun t14 w =>
  valP Try.prog (binS BinOp.eql 3 (Operand.tmp 14) (Operand.const (Value.int IntKind.i64 0)) t14 (Value.int IntKind.i64 0)) w fun t15 w =>
  condP t15
  (pickP t15 (Value.bool true) undef fun t20 =>
  m49_5 R a2 b3 t20 w)
  (valP Try.prog (Instr.loadAt 38 b3) w fun t17 w =>
  callP Try.prog (fnV 79) #[t17] w fun t18 w =>
  valP Try.prog (binS BinOp.eql 3 (Operand.tmp 18) (Operand.const (Value.int IntKind.i64 0)) t18 (Value.int IntKind.i64 0)) w fun t19 w =>
  pickP t15 (Value.bool true) t19 fun t20 =>
  m49_5 R a2 b3 t20 w)
def m49_7 (R : VP) (a2 b3 t12 : Value) (w : World) : Prop :=
  condP t12
  (m49_8 R (Value.bool false) w)
  (m49_2 R a2 b3 w)
def m49_1 (R : VP) (a2 b3 : Value) (w : World) : Prop :=
  valP Try.prog (Instr.loadAt 38 a2) w fun t5 w =>
  callP Try.prog (fnV 79) #[t5] w fun t6 w =>
  valP Try.prog (binS BinOp.lss 3 (Operand.tmp 6) (Operand.const (Value.int IntKind.i64 0)) t6 (Value.int IntKind.i64 0)) w fun t7 w =>
  condP t7
  (pickP t7 (Value.bool true) undef fun t12 =>
  m49_7 R a2 b3 t12 w)
  (valP Try.prog (Instr.loadAt 38 b3) w fun t9 w =>
  callP Try.prog (fnV 79) #[t9] w fun t10 w =>
  valP Try.prog (binS BinOp.lss 3 (Operand.tmp 10) (Operand.const (Value.int IntKind.i64 0)) t10 (Value.int IntKind.i64 0)) w fun t11 w =>
  pickP t7 (Value.bool true) t11 fun t12 =>
  m49_7 R a2 b3 t12 w)
def m49_0 (R : VP) (a0 b1 : Value) (w : World) : Prop :=
  valP Try.prog (Instr.box 38 a0) w fun a2 w =>
  valP Try.prog (Instr.box 38 b1) w fun b3 w =>
  m49_1 R a2 b3 w
abbrev W49 := cwp Try.prog (fun i => 0)
noncomputable def k49_0 : Code := (bodyOf Try.f49)
noncomputable def k49_1 : Code := (c2 k49_0)
noncomputable def k49_2 : Code := (c2 k49_1)
noncomputable def k49_3 : Code := (c2 k49_2)
noncomputable def k49_4 : Code := (c2 k49_3)
noncomputable def k49_5 : Code := (c2 (c1 k49_2))
noncomputable def k49_6 : Code := (c2 (c1 k49_5))
noncomputable def k49_7 : Code := (c2 (c1 k49_1))
noncomputable def k49_8 : Code := (c2 (c1 k49_7))
theorem s49_8 {R : VP} {Q : EQ} (hR : ∀ e w, (R (e 4) w) → Q .ret e w) (e : Env) (w : World) (h : m49_8 R (e 4) w) : W49 k49_8 Q e w := by
  unfold m49_8 at h
  exact reA (hR _ _ h)
theorem s49_6 {R : VP} {Q : EQ} (hR : ∀ e w, (R (e 4) w) → Q .ret e w) (e : Env) (w : World) (h : m49_6 R (e 4) w) : W49 k49_6 Q e w := by
  unfold m49_6 at h
  exact reA (hR _ _ h)
theorem s49_4 {R : VP} {Q : EQ} (hR : ∀ e w, (R (e 4) w) → Q .ret e w) (e : Env) (w : World) (h : m49_4 R (e 4) w) : W49 k49_4 Q e w := by
  unfold m49_4 at h
  exact reA (hR _ _ h)
theorem s49_3 {R : VP} {Q : EQ} (hR : ∀ e w, (R (e 4) w) → Q .ret e w) (e : Env) (w : World) (h : m49_3 R (e 2) (e 3) w) : W49 k49_3 Q e w := by
  unfold m49_3 at h
  refine seA ?_
  have hN : ∀ e w, (m49_4 R (e 4) w) → (thenE (W49 k49_4 Q) Q) .normal e w := fun e w h => then_N (s49_4 (R := R) (Q := Q) hR e w h)
  exact rgA 5 (fun e w => m49_4 R (e 4) w) h hN
theorem s49_5 {R : VP} {Q : EQ} (hN : ∀ e w, (m49_3 R (e 2) (e 3) w) → Q .normal e w) (hR : ∀ e w, (R (e 4) w) → Q .ret e w) (e : Env) (w : World) (h : m49_5 R (e 2) (e 3) (e 20) w) : W49 k49_5 Q e w := by
  unfold m49_5 at h
  refine coA (Operand.tmp 20) h (fun h1 => ?_) (fun h1 => ?_)
  · refine seA ?_
    have hN : ∀ e w, (m49_6 R (e 4) w) → (thenE (W49 k49_6 Q) Q) .normal e w := fun e w h => then_N (s49_6 (R := R) (Q := Q) hR e w h)
    exact treeJ_ok 4 6 [false, false, false, false, false, false] (.take 0 [true, false, false, false, false, false] (.take 2 [true, false, true, false, false, false] (.alt 1 [true, true, true, false, false, false] (.alt 3 [true, true, true, true, false, false] (.take 4 [true, true, true, true, true, false] (.take 5 [true, true, true, true, true, true] .done)) .stop) .stop))) (fun e w => m49_6 R (e 4) w) (by kernel_rfl) (by kernel_rfl) (by kernel_rfl) (by kernel_rfl) (by kernel_rfl) (by kernel_rfl) (kcast (by kernel_rfl) h1) hN (by kernel_rfl)
  · exact skA (hN _ _ h1)
theorem s49_2 {R : VP} {Q : EQ} (hR : ∀ e w, (R (e 4) w) → Q .ret e w) (e : Env) (w : World) (h : m49_2 R (e 2) (e 3) w) : W49 k49_2 Q e w := by
  unfold m49_2 at h
  refine seA ?_
  have hN : ∀ e w, (m49_3 R (e 2) (e 3) w) → (thenE (W49 k49_3 Q) Q) .normal e w := fun e w h => then_N (s49_3 (R := R) (Q := Q) hR e w h)
  have hR : ∀ e w, (R (e 4) w) → (thenE (W49 k49_3 Q) Q) .ret e w := fun e w h => then_R (hR e w h)
  refine seA ?_
  have hN : ∀ e w, (m49_5 R (e 2) (e 3) (e 20) w) → (thenE (W49 k49_5 (thenE (W49 k49_3 Q) Q)) (thenE (W49 k49_3 Q) Q)) .normal e w := fun e w h => then_N (s49_5 (R := R) (Q := (thenE (W49 k49_3 Q) Q)) hN hR e w h)
  exact rgA 3 (fun e w => m49_5 R (e 2) (e 3) (e 20) w) h hN
theorem s49_7 {R : VP} {Q : EQ} (hN : ∀ e w, (m49_2 R (e 2) (e 3) w) → Q .normal e w) (hR : ∀ e w, (R (e 4) w) → Q .ret e w) (e : Env) (w : World) (h : m49_7 R (e 2) (e 3) (e 12) w) : W49 k49_7 Q e w := by
  unfold m49_7 at h
  refine coA (Operand.tmp 12) h (fun h1 => ?_) (fun h1 => ?_)
  · refine seA ?_
    have hN : ∀ e w, (m49_8 R (e 4) w) → (thenE (W49 k49_8 Q) Q) .normal e w := fun e w h => then_N (s49_8 (R := R) (Q := Q) hR e w h)
    exact rgA 2 (fun e w => m49_8 R (e 4) w) h1 hN
  · exact skA (hN _ _ h1)
theorem s49_1 {R : VP} {Q : EQ} (hR : ∀ e w, (R (e 4) w) → Q .ret e w) (e : Env) (w : World) (h : m49_1 R (e 2) (e 3) w) : W49 k49_1 Q e w := by
  unfold m49_1 at h
  refine seA ?_
  have hN : ∀ e w, (m49_2 R (e 2) (e 3) w) → (thenE (W49 k49_2 Q) Q) .normal e w := fun e w h => then_N (s49_2 (R := R) (Q := Q) hR e w h)
  have hR : ∀ e w, (R (e 4) w) → (thenE (W49 k49_2 Q) Q) .ret e w := fun e w h => then_R (hR e w h)
  refine seA ?_
  have hN : ∀ e w, (m49_7 R (e 2) (e 3) (e 12) w) → (thenE (W49 k49_7 (thenE (W49 k49_2 Q) Q)) (thenE (W49 k49_2 Q) Q)) .normal e w := fun e w h => then_N (s49_7 (R := R) (Q := (thenE (W49 k49_2 Q) Q)) hN hR e w h)
  exact rgA 1 (fun e w => m49_7 R (e 2) (e 3) (e 12) w) h hN
theorem s49_0 {R : VP} {Q : EQ} (hR : ∀ e w, (R (e 4) w) → Q .ret e w) (e : Env) (w : World) (h : m49_0 R (e 0) (e 1) w) : W49 k49_0 Q e w := by
  unfold m49_0 at h
  refine seA ?_
  have hN : ∀ e w, (m49_1 R (e 2) (e 3) w) → (thenE (W49 k49_1 Q) Q) .normal e w := fun e w h => then_N (s49_1 (R := R) (Q := Q) hR e w h)
  exact rgA 0 (fun e w => m49_1 R (e 2) (e 3) w) h hN
abbrev m49 (R : VP) (a0 b1 : Value) (w : World) : Prop := m49_0 R a0 b1 w
theorem s49 (a0 b1 : Value) {R : VP} {w : World} (h : m49 R a0 b1 w) :
    Calls Try.prog 49 #[a0, b1] w fun e w' => ∃ v, e = .returned v ∧ R v w' :=
  calls_of_cwp (st := (fun i => 0)) (c := k49_0) (by kernel_rfl) Try.func49 (by kernel_rfl) (Nat.le_of_ble_eq_true (by kernel_rfl)) (by kernel_rfl)
    (s49_0 (R := R) (Q := endE Try.prog Try.f49 R) (fun e w h => kcast (by kernel_rfl) h) (argsE #[a0, b1]) w (kcast (by kernel_rfl) h))
/-! ### headgate/headgateref33.needless -/
def m24_16 (R : VP) (t6 : Value) (w : World) : Prop :=
  R t6 w
def m24_14 (R : VP) (t6 : Value) (w : World) : Prop :=
  R t6 w
def m24_11 (R : VP) (K1 : VP) (t6 : Value) (w : World) : Prop :=
  R t6 w
def m24_9 (R : VP) (K1 : VP) (l0 i1 upto2 k7 : Value) (w : World) : Prop :=
  valP Try.prog (binS BinOp.add 3 (Operand.tmp 29) (Operand.const (Value.int IntKind.i64 1)) k7 (Value.int IntKind.i64 1)) w fun t30 w =>
  K1 t30 w
def m24_10 (R : VP) (K1 : VP) (l0 i1 upto2 k7 t50 : Value) (w : World) : Prop :=
  condP t50
  (m24_11 R K1 (Value.bool true) w)
  (m24_9 R K1 l0 i1 upto2 k7 w)
def m24_8 (R : VP) (K1 : VP) (l0 i1 upto2 k7 : Value) (w : World) : Prop :=
  anyDraw w fun w =>
  valS Try.prog (Instr.indexAt 22 l0 k7) w fun t33 =>
  valS Try.prog (Instr.fieldAt 40 t33 0) w fun t34 =>
  valS Try.prog (Instr.loadAt 3 t34) w fun t35 =>
  valS Try.prog (binS BinOp.lss 3 (Operand.tmp 35) (Operand.tmp 36) t35 upto2) w fun t37 =>
  condP t37
  (valS Try.prog (Instr.indexAt 22 l0 i1) w fun t41 =>
  valS Try.prog (Instr.fieldAt 40 t41 1) w fun t42 =>
  valS Try.prog (Instr.loadAt 38 t42) w fun t43 =>
  valS Try.prog (Instr.indexAt 22 l0 k7) w fun t46 =>
  valS Try.prog (Instr.fieldAt 40 t46 1) w fun t47 =>
  valS Try.prog (Instr.loadAt 38 t47) w fun t48 =>
  callP Try.prog (fnV 49) #[t43, t48] w fun t49 w =>
  pickP t37 t49 (Value.bool false) fun t50 =>
  m24_10 R K1 l0 i1 upto2 k7 t50 w)
  (pickP t37 undef (Value.bool false) fun t50 =>
  m24_10 R K1 l0 i1 upto2 k7 t50 w)
def m24_5 (R : VP) (t6 : Value) (w : World) : Prop :=
  R t6 w
def m24_4 (R : VP) (w : World) : Prop :=
  m24_5 R (Value.bool false) w
def m24_12 (R : VP) (K1 : VP) (l0 i1 upto2 k7 t28 : Value) (w : World) : Prop :=
  condP t28
  (m24_8 R K1 l0 i1 upto2 k7 w)
  (m24_4 R w)
def m24_7 (R : VP) (K1 : VP) (l0 i1 upto2 k7 : Value) (w : World) : Prop :=
  builtinP Try.prog Builtin.len #[22] 3 #[false] #[l0] w fun t27 w =>
  valP Try.prog (binS BinOp.lss 3 (Operand.tmp 25) (Operand.tmp 27) k7 t27) w fun t28 w =>
  m24_12 R K1 l0 i1 upto2 k7 t28 w
def m24_6 (R : VP) (l0 i1 upto2 k7 : Value) (w : World) : Prop :=
  loopP (fun (K1 : VP) (s : Value) w => m24_7 R K1 l0 i1 upto2 s w) k7 w
def m24_3 (R : VP) (l0 i1 upto2 : Value) (w : World) : Prop :=
  valP Try.prog (binS BinOp.add 3 (Operand.tmp 23) (Operand.const (Value.int IntKind.i64 1)) i1 (Value.int IntKind.i64 1)) w fun t24 w =>
  m24_6 R l0 i1 upto2 t24 w
def m24_13 (R : VP) (l0 i1 upto2 t22 : Value) (w : World) : Prop :=
  condP t22
  (m24_14 R (Value.bool true) w)
  (m24_3 R l0 i1 upto2 w)
def m24_2 (R : VP) (l0 i1 upto2 : Value) (w : World) : Prop :=
  anyDraw w fun w =>
  heldP w fun J =>
  valJ Try.prog J (Instr.indexAt 22 l0 i1) fun t17 =>
  valJ Try.prog J (Instr.fieldAt 40 t17 1) fun t18 =>
  valJ Try.prog J (Instr.fieldAt 38 t18 2) fun t19 =>
  valJ Try.prog J (Instr.loadAt 9 t19) fun t20 =>
  callP Try.prog (fnV 26) #[(Value.int IntKind.i64 2)] w fun t21 w =>
  stayP J w
  (valJ Try.prog J (binS BinOp.eql 9 (Operand.tmp 20) (Operand.tmp 21) t20 t21) fun t22 =>
  m24_13 R l0 i1 upto2 t22 w)
def m24_15 (R : VP) (l0 i1 upto2 t14 : Value) (w : World) : Prop :=
  condP t14
  (m24_16 R (Value.bool false) w)
  (m24_2 R l0 i1 upto2 w)
def m24_1 (R : VP) (l0 i1 upto2 : Value) (w : World) : Prop :=
  valP Try.prog (Instr.indexAt 22 l0 i1) w fun t10 w =>
  valP Try.prog (Instr.fieldAt 40 t10 0) w fun t11 w =>
  valP Try.prog (Instr.loadAt 3 t11) w fun t12 w =>
  valP Try.prog (binS BinOp.geq 3 (Operand.tmp 12) (Operand.tmp 13) t12 upto2) w fun t14 w =>
  m24_15 R l0 i1 upto2 t14 w
def m24_0 (R : VP) (l0 i1 upto2 : Value) (w : World) : Prop :=
  m24_1 R l0 i1 upto2 w
abbrev W24 := cwp Try.prog (fun i => cond (Nat.beq i 8) 20 (0))
noncomputable def k24_0 : Code := (bodyOf Try.f24)
noncomputable def k24_1 : Code := (c2 k24_0)
noncomputable def k24_2 : Code := (c2 k24_1)
noncomputable def k24_3 : Code := (c2 k24_2)
noncomputable def k24_4 : Code := (c2 k24_3)
noncomputable def k24_5 : Code := (c2 k24_4)
noncomputable def k24_6 : Code := (c2 (c1 k24_3))
noncomputable def k24_7 : Code := (c1 (c1 k24_6))
noncomputable def k24_8 : Code := (c2 k24_7)
noncomputable def k24_9 : Code := (c2 k24_8)
noncomputable def k24_10 : Code := (c2 (c1 (c1 k24_8)))
noncomputable def k24_11 : Code := (c2 (c1 k24_10))
noncomputable def k24_12 : Code := (c2 (c1 k24_7))
noncomputable def k24_13 : Code := (c2 (c1 k24_2))
noncomputable def k24_14 : Code := (c2 (c1 k24_13))
noncomputable def k24_15 : Code := (c2 (c1 k24_1))
noncomputable def k24_16 : Code := (c2 (c1 k24_15))
theorem s24_16 {R : VP} {Q : EQ} (hR : ∀ e w, (R (e 6) w) → Q .ret e w) (e : Env) (w : World) (h : m24_16 R (e 6) w) : W24 k24_16 Q e w := by
  unfold m24_16 at h
  exact reA (hR _ _ h)
theorem s24_14 {R : VP} {Q : EQ} (hR : ∀ e w, (R (e 6) w) → Q .ret e w) (e : Env) (w : World) (h : m24_14 R (e 6) w) : W24 k24_14 Q e w := by
  unfold m24_14 at h
  exact reA (hR _ _ h)
theorem s24_11 {R : VP} {K1 : VP} {Q : EQ} (hR : ∀ e w, (R (e 6) w) → Q .ret e w) (e : Env) (w : World) (h : m24_11 R K1 (e 6) w) : W24 k24_11 Q e w := by
  unfold m24_11 at h
  exact reA (hR _ _ h)
theorem s24_9 {R : VP} {K1 : VP} {Q : EQ} (hN : ∀ e w, (K1 (e 7) w) → Q .normal e w) (e : Env) (w : World) (h : m24_9 R K1 (e 0) (e 1) (e 2) (e 7) w) : W24 k24_9 Q e w := by
  unfold m24_9 at h
  exact rgA 7 (fun e w => K1 (e 7) w) h hN
theorem s24_10 {R : VP} {K1 : VP} {Q : EQ} (hN : ∀ e w, (m24_9 R K1 (e 0) (e 1) (e 2) (e 7) w) → Q .normal e w) (hR : ∀ e w, (R (e 6) w) → Q .ret e w) (e : Env) (w : World) (h : m24_10 R K1 (e 0) (e 1) (e 2) (e 7) (e 50) w) : W24 k24_10 Q e w := by
  unfold m24_10 at h
  refine coA (Operand.tmp 50) h (fun h1 => ?_) (fun h1 => ?_)
  · refine seA ?_
    have hN : ∀ e w, (m24_11 R K1 (e 6) w) → (thenE (W24 k24_11 Q) Q) .normal e w := fun e w h => then_N (s24_11 (R := R) (Q := Q) (K1 := K1) hR e w h)
    exact rgA 9 (fun e w => m24_11 R K1 (e 6) w) h1 hN
  · exact skA (hN _ _ h1)
theorem s24_8 {R : VP} {K1 : VP} {Q : EQ} (hN : ∀ e w, (K1 (e 7) w) → Q .normal e w) (hR : ∀ e w, (R (e 6) w) → Q .ret e w) (e : Env) (w : World) (h : m24_8 R K1 (e 0) (e 1) (e 2) (e 7) w) : W24 k24_8 Q e w := by
  unfold m24_8 at h
  refine seA ?_
  have hN : ∀ e w, (m24_9 R K1 (e 0) (e 1) (e 2) (e 7) w) → (thenE (W24 k24_9 Q) Q) .normal e w := fun e w h => then_N (s24_9 (R := R) (Q := Q) (K1 := K1) hN e w h)
  have hR : ∀ e w, (R (e 6) w) → (thenE (W24 k24_9 Q) Q) .ret e w := fun e w h => then_R (hR e w h)
  refine block_ok 1 (by kernel_rfl) ?_
  have hN : ∀ e w, (m24_9 R K1 (e 0) (e 1) (e 2) (e 7) w) → (inBlockE 1 (thenE (W24 k24_9 Q) Q)) .normal e w := fun e w h => block_N (hN e w h)
  have hR : ∀ e w, (R (e 6) w) → (inBlockE 1 (thenE (W24 k24_9 Q) Q)) .ret e w := fun e w h => block_R (hR e w h)
  refine seA ?_
  have hN : ∀ e w, (m24_10 R K1 (e 0) (e 1) (e 2) (e 7) (e 50) w) → (thenE (W24 k24_10 (inBlockE 1 (thenE (W24 k24_9 Q) Q))) (inBlockE 1 (thenE (W24 k24_9 Q) Q))) .normal e w := fun e w h => then_N (s24_10 (R := R) (Q := (inBlockE 1 (thenE (W24 k24_9 Q) Q))) (K1 := K1) hN hR e w h)
  exact taA 8 18 (fun e w => m24_10 R K1 (e 0) (e 1) (e 2) (e 7) (e 50) w) h hN
theorem s24_5 {R : VP} {Q : EQ} (hR : ∀ e w, (R (e 6) w) → Q .ret e w) (e : Env) (w : World) (h : m24_5 R (e 6) w) : W24 k24_5 Q e w := by
  unfold m24_5 at h
  exact reA (hR _ _ h)
theorem s24_4 {R : VP} {Q : EQ} (hR : ∀ e w, (R (e 6) w) → Q .ret e w) (e : Env) (w : World) (h : m24_4 R w) : W24 k24_4 Q e w := by
  unfold m24_4 at h
  refine seA ?_
  have hN : ∀ e w, (m24_5 R (e 6) w) → (thenE (W24 k24_5 Q) Q) .normal e w := fun e w h => then_N (s24_5 (R := R) (Q := Q) hR e w h)
  exact rgA 10 (fun e w => m24_5 R (e 6) w) h hN
theorem s24_12 {R : VP} {K1 : VP} {Q : EQ} (hN : ∀ e w, (m24_8 R K1 (e 0) (e 1) (e 2) (e 7) w) → Q .normal e w) (hX0 : ∀ e w, (m24_4 R w) → Q (.exit 0) e w) (e : Env) (w : World) (h : m24_12 R K1 (e 0) (e 1) (e 2) (e 7) (e 28) w) : W24 k24_12 Q e w := by
  unfold m24_12 at h
  refine coA (Operand.tmp 28) h (fun h1 => ?_) (fun h1 => ?_)
  · exact skA (hN _ _ h1)
  · exact exA 0 (hX0 _ _ h1)
theorem s24_7 {R : VP} {K1 : VP} {Q : EQ} (hN : ∀ e w, (K1 (e 7) w) → Q .normal e w) (hR : ∀ e w, (R (e 6) w) → Q .ret e w) (hX0 : ∀ e w, (m24_4 R w) → Q (.exit 0) e w) (e : Env) (w : World) (h : m24_7 R K1 (e 0) (e 1) (e 2) (e 7) w) : W24 k24_7 Q e w := by
  unfold m24_7 at h
  refine seA ?_
  have hN : ∀ e w, (m24_8 R K1 (e 0) (e 1) (e 2) (e 7) w) → (thenE (W24 k24_8 Q) Q) .normal e w := fun e w h => then_N (s24_8 (R := R) (Q := Q) (K1 := K1) hN hR e w h)
  have hX0 : ∀ e w, (m24_4 R w) → (thenE (W24 k24_8 Q) Q) (.exit 0) e w := fun e w h => then_X (hX0 e w h)
  refine seA ?_
  have hN : ∀ e w, (m24_12 R K1 (e 0) (e 1) (e 2) (e 7) (e 28) w) → (thenE (W24 k24_12 (thenE (W24 k24_8 Q) Q)) (thenE (W24 k24_8 Q) Q)) .normal e w := fun e w h => then_N (s24_12 (R := R) (Q := (thenE (W24 k24_8 Q) Q)) (K1 := K1) hN hX0 e w h)
  exact rgA 6 (fun e w => m24_12 R K1 (e 0) (e 1) (e 2) (e 7) (e 28) w) h hN
theorem s24_6 {R : VP} {Q : EQ} (hN : ∀ e w, (m24_4 R w) → Q .normal e w) (hR : ∀ e w, (R (e 6) w) → Q .ret e w) (e : Env) (w : World) (h : m24_6 R (e 0) (e 1) (e 2) (e 7) w) : W24 k24_6 Q e w := by
  unfold m24_6 at h
  refine block_ok 0 (by kernel_rfl) ?_
  have hX0 : ∀ e w, (m24_4 R w) → (inBlockE 0 Q) (.exit 0) e w := fun e w h => inBlock_same (Q := Q) 0 (hN e w h)
  have hR : ∀ e w, (R (e 6) w) → (inBlockE 0 Q) .ret e w := fun e w h => block_R (hR e w h)
  refine loop_ok' (fun (e : Env) => e 7) [0, 1, 2] (by kernel_rfl) (by kernel_rfl) h (fun K e' w' hk h' => ?_)
  have r0 : e' 0 = e 0 := hk 0 (by decide)
  have r1 : e' 1 = e 1 := hk 1 (by decide)
  have r2 : e' 2 = e 2 := hk 2 (by decide)
  have hR : ∀ e w, (R (e 6) w) → (thenE (fun (e : Env) w => K (e 7) w) (inBlockE 0 Q)) .ret e w := fun e w h => then_R (hR e w h)
  have hX0 : ∀ e w, (m24_4 R w) → (thenE (fun (e : Env) w => K (e 7) w) (inBlockE 0 Q)) (.exit 0) e w := fun e w h => then_X (hX0 e w h)
  exact s24_7 (R := R) (Q := (thenE (fun (e : Env) w => K (e 7) w) (inBlockE 0 Q))) (K1 := K) (fun _ _ h => then_N h) hR hX0 e' w' (by rw [r0, r1, r2]; exact h')
theorem s24_3 {R : VP} {Q : EQ} (hR : ∀ e w, (R (e 6) w) → Q .ret e w) (e : Env) (w : World) (h : m24_3 R (e 0) (e 1) (e 2) w) : W24 k24_3 Q e w := by
  unfold m24_3 at h
  refine seA ?_
  have hN : ∀ e w, (m24_4 R w) → (thenE (W24 k24_4 Q) Q) .normal e w := fun e w h => then_N (s24_4 (R := R) (Q := Q) hR e w h)
  have hR : ∀ e w, (R (e 6) w) → (thenE (W24 k24_4 Q) Q) .ret e w := fun e w h => then_R (hR e w h)
  refine seA ?_
  have hN : ∀ e w, (m24_6 R (e 0) (e 1) (e 2) (e 7) w) → (thenE (W24 k24_6 (thenE (W24 k24_4 Q) Q)) (thenE (W24 k24_4 Q) Q)) .normal e w := fun e w h => then_N (s24_6 (R := R) (Q := (thenE (W24 k24_4 Q) Q)) hN hR e w h)
  exact rgA 5 (fun e w => m24_6 R (e 0) (e 1) (e 2) (e 7) w) h hN
theorem s24_13 {R : VP} {Q : EQ} (hN : ∀ e w, (m24_3 R (e 0) (e 1) (e 2) w) → Q .normal e w) (hR : ∀ e w, (R (e 6) w) → Q .ret e w) (e : Env) (w : World) (h : m24_13 R (e 0) (e 1) (e 2) (e 22) w) : W24 k24_13 Q e w := by
  unfold m24_13 at h
  refine coA (Operand.tmp 22) h (fun h1 => ?_) (fun h1 => ?_)
  · refine seA ?_
    have hN : ∀ e w, (m24_14 R (e 6) w) → (thenE (W24 k24_14 Q) Q) .normal e w := fun e w h => then_N (s24_14 (R := R) (Q := Q) hR e w h)
    exact rgA 4 (fun e w => m24_14 R (e 6) w) h1 hN
  · exact skA (hN _ _ h1)
theorem s24_2 {R : VP} {Q : EQ} (hR : ∀ e w, (R (e 6) w) → Q .ret e w) (e : Env) (w : World) (h : m24_2 R (e 0) (e 1) (e 2) w) : W24 k24_2 Q e w := by
  unfold m24_2 at h
  refine seA ?_
  have hN : ∀ e w, (m24_3 R (e 0) (e 1) (e 2) w) → (thenE (W24 k24_3 Q) Q) .normal e w := fun e w h => then_N (s24_3 (R := R) (Q := Q) hR e w h)
  have hR : ∀ e w, (R (e 6) w) → (thenE (W24 k24_3 Q) Q) .ret e w := fun e w h => then_R (hR e w h)
  refine seA ?_
  have hN : ∀ e w, (m24_13 R (e 0) (e 1) (e 2) (e 22) w) → (thenE (W24 k24_13 (thenE (W24 k24_3 Q) Q)) (thenE (W24 k24_3 Q) Q)) .normal e w := fun e w h => then_N (s24_13 (R := R) (Q := (thenE (W24 k24_3 Q) Q)) hN hR e w h)
  exact treeJ_ok 3 8 [false, false, false, false, false, false, false, false] (.take 0 [true, false, false, false, false, false, false, false] (.take 1 [true, true, false, false, false, false, false, false] (.take 2 [true, true, true, false, false, false, false, false] (.take 3 [true, true, true, true, false, false, false, false] (.take 4 [true, true, true, true, true, false, false, false] (.take 5 [true, true, true, true, true, true, false, false] (.alt 6 [true, true, true, true, true, true, true, false] (.take 7 [true, true, true, true, true, true, true, true] .done) .stop))))))) (fun e w => m24_13 R (e 0) (e 1) (e 2) (e 22) w) (by kernel_rfl) (by kernel_rfl) (by kernel_rfl) (by kernel_rfl) (by kernel_rfl) (by kernel_rfl) (kcast (by kernel_rfl) h) hN (by kernel_rfl)
theorem s24_15 {R : VP} {Q : EQ} (hN : ∀ e w, (m24_2 R (e 0) (e 1) (e 2) w) → Q .normal e w) (hR : ∀ e w, (R (e 6) w) → Q .ret e w) (e : Env) (w : World) (h : m24_15 R (e 0) (e 1) (e 2) (e 14) w) : W24 k24_15 Q e w := by
  unfold m24_15 at h
  refine coA (Operand.tmp 14) h (fun h1 => ?_) (fun h1 => ?_)
  · refine seA ?_
    have hN : ∀ e w, (m24_16 R (e 6) w) → (thenE (W24 k24_16 Q) Q) .normal e w := fun e w h => then_N (s24_16 (R := R) (Q := Q) hR e w h)
    exact rgA 2 (fun e w => m24_16 R (e 6) w) h1 hN
  · exact skA (hN _ _ h1)
theorem s24_1 {R : VP} {Q : EQ} (hR : ∀ e w, (R (e 6) w) → Q .ret e w) (e : Env) (w : World) (h : m24_1 R (e 0) (e 1) (e 2) w) : W24 k24_1 Q e w := by
  unfold m24_1 at h
  refine seA ?_
  have hN : ∀ e w, (m24_2 R (e 0) (e 1) (e 2) w) → (thenE (W24 k24_2 Q) Q) .normal e w := fun e w h => then_N (s24_2 (R := R) (Q := Q) hR e w h)
  have hR : ∀ e w, (R (e 6) w) → (thenE (W24 k24_2 Q) Q) .ret e w := fun e w h => then_R (hR e w h)
  refine seA ?_
  have hN : ∀ e w, (m24_15 R (e 0) (e 1) (e 2) (e 14) w) → (thenE (W24 k24_15 (thenE (W24 k24_2 Q) Q)) (thenE (W24 k24_2 Q) Q)) .normal e w := fun e w h => then_N (s24_15 (R := R) (Q := (thenE (W24 k24_2 Q) Q)) hN hR e w h)
  exact rgA 1 (fun e w => m24_15 R (e 0) (e 1) (e 2) (e 14) w) h hN
theorem s24_0 {R : VP} {Q : EQ} (hR : ∀ e w, (R (e 6) w) → Q .ret e w) (e : Env) (w : World) (h : m24_0 R (e 0) (e 1) (e 2) w) : W24 k24_0 Q e w := by
  unfold m24_0 at h
  refine seA ?_
  have hN : ∀ e w, (m24_1 R (e 0) (e 1) (e 2) w) → (thenE (W24 k24_1 Q) Q) .normal e w := fun e w h => then_N (s24_1 (R := R) (Q := Q) hR e w h)
  exact rgA 0 (fun e w => m24_1 R (e 0) (e 1) (e 2) w) h hN
abbrev m24 (R : VP) (l0 i1 upto2 : Value) (w : World) : Prop := m24_0 R l0 i1 upto2 w
theorem s24 (l0 i1 upto2 : Value) {R : VP} {w : World} (h : m24 R l0 i1 upto2 w) :
    Calls Try.prog 24 #[l0, i1, upto2] w fun e w' => ∃ v, e = .returned v ∧ R v w' :=
  calls_of_cwp (st := (fun i => cond (Nat.beq i 8) 20 (0))) (c := k24_0) (by kernel_rfl) Try.func24 (by kernel_rfl) (Nat.le_of_ble_eq_true (by kernel_rfl)) (by kernel_rfl)
    (s24_0 (R := R) (Q := endE Try.prog Try.f24 R) (fun e w h => kcast (by kernel_rfl) h) (argsE #[l0, i1, upto2]) w (kcast (by kernel_rfl) h))
end Go.Proofs.Ytcdnkbplplghmaa.M
