/- Parts of a proof, in one text: what it needs of Mbase0, V3, FwL, FwW, V4, V5, V6, V7, Mmid0, V8, V9, V10, V11, V12. -/
import Derived.Test.YtcldjjmfpmkldaaGreatDoorJCleanerLasts1
import Derived.Test.YtcldjjmfpmkldaaGreatDoorProg
import Derived.Deep.Slices
import Derived.Deep.Fields
import Derived.SizedLaws
import Derived.DeepKeys4
import Derived.WalkArith
import Derived.Maps.Views
namespace Go.Proofs.YtcldjjmfpmkldaaGreatDoor.M
open Go.Proofs.YtcldjjmfpmkldaaGreatDoor.F
set_option linter.unusedVariables false
set_option maxRecDepth 100000
def m73_16 (R : VP) (K1 : (Value × Value) → World → Prop) (t2 t3 t4 : Value) (w : World) : Prop :=
  R (Value.tuple #[t2, t3, t4]) w
def m73_13 (R : VP) (K1 : (Value × Value) → World → Prop) (t2 t3 t4 : Value) (w : World) : Prop :=
  R (Value.tuple #[t2, t3, t4]) w
def m73_11 (R : VP) (K1 : (Value × Value) → World → Prop) (t2 t3 t4 : Value) (w : World) : Prop :=
  R (Value.tuple #[t2, t3, t4]) w
def m73_10 (R : VP) (K1 : (Value × Value) → World → Prop) (s0 u5 k6 : Value) (w : World) : Prop :=
  valQ Tryz.prog (binS BinOp.shr 117 (Operand.tmp 45) (Operand.const (Value.int IntKind.u64 1)) u5 (Value.int IntKind.u64 1)) w fun t46 =>
  valQ Tryz.prog (convert 117 3 t46) w fun t47 =>
  valQ Tryz.prog (binS BinOp.and 117 (Operand.tmp 48) (Operand.const (Value.int IntKind.u64 1)) u5 (Value.int IntKind.u64 1)) w fun t49 =>
  valQ Tryz.prog (convert 117 3 t49) w fun t50 =>
  valQ Tryz.prog (Op.unary UnOp.neg t50) w fun t51 =>
  valQ Tryz.prog (binS BinOp.xor 3 (Operand.tmp 47) (Operand.tmp 51) t47 t51) w fun t52 =>
  valQ Tryz.prog (Instr.sliceAt 9 s0 (some k6) none none) w fun t55 =>
  anyDraw w fun w =>
  m73_11 R K1 t52 t55 (Value.int IntKind.i64 0) w
def m73_12 (R : VP) (K1 : (Value × Value) → World → Prop) (s0 u5 k6 t44 : Value) (w : World) : Prop :=
  condP t44
  (m73_13 R K1 (Value.int IntKind.i64 0) (Value.string ⟨#[]⟩) (Value.int IntKind.i64 2) w)
  (m73_10 R K1 s0 u5 k6 w)
def m73_9 (R : VP) (K1 : (Value × Value) → World → Prop) (s0 u5 k6 c7 : Value) (w : World) : Prop :=
  valP Tryz.prog (binS BinOp.gtr 3 (Operand.tmp 31) (Operand.const (Value.int IntKind.i64 1)) k6 (Value.int IntKind.i64 1)) w fun t32 w =>
  condP t32
  (valP Tryz.prog (binS BinOp.eql 5 (Operand.tmp 34) (Operand.const (Value.int IntKind.u8 0)) c7 (Value.int IntKind.u8 0)) w fun t35 w =>
  pickP t32 t35 (Value.bool false) fun t36 =>
  condP t36
  (pickP t36 (Value.bool true) undef fun t44 =>
  m73_12 R K1 s0 u5 k6 t44 w)
  (valP Tryz.prog (binS BinOp.eql 3 (Operand.tmp 38) (Operand.const (Value.int IntKind.i64 10)) k6 (Value.int IntKind.i64 10)) w fun t39 w =>
  condP t39
  (valP Tryz.prog (binS BinOp.gtr 5 (Operand.tmp 41) (Operand.const (Value.int IntKind.u8 1)) c7 (Value.int IntKind.u8 1)) w fun t42 w =>
  pickP t39 t42 (Value.bool false) fun t43 =>
  pickP t36 (Value.bool true) t43 fun t44 =>
  m73_12 R K1 s0 u5 k6 t44 w)
  (pickP t39 undef (Value.bool false) fun t43 =>
  pickP t36 (Value.bool true) t43 fun t44 =>
  m73_12 R K1 s0 u5 k6 t44 w)))
  (pickP t32 undef (Value.bool false) fun t36 =>
  condP t36
  (pickP t36 (Value.bool true) undef fun t44 =>
  m73_12 R K1 s0 u5 k6 t44 w)
  (valP Tryz.prog (binS BinOp.eql 3 (Operand.tmp 38) (Operand.const (Value.int IntKind.i64 10)) k6 (Value.int IntKind.i64 10)) w fun t39 w =>
  condP t39
  (valP Tryz.prog (binS BinOp.gtr 5 (Operand.tmp 41) (Operand.const (Value.int IntKind.u8 1)) c7 (Value.int IntKind.u8 1)) w fun t42 w =>
  pickP t39 t42 (Value.bool false) fun t43 =>
  pickP t36 (Value.bool true) t43 fun t44 =>
  m73_12 R K1 s0 u5 k6 t44 w)
  (pickP t39 undef (Value.bool false) fun t43 =>
  pickP t36 (Value.bool true) t43 fun t44 =>
  m73_12 R K1 s0 u5 k6 t44 w)))
def m73_14 (R : VP) (K1 : (Value × Value) → World → Prop) (s0 u5 k6 c7 t30 : Value) (w : World) : Prop :=
  condP t30
  (K1 (u5, k6) w)
  (m73_9 R K1 s0 u5 k6 c7 w)
def m73_8 (R : VP) (K1 : (Value × Value) → World → Prop) (s0 u5 k6 c7 : Value) (w : World) : Prop :=
  valP Tryz.prog (binS BinOp.geq 5 (Operand.tmp 29) (Operand.const (Value.int IntKind.u8 128)) c7 (Value.int IntKind.u8 128)) w fun t30 w =>
  m73_14 R K1 s0 u5 k6 c7 t30 w
def m73_7 (R : VP) (K1 : (Value × Value) → World → Prop) (s0 u5 k6 c7 : Value) (w : World) : Prop :=
  valP Tryz.prog (binS BinOp.add 3 (Operand.tmp 27) (Operand.const (Value.int IntKind.i64 1)) k6 (Value.int IntKind.i64 1)) w fun t28 w =>
  m73_8 R K1 s0 u5 t28 c7 w
def m73_6 (R : VP) (K1 : (Value × Value) → World → Prop) (s0 u5 k6 c7 : Value) (w : World) : Prop :=
  valP Tryz.prog (binS BinOp.and 5 (Operand.tmp 20) (Operand.const (Value.int IntKind.u8 127)) c7 (Value.int IntKind.u8 127)) w fun t21 w =>
  valP Tryz.prog (convert 5 117 t21) w fun t22 w =>
  valP Tryz.prog (binS BinOp.mul 3 (Operand.const (Value.int IntKind.i64 7)) (Operand.tmp 23) (Value.int IntKind.i64 7) k6) w fun t24 w =>
  valP Tryz.prog (binS BinOp.shl 117 (Operand.tmp 22) (Operand.tmp 24) t22 t24) w fun t25 w =>
  valP Tryz.prog (binS BinOp.or 117 (Operand.tmp 19) (Operand.tmp 25) u5 t25) w fun t26 w =>
  m73_7 R K1 s0 t26 k6 c7 w
def m73_5 (R : VP) (K1 : (Value × Value) → World → Prop) (s0 u5 k6 : Value) (w : World) : Prop :=
  valP Tryz.prog (Instr.index 9 s0 k6) w fun t18 w =>
  m73_6 R K1 s0 u5 k6 t18 w
def m73_15 (R : VP) (K1 : (Value × Value) → World → Prop) (s0 u5 k6 t15 : Value) (w : World) : Prop :=
  condP t15
  (m73_16 R K1 (Value.int IntKind.i64 0) (Value.string ⟨#[]⟩) (Value.int IntKind.i64 2) w)
  (m73_5 R K1 s0 u5 k6 w)
def m73_4 (R : VP) (K1 : (Value × Value) → World → Prop) (s0 u5 k6 : Value) (w : World) : Prop :=
  builtinP Tryz.prog Builtin.len #[9] 3 #[false] #[s0] w fun t10 w =>
  valP Tryz.prog (binS BinOp.eql 3 (Operand.tmp 8) (Operand.tmp 10) k6 t10) w fun t11 w =>
  condP t11
  (pickP t11 (Value.bool true) undef fun t15 =>
  m73_15 R K1 s0 u5 k6 t15 w)
  (valP Tryz.prog (binS BinOp.eql 3 (Operand.tmp 13) (Operand.const (Value.int IntKind.i64 10)) k6 (Value.int IntKind.i64 10)) w fun t14 w =>
  pickP t11 (Value.bool true) t14 fun t15 =>
  m73_15 R K1 s0 u5 k6 t15 w)
def m73_3 (R : VP) (s0 u5 k6 : Value) (w : World) : Prop :=
  loopP (fun (K1 : (Value × Value) → World → Prop) (s : Value × Value) w => m73_4 R K1 s0 s.1 s.2 w) (u5, k6) w
def m73_2 (R : VP) (s0 u5 : Value) (w : World) : Prop :=
  m73_3 R s0 u5 (Value.int IntKind.i64 0) w
def m73_1 (R : VP) (s0 : Value) (w : World) : Prop :=
  m73_2 R s0 (Value.int IntKind.u64 0) w
def m73_0 (R : VP) (s0 : Value) (w : World) : Prop :=
  m73_1 R s0 w
abbrev W73 := cwp Tryz.prog (fun i => cond (Nat.beq i 11) 1 (0))
abbrev WL73 := cwpL Tryz.prog (fun i => cond (Nat.beq i 11) 1 (0))
abbrev WT73 := cwpT Tryz.prog (fun i => cond (Nat.beq i 11) 1 (0))
noncomputable def k73_0 : Code := (bodyOf Tryz.f73)
noncomputable def k73_1 : Code := (cS (c2 k73_0))
noncomputable def k73_2 : Code := (c2 k73_1)
noncomputable def k73_3 : Code := (c2 k73_2)
noncomputable def k73_4 : Code := (c2 k73_3)
noncomputable def k73_5 : Code := (c2 k73_4)
noncomputable def k73_6 : Code := (c2 k73_5)
noncomputable def k73_7 : Code := (c2 k73_6)
noncomputable def k73_8 : Code := (c2 k73_7)
noncomputable def k73_9 : Code := (c2 k73_8)
noncomputable def k73_10 : Code := (c2 k73_9)
noncomputable def k73_11 : Code := (c2 k73_10)
noncomputable def k73_12 : Code := (c2 (c1 k73_9))
noncomputable def k73_13 : Code := (c2 (c1 k73_12))
noncomputable def k73_14 : Code := (c2 (c1 k73_8))
noncomputable def k73_15 : Code := (c2 (c1 k73_4))
noncomputable def k73_16 : Code := (c2 (c1 k73_15))
theorem s73_16 {R : VP} {K1 : (Value × Value) → World → Prop} {Q : EQ} (hR : ∀ e w, (R (Value.tuple #[(e 2), (e 3), (e 4)]) w) → Q .ret e w) (e : Env) (w : World) (h : m73_16 R K1 (e 2) (e 3) (e 4) w) : W73 k73_16 Q e w := by
  unfold m73_16 at h
  exact reA (hR _ _ h)
theorem s73_13 {R : VP} {K1 : (Value × Value) → World → Prop} {Q : EQ} (hR : ∀ e w, (R (Value.tuple #[(e 2), (e 3), (e 4)]) w) → Q .ret e w) (e : Env) (w : World) (h : m73_13 R K1 (e 2) (e 3) (e 4) w) : W73 k73_13 Q e w := by
  unfold m73_13 at h
  exact reA (hR _ _ h)
theorem s73_11 {R : VP} {K1 : (Value × Value) → World → Prop} {Q : EQ} (hR : ∀ e w, (R (Value.tuple #[(e 2), (e 3), (e 4)]) w) → Q .ret e w) (e : Env) (w : World) (h : m73_11 R K1 (e 2) (e 3) (e 4) w) : W73 k73_11 Q e w := by
  unfold m73_11 at h
  exact reA (hR _ _ h)
theorem s73_10 {R : VP} {K1 : (Value × Value) → World → Prop} {Q : EQ} (hR : ∀ e w, (R (Value.tuple #[(e 2), (e 3), (e 4)]) w) → Q .ret e w) (e : Env) (w : World) (h : m73_10 R K1 (e 0) (e 5) (e 6) w) : W73 k73_10 Q e w := by
  unfold m73_10 at h
  refine seA ?_
  have hN : ∀ e w, (m73_11 R K1 (e 2) (e 3) (e 4) w) → (thenE (W73 k73_11 Q) Q) .normal e w := fun e w h => then_N (s73_11 (R := R) (Q := Q) (K1 := K1) hR e w h)
  exact quA 11 (fun e w => m73_11 R K1 (e 2) (e 3) (e 4) w) h hN
theorem s73_12 {R : VP} {K1 : (Value × Value) → World → Prop} {Q : EQ} (hN : ∀ e w, (m73_10 R K1 (e 0) (e 5) (e 6) w) → Q .normal e w) (hR : ∀ e w, (R (Value.tuple #[(e 2), (e 3), (e 4)]) w) → Q .ret e w) (e : Env) (w : World) (h : m73_12 R K1 (e 0) (e 5) (e 6) (e 44) w) : W73 k73_12 Q e w := by
  unfold m73_12 at h
  refine coA (Operand.tmp 44) h (fun h1 => ?_) (fun h1 => ?_)
  · refine seA ?_
    have hN : ∀ e w, (m73_13 R K1 (e 2) (e 3) (e 4) w) → (thenE (W73 k73_13 Q) Q) .normal e w := fun e w h => then_N (s73_13 (R := R) (Q := Q) (K1 := K1) hR e w h)
    exact rgA 10 (fun e w => m73_13 R K1 (e 2) (e 3) (e 4) w) h1 hN
  · exact skA (hN _ _ h1)
theorem s73_9 {R : VP} {K1 : (Value × Value) → World → Prop} {Q : EQ} (hR : ∀ e w, (R (Value.tuple #[(e 2), (e 3), (e 4)]) w) → Q .ret e w) (e : Env) (w : World) (h : m73_9 R K1 (e 0) (e 5) (e 6) (e 7) w) : W73 k73_9 Q e w := by
  unfold m73_9 at h
  refine seA ?_
  have hN : ∀ e w, (m73_10 R K1 (e 0) (e 5) (e 6) w) → (thenE (W73 k73_10 Q) Q) .normal e w := fun e w h => then_N (s73_10 (R := R) (Q := Q) (K1 := K1) hR e w h)
  have hR : ∀ e w, (R (Value.tuple #[(e 2), (e 3), (e 4)]) w) → (thenE (W73 k73_10 Q) Q) .ret e w := fun e w h => then_R (hR e w h)
  refine seA ?_
  have hN : ∀ e w, (m73_12 R K1 (e 0) (e 5) (e 6) (e 44) w) → (thenE (W73 k73_12 (thenE (W73 k73_10 Q) Q)) (thenE (W73 k73_10 Q) Q)) .normal e w := fun e w h => then_N (s73_12 (R := R) (Q := (thenE (W73 k73_10 Q) Q)) (K1 := K1) hN hR e w h)
  exact rgA 9 (fun e w => m73_12 R K1 (e 0) (e 5) (e 6) (e 44) w) h hN
theorem s73_14 {R : VP} {K1 : (Value × Value) → World → Prop} {Q : EQ} (hG0 : ∀ e w, (K1 ((e 5), (e 6)) w) → Q (.goto 0) e w) (hN : ∀ e w, (m73_9 R K1 (e 0) (e 5) (e 6) (e 7) w) → Q .normal e w) (e : Env) (w : World) (h : m73_14 R K1 (e 0) (e 5) (e 6) (e 7) (e 30) w) : W73 k73_14 Q e w := by
  unfold m73_14 at h
  refine coA (Operand.tmp 30) h (fun h1 => ?_) (fun h1 => ?_)
  · exact goA 0 (hG0 _ _ h1)
  · exact skA (hN _ _ h1)
theorem s73_8 {R : VP} {K1 : (Value × Value) → World → Prop} {Q : EQ} (hG0 : ∀ e w, (K1 ((e 5), (e 6)) w) → Q (.goto 0) e w) (hR : ∀ e w, (R (Value.tuple #[(e 2), (e 3), (e 4)]) w) → Q .ret e w) (e : Env) (w : World) (h : m73_8 R K1 (e 0) (e 5) (e 6) (e 7) w) : W73 k73_8 Q e w := by
  unfold m73_8 at h
  refine seA ?_
  have hN : ∀ e w, (m73_9 R K1 (e 0) (e 5) (e 6) (e 7) w) → (thenE (W73 k73_9 Q) Q) .normal e w := fun e w h => then_N (s73_9 (R := R) (Q := Q) (K1 := K1) hR e w h)
  have hG0 : ∀ e w, (K1 ((e 5), (e 6)) w) → (thenE (W73 k73_9 Q) Q) (.goto 0) e w := fun e w h => then_G (hG0 e w h)
  refine seA ?_
  have hN : ∀ e w, (m73_14 R K1 (e 0) (e 5) (e 6) (e 7) (e 30) w) → (thenE (W73 k73_14 (thenE (W73 k73_9 Q) Q)) (thenE (W73 k73_9 Q) Q)) .normal e w := fun e w h => then_N (s73_14 (R := R) (Q := (thenE (W73 k73_9 Q) Q)) (K1 := K1) hG0 hN e w h)
  exact rgA 8 (fun e w => m73_14 R K1 (e 0) (e 5) (e 6) (e 7) (e 30) w) h hN
theorem s73_7 {R : VP} {K1 : (Value × Value) → World → Prop} {Q : EQ} (hG0 : ∀ e w, (K1 ((e 5), (e 6)) w) → Q (.goto 0) e w) (hR : ∀ e w, (R (Value.tuple #[(e 2), (e 3), (e 4)]) w) → Q .ret e w) (e : Env) (w : World) (h : m73_7 R K1 (e 0) (e 5) (e 6) (e 7) w) : W73 k73_7 Q e w := by
  unfold m73_7 at h
  refine seA ?_
  have hN : ∀ e w, (m73_8 R K1 (e 0) (e 5) (e 6) (e 7) w) → (thenE (W73 k73_8 Q) Q) .normal e w := fun e w h => then_N (s73_8 (R := R) (Q := Q) (K1 := K1) hG0 hR e w h)
  exact rgA 7 (fun e w => m73_8 R K1 (e 0) (e 5) (e 6) (e 7) w) h hN
theorem s73_6 {R : VP} {K1 : (Value × Value) → World → Prop} {Q : EQ} (hG0 : ∀ e w, (K1 ((e 5), (e 6)) w) → Q (.goto 0) e w) (hR : ∀ e w, (R (Value.tuple #[(e 2), (e 3), (e 4)]) w) → Q .ret e w) (e : Env) (w : World) (h : m73_6 R K1 (e 0) (e 5) (e 6) (e 7) w) : W73 k73_6 Q e w := by
  unfold m73_6 at h
  refine seA ?_
  have hN : ∀ e w, (m73_7 R K1 (e 0) (e 5) (e 6) (e 7) w) → (thenE (W73 k73_7 Q) Q) .normal e w := fun e w h => then_N (s73_7 (R := R) (Q := Q) (K1 := K1) hG0 hR e w h)
  exact rgA 6 (fun e w => m73_7 R K1 (e 0) (e 5) (e 6) (e 7) w) h hN
theorem s73_5 {R : VP} {K1 : (Value × Value) → World → Prop} {Q : EQ} (hG0 : ∀ e w, (K1 ((e 5), (e 6)) w) → Q (.goto 0) e w) (hR : ∀ e w, (R (Value.tuple #[(e 2), (e 3), (e 4)]) w) → Q .ret e w) (e : Env) (w : World) (h : m73_5 R K1 (e 0) (e 5) (e 6) w) : W73 k73_5 Q e w := by
  unfold m73_5 at h
  refine seA ?_
  have hN : ∀ e w, (m73_6 R K1 (e 0) (e 5) (e 6) (e 7) w) → (thenE (W73 k73_6 Q) Q) .normal e w := fun e w h => then_N (s73_6 (R := R) (Q := Q) (K1 := K1) hG0 hR e w h)
  exact rgA 5 (fun e w => m73_6 R K1 (e 0) (e 5) (e 6) (e 7) w) h hN
theorem s73_15 {R : VP} {K1 : (Value × Value) → World → Prop} {Q : EQ} (hN : ∀ e w, (m73_5 R K1 (e 0) (e 5) (e 6) w) → Q .normal e w) (hR : ∀ e w, (R (Value.tuple #[(e 2), (e 3), (e 4)]) w) → Q .ret e w) (e : Env) (w : World) (h : m73_15 R K1 (e 0) (e 5) (e 6) (e 15) w) : W73 k73_15 Q e w := by
  unfold m73_15 at h
  refine coA (Operand.tmp 15) h (fun h1 => ?_) (fun h1 => ?_)
  · refine seA ?_
    have hN : ∀ e w, (m73_16 R K1 (e 2) (e 3) (e 4) w) → (thenE (W73 k73_16 Q) Q) .normal e w := fun e w h => then_N (s73_16 (R := R) (Q := Q) (K1 := K1) hR e w h)
    exact rgA 4 (fun e w => m73_16 R K1 (e 2) (e 3) (e 4) w) h1 hN
  · exact skA (hN _ _ h1)
theorem s73_4 {R : VP} {K1 : (Value × Value) → World → Prop} {Q : EQ} (hG0 : ∀ e w, (K1 ((e 5), (e 6)) w) → Q (.goto 0) e w) (hR : ∀ e w, (R (Value.tuple #[(e 2), (e 3), (e 4)]) w) → Q .ret e w) (e : Env) (w : World) (h : m73_4 R K1 (e 0) (e 5) (e 6) w) : W73 k73_4 Q e w := by
  unfold m73_4 at h
  refine seA ?_
  have hN : ∀ e w, (m73_5 R K1 (e 0) (e 5) (e 6) w) → (thenE (W73 k73_5 Q) Q) .normal e w := fun e w h => then_N (s73_5 (R := R) (Q := Q) (K1 := K1) hG0 hR e w h)
  have hR : ∀ e w, (R (Value.tuple #[(e 2), (e 3), (e 4)]) w) → (thenE (W73 k73_5 Q) Q) .ret e w := fun e w h => then_R (hR e w h)
  refine seA ?_
  have hN : ∀ e w, (m73_15 R K1 (e 0) (e 5) (e 6) (e 15) w) → (thenE (W73 k73_15 (thenE (W73 k73_5 Q) Q)) (thenE (W73 k73_5 Q) Q)) .normal e w := fun e w h => then_N (s73_15 (R := R) (Q := (thenE (W73 k73_5 Q) Q)) (K1 := K1) hN hR e w h)
  exact rgA 3 (fun e w => m73_15 R K1 (e 0) (e 5) (e 6) (e 15) w) h hN
theorem s73_3 {R : VP} {Q : EQ} (hR : ∀ e w, (R (Value.tuple #[(e 2), (e 3), (e 4)]) w) → Q .ret e w) (e : Env) (w : World) (h : m73_3 R (e 0) (e 5) (e 6) w) : WL73 k73_3 Q e w := by
  unfold m73_3 at h
  refine lab_ok 0 (fun (e : Env) => (e 5, e 6)) [0] (by kernel_rfl) (by kernel_rfl) h (fun K e' w' hk h' => ?_)
  have r0 : e' 0 = e 0 := hk 0 (by decide)
  have hR : ∀ e w, (R (Value.tuple #[(e 2), (e 3), (e 4)]) w) → (gotoE 0 (fun (e : Env) w => K ((e 5), (e 6)) w) Q) .ret e w := fun e w h => goto_R (hR e w h)
  exact s73_4 (R := R) (Q := (gotoE 0 (fun (e : Env) w => K ((e 5), (e 6)) w) Q)) (K1 := K) (fun _ _ h => goto_K h) hR e' w' (by rw [r0]; exact h')
theorem s73_2 {R : VP} {Q : EQ} (hR : ∀ e w, (R (Value.tuple #[(e 2), (e 3), (e 4)]) w) → Q .ret e w) (e : Env) (w : World) (h : m73_2 R (e 0) (e 5) w) : WL73 k73_2 Q e w := by
  unfold m73_2 at h
  refine seL ?_
  have hN : ∀ e w, (m73_3 R (e 0) (e 5) (e 6) w) → (thenE (WL73 k73_3 Q) Q) .normal e w := fun e w h => then_N (s73_3 (R := R) (Q := Q) hR e w h)
  exact rgA 2 (fun e w => m73_3 R (e 0) (e 5) (e 6) w) h hN
theorem s73_1 {R : VP} {Q : EQ} (hR : ∀ e w, (R (Value.tuple #[(e 2), (e 3), (e 4)]) w) → Q .ret e w) (e : Env) (w : World) (h : m73_1 R (e 0) w) : WL73 k73_1 Q e w := by
  unfold m73_1 at h
  refine seL ?_
  have hN : ∀ e w, (m73_2 R (e 0) (e 5) w) → (thenE (WL73 k73_2 Q) Q) .normal e w := fun e w h => then_N (s73_2 (R := R) (Q := Q) hR e w h)
  exact rgA 1 (fun e w => m73_2 R (e 0) (e 5) w) h hN
theorem s73_0 {R : VP} {Q : EQ} (hR : ∀ e w, (R (Value.tuple #[(e 2), (e 3), (e 4)]) w) → Q .ret e w) (e : Env) (w : World) (h : m73_0 R (e 0) w) : WT73 k73_0 Q e w := by
  unfold m73_0 at h
  show cwp Tryz.prog _ (c1 k73_0) (thenE (WL73 k73_1 Q) Q) e w
  have hN : ∀ e w, (m73_1 R (e 0) w) → (thenE (WL73 k73_1 Q) Q) .normal e w := fun e w h => then_N (s73_1 (R := R) (Q := Q) hR e w h)
  exact rgA 0 (fun e w => m73_1 R (e 0) w) h hN
abbrev m73 (R : VP) (s0 : Value) (w : World) : Prop := m73_0 R s0 w
theorem s73 (s0 : Value) {R : VP} {w : World} (h : m73 R s0 w) :
    Calls Tryz.prog 73 #[s0] w fun e w' => ∃ v, e = .returned v ∧ R v w' :=
  calls_of_cwpT (st := (fun i => cond (Nat.beq i 11) 1 (0))) (c := k73_0) 0 (by kernel_rfl) Tryz.func73 (by kernel_rfl) (by kernel_rfl) (Nat.le_of_ble_eq_true (by kernel_rfl)) (by kernel_rfl) (by kernel_rfl)
    (s73_0 (R := R) (Q := endE Tryz.prog Tryz.f73 R) (fun e w h => kcast (by kernel_rfl) h) (argsE #[s0]) w (kcast (by kernel_rfl) h))
def m59_10 (R : VP) (K1 : (Value × Value) → World → Prop) (u3 b4 k5 : Value) (w : World) : Prop :=
  valP Tryz.prog (binS BinOp.add 3 (Operand.tmp 15) (Operand.const (Value.int IntKind.i64 1)) k5 (Value.int IntKind.i64 1)) w fun t16 w =>
  K1 (u3, t16) w
def m59_11 (R : VP) (K1 : (Value × Value) → World → Prop) (u3 b4 k5 : Value) (w : World) : Prop :=
  valP Tryz.prog (binS BinOp.shr 117 (Operand.tmp 22) (Operand.const (Value.int IntKind.u64 7)) u3 (Value.int IntKind.u64 7)) w fun t23 w =>
  m59_10 R K1 t23 b4 k5 w
def m59_9 (R : VP) (K1 : (Value × Value) → World → Prop) (u3 b4 k5 : Value) (w : World) : Prop :=
  valP Tryz.prog (convert 117 5 u3) w fun t19 w =>
  valP Tryz.prog (binS BinOp.or 5 (Operand.tmp 19) (Operand.const (Value.int IntKind.u8 128)) t19 (Value.int IntKind.u8 128)) w fun t20 w =>
  valP Tryz.prog (Instr.indexAt 127 b4 k5) w fun t21 w =>
  unitP Tryz.prog (Instr.storeAt 5 t21 t20) w fun _ w =>
  m59_11 R K1 u3 b4 k5 w
def m59_7 (R : VP) (t2 : Value) (w : World) : Prop :=
  R t2 w
def m59_6 (R : VP) (b4 k5 : Value) (w : World) : Prop :=
  valP Tryz.prog (binS BinOp.add 3 (Operand.tmp 28) (Operand.const (Value.int IntKind.i64 1)) k5 (Value.int IntKind.i64 1)) w fun t29 w =>
  valP Tryz.prog (Instr.sliceAt 127 b4 none (some t29) none) w fun t30 w =>
  valP Tryz.prog (convert 97 9 t30) w fun t31 w =>
  m59_7 R t31 w
def m59_5 (R : VP) (u3 b4 k5 : Value) (w : World) : Prop :=
  valP Tryz.prog (convert 117 5 u3) w fun t26 w =>
  valP Tryz.prog (Instr.indexAt 127 b4 k5) w fun t27 w =>
  unitP Tryz.prog (Instr.storeAt 5 t27 t26) w fun _ w =>
  m59_6 R b4 k5 w
def m59_12 (R : VP) (K1 : (Value × Value) → World → Prop) (u3 b4 k5 t14 : Value) (w : World) : Prop :=
  condP t14
  (m59_9 R K1 u3 b4 k5 w)
  (m59_5 R u3 b4 k5 w)
def m59_8 (R : VP) (K1 : (Value × Value) → World → Prop) (u3 b4 k5 : Value) (w : World) : Prop :=
  valP Tryz.prog (binS BinOp.geq 117 (Operand.tmp 13) (Operand.const (Value.int IntKind.u64 128)) u3 (Value.int IntKind.u64 128)) w fun t14 w =>
  m59_12 R K1 u3 b4 k5 t14 w
def m59_4 (R : VP) (u3 b4 k5 : Value) (w : World) : Prop :=
  loopP (fun (K1 : (Value × Value) → World → Prop) (s : Value × Value) w => m59_8 R K1 s.1 b4 s.2 w) (u3, k5) w
def m59_3 (R : VP) (u3 b4 : Value) (w : World) : Prop :=
  m59_4 R u3 b4 (Value.int IntKind.i64 0) w
def m59_2 (R : VP) (u3 : Value) (w : World) : Prop :=
  valP Tryz.prog (Instr.alloc 127 true (.tuple #[])) w fun b4 w =>
  m59_3 R u3 b4 w
def m59_1 (R : VP) (n0 : Value) (w : World) : Prop :=
  valP Tryz.prog (convert 3 117 n0) w fun t7 w =>
  valP Tryz.prog (binS BinOp.shl 117 (Operand.tmp 7) (Operand.const (Value.int IntKind.u64 1)) t7 (Value.int IntKind.u64 1)) w fun t8 w =>
  valP Tryz.prog (binS BinOp.shr 3 (Operand.tmp 9) (Operand.const (Value.int IntKind.u64 63)) n0 (Value.int IntKind.u64 63)) w fun t10 w =>
  valP Tryz.prog (convert 3 117 t10) w fun t11 w =>
  valP Tryz.prog (binS BinOp.xor 117 (Operand.tmp 8) (Operand.tmp 11) t8 t11) w fun t12 w =>
  m59_2 R t12 w
def m59_0 (R : VP) (n0 : Value) (w : World) : Prop :=
  m59_1 R n0 w
abbrev W59 := cwp Tryz.prog (fun i => 0)
noncomputable def k59_0 : Code := (bodyOf Tryz.f59)
noncomputable def k59_1 : Code := (c2 k59_0)
noncomputable def k59_2 : Code := (c2 k59_1)
noncomputable def k59_3 : Code := (c2 k59_2)
noncomputable def k59_4 : Code := (c2 k59_3)
noncomputable def k59_5 : Code := (c2 k59_4)
noncomputable def k59_6 : Code := (c2 k59_5)
noncomputable def k59_7 : Code := (c2 k59_6)
noncomputable def k59_8 : Code := (c1 (c1 (c1 k59_4)))
noncomputable def k59_9 : Code := (c2 k59_8)
noncomputable def k59_10 : Code := (c2 k59_9)
noncomputable def k59_11 : Code := (c2 (c1 (c1 k59_9)))
noncomputable def k59_12 : Code := (c2 (c1 k59_8))
theorem s59_10 {R : VP} {K1 : (Value × Value) → World → Prop} {Q : EQ} (hN : ∀ e w, (K1 ((e 3), (e 5)) w) → Q .normal e w) (e : Env) (w : World) (h : m59_10 R K1 (e 3) (e 4) (e 5) w) : W59 k59_10 Q e w := by
  unfold m59_10 at h
  exact rgA 5 (fun e w => K1 ((e 3), (e 5)) w) h hN
theorem s59_11 {R : VP} {K1 : (Value × Value) → World → Prop} {Q : EQ} (hN : ∀ e w, (m59_10 R K1 (e 3) (e 4) (e 5) w) → Q .normal e w) (e : Env) (w : World) (h : m59_11 R K1 (e 3) (e 4) (e 5) w) : W59 k59_11 Q e w := by
  unfold m59_11 at h
  exact rgA 7 (fun e w => m59_10 R K1 (e 3) (e 4) (e 5) w) h hN
theorem s59_9 {R : VP} {K1 : (Value × Value) → World → Prop} {Q : EQ} (hN : ∀ e w, (K1 ((e 3), (e 5)) w) → Q .normal e w) (e : Env) (w : World) (h : m59_9 R K1 (e 3) (e 4) (e 5) w) : W59 k59_9 Q e w := by
  unfold m59_9 at h
  refine seA ?_
  have hN : ∀ e w, (m59_10 R K1 (e 3) (e 4) (e 5) w) → (thenE (W59 k59_10 Q) Q) .normal e w := fun e w h => then_N (s59_10 (R := R) (Q := Q) (K1 := K1) hN e w h)
  refine block_ok 1 (by kernel_rfl) ?_
  have hN : ∀ e w, (m59_10 R K1 (e 3) (e 4) (e 5) w) → (inBlockE 1 (thenE (W59 k59_10 Q) Q)) .normal e w := fun e w h => block_N (hN e w h)
  refine seA ?_
  have hN : ∀ e w, (m59_11 R K1 (e 3) (e 4) (e 5) w) → (thenE (W59 k59_11 (inBlockE 1 (thenE (W59 k59_10 Q) Q))) (inBlockE 1 (thenE (W59 k59_10 Q) Q))) .normal e w := fun e w h => then_N (s59_11 (R := R) (Q := (inBlockE 1 (thenE (W59 k59_10 Q) Q))) (K1 := K1) hN e w h)
  exact rgA 6 (fun e w => m59_11 R K1 (e 3) (e 4) (e 5) w) h hN
theorem s59_7 {R : VP} {Q : EQ} (hR : ∀ e w, (R (e 2) w) → Q .ret e w) (e : Env) (w : World) (h : m59_7 R (e 2) w) : W59 k59_7 Q e w := by
  unfold m59_7 at h
  exact reA (hR _ _ h)
theorem s59_6 {R : VP} {Q : EQ} (hR : ∀ e w, (R (e 2) w) → Q .ret e w) (e : Env) (w : World) (h : m59_6 R (e 4) (e 5) w) : W59 k59_6 Q e w := by
  unfold m59_6 at h
  refine seA ?_
  have hN : ∀ e w, (m59_7 R (e 2) w) → (thenE (W59 k59_7 Q) Q) .normal e w := fun e w h => then_N (s59_7 (R := R) (Q := Q) hR e w h)
  exact rgA 9 (fun e w => m59_7 R (e 2) w) h hN
theorem s59_5 {R : VP} {Q : EQ} (hR : ∀ e w, (R (e 2) w) → Q .ret e w) (e : Env) (w : World) (h : m59_5 R (e 3) (e 4) (e 5) w) : W59 k59_5 Q e w := by
  unfold m59_5 at h
  refine seA ?_
  have hN : ∀ e w, (m59_6 R (e 4) (e 5) w) → (thenE (W59 k59_6 Q) Q) .normal e w := fun e w h => then_N (s59_6 (R := R) (Q := Q) hR e w h)
  exact rgA 8 (fun e w => m59_6 R (e 4) (e 5) w) h hN
theorem s59_12 {R : VP} {K1 : (Value × Value) → World → Prop} {Q : EQ} (hN : ∀ e w, (m59_9 R K1 (e 3) (e 4) (e 5) w) → Q .normal e w) (hX0 : ∀ e w, (m59_5 R (e 3) (e 4) (e 5) w) → Q (.exit 0) e w) (e : Env) (w : World) (h : m59_12 R K1 (e 3) (e 4) (e 5) (e 14) w) : W59 k59_12 Q e w := by
  unfold m59_12 at h
  refine coA (Operand.tmp 14) h (fun h1 => ?_) (fun h1 => ?_)
  · exact skA (hN _ _ h1)
  · exact exA 0 (hX0 _ _ h1)
theorem s59_8 {R : VP} {K1 : (Value × Value) → World → Prop} {Q : EQ} (hN : ∀ e w, (K1 ((e 3), (e 5)) w) → Q .normal e w) (hX0 : ∀ e w, (m59_5 R (e 3) (e 4) (e 5) w) → Q (.exit 0) e w) (e : Env) (w : World) (h : m59_8 R K1 (e 3) (e 4) (e 5) w) : W59 k59_8 Q e w := by
  unfold m59_8 at h
  refine seA ?_
  have hN : ∀ e w, (m59_9 R K1 (e 3) (e 4) (e 5) w) → (thenE (W59 k59_9 Q) Q) .normal e w := fun e w h => then_N (s59_9 (R := R) (Q := Q) (K1 := K1) hN e w h)
  have hX0 : ∀ e w, (m59_5 R (e 3) (e 4) (e 5) w) → (thenE (W59 k59_9 Q) Q) (.exit 0) e w := fun e w h => then_X (hX0 e w h)
  refine seA ?_
  have hN : ∀ e w, (m59_12 R K1 (e 3) (e 4) (e 5) (e 14) w) → (thenE (W59 k59_12 (thenE (W59 k59_9 Q) Q)) (thenE (W59 k59_9 Q) Q)) .normal e w := fun e w h => then_N (s59_12 (R := R) (Q := (thenE (W59 k59_9 Q) Q)) (K1 := K1) hN hX0 e w h)
  exact rgA 4 (fun e w => m59_12 R K1 (e 3) (e 4) (e 5) (e 14) w) h hN
theorem s59_4 {R : VP} {Q : EQ} (hR : ∀ e w, (R (e 2) w) → Q .ret e w) (e : Env) (w : World) (h : m59_4 R (e 3) (e 4) (e 5) w) : W59 k59_4 Q e w := by
  unfold m59_4 at h
  refine seA ?_
  have hN : ∀ e w, (m59_5 R (e 3) (e 4) (e 5) w) → (thenE (W59 k59_5 Q) Q) .normal e w := fun e w h => then_N (s59_5 (R := R) (Q := Q) hR e w h)
  refine block_ok 0 (by kernel_rfl) ?_
  have hX0 : ∀ e w, (m59_5 R (e 3) (e 4) (e 5) w) → (inBlockE 0 (thenE (W59 k59_5 Q) Q)) (.exit 0) e w := fun e w h => inBlock_same (Q := (thenE (W59 k59_5 Q) Q)) 0 (hN e w h)
  refine loop_ok' (fun (e : Env) => (e 3, e 5)) [4] (by kernel_rfl) (by kernel_rfl) h (fun K e' w' hk h' => ?_)
  have r4 : e' 4 = e 4 := hk 4 (by decide)
  have hX0 : ∀ e w, (m59_5 R (e 3) (e 4) (e 5) w) → (thenE (fun (e : Env) w => K ((e 3), (e 5)) w) (inBlockE 0 (thenE (W59 k59_5 Q) Q))) (.exit 0) e w := fun e w h => then_X (hX0 e w h)
  exact s59_8 (R := R) (Q := (thenE (fun (e : Env) w => K ((e 3), (e 5)) w) (inBlockE 0 (thenE (W59 k59_5 Q) Q)))) (K1 := K) (fun _ _ h => then_N h) hX0 e' w' (by rw [r4]; exact h')
theorem s59_3 {R : VP} {Q : EQ} (hR : ∀ e w, (R (e 2) w) → Q .ret e w) (e : Env) (w : World) (h : m59_3 R (e 3) (e 4) w) : W59 k59_3 Q e w := by
  unfold m59_3 at h
  refine seA ?_
  have hN : ∀ e w, (m59_4 R (e 3) (e 4) (e 5) w) → (thenE (W59 k59_4 Q) Q) .normal e w := fun e w h => then_N (s59_4 (R := R) (Q := Q) hR e w h)
  exact rgA 3 (fun e w => m59_4 R (e 3) (e 4) (e 5) w) h hN
theorem s59_2 {R : VP} {Q : EQ} (hR : ∀ e w, (R (e 2) w) → Q .ret e w) (e : Env) (w : World) (h : m59_2 R (e 3) w) : W59 k59_2 Q e w := by
  unfold m59_2 at h
  refine seA ?_
  have hN : ∀ e w, (m59_3 R (e 3) (e 4) w) → (thenE (W59 k59_3 Q) Q) .normal e w := fun e w h => then_N (s59_3 (R := R) (Q := Q) hR e w h)
  exact rgA 2 (fun e w => m59_3 R (e 3) (e 4) w) h hN
theorem s59_1 {R : VP} {Q : EQ} (hR : ∀ e w, (R (e 2) w) → Q .ret e w) (e : Env) (w : World) (h : m59_1 R (e 0) w) : W59 k59_1 Q e w := by
  unfold m59_1 at h
  refine seA ?_
  have hN : ∀ e w, (m59_2 R (e 3) w) → (thenE (W59 k59_2 Q) Q) .normal e w := fun e w h => then_N (s59_2 (R := R) (Q := Q) hR e w h)
  exact rgA 1 (fun e w => m59_2 R (e 3) w) h hN
theorem s59_0 {R : VP} {Q : EQ} (hR : ∀ e w, (R (e 2) w) → Q .ret e w) (e : Env) (w : World) (h : m59_0 R (e 0) w) : W59 k59_0 Q e w := by
  unfold m59_0 at h
  refine seA ?_
  have hN : ∀ e w, (m59_1 R (e 0) w) → (thenE (W59 k59_1 Q) Q) .normal e w := fun e w h => then_N (s59_1 (R := R) (Q := Q) hR e w h)
  exact rgA 0 (fun e w => m59_1 R (e 0) w) h hN
abbrev m59 (R : VP) (n0 : Value) (w : World) : Prop := m59_0 R n0 w
theorem s59 (n0 : Value) {R : VP} {w : World} (h : m59 R n0 w) :
    Calls Tryz.prog 59 #[n0] w fun e w' => ∃ v, e = .returned v ∧ R v w' :=
  calls_of_cwp (st := (fun i => 0)) (c := k59_0) (by kernel_rfl) Tryz.func59 (by kernel_rfl) (Nat.le_of_ble_eq_true (by kernel_rfl)) (by kernel_rfl)
    (s59_0 (R := R) (Q := endE Tryz.prog Tryz.f59 R) (fun e w h => kcast (by kernel_rfl) h) (argsE #[n0]) w (kcast (by kernel_rfl) h))
def m37_10 (R : VP) (K1 : (Value × Value) → World → Prop) (u3 b4 : Value) (w : World) : Prop :=
  valP Tryz.prog (binS BinOp.quo 117 (Operand.tmp 25) (Operand.const (Value.int IntKind.u64 128)) u3 (Value.int IntKind.u64 128)) w fun t26 w =>
  K1 (t26, b4) w
def m37_9 (R : VP) (K1 : (Value × Value) → World → Prop) (u3 b4 : Value) (w : World) : Prop :=
  valP Tryz.prog (binS BinOp.rem 117 (Operand.tmp 19) (Operand.const (Value.int IntKind.u64 128)) u3 (Value.int IntKind.u64 128)) w fun t20 w =>
  valP Tryz.prog (binS BinOp.add 117 (Operand.tmp 20) (Operand.const (Value.int IntKind.u64 128)) t20 (Value.int IntKind.u64 128)) w fun t21 w =>
  valP Tryz.prog (convert 117 5 t21) w fun t22 w =>
  valP Tryz.prog (Instr.buildSlice 97 1 #[(0, t22)]) w fun t23 w =>
  builtinP Tryz.prog Builtin.append #[97, 97] 97 #[false, false] #[b4, t23] w fun t24 w =>
  m37_10 R K1 u3 t24 w
def m37_7 (R : VP) (t2 : Value) (w : World) : Prop :=
  R t2 w
def m37_6 (R : VP) (b4 : Value) (w : World) : Prop :=
  valP Tryz.prog (convert 97 9 b4) w fun t33 w =>
  m37_7 R t33 w
def m37_5 (R : VP) (u3 b4 : Value) (w : World) : Prop :=
  valP Tryz.prog (convert 117 5 u3) w fun t29 w =>
  valP Tryz.prog (Instr.buildSlice 97 1 #[(0, t29)]) w fun t30 w =>
  builtinP Tryz.prog Builtin.append #[97, 97] 97 #[false, false] #[b4, t30] w fun t31 w =>
  m37_6 R t31 w
def m37_11 (R : VP) (K1 : (Value × Value) → World → Prop) (u3 b4 t17 : Value) (w : World) : Prop :=
  condP t17
  (m37_9 R K1 u3 b4 w)
  (m37_5 R u3 b4 w)
def m37_8 (R : VP) (K1 : (Value × Value) → World → Prop) (u3 b4 : Value) (w : World) : Prop :=
  valP Tryz.prog (binS BinOp.gtr 117 (Operand.tmp 16) (Operand.const (Value.int IntKind.u64 127)) u3 (Value.int IntKind.u64 127)) w fun t17 w =>
  m37_11 R K1 u3 b4 t17 w
def m37_4 (R : VP) (u3 b4 : Value) (w : World) : Prop :=
  loopP (fun (K1 : (Value × Value) → World → Prop) (s : Value × Value) w => m37_8 R K1 s.1 s.2 w) (u3, b4) w
def m37_3 (R : VP) (u3 : Value) (w : World) : Prop :=
  m37_4 R u3 (Value.slice none 0 0) w
def m37_12 (R : VP) (n0 u3 t9 : Value) (w : World) : Prop :=
  condP t9
  (valP Tryz.prog (binS BinOp.add 3 (Operand.tmp 10) (Operand.const (Value.int IntKind.i64 1)) n0 (Value.int IntKind.i64 1)) w fun t11 w =>
  valP Tryz.prog (Op.unary UnOp.neg t11) w fun t12 w =>
  valP Tryz.prog (convert 3 117 t12) w fun t13 w =>
  valP Tryz.prog (binS BinOp.mul 117 (Operand.tmp 13) (Operand.const (Value.int IntKind.u64 2)) t13 (Value.int IntKind.u64 2)) w fun t14 w =>
  valP Tryz.prog (binS BinOp.add 117 (Operand.tmp 14) (Operand.const (Value.int IntKind.u64 1)) t14 (Value.int IntKind.u64 1)) w fun t15 w =>
  m37_3 R t15 w)
  (m37_3 R u3 w)
def m37_2 (R : VP) (n0 u3 : Value) (w : World) : Prop :=
  valP Tryz.prog (binS BinOp.lss 3 (Operand.tmp 8) (Operand.const (Value.int IntKind.i64 0)) n0 (Value.int IntKind.i64 0)) w fun t9 w =>
  m37_12 R n0 u3 t9 w
def m37_1 (R : VP) (n0 : Value) (w : World) : Prop :=
  valP Tryz.prog (convert 3 117 n0) w fun t6 w =>
  valP Tryz.prog (binS BinOp.mul 117 (Operand.tmp 6) (Operand.const (Value.int IntKind.u64 2)) t6 (Value.int IntKind.u64 2)) w fun t7 w =>
  m37_2 R n0 t7 w
def m37_0 (R : VP) (n0 : Value) (w : World) : Prop :=
  m37_1 R n0 w
abbrev W37 := cwp Tryz.prog (fun i => 0)
noncomputable def k37_0 : Code := (bodyOf Tryz.f37)
noncomputable def k37_1 : Code := (c2 k37_0)
noncomputable def k37_2 : Code := (c2 k37_1)
noncomputable def k37_3 : Code := (c2 k37_2)
noncomputable def k37_4 : Code := (c2 k37_3)
noncomputable def k37_5 : Code := (c2 k37_4)
noncomputable def k37_6 : Code := (c2 k37_5)
noncomputable def k37_7 : Code := (c2 k37_6)
noncomputable def k37_8 : Code := (c1 (c1 (c1 k37_4)))
noncomputable def k37_9 : Code := (c2 k37_8)
noncomputable def k37_10 : Code := (c2 (c1 k37_9))
noncomputable def k37_11 : Code := (c2 (c1 k37_8))
noncomputable def k37_12 : Code := (c2 (c1 k37_2))
theorem s37_10 {R : VP} {K1 : (Value × Value) → World → Prop} {Q : EQ} (hN : ∀ e w, (K1 ((e 3), (e 4)) w) → Q .normal e w) (e : Env) (w : World) (h : m37_10 R K1 (e 3) (e 4) w) : W37 k37_10 Q e w := by
  unfold m37_10 at h
  exact rgA 7 (fun e w => K1 ((e 3), (e 4)) w) h hN
theorem s37_9 {R : VP} {K1 : (Value × Value) → World → Prop} {Q : EQ} (hN : ∀ e w, (K1 ((e 3), (e 4)) w) → Q .normal e w) (e : Env) (w : World) (h : m37_9 R K1 (e 3) (e 4) w) : W37 k37_9 Q e w := by
  unfold m37_9 at h
  refine block_ok 1 (by kernel_rfl) ?_
  have hN : ∀ e w, (K1 ((e 3), (e 4)) w) → (inBlockE 1 Q) .normal e w := fun e w h => block_N (hN e w h)
  refine seA ?_
  have hN : ∀ e w, (m37_10 R K1 (e 3) (e 4) w) → (thenE (W37 k37_10 (inBlockE 1 Q)) (inBlockE 1 Q)) .normal e w := fun e w h => then_N (s37_10 (R := R) (Q := (inBlockE 1 Q)) (K1 := K1) hN e w h)
  exact rgA 6 (fun e w => m37_10 R K1 (e 3) (e 4) w) h hN
theorem s37_7 {R : VP} {Q : EQ} (hR : ∀ e w, (R (e 2) w) → Q .ret e w) (e : Env) (w : World) (h : m37_7 R (e 2) w) : W37 k37_7 Q e w := by
  unfold m37_7 at h
  exact reA (hR _ _ h)
theorem s37_6 {R : VP} {Q : EQ} (hR : ∀ e w, (R (e 2) w) → Q .ret e w) (e : Env) (w : World) (h : m37_6 R (e 4) w) : W37 k37_6 Q e w := by
  unfold m37_6 at h
  refine seA ?_
  have hN : ∀ e w, (m37_7 R (e 2) w) → (thenE (W37 k37_7 Q) Q) .normal e w := fun e w h => then_N (s37_7 (R := R) (Q := Q) hR e w h)
  exact rgA 9 (fun e w => m37_7 R (e 2) w) h hN
theorem s37_5 {R : VP} {Q : EQ} (hR : ∀ e w, (R (e 2) w) → Q .ret e w) (e : Env) (w : World) (h : m37_5 R (e 3) (e 4) w) : W37 k37_5 Q e w := by
  unfold m37_5 at h
  refine seA ?_
  have hN : ∀ e w, (m37_6 R (e 4) w) → (thenE (W37 k37_6 Q) Q) .normal e w := fun e w h => then_N (s37_6 (R := R) (Q := Q) hR e w h)
  exact rgA 8 (fun e w => m37_6 R (e 4) w) h hN
theorem s37_11 {R : VP} {K1 : (Value × Value) → World → Prop} {Q : EQ} (hN : ∀ e w, (m37_9 R K1 (e 3) (e 4) w) → Q .normal e w) (hX0 : ∀ e w, (m37_5 R (e 3) (e 4) w) → Q (.exit 0) e w) (e : Env) (w : World) (h : m37_11 R K1 (e 3) (e 4) (e 17) w) : W37 k37_11 Q e w := by
  unfold m37_11 at h
  refine coA (Operand.tmp 17) h (fun h1 => ?_) (fun h1 => ?_)
  · exact skA (hN _ _ h1)
  · exact exA 0 (hX0 _ _ h1)
theorem s37_8 {R : VP} {K1 : (Value × Value) → World → Prop} {Q : EQ} (hN : ∀ e w, (K1 ((e 3), (e 4)) w) → Q .normal e w) (hX0 : ∀ e w, (m37_5 R (e 3) (e 4) w) → Q (.exit 0) e w) (e : Env) (w : World) (h : m37_8 R K1 (e 3) (e 4) w) : W37 k37_8 Q e w := by
  unfold m37_8 at h
  refine seA ?_
  have hN : ∀ e w, (m37_9 R K1 (e 3) (e 4) w) → (thenE (W37 k37_9 Q) Q) .normal e w := fun e w h => then_N (s37_9 (R := R) (Q := Q) (K1 := K1) hN e w h)
  have hX0 : ∀ e w, (m37_5 R (e 3) (e 4) w) → (thenE (W37 k37_9 Q) Q) (.exit 0) e w := fun e w h => then_X (hX0 e w h)
  refine seA ?_
  have hN : ∀ e w, (m37_11 R K1 (e 3) (e 4) (e 17) w) → (thenE (W37 k37_11 (thenE (W37 k37_9 Q) Q)) (thenE (W37 k37_9 Q) Q)) .normal e w := fun e w h => then_N (s37_11 (R := R) (Q := (thenE (W37 k37_9 Q) Q)) (K1 := K1) hN hX0 e w h)
  exact rgA 5 (fun e w => m37_11 R K1 (e 3) (e 4) (e 17) w) h hN
theorem s37_4 {R : VP} {Q : EQ} (hR : ∀ e w, (R (e 2) w) → Q .ret e w) (e : Env) (w : World) (h : m37_4 R (e 3) (e 4) w) : W37 k37_4 Q e w := by
  unfold m37_4 at h
  refine seA ?_
  have hN : ∀ e w, (m37_5 R (e 3) (e 4) w) → (thenE (W37 k37_5 Q) Q) .normal e w := fun e w h => then_N (s37_5 (R := R) (Q := Q) hR e w h)
  refine block_ok 0 (by kernel_rfl) ?_
  have hX0 : ∀ e w, (m37_5 R (e 3) (e 4) w) → (inBlockE 0 (thenE (W37 k37_5 Q) Q)) (.exit 0) e w := fun e w h => inBlock_same (Q := (thenE (W37 k37_5 Q) Q)) 0 (hN e w h)
  refine loop_ok' (fun (e : Env) => (e 3, e 4)) [] (by kernel_rfl) (by kernel_rfl) h (fun K e' w' hk h' => ?_)
  have hX0 : ∀ e w, (m37_5 R (e 3) (e 4) w) → (thenE (fun (e : Env) w => K ((e 3), (e 4)) w) (inBlockE 0 (thenE (W37 k37_5 Q) Q))) (.exit 0) e w := fun e w h => then_X (hX0 e w h)
  exact s37_8 (R := R) (Q := (thenE (fun (e : Env) w => K ((e 3), (e 4)) w) (inBlockE 0 (thenE (W37 k37_5 Q) Q)))) (K1 := K) (fun _ _ h => then_N h) hX0 e' w' h'
theorem s37_3 {R : VP} {Q : EQ} (hR : ∀ e w, (R (e 2) w) → Q .ret e w) (e : Env) (w : World) (h : m37_3 R (e 3) w) : W37 k37_3 Q e w := by
  unfold m37_3 at h
  refine seA ?_
  have hN : ∀ e w, (m37_4 R (e 3) (e 4) w) → (thenE (W37 k37_4 Q) Q) .normal e w := fun e w h => then_N (s37_4 (R := R) (Q := Q) hR e w h)
  exact rgA 4 (fun e w => m37_4 R (e 3) (e 4) w) h hN
theorem s37_12 {R : VP} {Q : EQ} (hN : ∀ e w, (m37_3 R (e 3) w) → Q .normal e w) (e : Env) (w : World) (h : m37_12 R (e 0) (e 3) (e 9) w) : W37 k37_12 Q e w := by
  unfold m37_12 at h
  refine coA (Operand.tmp 9) h (fun h1 => ?_) (fun h1 => ?_)
  · exact rgA 3 (fun e w => m37_3 R (e 3) w) h1 hN
  · exact skA (hN _ _ h1)
theorem s37_2 {R : VP} {Q : EQ} (hR : ∀ e w, (R (e 2) w) → Q .ret e w) (e : Env) (w : World) (h : m37_2 R (e 0) (e 3) w) : W37 k37_2 Q e w := by
  unfold m37_2 at h
  refine seA ?_
  have hN : ∀ e w, (m37_3 R (e 3) w) → (thenE (W37 k37_3 Q) Q) .normal e w := fun e w h => then_N (s37_3 (R := R) (Q := Q) hR e w h)
  refine seA ?_
  have hN : ∀ e w, (m37_12 R (e 0) (e 3) (e 9) w) → (thenE (W37 k37_12 (thenE (W37 k37_3 Q) Q)) (thenE (W37 k37_3 Q) Q)) .normal e w := fun e w h => then_N (s37_12 (R := R) (Q := (thenE (W37 k37_3 Q) Q)) hN e w h)
  exact rgA 2 (fun e w => m37_12 R (e 0) (e 3) (e 9) w) h hN
theorem s37_1 {R : VP} {Q : EQ} (hR : ∀ e w, (R (e 2) w) → Q .ret e w) (e : Env) (w : World) (h : m37_1 R (e 0) w) : W37 k37_1 Q e w := by
  unfold m37_1 at h
  refine seA ?_
  have hN : ∀ e w, (m37_2 R (e 0) (e 3) w) → (thenE (W37 k37_2 Q) Q) .normal e w := fun e w h => then_N (s37_2 (R := R) (Q := Q) hR e w h)
  exact rgA 1 (fun e w => m37_2 R (e 0) (e 3) w) h hN
theorem s37_0 {R : VP} {Q : EQ} (hR : ∀ e w, (R (e 2) w) → Q .ret e w) (e : Env) (w : World) (h : m37_0 R (e 0) w) : W37 k37_0 Q e w := by
  unfold m37_0 at h
  refine seA ?_
  have hN : ∀ e w, (m37_1 R (e 0) w) → (thenE (W37 k37_1 Q) Q) .normal e w := fun e w h => then_N (s37_1 (R := R) (Q := Q) hR e w h)
  exact rgA 0 (fun e w => m37_1 R (e 0) w) h hN
abbrev m37 (R : VP) (n0 : Value) (w : World) : Prop := m37_0 R n0 w
theorem s37 (n0 : Value) {R : VP} {w : World} (h : m37 R n0 w) :
    Calls Tryz.prog 37 #[n0] w fun e w' => ∃ v, e = .returned v ∧ R v w' :=
  calls_of_cwp (st := (fun i => 0)) (c := k37_0) (by kernel_rfl) Tryz.func37 (by kernel_rfl) (Nat.le_of_ble_eq_true (by kernel_rfl)) (by kernel_rfl)
    (s37_0 (R := R) (Q := endE Tryz.prog Tryz.f37 R) (fun e w h => kcast (by kernel_rfl) h) (argsE #[n0]) w (kcast (by kernel_rfl) h))
def m76_6 (R : VP) (t2 t3 : Value) (w : World) : Prop :=
  valS Tryz.prog (loadC 56 t2) w fun r0 =>
  R (Value.tuple #[r0, t3]) w
def m76_8 (R : VP) (t2 t3 : Value) (w : World) : Prop :=
  valS Tryz.prog (loadC 56 t2) w fun r0 =>
  R (Value.tuple #[r0, t3]) w
def m76_4 (R : VP) (t2 t3 : Value) (w : World) : Prop :=
  valS Tryz.prog (loadC 56 t2) w fun r0 =>
  R (Value.tuple #[r0, t3]) w
def m76_3 (R : VP) (r1 t2 : Value) (w : World) : Prop :=
  valP Tryz.prog (Instr.fieldAt 56 r1 0) w fun t30 w =>
  valP Tryz.prog (Instr.loadAt 3 t30) w fun t31 w =>
  valP Tryz.prog (Instr.fieldAt 56 r1 1) w fun t32 w =>
  valP Tryz.prog (Instr.loadAt 3 t32) w fun t33 w =>
  valP Tryz.prog (Instr.build 56 #[(0, t31), (1, t33)]) w fun t34 w =>
  unitP Tryz.prog (Instr.storeAt 56 t2 t34) w fun _ w =>
  m76_4 R t2 (Value.bool true) w
def m76_7 (R : VP) (r1 t2 t26 : Value) (w : World) : Prop :=
  condP t26
  (valP Tryz.prog (Instr.build 56 #[(2, (Value.string ⟨#[99, 111, 117, 110, 116, 115]⟩))]) w fun t29 w =>
  unitP Tryz.prog (Instr.storeAt 56 t2 t29) w fun _ w =>
  m76_8 R t2 (Value.bool true) w)
  (m76_3 R r1 t2 w)
def m76_5 (R : VP) (r1 t2 sort4 t14 : Value) (w : World) : Prop :=
  condP t14
  (valP Tryz.prog (Instr.build 56 #[]) w fun t25 w =>
  unitP Tryz.prog (Instr.storeAt 56 t2 t25) w fun _ w =>
  m76_6 R t2 (Value.bool false) w)
  (valP Tryz.prog (binS BinOp.eql 3 (Operand.tmp 27) (Operand.const (Value.int IntKind.i64 0)) sort4 (Value.int IntKind.i64 0)) w fun t28 w =>
  m76_7 R r1 t2 t28 w)
def m76_2 (R : VP) (r1 t2 sort4 e6 : Value) (w : World) : Prop :=
  valP Tryz.prog (binS BinOp.neq 26 (Operand.tmp 15) (Operand.const (Value.int IntKind.i64 0)) e6 (Value.int IntKind.i64 0)) w fun t16 w =>
  condP t16
  (pickP t16 (Value.bool true) undef fun t20 =>
  condP t20
  (pickP t20 (Value.bool true) undef fun t24 =>
  m76_5 R r1 t2 sort4 t24 w)
  (valP Tryz.prog (binS BinOp.gtr 3 (Operand.tmp 22) (Operand.const (Value.int IntKind.i64 2)) sort4 (Value.int IntKind.i64 2)) w fun t23 w =>
  pickP t20 (Value.bool true) t23 fun t24 =>
  m76_5 R r1 t2 sort4 t24 w))
  (valP Tryz.prog (binS BinOp.lss 3 (Operand.tmp 18) (Operand.const (Value.int IntKind.i64 0)) sort4 (Value.int IntKind.i64 0)) w fun t19 w =>
  pickP t16 (Value.bool true) t19 fun t20 =>
  condP t20
  (pickP t20 (Value.bool true) undef fun t24 =>
  m76_5 R r1 t2 sort4 t24 w)
  (valP Tryz.prog (binS BinOp.gtr 3 (Operand.tmp 22) (Operand.const (Value.int IntKind.i64 2)) sort4 (Value.int IntKind.i64 2)) w fun t23 w =>
  pickP t20 (Value.bool true) t23 fun t24 =>
  m76_5 R r1 t2 sort4 t24 w))
def m76_1 (R : VP) (r1 t2 : Value) (w : World) : Prop :=
  valP Tryz.prog (Instr.fieldAt 56 r1 2) w fun t8 w =>
  valP Tryz.prog (Instr.loadAt 9 t8) w fun t9 w =>
  callP Tryz.prog (fnV 73) #[t9] w fun t10 w =>
  valP Tryz.prog (Instr.extract t10 0) w fun t11 w =>
  valP Tryz.prog (Instr.extract t10 1) w fun t12 w =>
  valP Tryz.prog (Instr.extract t10 2) w fun t13 w =>
  m76_2 R r1 t2 t11 t13 w
def m76_0 (R : VP) (r0 : Value) (w : World) : Prop :=
  valP Tryz.prog (Instr.box 56 r0) w fun r1 w =>
  valP Tryz.prog (Instr.alloc 56 true (.tuple #[])) w fun t2 w =>
  m76_1 R r1 t2 w
abbrev W76 := cwp Tryz.prog (fun i => 0)
noncomputable def k76_0 : Code := (bodyOf Tryz.f76)
noncomputable def k76_1 : Code := (c2 k76_0)
noncomputable def k76_2 : Code := (c2 k76_1)
noncomputable def k76_3 : Code := (c2 k76_2)
noncomputable def k76_4 : Code := (c2 k76_3)
noncomputable def k76_5 : Code := (c2 (c1 (c1 k76_2)))
noncomputable def k76_6 : Code := (c2 (c1 k76_5))
noncomputable def k76_7 : Code := (c2 (c2 k76_5))
noncomputable def k76_8 : Code := (c2 (c1 k76_7))
theorem s76_6 {R : VP} {Q : EQ} (hR : ∀ e w, (valS Tryz.prog (loadC 56 (e 2)) w fun r0 =>
R (Value.tuple #[r0, (e 3)]) w) → Q .ret e w) (e : Env) (w : World) (h : m76_6 R (e 2) (e 3) w) : W76 k76_6 Q e w := by
  unfold m76_6 at h
  exact reA (hR _ _ h)
theorem s76_8 {R : VP} {Q : EQ} (hR : ∀ e w, (valS Tryz.prog (loadC 56 (e 2)) w fun r0 =>
R (Value.tuple #[r0, (e 3)]) w) → Q .ret e w) (e : Env) (w : World) (h : m76_8 R (e 2) (e 3) w) : W76 k76_8 Q e w := by
  unfold m76_8 at h
  exact reA (hR _ _ h)
theorem s76_4 {R : VP} {Q : EQ} (hR : ∀ e w, (valS Tryz.prog (loadC 56 (e 2)) w fun r0 =>
R (Value.tuple #[r0, (e 3)]) w) → Q .ret e w) (e : Env) (w : World) (h : m76_4 R (e 2) (e 3) w) : W76 k76_4 Q e w := by
  unfold m76_4 at h
  exact reA (hR _ _ h)
theorem s76_3 {R : VP} {Q : EQ} (hR : ∀ e w, (valS Tryz.prog (loadC 56 (e 2)) w fun r0 =>
R (Value.tuple #[r0, (e 3)]) w) → Q .ret e w) (e : Env) (w : World) (h : m76_3 R (e 1) (e 2) w) : W76 k76_3 Q e w := by
  unfold m76_3 at h
  refine seA ?_
  have hN : ∀ e w, (m76_4 R (e 2) (e 3) w) → (thenE (W76 k76_4 Q) Q) .normal e w := fun e w h => then_N (s76_4 (R := R) (Q := Q) hR e w h)
  exact rgA 6 (fun e w => m76_4 R (e 2) (e 3) w) h hN
theorem s76_7 {R : VP} {Q : EQ} (hN : ∀ e w, (m76_3 R (e 1) (e 2) w) → Q .normal e w) (hR : ∀ e w, (valS Tryz.prog (loadC 56 (e 2)) w fun r0 =>
R (Value.tuple #[r0, (e 3)]) w) → Q .ret e w) (e : Env) (w : World) (h : m76_7 R (e 1) (e 2) (e 26) w) : W76 k76_7 Q e w := by
  unfold m76_7 at h
  refine coA (Operand.tmp 26) h (fun h1 => ?_) (fun h1 => ?_)
  · refine seA ?_
    have hN : ∀ e w, (m76_8 R (e 2) (e 3) w) → (thenE (W76 k76_8 Q) Q) .normal e w := fun e w h => then_N (s76_8 (R := R) (Q := Q) hR e w h)
    exact rgA 5 (fun e w => m76_8 R (e 2) (e 3) w) h1 hN
  · exact skA (hN _ _ h1)
theorem s76_5 {R : VP} {Q : EQ} (hN : ∀ e w, (m76_3 R (e 1) (e 2) w) → Q .normal e w) (hR : ∀ e w, (valS Tryz.prog (loadC 56 (e 2)) w fun r0 =>
R (Value.tuple #[r0, (e 3)]) w) → Q .ret e w) (e : Env) (w : World) (h : m76_5 R (e 1) (e 2) (e 4) (e 14) w) : W76 k76_5 Q e w := by
  unfold m76_5 at h
  refine coA (Operand.tmp 14) h (fun h1 => ?_) (fun h1 => ?_)
  · refine seA ?_
    have hN : ∀ e w, (m76_6 R (e 2) (e 3) w) → (thenE (W76 k76_6 Q) Q) .normal e w := fun e w h => then_N (s76_6 (R := R) (Q := Q) hR e w h)
    exact rgA 3 (fun e w => m76_6 R (e 2) (e 3) w) h1 hN
  · refine seA ?_
    have hN : ∀ e w, (m76_7 R (e 1) (e 2) (e 26) w) → (thenE (W76 k76_7 Q) Q) .normal e w := fun e w h => then_N (s76_7 (R := R) (Q := Q) hN hR e w h)
    exact rgA 4 (fun e w => m76_7 R (e 1) (e 2) (e 26) w) h1 hN
theorem s76_2 {R : VP} {Q : EQ} (hR : ∀ e w, (valS Tryz.prog (loadC 56 (e 2)) w fun r0 =>
R (Value.tuple #[r0, (e 3)]) w) → Q .ret e w) (e : Env) (w : World) (h : m76_2 R (e 1) (e 2) (e 4) (e 6) w) : W76 k76_2 Q e w := by
  unfold m76_2 at h
  refine seA ?_
  have hN : ∀ e w, (m76_3 R (e 1) (e 2) w) → (thenE (W76 k76_3 Q) Q) .normal e w := fun e w h => then_N (s76_3 (R := R) (Q := Q) hR e w h)
  have hR : ∀ e w, (valS Tryz.prog (loadC 56 (e 2)) w fun r0 =>
  R (Value.tuple #[r0, (e 3)]) w) → (thenE (W76 k76_3 Q) Q) .ret e w := fun e w h => then_R (hR e w h)
  refine block_ok 0 (by kernel_rfl) ?_
  have hN : ∀ e w, (m76_3 R (e 1) (e 2) w) → (inBlockE 0 (thenE (W76 k76_3 Q) Q)) .normal e w := fun e w h => block_N (hN e w h)
  have hR : ∀ e w, (valS Tryz.prog (loadC 56 (e 2)) w fun r0 =>
  R (Value.tuple #[r0, (e 3)]) w) → (inBlockE 0 (thenE (W76 k76_3 Q) Q)) .ret e w := fun e w h => block_R (hR e w h)
  refine seA ?_
  have hN : ∀ e w, (m76_5 R (e 1) (e 2) (e 4) (e 14) w) → (thenE (W76 k76_5 (inBlockE 0 (thenE (W76 k76_3 Q) Q))) (inBlockE 0 (thenE (W76 k76_3 Q) Q))) .normal e w := fun e w h => then_N (s76_5 (R := R) (Q := (inBlockE 0 (thenE (W76 k76_3 Q) Q))) hN hR e w h)
  exact rgA 2 (fun e w => m76_5 R (e 1) (e 2) (e 4) (e 14) w) h hN
theorem s76_1 {R : VP} {Q : EQ} (hR : ∀ e w, (valS Tryz.prog (loadC 56 (e 2)) w fun r0 =>
R (Value.tuple #[r0, (e 3)]) w) → Q .ret e w) (e : Env) (w : World) (h : m76_1 R (e 1) (e 2) w) : W76 k76_1 Q e w := by
  unfold m76_1 at h
  refine seA ?_
  have hN : ∀ e w, (m76_2 R (e 1) (e 2) (e 4) (e 6) w) → (thenE (W76 k76_2 Q) Q) .normal e w := fun e w h => then_N (s76_2 (R := R) (Q := Q) hR e w h)
  exact rgA 1 (fun e w => m76_2 R (e 1) (e 2) (e 4) (e 6) w) h hN
theorem s76_0 {R : VP} {Q : EQ} (hR : ∀ e w, (valS Tryz.prog (loadC 56 (e 2)) w fun r0 =>
R (Value.tuple #[r0, (e 3)]) w) → Q .ret e w) (e : Env) (w : World) (h : m76_0 R (e 0) w) : W76 k76_0 Q e w := by
  unfold m76_0 at h
  refine seA ?_
  have hN : ∀ e w, (m76_1 R (e 1) (e 2) w) → (thenE (W76 k76_1 Q) Q) .normal e w := fun e w h => then_N (s76_1 (R := R) (Q := Q) hR e w h)
  exact rgA 0 (fun e w => m76_1 R (e 1) (e 2) w) h hN
abbrev m76 (R : VP) (r0 : Value) (w : World) : Prop := m76_0 R r0 w
theorem s76 (r0 : Value) {R : VP} {w : World} (h : m76 R r0 w) :
    Calls Tryz.prog 76 #[r0] w fun e w' => ∃ v, e = .returned v ∧ R v w' :=
  calls_of_cwp (st := (fun i => 0)) (c := k76_0) (by kernel_rfl) Tryz.func76 (by kernel_rfl) (Nat.le_of_ble_eq_true (by kernel_rfl)) (by kernel_rfl)
    (s76_0 (R := R) (Q := endE Tryz.prog Tryz.f76 R) (fun e w h => kcast (by kernel_rfl) h) (argsE #[r0]) w (kcast (by kernel_rfl) h))
def m77_2 (R : VP) (t2 : Value) (w : World) : Prop :=
  R t2 w
def m77_1 (R : VP) (r1 : Value) (w : World) : Prop :=
  anyDraw w fun w =>
  heldP w fun J =>
  valJ Tryz.prog J (Instr.fieldAt 56 r1 2) fun t3 =>
  valJ Tryz.prog J (Instr.loadAt 9 t3) fun t4 =>
  callP Tryz.prog (fnV 59) #[(Value.int IntKind.i64 2)] w fun t5 w =>
  stayP J w
  (valJ Tryz.prog J (binS BinOp.eql 9 (Operand.tmp 4) (Operand.tmp 5) t4 t5) fun t6 =>
  m77_2 R t6 w)
def m77_0 (R : VP) (r0 : Value) (w : World) : Prop :=
  valP Tryz.prog (Instr.box 56 r0) w fun r1 w =>
  m77_1 R r1 w
abbrev W77 := cwp Tryz.prog (fun i => 0)
noncomputable def k77_0 : Code := (bodyOf Tryz.f77)
noncomputable def k77_1 : Code := (c2 k77_0)
noncomputable def k77_2 : Code := (c2 k77_1)
theorem s77_2 {R : VP} {Q : EQ} (hR : ∀ e w, (R (e 2) w) → Q .ret e w) (e : Env) (w : World) (h : m77_2 R (e 2) w) : W77 k77_2 Q e w := by
  unfold m77_2 at h
  exact reA (hR _ _ h)
theorem s77_1 {R : VP} {Q : EQ} (hR : ∀ e w, (R (e 2) w) → Q .ret e w) (e : Env) (w : World) (h : m77_1 R (e 1) w) : W77 k77_1 Q e w := by
  unfold m77_1 at h
  refine seA ?_
  have hN : ∀ e w, (m77_2 R (e 2) w) → (thenE (W77 k77_2 Q) Q) .normal e w := fun e w h => then_N (s77_2 (R := R) (Q := Q) hR e w h)
  exact treeJ_ok 1 5 [false, false, false, false, false] (.take 0 [true, false, false, false, false] (.take 1 [true, true, false, false, false] (.alt 2 [true, true, true, false, false] (.take 3 [true, true, true, true, false] (.take 4 [true, true, true, true, true] .done)) .stop))) (fun e w => m77_2 R (e 2) w) (by kernel_rfl) (by kernel_rfl) (by kernel_rfl) (by kernel_rfl) (by kernel_rfl) (by kernel_rfl) (kcast (by kernel_rfl) h) hN (by kernel_rfl)
theorem s77_0 {R : VP} {Q : EQ} (hR : ∀ e w, (R (e 2) w) → Q .ret e w) (e : Env) (w : World) (h : m77_0 R (e 0) w) : W77 k77_0 Q e w := by
  unfold m77_0 at h
  refine seA ?_
  have hN : ∀ e w, (m77_1 R (e 1) w) → (thenE (W77 k77_1 Q) Q) .normal e w := fun e w h => then_N (s77_1 (R := R) (Q := Q) hR e w h)
  exact rgA 0 (fun e w => m77_1 R (e 1) w) h hN
abbrev m77 (R : VP) (r0 : Value) (w : World) : Prop := m77_0 R r0 w
theorem s77 (r0 : Value) {R : VP} {w : World} (h : m77 R r0 w) :
    Calls Tryz.prog 77 #[r0] w fun e w' => ∃ v, e = .returned v ∧ R v w' :=
  calls_of_cwp (st := (fun i => 0)) (c := k77_0) (by kernel_rfl) Tryz.func77 (by kernel_rfl) (Nat.le_of_ble_eq_true (by kernel_rfl)) (by kernel_rfl)
    (s77_0 (R := R) (Q := endE Tryz.prog Tryz.f77 R) (fun e w h => kcast (by kernel_rfl) h) (argsE #[r0]) w (kcast (by kernel_rfl) h))
end Go.Proofs.YtcldjjmfpmkldaaGreatDoor.M
namespace Go.Proofs.YtcldjjmfpmkldaaGreatDoor.M
open Go.Proofs.YtcldjjmfpmkldaaGreatDoor.F Go.RowKit
set_option linter.unusedVariables false
set_option linter.unusedSimpArgs false
set_option maxRecDepth 100000
set_option maxHeartbeats 2000000
attribute [local irreducible] Res.cells Res.row Res.map Res.any World.cell? World.frozen? Instr.fieldAt Instr.loadAt Instr.storeAt Instr.indexAt Instr.lookup Instr.mapUpdate Instr.box Instr.build Instr.buildSlice Instr.extract Instr.alloc Instr.field Instr.index Instr.sliceAt Instr.makeSlice Instr.makeMap Instr.makeFunc binS Op.unary Sem.run
theorem wrap64_eq (n : Int) : IntKind.i64.wrap n = wrap64 n := by
  rw [IntKind.wrap_i64, wrap64]
abbrev noV : Value := .tuple #[.int .i64 0, .string ⟨#[]⟩, .int .i64 2]
/-- what Take answers. -/
def tkV (s : ByteArray) : Value := match takeS s with
  | none => noV
  | some (n, r) => .tuple #[.int .i64 n, .string r, .int .i64 0]
theorem strN_drop (s : ByteArray) (j : Nat) : strN ((bytesN s).drop j) = s.extract j s.size := by
  refine bytesN_inj ?_
  rw [bytesN_strN (fun b hb => bytesN_lt s b (List.mem_of_mem_drop hb)), bytesN_drop]
theorem takeS_none {s : ByteArray} (h : vT 0 0 (bytesN s) = none) : takeS s = none := by
  unfold takeS
  rw [h]
  rfl
theorem takeS_some {s : ByteArray} {v : Nat} {j : Nat} (h : vT 0 0 (bytesN s) = some (v, (bytesN s).drop j)) : takeS s = some (unz v, s.extract j s.size) := by
  unfold takeS
  rw [h]
  simp only [Option.map_some]
  rw [strN_drop]
def TkInv (s : ByteArray) (x : Int) (k : Nat) : Prop := k ≤ s.size ∧ ((k = 10 ∧ vT 0 0 (bytesN s) = none) ∨ ∃ a : Nat, x = (a : Int) ∧ a < 2 ^ (7 * k) ∧ k ≤ 9 ∧ vT k a ((bytesN s).drop k) = vT 0 0 (bytesN s))
theorem TkInv.le {s : ByteArray} {x : Int} {k : Nat} (h : TkInv s x k) : k ≤ 10 := by
  rcases h.2 with h | ⟨_, _, _, h, _⟩ <;> omega
theorem TkInv.stop {s : ByteArray} {x : Int} {k : Nat} (h : TkInv s x k) (hk : k = s.size ∨ k = 10) : takeS s = none := by
  rcases h.2 with h2 | ⟨a, rfl, ha, h9, e⟩
  · exact takeS_none h2.2
  · refine takeS_none (e ▸ ?_)
    have hd : (bytesN s).drop k = [] := List.drop_eq_nil_of_le (by rw [bytesN_length]; omega)
    rw [hd]
    rfl
theorem TkInv.at {s : ByteArray} {x : Int} {k : Nat} (h : TkInv s x k) (h10 : ¬ k = 10) (hk : k < s.size) : ∃ a : Nat, x = (a : Int) ∧ a < 2 ^ (7 * k) ∧ k ≤ 9 ∧
    (if 128 ≤ s[k].toNat then vT (k + 1) (a + (s[k].toNat - 128) * 2 ^ (7 * k)) ((bytesN s).drop (k + 1)) else if (0 < k ∧ s[k].toNat = 0) ∨ (k = 9 ∧ 1 < s[k].toNat) then none else some (a + s[k].toNat * 2 ^ (7 * k), (bytesN s).drop (k + 1))) = vT 0 0 (bytesN s) := by
  rcases h.2 with h2 | ⟨a, rfl, ha, h9, e⟩
  · omega
  · refine ⟨a, rfl, ha, h9, ?_⟩
    rw [← e, List.drop_eq_getElem_cons (l := bytesN s) (i := k) (by rw [bytesN_length]; exact hk), bytesN_get s k hk]
    simp only [vT]
    rw [if_neg (by omega : ¬ 10 ≤ k)]
theorem TkInv.next {s : ByteArray} {x : Int} {k : Nat} (h : TkInv s x k) (h10 : ¬ k = 10) (hk : k < s.size) (hc : 128 ≤ s[k].toNat) : TkInv s (nextU x s[k].toNat k) (k + 1) := by
  obtain ⟨a, rfl, ha, h9, e⟩ := h.at h10 hk
  rw [if_pos hc] at e
  have hlt := bytesN_lt s _ (List.getElem_mem (l := bytesN s) (n := k) (by rw [bytesN_length]; exact hk))
  rw [bytesN_get s k hk] at hlt
  refine ⟨hk, ?_⟩
  rcases Nat.lt_or_ge k 9 with g | g
  · have hn := nextU_eq a s[k].toNat k (by omega) ha hlt (by omega)
    have e1 : s[k].toNat % 128 = s[k].toNat - 128 := by omega
    refine .inr ⟨_, hn, ?_, by omega, by rw [e1]; exact e⟩
    rw [e1, pow7]
    have h127 : s[k].toNat - 128 ≤ 127 := by omega
    have hm : (s[k].toNat - 128) * 2 ^ (7 * k) ≤ 127 * 2 ^ (7 * k) := Nat.mul_le_mul h127 (Nat.le_refl _)
    generalize 2 ^ (7 * k) = z at *
    omega
  · obtain rfl : k = 9 := by omega
    exact .inl ⟨rfl, e.symm.trans (vT_ten _ _)⟩
theorem TkInv.bad {s : ByteArray} {x : Int} {k : Nat} (h : TkInv s x k) (h10 : ¬ k = 10) (hk : k < s.size) (hc : ¬ 128 ≤ s[k].toNat) (hb : (0 < k ∧ s[k].toNat = 0) ∨ (k = 9 ∧ 1 < s[k].toNat)) : takeS s = none := by
  obtain ⟨a, rfl, ha, h9, e⟩ := h.at h10 hk
  rw [if_neg hc, if_pos hb] at e
  exact takeS_none e.symm
theorem TkInv.good {s : ByteArray} {x : Int} {k : Nat} (h : TkInv s x k) (h10 : ¬ k = 10) (hk : k < s.size) (hc : ¬ 128 ≤ s[k].toNat) (hb : ¬ ((0 < k ∧ s[k].toNat = 0) ∨ (k = 9 ∧ 1 < s[k].toNat))) : takeS s = some (unzI (nextU x s[k].toNat k), s.extract (k + 1) s.size) := by
  obtain ⟨a, rfl, ha, h9, e⟩ := h.at h10 hk
  rw [if_neg hc, if_neg hb] at e
  have hn := nextU_eq a s[k].toNat k h9 ha (by omega) (fun e => by omega)
  rw [hn, show s[k].toNat % 128 = s[k].toNat by omega, unzI_eq]
  · exact takeS_some e.symm
  · rcases Nat.lt_or_ge k 9 with g | g
    · have h1 := Nat.pow_le_pow_right (n := 2) (by decide) (show 7 * k ≤ 56 by omega)
      have h127 : s[k].toNat ≤ 127 := by omega
      have hm : s[k].toNat * 2 ^ (7 * k) ≤ 127 * 2 ^ (7 * k) := Nat.mul_le_mul h127 (Nat.le_refl _)
      generalize 2 ^ (7 * k) = z at *
      omega
    · obtain rfl : k = 9 := by omega
      have h1' : s[9].toNat ≤ 1 := by omega
      have hm : s[9].toNat * 2 ^ (7 * 9) ≤ 1 * 2 ^ (7 * 9) := Nat.mul_le_mul h1' (Nat.le_refl _)
      omega
section
variable {w0 w : World} {F : List Nat} {L : List Res} {s : ByteArray}
theorem take_ret (hS : St w0 F w L) : Ret Tryz.prog 73 #[.string s] w fun v w' => v = tkV s ∧ St w0 F w' L := by
  refine s73 _ ?_
  unfold m73 m73_0 m73_1 m73_2 m73_3
  refine loop_in (fun u w' => ∃ (x : Int) (k : Nat), u = (.int .u64 x, .int .i64 (k : Int)) ∧ TkInv s x k ∧ St w0 F w' L) (fun u _ => 10 - (intOf u.2).toNat) ⟨0, 0, rfl, ⟨by omega, .inr ⟨0, rfl, by decide, by omega, rfl⟩⟩, hS⟩ ?_
  clear hS
  rintro u w ⟨x, k, rfl, hI, hS⟩
  simp only
  have hk := hI.1
  have hk10 := hI.le
  have bad : ∀ K1 w, takeS s = none → St w0 F w L → m73_16 (fun v w' => v = tkV s ∧ St w0 F w' L) K1 (.int .i64 0) (.string ⟨#[]⟩) (.int .i64 2) w := fun K1 w h hS => by
    unfold m73_16
    refine ⟨?_, hS⟩
    unfold tkV
    rw [h]
  unfold m73_4
  refine builtin_ok (len9 _) ?_
  refine valP_ok (eq3 _ _ _ _ _) ?_
  refine cond_split (fun h => ?_) (fun h => ?_)
  · first | refine pick_dt (by first | assumption | omega) ?_ | refine pick_df (by first | assumption | omega) ?_ | refine pick_t (by first | rfl | assumption) ?_ | refine pick_f (by first | rfl | assumption) ?_ | refine pick_dt rfl ?_ | refine pick_df (not_not_intro rfl) ?_
    unfold m73_15
    refine cond_t rfl ?_
    exact bad _ _ (hI.stop (.inl (by omega))) hS
  · refine valP_ok (eq3 _ _ _ _ _) ?_
    first | refine pick_dt (by first | assumption | omega) ?_ | refine pick_df (by first | assumption | omega) ?_ | refine pick_t (by first | rfl | assumption) ?_ | refine pick_f (by first | rfl | assumption) ?_ | refine pick_dt rfl ?_ | refine pick_df (not_not_intro rfl) ?_
    unfold m73_15
    refine cond_split (fun h1 => ?_) (fun h1 => ?_)
    · exact bad _ _ (hI.stop (.inr (by omega))) hS
    · have hlt : k < s.size := by omega
      have h10 : ¬ k = 10 := by omega
      unfold m73_5
      refine valP_ok (sidx _ hlt) ?_
      unfold m73_6
      refine valP_ok (and8 _ _ _ _ _) ?_
      refine valP_ok (cv8_64 _ _) ?_
      refine valP_ok (mul_ok _ _ _ (by omega) (by omega) _) ?_
      rw [show 7 * (k : Int) = ((7 * k : Nat) : Int) by omega]
      refine valP_ok (shl64 _ _ _ _ (by omega)) ?_
      refine valP_ok (or64 _ _ _ _ _) ?_
      show m73_7 _ _ _ (.int .u64 (nextU x s[k].toNat k)) _ _ _
      unfold m73_7
      refine valP_ok (add_ok _ _ _ (by omega) (by omega) _) ?_
      unfold m73_8
      refine valP_ok (geq_ok _ _ _ _ _ _ _) ?_
      unfold m73_14
      refine cond_split (fun h2 => ?_) (fun h2 => ?_)
      · exact ⟨⟨_, k + 1, rfl, hI.next h10 hlt (by omega), hS⟩, by simp [intOf]; omega⟩
      · have leaf : ∀ t : Bool, (t = true ↔ ((0 < k ∧ s[k].toNat = 0) ∨ (k = 9 ∧ 1 < s[k].toNat))) → ∀ K1, m73_12 (fun v w' => v = tkV s ∧ St w0 F w' L) K1 (.string s) (.int .u64 (nextU x s[k].toNat k)) (.int .i64 ((k : Int) + 1)) (.bool t) w := fun t ht K1 => by
          unfold m73_12
          cases t with
          | true =>
            refine cond_t rfl ?_
            exact bad K1 _ (hI.bad h10 hlt (by omega) (ht.1 rfl)) hS
          | false =>
            have hb : ¬ ((0 < k ∧ s[k].toNat = 0) ∨ (k = 9 ∧ 1 < s[k].toNat)) := fun h => by have := ht.2 h; cases this
            refine cond_f rfl ?_
            unfold m73_10
            refine valQ_ok (shr1 _ _ · _) ?_
            refine valQ_ok (cv64_i · _) ?_
            refine valQ_ok (and64 _ _ · _ _) ?_
            refine valQ_ok (cv64_i · _) ?_
            refine valQ_ok (negI · _) ?_
            refine valQ_ok (xorI _ _ · _ _) ?_
            rw [show (k : Int) + 1 = ((k + 1 : Nat) : Int) by omega]
            refine valQ_ok (fun w => sfrom w (by omega)) ?_
            refine drawn_ok hS ?_
            intro w hS
            unfold m73_11
            refine ⟨?_, hS⟩
            unfold tkV
            rw [hI.good h10 hlt (by omega) hb]
            simp only [unzI, wrap64_eq]
        unfold m73_9
        refine valP_ok (gtr_ok _ _ _ _ _ _ _) ?_
        first | refine cond_split (fun hc0 => ?_) (fun hc0 => ?_) | refine cond_bsplit (fun hc0 => ?_) (fun hc0 => ?_)
        · refine valP_ok (eq5 _ _ _ _ _) ?_
          first | refine pick_dt (by first | assumption | omega) ?_ | refine pick_df (by first | assumption | omega) ?_ | refine pick_t (by first | rfl | assumption) ?_ | refine pick_f (by first | rfl | assumption) ?_ | refine pick_dt rfl ?_ | refine pick_df (not_not_intro rfl) ?_
          first | refine cond_split (fun hc1 => ?_) (fun hc1 => ?_) | refine cond_bsplit (fun hc1 => ?_) (fun hc1 => ?_)
          · first | refine pick_dt (by first | assumption | omega) ?_ | refine pick_df (by first | assumption | omega) ?_ | refine pick_t (by first | rfl | assumption) ?_ | refine pick_f (by first | rfl | assumption) ?_ | refine pick_dt rfl ?_ | refine pick_df (not_not_intro rfl) ?_
            exact leaf _ (by simp only [decide_eq_true_eq, Bool.false_eq_true, false_iff, true_iff] <;> first | contradiction | omega) _
          · refine valP_ok (eq3 _ _ _ _ _) ?_
            first | refine cond_split (fun hc2 => ?_) (fun hc2 => ?_) | refine cond_bsplit (fun hc2 => ?_) (fun hc2 => ?_)
            · refine valP_ok (gtr_ok _ _ _ _ _ _ _) ?_
              first | refine pick_dt (by first | assumption | omega) ?_ | refine pick_df (by first | assumption | omega) ?_ | refine pick_t (by first | rfl | assumption) ?_ | refine pick_f (by first | rfl | assumption) ?_ | refine pick_dt rfl ?_ | refine pick_df (not_not_intro rfl) ?_
              first | refine pick_dt (by first | assumption | omega) ?_ | refine pick_df (by first | assumption | omega) ?_ | refine pick_t (by first | rfl | assumption) ?_ | refine pick_f (by first | rfl | assumption) ?_ | refine pick_dt rfl ?_ | refine pick_df (not_not_intro rfl) ?_
              exact leaf _ (by simp only [decide_eq_true_eq, Bool.false_eq_true, false_iff, true_iff] <;> first | contradiction | omega) _
            · first | refine pick_dt (by first | assumption | omega) ?_ | refine pick_df (by first | assumption | omega) ?_ | refine pick_t (by first | rfl | assumption) ?_ | refine pick_f (by first | rfl | assumption) ?_ | refine pick_dt rfl ?_ | refine pick_df (not_not_intro rfl) ?_
              first | refine pick_dt (by first | assumption | omega) ?_ | refine pick_df (by first | assumption | omega) ?_ | refine pick_t (by first | rfl | assumption) ?_ | refine pick_f (by first | rfl | assumption) ?_ | refine pick_dt rfl ?_ | refine pick_df (not_not_intro rfl) ?_
              exact leaf _ (by simp only [decide_eq_true_eq, Bool.false_eq_true, false_iff, true_iff] <;> first | contradiction | omega) _
        · first | refine pick_dt (by first | assumption | omega) ?_ | refine pick_df (by first | assumption | omega) ?_ | refine pick_t (by first | rfl | assumption) ?_ | refine pick_f (by first | rfl | assumption) ?_ | refine pick_dt rfl ?_ | refine pick_df (not_not_intro rfl) ?_
          first | refine cond_split (fun hc1 => ?_) (fun hc1 => ?_) | refine cond_bsplit (fun hc1 => ?_) (fun hc1 => ?_)
          · first | refine pick_dt (by first | assumption | omega) ?_ | refine pick_df (by first | assumption | omega) ?_ | refine pick_t (by first | rfl | assumption) ?_ | refine pick_f (by first | rfl | assumption) ?_ | refine pick_dt rfl ?_ | refine pick_df (not_not_intro rfl) ?_
            exact leaf _ (by simp only [decide_eq_true_eq, Bool.false_eq_true, false_iff, true_iff] <;> first | contradiction | omega) _
          · refine valP_ok (eq3 _ _ _ _ _) ?_
            first | refine cond_split (fun hc2 => ?_) (fun hc2 => ?_) | refine cond_bsplit (fun hc2 => ?_) (fun hc2 => ?_)
            · refine valP_ok (gtr_ok _ _ _ _ _ _ _) ?_
              first | refine pick_dt (by first | assumption | omega) ?_ | refine pick_df (by first | assumption | omega) ?_ | refine pick_t (by first | rfl | assumption) ?_ | refine pick_f (by first | rfl | assumption) ?_ | refine pick_dt rfl ?_ | refine pick_df (not_not_intro rfl) ?_
              first | refine pick_dt (by first | assumption | omega) ?_ | refine pick_df (by first | assumption | omega) ?_ | refine pick_t (by first | rfl | assumption) ?_ | refine pick_f (by first | rfl | assumption) ?_ | refine pick_dt rfl ?_ | refine pick_df (not_not_intro rfl) ?_
              exact leaf _ (by simp only [decide_eq_true_eq, Bool.false_eq_true, false_iff, true_iff] <;> first | contradiction | omega) _
            · first | refine pick_dt (by first | assumption | omega) ?_ | refine pick_df (by first | assumption | omega) ?_ | refine pick_t (by first | rfl | assumption) ?_ | refine pick_f (by first | rfl | assumption) ?_ | refine pick_dt rfl ?_ | refine pick_df (not_not_intro rfl) ?_
              first | refine pick_dt (by first | assumption | omega) ?_ | refine pick_df (by first | assumption | omega) ?_ | refine pick_t (by first | rfl | assumption) ?_ | refine pick_f (by first | rfl | assumption) ?_ | refine pick_dt rfl ?_ | refine pick_df (not_not_intro rfl) ?_
              exact leaf _ (by simp only [decide_eq_true_eq, Bool.false_eq_true, false_iff, true_iff] <;> first | contradiction | omega) _
end
end Go.Proofs.YtcldjjmfpmkldaaGreatDoor.M
namespace Go.Proofs.YtcldjjmfpmkldaaGreatDoor.F
set_option linter.unusedVariables false
set_option linter.unusedSimpArgs false
open Go Go.RowKit Go.ChangeShapes Go.WideShapes
section
variable {H : Type} {en : TypeId × Value → H} {P : Program} {w : World}
theorem list_of {α β : Type} {p : β → α → Prop} : ∀ (l : List β), (∀ y ∈ l, ∃ x, p y x) → ∃ m : List α, m.length = l.length ∧ ∀ (i : Nat) (h : i < l.length) (h' : i < m.length), p l[i] m[i]
  | [], _ => ⟨[], rfl, fun i h => absurd h (Nat.not_lt_zero _)⟩
  | y :: l, h => by
    obtain ⟨x, hx⟩ := h y (.head _)
    obtain ⟨m, hm, hp⟩ := list_of l (fun y hy => h y (.tail _ hy))
    refine ⟨x :: m, by simp [hm], fun i h1 h2 => ?_⟩
    cases i with
    | zero => exact hx
    | succ i => exact hp i (by simpa using h1) (by simpa using h2)
/-- A slice of elements of k cells each, that are opened by a law. -/
theorem open_rowsE {α : Type} (enc : α → List Value) (Ok : α → Prop) {t e k : Nat} (hk0 : 0 < k) (ht : P.underlying t = some (.slice e)) (hk : P.cellsOf e = k)
    (hel : ∀ n cs y, DataW.trod en P w 0 (fun _ => true) true n e cs = some y → ∃ x, cs = enc x ∧ (enc x).length = k ∧ Ok x) {fuel : Nat} {cs : List Value} {x : DataW H × List MemPlace}
    (h : DataW.trod en P w 0 (fun _ => true) true fuel t cs = some x) : ∃ (A : Option Addr) (c : Nat) (l : List α), cs = [.slice A l.length c] ∧ l.length ≤ c ∧ (A = none → c = 0) ∧ Rd w k A l.length (l.flatMap enc) ∧ ∀ x ∈ l, Ok x := by
  rcases Go.Deep.open_slice ht h with ⟨rfl, _⟩ | ⟨a, len, cap, m, n, D, Pl, rfl, hb, hl, hm, hmm, _, hx⟩
  · exact ⟨none, 0, [], rfl, by simp, fun _ => rfl, Rd.nil_ _ _ _, by simp⟩
  · simp only [if_true] at hmm
    subst hmm
    rw [hk] at hx
    have hx' : ∀ i ∈ List.range len, ∃ x : α, Ok x ∧ (enc x).length = k ∧ ∀ j v, (enc x)[j]? = some v → w.cell? ((a.add (i * k)).add j) = some v := fun i hi => by
      have hi := List.mem_range.1 hi
      obtain ⟨cs', h1, h2⟩ := hx i (by omega)
      obtain ⟨x, rfl, hlen, hok⟩ := hel _ _ _ h2
      obtain ⟨_, _, hc⟩ := World.cells?_some h1
      refine ⟨x, hok, hlen, fun j v hj => ?_⟩
      rw [hc j (by obtain ⟨h, _⟩ := List.getElem?_eq_some_iff.1 hj; omega)]
      exact hj
    obtain ⟨l, hll, hp⟩ := list_of (List.range len) hx'
    rw [List.length_range] at hll
    have hlen : ∀ x ∈ l, (enc x).length = k := fun x hx => by
      obtain ⟨i, hi, rfl⟩ := List.mem_iff_getElem.1 hx
      exact (hp i (by simp; omega) hi).2.1
    have hfl : ∀ m : List α, (∀ x ∈ m, (enc x).length = k) → (m.flatMap enc).length = m.length * k := fun m => by
      induction m with
      | nil => intro _; simp
      | cons a m ih => intro h; rw [List.flatMap_cons, List.length_append, ih (fun x hx => h x (.tail _ hx)), h a (.head _), List.length_cons, Nat.succ_mul, Nat.add_comm]
    have hget : ∀ (m : List α), (∀ x ∈ m, (enc x).length = k) → ∀ q v, (m.flatMap enc)[q]? = some v → ∃ (i j : Nat) (h : i < m.length), q = i * k + j ∧ (enc m[i])[j]? = some v := fun m => by
      induction m with
      | nil => intro _ q v h; simp at h
      | cons a m ih =>
        intro h q v hq
        rw [List.flatMap_cons] at hq
        by_cases hqk : q < k
        · rw [List.getElem?_append_left (by rw [h a (.head _)]; exact hqk)] at hq
          exact ⟨0, q, by simp, by simp, hq⟩
        · rw [List.getElem?_append_right (by rw [h a (.head _)]; omega), h a (.head _)] at hq
          obtain ⟨i, j, hi, he, hv⟩ := ih (fun x hx => h x (.tail _ hx)) _ v hq
          exact ⟨i + 1, j, by simpa using hi, by rw [Nat.succ_mul]; omega, hv⟩
    refine ⟨some a, m, l, (by rw [hll]), (by omega), (fun h => (by cases h)), ⟨hfl l hlen, fun hp0 => ?_⟩, fun x hx => ?_⟩
    · have h0 : 0 < l.length := by
        rcases Nat.eq_zero_or_pos l.length with h | h
        · rw [List.eq_nil_of_length_eq_zero h] at hp0; simp at hp0
        · exact h
      obtain ⟨b, o, spot⟩ := a
      obtain ⟨cs', c1, _⟩ := hx 0 (by omega)
      obtain ⟨_, c2, c3⟩ := World.cells?_some c1
      have hv := c3 0 hk0
      rw [Nat.zero_mul, List.getElem?_eq_getElem (by omega)] at hv
      have hspot : spot = none := by simpa [Addr.add] using World.cell?_spot hv
      subst hspot
      refine ⟨b, o, rfl, fun q u hq => ?_⟩
      obtain ⟨i, j, hi, rfl, hv⟩ := hget l hlen q u hq
      have := (hp i (by simp; omega) hi).2.2 j u hv
      rw [List.getElem_range, add_none, add_none, Nat.add_assoc] at this
      exact this
    · obtain ⟨i, hi, rfl⟩ := List.mem_iff_getElem.1 hx
      exact (hp i (by simp; omega) hi).1
/-- A struct's fields, where they lie. -/
theorem open_structE {t : Nat} {fs : Array Field} (hs : P.underlying t = some (.struct fs)) {fuel : Nat} {cs : List Value} {x : DataW H × List MemPlace} (h : DataW.trod en P w 0 (fun _ => true) true fuel t cs = some x) :
    cs.length = P.cellsOf t ∧ ∀ (i ft off k : Nat), (fs[i]?).map (fun f => (f.type, f.offset)) = some (ft, off) → P.cellsOf ft = k → ∃ n y, DataW.trod en P w 0 (fun _ => true) true n ft ((cs.drop off).take k) = some y := by
  obtain ⟨xs, n, _, _, hl, hxl, hf⟩ := DataW.trod_struct hs h
  refine ⟨hl, fun i ft off k hi hk => ?_⟩
  cases hfi : fs[i]? with
  | none => rw [hfi] at hi; cases hi
  | some f =>
    rw [hfi] at hi
    simp only [Option.map_some, Option.some.injEq, Prod.mk.injEq] at hi
    obtain ⟨rfl, rfl⟩ := hi
    have h1 := hf i f hfi
    have hlt : i < xs.length := by rw [hxl]; exact (Array.getElem?_eq_some_iff.1 hfi).1
    rw [List.getElem?_eq_getElem hlt, hk] at h1
    exact ⟨n, _, h1⟩
end
end Go.Proofs.YtcldjjmfpmkldaaGreatDoor.F
namespace Go.Proofs.YtcldjjmfpmkldaaGreatDoor.F
set_option linter.unusedVariables false
set_option linter.unusedSimpArgs false
open Go Go.RowKit Go.ChangeShapes Go.WideShapes
/-- Each string, slice and map of this data is one of a machine's. -/
def Sz {H : Type} (P : Program) (t : TypeId) (d : DataW H) : Prop := ∀ n ∈ d.weights P t, n ≤ reachBytes
section
variable {H : Type} {en : TypeId × Value → H} {P : Program} {w : World}
theorem Sz.string {t : TypeId} {s : ByteArray} (h : Sz P t (.lit (.string s.data.toList) : DataW H)) : s.size ≤ reachBytes := by
  have := h s.data.toList.length (by simp [DataW.weights])
  simpa using this
end
def Hs (w0 : World) (F : List Nat) (L : List Res) (w : World) : Prop := ∃ L', St w0 F w L' ∧ ∀ r ∈ L, r ∈ L'
section
variable {w0 w : World} {F : List Nat} {L L' : List Res}
theorem Hs.of (hS : St w0 F w L') (h : ∀ r ∈ L, r ∈ L') : Hs w0 F L w := ⟨L', hS, h⟩
theorem held_Hs {G : (World → Prop) → Prop} (hS : St w0 F w L) (h : G (Hs w0 F L)) : heldP w G := ⟨Hs w0 F L, ⟨L, hS, fun _ h => h⟩, h⟩
theorem stay_Hs {A : Prop} (hS : St w0 F w L') (hs : ∀ r ∈ L, r ∈ L') (h : A) : stayP (Hs w0 F L) w A := ⟨⟨L', hS, hs⟩, h⟩
theorem Hs.cell (k : Nat) {b i : Nat} {t : TypeId} {cs : List Value} {v : Value} (hk : L[k]? = some (Res.cells b t cs)) (hi : cs[i]? = some v) (w : World) (h : Hs w0 F L w) : w.cell? ⟨b, i, none⟩ = some v := by
  obtain ⟨L', hS, hL⟩ := h
  obtain ⟨j, hj⟩ := List.mem_iff_getElem?.1 (hL _ (List.mem_of_getElem? hk))
  exact hS.cell j hj hi
theorem Hs.row_cell (k : Nat) {e size g n c j : Nat} {xs : List Value} {u : Value} (hk : L[k]? = some (Res.row e size (.slice (some ⟨g, 0, none⟩) n c) n xs)) (hj : xs[j]? = some u) (w : World) (h : Hs w0 F L w) : w.cell? ⟨g, j, none⟩ = some u := by
  obtain ⟨L', hS, hL⟩ := h
  obtain ⟨i, hi⟩ := List.mem_iff_getElem?.1 (hL _ (List.mem_of_getElem? hk))
  exact hS.row_cell i hi hj
theorem Hs.rd {size n : Nat} {A : Option Addr} {xs : List Value} (hb : Bes w0 F L size A n xs) (w : World) (h : Hs w0 F L w) : Rd w size A n xs := by
  obtain ⟨L', hS, hL⟩ := h
  exact hb w L' hS hL
theorem Bes.cons {size n : Nat} {A : Option Addr} {xs : List Value} (h : Bes w0 F L size A n xs) (a : Res) : Bes w0 F (a :: L) size A n xs := h.mono fun r hr => .tail _ hr
end
/-- append of one element that was built for it. -/
theorem append_one1 {α : Type} {enc : α → List Value} {P : Program} {w0 w : World} {F : List Nat} {L : List Res} {K : Value → World → Prop} (k : Nat) {t e ty size bytes b c : Nat} {z : Value} {cs : Array Bool} {A : Option Addr} {l : List α} (x : α) (hT : SlT P t e size bytes z) (hk : ∀ x, (enc x).length = size) (h1 : ∀ x, ∀ u ∈ enc x, u.oneCell' = true) (hm : l.length + 1 ≤ maxLen) (hb : (l.length + 1) * bytes ≤ 140737488355328)
    (hS : St w0 F w (Res.cells b e (enc x) :: L)) (hq : L[k]? = some (Res.row e size (.slice A l.length c) l.length (l.flatMap enc)))
    (h : ∀ A' c' w', St w0 F w' (L.set k (Res.row e size (.slice A' (l ++ [x]).length c') (l ++ [x]).length ((l ++ [x]).flatMap enc))) → K (.slice A' (l ++ [x]).length c') w') : builtinP P .append #[t, t] ty cs #[.slice A l.length c, .slice (some ⟨b, 0, none⟩) 1 1] w K := by
  refine append_ok (k + 1) hT hS (by rw [List.getElem?_cons_succ]; exact hq) (news := enc x) (m := 1) (by rw [hk, Nat.one_mul]) (fun j u hj => ?_) (h1 x) hm hb ?_
  · rw [add_none, Nat.zero_add]
    exact hS.cell 0 rfl hj
  · intro A' c' w' hS'
    rw [List.set_cons_succ] at hS'
    have e1 : l.flatMap enc ++ enc x = (l ++ [x]).flatMap enc := by simp
    have e2 : l.length + 1 = (l ++ [x]).length := by simp
    rw [e1, e2] at hS'
    rw [e2]
    exact h A' c' w' hS'.tail
theorem flatS_take {α : Type} {enc : α → List Value} {size : Nat} (hk : ∀ x, (enc x).length = size) : ∀ (l : List α) (k : Nat), (l.take k).flatMap enc = (l.flatMap enc).take (k * size)
  | [], k => by simp
  | a :: l, 0 => by simp
  | a :: l, k + 1 => by
    rw [List.take_succ_cons, List.flatMap_cons, List.flatMap_cons, flatS_take hk l k, List.take_append, hk, Nat.succ_mul, List.take_of_length_le (l := enc a) (by rw [hk]; omega), show k * size + size - size = k * size by omega]
theorem flatS_drop {α : Type} {enc : α → List Value} {size : Nat} (hk : ∀ x, (enc x).length = size) : ∀ (l : List α) (k : Nat), (l.drop k).flatMap enc = (l.flatMap enc).drop (k * size)
  | [], k => by simp
  | a :: l, 0 => by simp
  | a :: l, k + 1 => by
    rw [List.drop_succ_cons, List.flatMap_cons, flatS_drop hk l k, List.drop_append, hk, Nat.succ_mul, List.drop_of_length_le (l := enc a) (by rw [hk]; omega), show k * size + size - size = k * size by omega, List.nil_append]
theorem Rd.takeS {α : Type} {enc : α → List Value} {size : Nat} {w : World} {A : Option Addr} {l : List α} (hk : ∀ x, (enc x).length = size) (k : Nat) (h : Rd w size A l.length (l.flatMap enc)) : Rd w size A (l.take k).length ((l.take k).flatMap enc) := by
  have hl : (l.flatMap enc).length = l.length * size := h.1
  refine ⟨by rw [flat_len enc size hk], fun hp => ?_⟩
  have h0 : 0 < (l.flatMap enc).length := by
    rw [flatS_take hk, List.length_take] at hp
    omega
  obtain ⟨g, o, hA, hc⟩ := h.2 h0
  refine ⟨g, o, hA, fun j u hj => hc j u ?_⟩
  rw [flatS_take hk, List.getElem?_take] at hj
  split at hj
  · exact hj
  · cases hj
theorem Rd.dropS {α : Type} {enc : α → List Value} {size c : Nat} {w : World} {A : Option Addr} {l : List α} (hk : ∀ x, (enc x).length = size) {k : Nat} (hkl : k ≤ l.length) (hc : l.length ≤ c) (h : Rd w size A l.length (l.flatMap enc)) : Rd w size (if c = k then A else A.map (·.add (k * size))) (l.drop k).length ((l.drop k).flatMap enc) := by
  refine ⟨by rw [flat_len enc size hk], fun hp => ?_⟩
  rw [flat_len enc size hk, List.length_drop] at hp
  have hne : k ≠ l.length := fun e => by subst e; simp at hp
  have h0 : 0 < (l.flatMap enc).length := by
    rw [h.1]
    refine Nat.mul_pos (by omega) ?_
    rcases Nat.eq_zero_or_pos size with e | e
    · rw [e] at hp; simp at hp
    · exact e
  obtain ⟨g, o, hA, hcell⟩ := h.2 h0
  subst hA
  rw [if_neg (by omega)]
  refine ⟨g, o + k * size, by simp [add_none], fun j u hj => ?_⟩
  rw [flatS_drop hk, List.getElem?_drop] at hj
  rw [Nat.add_assoc]
  exact hcell _ _ hj
theorem St.sub {w0 w : World} {F : List Nat} {L L' : List Res} (h : St w0 F w L) (hs : List.Sublist L' L) : St w0 F w L' :=
  ⟨h.chg, fun r hr => h.H r (hs.mem hr), fun r hr => h.lt r (hs.mem hr), fun r hr => h.own r (hs.mem hr), h.apart.sublist hs⟩
theorem St.mid {w0 w : World} {F : List Nat} {A B C : List Res} (h : St w0 F w (A ++ (B ++ C))) : St w0 F w (A ++ C) := h.sub (List.Sublist.append (.refl A) (List.sublist_append_right B C))
end Go.Proofs.YtcldjjmfpmkldaaGreatDoor.F
namespace Go.Proofs.YtcldjjmfpmkldaaGreatDoor.M
open Go.Proofs.YtcldjjmfpmkldaaGreatDoor.F Go.RowKit
set_option linter.unusedVariables false
set_option linter.unusedSimpArgs false
set_option maxRecDepth 100000
set_option maxHeartbeats 2000000
attribute [local irreducible] Res.cells Res.row Res.map Res.any World.cell? World.frozen? Instr.fieldAt Instr.loadAt Instr.storeAt Instr.indexAt Instr.lookup Instr.mapUpdate Instr.box Instr.build Instr.buildSlice Instr.extract Instr.alloc Instr.field Instr.index Instr.sliceAt Instr.makeSlice Instr.makeMap Instr.makeFunc binS Op.unary Sem.run
section
variable (x y : Operand) (w : World)
theorem mulu (a b : Int) : (binS .mul 117 x y (.int .u64 a) (.int .u64 b)).run Tryz.prog w = .ok (.int .u64 (IntKind.u64.wrap (a * b))) w := by
  rw [binS_run _ _ _ _ _ _ (by kernel_rfl)]; simp [go_sem, binOp]
theorem addu (a b : Int) : (binS .add 117 x y (.int .u64 a) (.int .u64 b)).run Tryz.prog w = .ok (.int .u64 (IntKind.u64.wrap (a + b))) w := by
  rw [binS_run _ _ _ _ _ _ (by kernel_rfl)]; simp [go_sem, binOp]
theorem remu (a b : Nat) (hb : 0 < b) (ha : a < 2 ^ 64) : (binS .rem 117 x y (.int .u64 (a : Int)) (.int .u64 (b : Int))).run Tryz.prog w = .ok (.int .u64 ((a % b : Nat) : Int)) w := by
  rw [binS_run _ _ _ _ _ _ (by kernel_rfl)]
  have hne : ¬ (b : Int) = 0 := by omega
  have hne' : ¬ b = 0 := by omega
  have h1 : Int.tmod (a : Int) (b : Int) = ((a % b : Nat) : Int) := by rw [Int.tmod_eq_emod_of_nonneg (by omega)]; norm_cast
  have h2 : a % b ≤ a := Nat.mod_le _ _
  have h3 : IntKind.u64.wrap ((a % b : Nat) : Int) = ((a % b : Nat) : Int) := by
    generalize a % b = q at *
    exact wraps_u64 _ (by omega) (by omega)
  simp [go_sem, binOp, hne, hne', h1, h3, -Int.natCast_emod]
theorem quou (a b : Nat) (hb : 0 < b) (ha : a < 2 ^ 64) : (binS .quo 117 x y (.int .u64 (a : Int)) (.int .u64 (b : Int))).run Tryz.prog w = .ok (.int .u64 ((a / b : Nat) : Int)) w := by
  rw [binS_run _ _ _ _ _ _ (by kernel_rfl)]
  have hne : ¬ (b : Int) = 0 := by omega
  have hne' : ¬ b = 0 := by omega
  have h1 : Int.tdiv (a : Int) (b : Int) = ((a / b : Nat) : Int) := by rw [Int.tdiv_eq_ediv_of_nonneg (by omega)]; norm_cast
  have h2 : a / b ≤ a := Nat.div_le_self _ _
  have h3 : IntKind.u64.wrap ((a / b : Nat) : Int) = ((a / b : Nat) : Int) := by
    generalize a / b = q at *
    exact wraps_u64 _ (by omega) (by omega)
  simp [go_sem, binOp, hne, hne', h1, h3, -Int.natCast_ediv]
end
theorem or128 (u : Nat) : Go.bits .or .u8 ((u : Int) % 256) 128 = ((u % 128 + 128 : Nat) : Int) := by
  have e1 : ((u : Int) % 256) = ((u % 256 : Nat) : Int) := by omega
  rw [e1, show (128 : Int) = ((128 : Nat) : Int) from rfl, (bits_nat .u8 8 (by decide) wraps_u8 (u % 256) 128 (by omega) (by omega)).2]
  congr 1
  have h : u % 256 % 128 = u % 128 := by omega
  by_cases h2 : u % 256 < 128
  · have := Nat.two_pow_add_eq_or_of_lt (i := 7) (b := u % 256) h2 1
    rw [show 2 ^ 7 * 1 = 128 from rfl] at this
    rw [Nat.or_comm]
    omega
  · have := Nat.two_pow_add_eq_or_of_lt (i := 7) (b := u % 256 - 128) (by omega) 1
    rw [show 2 ^ 7 * 1 = 128 from rfl] at this
    have e3 : u % 256 = 128 ||| (u % 256 - 128) := by omega
    rw [e3, Nat.or_comm, ← Nat.or_assoc, Nat.or_self]
    omega
abbrev e8 (l : List Nat) : List Value := l.map fun (c : Nat) => .int .u8 (c : Int)
theorem e8_set (l : List Nat) (k c : Nat) : (e8 l).set k (.int .u8 (c : Int)) = e8 (l.set k c) := by
  unfold e8
  rw [List.map_set]
theorem e8_get {l rest : List Nat} {i : Nat} (hi : i < l.length) : (e8 (l ++ rest))[i]? = some (.int .u8 (l[i] : Int)) := by
  unfold e8
  rw [List.getElem?_map, List.getElem?_append_left hi, List.getElem?_eq_getElem hi]
  rfl
theorem lebN_pos (u : Nat) : 1 ≤ (lebN u).length := by
  by_cases h : u < 128
  · rw [lebN_lo h]; simp
  · rw [lebN_hi h]; simp
theorem set_mid (out : List Nat) (r c : Nat) (rest : List Nat) : (out ++ r :: rest).set out.length c = (out ++ [c]) ++ rest := by
  rw [List.set_append_right _ _ (Nat.le_refl _), Nat.sub_self]
  simp
theorem strOf_run {w : World} {b n c : Nat} {l : List Nat} (hn : n = l.length) (h : ∀ i (hi : i < l.length), w.cell? ⟨b, i, none⟩ = some (.int .u8 (l[i] : Int))) :
    (convert 97 9 (.slice (some ⟨b, 0, none⟩) n c)).run Tryz.prog w = .ok (.string (strN l)) w := by
  refine run_convert_bytes_arg (P := Tryz.prog) w 97 5 Tryz.underlying97 Tryz.underlying5 b 0 n c (ints l) (by rw [hn]; simp [ints]) (fun i hi => ?_) 9 Tryz.underlying9
  have hi' : i < l.length := by omega
  rw [Nat.zero_add, h i hi']
  simp [ints, List.getD, hi']
theorem zzI64 {n : Int} (h : -9223372036854775808 ≤ n ∧ n ≤ 9223372036854775807) : Go.bits .xor .u64 (IntKind.u64.wrap (IntKind.u64.wrap n * 2)) (IntKind.u64.wrap (n / 9223372036854775808)) = ((zz n : Nat) : Int) := zzI_eq n h.1 h.2
section
variable {w0 w : World} {F : List Nat} {L : List Res}
theorem put_ret {n : Int} (hn : -9223372036854775808 ≤ n ∧ n ≤ 9223372036854775807) (hS : St w0 F w L) : Ret Tryz.prog 59 #[.int .i64 n] w fun v w' => v = .string (putS n) ∧ St w0 F w' L := by
  have hz := zz_lt n hn.1 hn.2
  have hl10 := lebN_len (zz n) hz
  refine s59 _ ?_
  unfold m59 m59_0 m59_1
  refine valP_ok (cvi_64 _ _) ?_
  refine valP_ok (shl1 _ _ _ _) ?_
  refine valP_ok (shr63 _ _ _ _) ?_
  refine valP_ok (cvi_64 _ _) ?_
  refine valP_ok (xor64 _ _ _ _ _) ?_
  rw [zzI64 hn]
  unfold m59_2
  refine new_ok (al127 _) hS ?_
  intro b4 w hS
  unfold m59_3 m59_4
  refine loop_in (fun s w' => ∃ (u : Nat) (out rest : List Nat), s = (.int .u64 (u : Int), .int .i64 (out.length : Int)) ∧ u < 2 ^ 64 ∧ out ++ lebN u = lebN (zz n) ∧ out.length + rest.length = 10 ∧ St w0 F w' (Res.cells b4 127 (e8 (out ++ rest)) :: L)) (fun s _ => 10 - (intOf s.2).toNat) ⟨zz n, [], [0, 0, 0, 0, 0, 0, 0, 0, 0, 0], rfl, hz, rfl, rfl, hS⟩ ?_
  clear hS
  rintro s w ⟨u, out, rest, rfl, hu, ho, hlen, hS⟩
  simp only
  have hp := lebN_pos u
  have hl := congrArg List.length ho
  rw [List.length_append] at hl
  obtain ⟨r, rest, rfl⟩ : ∃ r rest', rest = r :: rest' := by
    cases rest with
    | nil => simp at hlen; omega
    | cons r rest => exact ⟨r, rest, rfl⟩
  have hk : out.length < (e8 (out ++ r :: rest)).length := by simp
  have hk10 : out.length < 10 := by omega
  unfold m59_8
  refine valP_ok (geq_ok _ _ _ _ _ _ _) ?_
  unfold m59_12
  refine cond_split (fun h => ?_) (fun h => ?_)
  · have h1 := lebN_hi (u := u) (by omega)
    unfold m59_9
    refine valP_ok (cv64_8 _ _) ?_
    rw [IntKind.wrap_u8]
    refine valP_ok (or8 _ _ _ _ _) ?_
    rw [or128]
    refine valP_ok (iarr _ hk10) ?_
    refine store_at 0 st5 hS rfl hk rfl ?_
    intro w hS
    simp only [List.set_cons_zero] at hS
    rw [e8_set, set_mid] at hS
    unfold m59_11
    refine valP_ok (shr7 _ _ _ _) ?_
    rw [show (u : Int) / 128 = ((u / 128 : Nat) : Int) by omega]
    unfold m59_10
    refine valP_ok (add_ok _ _ _ (by omega) (by omega) _) ?_
    refine ⟨⟨u / 128, out ++ [u % 128 + 128], rest, by simp, by omega, ?_, by simp at hlen ⊢; omega, hS⟩, by simp [intOf]; omega⟩
    rw [List.append_assoc, List.singleton_append, ← h1, ho]
  · have h1 := lebN_lo (u := u) (by omega)
    unfold m59_5
    refine valP_ok (cv64_8 _ _) ?_
    rw [IntKind.wrap_u8, show (u : Int) % 256 = ((u : Nat) : Int) by omega]
    refine valP_ok (iarr _ hk10) ?_
    refine store_at 0 st5 hS rfl hk rfl ?_
    intro w hS
    simp only [List.set_cons_zero] at hS
    rw [e8_set, set_mid] at hS
    unfold m59_6
    refine valP_ok (add_ok _ _ _ (by omega) (by omega) _) ?_
    rw [show (out.length : Int) + 1 = ((out.length + 1 : Nat) : Int) by omega]
    refine valP_ok (sarr _ (by omega)) ?_
    refine valP_ok (strOf_run (l := out ++ [u]) (by simp) (fun i hi => hS.cell 0 rfl (e8_get hi))) ?_
    unfold m59_7
    refine ⟨?_, hS.tail⟩
    unfold putS
    rw [← ho, h1]
abbrev r8 (A : Option Addr) (c : Nat) (l : List Nat) : Res := Res.row 5 1 (.slice A l.length c) l.length (l.flatMap fun (c : Nat) => [.int .u8 (c : Int)])
theorem flat8 (l : List Nat) : (l.flatMap fun (c : Nat) => [Value.int .u8 (c : Int)]) = e8 l := by
  induction l with
  | nil => rfl
  | cons c l ih => rw [List.flatMap_cons, ih]; rfl
theorem rput_ret {n : Int} (hn : -9223372036854775808 ≤ n ∧ n ≤ 9223372036854775807) (hS : St w0 F w L) : Ret Tryz.prog 37 #[.int .i64 n] w fun v w' => v = .string (putS n) ∧ St w0 F w' L := by
  have hz := zz_lt n hn.1 hn.2
  have hl10 := lebN_len (zz n) hz
  have main : m37_3 (fun v w' => v = .string (putS n) ∧ St w0 F w' L) (.int .u64 (zz n : Int)) w := by
    unfold m37_3 m37_4
    refine loop_in (fun s w' => ∃ (u : Nat) (out : List Nat) (A : Option Addr) (c : Nat), s = (.int .u64 (u : Int), .slice A out.length c) ∧ u < 2 ^ 64 ∧ out ++ lebN u = lebN (zz n) ∧ St w0 F w' (r8 A c out :: L)) (fun s _ => (intOf s.1).toNat) ⟨zz n, [], none, 0, rfl, hz, rfl, hS.row_nil 5 1⟩ ?_
    clear hS
    rintro s w ⟨u, out, A, c, rfl, hu, ho, hS⟩
    simp only
    have hp := lebN_pos u
    have hl := congrArg List.length ho
    rw [List.length_append] at hl
    unfold m37_8
    refine valP_ok (gtr_ok _ _ _ _ _ _ _) ?_
    unfold m37_11
    refine cond_split (fun h => ?_) (fun h => ?_)
    · have h1 := lebN_hi (u := u) (by omega)
      unfold m37_9
      refine valP_ok (remu _ _ _ u 128 (by omega) hu) ?_
      refine valP_ok (addu _ _ _ _ _) ?_
      rw [wraps_u64 _ (by omega) (by omega)]
      refine valP_ok (cv64_8 _ _) ?_
      rw [IntKind.wrap_u8, show (((u % 128 : Nat) : Int) + 128) % 256 = ((u % 128 + 128 : Nat) : Int) by omega]
      refine newslice_ok (bs97_1 rfl _) hS ?_
      intro b23 w hS
      refine append_one1 (enc := fun (c : Nat) => [.int .u8 (c : Int)]) 0 (u % 128 + 128) sl97 (fun _ => rfl) (fun _ v hv => by obtain rfl := List.mem_singleton.1 hv; rfl) (by unfold maxLen; omega) (by omega) hS rfl ?_
      intro A' c' w' hS
      simp only [List.set_cons_zero] at hS
      unfold m37_10
      refine valP_ok (quou _ _ _ u 128 (by omega) hu) ?_
      refine ⟨⟨u / 128, _, A', c', rfl, by omega, ?_, hS⟩, by simp [intOf]; omega⟩
      rw [List.append_assoc, List.singleton_append, ← h1, ho]
    · have h1 := lebN_lo (u := u) (by omega)
      unfold m37_5
      refine valP_ok (cv64_8 _ _) ?_
      rw [IntKind.wrap_u8, show (u : Int) % 256 = ((u : Nat) : Int) by omega]
      refine newslice_ok (bs97_1 rfl _) hS ?_
      intro b30 w hS
      refine append_one1 (enc := fun (c : Nat) => [.int .u8 (c : Int)]) 0 u sl97 (fun _ => rfl) (fun _ v hv => by obtain rfl := List.mem_singleton.1 hv; rfl) (by unfold maxLen; omega) (by omega) hS rfl ?_
      intro A' c' w' hS
      simp only [List.set_cons_zero] at hS
      obtain ⟨g, rfl⟩ := hS.row_ptr 0 rfl (by simp)
      unfold m37_6
      refine valP_ok (strOf_run (l := out ++ [u]) rfl (fun i hi => hS.row_cell 0 rfl (by have := e8_get (rest := []) hi; rw [List.append_nil] at this; rw [flat8]; exact this))) ?_
      unfold m37_7
      refine ⟨?_, hS.tail⟩
      unfold putS
      rw [← ho, h1]
  refine s37 _ ?_
  unfold m37 m37_0 m37_1
  refine valP_ok (cvi_64 _ _) ?_
  refine valP_ok (mulu _ _ _ _ _) ?_
  unfold m37_2
  refine valP_ok (lss_ok _ _ _ _ _ _ _) ?_
  unfold m37_12
  refine cond_split (fun h => ?_) (fun h => ?_)
  · refine valP_ok (add_ok _ _ _ (by omega) (by omega) _) ?_
    refine valP_ok (negI _ _) ?_
    refine valP_ok (cvi_64 _ _) ?_
    refine valP_ok (mulu _ _ _ _ _) ?_
    refine valP_ok (addu _ _ _ _ _) ?_
    have e : IntKind.u64.wrap (IntKind.u64.wrap (IntKind.u64.wrap (IntKind.i64.wrap (-(n + 1))) * 2) + 1) = ((zz n : Nat) : Int) := by
      unfold zz
      rw [if_neg (by omega), IntKind.wrap_i64, wrap_u64, wrap_u64, wrap_u64]
      omega
    rw [e]
    exact main
  · have e : IntKind.u64.wrap (IntKind.u64.wrap n * 2) = ((zz n : Nat) : Int) := by
      unfold zz
      rw [if_pos (by omega), wrap_u64, wrap_u64]
      omega
    rw [e]
    exact main
end
end Go.Proofs.YtcldjjmfpmkldaaGreatDoor.M
namespace Go.Proofs.YtcldjjmfpmkldaaGreatDoor.M
open Go.Proofs.YtcldjjmfpmkldaaGreatDoor.F Go.RowKit
set_option linter.unusedVariables false
set_option linter.unusedSimpArgs false
set_option maxRecDepth 100000
set_option maxHeartbeats 2000000
attribute [local irreducible] Res.cells Res.row Res.map Res.any World.cell? World.frozen? Instr.fieldAt Instr.loadAt Instr.storeAt Instr.indexAt Instr.lookup Instr.mapUpdate Instr.box Instr.build Instr.buildSlice Instr.extract Instr.alloc Instr.field Instr.index Instr.sliceAt Instr.makeSlice Instr.makeMap Instr.makeFunc binS Op.unary Sem.run
def hn : List Nat → Nat
  | [] => 0
  | b :: t => (hn t * 128 + b % 128) % 2 ^ 64
theorem takeS_L (s : ByteArray) : takeS s = (takeL (bytesN s)).map fun p => (p.1, strN p.2) := by
  unfold takeS takeL
  cases vT 0 0 (bytesN s) <;> rfl
section
variable {w0 w : World} {F : List Nat} {L : List Res} {s : ByteArray}
end
end Go.Proofs.YtcldjjmfpmkldaaGreatDoor.M
namespace Go.Proofs.YtcldjjmfpmkldaaGreatDoor.M
open Go.Proofs.YtcldjjmfpmkldaaGreatDoor.F Go.RowKit
set_option linter.unusedVariables false
set_option linter.unusedSimpArgs false
set_option maxRecDepth 100000
set_option maxHeartbeats 2000000
attribute [local irreducible] Res.cells Res.row Res.map Res.any World.cell? World.frozen? Instr.fieldAt Instr.loadAt Instr.storeAt Instr.indexAt Instr.lookup Instr.mapUpdate Instr.box Instr.build Instr.buildSlice Instr.extract Instr.alloc Instr.field Instr.index Instr.sliceAt Instr.makeSlice Instr.makeMap Instr.makeFunc binS Op.unary Sem.run
structure Rc where
  key : Int
  time : Int
  text : ByteArray
abbrev encR (r : Rc) : List Value := [.int .i64 r.key, .int .i64 r.time, .string r.text]
abbrev rv (r : Rc) : Value := .agg #[.int .i64 r.key, .int .i64 r.time, .string r.text]
/-- with which number a text begins; -1: none of these. -/
def kindS (s : ByteArray) : Int := match takeS s with
  | none => -1
  | some (n, _) => if 0 ≤ n ∧ n ≤ 2 then n else -1
abbrev countsS : ByteArray := ⟨#[99, 111, 117, 110, 116, 115]⟩
def aboutR (r : Rc) : Option Rc := if kindS r.text < 0 then none else if kindS r.text = 0 then some ⟨0, 0, countsS⟩ else some ⟨r.key, r.time, ⟨#[]⟩⟩
def SameR (a b : Rc) : Prop := 0 ≤ kindS a.text ∧ 0 ≤ kindS b.text ∧ (if kindS a.text = 0 ∨ kindS b.text = 0 then kindS a.text = kindS b.text else a.key = b.key ∧ a.time = b.time)
theorem counts_ne (k t : Int) : (⟨0, 0, countsS⟩ : Rc) ≠ ⟨k, t, ⟨#[]⟩⟩ := fun h => by
  have h1 := congrArg (fun r : Rc => r.text.size) h
  have h2 : (6 : Nat) = 0 := h1
  omega
theorem same_about (a b : Rc) : SameR a b ↔ ∃ x, aboutR a = some x ∧ aboutR b = some x := by
  unfold SameR aboutR
  generalize kindS a.text = p
  generalize kindS b.text = q
  constructor
  · rintro ⟨h1, h2, h3⟩
    rw [if_neg (show ¬ p < 0 by omega), if_neg (show ¬ q < 0 by omega)]
    by_cases hp : p = 0
    · rw [if_pos (.inl hp)] at h3
      rw [if_pos hp, if_pos (show q = 0 by omega)]
      exact ⟨_, rfl, rfl⟩
    · by_cases hq : q = 0
      · rw [if_pos (.inr hq)] at h3
        omega
      · rw [if_neg (by omega)] at h3
        rw [if_neg hp, if_neg hq, h3.1, h3.2]
        exact ⟨_, rfl, rfl⟩
  · rintro ⟨x, h1, h2⟩
    by_cases ha : p < 0
    · rw [if_pos ha] at h1; cases h1
    · by_cases hb : q < 0
      · rw [if_pos hb] at h2; cases h2
      · rw [if_neg ha] at h1
        rw [if_neg hb] at h2
        refine ⟨by omega, by omega, ?_⟩
        have h3 := h1.trans h2.symm
        by_cases ha0 : p = 0
        · rw [if_pos (.inl ha0)]
          by_cases hb0 : q = 0
          · rw [ha0, hb0]
          · rw [if_pos ha0, if_neg hb0] at h3
            exact absurd (Option.some.inj h3) (counts_ne _ _)
        · by_cases hb0 : q = 0
          · rw [if_neg ha0, if_pos hb0] at h3
            exact absurd (Option.some.inj h3).symm (counts_ne _ _)
          · rw [if_neg (by omega)]
            rw [if_neg ha0, if_neg hb0] at h3
            have h4 := Rc.mk.inj (Option.some.inj h3)
            exact ⟨h4.1, h4.2.1⟩
section
variable {w0 w : World} {F : List Nat} {L : List Res}
theorem about_ret {r : Rc} (hS : St w0 F w L) : Ret Tryz.prog 76 #[rv r] w fun v w' => v = .tuple #[rv ((aboutR r).getD ⟨0, 0, ⟨#[]⟩⟩), .bool (aboutR r).isSome] ∧ St w0 F w' L := by
  have bad : ∀ n : Int, ∀ w b1 b2, aboutR r = none → St w0 F w (Res.cells b2 56 (encR ⟨0, 0, ⟨#[]⟩⟩) :: Res.cells b1 56 (encR r) :: L) → m76_5 (fun v w' => v = .tuple #[rv ((aboutR r).getD ⟨0, 0, ⟨#[]⟩⟩), .bool (aboutR r).isSome] ∧ St w0 F w' L) (.pointer (some ⟨b1, 0, none⟩)) (.pointer (some ⟨b2, 0, none⟩)) (.int .i64 n) (.bool true) w := fun n w b1 b2 hn hS => by
    unfold m76_5
    refine cond_t rfl ?_
    refine valP_ok (bd56 _) ?_
    first | refine ss56 0 hS rfl rfl rfl rfl ?_ | refine ss56 1 hS rfl rfl rfl rfl ?_ | refine ss56 2 hS rfl rfl rfl rfl ?_ | refine ss56 3 hS rfl rfl rfl rfl ?_ | refine ss56 4 hS rfl rfl rfl rfl ?_ | refine ss56 5 hS rfl rfl rfl rfl ?_ | refine ss56 6 hS rfl rfl rfl rfl ?_ | refine ss56 7 hS rfl rfl rfl rfl ?_
    intro w hS
    simp only [List.set_cons_zero, List.set_cons_succ] at hS
    unfold m76_6
    refine valS_ok (lc56 (hS.cell 0 rfl rfl) (hS.cell 0 rfl rfl) (hS.cell 0 rfl rfl)) ?_
    rw [hn]
    exact ⟨rfl, hS.tail.tail⟩
  refine s76 _ ?_
  unfold m76
  unfold m76_0
  refine new_ok (bx56 _ _ _ _) hS ?_
  intro b1 w hS
  refine new_ok (al56 _) hS ?_
  intro b2 w hS
  unfold m76_1
  first | refine valP_ok (fa56_2 _ _) ?_ | refine valP_ok (fao56_2 _ _ _) ?_
  first | refine valP_ok (ld9 (hS.cell 0 rfl rfl)) ?_ | refine valP_ok (ld9 (hS.cell 1 rfl rfl)) ?_ | refine valP_ok (ld9 (hS.cell 2 rfl rfl)) ?_ | refine valP_ok (ld9 (hS.cell 3 rfl rfl)) ?_ | refine valP_ok (ld9 (hS.cell 4 rfl rfl)) ?_ | refine valP_ok (ld9 (hS.cell 5 rfl rfl)) ?_ | refine valP_ok (ld9 (hS.cell 6 rfl rfl)) ?_ | refine valP_ok (ld9 (hS.cell 7 rfl rfl)) ?_ | refine valP_ok (ld9 (by assumption)) ?_
  refine callR (by kernel_rfl) (take_ret hS) ?_
  rintro _ w ⟨rfl, hS⟩
  unfold tkV
  cases htk : takeS r.text with
  | none =>
    have hn : aboutR r = none := by unfold aboutR kindS; rw [htk]; rfl
    simp only
    refine valP_ok (extract_ok _ 0 rfl _) ?_
    refine valP_ok (extract_ok _ 1 rfl _) ?_
    refine valP_ok (extract_ok _ 2 rfl _) ?_
    unfold m76_2
    refine valP_ok (ne26 _ _ _ _ _) ?_
    refine cond_dt (by omega) ?_
    first | refine pick_dt (by first | assumption | omega) ?_ | refine pick_df (by first | assumption | omega) ?_ | refine pick_t (by first | rfl | assumption) ?_ | refine pick_f (by first | rfl | assumption) ?_ | refine pick_dt rfl ?_ | refine pick_df (not_not_intro rfl) ?_
    refine cond_t rfl ?_
    first | refine pick_dt (by first | assumption | omega) ?_ | refine pick_df (by first | assumption | omega) ?_ | refine pick_t (by first | rfl | assumption) ?_ | refine pick_f (by first | rfl | assumption) ?_ | refine pick_dt rfl ?_ | refine pick_df (not_not_intro rfl) ?_
    exact bad _ _ _ _ hn hS
  | some p =>
    obtain ⟨n, x⟩ := p
    simp only
    refine valP_ok (extract_ok _ 0 rfl _) ?_
    refine valP_ok (extract_ok _ 1 rfl _) ?_
    refine valP_ok (extract_ok _ 2 rfl _) ?_
    have hk : kindS r.text = if 0 ≤ n ∧ n ≤ 2 then n else -1 := by unfold kindS; rw [htk]
    have leaf : ∀ t : Bool, (t = true ↔ ¬ (0 ≤ n ∧ n ≤ 2)) → m76_5 (fun v w' => v = .tuple #[rv ((aboutR r).getD ⟨0, 0, ⟨#[]⟩⟩), .bool (aboutR r).isSome] ∧ St w0 F w' L) (.pointer (some ⟨b1, 0, none⟩)) (.pointer (some ⟨b2, 0, none⟩)) (.int .i64 n) (.bool t) w := fun t ht => by
      cases t with
      | true =>
        have h := ht.1 rfl
        rw [if_neg h] at hk
        exact bad _ _ _ _ (by unfold aboutR; rw [hk]; rfl) hS
      | false =>
        have h : 0 ≤ n ∧ n ≤ 2 := Classical.byContradiction fun h => by have := ht.2 h; cases this
        rw [if_pos h] at hk
        unfold m76_5
        refine cond_f rfl ?_
        refine valP_ok (eq3 _ _ _ _ _) ?_
        unfold m76_7
        refine cond_split (fun h0 => ?_) (fun h0 => ?_)
        · have ha : aboutR r = some ⟨0, 0, countsS⟩ := by unfold aboutR; rw [hk, if_neg (by omega), if_pos h0]
          refine valP_ok (bd56_2 rfl _) ?_
          first | refine ss56 0 hS rfl rfl rfl rfl ?_ | refine ss56 1 hS rfl rfl rfl rfl ?_ | refine ss56 2 hS rfl rfl rfl rfl ?_ | refine ss56 3 hS rfl rfl rfl rfl ?_ | refine ss56 4 hS rfl rfl rfl rfl ?_ | refine ss56 5 hS rfl rfl rfl rfl ?_ | refine ss56 6 hS rfl rfl rfl rfl ?_ | refine ss56 7 hS rfl rfl rfl rfl ?_
          intro w hS
          simp only [List.set_cons_zero, List.set_cons_succ] at hS
          unfold m76_8
          refine valS_ok (lc56 (hS.cell 0 rfl rfl) (hS.cell 0 rfl rfl) (hS.cell 0 rfl rfl)) ?_
          rw [ha]
          exact ⟨rfl, hS.tail.tail⟩
        · have ha : aboutR r = some ⟨r.key, r.time, ⟨#[]⟩⟩ := by unfold aboutR; rw [hk, if_neg (by omega), if_neg h0]
          unfold m76_3
          first | refine valP_ok (fa56_0 _ _) ?_ | refine valP_ok (fao56_0 _ _ _) ?_
          first | refine valP_ok (ld3 (hS.cell 0 rfl rfl)) ?_ | refine valP_ok (ld3 (hS.cell 1 rfl rfl)) ?_ | refine valP_ok (ld3 (hS.cell 2 rfl rfl)) ?_ | refine valP_ok (ld3 (hS.cell 3 rfl rfl)) ?_ | refine valP_ok (ld3 (hS.cell 4 rfl rfl)) ?_ | refine valP_ok (ld3 (hS.cell 5 rfl rfl)) ?_ | refine valP_ok (ld3 (hS.cell 6 rfl rfl)) ?_ | refine valP_ok (ld3 (hS.cell 7 rfl rfl)) ?_ | refine valP_ok (ld3 (by assumption)) ?_
          first | refine valP_ok (fa56_1 _ _) ?_ | refine valP_ok (fao56_1 _ _ _) ?_
          first | refine valP_ok (ld3 (hS.cell 0 rfl rfl)) ?_ | refine valP_ok (ld3 (hS.cell 1 rfl rfl)) ?_ | refine valP_ok (ld3 (hS.cell 2 rfl rfl)) ?_ | refine valP_ok (ld3 (hS.cell 3 rfl rfl)) ?_ | refine valP_ok (ld3 (hS.cell 4 rfl rfl)) ?_ | refine valP_ok (ld3 (hS.cell 5 rfl rfl)) ?_ | refine valP_ok (ld3 (hS.cell 6 rfl rfl)) ?_ | refine valP_ok (ld3 (hS.cell 7 rfl rfl)) ?_ | refine valP_ok (ld3 (by assumption)) ?_
          refine valP_ok (bd56_0_1 rfl rfl _) ?_
          first | refine ss56 0 hS rfl rfl rfl rfl ?_ | refine ss56 1 hS rfl rfl rfl rfl ?_ | refine ss56 2 hS rfl rfl rfl rfl ?_ | refine ss56 3 hS rfl rfl rfl rfl ?_ | refine ss56 4 hS rfl rfl rfl rfl ?_ | refine ss56 5 hS rfl rfl rfl rfl ?_ | refine ss56 6 hS rfl rfl rfl rfl ?_ | refine ss56 7 hS rfl rfl rfl rfl ?_
          intro w hS
          simp only [List.set_cons_zero, List.set_cons_succ] at hS
          unfold m76_4
          refine valS_ok (lc56 (hS.cell 0 rfl rfl) (hS.cell 0 rfl rfl) (hS.cell 0 rfl rfl)) ?_
          rw [ha]
          exact ⟨rfl, hS.tail.tail⟩
    unfold m76_2
    refine valP_ok (ne26 _ _ _ _ _) ?_
    first | refine cond_split (fun hc0 => ?_) (fun hc0 => ?_) | refine cond_bsplit (fun hc0 => ?_) (fun hc0 => ?_)
    · first | refine pick_dt (by first | assumption | omega) ?_ | refine pick_df (by first | assumption | omega) ?_ | refine pick_t (by first | rfl | assumption) ?_ | refine pick_f (by first | rfl | assumption) ?_ | refine pick_dt rfl ?_ | refine pick_df (not_not_intro rfl) ?_
      first | refine cond_split (fun hc1 => ?_) (fun hc1 => ?_) | refine cond_bsplit (fun hc1 => ?_) (fun hc1 => ?_)
      · first | refine pick_dt (by first | assumption | omega) ?_ | refine pick_df (by first | assumption | omega) ?_ | refine pick_t (by first | rfl | assumption) ?_ | refine pick_f (by first | rfl | assumption) ?_ | refine pick_dt rfl ?_ | refine pick_df (not_not_intro rfl) ?_
        exact leaf _ (by simp only [decide_eq_true_eq, Bool.false_eq_true, false_iff, true_iff] <;> first | contradiction | omega)
      · refine valP_ok (gtr_ok _ _ _ _ _ _ _) ?_
        first | refine pick_dt (by first | assumption | omega) ?_ | refine pick_df (by first | assumption | omega) ?_ | refine pick_t (by first | rfl | assumption) ?_ | refine pick_f (by first | rfl | assumption) ?_ | refine pick_dt rfl ?_ | refine pick_df (not_not_intro rfl) ?_
        exact leaf _ (by simp only [decide_eq_true_eq, Bool.false_eq_true, false_iff, true_iff] <;> first | contradiction | omega)
    · refine valP_ok (lss_ok _ _ _ _ _ _ _) ?_
      first | refine pick_dt (by first | assumption | omega) ?_ | refine pick_df (by first | assumption | omega) ?_ | refine pick_t (by first | rfl | assumption) ?_ | refine pick_f (by first | rfl | assumption) ?_ | refine pick_dt rfl ?_ | refine pick_df (not_not_intro rfl) ?_
      first | refine cond_split (fun hc1 => ?_) (fun hc1 => ?_) | refine cond_bsplit (fun hc1 => ?_) (fun hc1 => ?_)
      · first | refine pick_dt (by first | assumption | omega) ?_ | refine pick_df (by first | assumption | omega) ?_ | refine pick_t (by first | rfl | assumption) ?_ | refine pick_f (by first | rfl | assumption) ?_ | refine pick_dt rfl ?_ | refine pick_df (not_not_intro rfl) ?_
        exact leaf _ (by simp only [decide_eq_true_eq, Bool.false_eq_true, false_iff, true_iff] <;> first | contradiction | omega)
      · refine valP_ok (gtr_ok _ _ _ _ _ _ _) ?_
        first | refine pick_dt (by first | assumption | omega) ?_ | refine pick_df (by first | assumption | omega) ?_ | refine pick_t (by first | rfl | assumption) ?_ | refine pick_f (by first | rfl | assumption) ?_ | refine pick_dt rfl ?_ | refine pick_df (not_not_intro rfl) ?_
        exact leaf _ (by simp only [decide_eq_true_eq, Bool.false_eq_true, false_iff, true_iff] <;> first | contradiction | omega)
theorem gone_ret {r : Rc} (hS : St w0 F w L) : Ret Tryz.prog 77 #[rv r] w fun v w' => v = .bool (decide (r.text = putS 2)) ∧ St w0 F w' L := by
  refine s77 _ ?_
  unfold m77
  unfold m77_0
  refine new_ok (bx56 _ _ _ _) hS ?_
  intro b1 w hS
  unfold m77_1
  refine drawn_ok hS ?_
  intro w hS
  refine held_Hs hS ?_
  first | refine valJ_ok (fa56_2 _) ?_ | refine valJ_ok (fao56_2 _ _) ?_
  first | refine valJ_load ld9 (Hs.cell 0 rfl rfl) ?_ | refine valJ_load ld9 (Hs.cell 1 rfl rfl) ?_ | refine valJ_load ld9 (Hs.cell 2 rfl rfl) ?_ | refine valJ_load ld9 (Hs.cell 3 rfl rfl) ?_ | refine valJ_load ld9 (Hs.cell 4 rfl rfl) ?_ | refine valJ_load ld9 (Hs.cell 5 rfl rfl) ?_ | refine valJ_load ld9 (Hs.cell 6 rfl rfl) ?_ | refine valJ_load ld9 (Hs.cell 7 rfl rfl) ?_ | refine valJ_load ld9 (by assumption) ?_
  refine callR (by kernel_rfl) (put_ret (by omega) hS) ?_
  rintro _ w ⟨rfl, hS⟩
  refine stay_Hs hS (by first | exact fun _ h => h | exact fun _ h => .tail _ h | exact fun _ h => .tail _ (.tail _ h) | simp) ?_
  refine valJ_ok (eq9 _ _ _ _) ?_
  unfold m77_2
  exact ⟨rfl, hS.tail⟩
end
end Go.Proofs.YtcldjjmfpmkldaaGreatDoor.M
namespace Go.Proofs.YtcldjjmfpmkldaaGreatDoor.M
open Go.Proofs.YtcldjjmfpmkldaaGreatDoor.F Go.RowKit
set_option linter.unusedVariables false
set_option linter.unusedSimpArgs false
set_option maxRecDepth 100000
set_option maxHeartbeats 2000000
attribute [local irreducible] Res.cells Res.row Res.map Res.any World.cell? World.frozen? Instr.fieldAt Instr.loadAt Instr.storeAt Instr.indexAt Instr.lookup Instr.mapUpdate Instr.box Instr.build Instr.buildSlice Instr.extract Instr.alloc Instr.field Instr.index Instr.sliceAt Instr.makeSlice Instr.makeMap Instr.makeFunc binS Op.unary Sem.run
structure Gt where
  off : Int
  r : Rc
abbrev encG (g : Gt) : List Value := [.int .i64 g.off, .int .i64 g.r.key, .int .i64 g.r.time, .string g.r.text]
abbrev BG (w0 : World) (F : List Nat) (L : List Res) (A : Option Addr) (l : List Gt) : Prop := Bes w0 F L 4 A l.length (l.flatMap encG)
abbrev grow (A : Option Addr) (c : Nat) (l : List Gt) : Res := Res.row 58 4 (.slice A l.length c) l.length (l.flatMap encG)
theorem encG_len : ∀ g, (encG g).length = 4 := fun _ => rfl
theorem encG_one : ∀ x, ∀ u ∈ encG x, u.oneCell' = true := fun x u hu => by
  simp only [List.mem_cons, List.not_mem_nil, or_false] at hu
  rcases hu with rfl | rfl | rfl | rfl <;> rfl
/-- what later ones of those ahead of an offset made needless. -/
def Needless (l : List Gt) (i : Nat) (upto : Int) : Prop := ∃ h : i < l.length, l[i].off < upto ∧ (l[i].r.text = putS 2 ∨ ∃ (k : Nat) (hk : k < l.length), i < k ∧ l[k].off < upto ∧ SameR l[i].r l[k].r)
section
variable {w0 w : World} {F : List Nat} {L : List Res} {l : List Gt} {A : Option Addr} {c : Nat}
theorem g_at {o b i : Nat} (hr : Rd w 4 (some ⟨b, o, none⟩) l.length (l.flatMap encG)) (hi : i < l.length) : w.cell? ⟨b, o + i * 4, none⟩ = some (.int .i64 l[i].off) ∧ w.cell? ⟨b, o + i * 4 + 1, none⟩ = some (.int .i64 l[i].r.key) ∧ w.cell? ⟨b, o + i * 4 + 2, none⟩ = some (.int .i64 l[i].r.time) ∧ w.cell? ⟨b, o + i * 4 + 3, none⟩ = some (.string l[i].r.text) :=
  ⟨hr.struct encG_len hi (j := 0) (by omega) rfl, hr.struct encG_len hi (j := 1) (by omega) rfl, hr.struct encG_len hi (j := 2) (by omega) rfl, hr.struct encG_len hi (j := 3) (by omega) rfl⟩
end
end Go.Proofs.YtcldjjmfpmkldaaGreatDoor.M
namespace Go.Proofs.YtcldjjmfpmkldaaGreatDoor.M
open Go.Proofs.YtcldjjmfpmkldaaGreatDoor.F
set_option linter.unusedVariables false
set_option maxRecDepth 100000
def m5_9 (R : VP) (K1 : (Value × Value) → World → Prop) (l0 out3 i4 : Value) (w : World) : Prop :=
  valP Tryz.prog (binS BinOp.add 3 (Operand.tmp 15) (Operand.const (Value.int IntKind.i64 1)) i4 (Value.int IntKind.i64 1)) w fun t16 w =>
  K1 (out3, t16) w
def m5_11 (R : VP) (K1 : (Value × Value) → World → Prop) (l0 out3 i4 g5 : Value) (w : World) : Prop :=
  valP Tryz.prog (Instr.loadAt 58 g5) w fun t33 w =>
  valP Tryz.prog (Instr.buildSlice 22 1 #[(0, t33)]) w fun t34 w =>
  builtinP Tryz.prog Builtin.append #[22, 22] 22 #[false, false] #[out3, t34] w fun t35 w =>
  m5_9 R K1 l0 t35 i4 w
def m5_12 (R : VP) (K1 : (Value × Value) → World → Prop) (l0 out3 i4 g5 t25 : Value) (w : World) : Prop :=
  condP t25
  (valP Tryz.prog (Instr.fieldAt 58 g5 1) w fun t26 w =>
  valP Tryz.prog (Instr.fieldAt 56 t26 2) w fun t27 w =>
  valP Tryz.prog (Instr.loadAt 9 t27) w fun t28 w =>
  valP Tryz.prog (Instr.sliceAt 9 t28 none (some (Value.int IntKind.i64 600)) none) w fun t29 w =>
  valP Tryz.prog (Instr.fieldAt 58 g5 1) w fun t30 w =>
  valP Tryz.prog (Instr.fieldAt 56 t30 2) w fun t31 w =>
  unitP Tryz.prog (Instr.storeAt 9 t31 t29) w fun _ w =>
  m5_11 R K1 l0 out3 i4 g5 w)
  (m5_11 R K1 l0 out3 i4 g5 w)
def m5_10 (R : VP) (K1 : (Value × Value) → World → Prop) (l0 out3 i4 g5 : Value) (w : World) : Prop :=
  valP Tryz.prog (Instr.fieldAt 58 g5 1) w fun t21 w =>
  valP Tryz.prog (Instr.fieldAt 56 t21 2) w fun t22 w =>
  valP Tryz.prog (Instr.loadAt 9 t22) w fun t23 w =>
  builtinP Tryz.prog Builtin.len #[9] 3 #[false] #[t23] w fun t24 w =>
  valP Tryz.prog (binS BinOp.gtr 3 (Operand.tmp 24) (Operand.const (Value.int IntKind.i64 600)) t24 (Value.int IntKind.i64 600)) w fun t25 w =>
  m5_12 R K1 l0 out3 i4 g5 t25 w
def m5_8 (R : VP) (K1 : (Value × Value) → World → Prop) (l0 out3 i4 : Value) (w : World) : Prop :=
  valP Tryz.prog (Instr.indexAt 22 l0 i4) w fun t19 w =>
  valP Tryz.prog (Instr.loadAt 58 t19) w fun t20 w =>
  valP Tryz.prog (Instr.alloc 58 true (.tuple #[])) w fun g5 w =>
  unitP Tryz.prog (Instr.storeAt 58 g5 t20) w fun _ w =>
  m5_10 R K1 l0 out3 i4 g5 w
def m5_5 (R : VP) (t2 : Value) (w : World) : Prop :=
  R t2 w
def m5_4 (R : VP) (out3 : Value) (w : World) : Prop :=
  m5_5 R out3 w
def m5_13 (R : VP) (K1 : (Value × Value) → World → Prop) (l0 out3 i4 t14 : Value) (w : World) : Prop :=
  condP t14
  (m5_8 R K1 l0 out3 i4 w)
  (m5_4 R out3 w)
def m5_7 (R : VP) (K1 : (Value × Value) → World → Prop) (l0 out3 i4 : Value) (w : World) : Prop :=
  builtinP Tryz.prog Builtin.len #[22] 3 #[false] #[l0] w fun t13 w =>
  valP Tryz.prog (binS BinOp.lss 3 (Operand.tmp 11) (Operand.tmp 13) i4 t13) w fun t14 w =>
  m5_13 R K1 l0 out3 i4 t14 w
def m5_6 (R : VP) (l0 out3 i4 : Value) (w : World) : Prop :=
  loopP (fun (K1 : (Value × Value) → World → Prop) (s : Value × Value) w => m5_7 R K1 l0 s.1 s.2 w) (out3, i4) w
def m5_3 (R : VP) (l0 out3 : Value) (w : World) : Prop :=
  m5_6 R l0 out3 (Value.int IntKind.i64 0) w
def m5_2 (R : VP) (l0 : Value) (w : World) : Prop :=
  m5_3 R l0 (Value.slice none 0 0) w
def m5_14 (R : VP) (l0 t8 : Value) (w : World) : Prop :=
  condP t8
  (valP Tryz.prog (Instr.sliceAt 22 l0 none (some (Value.int IntKind.i64 150)) none) w fun t10 w =>
  m5_2 R t10 w)
  (m5_2 R l0 w)
def m5_1 (R : VP) (l0 : Value) (w : World) : Prop :=
  builtinP Tryz.prog Builtin.len #[22] 3 #[false] #[l0] w fun t7 w =>
  valP Tryz.prog (binS BinOp.gtr 3 (Operand.tmp 7) (Operand.const (Value.int IntKind.i64 150)) t7 (Value.int IntKind.i64 150)) w fun t8 w =>
  m5_14 R l0 t8 w
def m5_0 (R : VP) (l0 : Value) (w : World) : Prop :=
  m5_1 R l0 w
abbrev W5 := cwp Tryz.prog (fun i => 0)
noncomputable def k5_0 : Code := (bodyOf Tryz.f5)
noncomputable def k5_1 : Code := (c2 k5_0)
noncomputable def k5_2 : Code := (c2 k5_1)
noncomputable def k5_3 : Code := (c2 k5_2)
noncomputable def k5_4 : Code := (c2 k5_3)
noncomputable def k5_5 : Code := (c2 k5_4)
noncomputable def k5_6 : Code := (c2 (c1 k5_3))
noncomputable def k5_7 : Code := (c1 (c1 k5_6))
noncomputable def k5_8 : Code := (c2 k5_7)
noncomputable def k5_9 : Code := (c2 k5_8)
noncomputable def k5_10 : Code := (c2 (c1 (c1 k5_8)))
noncomputable def k5_11 : Code := (c2 k5_10)
noncomputable def k5_12 : Code := (c2 (c1 k5_10))
noncomputable def k5_13 : Code := (c2 (c1 k5_7))
noncomputable def k5_14 : Code := (c2 (c1 k5_1))
theorem s5_9 {R : VP} {K1 : (Value × Value) → World → Prop} {Q : EQ} (hN : ∀ e w, (K1 ((e 3), (e 4)) w) → Q .normal e w) (e : Env) (w : World) (h : m5_9 R K1 (e 0) (e 3) (e 4) w) : W5 k5_9 Q e w := by
  unfold m5_9 at h
  exact rgA 6 (fun e w => K1 ((e 3), (e 4)) w) h hN
theorem s5_11 {R : VP} {K1 : (Value × Value) → World → Prop} {Q : EQ} (hN : ∀ e w, (m5_9 R K1 (e 0) (e 3) (e 4) w) → Q .normal e w) (e : Env) (w : World) (h : m5_11 R K1 (e 0) (e 3) (e 4) (e 5) w) : W5 k5_11 Q e w := by
  unfold m5_11 at h
  exact rgA 10 (fun e w => m5_9 R K1 (e 0) (e 3) (e 4) w) h hN
theorem s5_12 {R : VP} {K1 : (Value × Value) → World → Prop} {Q : EQ} (hN : ∀ e w, (m5_11 R K1 (e 0) (e 3) (e 4) (e 5) w) → Q .normal e w) (e : Env) (w : World) (h : m5_12 R K1 (e 0) (e 3) (e 4) (e 5) (e 25) w) : W5 k5_12 Q e w := by
  unfold m5_12 at h
  refine coA (Operand.tmp 25) h (fun h1 => ?_) (fun h1 => ?_)
  · exact rgA 9 (fun e w => m5_11 R K1 (e 0) (e 3) (e 4) (e 5) w) h1 hN
  · exact skA (hN _ _ h1)
theorem s5_10 {R : VP} {K1 : (Value × Value) → World → Prop} {Q : EQ} (hN : ∀ e w, (m5_9 R K1 (e 0) (e 3) (e 4) w) → Q .normal e w) (e : Env) (w : World) (h : m5_10 R K1 (e 0) (e 3) (e 4) (e 5) w) : W5 k5_10 Q e w := by
  unfold m5_10 at h
  refine seA ?_
  have hN : ∀ e w, (m5_11 R K1 (e 0) (e 3) (e 4) (e 5) w) → (thenE (W5 k5_11 Q) Q) .normal e w := fun e w h => then_N (s5_11 (R := R) (Q := Q) (K1 := K1) hN e w h)
  refine seA ?_
  have hN : ∀ e w, (m5_12 R K1 (e 0) (e 3) (e 4) (e 5) (e 25) w) → (thenE (W5 k5_12 (thenE (W5 k5_11 Q) Q)) (thenE (W5 k5_11 Q) Q)) .normal e w := fun e w h => then_N (s5_12 (R := R) (Q := (thenE (W5 k5_11 Q) Q)) (K1 := K1) hN e w h)
  exact rgA 8 (fun e w => m5_12 R K1 (e 0) (e 3) (e 4) (e 5) (e 25) w) h hN
theorem s5_8 {R : VP} {K1 : (Value × Value) → World → Prop} {Q : EQ} (hN : ∀ e w, (K1 ((e 3), (e 4)) w) → Q .normal e w) (e : Env) (w : World) (h : m5_8 R K1 (e 0) (e 3) (e 4) w) : W5 k5_8 Q e w := by
  unfold m5_8 at h
  refine seA ?_
  have hN : ∀ e w, (m5_9 R K1 (e 0) (e 3) (e 4) w) → (thenE (W5 k5_9 Q) Q) .normal e w := fun e w h => then_N (s5_9 (R := R) (Q := Q) (K1 := K1) hN e w h)
  refine block_ok 1 (by kernel_rfl) ?_
  have hN : ∀ e w, (m5_9 R K1 (e 0) (e 3) (e 4) w) → (inBlockE 1 (thenE (W5 k5_9 Q) Q)) .normal e w := fun e w h => block_N (hN e w h)
  refine seA ?_
  have hN : ∀ e w, (m5_10 R K1 (e 0) (e 3) (e 4) (e 5) w) → (thenE (W5 k5_10 (inBlockE 1 (thenE (W5 k5_9 Q) Q))) (inBlockE 1 (thenE (W5 k5_9 Q) Q))) .normal e w := fun e w h => then_N (s5_10 (R := R) (Q := (inBlockE 1 (thenE (W5 k5_9 Q) Q))) (K1 := K1) hN e w h)
  exact rgA 7 (fun e w => m5_10 R K1 (e 0) (e 3) (e 4) (e 5) w) h hN
theorem s5_5 {R : VP} {Q : EQ} (hR : ∀ e w, (R (e 2) w) → Q .ret e w) (e : Env) (w : World) (h : m5_5 R (e 2) w) : W5 k5_5 Q e w := by
  unfold m5_5 at h
  exact reA (hR _ _ h)
theorem s5_4 {R : VP} {Q : EQ} (hR : ∀ e w, (R (e 2) w) → Q .ret e w) (e : Env) (w : World) (h : m5_4 R (e 3) w) : W5 k5_4 Q e w := by
  unfold m5_4 at h
  refine seA ?_
  have hN : ∀ e w, (m5_5 R (e 2) w) → (thenE (W5 k5_5 Q) Q) .normal e w := fun e w h => then_N (s5_5 (R := R) (Q := Q) hR e w h)
  exact rgA 11 (fun e w => m5_5 R (e 2) w) h hN
theorem s5_13 {R : VP} {K1 : (Value × Value) → World → Prop} {Q : EQ} (hN : ∀ e w, (m5_8 R K1 (e 0) (e 3) (e 4) w) → Q .normal e w) (hX0 : ∀ e w, (m5_4 R (e 3) w) → Q (.exit 0) e w) (e : Env) (w : World) (h : m5_13 R K1 (e 0) (e 3) (e 4) (e 14) w) : W5 k5_13 Q e w := by
  unfold m5_13 at h
  refine coA (Operand.tmp 14) h (fun h1 => ?_) (fun h1 => ?_)
  · exact skA (hN _ _ h1)
  · exact exA 0 (hX0 _ _ h1)
theorem s5_7 {R : VP} {K1 : (Value × Value) → World → Prop} {Q : EQ} (hN : ∀ e w, (K1 ((e 3), (e 4)) w) → Q .normal e w) (hX0 : ∀ e w, (m5_4 R (e 3) w) → Q (.exit 0) e w) (e : Env) (w : World) (h : m5_7 R K1 (e 0) (e 3) (e 4) w) : W5 k5_7 Q e w := by
  unfold m5_7 at h
  refine seA ?_
  have hN : ∀ e w, (m5_8 R K1 (e 0) (e 3) (e 4) w) → (thenE (W5 k5_8 Q) Q) .normal e w := fun e w h => then_N (s5_8 (R := R) (Q := Q) (K1 := K1) hN e w h)
  have hX0 : ∀ e w, (m5_4 R (e 3) w) → (thenE (W5 k5_8 Q) Q) (.exit 0) e w := fun e w h => then_X (hX0 e w h)
  refine seA ?_
  have hN : ∀ e w, (m5_13 R K1 (e 0) (e 3) (e 4) (e 14) w) → (thenE (W5 k5_13 (thenE (W5 k5_8 Q) Q)) (thenE (W5 k5_8 Q) Q)) .normal e w := fun e w h => then_N (s5_13 (R := R) (Q := (thenE (W5 k5_8 Q) Q)) (K1 := K1) hN hX0 e w h)
  exact rgA 5 (fun e w => m5_13 R K1 (e 0) (e 3) (e 4) (e 14) w) h hN
theorem s5_6 {R : VP} {Q : EQ} (hN : ∀ e w, (m5_4 R (e 3) w) → Q .normal e w) (e : Env) (w : World) (h : m5_6 R (e 0) (e 3) (e 4) w) : W5 k5_6 Q e w := by
  unfold m5_6 at h
  refine block_ok 0 (by kernel_rfl) ?_
  have hX0 : ∀ e w, (m5_4 R (e 3) w) → (inBlockE 0 Q) (.exit 0) e w := fun e w h => inBlock_same (Q := Q) 0 (hN e w h)
  refine loop_ok' (fun (e : Env) => (e 3, e 4)) [0] (by kernel_rfl) (by kernel_rfl) h (fun K e' w' hk h' => ?_)
  have r0 : e' 0 = e 0 := hk 0 (by decide)
  have hX0 : ∀ e w, (m5_4 R (e 3) w) → (thenE (fun (e : Env) w => K ((e 3), (e 4)) w) (inBlockE 0 Q)) (.exit 0) e w := fun e w h => then_X (hX0 e w h)
  exact s5_7 (R := R) (Q := (thenE (fun (e : Env) w => K ((e 3), (e 4)) w) (inBlockE 0 Q))) (K1 := K) (fun _ _ h => then_N h) hX0 e' w' (by rw [r0]; exact h')
theorem s5_3 {R : VP} {Q : EQ} (hR : ∀ e w, (R (e 2) w) → Q .ret e w) (e : Env) (w : World) (h : m5_3 R (e 0) (e 3) w) : W5 k5_3 Q e w := by
  unfold m5_3 at h
  refine seA ?_
  have hN : ∀ e w, (m5_4 R (e 3) w) → (thenE (W5 k5_4 Q) Q) .normal e w := fun e w h => then_N (s5_4 (R := R) (Q := Q) hR e w h)
  refine seA ?_
  have hN : ∀ e w, (m5_6 R (e 0) (e 3) (e 4) w) → (thenE (W5 k5_6 (thenE (W5 k5_4 Q) Q)) (thenE (W5 k5_4 Q) Q)) .normal e w := fun e w h => then_N (s5_6 (R := R) (Q := (thenE (W5 k5_4 Q) Q)) hN e w h)
  exact rgA 4 (fun e w => m5_6 R (e 0) (e 3) (e 4) w) h hN
theorem s5_2 {R : VP} {Q : EQ} (hR : ∀ e w, (R (e 2) w) → Q .ret e w) (e : Env) (w : World) (h : m5_2 R (e 0) w) : W5 k5_2 Q e w := by
  unfold m5_2 at h
  refine seA ?_
  have hN : ∀ e w, (m5_3 R (e 0) (e 3) w) → (thenE (W5 k5_3 Q) Q) .normal e w := fun e w h => then_N (s5_3 (R := R) (Q := Q) hR e w h)
  exact rgA 3 (fun e w => m5_3 R (e 0) (e 3) w) h hN
theorem s5_14 {R : VP} {Q : EQ} (hN : ∀ e w, (m5_2 R (e 0) w) → Q .normal e w) (e : Env) (w : World) (h : m5_14 R (e 0) (e 8) w) : W5 k5_14 Q e w := by
  unfold m5_14 at h
  refine coA (Operand.tmp 8) h (fun h1 => ?_) (fun h1 => ?_)
  · exact rgA 2 (fun e w => m5_2 R (e 0) w) h1 hN
  · exact skA (hN _ _ h1)
theorem s5_1 {R : VP} {Q : EQ} (hR : ∀ e w, (R (e 2) w) → Q .ret e w) (e : Env) (w : World) (h : m5_1 R (e 0) w) : W5 k5_1 Q e w := by
  unfold m5_1 at h
  refine seA ?_
  have hN : ∀ e w, (m5_2 R (e 0) w) → (thenE (W5 k5_2 Q) Q) .normal e w := fun e w h => then_N (s5_2 (R := R) (Q := Q) hR e w h)
  refine seA ?_
  have hN : ∀ e w, (m5_14 R (e 0) (e 8) w) → (thenE (W5 k5_14 (thenE (W5 k5_2 Q) Q)) (thenE (W5 k5_2 Q) Q)) .normal e w := fun e w h => then_N (s5_14 (R := R) (Q := (thenE (W5 k5_2 Q) Q)) hN e w h)
  exact rgA 1 (fun e w => m5_14 R (e 0) (e 8) w) h hN
theorem s5_0 {R : VP} {Q : EQ} (hR : ∀ e w, (R (e 2) w) → Q .ret e w) (e : Env) (w : World) (h : m5_0 R (e 0) w) : W5 k5_0 Q e w := by
  unfold m5_0 at h
  refine seA ?_
  have hN : ∀ e w, (m5_1 R (e 0) w) → (thenE (W5 k5_1 Q) Q) .normal e w := fun e w h => then_N (s5_1 (R := R) (Q := Q) hR e w h)
  exact rgA 0 (fun e w => m5_1 R (e 0) w) h hN
abbrev m5 (R : VP) (l0 : Value) (w : World) : Prop := m5_0 R l0 w
theorem s5 (l0 : Value) {R : VP} {w : World} (h : m5 R l0 w) :
    Calls Tryz.prog 5 #[l0] w fun e w' => ∃ v, e = .returned v ∧ R v w' :=
  calls_of_cwp (st := (fun i => 0)) (c := k5_0) (by kernel_rfl) Tryz.func5 (by kernel_rfl) (Nat.le_of_ble_eq_true (by kernel_rfl)) (by kernel_rfl)
    (s5_0 (R := R) (Q := endE Tryz.prog Tryz.f5 R) (fun e w h => kcast (by kernel_rfl) h) (argsE #[l0]) w (kcast (by kernel_rfl) h))
def m13_13 (R : VP) (t4 : Value) (w : World) : Prop :=
  R t4 w
def m13_10 (R : VP) (K1 : VP) (t4 : Value) (w : World) : Prop :=
  R t4 w
def m13_8 (R : VP) (K1 : VP) (a0 b1 i5 : Value) (w : World) : Prop :=
  valP Tryz.prog (binS BinOp.add 3 (Operand.tmp 15) (Operand.const (Value.int IntKind.i64 1)) i5 (Value.int IntKind.i64 1)) w fun t16 w =>
  K1 t16 w
def m13_9 (R : VP) (K1 : VP) (a0 b1 i5 t25 : Value) (w : World) : Prop :=
  condP t25
  (m13_10 R K1 (Value.bool false) w)
  (m13_8 R K1 a0 b1 i5 w)
def m13_7 (R : VP) (K1 : VP) (a0 b1 i5 : Value) (w : World) : Prop :=
  valQ Tryz.prog (Instr.indexAt 22 a0 i5) w fun t19 =>
  valQ Tryz.prog (Instr.loadAt 58 t19) w fun t20 =>
  valQ Tryz.prog (Instr.indexAt 22 b1 i5) w fun t23 =>
  valQ Tryz.prog (Instr.loadAt 58 t23) w fun t24 =>
  valQ Tryz.prog (binS BinOp.neq 58 (Operand.tmp 20) (Operand.tmp 24) t20 t24) w fun t25 =>
  anyDraw w fun w =>
  m13_9 R K1 a0 b1 i5 t25 w
def m13_4 (R : VP) (t4 : Value) (w : World) : Prop :=
  R t4 w
def m13_3 (R : VP) (w : World) : Prop :=
  m13_4 R (Value.bool true) w
def m13_11 (R : VP) (K1 : VP) (a0 b1 i5 t14 : Value) (w : World) : Prop :=
  condP t14
  (m13_7 R K1 a0 b1 i5 w)
  (m13_3 R w)
def m13_6 (R : VP) (K1 : VP) (a0 b1 i5 : Value) (w : World) : Prop :=
  builtinP Tryz.prog Builtin.len #[22] 3 #[false] #[a0] w fun t13 w =>
  valP Tryz.prog (binS BinOp.lss 3 (Operand.tmp 11) (Operand.tmp 13) i5 t13) w fun t14 w =>
  m13_11 R K1 a0 b1 i5 t14 w
def m13_5 (R : VP) (a0 b1 i5 : Value) (w : World) : Prop :=
  loopP (fun (K1 : VP) (s : Value) w => m13_6 R K1 a0 b1 s w) i5 w
def m13_2 (R : VP) (a0 b1 : Value) (w : World) : Prop :=
  m13_5 R a0 b1 (Value.int IntKind.i64 0) w
def m13_12 (R : VP) (a0 b1 t10 : Value) (w : World) : Prop :=
  condP t10
  (m13_13 R (Value.bool false) w)
  (m13_2 R a0 b1 w)
def m13_1 (R : VP) (a0 b1 : Value) (w : World) : Prop :=
  builtinP Tryz.prog Builtin.len #[22] 3 #[false] #[a0] w fun t7 w =>
  builtinP Tryz.prog Builtin.len #[22] 3 #[false] #[b1] w fun t9 w =>
  valP Tryz.prog (binS BinOp.neq 3 (Operand.tmp 7) (Operand.tmp 9) t7 t9) w fun t10 w =>
  m13_12 R a0 b1 t10 w
def m13_0 (R : VP) (a0 b1 : Value) (w : World) : Prop :=
  m13_1 R a0 b1 w
abbrev W13 := cwp Tryz.prog (fun i => cond (Nat.beq i 6) 1 (0))
noncomputable def k13_0 : Code := (bodyOf Tryz.f13)
noncomputable def k13_1 : Code := (c2 k13_0)
noncomputable def k13_2 : Code := (c2 k13_1)
noncomputable def k13_3 : Code := (c2 k13_2)
noncomputable def k13_4 : Code := (c2 k13_3)
noncomputable def k13_5 : Code := (c2 (c1 k13_2))
noncomputable def k13_6 : Code := (c1 (c1 k13_5))
noncomputable def k13_7 : Code := (c2 k13_6)
noncomputable def k13_8 : Code := (c2 k13_7)
noncomputable def k13_9 : Code := (c2 (c1 (c1 k13_7)))
noncomputable def k13_10 : Code := (c2 (c1 k13_9))
noncomputable def k13_11 : Code := (c2 (c1 k13_6))
noncomputable def k13_12 : Code := (c2 (c1 k13_1))
noncomputable def k13_13 : Code := (c2 (c1 k13_12))
theorem s13_13 {R : VP} {Q : EQ} (hR : ∀ e w, (R (e 4) w) → Q .ret e w) (e : Env) (w : World) (h : m13_13 R (e 4) w) : W13 k13_13 Q e w := by
  unfold m13_13 at h
  exact reA (hR _ _ h)
theorem s13_10 {R : VP} {K1 : VP} {Q : EQ} (hR : ∀ e w, (R (e 4) w) → Q .ret e w) (e : Env) (w : World) (h : m13_10 R K1 (e 4) w) : W13 k13_10 Q e w := by
  unfold m13_10 at h
  exact reA (hR _ _ h)
theorem s13_8 {R : VP} {K1 : VP} {Q : EQ} (hN : ∀ e w, (K1 (e 5) w) → Q .normal e w) (e : Env) (w : World) (h : m13_8 R K1 (e 0) (e 1) (e 5) w) : W13 k13_8 Q e w := by
  unfold m13_8 at h
  exact rgA 5 (fun e w => K1 (e 5) w) h hN
theorem s13_9 {R : VP} {K1 : VP} {Q : EQ} (hN : ∀ e w, (m13_8 R K1 (e 0) (e 1) (e 5) w) → Q .normal e w) (hR : ∀ e w, (R (e 4) w) → Q .ret e w) (e : Env) (w : World) (h : m13_9 R K1 (e 0) (e 1) (e 5) (e 25) w) : W13 k13_9 Q e w := by
  unfold m13_9 at h
  refine coA (Operand.tmp 25) h (fun h1 => ?_) (fun h1 => ?_)
  · refine seA ?_
    have hN : ∀ e w, (m13_10 R K1 (e 4) w) → (thenE (W13 k13_10 Q) Q) .normal e w := fun e w h => then_N (s13_10 (R := R) (Q := Q) (K1 := K1) hR e w h)
    exact rgA 7 (fun e w => m13_10 R K1 (e 4) w) h1 hN
  · exact skA (hN _ _ h1)
theorem s13_7 {R : VP} {K1 : VP} {Q : EQ} (hN : ∀ e w, (K1 (e 5) w) → Q .normal e w) (hR : ∀ e w, (R (e 4) w) → Q .ret e w) (e : Env) (w : World) (h : m13_7 R K1 (e 0) (e 1) (e 5) w) : W13 k13_7 Q e w := by
  unfold m13_7 at h
  refine seA ?_
  have hN : ∀ e w, (m13_8 R K1 (e 0) (e 1) (e 5) w) → (thenE (W13 k13_8 Q) Q) .normal e w := fun e w h => then_N (s13_8 (R := R) (Q := Q) (K1 := K1) hN e w h)
  have hR : ∀ e w, (R (e 4) w) → (thenE (W13 k13_8 Q) Q) .ret e w := fun e w h => then_R (hR e w h)
  refine block_ok 1 (by kernel_rfl) ?_
  have hN : ∀ e w, (m13_8 R K1 (e 0) (e 1) (e 5) w) → (inBlockE 1 (thenE (W13 k13_8 Q) Q)) .normal e w := fun e w h => block_N (hN e w h)
  have hR : ∀ e w, (R (e 4) w) → (inBlockE 1 (thenE (W13 k13_8 Q) Q)) .ret e w := fun e w h => block_R (hR e w h)
  refine seA ?_
  have hN : ∀ e w, (m13_9 R K1 (e 0) (e 1) (e 5) (e 25) w) → (thenE (W13 k13_9 (inBlockE 1 (thenE (W13 k13_8 Q) Q))) (inBlockE 1 (thenE (W13 k13_8 Q) Q))) .normal e w := fun e w h => then_N (s13_9 (R := R) (Q := (inBlockE 1 (thenE (W13 k13_8 Q) Q))) (K1 := K1) hN hR e w h)
  exact quA 6 (fun e w => m13_9 R K1 (e 0) (e 1) (e 5) (e 25) w) h hN
theorem s13_4 {R : VP} {Q : EQ} (hR : ∀ e w, (R (e 4) w) → Q .ret e w) (e : Env) (w : World) (h : m13_4 R (e 4) w) : W13 k13_4 Q e w := by
  unfold m13_4 at h
  exact reA (hR _ _ h)
theorem s13_3 {R : VP} {Q : EQ} (hR : ∀ e w, (R (e 4) w) → Q .ret e w) (e : Env) (w : World) (h : m13_3 R w) : W13 k13_3 Q e w := by
  unfold m13_3 at h
  refine seA ?_
  have hN : ∀ e w, (m13_4 R (e 4) w) → (thenE (W13 k13_4 Q) Q) .normal e w := fun e w h => then_N (s13_4 (R := R) (Q := Q) hR e w h)
  exact rgA 8 (fun e w => m13_4 R (e 4) w) h hN
theorem s13_11 {R : VP} {K1 : VP} {Q : EQ} (hN : ∀ e w, (m13_7 R K1 (e 0) (e 1) (e 5) w) → Q .normal e w) (hX0 : ∀ e w, (m13_3 R w) → Q (.exit 0) e w) (e : Env) (w : World) (h : m13_11 R K1 (e 0) (e 1) (e 5) (e 14) w) : W13 k13_11 Q e w := by
  unfold m13_11 at h
  refine coA (Operand.tmp 14) h (fun h1 => ?_) (fun h1 => ?_)
  · exact skA (hN _ _ h1)
  · exact exA 0 (hX0 _ _ h1)
theorem s13_6 {R : VP} {K1 : VP} {Q : EQ} (hN : ∀ e w, (K1 (e 5) w) → Q .normal e w) (hR : ∀ e w, (R (e 4) w) → Q .ret e w) (hX0 : ∀ e w, (m13_3 R w) → Q (.exit 0) e w) (e : Env) (w : World) (h : m13_6 R K1 (e 0) (e 1) (e 5) w) : W13 k13_6 Q e w := by
  unfold m13_6 at h
  refine seA ?_
  have hN : ∀ e w, (m13_7 R K1 (e 0) (e 1) (e 5) w) → (thenE (W13 k13_7 Q) Q) .normal e w := fun e w h => then_N (s13_7 (R := R) (Q := Q) (K1 := K1) hN hR e w h)
  have hX0 : ∀ e w, (m13_3 R w) → (thenE (W13 k13_7 Q) Q) (.exit 0) e w := fun e w h => then_X (hX0 e w h)
  refine seA ?_
  have hN : ∀ e w, (m13_11 R K1 (e 0) (e 1) (e 5) (e 14) w) → (thenE (W13 k13_11 (thenE (W13 k13_7 Q) Q)) (thenE (W13 k13_7 Q) Q)) .normal e w := fun e w h => then_N (s13_11 (R := R) (Q := (thenE (W13 k13_7 Q) Q)) (K1 := K1) hN hX0 e w h)
  exact rgA 4 (fun e w => m13_11 R K1 (e 0) (e 1) (e 5) (e 14) w) h hN
theorem s13_5 {R : VP} {Q : EQ} (hN : ∀ e w, (m13_3 R w) → Q .normal e w) (hR : ∀ e w, (R (e 4) w) → Q .ret e w) (e : Env) (w : World) (h : m13_5 R (e 0) (e 1) (e 5) w) : W13 k13_5 Q e w := by
  unfold m13_5 at h
  refine block_ok 0 (by kernel_rfl) ?_
  have hX0 : ∀ e w, (m13_3 R w) → (inBlockE 0 Q) (.exit 0) e w := fun e w h => inBlock_same (Q := Q) 0 (hN e w h)
  have hR : ∀ e w, (R (e 4) w) → (inBlockE 0 Q) .ret e w := fun e w h => block_R (hR e w h)
  refine loop_ok' (fun (e : Env) => e 5) [0, 1] (by kernel_rfl) (by kernel_rfl) h (fun K e' w' hk h' => ?_)
  have r0 : e' 0 = e 0 := hk 0 (by decide)
  have r1 : e' 1 = e 1 := hk 1 (by decide)
  have hR : ∀ e w, (R (e 4) w) → (thenE (fun (e : Env) w => K (e 5) w) (inBlockE 0 Q)) .ret e w := fun e w h => then_R (hR e w h)
  have hX0 : ∀ e w, (m13_3 R w) → (thenE (fun (e : Env) w => K (e 5) w) (inBlockE 0 Q)) (.exit 0) e w := fun e w h => then_X (hX0 e w h)
  exact s13_6 (R := R) (Q := (thenE (fun (e : Env) w => K (e 5) w) (inBlockE 0 Q))) (K1 := K) (fun _ _ h => then_N h) hR hX0 e' w' (by rw [r0, r1]; exact h')
theorem s13_2 {R : VP} {Q : EQ} (hR : ∀ e w, (R (e 4) w) → Q .ret e w) (e : Env) (w : World) (h : m13_2 R (e 0) (e 1) w) : W13 k13_2 Q e w := by
  unfold m13_2 at h
  refine seA ?_
  have hN : ∀ e w, (m13_3 R w) → (thenE (W13 k13_3 Q) Q) .normal e w := fun e w h => then_N (s13_3 (R := R) (Q := Q) hR e w h)
  have hR : ∀ e w, (R (e 4) w) → (thenE (W13 k13_3 Q) Q) .ret e w := fun e w h => then_R (hR e w h)
  refine seA ?_
  have hN : ∀ e w, (m13_5 R (e 0) (e 1) (e 5) w) → (thenE (W13 k13_5 (thenE (W13 k13_3 Q) Q)) (thenE (W13 k13_3 Q) Q)) .normal e w := fun e w h => then_N (s13_5 (R := R) (Q := (thenE (W13 k13_3 Q) Q)) hN hR e w h)
  exact rgA 3 (fun e w => m13_5 R (e 0) (e 1) (e 5) w) h hN
theorem s13_12 {R : VP} {Q : EQ} (hN : ∀ e w, (m13_2 R (e 0) (e 1) w) → Q .normal e w) (hR : ∀ e w, (R (e 4) w) → Q .ret e w) (e : Env) (w : World) (h : m13_12 R (e 0) (e 1) (e 10) w) : W13 k13_12 Q e w := by
  unfold m13_12 at h
  refine coA (Operand.tmp 10) h (fun h1 => ?_) (fun h1 => ?_)
  · refine seA ?_
    have hN : ∀ e w, (m13_13 R (e 4) w) → (thenE (W13 k13_13 Q) Q) .normal e w := fun e w h => then_N (s13_13 (R := R) (Q := Q) hR e w h)
    exact rgA 2 (fun e w => m13_13 R (e 4) w) h1 hN
  · exact skA (hN _ _ h1)
theorem s13_1 {R : VP} {Q : EQ} (hR : ∀ e w, (R (e 4) w) → Q .ret e w) (e : Env) (w : World) (h : m13_1 R (e 0) (e 1) w) : W13 k13_1 Q e w := by
  unfold m13_1 at h
  refine seA ?_
  have hN : ∀ e w, (m13_2 R (e 0) (e 1) w) → (thenE (W13 k13_2 Q) Q) .normal e w := fun e w h => then_N (s13_2 (R := R) (Q := Q) hR e w h)
  have hR : ∀ e w, (R (e 4) w) → (thenE (W13 k13_2 Q) Q) .ret e w := fun e w h => then_R (hR e w h)
  refine seA ?_
  have hN : ∀ e w, (m13_12 R (e 0) (e 1) (e 10) w) → (thenE (W13 k13_12 (thenE (W13 k13_2 Q) Q)) (thenE (W13 k13_2 Q) Q)) .normal e w := fun e w h => then_N (s13_12 (R := R) (Q := (thenE (W13 k13_2 Q) Q)) hN hR e w h)
  exact rgA 1 (fun e w => m13_12 R (e 0) (e 1) (e 10) w) h hN
theorem s13_0 {R : VP} {Q : EQ} (hR : ∀ e w, (R (e 4) w) → Q .ret e w) (e : Env) (w : World) (h : m13_0 R (e 0) (e 1) w) : W13 k13_0 Q e w := by
  unfold m13_0 at h
  refine seA ?_
  have hN : ∀ e w, (m13_1 R (e 0) (e 1) w) → (thenE (W13 k13_1 Q) Q) .normal e w := fun e w h => then_N (s13_1 (R := R) (Q := Q) hR e w h)
  exact rgA 0 (fun e w => m13_1 R (e 0) (e 1) w) h hN
abbrev m13 (R : VP) (a0 b1 : Value) (w : World) : Prop := m13_0 R a0 b1 w
theorem s13 (a0 b1 : Value) {R : VP} {w : World} (h : m13 R a0 b1 w) :
    Calls Tryz.prog 13 #[a0, b1] w fun e w' => ∃ v, e = .returned v ∧ R v w' :=
  calls_of_cwp (st := (fun i => cond (Nat.beq i 6) 1 (0))) (c := k13_0) (by kernel_rfl) Tryz.func13 (by kernel_rfl) (Nat.le_of_ble_eq_true (by kernel_rfl)) (by kernel_rfl)
    (s13_0 (R := R) (Q := endE Tryz.prog Tryz.f13 R) (fun e w h => kcast (by kernel_rfl) h) (argsE #[a0, b1]) w (kcast (by kernel_rfl) h))
def m38_20 (R : VP) (K1 : VP) (l0 upto1 last5 t16 t17 t18 : Value) (w : World) : Prop :=
  valP Tryz.prog (binS BinOp.add 3 (Operand.tmp 18) (Operand.const (Value.int IntKind.i64 1)) t18 (Value.int IntKind.i64 1)) w fun t39 w =>
  K1 t39 w
def m38_23 (R : VP) (K1 : VP) (l0 upto1 last5 i6 a8 t16 t17 t18 t35 : Value) (w : World) : Prop :=
  condP t35
  (valP Tryz.prog (Instr.loadAt 56 a8) w fun t37 w =>
  unitP Tryz.prog (Instr.mapUpdate 118 last5 t37 i6) w fun _ w =>
  m38_20 R K1 l0 upto1 last5 t16 t17 t18 w)
  (m38_20 R K1 l0 upto1 last5 t16 t17 t18 w)
def m38_22 (R : VP) (K1 : VP) (l0 upto1 last5 i6 g7 a8 ok9 t16 t17 t18 : Value) (w : World) : Prop :=
  condP ok9
  (valP Tryz.prog (Instr.fieldAt 58 g7 0) w fun t31 w =>
  valP Tryz.prog (Instr.loadAt 3 t31) w fun t32 w =>
  valP Tryz.prog (binS BinOp.lss 3 (Operand.tmp 32) (Operand.tmp 33) t32 upto1) w fun t34 w =>
  pickP ok9 t34 (Value.bool false) fun t35 =>
  m38_23 R K1 l0 upto1 last5 i6 a8 t16 t17 t18 t35 w)
  (pickP ok9 undef (Value.bool false) fun t35 =>
  m38_23 R K1 l0 upto1 last5 i6 a8 t16 t17 t18 t35 w)
def m38_21 (R : VP) (K1 : VP) (l0 upto1 last5 i6 g7 t16 t17 t18 : Value) (w : World) : Prop :=
  valP Tryz.prog (Instr.fieldAt 58 g7 1) w fun t24 w =>
  valP Tryz.prog (Instr.loadAt 56 t24) w fun t25 w =>
  callP Tryz.prog (fnV 76) #[t25] w fun t26 w =>
  valP Tryz.prog (Instr.extract t26 0) w fun t27 w =>
  valP Tryz.prog (Instr.extract t26 1) w fun t28 w =>
  valP Tryz.prog (Instr.alloc 56 true (.tuple #[])) w fun a8 w =>
  unitP Tryz.prog (Instr.storeAt 56 a8 t27) w fun _ w =>
  m38_22 R K1 l0 upto1 last5 i6 g7 a8 t28 t16 t17 t18 w
def m38_19 (R : VP) (K1 : VP) (l0 upto1 last5 t16 t17 t18 : Value) (w : World) : Prop :=
  valP Tryz.prog (Instr.indexAt 22 t16 t18) w fun t21 w =>
  valP Tryz.prog (Instr.loadAt 58 t21) w fun t22 w =>
  valP Tryz.prog (Instr.alloc 58 true (.tuple #[])) w fun g7 w =>
  unitP Tryz.prog (Instr.storeAt 58 g7 t22) w fun _ w =>
  m38_21 R K1 l0 upto1 last5 t18 g7 t16 t17 t18 w
def m38_11 (R : VP) (K1 : (Value × Value) → World → Prop) (upto1 last5 out10 t40 t41 t42 : Value) (w : World) : Prop :=
  valP Tryz.prog (binS BinOp.add 3 (Operand.tmp 42) (Operand.const (Value.int IntKind.i64 1)) t42 (Value.int IntKind.i64 1)) w fun t76 w =>
  K1 (out10, t76) w
def m38_14 (R : VP) (K1 : (Value × Value) → World → Prop) (upto1 last5 out10 g12 t40 t41 t42 : Value) (w : World) : Prop :=
  valP Tryz.prog (Instr.loadAt 58 g12) w fun t73 w =>
  valP Tryz.prog (Instr.buildSlice 22 1 #[(0, t73)]) w fun t74 w =>
  builtinP Tryz.prog Builtin.append #[22, 22] 22 #[false, false] #[out10, t74] w fun t75 w =>
  m38_11 R K1 upto1 last5 t75 t40 t41 t42 w
def m38_15 (R : VP) (K1 : (Value × Value) → World → Prop) (upto1 last5 out10 g12 t40 t41 t42 t71 : Value) (w : World) : Prop :=
  condP t71
  (m38_11 R K1 upto1 last5 out10 t40 t41 t42 w)
  (m38_14 R K1 upto1 last5 out10 g12 t40 t41 t42 w)
def m38_13 (R : VP) (K1 : (Value × Value) → World → Prop) (upto1 last5 out10 i11 g12 a13 ok14 t40 t41 t42 : Value) (w : World) : Prop :=
  valP Tryz.prog (Instr.fieldAt 58 g12 0) w fun t53 w =>
  valP Tryz.prog (Instr.loadAt 3 t53) w fun t54 w =>
  valP Tryz.prog (binS BinOp.lss 3 (Operand.tmp 54) (Operand.tmp 55) t54 upto1) w fun t56 w =>
  condP t56
  (pickP t56 ok14 (Value.bool false) fun t59 =>
  condP t59
  (valP Tryz.prog (Instr.loadAt 56 a13) w fun t62 w =>
  valP Tryz.prog (Instr.lookup 118 last5 t62 false) w fun t63 w =>
  valP Tryz.prog (binS BinOp.neq 3 (Operand.tmp 63) (Operand.tmp 64) t63 i11) w fun t65 w =>
  condP t65
  (pickP t65 (Value.bool true) undef fun t70 =>
  pickP t59 t70 (Value.bool false) fun t71 =>
  m38_15 R K1 upto1 last5 out10 g12 t40 t41 t42 t71 w)
  (valP Tryz.prog (Instr.fieldAt 58 g12 1) w fun t67 w =>
  valP Tryz.prog (Instr.loadAt 56 t67) w fun t68 w =>
  callP Tryz.prog (fnV 77) #[t68] w fun t69 w =>
  pickP t65 (Value.bool true) t69 fun t70 =>
  pickP t59 t70 (Value.bool false) fun t71 =>
  m38_15 R K1 upto1 last5 out10 g12 t40 t41 t42 t71 w))
  (pickP t59 undef (Value.bool false) fun t71 =>
  m38_15 R K1 upto1 last5 out10 g12 t40 t41 t42 t71 w))
  (pickP t56 undef (Value.bool false) fun t59 =>
  condP t59
  (valP Tryz.prog (Instr.loadAt 56 a13) w fun t62 w =>
  valP Tryz.prog (Instr.lookup 118 last5 t62 false) w fun t63 w =>
  valP Tryz.prog (binS BinOp.neq 3 (Operand.tmp 63) (Operand.tmp 64) t63 i11) w fun t65 w =>
  condP t65
  (pickP t65 (Value.bool true) undef fun t70 =>
  pickP t59 t70 (Value.bool false) fun t71 =>
  m38_15 R K1 upto1 last5 out10 g12 t40 t41 t42 t71 w)
  (valP Tryz.prog (Instr.fieldAt 58 g12 1) w fun t67 w =>
  valP Tryz.prog (Instr.loadAt 56 t67) w fun t68 w =>
  callP Tryz.prog (fnV 77) #[t68] w fun t69 w =>
  pickP t65 (Value.bool true) t69 fun t70 =>
  pickP t59 t70 (Value.bool false) fun t71 =>
  m38_15 R K1 upto1 last5 out10 g12 t40 t41 t42 t71 w))
  (pickP t59 undef (Value.bool false) fun t71 =>
  m38_15 R K1 upto1 last5 out10 g12 t40 t41 t42 t71 w))
def m38_12 (R : VP) (K1 : (Value × Value) → World → Prop) (upto1 last5 out10 i11 g12 t40 t41 t42 : Value) (w : World) : Prop :=
  valP Tryz.prog (Instr.fieldAt 58 g12 1) w fun t48 w =>
  valP Tryz.prog (Instr.loadAt 56 t48) w fun t49 w =>
  callP Tryz.prog (fnV 76) #[t49] w fun t50 w =>
  valP Tryz.prog (Instr.extract t50 0) w fun t51 w =>
  valP Tryz.prog (Instr.extract t50 1) w fun t52 w =>
  valP Tryz.prog (Instr.alloc 56 true (.tuple #[])) w fun a13 w =>
  unitP Tryz.prog (Instr.storeAt 56 a13 t51) w fun _ w =>
  m38_13 R K1 upto1 last5 out10 i11 g12 a13 t52 t40 t41 t42 w
def m38_10 (R : VP) (K1 : (Value × Value) → World → Prop) (upto1 last5 out10 t40 t41 t42 : Value) (w : World) : Prop :=
  valP Tryz.prog (Instr.indexAt 22 t40 t42) w fun t45 w =>
  valP Tryz.prog (Instr.loadAt 58 t45) w fun t46 w =>
  valP Tryz.prog (Instr.alloc 58 true (.tuple #[])) w fun g12 w =>
  unitP Tryz.prog (Instr.storeAt 58 g12 t46) w fun _ w =>
  m38_12 R K1 upto1 last5 out10 t42 g12 t40 t41 t42 w
def m38_6 (R : VP) (t4 : Value) (w : World) : Prop :=
  R t4 w
def m38_5 (R : VP) (out10 : Value) (w : World) : Prop :=
  m38_6 R out10 w
def m38_9 (R : VP) (K1 : (Value × Value) → World → Prop) (upto1 last5 out10 t40 t41 t42 t43 : Value) (w : World) : Prop :=
  condP t43
  (m38_10 R K1 upto1 last5 out10 t40 t41 t42 w)
  (m38_5 R out10 w)
def m38_8 (R : VP) (K1 : (Value × Value) → World → Prop) (upto1 last5 out10 t40 t41 t42 : Value) (w : World) : Prop :=
  valP Tryz.prog (binS BinOp.lss 3 (Operand.tmp 42) (Operand.tmp 41) t42 t41) w fun t43 w =>
  m38_9 R K1 upto1 last5 out10 t40 t41 t42 t43 w
def m38_7 (R : VP) (upto1 last5 out10 t40 t41 t42 : Value) (w : World) : Prop :=
  loopP (fun (K1 : (Value × Value) → World → Prop) (s : Value × Value) w => m38_8 R K1 upto1 last5 s.1 t40 t41 s.2 w) (out10, t42) w
def m38_4 (R : VP) (l0 upto1 last5 out10 : Value) (w : World) : Prop :=
  builtinP Tryz.prog Builtin.len #[22] 3 #[false] #[l0] w fun t41 w =>
  m38_7 R upto1 last5 out10 l0 t41 (Value.int IntKind.i64 0) w
def m38_3 (R : VP) (l0 upto1 last5 : Value) (w : World) : Prop :=
  m38_4 R l0 upto1 last5 (Value.slice none 0 0) w
def m38_18 (R : VP) (K1 : VP) (l0 upto1 last5 t16 t17 t18 t19 : Value) (w : World) : Prop :=
  condP t19
  (m38_19 R K1 l0 upto1 last5 t16 t17 t18 w)
  (m38_3 R l0 upto1 last5 w)
def m38_17 (R : VP) (K1 : VP) (l0 upto1 last5 t16 t17 t18 : Value) (w : World) : Prop :=
  valP Tryz.prog (binS BinOp.lss 3 (Operand.tmp 18) (Operand.tmp 17) t18 t17) w fun t19 w =>
  m38_18 R K1 l0 upto1 last5 t16 t17 t18 t19 w
def m38_16 (R : VP) (l0 upto1 last5 t16 t17 t18 : Value) (w : World) : Prop :=
  loopP (fun (K1 : VP) (s : Value) w => m38_17 R K1 l0 upto1 last5 t16 t17 s w) t18 w
def m38_2 (R : VP) (l0 upto1 last5 : Value) (w : World) : Prop :=
  builtinP Tryz.prog Builtin.len #[22] 3 #[false] #[l0] w fun t17 w =>
  m38_16 R l0 upto1 last5 l0 t17 (Value.int IntKind.i64 0) w
def m38_1 (R : VP) (l0 upto1 : Value) (w : World) : Prop :=
  valP Tryz.prog (Instr.makeMap 118 none) w fun t15 w =>
  m38_2 R l0 upto1 t15 w
def m38_0 (R : VP) (l0 upto1 : Value) (w : World) : Prop :=
  m38_1 R l0 upto1 w
abbrev W38 := cwp Tryz.prog (fun i => 0)
noncomputable def k38_0 : Code := (bodyOf Tryz.f38)
noncomputable def k38_1 : Code := (c2 k38_0)
noncomputable def k38_2 : Code := (c2 k38_1)
noncomputable def k38_3 : Code := (c2 k38_2)
noncomputable def k38_4 : Code := (c2 k38_3)
noncomputable def k38_5 : Code := (c2 k38_4)
noncomputable def k38_6 : Code := (c2 k38_5)
noncomputable def k38_7 : Code := (c2 (c1 k38_4))
noncomputable def k38_8 : Code := (c1 (c1 k38_7))
noncomputable def k38_9 : Code := (c2 k38_8)
noncomputable def k38_10 : Code := (c2 k38_9)
noncomputable def k38_11 : Code := (c2 k38_10)
noncomputable def k38_12 : Code := (c2 (c1 (c1 k38_10)))
noncomputable def k38_13 : Code := (c2 k38_12)
noncomputable def k38_14 : Code := (c2 k38_13)
noncomputable def k38_15 : Code := (c2 (c1 k38_13))
noncomputable def k38_16 : Code := (c2 (c1 k38_2))
noncomputable def k38_17 : Code := (c1 (c1 k38_16))
noncomputable def k38_18 : Code := (c2 k38_17)
noncomputable def k38_19 : Code := (c2 k38_18)
noncomputable def k38_20 : Code := (c2 k38_19)
noncomputable def k38_21 : Code := (c2 (c1 (c1 k38_19)))
noncomputable def k38_22 : Code := (c2 k38_21)
noncomputable def k38_23 : Code := (c2 k38_22)
theorem s38_20 {R : VP} {K1 : VP} {Q : EQ} (hN : ∀ e w, (K1 (e 18) w) → Q .normal e w) (e : Env) (w : World) (h : m38_20 R K1 (e 0) (e 1) (e 5) (e 16) (e 17) (e 18) w) : W38 k38_20 Q e w := by
  unfold m38_20 at h
  exact rgA 8 (fun e w => K1 (e 18) w) h hN
theorem s38_23 {R : VP} {K1 : VP} {Q : EQ} (hN : ∀ e w, (m38_20 R K1 (e 0) (e 1) (e 5) (e 16) (e 17) (e 18) w) → Q .normal e w) (e : Env) (w : World) (h : m38_23 R K1 (e 0) (e 1) (e 5) (e 6) (e 8) (e 16) (e 17) (e 18) (e 35) w) : W38 k38_23 Q e w := by
  unfold m38_23 at h
  refine coA (Operand.tmp 35) h (fun h1 => ?_) (fun h1 => ?_)
  · exact rgA 7 (fun e w => m38_20 R K1 (e 0) (e 1) (e 5) (e 16) (e 17) (e 18) w) h1 hN
  · exact skA (hN _ _ h1)
theorem s38_22 {R : VP} {K1 : VP} {Q : EQ} (hN : ∀ e w, (m38_20 R K1 (e 0) (e 1) (e 5) (e 16) (e 17) (e 18) w) → Q .normal e w) (e : Env) (w : World) (h : m38_22 R K1 (e 0) (e 1) (e 5) (e 6) (e 7) (e 8) (e 9) (e 16) (e 17) (e 18) w) : W38 k38_22 Q e w := by
  unfold m38_22 at h
  refine seA ?_
  have hN : ∀ e w, (m38_23 R K1 (e 0) (e 1) (e 5) (e 6) (e 8) (e 16) (e 17) (e 18) (e 35) w) → (thenE (W38 k38_23 Q) Q) .normal e w := fun e w h => then_N (s38_23 (R := R) (Q := Q) (K1 := K1) hN e w h)
  exact rgA 6 (fun e w => m38_23 R K1 (e 0) (e 1) (e 5) (e 6) (e 8) (e 16) (e 17) (e 18) (e 35) w) h hN
theorem s38_21 {R : VP} {K1 : VP} {Q : EQ} (hN : ∀ e w, (m38_20 R K1 (e 0) (e 1) (e 5) (e 16) (e 17) (e 18) w) → Q .normal e w) (e : Env) (w : World) (h : m38_21 R K1 (e 0) (e 1) (e 5) (e 6) (e 7) (e 16) (e 17) (e 18) w) : W38 k38_21 Q e w := by
  unfold m38_21 at h
  refine seA ?_
  have hN : ∀ e w, (m38_22 R K1 (e 0) (e 1) (e 5) (e 6) (e 7) (e 8) (e 9) (e 16) (e 17) (e 18) w) → (thenE (W38 k38_22 Q) Q) .normal e w := fun e w h => then_N (s38_22 (R := R) (Q := Q) (K1 := K1) hN e w h)
  exact rgA 5 (fun e w => m38_22 R K1 (e 0) (e 1) (e 5) (e 6) (e 7) (e 8) (e 9) (e 16) (e 17) (e 18) w) h hN
theorem s38_19 {R : VP} {K1 : VP} {Q : EQ} (hN : ∀ e w, (K1 (e 18) w) → Q .normal e w) (e : Env) (w : World) (h : m38_19 R K1 (e 0) (e 1) (e 5) (e 16) (e 17) (e 18) w) : W38 k38_19 Q e w := by
  unfold m38_19 at h
  refine seA ?_
  have hN : ∀ e w, (m38_20 R K1 (e 0) (e 1) (e 5) (e 16) (e 17) (e 18) w) → (thenE (W38 k38_20 Q) Q) .normal e w := fun e w h => then_N (s38_20 (R := R) (Q := Q) (K1 := K1) hN e w h)
  refine block_ok 1 (by kernel_rfl) ?_
  have hN : ∀ e w, (m38_20 R K1 (e 0) (e 1) (e 5) (e 16) (e 17) (e 18) w) → (inBlockE 1 (thenE (W38 k38_20 Q) Q)) .normal e w := fun e w h => block_N (hN e w h)
  refine seA ?_
  have hN : ∀ e w, (m38_21 R K1 (e 0) (e 1) (e 5) (e 6) (e 7) (e 16) (e 17) (e 18) w) → (thenE (W38 k38_21 (inBlockE 1 (thenE (W38 k38_20 Q) Q))) (inBlockE 1 (thenE (W38 k38_20 Q) Q))) .normal e w := fun e w h => then_N (s38_21 (R := R) (Q := (inBlockE 1 (thenE (W38 k38_20 Q) Q))) (K1 := K1) hN e w h)
  exact rgA 4 (fun e w => m38_21 R K1 (e 0) (e 1) (e 5) (e 6) (e 7) (e 16) (e 17) (e 18) w) h hN
theorem s38_11 {R : VP} {K1 : (Value × Value) → World → Prop} {Q : EQ} (hN : ∀ e w, (K1 ((e 10), (e 42)) w) → Q .normal e w) (e : Env) (w : World) (h : m38_11 R K1 (e 1) (e 5) (e 10) (e 40) (e 41) (e 42) w) : W38 k38_11 Q e w := by
  unfold m38_11 at h
  exact rgA 16 (fun e w => K1 ((e 10), (e 42)) w) h hN
theorem s38_14 {R : VP} {K1 : (Value × Value) → World → Prop} {Q : EQ} (hN : ∀ e w, (m38_11 R K1 (e 1) (e 5) (e 10) (e 40) (e 41) (e 42) w) → Q .normal e w) (e : Env) (w : World) (h : m38_14 R K1 (e 1) (e 5) (e 10) (e 12) (e 40) (e 41) (e 42) w) : W38 k38_14 Q e w := by
  unfold m38_14 at h
  exact rgA 15 (fun e w => m38_11 R K1 (e 1) (e 5) (e 10) (e 40) (e 41) (e 42) w) h hN
theorem s38_15 {R : VP} {K1 : (Value × Value) → World → Prop} {Q : EQ} (hN : ∀ e w, (m38_14 R K1 (e 1) (e 5) (e 10) (e 12) (e 40) (e 41) (e 42) w) → Q .normal e w) (hX3 : ∀ e w, (m38_11 R K1 (e 1) (e 5) (e 10) (e 40) (e 41) (e 42) w) → Q (.exit 3) e w) (e : Env) (w : World) (h : m38_15 R K1 (e 1) (e 5) (e 10) (e 12) (e 40) (e 41) (e 42) (e 71) w) : W38 k38_15 Q e w := by
  unfold m38_15 at h
  refine coA (Operand.tmp 71) h (fun h1 => ?_) (fun h1 => ?_)
  · exact exA 3 (hX3 _ _ h1)
  · exact skA (hN _ _ h1)
theorem s38_13 {R : VP} {K1 : (Value × Value) → World → Prop} {Q : EQ} (hN : ∀ e w, (m38_11 R K1 (e 1) (e 5) (e 10) (e 40) (e 41) (e 42) w) → Q .normal e w) (hX3 : ∀ e w, (m38_11 R K1 (e 1) (e 5) (e 10) (e 40) (e 41) (e 42) w) → Q (.exit 3) e w) (e : Env) (w : World) (h : m38_13 R K1 (e 1) (e 5) (e 10) (e 11) (e 12) (e 13) (e 14) (e 40) (e 41) (e 42) w) : W38 k38_13 Q e w := by
  unfold m38_13 at h
  refine seA ?_
  have hN : ∀ e w, (m38_14 R K1 (e 1) (e 5) (e 10) (e 12) (e 40) (e 41) (e 42) w) → (thenE (W38 k38_14 Q) Q) .normal e w := fun e w h => then_N (s38_14 (R := R) (Q := Q) (K1 := K1) hN e w h)
  have hX3 : ∀ e w, (m38_11 R K1 (e 1) (e 5) (e 10) (e 40) (e 41) (e 42) w) → (thenE (W38 k38_14 Q) Q) (.exit 3) e w := fun e w h => then_X (hX3 e w h)
  refine seA ?_
  have hN : ∀ e w, (m38_15 R K1 (e 1) (e 5) (e 10) (e 12) (e 40) (e 41) (e 42) (e 71) w) → (thenE (W38 k38_15 (thenE (W38 k38_14 Q) Q)) (thenE (W38 k38_14 Q) Q)) .normal e w := fun e w h => then_N (s38_15 (R := R) (Q := (thenE (W38 k38_14 Q) Q)) (K1 := K1) hN hX3 e w h)
  exact rgA 14 (fun e w => m38_15 R K1 (e 1) (e 5) (e 10) (e 12) (e 40) (e 41) (e 42) (e 71) w) h hN
theorem s38_12 {R : VP} {K1 : (Value × Value) → World → Prop} {Q : EQ} (hN : ∀ e w, (m38_11 R K1 (e 1) (e 5) (e 10) (e 40) (e 41) (e 42) w) → Q .normal e w) (hX3 : ∀ e w, (m38_11 R K1 (e 1) (e 5) (e 10) (e 40) (e 41) (e 42) w) → Q (.exit 3) e w) (e : Env) (w : World) (h : m38_12 R K1 (e 1) (e 5) (e 10) (e 11) (e 12) (e 40) (e 41) (e 42) w) : W38 k38_12 Q e w := by
  unfold m38_12 at h
  refine seA ?_
  have hN : ∀ e w, (m38_13 R K1 (e 1) (e 5) (e 10) (e 11) (e 12) (e 13) (e 14) (e 40) (e 41) (e 42) w) → (thenE (W38 k38_13 Q) Q) .normal e w := fun e w h => then_N (s38_13 (R := R) (Q := Q) (K1 := K1) hN hX3 e w h)
  exact rgA 13 (fun e w => m38_13 R K1 (e 1) (e 5) (e 10) (e 11) (e 12) (e 13) (e 14) (e 40) (e 41) (e 42) w) h hN
theorem s38_10 {R : VP} {K1 : (Value × Value) → World → Prop} {Q : EQ} (hN : ∀ e w, (K1 ((e 10), (e 42)) w) → Q .normal e w) (e : Env) (w : World) (h : m38_10 R K1 (e 1) (e 5) (e 10) (e 40) (e 41) (e 42) w) : W38 k38_10 Q e w := by
  unfold m38_10 at h
  refine seA ?_
  have hN : ∀ e w, (m38_11 R K1 (e 1) (e 5) (e 10) (e 40) (e 41) (e 42) w) → (thenE (W38 k38_11 Q) Q) .normal e w := fun e w h => then_N (s38_11 (R := R) (Q := Q) (K1 := K1) hN e w h)
  refine block_ok 3 (by kernel_rfl) ?_
  have hX3 : ∀ e w, (m38_11 R K1 (e 1) (e 5) (e 10) (e 40) (e 41) (e 42) w) → (inBlockE 3 (thenE (W38 k38_11 Q) Q)) (.exit 3) e w := fun e w h => inBlock_same (Q := (thenE (W38 k38_11 Q) Q)) 3 (hN e w h)
  have hN : ∀ e w, (m38_11 R K1 (e 1) (e 5) (e 10) (e 40) (e 41) (e 42) w) → (inBlockE 3 (thenE (W38 k38_11 Q) Q)) .normal e w := fun e w h => block_N (hN e w h)
  refine seA ?_
  have hN : ∀ e w, (m38_12 R K1 (e 1) (e 5) (e 10) (e 11) (e 12) (e 40) (e 41) (e 42) w) → (thenE (W38 k38_12 (inBlockE 3 (thenE (W38 k38_11 Q) Q))) (inBlockE 3 (thenE (W38 k38_11 Q) Q))) .normal e w := fun e w h => then_N (s38_12 (R := R) (Q := (inBlockE 3 (thenE (W38 k38_11 Q) Q))) (K1 := K1) hN hX3 e w h)
  exact rgA 12 (fun e w => m38_12 R K1 (e 1) (e 5) (e 10) (e 11) (e 12) (e 40) (e 41) (e 42) w) h hN
theorem s38_6 {R : VP} {Q : EQ} (hR : ∀ e w, (R (e 4) w) → Q .ret e w) (e : Env) (w : World) (h : m38_6 R (e 4) w) : W38 k38_6 Q e w := by
  unfold m38_6 at h
  exact reA (hR _ _ h)
theorem s38_5 {R : VP} {Q : EQ} (hR : ∀ e w, (R (e 4) w) → Q .ret e w) (e : Env) (w : World) (h : m38_5 R (e 10) w) : W38 k38_5 Q e w := by
  unfold m38_5 at h
  refine seA ?_
  have hN : ∀ e w, (m38_6 R (e 4) w) → (thenE (W38 k38_6 Q) Q) .normal e w := fun e w h => then_N (s38_6 (R := R) (Q := Q) hR e w h)
  exact rgA 17 (fun e w => m38_6 R (e 4) w) h hN
theorem s38_9 {R : VP} {K1 : (Value × Value) → World → Prop} {Q : EQ} (hN : ∀ e w, (K1 ((e 10), (e 42)) w) → Q .normal e w) (hX2 : ∀ e w, (m38_5 R (e 10) w) → Q (.exit 2) e w) (e : Env) (w : World) (h : m38_9 R K1 (e 1) (e 5) (e 10) (e 40) (e 41) (e 42) (e 43) w) : W38 k38_9 Q e w := by
  unfold m38_9 at h
  refine seA ?_
  have hN : ∀ e w, (m38_10 R K1 (e 1) (e 5) (e 10) (e 40) (e 41) (e 42) w) → (thenE (W38 k38_10 Q) Q) .normal e w := fun e w h => then_N (s38_10 (R := R) (Q := Q) (K1 := K1) hN e w h)
  have hX2 : ∀ e w, (m38_5 R (e 10) w) → (thenE (W38 k38_10 Q) Q) (.exit 2) e w := fun e w h => then_X (hX2 e w h)
  refine coA (Operand.tmp 43) h (fun h1 => ?_) (fun h1 => ?_)
  · exact skA (hN _ _ h1)
  · exact exA 2 (hX2 _ _ h1)
theorem s38_8 {R : VP} {K1 : (Value × Value) → World → Prop} {Q : EQ} (hN : ∀ e w, (K1 ((e 10), (e 42)) w) → Q .normal e w) (hX2 : ∀ e w, (m38_5 R (e 10) w) → Q (.exit 2) e w) (e : Env) (w : World) (h : m38_8 R K1 (e 1) (e 5) (e 10) (e 40) (e 41) (e 42) w) : W38 k38_8 Q e w := by
  unfold m38_8 at h
  refine seA ?_
  have hN : ∀ e w, (m38_9 R K1 (e 1) (e 5) (e 10) (e 40) (e 41) (e 42) (e 43) w) → (thenE (W38 k38_9 Q) Q) .normal e w := fun e w h => then_N (s38_9 (R := R) (Q := Q) (K1 := K1) hN hX2 e w h)
  exact rgA 11 (fun e w => m38_9 R K1 (e 1) (e 5) (e 10) (e 40) (e 41) (e 42) (e 43) w) h hN
theorem s38_7 {R : VP} {Q : EQ} (hN : ∀ e w, (m38_5 R (e 10) w) → Q .normal e w) (e : Env) (w : World) (h : m38_7 R (e 1) (e 5) (e 10) (e 40) (e 41) (e 42) w) : W38 k38_7 Q e w := by
  unfold m38_7 at h
  refine block_ok 2 (by kernel_rfl) ?_
  have hX2 : ∀ e w, (m38_5 R (e 10) w) → (inBlockE 2 Q) (.exit 2) e w := fun e w h => inBlock_same (Q := Q) 2 (hN e w h)
  refine loop_ok' (fun (e : Env) => (e 10, e 42)) [1, 5, 40, 41] (by kernel_rfl) (by kernel_rfl) h (fun K e' w' hk h' => ?_)
  have r1 : e' 1 = e 1 := hk 1 (by decide)
  have r5 : e' 5 = e 5 := hk 5 (by decide)
  have r40 : e' 40 = e 40 := hk 40 (by decide)
  have r41 : e' 41 = e 41 := hk 41 (by decide)
  have hX2 : ∀ e w, (m38_5 R (e 10) w) → (thenE (fun (e : Env) w => K ((e 10), (e 42)) w) (inBlockE 2 Q)) (.exit 2) e w := fun e w h => then_X (hX2 e w h)
  exact s38_8 (R := R) (Q := (thenE (fun (e : Env) w => K ((e 10), (e 42)) w) (inBlockE 2 Q))) (K1 := K) (fun _ _ h => then_N h) hX2 e' w' (by rw [r1, r5, r40, r41]; exact h')
theorem s38_4 {R : VP} {Q : EQ} (hR : ∀ e w, (R (e 4) w) → Q .ret e w) (e : Env) (w : World) (h : m38_4 R (e 0) (e 1) (e 5) (e 10) w) : W38 k38_4 Q e w := by
  unfold m38_4 at h
  refine seA ?_
  have hN : ∀ e w, (m38_5 R (e 10) w) → (thenE (W38 k38_5 Q) Q) .normal e w := fun e w h => then_N (s38_5 (R := R) (Q := Q) hR e w h)
  refine seA ?_
  have hN : ∀ e w, (m38_7 R (e 1) (e 5) (e 10) (e 40) (e 41) (e 42) w) → (thenE (W38 k38_7 (thenE (W38 k38_5 Q) Q)) (thenE (W38 k38_5 Q) Q)) .normal e w := fun e w h => then_N (s38_7 (R := R) (Q := (thenE (W38 k38_5 Q) Q)) hN e w h)
  exact rgA 10 (fun e w => m38_7 R (e 1) (e 5) (e 10) (e 40) (e 41) (e 42) w) h hN
theorem s38_3 {R : VP} {Q : EQ} (hR : ∀ e w, (R (e 4) w) → Q .ret e w) (e : Env) (w : World) (h : m38_3 R (e 0) (e 1) (e 5) w) : W38 k38_3 Q e w := by
  unfold m38_3 at h
  refine seA ?_
  have hN : ∀ e w, (m38_4 R (e 0) (e 1) (e 5) (e 10) w) → (thenE (W38 k38_4 Q) Q) .normal e w := fun e w h => then_N (s38_4 (R := R) (Q := Q) hR e w h)
  exact rgA 9 (fun e w => m38_4 R (e 0) (e 1) (e 5) (e 10) w) h hN
theorem s38_18 {R : VP} {K1 : VP} {Q : EQ} (hN : ∀ e w, (K1 (e 18) w) → Q .normal e w) (hX0 : ∀ e w, (m38_3 R (e 0) (e 1) (e 5) w) → Q (.exit 0) e w) (e : Env) (w : World) (h : m38_18 R K1 (e 0) (e 1) (e 5) (e 16) (e 17) (e 18) (e 19) w) : W38 k38_18 Q e w := by
  unfold m38_18 at h
  refine seA ?_
  have hN : ∀ e w, (m38_19 R K1 (e 0) (e 1) (e 5) (e 16) (e 17) (e 18) w) → (thenE (W38 k38_19 Q) Q) .normal e w := fun e w h => then_N (s38_19 (R := R) (Q := Q) (K1 := K1) hN e w h)
  have hX0 : ∀ e w, (m38_3 R (e 0) (e 1) (e 5) w) → (thenE (W38 k38_19 Q) Q) (.exit 0) e w := fun e w h => then_X (hX0 e w h)
  refine coA (Operand.tmp 19) h (fun h1 => ?_) (fun h1 => ?_)
  · exact skA (hN _ _ h1)
  · exact exA 0 (hX0 _ _ h1)
theorem s38_17 {R : VP} {K1 : VP} {Q : EQ} (hN : ∀ e w, (K1 (e 18) w) → Q .normal e w) (hX0 : ∀ e w, (m38_3 R (e 0) (e 1) (e 5) w) → Q (.exit 0) e w) (e : Env) (w : World) (h : m38_17 R K1 (e 0) (e 1) (e 5) (e 16) (e 17) (e 18) w) : W38 k38_17 Q e w := by
  unfold m38_17 at h
  refine seA ?_
  have hN : ∀ e w, (m38_18 R K1 (e 0) (e 1) (e 5) (e 16) (e 17) (e 18) (e 19) w) → (thenE (W38 k38_18 Q) Q) .normal e w := fun e w h => then_N (s38_18 (R := R) (Q := Q) (K1 := K1) hN hX0 e w h)
  exact rgA 3 (fun e w => m38_18 R K1 (e 0) (e 1) (e 5) (e 16) (e 17) (e 18) (e 19) w) h hN
theorem s38_16 {R : VP} {Q : EQ} (hN : ∀ e w, (m38_3 R (e 0) (e 1) (e 5) w) → Q .normal e w) (e : Env) (w : World) (h : m38_16 R (e 0) (e 1) (e 5) (e 16) (e 17) (e 18) w) : W38 k38_16 Q e w := by
  unfold m38_16 at h
  refine block_ok 0 (by kernel_rfl) ?_
  have hX0 : ∀ e w, (m38_3 R (e 0) (e 1) (e 5) w) → (inBlockE 0 Q) (.exit 0) e w := fun e w h => inBlock_same (Q := Q) 0 (hN e w h)
  refine loop_ok' (fun (e : Env) => e 18) [0, 1, 5, 16, 17] (by kernel_rfl) (by kernel_rfl) h (fun K e' w' hk h' => ?_)
  have r0 : e' 0 = e 0 := hk 0 (by decide)
  have r1 : e' 1 = e 1 := hk 1 (by decide)
  have r5 : e' 5 = e 5 := hk 5 (by decide)
  have r16 : e' 16 = e 16 := hk 16 (by decide)
  have r17 : e' 17 = e 17 := hk 17 (by decide)
  have hX0 : ∀ e w, (m38_3 R (e 0) (e 1) (e 5) w) → (thenE (fun (e : Env) w => K (e 18) w) (inBlockE 0 Q)) (.exit 0) e w := fun e w h => then_X (hX0 e w h)
  exact s38_17 (R := R) (Q := (thenE (fun (e : Env) w => K (e 18) w) (inBlockE 0 Q))) (K1 := K) (fun _ _ h => then_N h) hX0 e' w' (by rw [r0, r1, r5, r16, r17]; exact h')
theorem s38_2 {R : VP} {Q : EQ} (hR : ∀ e w, (R (e 4) w) → Q .ret e w) (e : Env) (w : World) (h : m38_2 R (e 0) (e 1) (e 5) w) : W38 k38_2 Q e w := by
  unfold m38_2 at h
  refine seA ?_
  have hN : ∀ e w, (m38_3 R (e 0) (e 1) (e 5) w) → (thenE (W38 k38_3 Q) Q) .normal e w := fun e w h => then_N (s38_3 (R := R) (Q := Q) hR e w h)
  refine seA ?_
  have hN : ∀ e w, (m38_16 R (e 0) (e 1) (e 5) (e 16) (e 17) (e 18) w) → (thenE (W38 k38_16 (thenE (W38 k38_3 Q) Q)) (thenE (W38 k38_3 Q) Q)) .normal e w := fun e w h => then_N (s38_16 (R := R) (Q := (thenE (W38 k38_3 Q) Q)) hN e w h)
  exact rgA 2 (fun e w => m38_16 R (e 0) (e 1) (e 5) (e 16) (e 17) (e 18) w) h hN
theorem s38_1 {R : VP} {Q : EQ} (hR : ∀ e w, (R (e 4) w) → Q .ret e w) (e : Env) (w : World) (h : m38_1 R (e 0) (e 1) w) : W38 k38_1 Q e w := by
  unfold m38_1 at h
  refine seA ?_
  have hN : ∀ e w, (m38_2 R (e 0) (e 1) (e 5) w) → (thenE (W38 k38_2 Q) Q) .normal e w := fun e w h => then_N (s38_2 (R := R) (Q := Q) hR e w h)
  exact rgA 1 (fun e w => m38_2 R (e 0) (e 1) (e 5) w) h hN
theorem s38_0 {R : VP} {Q : EQ} (hR : ∀ e w, (R (e 4) w) → Q .ret e w) (e : Env) (w : World) (h : m38_0 R (e 0) (e 1) w) : W38 k38_0 Q e w := by
  unfold m38_0 at h
  refine seA ?_
  have hN : ∀ e w, (m38_1 R (e 0) (e 1) w) → (thenE (W38 k38_1 Q) Q) .normal e w := fun e w h => then_N (s38_1 (R := R) (Q := Q) hR e w h)
  exact rgA 0 (fun e w => m38_1 R (e 0) (e 1) w) h hN
abbrev m38 (R : VP) (l0 upto1 : Value) (w : World) : Prop := m38_0 R l0 upto1 w
theorem s38 (l0 upto1 : Value) {R : VP} {w : World} (h : m38 R l0 upto1 w) :
    Calls Tryz.prog 38 #[l0, upto1] w fun e w' => ∃ v, e = .returned v ∧ R v w' :=
  calls_of_cwp (st := (fun i => 0)) (c := k38_0) (by kernel_rfl) Tryz.func38 (by kernel_rfl) (Nat.le_of_ble_eq_true (by kernel_rfl)) (by kernel_rfl)
    (s38_0 (R := R) (Q := endE Tryz.prog Tryz.f38 R) (fun e w h => kcast (by kernel_rfl) h) (argsE #[l0, upto1]) w (kcast (by kernel_rfl) h))
def m12_4 (R : VP) (t0 : Value) (w : World) : Prop :=
  R t0 w
def m12_3 (R : VP) (l3 : Value) (w : World) : Prop :=
  anyDraw w fun w =>
  pureP Tryz.prog (Instr.sliceAt 22 l3 (some (Value.int IntKind.i64 2)) none none) fun t23 =>
  callP Tryz.prog (fnV 38) #[l3, (Value.int IntKind.i64 4)] w fun t21 w =>
  callP Tryz.prog (fnV 13) #[t21, t23] w fun t24 w =>
  condP t24
  (pureP Tryz.prog (Instr.sliceAt 22 l3 (some (Value.int IntKind.i64 1)) none none) fun t29 =>
  callP Tryz.prog (fnV 38) #[l3, (Value.int IntKind.i64 3)] w fun t27 w =>
  callP Tryz.prog (fnV 13) #[t27, t29] w fun t30 w =>
  pickP t24 t30 (Value.bool false) fun t31 =>
  m12_4 R t31 w)
  (pickP t24 undef (Value.bool false) fun t31 =>
  m12_4 R t31 w)
def m12_2 (R : VP) (counts1 window2 : Value) (w : World) : Prop :=
  valP Tryz.prog (Instr.build 56 #[(2, counts1)]) w fun t8 w =>
  valP Tryz.prog (Instr.build 58 #[(1, t8)]) w fun t9 w =>
  valP Tryz.prog (Instr.build 56 #[(0, (Value.int IntKind.i64 7)), (2, window2)]) w fun t11 w =>
  valP Tryz.prog (Instr.build 58 #[(0, (Value.int IntKind.i64 1)), (1, t11)]) w fun t12 w =>
  valP Tryz.prog (Instr.build 56 #[(2, counts1)]) w fun t14 w =>
  valP Tryz.prog (Instr.build 58 #[(0, (Value.int IntKind.i64 2)), (1, t14)]) w fun t15 w =>
  valP Tryz.prog (Instr.build 56 #[(0, (Value.int IntKind.i64 7)), (2, window2)]) w fun t17 w =>
  valP Tryz.prog (Instr.build 58 #[(0, (Value.int IntKind.i64 3)), (1, t17)]) w fun t18 w =>
  valP Tryz.prog (Instr.buildSlice 22 4 #[(0, t9), (1, t12), (2, t15), (3, t18)]) w fun t19 w =>
  m12_3 R t19 w
def m12_1 (R : VP) (w : World) : Prop :=
  valP Tryz.prog (Instr.buildSlice 23 5 #[(0, (Value.int IntKind.i64 0)), (1, (Value.int IntKind.i64 1)), (2, (Value.int IntKind.i64 0)), (3, (Value.int IntKind.i64 0)), (4, (Value.int IntKind.i64 1))]) w fun t4 w =>
  callP Tryz.prog (fnV 36) #[t4] w fun t5 w =>
  callP Tryz.prog (fnV 37) #[(Value.int IntKind.i64 1)] w fun t6 w =>
  m12_2 R t5 t6 w
def m12_0 (R : VP) (w : World) : Prop :=
  m12_1 R w
abbrev W12 := cwp Tryz.prog (fun i => 0)
noncomputable def k12_0 : Code := (bodyOf Tryz.f12)
noncomputable def k12_1 : Code := (c2 k12_0)
noncomputable def k12_2 : Code := (c2 k12_1)
noncomputable def k12_3 : Code := (c2 k12_2)
noncomputable def k12_4 : Code := (c2 k12_3)
theorem s12_4 {R : VP} {Q : EQ} (hR : ∀ e w, (R (e 0) w) → Q .ret e w) (e : Env) (w : World) (h : m12_4 R (e 0) w) : W12 k12_4 Q e w := by
  unfold m12_4 at h
  exact reA (hR _ _ h)
theorem s12_3 {R : VP} {Q : EQ} (hR : ∀ e w, (R (e 0) w) → Q .ret e w) (e : Env) (w : World) (h : m12_3 R (e 3) w) : W12 k12_3 Q e w := by
  unfold m12_3 at h
  refine seA ?_
  have hN : ∀ e w, (m12_4 R (e 0) w) → (thenE (W12 k12_4 Q) Q) .normal e w := fun e w h => then_N (s12_4 (R := R) (Q := Q) hR e w h)
  exact tree_ok 3 13 [false, false, false, false, false, false, false, false, false, false, false, false, false] (.take 0 [true, false, false, false, false, false, false, false, false, false, false, false, false] (.take 2 [true, false, true, false, false, false, false, false, false, false, false, false, false] (.take 3 [true, false, true, true, false, false, false, false, false, false, false, false, false] (.alt 1 [true, true, true, true, false, false, false, false, false, false, false, false, false] (.alt 4 [true, true, true, true, true, false, false, false, false, false, false, false, false] (.take 5 [true, true, true, true, true, true, false, false, false, false, false, false, false] (.take 6 [true, true, true, true, true, true, true, false, false, false, false, false, false] (.take 8 [true, true, true, true, true, true, true, false, true, false, false, false, false] (.take 9 [true, true, true, true, true, true, true, false, true, true, false, false, false] (.alt 7 [true, true, true, true, true, true, true, true, true, true, false, false, false] (.alt 10 [true, true, true, true, true, true, true, true, true, true, true, false, false] (.take 11 [true, true, true, true, true, true, true, true, true, true, true, true, false] (.take 12 [true, true, true, true, true, true, true, true, true, true, true, true, true] .done)) .stop) .stop))))) .stop) .stop)))) (fun e w => m12_4 R (e 0) w) (by kernel_rfl) (by kernel_rfl) (by kernel_rfl) (by kernel_rfl) (by kernel_rfl) (by kernel_rfl) (kcast (by kernel_rfl) h) hN (by kernel_rfl)
theorem s12_2 {R : VP} {Q : EQ} (hR : ∀ e w, (R (e 0) w) → Q .ret e w) (e : Env) (w : World) (h : m12_2 R (e 1) (e 2) w) : W12 k12_2 Q e w := by
  unfold m12_2 at h
  refine seA ?_
  have hN : ∀ e w, (m12_3 R (e 3) w) → (thenE (W12 k12_3 Q) Q) .normal e w := fun e w h => then_N (s12_3 (R := R) (Q := Q) hR e w h)
  exact rgA 2 (fun e w => m12_3 R (e 3) w) h hN
theorem s12_1 {R : VP} {Q : EQ} (hR : ∀ e w, (R (e 0) w) → Q .ret e w) (e : Env) (w : World) (h : m12_1 R w) : W12 k12_1 Q e w := by
  unfold m12_1 at h
  refine seA ?_
  have hN : ∀ e w, (m12_2 R (e 1) (e 2) w) → (thenE (W12 k12_2 Q) Q) .normal e w := fun e w h => then_N (s12_2 (R := R) (Q := Q) hR e w h)
  exact rgA 1 (fun e w => m12_2 R (e 1) (e 2) w) h hN
theorem s12_0 {R : VP} {Q : EQ} (hR : ∀ e w, (R (e 0) w) → Q .ret e w) (e : Env) (w : World) (h : m12_0 R w) : W12 k12_0 Q e w := by
  unfold m12_0 at h
  refine seA ?_
  have hN : ∀ e w, (m12_1 R w) → (thenE (W12 k12_1 Q) Q) .normal e w := fun e w h => then_N (s12_1 (R := R) (Q := Q) hR e w h)
  exact rgA 0 (fun e w => m12_1 R w) h hN
abbrev m12 (R : VP) (w : World) : Prop := m12_0 R w
theorem s12  {R : VP} {w : World} (h : m12 R  w) :
    Calls Tryz.prog 12 #[] w fun e w' => ∃ v, e = .returned v ∧ R v w' :=
  calls_of_cwp (st := (fun i => 0)) (c := k12_0) (by kernel_rfl) Tryz.func12 (by kernel_rfl) (Nat.le_of_ble_eq_true (by kernel_rfl)) (by kernel_rfl)
    (s12_0 (R := R) (Q := endE Tryz.prog Tryz.f12 R) (fun e w h => kcast (by kernel_rfl) h) (argsE #[]) w (kcast (by kernel_rfl) h))
def m36_8 (R : VP) (K1 : (Value × Value) → World → Prop) (l0 s3 i4 : Value) (w : World) : Prop :=
  valP Tryz.prog (binS BinOp.add 3 (Operand.tmp 9) (Operand.const (Value.int IntKind.i64 1)) i4 (Value.int IntKind.i64 1)) w fun t10 w =>
  K1 (s3, t10) w
def m36_7 (R : VP) (K1 : (Value × Value) → World → Prop) (l0 s3 i4 : Value) (w : World) : Prop :=
  valP Tryz.prog (Instr.indexAt 23 l0 i4) w fun t14 w =>
  valP Tryz.prog (Instr.loadAt 3 t14) w fun t15 w =>
  callP Tryz.prog (fnV 37) #[t15] w fun t16 w =>
  valP Tryz.prog (binS BinOp.add 9 (Operand.tmp 11) (Operand.tmp 16) s3 t16) w fun t17 w =>
  m36_8 R K1 l0 t17 i4 w
def m36_4 (R : VP) (t2 : Value) (w : World) : Prop :=
  R t2 w
def m36_3 (R : VP) (s3 : Value) (w : World) : Prop :=
  m36_4 R s3 w
def m36_9 (R : VP) (K1 : (Value × Value) → World → Prop) (l0 s3 i4 t8 : Value) (w : World) : Prop :=
  condP t8
  (m36_7 R K1 l0 s3 i4 w)
  (m36_3 R s3 w)
def m36_6 (R : VP) (K1 : (Value × Value) → World → Prop) (l0 s3 i4 : Value) (w : World) : Prop :=
  builtinP Tryz.prog Builtin.len #[23] 3 #[false] #[l0] w fun t7 w =>
  valP Tryz.prog (binS BinOp.lss 3 (Operand.tmp 5) (Operand.tmp 7) i4 t7) w fun t8 w =>
  m36_9 R K1 l0 s3 i4 t8 w
def m36_5 (R : VP) (l0 s3 i4 : Value) (w : World) : Prop :=
  loopP (fun (K1 : (Value × Value) → World → Prop) (s : Value × Value) w => m36_6 R K1 l0 s.1 s.2 w) (s3, i4) w
def m36_2 (R : VP) (l0 s3 : Value) (w : World) : Prop :=
  m36_5 R l0 s3 (Value.int IntKind.i64 0) w
def m36_1 (R : VP) (l0 : Value) (w : World) : Prop :=
  m36_2 R l0 (Value.string ⟨#[]⟩) w
def m36_0 (R : VP) (l0 : Value) (w : World) : Prop :=
  m36_1 R l0 w
abbrev W36 := cwp Tryz.prog (fun i => 0)
noncomputable def k36_0 : Code := (bodyOf Tryz.f36)
noncomputable def k36_1 : Code := (c2 k36_0)
noncomputable def k36_2 : Code := (c2 k36_1)
noncomputable def k36_3 : Code := (c2 k36_2)
noncomputable def k36_4 : Code := (c2 k36_3)
noncomputable def k36_5 : Code := (c2 (c1 k36_2))
noncomputable def k36_6 : Code := (c1 (c1 k36_5))
noncomputable def k36_7 : Code := (c2 k36_6)
noncomputable def k36_8 : Code := (c2 k36_7)
noncomputable def k36_9 : Code := (c2 (c1 k36_6))
theorem s36_8 {R : VP} {K1 : (Value × Value) → World → Prop} {Q : EQ} (hN : ∀ e w, (K1 ((e 3), (e 4)) w) → Q .normal e w) (e : Env) (w : World) (h : m36_8 R K1 (e 0) (e 3) (e 4) w) : W36 k36_8 Q e w := by
  unfold m36_8 at h
  exact rgA 4 (fun e w => K1 ((e 3), (e 4)) w) h hN
theorem s36_7 {R : VP} {K1 : (Value × Value) → World → Prop} {Q : EQ} (hN : ∀ e w, (K1 ((e 3), (e 4)) w) → Q .normal e w) (e : Env) (w : World) (h : m36_7 R K1 (e 0) (e 3) (e 4) w) : W36 k36_7 Q e w := by
  unfold m36_7 at h
  refine seA ?_
  have hN : ∀ e w, (m36_8 R K1 (e 0) (e 3) (e 4) w) → (thenE (W36 k36_8 Q) Q) .normal e w := fun e w h => then_N (s36_8 (R := R) (Q := Q) (K1 := K1) hN e w h)
  refine block_ok 1 (by kernel_rfl) ?_
  have hN : ∀ e w, (m36_8 R K1 (e 0) (e 3) (e 4) w) → (inBlockE 1 (thenE (W36 k36_8 Q) Q)) .normal e w := fun e w h => block_N (hN e w h)
  exact rgA 5 (fun e w => m36_8 R K1 (e 0) (e 3) (e 4) w) h hN
theorem s36_4 {R : VP} {Q : EQ} (hR : ∀ e w, (R (e 2) w) → Q .ret e w) (e : Env) (w : World) (h : m36_4 R (e 2) w) : W36 k36_4 Q e w := by
  unfold m36_4 at h
  exact reA (hR _ _ h)
theorem s36_3 {R : VP} {Q : EQ} (hR : ∀ e w, (R (e 2) w) → Q .ret e w) (e : Env) (w : World) (h : m36_3 R (e 3) w) : W36 k36_3 Q e w := by
  unfold m36_3 at h
  refine seA ?_
  have hN : ∀ e w, (m36_4 R (e 2) w) → (thenE (W36 k36_4 Q) Q) .normal e w := fun e w h => then_N (s36_4 (R := R) (Q := Q) hR e w h)
  exact rgA 6 (fun e w => m36_4 R (e 2) w) h hN
theorem s36_9 {R : VP} {K1 : (Value × Value) → World → Prop} {Q : EQ} (hN : ∀ e w, (m36_7 R K1 (e 0) (e 3) (e 4) w) → Q .normal e w) (hX0 : ∀ e w, (m36_3 R (e 3) w) → Q (.exit 0) e w) (e : Env) (w : World) (h : m36_9 R K1 (e 0) (e 3) (e 4) (e 8) w) : W36 k36_9 Q e w := by
  unfold m36_9 at h
  refine coA (Operand.tmp 8) h (fun h1 => ?_) (fun h1 => ?_)
  · exact skA (hN _ _ h1)
  · exact exA 0 (hX0 _ _ h1)
theorem s36_6 {R : VP} {K1 : (Value × Value) → World → Prop} {Q : EQ} (hN : ∀ e w, (K1 ((e 3), (e 4)) w) → Q .normal e w) (hX0 : ∀ e w, (m36_3 R (e 3) w) → Q (.exit 0) e w) (e : Env) (w : World) (h : m36_6 R K1 (e 0) (e 3) (e 4) w) : W36 k36_6 Q e w := by
  unfold m36_6 at h
  refine seA ?_
  have hN : ∀ e w, (m36_7 R K1 (e 0) (e 3) (e 4) w) → (thenE (W36 k36_7 Q) Q) .normal e w := fun e w h => then_N (s36_7 (R := R) (Q := Q) (K1 := K1) hN e w h)
  have hX0 : ∀ e w, (m36_3 R (e 3) w) → (thenE (W36 k36_7 Q) Q) (.exit 0) e w := fun e w h => then_X (hX0 e w h)
  refine seA ?_
  have hN : ∀ e w, (m36_9 R K1 (e 0) (e 3) (e 4) (e 8) w) → (thenE (W36 k36_9 (thenE (W36 k36_7 Q) Q)) (thenE (W36 k36_7 Q) Q)) .normal e w := fun e w h => then_N (s36_9 (R := R) (Q := (thenE (W36 k36_7 Q) Q)) (K1 := K1) hN hX0 e w h)
  exact rgA 3 (fun e w => m36_9 R K1 (e 0) (e 3) (e 4) (e 8) w) h hN
theorem s36_5 {R : VP} {Q : EQ} (hN : ∀ e w, (m36_3 R (e 3) w) → Q .normal e w) (e : Env) (w : World) (h : m36_5 R (e 0) (e 3) (e 4) w) : W36 k36_5 Q e w := by
  unfold m36_5 at h
  refine block_ok 0 (by kernel_rfl) ?_
  have hX0 : ∀ e w, (m36_3 R (e 3) w) → (inBlockE 0 Q) (.exit 0) e w := fun e w h => inBlock_same (Q := Q) 0 (hN e w h)
  refine loop_ok' (fun (e : Env) => (e 3, e 4)) [0] (by kernel_rfl) (by kernel_rfl) h (fun K e' w' hk h' => ?_)
  have r0 : e' 0 = e 0 := hk 0 (by decide)
  have hX0 : ∀ e w, (m36_3 R (e 3) w) → (thenE (fun (e : Env) w => K ((e 3), (e 4)) w) (inBlockE 0 Q)) (.exit 0) e w := fun e w h => then_X (hX0 e w h)
  exact s36_6 (R := R) (Q := (thenE (fun (e : Env) w => K ((e 3), (e 4)) w) (inBlockE 0 Q))) (K1 := K) (fun _ _ h => then_N h) hX0 e' w' (by rw [r0]; exact h')
theorem s36_2 {R : VP} {Q : EQ} (hR : ∀ e w, (R (e 2) w) → Q .ret e w) (e : Env) (w : World) (h : m36_2 R (e 0) (e 3) w) : W36 k36_2 Q e w := by
  unfold m36_2 at h
  refine seA ?_
  have hN : ∀ e w, (m36_3 R (e 3) w) → (thenE (W36 k36_3 Q) Q) .normal e w := fun e w h => then_N (s36_3 (R := R) (Q := Q) hR e w h)
  refine seA ?_
  have hN : ∀ e w, (m36_5 R (e 0) (e 3) (e 4) w) → (thenE (W36 k36_5 (thenE (W36 k36_3 Q) Q)) (thenE (W36 k36_3 Q) Q)) .normal e w := fun e w h => then_N (s36_5 (R := R) (Q := (thenE (W36 k36_3 Q) Q)) hN e w h)
  exact rgA 2 (fun e w => m36_5 R (e 0) (e 3) (e 4) w) h hN
theorem s36_1 {R : VP} {Q : EQ} (hR : ∀ e w, (R (e 2) w) → Q .ret e w) (e : Env) (w : World) (h : m36_1 R (e 0) w) : W36 k36_1 Q e w := by
  unfold m36_1 at h
  refine seA ?_
  have hN : ∀ e w, (m36_2 R (e 0) (e 3) w) → (thenE (W36 k36_2 Q) Q) .normal e w := fun e w h => then_N (s36_2 (R := R) (Q := Q) hR e w h)
  exact rgA 1 (fun e w => m36_2 R (e 0) (e 3) w) h hN
theorem s36_0 {R : VP} {Q : EQ} (hR : ∀ e w, (R (e 2) w) → Q .ret e w) (e : Env) (w : World) (h : m36_0 R (e 0) w) : W36 k36_0 Q e w := by
  unfold m36_0 at h
  refine seA ?_
  have hN : ∀ e w, (m36_1 R (e 0) w) → (thenE (W36 k36_1 Q) Q) .normal e w := fun e w h => then_N (s36_1 (R := R) (Q := Q) hR e w h)
  exact rgA 0 (fun e w => m36_1 R (e 0) w) h hN
abbrev m36 (R : VP) (l0 : Value) (w : World) : Prop := m36_0 R l0 w
theorem s36 (l0 : Value) {R : VP} {w : World} (h : m36 R l0 w) :
    Calls Tryz.prog 36 #[l0] w fun e w' => ∃ v, e = .returned v ∧ R v w' :=
  calls_of_cwp (st := (fun i => 0)) (c := k36_0) (by kernel_rfl) Tryz.func36 (by kernel_rfl) (Nat.le_of_ble_eq_true (by kernel_rfl)) (by kernel_rfl)
    (s36_0 (R := R) (Q := endE Tryz.prog Tryz.f36 R) (fun e w h => kcast (by kernel_rfl) h) (argsE #[l0]) w (kcast (by kernel_rfl) h))
end Go.Proofs.YtcldjjmfpmkldaaGreatDoor.M
namespace Go.Proofs.YtcldjjmfpmkldaaGreatDoor.M
open Go.Proofs.YtcldjjmfpmkldaaGreatDoor.F Go.RowKit
set_option linter.unusedVariables false
set_option linter.unusedSimpArgs false
set_option maxRecDepth 100000
set_option maxHeartbeats 2000000
attribute [local irreducible] Res.cells Res.row Res.map Res.any World.cell? World.frozen? Instr.fieldAt Instr.loadAt Instr.storeAt Instr.indexAt Instr.lookup Instr.mapUpdate Instr.box Instr.build Instr.buildSlice Instr.extract Instr.alloc Instr.field Instr.index Instr.sliceAt Instr.makeSlice Instr.makeMap Instr.makeFunc binS Op.unary Sem.run
open Classical in
/-- those of the first n that are not needless. -/
noncomputable def cleanN (l : List Gt) (upto : Int) : Nat → List Gt
  | 0 => []
  | n + 1 => if h : n < l.length then (if Needless l n upto then cleanN l upto n else cleanN l upto n ++ [l[n]]) else cleanN l upto n
theorem cleanN_len (l : List Gt) (upto : Int) : ∀ n, (cleanN l upto n).length ≤ n
  | 0 => Nat.le_refl _
  | n + 1 => by
    have := cleanN_len l upto n
    unfold cleanN
    split
    · split
      · omega
      · rw [List.length_append]; simp; omega
    · omega
theorem cleanN_skip {l : List Gt} {upto : Int} {n : Nat} (h : Needless l n upto) : cleanN l upto (n + 1) = cleanN l upto n := by
  rw [cleanN, dif_pos h.1, if_pos h]
theorem cleanN_take {l : List Gt} {upto : Int} {n : Nat} (hn : n < l.length) (h : ¬ Needless l n upto) : cleanN l upto (n + 1) = cleanN l upto n ++ [l[n]] := by
  rw [cleanN, dif_pos hn, if_neg h]
section
variable {w0 w : World} {F : List Nat} {L : List Res} {l l2 : List Gt} {A A2 : Option Addr} {c c2 : Nat} {upto : Int}
theorem gt_ext {a b : Gt} : a = b ↔ a.off = b.off ∧ a.r.key = b.r.key ∧ a.r.time = b.r.time ∧ a.r.text = b.r.text := by
  obtain ⟨o, k, t, s⟩ := a
  obtain ⟨o2, k2, t2, s2⟩ := b
  simp
theorem samegot_ret (hm : l.length ≤ 1000000) (hm2 : l2.length ≤ 1000000) (hE : BG w0 F L A l) (hE2 : BG w0 F L A2 l2) (hS : St w0 F w L) : Ret Tryz.prog 13 #[.slice A l.length c, .slice A2 l2.length c2] w fun v w' => (∃ t, v = .bool t ∧ (t = true ↔ l = l2)) ∧ St w0 F w' L := by
  refine s13 _ _ ?_
  unfold m13 m13_0
  unfold m13_1
  refine builtin_ok (len22 _) ?_
  refine builtin_ok (len22 _) ?_
  refine valP_ok (ne3 _ _ _ _ _) ?_
  unfold m13_12
  refine cond_split (fun h => ?_) (fun h => ?_)
  · unfold m13_13
    exact ⟨⟨_, rfl, ⟨fun h => (by cases h), fun h1 => absurd (congrArg (fun l : List Gt => (l.length : Int)) h1) h⟩⟩, hS⟩
  · have hl : l.length = l2.length := by omega
    unfold m13_2 m13_5
    refine loop_in (fun u w' => ∃ i : Nat, u = .int .i64 (i : Int) ∧ i ≤ l.length ∧ (∀ j (h1 : j < l.length) (h2 : j < l2.length), j < i → l[j] = l2[j]) ∧ St w0 F w' L) (fun u _ => l.length - (intOf u).toNat) ⟨0, rfl, by omega, fun j _ _ h => by omega, hS⟩ ?_
    clear hS
    rintro u w ⟨i, rfl, hi, hno, hS⟩
    unfold m13_6
    refine builtin_ok (len22 _) ?_
    refine valP_ok (lss_ok _ _ _ _ _ _ _) ?_
    unfold m13_11
    refine cond_split (fun h1 => ?_) (fun h1 => ?_)
    · have hil : i < l.length := by omega
      have hil2 : i < l2.length := by omega
      obtain ⟨b, o, rfl⟩ := (hE.rd hS).some_ (by omega) (by omega)
      obtain ⟨b2, o2, rfl⟩ := (hE2.rd hS).some_ (by omega) (by omega)
      have p := g_at (hE.rd hS) hil
      have p2 := g_at (hE2.rd hS) hil2
      unfold m13_7
      refine valQ_ok (ix22 hil) ?_
      refine valQ_at (fun n => ld58 (cellD p.1 n) (cellD p.2.1 n) (cellD p.2.2.1 n) (cellD p.2.2.2 n)) ?_
      refine valQ_ok (ix22 hil2) ?_
      refine valQ_at (fun n => ld58 (cellD p2.1 n) (cellD p2.2.1 n) (cellD p2.2.2.1 n) (cellD p2.2.2.2 n)) ?_
      refine valQ_ok (ne58 _ _ _ _ _ _ _ _ _ _) ?_
      refine drawn_ok hS ?_
      intro w hS
      unfold m13_9
      refine cond_split (fun h2 => ?_) (fun h2 => ?_)
      · unfold m13_10
        refine ⟨⟨_, rfl, ⟨fun h => (by cases h), fun h3 => ?_⟩⟩, hS⟩
        subst h3
        exact absurd ⟨rfl, rfl, rfl, rfl⟩ h2
      · unfold m13_8
        refine valP_ok (add_ok _ _ _ (by omega) (by omega) _) ?_
        refine ⟨⟨i + 1, rfl, by omega, fun j h3 h4 h5 => ?_, hS⟩, by simp [intOf]; omega⟩
        rcases Nat.lt_or_ge j i with g | g
        · exact hno j h3 h4 g
        · obtain rfl : j = i := by omega
          exact gt_ext.2 (Classical.not_not.1 h2)
    · unfold m13_3 m13_4
      exact ⟨⟨_, rfl, ⟨fun _ => List.ext_getElem hl fun j h2 h3 => hno j h2 h3 (by omega), fun _ => rfl⟩⟩, hS⟩
end
end Go.Proofs.YtcldjjmfpmkldaaGreatDoor.M
namespace Go.Proofs.YtcldjjmfpmkldaaGreatDoor.M
open Go.Proofs.YtcldjjmfpmkldaaGreatDoor.F Go.RowKit
set_option linter.unusedVariables false
set_option linter.unusedSimpArgs false
set_option maxRecDepth 100000
set_option maxHeartbeats 2000000
attribute [local irreducible] Res.cells Res.row Res.map Res.any World.cell? World.frozen? Instr.fieldAt Instr.loadAt Instr.storeAt Instr.indexAt Instr.lookup Instr.mapUpdate Instr.box Instr.build Instr.buildSlice Instr.extract Instr.alloc Instr.field Instr.index Instr.sliceAt Instr.makeSlice Instr.makeMap Instr.makeFunc binS Op.unary Sem.run
theorem laidOutP : laidOutB Tryz.prog = true := by kernel_rfl
theorem wideR : (match Tryz.prog.underlying 56 with | some (.array _ _) | some (.struct _) => true | _ => false) = true := by rw [Tryz.underlying56]
theorem lawR : Go.Maps.Keyed Tryz.prog 56 := Go.Maps.Keyed.of_law (deep_law_laid laidOutP (m := 2) (by omega) (of_decide_eq_true (by kernel_rfl)) (by kernel_rfl) wideR)
theorem cells38 : Tryz.prog.cellsOf 56 = 3 := by kernel_rfl
theorem cells3 : Tryz.prog.cellsOf 3 = 1 := by kernel_rfl
theorem cells9 : Tryz.prog.cellsOf 9 = 1 := by kernel_rfl
theorem keyRB : Tryz.prog.keyType 56 = true := by kernel_rfl
theorem sizeTypes : ∃ m, Tryz.prog.types.size = m + 1 := by
  refine ⟨Tryz.prog.types.size - 1, ?_⟩
  have : decide (1 ≤ Tryz.prog.types.size) = true := by kernel_rfl
  have := of_decide_eq_true this
  omega
/-- its numbers are numbers. -/
def RcOk (r : Rc) : Prop := (-9223372036854775808 ≤ r.key ∧ r.key ≤ 9223372036854775807) ∧ (-9223372036854775808 ≤ r.time ∧ r.time ≤ 9223372036854775807) ∧ r.text.size ≤ maxLen
theorem wfI {x : Int} (h : -9223372036854775808 ≤ x ∧ x ≤ 9223372036854775807) : (Lit.int .i64 x).wf = true := by
  simp only [Lit.wf, Bool.and_eq_true, decide_eq_true_eq]
  exact h
theorem keyRc {r : Rc} (h : RcOk r) : ∃ l, keyOf Tryz.prog 56 (rv r) = some l := by
  obtain ⟨m, hm⟩ := sizeTypes
  refine ⟨.string (keyBytes [.int .i64 r.key, .int .i64 r.time, .string r.text.data.toList]), ?_⟩
  unfold keyOf
  rw [Tryz.underlying56]
  simp only [keyRB, Bool.true_and]
  rw [if_pos (by simp [Value.formed, Tryz.underlying56, cells38]), hm]
  simp only [Program.keyLits, Tryz.underlying56, Value.cells, cells38, cells3, cells9, Tryz.underlying3, Tryz.underlying9]
  simp [wfI h.1, wfI h.2.1, h.2.2, cells3, cells9]
end Go.Proofs.YtcldjjmfpmkldaaGreatDoor.M
namespace Go.Proofs.YtcldjjmfpmkldaaGreatDoor.M
open Go.Proofs.YtcldjjmfpmkldaaGreatDoor.F Go.RowKit
set_option linter.unusedVariables false
set_option linter.unusedSimpArgs false
set_option maxRecDepth 100000
set_option maxHeartbeats 2000000
attribute [local irreducible] Res.cells Res.row Res.map Res.any World.cell? World.frozen? Instr.fieldAt Instr.loadAt Instr.storeAt Instr.indexAt Instr.lookup Instr.mapUpdate Instr.box Instr.build Instr.buildSlice Instr.extract Instr.alloc Instr.field Instr.index Instr.sliceAt Instr.makeSlice Instr.makeMap Instr.makeFunc binS Op.unary Sem.run
/-- it is ahead of the offset, and about this. -/
def Qual (l : List Gt) (upto : Int) (x : Rc) (j : Nat) : Prop := ∃ h : j < l.length, l[j].off < upto ∧ aboutR l[j].r = some x
open Classical in
noncomputable def lastI (l : List Gt) (upto : Int) (x : Rc) : Nat → Option Nat
  | 0 => none
  | i + 1 => if Qual l upto x i then some i else lastI l upto x i
theorem lastI_some {l : List Gt} {upto : Int} {x : Rc} : ∀ {n j}, lastI l upto x n = some j → j < n ∧ Qual l upto x j ∧ ∀ k, j < k → k < n → ¬ Qual l upto x k
  | 0, j, h => by cases h
  | n + 1, j, h => by
    unfold lastI at h
    split at h
    · obtain rfl := Option.some.inj h
      exact ⟨by omega, by assumption, fun k h1 h2 => by omega⟩
    · rename_i hq
      obtain ⟨h1, h2, h3⟩ := lastI_some h
      refine ⟨by omega, h2, fun k h4 h5 => ?_⟩
      rcases Nat.lt_or_ge k n with g | g
      · exact h3 k h4 g
      · obtain rfl : k = n := by omega
        exact hq
theorem lastI_none {l : List Gt} {upto : Int} {x : Rc} : ∀ {n}, lastI l upto x n = none → ∀ k, k < n → ¬ Qual l upto x k
  | 0, h, k, hk => by omega
  | n + 1, h, k, hk => by
    unfold lastI at h
    split at h
    · cases h
    · rename_i hq
      rcases Nat.lt_or_ge k n with g | g
      · exact lastI_none h k g
      · obtain rfl : k = n := by omega
        exact hq
theorem last_ne {l : List Gt} {upto : Int} {x : Rc} {i : Nat} (hi : i < l.length) (hq : Qual l upto x i) : ¬ ((lastI l upto x l.length).getD 0 = i) ↔ ∃ k, i < k ∧ Qual l upto x k := by
  cases h : lastI l upto x l.length with
  | none => exact absurd hq (lastI_none h i hi)
  | some j =>
    obtain ⟨h1, h2, h3⟩ := lastI_some h
    show ¬ j = i ↔ _
    constructor
    · intro hne
      refine ⟨j, ?_, h2⟩
      rcases Nat.lt_trichotomy j i with g | g | g
      · exact absurd hq (h3 i g hi)
      · exact absurd g hne
      · exact g
    · rintro ⟨k, hk, hqk⟩ rfl
      exact h3 k hk hqk.1 hqk
theorem kind_put2 : kindS (putS 2) = 2 := by
  unfold kindS
  rw [takeS_L, bytesN_putS]
  have h := takeL_put 2 [] (by omega) (by omega)
  rw [List.append_nil] at h
  rw [h]
  rfl
theorem needless_iff {l : List Gt} {upto : Int} {i : Nat} (hi : i < l.length) : Needless l i upto ↔ ∃ x, Qual l upto x i ∧ (¬ ((lastI l upto x l.length).getD 0 = i) ∨ l[i].r.text = putS 2) := by
  constructor
  · rintro ⟨h, h1, h2⟩
    rcases h2 with h2 | ⟨k, hk, h3, h4, h5⟩
    · have hk2 := kind_put2
      rw [← h2] at hk2
      obtain ⟨x, hx⟩ : ∃ x, aboutR l[i].r = some x := by
        unfold aboutR
        rw [hk2]
        exact ⟨_, rfl⟩
      exact ⟨x, ⟨hi, h1, hx⟩, .inr h2⟩
    · obtain ⟨x, hx1, hx2⟩ := (same_about _ _).1 h5
      have hq : Qual l upto x i := ⟨hi, h1, hx1⟩
      exact ⟨x, hq, .inl ((last_ne hi hq).2 ⟨k, h3, hk, h4, hx2⟩)⟩
  · rintro ⟨x, hq, h⟩
    refine ⟨hi, hq.2.1, ?_⟩
    rcases h with h | h
    · obtain ⟨k, h3, hk, h4, h5⟩ := (last_ne hi hq).1 h
      exact .inr ⟨k, hk, h3, h4, (same_about _ _).2 ⟨x, hq.2.2, h5⟩⟩
    · exact .inl h
abbrev mapR (b n : Nat) (M : Value → Option Value) : Res := Res.map Tryz.prog 56 (plainElem Tryz.prog 3) b n M
theorem plain3_apart : Elem.apart (plainElem (H := Unit) Tryz.prog 3) := fun u v d p q h1 h2 => by
  obtain ⟨a, rfl, e1, _⟩ := plainElem_int_inv Tryz.underlying3 h1
  obtain ⟨b, rfl, e2, _⟩ := plainElem_int_inv Tryz.underlying3 h2
  simp only [Prod.mk.injEq] at e1 e2
  have := e1.1.symm.trans e2.1
  simp only [DataW.lit.injEq, Lit.int.injEq] at this
  rw [this.2]
def MOk (l : List Gt) (upto : Int) (i : Nat) (M : Value → Option Value) : Prop := ∀ x, RcOk x → M (rv x) = (lastI l upto x i).map fun j => .int .i64 (j : Int)
def GtOk (g : Gt) : Prop := (-9223372036854775808 ≤ g.r.key ∧ g.r.key ≤ 9223372036854775807) ∧ -9223372036854775808 ≤ g.r.time ∧ g.r.time ≤ 9223372036854775807
theorem about_ok {g : Gt} (h : GtOk g) {x : Rc} (hx : aboutR g.r = some x) : RcOk x := by
  unfold aboutR at hx
  split at hx
  · cases hx
  · split at hx
    · obtain rfl := Option.some.inj hx
      refine ⟨?_, ?_, ?_⟩ <;> simp only
      · omega
      · omega
      · show (6 : Nat) ≤ maxLen
        unfold maxLen; omega
    · obtain rfl := Option.some.inj hx
      refine ⟨h.1, h.2, ?_⟩
      show (0 : Nat) ≤ maxLen
      omega
theorem rv_inj {a b : Rc} (h : rv a = rv b) : a = b := by
  obtain ⟨k, t, s⟩ := a
  obtain ⟨k2, t2, s2⟩ := b
  simp only [Value.agg.injEq, Array.mk.injEq, List.cons.injEq, Value.int.injEq, Value.string.injEq, true_and, and_true] at h
  obtain ⟨rfl, rfl, rfl⟩ := h
  rfl
theorem MOk.skip {l : List Gt} {upto : Int} {i : Nat} {M : Value → Option Value} (h : MOk l upto i M) (hn : ∀ x, ¬ Qual l upto x i) : MOk l upto (i + 1) M := fun x hx => by
  rw [lastI, if_neg (hn x)]
  exact h x hx
theorem MOk.put {l : List Gt} {upto : Int} {i : Nat} {M : Value → Option Value} (h : MOk l upto i M) {x : Rc} (hq : Qual l upto x i) : MOk l upto (i + 1) (updV M (rv x) (some (.int .i64 (i : Int)))) := fun y hy => by
  by_cases e : y = x
  · subst e
    rw [updV_same, lastI, if_pos hq]
    rfl
  · rw [updV_other (fun h => e (rv_inj h)), lastI, if_neg (fun h2 => e (Option.some.inj (h2.2.2.symm.trans hq.2.2)))]
    exact h y hy
section
variable {w0 w : World} {F : List Nat} {L : List Res} {l : List Gt} {A : Option Addr} {c : Nat} {upto : Int}
theorem clean_ret (hm : l.length ≤ 100000) (hg : ∀ g ∈ l, GtOk g) (hE : BG w0 F L A l) (hS : St w0 F w L) : Ret Tryz.prog 38 #[.slice A l.length c, .int .i64 upto] w fun v w' => ∃ A' c', v = .slice A' (cleanN l upto l.length).length c' ∧ St w0 F w' (grow A' c' (cleanN l upto l.length) :: L) := by
  refine s38 _ _ ?_
  unfold m38 m38_0 m38_1
  refine makeMap_ok 56 (plainElem Tryz.prog 3) hS ?_
  intro b w hS
  unfold m38_2
  refine builtin_ok (len22 _) ?_
  unfold m38_16
  refine loop_in (fun u w' => ∃ (i n : Nat) (M : Value → Option Value), u = .int .i64 (i : Int) ∧ i ≤ l.length ∧ n ≤ i ∧ MOk l upto i M ∧ St w0 F w' (mapR b n M :: L)) (fun u _ => l.length - (intOf u).toNat) ⟨0, 0, _, rfl, by omega, by omega, fun x hx => rfl, hS⟩ ?_
  clear hS
  rintro u w ⟨i, n, M, rfl, hi, hn, hM, hS⟩
  unfold m38_17
  refine valP_ok (lss_ok _ _ _ _ _ _ _) ?_
  unfold m38_18
  refine cond_split (fun h => ?_) (fun h => ?_)
  · have hil : i < l.length := by omega
    have hgi := hg _ (List.getElem_mem hil)
    obtain ⟨gb, o, rfl⟩ := (hE.rd1 hS).some_ (by omega) (by omega)
    have p := g_at (hE.rd1 hS) hil
    unfold m38_19
    refine valP_ok (ix22 hil _) ?_
    refine valP_ok (ld58 p.1 p.2.1 p.2.2.1 p.2.2.2) ?_
    refine new_ok (al58 _) hS ?_
    intro b7 w hS
    first | refine ss58 0 hS rfl rfl rfl rfl rfl ?_ | refine ss58 1 hS rfl rfl rfl rfl rfl ?_ | refine ss58 2 hS rfl rfl rfl rfl rfl ?_ | refine ss58 3 hS rfl rfl rfl rfl rfl ?_ | refine ss58 4 hS rfl rfl rfl rfl rfl ?_ | refine ss58 5 hS rfl rfl rfl rfl rfl ?_ | refine ss58 6 hS rfl rfl rfl rfl rfl ?_ | refine ss58 7 hS rfl rfl rfl rfl rfl ?_
    intro w hS
    simp only [List.set_cons_zero, List.set_cons_succ] at hS
    unfold m38_21
    refine valP_ok (fa58_1 _ _) ?_
    refine valP_ok (ld56 (hS.cell 0 rfl rfl) (hS.cell 0 rfl rfl) (hS.cell 0 rfl rfl)) ?_
    refine callR (by kernel_rfl) (about_ret (r := l[i].r) hS) ?_
    rintro _ w ⟨rfl, hS⟩
    refine valP_ok (extract_ok _ 0 rfl _) ?_
    refine valP_ok (extract_ok _ 1 rfl _) ?_
    refine new_ok (al56 _) hS ?_
    intro b8 w hS
    first | refine ss56 0 hS rfl rfl rfl rfl ?_ | refine ss56 1 hS rfl rfl rfl rfl ?_ | refine ss56 2 hS rfl rfl rfl rfl ?_ | refine ss56 3 hS rfl rfl rfl rfl ?_ | refine ss56 4 hS rfl rfl rfl rfl ?_ | refine ss56 5 hS rfl rfl rfl rfl ?_ | refine ss56 6 hS rfl rfl rfl rfl ?_ | refine ss56 7 hS rfl rfl rfl rfl ?_
    intro w hS
    simp only [List.set_cons_zero, List.set_cons_succ] at hS
    have noq : aboutR l[i].r = none → ∀ x, ¬ Qual l upto x i := fun hn x hq => by
      have := hq.2.2
      rw [hn] at this
      cases this
    cases ha : aboutR l[i].r with
    | none =>
      unfold m38_22
      refine cond_f rfl ?_
      first | refine pick_dt (by first | assumption | omega) ?_ | refine pick_df (by first | assumption | omega) ?_ | refine pick_t (by first | rfl | assumption) ?_ | refine pick_f (by first | rfl | assumption) ?_ | refine pick_dt rfl ?_ | refine pick_df (not_not_intro rfl) ?_
      unfold m38_23
      refine cond_f rfl ?_
      unfold m38_20
      refine valP_ok (add_ok _ _ _ (by omega) (by omega) _) ?_
      exact ⟨⟨i + 1, n, M, rfl, by omega, by omega, hM.skip (noq ha), hS.tail.tail⟩, by simp [intOf]; omega⟩
    | some x =>
      rw [ha] at hS
      obtain ⟨lk, hlk⟩ := keyRc (about_ok hgi ha)
      unfold m38_22
      refine cond_t rfl ?_
      first | refine valP_ok (fa58_0 _ _) ?_ | refine valP_ok (fao58_0 _ _ _) ?_
      first | refine valP_ok (ld3 (hS.cell 0 rfl rfl)) ?_ | refine valP_ok (ld3 (hS.cell 1 rfl rfl)) ?_ | refine valP_ok (ld3 (hS.cell 2 rfl rfl)) ?_ | refine valP_ok (ld3 (hS.cell 3 rfl rfl)) ?_ | refine valP_ok (ld3 (hS.cell 4 rfl rfl)) ?_ | refine valP_ok (ld3 (hS.cell 5 rfl rfl)) ?_ | refine valP_ok (ld3 (hS.cell 6 rfl rfl)) ?_ | refine valP_ok (ld3 (hS.cell 7 rfl rfl)) ?_ | refine valP_ok (ld3 (by assumption)) ?_
      refine valP_ok (lss_ok _ _ _ _ _ _ _) ?_
      first | refine pick_dt (by first | assumption | omega) ?_ | refine pick_df (by first | assumption | omega) ?_ | refine pick_t (by first | rfl | assumption) ?_ | refine pick_f (by first | rfl | assumption) ?_ | refine pick_dt rfl ?_ | refine pick_df (not_not_intro rfl) ?_
      unfold m38_23
      refine cond_split (fun h1 => ?_) (fun h1 => ?_)
      · first | refine ls56 0 hS rfl ?_ | refine ls56 1 hS rfl ?_ | refine ls56 2 hS rfl ?_ | refine ls56 3 hS rfl ?_ | refine ls56 4 hS rfl ?_ | refine ls56 5 hS rfl ?_ | refine ls56 6 hS rfl ?_ | refine ls56 7 hS rfl ?_ | refine valP_ok (ld56 (by assumption) (by assumption) (by assumption)) ?_
        refine mapUpdate_at 2 hS rfl lawR Tryz.underlying118 (by unfold maxLen; omega) hlk (plainElem_int Tryz.underlying3 (wfI (by omega))) ?_
        intro w hS
        simp only [List.set_cons_zero, List.set_cons_succ] at hS
        unfold m38_20
        refine valP_ok (add_ok _ _ _ (by omega) (by omega) _) ?_
        exact ⟨⟨i + 1, n + 1, _, rfl, by omega, by omega, hM.put ⟨hil, h1, ha⟩, hS.tail.tail⟩, by simp [intOf]; omega⟩
      · unfold m38_20
        refine valP_ok (add_ok _ _ _ (by omega) (by omega) _) ?_
        exact ⟨⟨i + 1, n, M, rfl, by omega, by omega, hM.skip (fun x hq => h1 hq.2.1), hS.tail.tail⟩, by simp [intOf]; omega⟩
  · obtain rfl : i = l.length := by omega
    unfold m38_3
    unfold m38_4
    refine builtin_ok (len22 _) ?_
    unfold m38_7
    refine loop_in (fun u w' => ∃ (i : Nat) (A' : Option Addr) (c' : Nat), u = (.slice A' (cleanN l upto i).length c', .int .i64 (i : Int)) ∧ i ≤ l.length ∧ St w0 F w' (grow A' c' (cleanN l upto i) :: mapR b n M :: L)) (fun u _ => l.length - (intOf u.2).toNat) ⟨0, none, 0, rfl, by omega, hS.row_nil 58 4⟩ ?_
    clear hS hi h
    rintro u w ⟨i, A', c', rfl, hi, hS⟩
    simp only
    have hlen := cleanN_len l upto i
    unfold m38_8
    refine valP_ok (lss_ok _ _ _ _ _ _ _) ?_
    unfold m38_9
    refine cond_split (fun h => ?_) (fun h => ?_)
    · have hil : i < l.length := by omega
      have hgi := hg _ (List.getElem_mem hil)
      obtain ⟨gb, o, rfl⟩ := ((hE.cons _).rd1 hS).some_ (by omega) (by omega)
      have p := g_at ((hE.cons _).rd1 hS) hil
      unfold m38_10
      refine valP_ok (ix22 hil _) ?_
      refine valP_ok (ld58 p.1 p.2.1 p.2.2.1 p.2.2.2) ?_
      refine new_ok (al58 _) hS ?_
      intro b12 w hS
      first | refine ss58 0 hS rfl rfl rfl rfl rfl ?_ | refine ss58 1 hS rfl rfl rfl rfl rfl ?_ | refine ss58 2 hS rfl rfl rfl rfl rfl ?_ | refine ss58 3 hS rfl rfl rfl rfl rfl ?_ | refine ss58 4 hS rfl rfl rfl rfl rfl ?_ | refine ss58 5 hS rfl rfl rfl rfl rfl ?_ | refine ss58 6 hS rfl rfl rfl rfl rfl ?_ | refine ss58 7 hS rfl rfl rfl rfl rfl ?_
      intro w hS
      simp only [List.set_cons_zero, List.set_cons_succ] at hS
      have leaf : ∀ (K1 : Value × Value → World → Prop), (∀ w' A' c', St w0 F w' (grow A' c' (cleanN l upto (i + 1)) :: mapR b n M :: L) → K1 (.slice A' (cleanN l upto (i + 1)).length c', .int .i64 ((i + 1 : Nat) : Int)) w') → ∀ t : Bool, (t = true ↔ Needless l i upto) → ∀ w ba (ra : Rc), St w0 F w (Res.cells ba 56 (encR ra) :: Res.cells b12 58 (encG l[i]) :: grow A' c' (cleanN l upto i) :: mapR b n M :: L) → m38_15 (fun v w' => ∃ A' c', v = .slice A' (cleanN l upto l.length).length c' ∧ St w0 F w' (grow A' c' (cleanN l upto l.length) :: L)) K1 (.int .i64 upto) (.map (some b)) (.slice A' (cleanN l upto i).length c') (.pointer (some ⟨b12, 0, none⟩)) (.slice (some ⟨gb, o, none⟩) l.length c) (.int .i64 (l.length : Int)) (.int .i64 (i : Int)) (.bool t) w := fun K1 hK t ht w ba ra hS => by
        unfold m38_15
        cases t with
        | true =>
          have hn := ht.1 rfl
          have h1 := hK w A' c' (by rw [cleanN_skip hn]; exact hS.tail.tail)
          rw [cleanN_skip hn] at h1
          refine cond_t rfl ?_
          unfold m38_11
          refine valP_ok (add_ok _ _ _ (by omega) (by omega) _) ?_
          exact h1
        | false =>
          have hn : ¬ Needless l i upto := fun h => by have := ht.2 h; cases this
          refine cond_f rfl ?_
          unfold m38_14
          first | refine ls58 0 hS rfl ?_ | refine ls58 1 hS rfl ?_ | refine ls58 2 hS rfl ?_ | refine ls58 3 hS rfl ?_ | refine ls58 4 hS rfl ?_ | refine ls58 5 hS rfl ?_ | refine ls58 6 hS rfl ?_ | refine ls58 7 hS rfl ?_ | refine valP_ok (ld58 (by assumption) (by assumption) (by assumption) (by assumption)) ?_
          refine newslice_ok (bs22_1 _) hS ?_
          intro b74 w hS
          refine append_one1 (enc := encG) 2 l[i] sl22 encG_len encG_one (by unfold maxLen; omega) (by omega) hS rfl ?_
          intro A' c' w' hS
          simp only [List.set_cons_zero, List.set_cons_succ] at hS
          have h1 := hK w' A' c' (by rw [cleanN_take hil hn]; exact hS.tail.tail)
          rw [cleanN_take hil hn] at h1
          unfold m38_11
          refine valP_ok (add_ok _ _ _ (by omega) (by omega) _) ?_
          exact h1
      unfold m38_12
      refine valP_ok (fa58_1 _ _) ?_
      refine valP_ok (ld56 (hS.cell 0 rfl rfl) (hS.cell 0 rfl rfl) (hS.cell 0 rfl rfl)) ?_
      refine callR (by kernel_rfl) (about_ret (r := l[i].r) hS) ?_
      rintro _ w ⟨rfl, hS⟩
      refine valP_ok (extract_ok _ 0 rfl _) ?_
      refine valP_ok (extract_ok _ 1 rfl _) ?_
      refine new_ok (al56 _) hS ?_
      intro b13 w hS
      first | refine ss56 0 hS rfl rfl rfl rfl ?_ | refine ss56 1 hS rfl rfl rfl rfl ?_ | refine ss56 2 hS rfl rfl rfl rfl ?_ | refine ss56 3 hS rfl rfl rfl rfl ?_ | refine ss56 4 hS rfl rfl rfl rfl ?_ | refine ss56 5 hS rfl rfl rfl rfl ?_ | refine ss56 6 hS rfl rfl rfl rfl ?_ | refine ss56 7 hS rfl rfl rfl rfl ?_
      intro w hS
      simp only [List.set_cons_zero, List.set_cons_succ] at hS
      unfold m38_13
      first | refine valP_ok (fa58_0 _ _) ?_ | refine valP_ok (fao58_0 _ _ _) ?_
      first | refine valP_ok (ld3 (hS.cell 0 rfl rfl)) ?_ | refine valP_ok (ld3 (hS.cell 1 rfl rfl)) ?_ | refine valP_ok (ld3 (hS.cell 2 rfl rfl)) ?_ | refine valP_ok (ld3 (hS.cell 3 rfl rfl)) ?_ | refine valP_ok (ld3 (hS.cell 4 rfl rfl)) ?_ | refine valP_ok (ld3 (hS.cell 5 rfl rfl)) ?_ | refine valP_ok (ld3 (hS.cell 6 rfl rfl)) ?_ | refine valP_ok (ld3 (hS.cell 7 rfl rfl)) ?_ | refine valP_ok (ld3 (by assumption)) ?_
      refine valP_ok (lss_ok _ _ _ _ _ _ _) ?_
      have noq : aboutR l[i].r = none → ¬ Needless l i upto := fun hn h => by
        obtain ⟨x, hq, _⟩ := (needless_iff hil).1 h
        have := hq.2.2
        rw [hn] at this
        cases this
      have fin : ∀ w' A' c', St w0 F w' (grow A' c' (cleanN l upto (i + 1)) :: mapR b n M :: L) → (∃ (i : Nat) (A'' : Option Addr) (c'' : Nat), (Value.slice A' (cleanN l upto (i + 1)).length c', Value.int .i64 ((i + 1 : Nat) : Int)) = (Value.slice A'' (cleanN l upto i).length c'', Value.int .i64 (i : Int)) ∧ i ≤ l.length ∧ St w0 F w' (grow A'' c'' (cleanN l upto i) :: mapR b n M :: L)) ∨ True := fun _ _ _ _ => .inr trivial
      clear fin
      refine cond_split (fun h1 => ?_) (fun h1 => ?_)
      · first | refine pick_dt (by first | assumption | omega) ?_ | refine pick_df (by first | assumption | omega) ?_ | refine pick_t (by first | rfl | assumption) ?_ | refine pick_f (by first | rfl | assumption) ?_ | refine pick_dt rfl ?_ | refine pick_df (not_not_intro rfl) ?_
        cases ha : aboutR l[i].r with
        | none =>
          refine cond_f rfl ?_
          first | refine pick_dt (by first | assumption | omega) ?_ | refine pick_df (by first | assumption | omega) ?_ | refine pick_t (by first | rfl | assumption) ?_ | refine pick_f (by first | rfl | assumption) ?_ | refine pick_dt rfl ?_ | refine pick_df (not_not_intro rfl) ?_
          exact leaf _ (fun w' A' c' hS => ⟨⟨i + 1, A', c', rfl, by omega, hS⟩, by simp [intOf]; omega⟩) false ⟨fun h => (by cases h), fun h => absurd h (noq ha)⟩ _ _ _ hS
        | some x =>
          rw [ha] at hS
          have hxo := about_ok hgi ha
          obtain ⟨lk, hlk⟩ := keyRc hxo
          have hq : Qual l upto x i := ⟨hil, h1, ha⟩
          have hnl : Needless l i upto ↔ (¬ ((lastI l upto x l.length).getD 0 = i) ∨ l[i].r.text = putS 2) := by
            rw [needless_iff hil]
            constructor
            · rintro ⟨y, hy, h⟩
              obtain rfl := Option.some.inj (hy.2.2.symm.trans ha)
              exact h
            · exact fun h => ⟨x, hq, h⟩
          refine cond_t rfl ?_
          first | refine ls56 0 hS rfl ?_ | refine ls56 1 hS rfl ?_ | refine ls56 2 hS rfl ?_ | refine ls56 3 hS rfl ?_ | refine ls56 4 hS rfl ?_ | refine ls56 5 hS rfl ?_ | refine ls56 6 hS rfl ?_ | refine ls56 7 hS rfl ?_ | refine valP_ok (ld56 (by assumption) (by assumption) (by assumption)) ?_
          have hmv : MapV Tryz.prog 56 (plainElem Tryz.prog 3) b n M w := by
            have h := hS.get 3 rfl
            unfold mapR Res.map at h
            exact h
          have hlook : (Instr.lookup 118 (.map (some b)) (rv x) false).run Tryz.prog w = .ok (.int .i64 ((lastI l upto x l.length).getD 0 : Nat)) w := by
            rw [hmv.lookup plain3_apart lawR Tryz.underlying118 (z := .int .i64 0) (by simp [go_sem]) (plainElem_int Tryz.underlying3 (wfI (by omega))) hlk, hM x hxo]
            cases lastI l upto x l.length <;> rfl
          refine valP_ok hlook ?_
          refine valP_ok (ne3 _ _ _ _ _) ?_
          refine cond_split (fun h2 => ?_) (fun h2 => ?_)
          · first | refine pick_dt (by first | assumption | omega) ?_ | refine pick_df (by first | assumption | omega) ?_ | refine pick_t (by first | rfl | assumption) ?_ | refine pick_f (by first | rfl | assumption) ?_ | refine pick_dt rfl ?_ | refine pick_df (not_not_intro rfl) ?_
            first | refine pick_dt (by first | assumption | omega) ?_ | refine pick_df (by first | assumption | omega) ?_ | refine pick_t (by first | rfl | assumption) ?_ | refine pick_f (by first | rfl | assumption) ?_ | refine pick_dt rfl ?_ | refine pick_df (not_not_intro rfl) ?_
            exact leaf _ (fun w' A' c' hS => ⟨⟨i + 1, A', c', rfl, by omega, hS⟩, by simp [intOf]; omega⟩) true ⟨fun _ => hnl.2 (.inl (by omega)), fun _ => rfl⟩ _ _ _ hS
          · refine valP_ok (fa58_1 _ _) ?_
            refine valP_ok (ld56 (hS.cell 1 rfl rfl) (hS.cell 1 rfl rfl) (hS.cell 1 rfl rfl)) ?_
            refine callR (by kernel_rfl) (gone_ret (r := l[i].r) hS) ?_
            rintro _ w ⟨rfl, hS⟩
            first | refine pick_dt (by first | assumption | omega) ?_ | refine pick_df (by first | assumption | omega) ?_ | refine pick_t (by first | rfl | assumption) ?_ | refine pick_f (by first | rfl | assumption) ?_ | refine pick_dt rfl ?_ | refine pick_df (not_not_intro rfl) ?_
            first | refine pick_dt (by first | assumption | omega) ?_ | refine pick_df (by first | assumption | omega) ?_ | refine pick_t (by first | rfl | assumption) ?_ | refine pick_f (by first | rfl | assumption) ?_ | refine pick_dt rfl ?_ | refine pick_df (not_not_intro rfl) ?_
            refine leaf _ (fun w' A' c' hS => ⟨⟨i + 1, A', c', rfl, by omega, hS⟩, by simp [intOf]; omega⟩) _ ?_ _ _ _ hS
            rw [decide_eq_true_eq, hnl]
            exact ⟨.inr, fun h => h.resolve_left (by omega)⟩
      · first | refine pick_dt (by first | assumption | omega) ?_ | refine pick_df (by first | assumption | omega) ?_ | refine pick_t (by first | rfl | assumption) ?_ | refine pick_f (by first | rfl | assumption) ?_ | refine pick_dt rfl ?_ | refine pick_df (not_not_intro rfl) ?_
        refine cond_f rfl ?_
        first | refine pick_dt (by first | assumption | omega) ?_ | refine pick_df (by first | assumption | omega) ?_ | refine pick_t (by first | rfl | assumption) ?_ | refine pick_f (by first | rfl | assumption) ?_ | refine pick_dt rfl ?_ | refine pick_df (not_not_intro rfl) ?_
        exact leaf _ (fun w' A' c' hS => ⟨⟨i + 1, A', c', rfl, by omega, hS⟩, by simp [intOf]; omega⟩) false ⟨fun h => (by cases h), fun h => absurd h.2.1 h1⟩ _ _ _ hS
    · obtain rfl : i = l.length := by omega
      unfold m38_5 m38_6
      exact ⟨_, _, rfl, St.mid (A := [_]) (B := [_]) hS⟩
end
end Go.Proofs.YtcldjjmfpmkldaaGreatDoor.M
namespace Go.Proofs.YtcldjjmfpmkldaaGreatDoor.M
open Go.Proofs.YtcldjjmfpmkldaaGreatDoor.F Go.RowKit
set_option linter.unusedVariables false
set_option linter.unusedSimpArgs false
set_option maxRecDepth 100000
set_option maxHeartbeats 2000000
attribute [local irreducible] Res.cells Res.row Res.map Res.any World.cell? World.frozen? Instr.fieldAt Instr.loadAt Instr.storeAt Instr.indexAt Instr.lookup Instr.mapUpdate Instr.box Instr.build Instr.buildSlice Instr.extract Instr.alloc Instr.field Instr.index Instr.sliceAt Instr.makeSlice Instr.makeMap Instr.makeFunc binS Op.unary Sem.run
def cutT (s : ByteArray) : ByteArray := if 600 < s.size then s.extract 0 600 else s
def cutG (g : Gt) : Gt := ⟨g.off, g.r.key, g.r.time, cutT g.r.text⟩
section
variable {w0 w : World} {F : List Nat} {L : List Res} {l : List Gt} {A : Option Addr} {c : Nat}
theorem some_main (hm : l.length ≤ 150) (hE : BG w0 F L A l) (hS : St w0 F w L) : m5_2 (fun v w' => ∃ A' c', v = .slice A' (l.map cutG).length c' ∧ St w0 F w' (grow A' c' (l.map cutG) :: L)) (.slice A l.length c) w := by
  unfold m5_2 m5_3 m5_6
  refine loop_in (fun u w' => ∃ (i : Nat) (A' : Option Addr) (c' : Nat), u = (.slice A' ((l.take i).map cutG).length c', .int .i64 (i : Int)) ∧ i ≤ l.length ∧ St w0 F w' (grow A' c' ((l.take i).map cutG) :: L)) (fun u _ => l.length - (intOf u.2).toNat) ⟨0, none, 0, rfl, by omega, hS.row_nil 58 4⟩ ?_
  clear hS
  rintro u w ⟨i, A', c', rfl, hi, hS⟩
  simp only
  have hlen : ((l.take i).map cutG).length = i := by rw [List.length_map, List.length_take]; omega
  unfold m5_7
  refine builtin_ok (len22 _) ?_
  refine valP_ok (lss_ok _ _ _ _ _ _ _) ?_
  unfold m5_13
  refine cond_split (fun h => ?_) (fun h => ?_)
  · have hil : i < l.length := by omega
    obtain ⟨gb, o, rfl⟩ := (hE.rd1 hS).some_ (by omega) (by omega)
    have p := g_at (hE.rd1 hS) hil
    have hnx : (l.take (i + 1)).map cutG = (l.take i).map cutG ++ [cutG l[i]] := by
      rw [List.take_succ_eq_append_getElem hil, List.map_append]
      rfl
    unfold m5_8
    refine valP_ok (ix22 hil _) ?_
    refine valP_ok (ld58 p.1 p.2.1 p.2.2.1 p.2.2.2) ?_
    refine new_ok (al58 _) hS ?_
    intro b5 w hS
    first | refine ss58 0 hS rfl rfl rfl rfl rfl ?_ | refine ss58 1 hS rfl rfl rfl rfl rfl ?_ | refine ss58 2 hS rfl rfl rfl rfl rfl ?_ | refine ss58 3 hS rfl rfl rfl rfl rfl ?_ | refine ss58 4 hS rfl rfl rfl rfl rfl ?_ | refine ss58 5 hS rfl rfl rfl rfl rfl ?_ | refine ss58 6 hS rfl rfl rfl rfl rfl ?_ | refine ss58 7 hS rfl rfl rfl rfl rfl ?_
    intro w hS
    simp only [List.set_cons_zero, List.set_cons_succ] at hS
    have leaf : ∀ (K1 : Value × Value → World → Prop), (∀ w' A' c', St w0 F w' (grow A' c' ((l.take (i + 1)).map cutG) :: L) → K1 (.slice A' ((l.take (i + 1)).map cutG).length c', .int .i64 ((i + 1 : Nat) : Int)) w') → ∀ w, St w0 F w (Res.cells b5 58 (encG (cutG l[i])) :: grow A' c' ((l.take i).map cutG) :: L) → m5_11 (fun v w' => ∃ A' c', v = .slice A' (l.map cutG).length c' ∧ St w0 F w' (grow A' c' (l.map cutG) :: L)) K1 (.slice (some ⟨gb, o, none⟩) l.length c) (.slice A' ((l.take i).map cutG).length c') (.int .i64 (i : Int)) (.pointer (some ⟨b5, 0, none⟩)) w := fun K1 hK w hS => by
      unfold m5_11
      first | refine ls58 0 hS rfl ?_ | refine ls58 1 hS rfl ?_ | refine ls58 2 hS rfl ?_ | refine ls58 3 hS rfl ?_ | refine ls58 4 hS rfl ?_ | refine ls58 5 hS rfl ?_ | refine ls58 6 hS rfl ?_ | refine ls58 7 hS rfl ?_ | refine valP_ok (ld58 (by assumption) (by assumption) (by assumption) (by assumption)) ?_
      refine newslice_ok (bs22_1 _) hS ?_
      intro b34 w hS
      refine append_one1 (enc := encG) 1 (cutG l[i]) sl22 encG_len encG_one (by unfold maxLen; omega) (by omega) hS rfl ?_
      intro A' c' w' hS
      simp only [List.set_cons_zero, List.set_cons_succ] at hS
      have h1 := hK w' A' c' (by rw [hnx]; exact hS.tail)
      rw [hnx] at h1
      unfold m5_9
      refine valP_ok (add_ok _ _ _ (by omega) (by omega) _) ?_
      exact h1
    unfold m5_10
    refine valP_ok (fa58_1 _ _) ?_
    refine valP_ok (fao56_2 _ _ _) ?_
    refine valP_ok (ld9 (hS.cell 0 rfl rfl)) ?_
    refine builtin_ok (len9 _) ?_
    refine valP_ok (gtr_ok _ _ _ _ _ _ _) ?_
    unfold m5_12
    refine cond_split (fun h1 => ?_) (fun h1 => ?_)
    · have e : cutG l[i] = ⟨l[i].off, l[i].r.key, l[i].r.time, l[i].r.text.extract 0 600⟩ := by
        unfold cutG cutT
        rw [if_pos (by omega)]
      refine valP_ok (fa58_1 _ _) ?_
      refine valP_ok (fao56_2 _ _ _) ?_
      refine valP_ok (ld9 (hS.cell 0 rfl rfl)) ?_
      refine valP_ok (sto (k := 600) _ (by omega)) ?_
      refine valP_ok (fa58_1 _ _) ?_
      refine valP_ok (fao56_2 _ _ _) ?_
      refine store_at (i := 3) 0 st9 hS rfl (by simp) rfl ?_
      intro w hS
      simp only [List.set_cons_zero, List.set_cons_succ] at hS
      exact leaf _ (fun w' A' c' hS => ⟨⟨i + 1, A', c', rfl, by omega, hS⟩, by simp [intOf]; omega⟩) _ (by rw [e]; exact hS)
    · have e : cutG l[i] = l[i] := by
        unfold cutG cutT
        rw [if_neg (by omega)]
      exact leaf _ (fun w' A' c' hS => ⟨⟨i + 1, A', c', rfl, by omega, hS⟩, by simp [intOf]; omega⟩) _ (by rw [e]; exact hS)
  · obtain rfl : i = l.length := by omega
    rw [List.take_length] at hS ⊢
    unfold m5_4 m5_5
    exact ⟨_, _, rfl, hS⟩
theorem some_ret (hc : l.length ≤ c) (hE : BG w0 F L A (l.take 150)) (hS : St w0 F w L) : Ret Tryz.prog 5 #[.slice A l.length c] w fun v w' => ∃ A' c', v = .slice A' ((l.take 150).map cutG).length c' ∧ St w0 F w' (grow A' c' ((l.take 150).map cutG) :: L) := by
  have hl : (l.take 150).length = min 150 l.length := List.length_take
  refine s5 _ ?_
  unfold m5 m5_0
  unfold m5_1
  refine builtin_ok (len22 _) ?_
  refine valP_ok (gtr_ok _ _ _ _ _ _ _) ?_
  unfold m5_14
  refine cond_split (fun h => ?_) (fun h => ?_)
  · refine valP_ok (sh22 (k := 150) (by omega) _) ?_
    have h1 := some_main (c := c) (by omega) hE hS
    rw [show (l.take 150).length = 150 by omega] at h1
    exact h1
  · have h1 := some_main (c := c) (by omega) hE hS
    rw [show (l.take 150).length = l.length by omega] at h1
    exact h1
end
end Go.Proofs.YtcldjjmfpmkldaaGreatDoor.M
namespace Go.Proofs.YtcldjjmfpmkldaaGreatDoor.M
open Go.Proofs.YtcldjjmfpmkldaaGreatDoor.F Go.RowKit
set_option linter.unusedVariables false
set_option linter.unusedSimpArgs false
set_option maxRecDepth 100000
set_option maxHeartbeats 2000000
attribute [local irreducible] Res.cells Res.row Res.map Res.any World.cell? World.frozen? Instr.fieldAt Instr.loadAt Instr.storeAt Instr.indexAt Instr.lookup Instr.mapUpdate Instr.box Instr.build Instr.buildSlice Instr.extract Instr.alloc Instr.field Instr.index Instr.sliceAt Instr.makeSlice Instr.makeMap Instr.makeFunc binS Op.unary Sem.run
theorem sadd (x y : Operand) {a b : ByteArray} (h : a.size + b.size ≤ 9223372036854775807) (w : World) : (binS .add 9 x y (.string a) (.string b)).run Tryz.prog w = .ok (.string (a ++ b)) w := by
  rw [binS_run _ _ _ _ _ _ (by kernel_rfl)]; simp [go_sem, binOp, h]
/-- numbers, one behind the other. -/
def allS (xs : List Int) : ByteArray := xs.foldl (fun s n => s ++ putS n) ⟨#[]⟩
def l4 (p q : ByteArray) : List Gt := [⟨0, 0, 0, p⟩, ⟨1, 7, 0, q⟩, ⟨2, 0, 0, p⟩, ⟨3, 7, 0, q⟩]
section
variable {p q : ByteArray}
theorem l4_2 (hp : kindS p = 0) (hq : kindS q = 1) (u : Int) : ¬ Needless (l4 p q) 2 u := by
  have np : p ≠ putS 2 := fun e => by rw [e, kind_put2] at hp; omega
  rintro ⟨_, _, h | ⟨k, hk, h1, h2, h3⟩⟩
  · exact np h
  · obtain rfl : k = 3 := by simp [l4] at hk; omega
    simp [l4, SameR, hp, hq] at h3
theorem l4_3 (hq : kindS q = 1) (u : Int) : ¬ Needless (l4 p q) 3 u := by
  have nq : q ≠ putS 2 := fun e => by rw [e, kind_put2] at hq; omega
  rintro ⟨_, _, h | ⟨k, hk, h1, h2, h3⟩⟩
  · exact nq h
  · simp [l4] at hk
    omega
theorem l4_0 (hp : kindS p = 0) {u : Int} (hu : 2 < u) : Needless (l4 p q) 0 u := ⟨by simp [l4], by simp [l4]; omega, .inr ⟨2, by simp [l4], by omega, by simp [l4]; omega, by simp [l4, SameR, hp]⟩⟩
theorem clean4 (hp : kindS p = 0) (hq : kindS q = 1) : cleanN (l4 p q) 4 4 = (l4 p q).drop 2 := by
  have n1 : Needless (l4 p q) 1 4 := ⟨by simp [l4], by simp [l4], .inr ⟨3, by simp [l4], by omega, by simp [l4], by simp [l4, SameR, hq]⟩⟩
  rw [cleanN_take (by simp [l4]) (l4_3 hq 4), cleanN_take (by simp [l4]) (l4_2 hp hq 4), cleanN_skip n1, cleanN_skip (l4_0 hp (by omega))]
  rfl
theorem clean3 (hp : kindS p = 0) (hq : kindS q = 1) : cleanN (l4 p q) 3 4 = (l4 p q).drop 1 := by
  have nq : q ≠ putS 2 := fun e => by rw [e, kind_put2] at hq; omega
  have n1 : ¬ Needless (l4 p q) 1 3 := by
    rintro ⟨_, _, h | ⟨k, hk, h1, h2, h3⟩⟩
    · exact nq h
    · rcases (by simp [l4] at hk; omega : k = 2 ∨ k = 3) with rfl | rfl
      · simp [l4, SameR, hp, hq] at h3
      · simp [l4] at h2
  rw [cleanN_take (by simp [l4]) (l4_3 hq 3), cleanN_take (by simp [l4]) (l4_2 hp hq 3), cleanN_take (by simp [l4]) n1, cleanN_skip (l4_0 hp (by omega))]
  rfl
end
theorem kind_head {s : ByteArray} {n : Int} {r : List Nat} (h : bytesN s = lebN (zz n) ++ r) (h0 : 0 ≤ n ∧ n ≤ 2) : kindS s = n := by
  unfold kindS
  rw [takeS_L, h, takeL_put n r (by omega) (by omega)]
  simp only [Option.map_some]
  rw [if_pos h0]
theorem kind_counts : kindS (allS [0, 1, 0, 0, 1]) = 0 := by
  refine kind_head (n := 0) (r := lebN (zz 1) ++ (lebN (zz 0) ++ (lebN (zz 0) ++ lebN (zz 1)))) ?_ (by omega)
  simp only [allS, List.foldl_cons, List.foldl_nil, bytesN_append, bytesN_putS, List.append_assoc]
  rfl
theorem kind_window : kindS (putS 1) = 1 := kind_head (n := 1) (r := []) (by rw [bytesN_putS, List.append_nil]) (by omega)
section
variable {w0 w : World} {F : List Nat} {L : List Res} {A : Option Addr} {c : Nat}
theorem putS_size {n : Int} (h : -9223372036854775808 ≤ n ∧ n ≤ 9223372036854775807) : (putS n).size ≤ 10 := by
  rw [← bytesN_length, bytesN_putS]
  exact lebN_len _ (zz_lt n h.1 h.2)
theorem fold_size {xs : List Int} (hx : ∀ x ∈ xs, -9223372036854775808 ≤ x ∧ x ≤ 9223372036854775807) (s : ByteArray) : (xs.foldl (fun s n => s ++ putS n) s).size ≤ s.size + 10 * xs.length := by
  induction xs generalizing s with
  | nil => simp
  | cons x xs ih =>
    have h1 := ih (fun y hy => hx y (.tail _ hy)) (s ++ putS x)
    have h2 := putS_size (hx x (.head _))
    rw [ByteArray.size_append] at h1
    rw [List.foldl_cons, List.length_cons]
    omega
theorem all_ret {xs : List Int} (hx : ∀ x ∈ xs, -9223372036854775808 ≤ x ∧ x ≤ 9223372036854775807) (hm : xs.length ≤ 1000) (hE : Bes w0 F L 1 A xs.length (xs.map (Value.int .i64))) (hS : St w0 F w L) : Ret Tryz.prog 36 #[.slice A xs.length c] w fun v w' => v = .string (allS xs) ∧ St w0 F w' L := by
  refine s36 _ ?_
  unfold m36 m36_0 m36_1 m36_2 m36_5
  refine loop_in (fun u w' => ∃ i : Nat, u = (.string (allS (xs.take i)), .int .i64 (i : Int)) ∧ i ≤ xs.length ∧ St w0 F w' L) (fun u _ => xs.length - (intOf u.2).toNat) ⟨0, rfl, by omega, hS⟩ ?_
  clear hS
  rintro u w ⟨i, rfl, hi, hS⟩
  simp only
  unfold m36_6
  refine builtin_ok (len23 _) ?_
  refine valP_ok (lss_ok _ _ _ _ _ _ _) ?_
  unfold m36_9
  refine cond_split (fun h => ?_) (fun h => ?_)
  · have hil : i < xs.length := by omega
    obtain ⟨gb, o, rfl⟩ := (hE.rd hS).some_ (by omega) (by omega)
    unfold m36_7
    refine valP_ok (ix23 hil _) ?_
    refine valP_ok (ld3 ((hE.rd hS).cell_ (u := .int .i64 xs[i]) (by simp [hil]))) ?_
    refine callR (by kernel_rfl) (rput_ret (hx _ (List.getElem_mem hil)) hS) ?_
    rintro _ w ⟨rfl, hS⟩
    have hsz := fold_size (xs := xs.take i) (fun x hx' => hx x (List.mem_of_mem_take hx')) ⟨#[]⟩
    have hps := putS_size (hx _ (List.getElem_mem hil))
    rw [List.length_take] at hsz
    have hz0 : (⟨#[]⟩ : ByteArray).size = 0 := rfl
    refine valP_ok (sadd _ _ (by unfold allS; omega) _) ?_
    unfold m36_8
    refine valP_ok (add_ok _ _ _ (by omega) (by omega) _) ?_
    refine ⟨⟨i + 1, ?_, by omega, hS⟩, by simp [intOf]; omega⟩
    unfold allS
    rw [List.take_succ_eq_append_getElem hil, List.foldl_append]
    rfl
  · obtain rfl : i = xs.length := by omega
    unfold m36_3 m36_4
    rw [List.take_length]
    exact ⟨rfl, hS⟩
theorem awake_ret (hS : St w0 F w L) : Ret Tryz.prog 12 #[] w fun v w' => v = .bool true ∧ St w0 F w' L := by
  refine s12 ?_
  unfold m12 m12_0
  unfold m12_1
  refine newslice_ok (bs23_5 rfl rfl rfl rfl rfl _) hS ?_
  intro b4 w hS
  refine callR (by kernel_rfl) (all_ret (xs := [0, 1, 0, 0, 1]) (by simp) (by simp) (Bes.of_cells 0 rfl rfl) hS) ?_
  rintro _ w ⟨rfl, hS⟩
  refine callR (by kernel_rfl) (rput_ret (by omega) hS) ?_
  rintro _ w ⟨rfl, hS⟩
  have hp := kind_counts
  have hq := kind_window
  generalize allS [0, 1, 0, 0, 1] = p at *
  generalize putS 1 = q at *
  unfold m12_2
  refine valP_ok (bd56_2 rfl _) ?_
  refine valP_ok (bd58_1 _) ?_
  refine valP_ok (bd56_0_2 rfl rfl _) ?_
  refine valP_ok (bd58_0_1 rfl _) ?_
  refine valP_ok (bd56_2 rfl _) ?_
  refine valP_ok (bd58_0_1 rfl _) ?_
  refine valP_ok (bd56_0_2 rfl rfl _) ?_
  refine valP_ok (bd58_0_1 rfl _) ?_
  refine newslice_ok (bs22_4 _) hS ?_
  intro b19 w hS
  have hB : BG w0 F (Res.cells b19 58 ((l4 p q).flatMap encG) :: Res.cells b4 3 [.int .i64 0, .int .i64 1, .int .i64 0, .int .i64 0, .int .i64 1] :: L) (some ⟨b19, 0, none⟩) (l4 p q) := Bes.of_cells 0 rfl rfl
  have hok : ∀ g ∈ l4 p q, GtOk g := by simp [l4, GtOk]
  unfold m12_3
  refine drawn_ok hS ?_
  intro w hS
  refine pureP_ok (fun w => so22 (A := some ⟨b19, 0, none⟩) (n := 4) (c := 4) (k := 2) (by omega) (by omega) w) ?_
  refine callR (by kernel_rfl) (clean_ret (l := l4 p q) (c := 4) (by simp [l4]) hok hB hS) ?_
  rintro _ w ⟨A1, c1, rfl, hS⟩
  refine callR (by kernel_rfl) (samegot_ret (l := cleanN (l4 p q) 4 4) (l2 := (l4 p q).drop 2) (c2 := 2) (A2 := some ⟨b19, 8, none⟩) (by rw [clean4 hp hq]; simp [l4]) (by simp [l4]) (Bes.of_row 0 rfl) (fun w L' hS hL => ((hB.cons _) w L' hS hL).dropS (c := 4) (k := 2) encG_len (by simp [l4]) (by simp [l4])) hS) ?_
  rintro _ w ⟨⟨t, rfl, ht⟩, hS⟩
  have ht := ht.2 (clean4 hp hq)
  subst ht
  refine cond_t rfl ?_
  refine pureP_ok (fun w => so22 (A := some ⟨b19, 0, none⟩) (n := 4) (c := 4) (k := 1) (by omega) (by omega) w) ?_
  refine callR (by kernel_rfl) (clean_ret (l := l4 p q) (c := 4) (by simp [l4]) hok (hB.cons _) hS) ?_
  rintro _ w ⟨A2, c2, rfl, hS⟩
  refine callR (by kernel_rfl) (samegot_ret (l := cleanN (l4 p q) 3 4) (l2 := (l4 p q).drop 1) (c2 := 3) (A2 := some ⟨b19, 4, none⟩) (by rw [clean3 hp hq]; simp [l4]) (by simp [l4]) (Bes.of_row 0 rfl) (fun w L' hS hL => (((hB.cons _).cons _) w L' hS hL).dropS (c := 4) (k := 1) encG_len (by simp [l4]) (by simp [l4])) hS) ?_
  rintro _ w ⟨⟨t, rfl, ht⟩, hS⟩
  have ht := ht.2 (clean3 hp hq)
  subst ht
  first | refine pick_dt (by first | assumption | omega) ?_ | refine pick_df (by first | assumption | omega) ?_ | refine pick_t (by first | rfl | assumption) ?_ | refine pick_f (by first | rfl | assumption) ?_ | refine pick_dt rfl ?_ | refine pick_df (not_not_intro rfl) ?_
  unfold m12_4
  exact ⟨rfl, hS.tail.tail.tail.tail⟩
end
end Go.Proofs.YtcldjjmfpmkldaaGreatDoor.M
