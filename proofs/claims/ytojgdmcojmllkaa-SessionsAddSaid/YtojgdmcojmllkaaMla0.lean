/- What functions' texts ask of their ends, told over values that have names; printed by a program of this work. -/
import Derived.Test.YtojgdmcojmllkaaFw
import Derived.Test.YtojgdmcojmllkaaProg
namespace Go.Proofs.Ytojgdmcojmllkaa.M
open Go.Proofs.Ytojgdmcojmllkaa.F
set_option linter.unusedVariables false
set_option maxRecDepth 100000
/-! ### headgate/headgatelaw28.SessionsAdd -/
def m3_16 (R : VP) (t8 : Value) (w : World) : Prop :=
  R t8 w
def m3_11 (R : VP) (K1 : VP) (key2 g4 f5 e7 kept9 i10 : Value) (w : World) : Prop :=
  valP Try.prog (binS BinOp.add 3 (Operand.tmp 32) (Operand.const (Value.int IntKind.i64 1)) i10 (Value.int IntKind.i64 1)) w fun t33 w =>
  K1 t33 w
def m3_13 (R : VP) (K1 : VP) (key2 g4 f5 e7 kept9 i10 l11 : Value) (w : World) : Prop :=
  anyDraw w fun w =>
  pureP Try.prog (Instr.fieldAt 26 kept9 2) fun t42 =>
  pureP Try.prog (Instr.fieldAt 26 f5 2) fun t44 =>
  (valP Try.prog (Instr.loadAt 24 t42) w fun t43 w =>
  valP Try.prog (Instr.loadAt 24 t44) w fun t45 w =>
  pureP Try.prog (Instr.indexAt 24 t45 i10) fun t47 =>
  pureP Try.prog (Instr.fieldAt 33 t47 0) fun t48 =>
  valP Try.prog (Instr.loadAt 3 t48) w fun t49 w =>
  pureP Try.prog (Instr.build 33 #[(0, t49), (1, l11)]) fun t51 =>
  valP Try.prog (Instr.buildSlice 24 1 #[(0, t51)]) w fun t52 w =>
  builtinP Try.prog Builtin.append #[24, 24] 24 #[false, false] #[t43, t52] w fun t53 w =>
  pureP Try.prog (Instr.fieldAt 26 kept9 2) fun t54 =>
  unitP Try.prog (Instr.storeAt 24 t54 t53) w fun _ w =>
  m3_11 R K1 key2 g4 f5 e7 kept9 i10 w) ∧ (valP Try.prog (Instr.loadAt 24 t44) w fun t45 w =>
  pureP Try.prog (Instr.indexAt 24 t45 i10) fun t47 =>
  pureP Try.prog (Instr.fieldAt 33 t47 0) fun t48 =>
  (valP Try.prog (Instr.loadAt 24 t42) w fun t43 w =>
  valP Try.prog (Instr.loadAt 3 t48) w fun t49 w =>
  pureP Try.prog (Instr.build 33 #[(0, t49), (1, l11)]) fun t51 =>
  valP Try.prog (Instr.buildSlice 24 1 #[(0, t51)]) w fun t52 w =>
  builtinP Try.prog Builtin.append #[24, 24] 24 #[false, false] #[t43, t52] w fun t53 w =>
  pureP Try.prog (Instr.fieldAt 26 kept9 2) fun t54 =>
  unitP Try.prog (Instr.storeAt 24 t54 t53) w fun _ w =>
  m3_11 R K1 key2 g4 f5 e7 kept9 i10 w) ∧ (valP Try.prog (Instr.loadAt 3 t48) w fun t49 w =>
  pureP Try.prog (Instr.build 33 #[(0, t49), (1, l11)]) fun t51 =>
  (valP Try.prog (Instr.loadAt 24 t42) w fun t43 w =>
  valP Try.prog (Instr.buildSlice 24 1 #[(0, t51)]) w fun t52 w =>
  builtinP Try.prog Builtin.append #[24, 24] 24 #[false, false] #[t43, t52] w fun t53 w =>
  pureP Try.prog (Instr.fieldAt 26 kept9 2) fun t54 =>
  unitP Try.prog (Instr.storeAt 24 t54 t53) w fun _ w =>
  m3_11 R K1 key2 g4 f5 e7 kept9 i10 w) ∧ (valP Try.prog (Instr.buildSlice 24 1 #[(0, t51)]) w fun t52 w =>
  valP Try.prog (Instr.loadAt 24 t42) w fun t43 w =>
  builtinP Try.prog Builtin.append #[24, 24] 24 #[false, false] #[t43, t52] w fun t53 w =>
  pureP Try.prog (Instr.fieldAt 26 kept9 2) fun t54 =>
  unitP Try.prog (Instr.storeAt 24 t54 t53) w fun _ w =>
  m3_11 R K1 key2 g4 f5 e7 kept9 i10 w)))
def m3_12 (R : VP) (K1 : VP) (key2 g4 f5 e7 kept9 i10 l11 : Value) (w : World) : Prop :=
  valP Try.prog (Instr.fieldAt 26 f5 2) w fun t35 w =>
  valP Try.prog (Instr.loadAt 24 t35) w fun t36 w =>
  valP Try.prog (Instr.indexAt 24 t36 i10) w fun t38 w =>
  valP Try.prog (Instr.fieldAt 33 t38 1) w fun t39 w =>
  valP Try.prog (Instr.loadAt 31 t39) w fun t40 w =>
  builtinP Try.prog Builtin.append #[31, 31] 31 #[false, false] #[l11, t40] w fun t41 w =>
  m3_13 R K1 key2 g4 f5 e7 kept9 i10 t41 w
def m3_10 (R : VP) (K1 : VP) (key2 g4 f5 e7 kept9 i10 : Value) (w : World) : Prop :=
  m3_12 R K1 key2 g4 f5 e7 kept9 i10 (Value.slice none 0 0) w
def m3_7 (R : VP) (t8 : Value) (w : World) : Prop :=
  R t8 w
def m3_6 (R : VP) (g4 f5 kept9 a12 x13 h14 b15 y16 k17 : Value) (w : World) : Prop :=
  anyDraw w fun w =>
  heldP w fun J =>
  valJ Try.prog J (Instr.loadAt 26 a12) fun t73 =>
  valJ Try.prog J (Instr.loadAt 26 b15) fun t74 =>
  callP Try.prog (fnV 13) #[t73, t74] w fun t75 w =>
  stayP J w
  (condP t75
  (callP Try.prog (fnV 14) #[x13, y16] w fun t79 w =>
  stayP J w
  (pickP t75 t79 (Value.bool false) fun t80 =>
  condP t80
  (valJ Try.prog J (binS BinOp.eql 3 (Operand.tmp 82) (Operand.tmp 83) h14 k17) fun t84 =>
  pickP t80 t84 (Value.bool false) fun t85 =>
  condP t85
  (valJ Try.prog J (Instr.loadAt 26 f5) fun t87 =>
  valJ Try.prog J (Instr.loadAt 26 kept9) fun t88 =>
  callP Try.prog (fnV 13) #[t87, t88] w fun t89 w =>
  stayP J w
  (pickP t85 t89 (Value.bool false) fun t90 =>
  condP t90
  (valJ Try.prog J (Instr.loadAt 23 g4) fun t92 =>
  valJ Try.prog J (Instr.loadAt 26 f5) fun t93 =>
  valJ Try.prog J (Instr.loadAt 23 g4) fun t96 =>
  valJ Try.prog J (Instr.loadAt 26 kept9) fun t97 =>
  callP Try.prog (fnV 15) #[t92, t93] w fun t94 w =>
  stayP J w
  (valJ Try.prog J (binS BinOp.eql 34 (Operand.tmp 94) (Operand.const (Value.int IntKind.i64 0)) t94 (Value.int IntKind.i64 0)) fun t95 =>
  callP Try.prog (fnV 16) #[t96, t97] w fun t98 w =>
  stayP J w
  (valJ Try.prog J (binS BinOp.eql 4 (Operand.tmp 95) (Operand.tmp 98) t95 t98) fun t99 =>
  pickP t90 t99 (Value.bool false) fun t100 =>
  condP t100
  (callP Try.prog (fnV 10) #[] w fun t102 w =>
  stayP J w
  (pickP t100 t102 (Value.bool false) fun t103 =>
  m3_7 R t103 w))
  (pickP t100 undef (Value.bool false) fun t103 =>
  m3_7 R t103 w))))
  (pickP t90 undef (Value.bool false) fun t100 =>
  pickP t100 undef (Value.bool false) fun t103 =>
  m3_7 R t103 w)))
  (pickP t85 undef (Value.bool false) fun t90 =>
  pickP t90 undef (Value.bool false) fun t100 =>
  pickP t100 undef (Value.bool false) fun t103 =>
  m3_7 R t103 w))
  (pickP t80 undef (Value.bool false) fun t85 =>
  pickP t85 undef (Value.bool false) fun t90 =>
  pickP t90 undef (Value.bool false) fun t100 =>
  pickP t100 undef (Value.bool false) fun t103 =>
  m3_7 R t103 w)))
  (pickP t75 undef (Value.bool false) fun t80 =>
  pickP t80 undef (Value.bool false) fun t85 =>
  pickP t85 undef (Value.bool false) fun t90 =>
  pickP t90 undef (Value.bool false) fun t100 =>
  pickP t100 undef (Value.bool false) fun t103 =>
  m3_7 R t103 w))
def m3_5 (R : VP) (key2 g4 f5 e7 kept9 a12 x13 h14 : Value) (w : World) : Prop :=
  valP Try.prog (Instr.loadAt 23 g4) w fun t65 w =>
  valP Try.prog (Instr.loadAt 26 kept9) w fun t66 w =>
  valP Try.prog (Instr.loadAt 28 e7) w fun t68 w =>
  callP Try.prog (fnV 12) #[t65, t66, key2, t68] w fun t69 w =>
  valP Try.prog (Instr.extract t69 0) w fun t70 w =>
  valP Try.prog (Instr.extract t69 1) w fun t71 w =>
  valP Try.prog (Instr.extract t69 2) w fun t72 w =>
  valP Try.prog (Instr.alloc 26 true (.tuple #[])) w fun b15 w =>
  unitP Try.prog (Instr.storeAt 26 b15 t70) w fun _ w =>
  m3_6 R g4 f5 kept9 a12 x13 h14 b15 t71 t72 w
def m3_4 (R : VP) (key2 g4 f5 e7 kept9 : Value) (w : World) : Prop :=
  valP Try.prog (Instr.loadAt 23 g4) w fun t56 w =>
  valP Try.prog (Instr.loadAt 26 f5) w fun t57 w =>
  valP Try.prog (Instr.loadAt 28 e7) w fun t59 w =>
  callP Try.prog (fnV 11) #[t56, t57, key2, t59] w fun t60 w =>
  valP Try.prog (Instr.extract t60 0) w fun t61 w =>
  valP Try.prog (Instr.extract t60 1) w fun t62 w =>
  valP Try.prog (Instr.extract t60 2) w fun t63 w =>
  valP Try.prog (Instr.alloc 26 true (.tuple #[])) w fun a12 w =>
  unitP Try.prog (Instr.storeAt 26 a12 t61) w fun _ w =>
  m3_5 R key2 g4 f5 e7 kept9 a12 t62 t63 w
def m3_14 (R : VP) (K1 : VP) (key2 g4 f5 e7 kept9 i10 t31 : Value) (w : World) : Prop :=
  condP t31
  (m3_10 R K1 key2 g4 f5 e7 kept9 i10 w)
  (m3_4 R key2 g4 f5 e7 kept9 w)
def m3_9 (R : VP) (K1 : VP) (key2 g4 f5 e7 kept9 i10 : Value) (w : World) : Prop :=
  valP Try.prog (Instr.fieldAt 26 f5 2) w fun t28 w =>
  valP Try.prog (Instr.loadAt 24 t28) w fun t29 w =>
  builtinP Try.prog Builtin.len #[24] 3 #[false] #[t29] w fun t30 w =>
  valP Try.prog (binS BinOp.lss 3 (Operand.tmp 27) (Operand.tmp 30) i10 t30) w fun t31 w =>
  m3_14 R K1 key2 g4 f5 e7 kept9 i10 t31 w
def m3_8 (R : VP) (key2 g4 f5 e7 kept9 i10 : Value) (w : World) : Prop :=
  loopP (fun (K1 : VP) (s : Value) w => m3_9 R K1 key2 g4 f5 e7 kept9 s w) i10 w
def m3_3 (R : VP) (key2 g4 f5 e7 kept9 : Value) (w : World) : Prop :=
  m3_8 R key2 g4 f5 e7 kept9 (Value.int IntKind.i64 0) w
def m3_2 (R : VP) (key2 g4 f5 e7 : Value) (w : World) : Prop :=
  valP Try.prog (Instr.fieldAt 26 f5 0) w fun t22 w =>
  valP Try.prog (Instr.loadAt 3 t22) w fun t23 w =>
  valP Try.prog (Instr.fieldAt 26 f5 1) w fun t24 w =>
  valP Try.prog (Instr.loadAt 3 t24) w fun t25 w =>
  valP Try.prog (Instr.build 26 #[(0, t23), (1, t25)]) w fun t26 w =>
  valP Try.prog (Instr.alloc 26 true (.tuple #[])) w fun kept9 w =>
  unitP Try.prog (Instr.storeAt 26 kept9 t26) w fun _ w =>
  m3_3 R key2 g4 f5 e7 kept9 w
def m3_15 (R : VP) (key2 g4 f5 e7 t20 : Value) (w : World) : Prop :=
  condP t20
  (callP Try.prog (fnV 10) #[] w fun t21 w =>
  m3_16 R t21 w)
  (m3_2 R key2 g4 f5 e7 w)
def m3_1 (R : VP) (key2 g4 f5 e7 : Value) (w : World) : Prop :=
  valP Try.prog (Instr.loadAt 26 f5) w fun t18 w =>
  callP Try.prog (fnV 9) #[t18] w fun t19 w =>
  valP Try.prog (Op.unary UnOp.not t19) w fun t20 w =>
  m3_15 R key2 g4 f5 e7 t20 w
def m3_0 (R : VP) (g0 f1 key2 e3 : Value) (w : World) : Prop :=
  valP Try.prog (Instr.box 23 g0) w fun g4 w =>
  valP Try.prog (Instr.box 26 f1) w fun f5 w =>
  valP Try.prog (Instr.box 28 e3) w fun e7 w =>
  m3_1 R key2 g4 f5 e7 w
abbrev W3 := cwp Try.prog (fun i => 0)
noncomputable def k3_0 : Code := (bodyOf Try.f3)
noncomputable def k3_1 : Code := (c2 k3_0)
noncomputable def k3_2 : Code := (c2 k3_1)
noncomputable def k3_3 : Code := (c2 k3_2)
noncomputable def k3_4 : Code := (c2 k3_3)
noncomputable def k3_5 : Code := (c2 k3_4)
noncomputable def k3_6 : Code := (c2 k3_5)
noncomputable def k3_7 : Code := (c2 k3_6)
noncomputable def k3_8 : Code := (c2 (c1 k3_3))
noncomputable def k3_9 : Code := (c1 (c1 k3_8))
noncomputable def k3_10 : Code := (c2 k3_9)
noncomputable def k3_11 : Code := (c2 k3_10)
noncomputable def k3_12 : Code := (c2 (c1 (c1 k3_10)))
noncomputable def k3_13 : Code := (c2 k3_12)
noncomputable def k3_14 : Code := (c2 (c1 k3_9))
noncomputable def k3_15 : Code := (c2 (c1 k3_1))
noncomputable def k3_16 : Code := (c2 (c1 k3_15))
theorem s3_16 {R : VP} {Q : EQ} (hR : ∀ e w, (R (e 8) w) → Q .ret e w) (e : Env) (w : World) (h : m3_16 R (e 8) w) : W3 k3_16 Q e w := by
  unfold m3_16 at h
  exact reA (hR _ _ h)
theorem s3_11 {R : VP} {K1 : VP} {Q : EQ} (hN : ∀ e w, (K1 (e 10) w) → Q .normal e w) (e : Env) (w : World) (h : m3_11 R K1 (e 2) (e 4) (e 5) (e 7) (e 9) (e 10) w) : W3 k3_11 Q e w := by
  unfold m3_11 at h
  exact rgA 6 (fun e w => K1 (e 10) w) h hN
theorem s3_13 {R : VP} {K1 : VP} {Q : EQ} (hN : ∀ e w, (m3_11 R K1 (e 2) (e 4) (e 5) (e 7) (e 9) (e 10) w) → Q .normal e w) (e : Env) (w : World) (h : m3_13 R K1 (e 2) (e 4) (e 5) (e 7) (e 9) (e 10) (e 11) w) : W3 k3_13 Q e w := by
  unfold m3_13 at h
  exact tree_ok 9 14 [false, false, false, false, false, false, false, false, false, false, false, false, false, false] (.take 0 [true, false, false, false, false, false, false, false, false, false, false, false, false, false] (.take 2 [true, false, true, false, false, false, false, false, false, false, false, false, false, false] (.take 4 [true, false, true, false, true, false, false, false, false, false, false, false, false, false] (.take 8 [true, false, true, false, true, false, false, false, true, false, false, false, false, false] (.alt 1 [true, true, true, false, true, false, false, false, true, false, false, false, false, false] (.alt 3 [true, true, true, true, true, false, false, false, true, false, false, false, false, false] (.take 5 [true, true, true, true, true, true, false, false, true, false, false, false, false, false] (.take 6 [true, true, true, true, true, true, true, false, true, false, false, false, false, false] (.alt 7 [true, true, true, true, true, true, true, true, true, false, false, false, false, false] (.take 9 [true, true, true, true, true, true, true, true, true, true, false, false, false, false] (.alt 10 [true, true, true, true, true, true, true, true, true, true, true, false, false, false] (.alt 11 [true, true, true, true, true, true, true, true, true, true, true, true, false, false] (.take 12 [true, true, true, true, true, true, true, true, true, true, true, true, true, false] (.alt 13 [true, true, true, true, true, true, true, true, true, true, true, true, true, true] .done .stop)) .stop) .stop)) .stop))) .stop) (.alt 3 [true, false, true, true, true, false, false, false, true, false, false, false, false, false] (.take 5 [true, false, true, true, true, true, false, false, true, false, false, false, false, false] (.take 6 [true, false, true, true, true, true, true, false, true, false, false, false, false, false] (.alt 1 [true, true, true, true, true, true, true, false, true, false, false, false, false, false] (.alt 7 [true, true, true, true, true, true, true, true, true, false, false, false, false, false] (.take 9 [true, true, true, true, true, true, true, true, true, true, false, false, false, false] (.alt 10 [true, true, true, true, true, true, true, true, true, true, true, false, false, false] (.alt 11 [true, true, true, true, true, true, true, true, true, true, true, true, false, false] (.take 12 [true, true, true, true, true, true, true, true, true, true, true, true, true, false] (.alt 13 [true, true, true, true, true, true, true, true, true, true, true, true, true, true] .done .stop)) .stop) .stop)) .stop) (.alt 7 [true, false, true, true, true, true, true, true, true, false, false, false, false, false] (.take 9 [true, false, true, true, true, true, true, true, true, true, false, false, false, false] (.alt 1 [true, true, true, true, true, true, true, true, true, true, false, false, false, false] (.alt 10 [true, true, true, true, true, true, true, true, true, true, true, false, false, false] (.alt 11 [true, true, true, true, true, true, true, true, true, true, true, true, false, false] (.take 12 [true, true, true, true, true, true, true, true, true, true, true, true, true, false] (.alt 13 [true, true, true, true, true, true, true, true, true, true, true, true, true, true] .done .stop)) .stop) .stop) (.alt 10 [true, false, true, true, true, true, true, true, true, true, true, false, false, false] (.alt 1 [true, true, true, true, true, true, true, true, true, true, true, false, false, false] (.alt 11 [true, true, true, true, true, true, true, true, true, true, true, true, false, false] (.take 12 [true, true, true, true, true, true, true, true, true, true, true, true, true, false] (.alt 13 [true, true, true, true, true, true, true, true, true, true, true, true, true, true] .done .stop)) .stop) .stop) .stop))) .stop)))) .stop)))))) (fun e w => m3_11 R K1 (e 2) (e 4) (e 5) (e 7) (e 9) (e 10) w) (by kernel_rfl) (by kernel_rfl) (by kernel_rfl) (by kernel_rfl) (by kernel_rfl) (by kernel_rfl) (kcast (by kernel_rfl) h) hN (by kernel_rfl)
theorem s3_12 {R : VP} {K1 : VP} {Q : EQ} (hN : ∀ e w, (m3_11 R K1 (e 2) (e 4) (e 5) (e 7) (e 9) (e 10) w) → Q .normal e w) (e : Env) (w : World) (h : m3_12 R K1 (e 2) (e 4) (e 5) (e 7) (e 9) (e 10) (e 11) w) : W3 k3_12 Q e w := by
  unfold m3_12 at h
  refine seA ?_
  have hN : ∀ e w, (m3_13 R K1 (e 2) (e 4) (e 5) (e 7) (e 9) (e 10) (e 11) w) → (thenE (W3 k3_13 Q) Q) .normal e w := fun e w h => then_N (s3_13 (R := R) (Q := Q) (K1 := K1) hN e w h)
  exact rgA 8 (fun e w => m3_13 R K1 (e 2) (e 4) (e 5) (e 7) (e 9) (e 10) (e 11) w) h hN
theorem s3_10 {R : VP} {K1 : VP} {Q : EQ} (hN : ∀ e w, (K1 (e 10) w) → Q .normal e w) (e : Env) (w : World) (h : m3_10 R K1 (e 2) (e 4) (e 5) (e 7) (e 9) (e 10) w) : W3 k3_10 Q e w := by
  unfold m3_10 at h
  refine seA ?_
  have hN : ∀ e w, (m3_11 R K1 (e 2) (e 4) (e 5) (e 7) (e 9) (e 10) w) → (thenE (W3 k3_11 Q) Q) .normal e w := fun e w h => then_N (s3_11 (R := R) (Q := Q) (K1 := K1) hN e w h)
  refine block_ok 1 (by kernel_rfl) ?_
  have hN : ∀ e w, (m3_11 R K1 (e 2) (e 4) (e 5) (e 7) (e 9) (e 10) w) → (inBlockE 1 (thenE (W3 k3_11 Q) Q)) .normal e w := fun e w h => block_N (hN e w h)
  refine seA ?_
  have hN : ∀ e w, (m3_12 R K1 (e 2) (e 4) (e 5) (e 7) (e 9) (e 10) (e 11) w) → (thenE (W3 k3_12 (inBlockE 1 (thenE (W3 k3_11 Q) Q))) (inBlockE 1 (thenE (W3 k3_11 Q) Q))) .normal e w := fun e w h => then_N (s3_12 (R := R) (Q := (inBlockE 1 (thenE (W3 k3_11 Q) Q))) (K1 := K1) hN e w h)
  exact rgA 7 (fun e w => m3_12 R K1 (e 2) (e 4) (e 5) (e 7) (e 9) (e 10) (e 11) w) h hN
theorem s3_7 {R : VP} {Q : EQ} (hR : ∀ e w, (R (e 8) w) → Q .ret e w) (e : Env) (w : World) (h : m3_7 R (e 8) w) : W3 k3_7 Q e w := by
  unfold m3_7 at h
  exact reA (hR _ _ h)
theorem s3_6 {R : VP} {Q : EQ} (hR : ∀ e w, (R (e 8) w) → Q .ret e w) (e : Env) (w : World) (h : m3_6 R (e 4) (e 5) (e 9) (e 12) (e 13) (e 14) (e 15) (e 16) (e 17) w) : W3 k3_6 Q e w := by
  unfold m3_6 at h
  refine seA ?_
  have hN : ∀ e w, (m3_7 R (e 8) w) → (thenE (W3 k3_7 Q) Q) .normal e w := fun e w h => then_N (s3_7 (R := R) (Q := Q) hR e w h)
  exact treeJ_ok 12 32 [false, false, false, false, false, false, false, false, false, false, false, false, false, false, false, false, false, false, false, false, false, false, false, false, false, false, false, false, false, false, false, false] (.take 0 [true, false, false, false, false, false, false, false, false, false, false, false, false, false, false, false, false, false, false, false, false, false, false, false, false, false, false, false, false, false, false, false] (.take 1 [true, true, false, false, false, false, false, false, false, false, false, false, false, false, false, false, false, false, false, false, false, false, false, false, false, false, false, false, false, false, false, false] (.alt 2 [true, true, true, false, false, false, false, false, false, false, false, false, false, false, false, false, false, false, false, false, false, false, false, false, false, false, false, false, false, false, false, false] (.take 3 [true, true, true, true, false, false, false, false, false, false, false, false, false, false, false, false, false, false, false, false, false, false, false, false, false, false, false, false, false, false, false, false] (.take 4 [true, true, true, true, true, false, false, false, false, false, false, false, false, false, false, false, false, false, false, false, false, false, false, false, false, false, false, false, false, false, false, false] (.take 5 [true, true, true, true, true, true, false, false, false, false, false, false, false, false, false, false, false, false, false, false, false, false, false, false, false, false, false, false, false, false, false, false] (.alt 6 [true, true, true, true, true, true, true, false, false, false, false, false, false, false, false, false, false, false, false, false, false, false, false, false, false, false, false, false, false, false, false, false] (.take 7 [true, true, true, true, true, true, true, true, false, false, false, false, false, false, false, false, false, false, false, false, false, false, false, false, false, false, false, false, false, false, false, false] (.take 8 [true, true, true, true, true, true, true, true, true, false, false, false, false, false, false, false, false, false, false, false, false, false, false, false, false, false, false, false, false, false, false, false] (.take 9 [true, true, true, true, true, true, true, true, true, true, false, false, false, false, false, false, false, false, false, false, false, false, false, false, false, false, false, false, false, false, false, false] (.take 10 [true, true, true, true, true, true, true, true, true, true, true, false, false, false, false, false, false, false, false, false, false, false, false, false, false, false, false, false, false, false, false, false] (.take 11 [true, true, true, true, true, true, true, true, true, true, true, true, false, false, false, false, false, false, false, false, false, false, false, false, false, false, false, false, false, false, false, false] (.take 12 [true, true, true, true, true, true, true, true, true, true, true, true, true, false, false, false, false, false, false, false, false, false, false, false, false, false, false, false, false, false, false, false] (.take 13 [true, true, true, true, true, true, true, true, true, true, true, true, true, true, false, false, false, false, false, false, false, false, false, false, false, false, false, false, false, false, false, false] (.take 14 [true, true, true, true, true, true, true, true, true, true, true, true, true, true, true, false, false, false, false, false, false, false, false, false, false, false, false, false, false, false, false, false] (.take 15 [true, true, true, true, true, true, true, true, true, true, true, true, true, true, true, true, false, false, false, false, false, false, false, false, false, false, false, false, false, false, false, false] (.alt 16 [true, true, true, true, true, true, true, true, true, true, true, true, true, true, true, true, true, false, false, false, false, false, false, false, false, false, false, false, false, false, false, false] (.take 17 [true, true, true, true, true, true, true, true, true, true, true, true, true, true, true, true, true, true, false, false, false, false, false, false, false, false, false, false, false, false, false, false] (.take 18 [true, true, true, true, true, true, true, true, true, true, true, true, true, true, true, true, true, true, true, false, false, false, false, false, false, false, false, false, false, false, false, false] (.take 19 [true, true, true, true, true, true, true, true, true, true, true, true, true, true, true, true, true, true, true, true, false, false, false, false, false, false, false, false, false, false, false, false] (.take 20 [true, true, true, true, true, true, true, true, true, true, true, true, true, true, true, true, true, true, true, true, true, false, false, false, false, false, false, false, false, false, false, false] (.take 23 [true, true, true, true, true, true, true, true, true, true, true, true, true, true, true, true, true, true, true, true, true, false, false, true, false, false, false, false, false, false, false, false] (.take 24 [true, true, true, true, true, true, true, true, true, true, true, true, true, true, true, true, true, true, true, true, true, false, false, true, true, false, false, false, false, false, false, false] (.alt 21 [true, true, true, true, true, true, true, true, true, true, true, true, true, true, true, true, true, true, true, true, true, true, false, true, true, false, false, false, false, false, false, false] (.take 22 [true, true, true, true, true, true, true, true, true, true, true, true, true, true, true, true, true, true, true, true, true, true, true, true, true, false, false, false, false, false, false, false] (.alt 25 [true, true, true, true, true, true, true, true, true, true, true, true, true, true, true, true, true, true, true, true, true, true, true, true, true, true, false, false, false, false, false, false] (.take 26 [true, true, true, true, true, true, true, true, true, true, true, true, true, true, true, true, true, true, true, true, true, true, true, true, true, true, true, false, false, false, false, false] (.take 27 [true, true, true, true, true, true, true, true, true, true, true, true, true, true, true, true, true, true, true, true, true, true, true, true, true, true, true, true, false, false, false, false] (.take 28 [true, true, true, true, true, true, true, true, true, true, true, true, true, true, true, true, true, true, true, true, true, true, true, true, true, true, true, true, true, false, false, false] (.alt 29 [true, true, true, true, true, true, true, true, true, true, true, true, true, true, true, true, true, true, true, true, true, true, true, true, true, true, true, true, true, true, false, false] (.take 30 [true, true, true, true, true, true, true, true, true, true, true, true, true, true, true, true, true, true, true, true, true, true, true, true, true, true, true, true, true, true, true, false] (.take 31 [true, true, true, true, true, true, true, true, true, true, true, true, true, true, true, true, true, true, true, true, true, true, true, true, true, true, true, true, true, true, true, true] .done)) .stop)))) .stop)) .stop))))))) .stop)))))))))) .stop)))) .stop))) (fun e w => m3_7 R (e 8) w) (by kernel_rfl) (by kernel_rfl) (by kernel_rfl) (by kernel_rfl) (by kernel_rfl) (by kernel_rfl) (kcast (by kernel_rfl) h) hN (by kernel_rfl)
theorem s3_5 {R : VP} {Q : EQ} (hR : ∀ e w, (R (e 8) w) → Q .ret e w) (e : Env) (w : World) (h : m3_5 R (e 2) (e 4) (e 5) (e 7) (e 9) (e 12) (e 13) (e 14) w) : W3 k3_5 Q e w := by
  unfold m3_5 at h
  refine seA ?_
  have hN : ∀ e w, (m3_6 R (e 4) (e 5) (e 9) (e 12) (e 13) (e 14) (e 15) (e 16) (e 17) w) → (thenE (W3 k3_6 Q) Q) .normal e w := fun e w h => then_N (s3_6 (R := R) (Q := Q) hR e w h)
  exact rgA 11 (fun e w => m3_6 R (e 4) (e 5) (e 9) (e 12) (e 13) (e 14) (e 15) (e 16) (e 17) w) h hN
theorem s3_4 {R : VP} {Q : EQ} (hR : ∀ e w, (R (e 8) w) → Q .ret e w) (e : Env) (w : World) (h : m3_4 R (e 2) (e 4) (e 5) (e 7) (e 9) w) : W3 k3_4 Q e w := by
  unfold m3_4 at h
  refine seA ?_
  have hN : ∀ e w, (m3_5 R (e 2) (e 4) (e 5) (e 7) (e 9) (e 12) (e 13) (e 14) w) → (thenE (W3 k3_5 Q) Q) .normal e w := fun e w h => then_N (s3_5 (R := R) (Q := Q) hR e w h)
  exact rgA 10 (fun e w => m3_5 R (e 2) (e 4) (e 5) (e 7) (e 9) (e 12) (e 13) (e 14) w) h hN
theorem s3_14 {R : VP} {K1 : VP} {Q : EQ} (hN : ∀ e w, (m3_10 R K1 (e 2) (e 4) (e 5) (e 7) (e 9) (e 10) w) → Q .normal e w) (hX0 : ∀ e w, (m3_4 R (e 2) (e 4) (e 5) (e 7) (e 9) w) → Q (.exit 0) e w) (e : Env) (w : World) (h : m3_14 R K1 (e 2) (e 4) (e 5) (e 7) (e 9) (e 10) (e 31) w) : W3 k3_14 Q e w := by
  unfold m3_14 at h
  refine coA (Operand.tmp 31) h (fun h1 => ?_) (fun h1 => ?_)
  · exact skA (hN _ _ h1)
  · exact exA 0 (hX0 _ _ h1)
theorem s3_9 {R : VP} {K1 : VP} {Q : EQ} (hN : ∀ e w, (K1 (e 10) w) → Q .normal e w) (hX0 : ∀ e w, (m3_4 R (e 2) (e 4) (e 5) (e 7) (e 9) w) → Q (.exit 0) e w) (e : Env) (w : World) (h : m3_9 R K1 (e 2) (e 4) (e 5) (e 7) (e 9) (e 10) w) : W3 k3_9 Q e w := by
  unfold m3_9 at h
  refine seA ?_
  have hN : ∀ e w, (m3_10 R K1 (e 2) (e 4) (e 5) (e 7) (e 9) (e 10) w) → (thenE (W3 k3_10 Q) Q) .normal e w := fun e w h => then_N (s3_10 (R := R) (Q := Q) (K1 := K1) hN e w h)
  have hX0 : ∀ e w, (m3_4 R (e 2) (e 4) (e 5) (e 7) (e 9) w) → (thenE (W3 k3_10 Q) Q) (.exit 0) e w := fun e w h => then_X (hX0 e w h)
  refine seA ?_
  have hN : ∀ e w, (m3_14 R K1 (e 2) (e 4) (e 5) (e 7) (e 9) (e 10) (e 31) w) → (thenE (W3 k3_14 (thenE (W3 k3_10 Q) Q)) (thenE (W3 k3_10 Q) Q)) .normal e w := fun e w h => then_N (s3_14 (R := R) (Q := (thenE (W3 k3_10 Q) Q)) (K1 := K1) hN hX0 e w h)
  exact rgA 5 (fun e w => m3_14 R K1 (e 2) (e 4) (e 5) (e 7) (e 9) (e 10) (e 31) w) h hN
theorem s3_8 {R : VP} {Q : EQ} (hN : ∀ e w, (m3_4 R (e 2) (e 4) (e 5) (e 7) (e 9) w) → Q .normal e w) (e : Env) (w : World) (h : m3_8 R (e 2) (e 4) (e 5) (e 7) (e 9) (e 10) w) : W3 k3_8 Q e w := by
  unfold m3_8 at h
  refine block_ok 0 (by kernel_rfl) ?_
  have hX0 : ∀ e w, (m3_4 R (e 2) (e 4) (e 5) (e 7) (e 9) w) → (inBlockE 0 Q) (.exit 0) e w := fun e w h => inBlock_same (Q := Q) 0 (hN e w h)
  refine loop_ok' (fun (e : Env) => e 10) [2, 4, 5, 7, 9] (by kernel_rfl) (by kernel_rfl) h (fun K e' w' hk h' => ?_)
  have r2 : e' 2 = e 2 := hk 2 (by decide)
  have r4 : e' 4 = e 4 := hk 4 (by decide)
  have r5 : e' 5 = e 5 := hk 5 (by decide)
  have r7 : e' 7 = e 7 := hk 7 (by decide)
  have r9 : e' 9 = e 9 := hk 9 (by decide)
  have hX0 : ∀ e w, (m3_4 R (e 2) (e 4) (e 5) (e 7) (e 9) w) → (thenE (fun (e : Env) w => K (e 10) w) (inBlockE 0 Q)) (.exit 0) e w := fun e w h => then_X (hX0 e w h)
  exact s3_9 (R := R) (Q := (thenE (fun (e : Env) w => K (e 10) w) (inBlockE 0 Q))) (K1 := K) (fun _ _ h => then_N h) hX0 e' w' (by rw [r2, r4, r5, r7, r9]; exact h')
theorem s3_3 {R : VP} {Q : EQ} (hR : ∀ e w, (R (e 8) w) → Q .ret e w) (e : Env) (w : World) (h : m3_3 R (e 2) (e 4) (e 5) (e 7) (e 9) w) : W3 k3_3 Q e w := by
  unfold m3_3 at h
  refine seA ?_
  have hN : ∀ e w, (m3_4 R (e 2) (e 4) (e 5) (e 7) (e 9) w) → (thenE (W3 k3_4 Q) Q) .normal e w := fun e w h => then_N (s3_4 (R := R) (Q := Q) hR e w h)
  refine seA ?_
  have hN : ∀ e w, (m3_8 R (e 2) (e 4) (e 5) (e 7) (e 9) (e 10) w) → (thenE (W3 k3_8 (thenE (W3 k3_4 Q) Q)) (thenE (W3 k3_4 Q) Q)) .normal e w := fun e w h => then_N (s3_8 (R := R) (Q := (thenE (W3 k3_4 Q) Q)) hN e w h)
  exact rgA 4 (fun e w => m3_8 R (e 2) (e 4) (e 5) (e 7) (e 9) (e 10) w) h hN
theorem s3_2 {R : VP} {Q : EQ} (hR : ∀ e w, (R (e 8) w) → Q .ret e w) (e : Env) (w : World) (h : m3_2 R (e 2) (e 4) (e 5) (e 7) w) : W3 k3_2 Q e w := by
  unfold m3_2 at h
  refine seA ?_
  have hN : ∀ e w, (m3_3 R (e 2) (e 4) (e 5) (e 7) (e 9) w) → (thenE (W3 k3_3 Q) Q) .normal e w := fun e w h => then_N (s3_3 (R := R) (Q := Q) hR e w h)
  exact rgA 3 (fun e w => m3_3 R (e 2) (e 4) (e 5) (e 7) (e 9) w) h hN
theorem s3_15 {R : VP} {Q : EQ} (hN : ∀ e w, (m3_2 R (e 2) (e 4) (e 5) (e 7) w) → Q .normal e w) (hR : ∀ e w, (R (e 8) w) → Q .ret e w) (e : Env) (w : World) (h : m3_15 R (e 2) (e 4) (e 5) (e 7) (e 20) w) : W3 k3_15 Q e w := by
  unfold m3_15 at h
  refine coA (Operand.tmp 20) h (fun h1 => ?_) (fun h1 => ?_)
  · refine seA ?_
    have hN : ∀ e w, (m3_16 R (e 8) w) → (thenE (W3 k3_16 Q) Q) .normal e w := fun e w h => then_N (s3_16 (R := R) (Q := Q) hR e w h)
    exact rgA 2 (fun e w => m3_16 R (e 8) w) h1 hN
  · exact skA (hN _ _ h1)
theorem s3_1 {R : VP} {Q : EQ} (hR : ∀ e w, (R (e 8) w) → Q .ret e w) (e : Env) (w : World) (h : m3_1 R (e 2) (e 4) (e 5) (e 7) w) : W3 k3_1 Q e w := by
  unfold m3_1 at h
  refine seA ?_
  have hN : ∀ e w, (m3_2 R (e 2) (e 4) (e 5) (e 7) w) → (thenE (W3 k3_2 Q) Q) .normal e w := fun e w h => then_N (s3_2 (R := R) (Q := Q) hR e w h)
  have hR : ∀ e w, (R (e 8) w) → (thenE (W3 k3_2 Q) Q) .ret e w := fun e w h => then_R (hR e w h)
  refine seA ?_
  have hN : ∀ e w, (m3_15 R (e 2) (e 4) (e 5) (e 7) (e 20) w) → (thenE (W3 k3_15 (thenE (W3 k3_2 Q) Q)) (thenE (W3 k3_2 Q) Q)) .normal e w := fun e w h => then_N (s3_15 (R := R) (Q := (thenE (W3 k3_2 Q) Q)) hN hR e w h)
  exact rgA 1 (fun e w => m3_15 R (e 2) (e 4) (e 5) (e 7) (e 20) w) h hN
theorem s3_0 {R : VP} {Q : EQ} (hR : ∀ e w, (R (e 8) w) → Q .ret e w) (e : Env) (w : World) (h : m3_0 R (e 0) (e 1) (e 2) (e 3) w) : W3 k3_0 Q e w := by
  unfold m3_0 at h
  refine seA ?_
  have hN : ∀ e w, (m3_1 R (e 2) (e 4) (e 5) (e 7) w) → (thenE (W3 k3_1 Q) Q) .normal e w := fun e w h => then_N (s3_1 (R := R) (Q := Q) hR e w h)
  exact rgA 0 (fun e w => m3_1 R (e 2) (e 4) (e 5) (e 7) w) h hN
abbrev m3 (R : VP) (g0 f1 key2 e3 : Value) (w : World) : Prop := m3_0 R g0 f1 key2 e3 w
theorem s3 (g0 f1 key2 e3 : Value) {R : VP} {w : World} (h : m3 R g0 f1 key2 e3 w) :
    Calls Try.prog 3 #[g0, f1, key2, e3] w fun e w' => ∃ v, e = .returned v ∧ R v w' :=
  calls_of_cwp (st := (fun i => 0)) (c := k3_0) (by kernel_rfl) Try.func3 (by kernel_rfl) (Nat.le_of_ble_eq_true (by kernel_rfl)) (by kernel_rfl)
    (s3_0 (R := R) (Q := endE Try.prog Try.f3 R) (fun e w h => kcast (by kernel_rfl) h) (argsE #[g0, f1, key2, e3]) w (kcast (by kernel_rfl) h))
end Go.Proofs.Ytojgdmcojmllkaa.M
