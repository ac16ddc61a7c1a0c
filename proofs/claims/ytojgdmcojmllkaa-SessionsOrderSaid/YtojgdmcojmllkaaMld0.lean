/- What functions' texts ask of their ends, told over values that have names; printed by a program of this work. -/
import Derived.Test.YtojgdmcojmllkaaFw
import Derived.Test.YtojgdmcojmllkaaProg
namespace Go.Proofs.Ytojgdmcojmllkaa.M
open Go.Proofs.Ytojgdmcojmllkaa.F
set_option linter.unusedVariables false
set_option maxRecDepth 100000
/-! ### headgate/headgatelaw28.SessionsOrder -/
def m6_25 (R : VP) (K1 : (Value × Value) → World → Prop) (l1 turn2 g7 a8 i9 : Value) (w : World) : Prop :=
  valP Try.prog (binS BinOp.add 3 (Operand.tmp 33) (Operand.const (Value.int IntKind.i64 1)) i9 (Value.int IntKind.i64 1)) w fun t34 w =>
  K1 (a8, t34) w
def m6_28 (R : VP) (K1 : (Value × Value) → World → Prop) (l1 turn2 g7 a8 i9 x10 : Value) (w : World) : Prop :=
  valP Try.prog (Instr.loadAt 54 x10) w fun t50 w =>
  valP Try.prog (Instr.buildSlice 44 1 #[(0, t50)]) w fun t51 w =>
  builtinP Try.prog Builtin.append #[44, 44] 44 #[false, false] #[a8, t51] w fun t52 w =>
  m6_25 R K1 l1 turn2 g7 t52 i9 w
def m6_27 (R : VP) (K1 : (Value × Value) → World → Prop) (l1 turn2 g7 a8 i9 x10 : Value) (w : World) : Prop :=
  valP Try.prog (Instr.fieldAt 54 x10 1) w fun t43 w =>
  valP Try.prog (Instr.fieldAt 28 t43 0) w fun t44 w =>
  valP Try.prog (Instr.loadAt 3 t44) w fun t45 w =>
  valP Try.prog (binS BinOp.and 3 (Operand.tmp 45) (Operand.const (Value.int IntKind.i64 65535)) t45 (Value.int IntKind.i64 65535)) w fun t46 w =>
  valP Try.prog (Instr.fieldAt 54 x10 1) w fun t47 w =>
  valP Try.prog (Instr.fieldAt 28 t47 0) w fun t48 w =>
  unitP Try.prog (Instr.storeAt 3 t48 t46) w fun _ w =>
  m6_28 R K1 l1 turn2 g7 a8 i9 x10 w
def m6_26 (R : VP) (K1 : (Value × Value) → World → Prop) (l1 turn2 g7 a8 i9 x10 : Value) (w : World) : Prop :=
  valP Try.prog (Instr.fieldAt 54 x10 0) w fun t39 w =>
  valP Try.prog (Instr.loadAt 3 t39) w fun t40 w =>
  valP Try.prog (binS BinOp.and 3 (Operand.tmp 40) (Operand.const (Value.int IntKind.i64 3)) t40 (Value.int IntKind.i64 3)) w fun t41 w =>
  valP Try.prog (Instr.fieldAt 54 x10 0) w fun t42 w =>
  unitP Try.prog (Instr.storeAt 3 t42 t41) w fun _ w =>
  m6_27 R K1 l1 turn2 g7 a8 i9 x10 w
def m6_24 (R : VP) (K1 : (Value × Value) → World → Prop) (l1 turn2 g7 a8 i9 : Value) (w : World) : Prop :=
  valP Try.prog (Instr.indexAt 44 l1 i9) w fun t37 w =>
  valP Try.prog (Instr.loadAt 54 t37) w fun t38 w =>
  valP Try.prog (Instr.alloc 54 true (.tuple #[])) w fun x10 w =>
  unitP Try.prog (Instr.storeAt 54 x10 t38) w fun _ w =>
  m6_26 R K1 l1 turn2 g7 a8 i9 x10 w
def m6_20 (R : VP) (K1 : (Value × Value) → World → Prop) (turn2 g7 a8 b11 i12 : Value) (w : World) : Prop :=
  valP Try.prog (binS BinOp.sub 3 (Operand.tmp 58) (Operand.const (Value.int IntKind.i64 1)) i12 (Value.int IntKind.i64 1)) w fun t59 w =>
  K1 (b11, t59) w
def m6_19 (R : VP) (K1 : (Value × Value) → World → Prop) (turn2 g7 a8 b11 i12 : Value) (w : World) : Prop :=
  valP Try.prog (Instr.indexAt 44 a8 i12) w fun t63 w =>
  valP Try.prog (Instr.loadAt 54 t63) w fun t64 w =>
  valP Try.prog (Instr.buildSlice 44 1 #[(0, t64)]) w fun t65 w =>
  builtinP Try.prog Builtin.append #[44, 44] 44 #[false, false] #[b11, t65] w fun t66 w =>
  m6_20 R K1 turn2 g7 a8 t66 i12 w
def m6_11 (R : VP) (t6 : Value) (w : World) : Prop :=
  R t6 w
def m6_10 (R : VP) (f15 x16 e17 h18 y19 i20 : Value) (w : World) : Prop :=
  valP Try.prog (binS BinOp.eql 34 (Operand.tmp 105) (Operand.const (Value.int IntKind.i64 0)) e17 (Value.int IntKind.i64 0)) w fun t106 w =>
  condP t106
  (valP Try.prog (binS BinOp.eql 34 (Operand.tmp 108) (Operand.const (Value.int IntKind.i64 0)) i20 (Value.int IntKind.i64 0)) w fun t109 w =>
  pickP t106 t109 (Value.bool false) fun t110 =>
  condP t110
  (builtinP Try.prog Builtin.len #[24] 3 #[false] #[x16] w fun t113 w =>
  builtinP Try.prog Builtin.len #[24] 3 #[false] #[y19] w fun t115 w =>
  valP Try.prog (binS BinOp.add 3 (Operand.tmp 113) (Operand.tmp 115) t113 t115) w fun t116 w =>
  valP Try.prog (binS BinOp.eql 3 (Operand.tmp 116) (Operand.const (Value.int IntKind.i64 0)) t116 (Value.int IntKind.i64 0)) w fun t117 w =>
  pickP t110 t117 (Value.bool false) fun t118 =>
  condP t118
  (valP Try.prog (Instr.fieldAt 26 f15 1) w fun t120 w =>
  valP Try.prog (Instr.loadAt 3 t120) w fun t121 w =>
  valP Try.prog (Instr.fieldAt 26 h18 1) w fun t122 w =>
  valP Try.prog (Instr.loadAt 3 t122) w fun t123 w =>
  valP Try.prog (binS BinOp.add 3 (Operand.tmp 121) (Operand.tmp 123) t121 t123) w fun t124 w =>
  valP Try.prog (binS BinOp.gtr 3 (Operand.tmp 124) (Operand.const (Value.int IntKind.i64 0)) t124 (Value.int IntKind.i64 0)) w fun t125 w =>
  condP t125
  (pickP t125 (Value.bool true) undef fun t130 =>
  pickP t118 t130 (Value.bool false) fun t131 =>
  callP Try.prog (fnV 10) #[] w fun t133 w =>
  pickP t131 t133 (Value.bool false) fun t134 =>
  m6_11 R t134 w)
  (valP Try.prog (Instr.loadAt 26 f15) w fun t127 w =>
  valP Try.prog (Instr.loadAt 26 h18) w fun t128 w =>
  callP Try.prog (fnV 13) #[t127, t128] w fun t129 w =>
  pickP t125 (Value.bool true) t129 fun t130 =>
  pickP t118 t130 (Value.bool false) fun t131 =>
  condP t131
  (callP Try.prog (fnV 10) #[] w fun t133 w =>
  pickP t131 t133 (Value.bool false) fun t134 =>
  m6_11 R t134 w)
  (pickP t131 undef (Value.bool false) fun t134 =>
  m6_11 R t134 w)))
  (pickP t118 undef (Value.bool false) fun t131 =>
  pickP t131 undef (Value.bool false) fun t134 =>
  m6_11 R t134 w))
  (pickP t110 undef (Value.bool false) fun t118 =>
  pickP t118 undef (Value.bool false) fun t131 =>
  pickP t131 undef (Value.bool false) fun t134 =>
  m6_11 R t134 w))
  (pickP t106 undef (Value.bool false) fun t110 =>
  pickP t110 undef (Value.bool false) fun t118 =>
  pickP t118 undef (Value.bool false) fun t131 =>
  pickP t131 undef (Value.bool false) fun t134 =>
  m6_11 R t134 w)
def m6_9 (R : VP) (g7 b11 f15 x16 e17 : Value) (w : World) : Prop :=
  valP Try.prog (Instr.loadAt 23 g7) w fun t99 w =>
  callP Try.prog (fnV 18) #[t99, b11] w fun t101 w =>
  valP Try.prog (Instr.extract t101 0) w fun t102 w =>
  valP Try.prog (Instr.extract t101 1) w fun t103 w =>
  valP Try.prog (Instr.extract t101 2) w fun t104 w =>
  valP Try.prog (Instr.alloc 26 true (.tuple #[])) w fun h18 w =>
  unitP Try.prog (Instr.storeAt 26 h18 t102) w fun _ w =>
  m6_10 R f15 x16 e17 h18 t103 t104 w
def m6_8 (R : VP) (g7 a8 b11 : Value) (w : World) : Prop :=
  valP Try.prog (Instr.loadAt 23 g7) w fun t92 w =>
  callP Try.prog (fnV 18) #[t92, a8] w fun t94 w =>
  valP Try.prog (Instr.extract t94 0) w fun t95 w =>
  valP Try.prog (Instr.extract t94 1) w fun t96 w =>
  valP Try.prog (Instr.extract t94 2) w fun t97 w =>
  valP Try.prog (Instr.alloc 26 true (.tuple #[])) w fun f15 w =>
  unitP Try.prog (Instr.storeAt 26 f15 t95) w fun _ w =>
  m6_9 R g7 b11 f15 t96 t97 w
def m6_16 (R : VP) (g7 a8 c14 : Value) (w : World) : Prop :=
  m6_8 R g7 a8 c14 w
def m6_15 (R : VP) (g7 a8 b11 k13 c14 : Value) (w : World) : Prop :=
  valP Try.prog (Instr.sliceAt 44 b11 none (some k13) none) w fun t88 w =>
  builtinP Try.prog Builtin.append #[44, 44] 44 #[false, false] #[c14, t88] w fun t89 w =>
  m6_16 R g7 a8 t89 w
def m6_14 (R : VP) (g7 a8 b11 k13 c14 : Value) (w : World) : Prop :=
  valP Try.prog (Instr.sliceAt 44 b11 (some k13) none none) w fun t83 w =>
  builtinP Try.prog Builtin.append #[44, 44] 44 #[false, false] #[c14, t83] w fun t84 w =>
  m6_15 R g7 a8 b11 k13 t84 w
def m6_13 (R : VP) (g7 a8 b11 k13 : Value) (w : World) : Prop :=
  m6_14 R g7 a8 b11 k13 (Value.slice none 0 0) w
def m6_12 (R : VP) (turn2 g7 a8 b11 t69 : Value) (w : World) : Prop :=
  condP t69
  (builtinP Try.prog Builtin.len #[44] 3 #[false] #[b11] w fun t72 w =>
  valP Try.prog (binS BinOp.rem 3 (Operand.tmp 70) (Operand.tmp 72) turn2 t72) w fun t73 w =>
  builtinP Try.prog Builtin.len #[44] 3 #[false] #[b11] w fun t75 w =>
  valP Try.prog (binS BinOp.add 3 (Operand.tmp 73) (Operand.tmp 75) t73 t75) w fun t76 w =>
  builtinP Try.prog Builtin.len #[44] 3 #[false] #[b11] w fun t78 w =>
  valP Try.prog (binS BinOp.rem 3 (Operand.tmp 76) (Operand.tmp 78) t76 t78) w fun t79 w =>
  m6_13 R g7 a8 b11 t79 w)
  (m6_8 R g7 a8 b11 w)
def m6_7 (R : VP) (turn2 g7 a8 b11 : Value) (w : World) : Prop :=
  builtinP Try.prog Builtin.len #[44] 3 #[false] #[b11] w fun t68 w =>
  valP Try.prog (binS BinOp.gtr 3 (Operand.tmp 68) (Operand.const (Value.int IntKind.i64 0)) t68 (Value.int IntKind.i64 0)) w fun t69 w =>
  m6_12 R turn2 g7 a8 b11 t69 w
def m6_21 (R : VP) (K1 : (Value × Value) → World → Prop) (turn2 g7 a8 b11 i12 t57 : Value) (w : World) : Prop :=
  condP t57
  (m6_19 R K1 turn2 g7 a8 b11 i12 w)
  (m6_7 R turn2 g7 a8 b11 w)
def m6_18 (R : VP) (K1 : (Value × Value) → World → Prop) (turn2 g7 a8 b11 i12 : Value) (w : World) : Prop :=
  valP Try.prog (binS BinOp.geq 3 (Operand.tmp 56) (Operand.const (Value.int IntKind.i64 0)) i12 (Value.int IntKind.i64 0)) w fun t57 w =>
  m6_21 R K1 turn2 g7 a8 b11 i12 t57 w
def m6_17 (R : VP) (turn2 g7 a8 b11 i12 : Value) (w : World) : Prop :=
  loopP (fun (K1 : (Value × Value) → World → Prop) (s : Value × Value) w => m6_18 R K1 turn2 g7 a8 s.1 s.2 w) (b11, i12) w
def m6_6 (R : VP) (turn2 g7 a8 b11 : Value) (w : World) : Prop :=
  builtinP Try.prog Builtin.len #[44] 3 #[false] #[a8] w fun t54 w =>
  valP Try.prog (binS BinOp.sub 3 (Operand.tmp 54) (Operand.const (Value.int IntKind.i64 1)) t54 (Value.int IntKind.i64 1)) w fun t55 w =>
  m6_17 R turn2 g7 a8 b11 t55 w
def m6_5 (R : VP) (turn2 g7 a8 : Value) (w : World) : Prop :=
  m6_6 R turn2 g7 a8 (Value.slice none 0 0) w
def m6_29 (R : VP) (K1 : (Value × Value) → World → Prop) (l1 turn2 g7 a8 i9 t32 : Value) (w : World) : Prop :=
  condP t32
  (m6_24 R K1 l1 turn2 g7 a8 i9 w)
  (m6_5 R turn2 g7 a8 w)
def m6_23 (R : VP) (K1 : (Value × Value) → World → Prop) (l1 turn2 g7 a8 i9 : Value) (w : World) : Prop :=
  builtinP Try.prog Builtin.len #[44] 3 #[false] #[l1] w fun t31 w =>
  valP Try.prog (binS BinOp.lss 3 (Operand.tmp 29) (Operand.tmp 31) i9 t31) w fun t32 w =>
  m6_29 R K1 l1 turn2 g7 a8 i9 t32 w
def m6_22 (R : VP) (l1 turn2 g7 a8 i9 : Value) (w : World) : Prop :=
  loopP (fun (K1 : (Value × Value) → World → Prop) (s : Value × Value) w => m6_23 R K1 l1 turn2 g7 s.1 s.2 w) (a8, i9) w
def m6_4 (R : VP) (l1 turn2 g7 a8 : Value) (w : World) : Prop :=
  m6_22 R l1 turn2 g7 a8 (Value.int IntKind.i64 0) w
def m6_3 (R : VP) (l1 turn2 g7 : Value) (w : World) : Prop :=
  m6_4 R l1 turn2 g7 (Value.slice none 0 0) w
def m6_30 (R : VP) (l1 turn2 g7 t26 : Value) (w : World) : Prop :=
  condP t26
  (valP Try.prog (Instr.sliceAt 44 l1 none (some (Value.int IntKind.i64 50)) none) w fun t28 w =>
  m6_3 R t28 turn2 g7 w)
  (m6_3 R l1 turn2 g7 w)
def m6_2 (R : VP) (l1 turn2 g7 : Value) (w : World) : Prop :=
  builtinP Try.prog Builtin.len #[44] 3 #[false] #[l1] w fun t25 w =>
  valP Try.prog (binS BinOp.gtr 3 (Operand.tmp 25) (Operand.const (Value.int IntKind.i64 50)) t25 (Value.int IntKind.i64 50)) w fun t26 w =>
  m6_30 R l1 turn2 g7 t26 w
def m6_1 (R : VP) (gap0 l1 turn2 : Value) (w : World) : Prop :=
  valP Try.prog (binS BinOp.and 3 (Operand.tmp 21) (Operand.const (Value.int IntKind.i64 1023)) gap0 (Value.int IntKind.i64 1023)) w fun t22 w =>
  valP Try.prog (Instr.build 23 #[(0, t22), (1, (Value.int IntKind.i64 1048576))]) w fun t23 w =>
  valP Try.prog (Instr.alloc 23 true (.tuple #[])) w fun g7 w =>
  unitP Try.prog (Instr.storeAt 23 g7 t23) w fun _ w =>
  m6_2 R l1 turn2 g7 w
def m6_0 (R : VP) (gap0 l1 turn2 : Value) (w : World) : Prop :=
  m6_1 R gap0 l1 turn2 w
abbrev W6 := cwp Try.prog (fun i => 0)
noncomputable def k6_0 : Code := (bodyOf Try.f6)
noncomputable def k6_1 : Code := (c2 k6_0)
noncomputable def k6_2 : Code := (c2 k6_1)
noncomputable def k6_3 : Code := (c2 k6_2)
noncomputable def k6_4 : Code := (c2 k6_3)
noncomputable def k6_5 : Code := (c2 k6_4)
noncomputable def k6_6 : Code := (c2 k6_5)
noncomputable def k6_7 : Code := (c2 k6_6)
noncomputable def k6_8 : Code := (c2 k6_7)
noncomputable def k6_9 : Code := (c2 k6_8)
noncomputable def k6_10 : Code := (c2 k6_9)
noncomputable def k6_11 : Code := (c2 k6_10)
noncomputable def k6_12 : Code := (c2 (c1 k6_7))
noncomputable def k6_13 : Code := (c2 (c1 k6_12))
noncomputable def k6_14 : Code := (c2 k6_13)
noncomputable def k6_15 : Code := (c2 k6_14)
noncomputable def k6_16 : Code := (c2 k6_15)
noncomputable def k6_17 : Code := (c2 (c1 k6_6))
noncomputable def k6_18 : Code := (c1 (c1 k6_17))
noncomputable def k6_19 : Code := (c2 k6_18)
noncomputable def k6_20 : Code := (c2 k6_19)
noncomputable def k6_21 : Code := (c2 (c1 k6_18))
noncomputable def k6_22 : Code := (c2 (c1 k6_4))
noncomputable def k6_23 : Code := (c1 (c1 k6_22))
noncomputable def k6_24 : Code := (c2 k6_23)
noncomputable def k6_25 : Code := (c2 k6_24)
noncomputable def k6_26 : Code := (c2 (c1 (c1 k6_24)))
noncomputable def k6_27 : Code := (c2 k6_26)
noncomputable def k6_28 : Code := (c2 k6_27)
noncomputable def k6_29 : Code := (c2 (c1 k6_23))
noncomputable def k6_30 : Code := (c2 (c1 k6_2))
theorem s6_25 {R : VP} {K1 : (Value × Value) → World → Prop} {Q : EQ} (hN : ∀ e w, (K1 ((e 8), (e 9)) w) → Q .normal e w) (e : Env) (w : World) (h : m6_25 R K1 (e 1) (e 2) (e 7) (e 8) (e 9) w) : W6 k6_25 Q e w := by
  unfold m6_25 at h
  exact rgA 7 (fun e w => K1 ((e 8), (e 9)) w) h hN
theorem s6_28 {R : VP} {K1 : (Value × Value) → World → Prop} {Q : EQ} (hN : ∀ e w, (m6_25 R K1 (e 1) (e 2) (e 7) (e 8) (e 9) w) → Q .normal e w) (e : Env) (w : World) (h : m6_28 R K1 (e 1) (e 2) (e 7) (e 8) (e 9) (e 10) w) : W6 k6_28 Q e w := by
  unfold m6_28 at h
  exact rgA 11 (fun e w => m6_25 R K1 (e 1) (e 2) (e 7) (e 8) (e 9) w) h hN
theorem s6_27 {R : VP} {K1 : (Value × Value) → World → Prop} {Q : EQ} (hN : ∀ e w, (m6_25 R K1 (e 1) (e 2) (e 7) (e 8) (e 9) w) → Q .normal e w) (e : Env) (w : World) (h : m6_27 R K1 (e 1) (e 2) (e 7) (e 8) (e 9) (e 10) w) : W6 k6_27 Q e w := by
  unfold m6_27 at h
  refine seA ?_
  have hN : ∀ e w, (m6_28 R K1 (e 1) (e 2) (e 7) (e 8) (e 9) (e 10) w) → (thenE (W6 k6_28 Q) Q) .normal e w := fun e w h => then_N (s6_28 (R := R) (Q := Q) (K1 := K1) hN e w h)
  exact rgA 10 (fun e w => m6_28 R K1 (e 1) (e 2) (e 7) (e 8) (e 9) (e 10) w) h hN
theorem s6_26 {R : VP} {K1 : (Value × Value) → World → Prop} {Q : EQ} (hN : ∀ e w, (m6_25 R K1 (e 1) (e 2) (e 7) (e 8) (e 9) w) → Q .normal e w) (e : Env) (w : World) (h : m6_26 R K1 (e 1) (e 2) (e 7) (e 8) (e 9) (e 10) w) : W6 k6_26 Q e w := by
  unfold m6_26 at h
  refine seA ?_
  have hN : ∀ e w, (m6_27 R K1 (e 1) (e 2) (e 7) (e 8) (e 9) (e 10) w) → (thenE (W6 k6_27 Q) Q) .normal e w := fun e w h => then_N (s6_27 (R := R) (Q := Q) (K1 := K1) hN e w h)
  exact rgA 9 (fun e w => m6_27 R K1 (e 1) (e 2) (e 7) (e 8) (e 9) (e 10) w) h hN
theorem s6_24 {R : VP} {K1 : (Value × Value) → World → Prop} {Q : EQ} (hN : ∀ e w, (K1 ((e 8), (e 9)) w) → Q .normal e w) (e : Env) (w : World) (h : m6_24 R K1 (e 1) (e 2) (e 7) (e 8) (e 9) w) : W6 k6_24 Q e w := by
  unfold m6_24 at h
  refine seA ?_
  have hN : ∀ e w, (m6_25 R K1 (e 1) (e 2) (e 7) (e 8) (e 9) w) → (thenE (W6 k6_25 Q) Q) .normal e w := fun e w h => then_N (s6_25 (R := R) (Q := Q) (K1 := K1) hN e w h)
  refine block_ok 1 (by kernel_rfl) ?_
  have hN : ∀ e w, (m6_25 R K1 (e 1) (e 2) (e 7) (e 8) (e 9) w) → (inBlockE 1 (thenE (W6 k6_25 Q) Q)) .normal e w := fun e w h => block_N (hN e w h)
  refine seA ?_
  have hN : ∀ e w, (m6_26 R K1 (e 1) (e 2) (e 7) (e 8) (e 9) (e 10) w) → (thenE (W6 k6_26 (inBlockE 1 (thenE (W6 k6_25 Q) Q))) (inBlockE 1 (thenE (W6 k6_25 Q) Q))) .normal e w := fun e w h => then_N (s6_26 (R := R) (Q := (inBlockE 1 (thenE (W6 k6_25 Q) Q))) (K1 := K1) hN e w h)
  exact rgA 8 (fun e w => m6_26 R K1 (e 1) (e 2) (e 7) (e 8) (e 9) (e 10) w) h hN
theorem s6_20 {R : VP} {K1 : (Value × Value) → World → Prop} {Q : EQ} (hN : ∀ e w, (K1 ((e 11), (e 12)) w) → Q .normal e w) (e : Env) (w : World) (h : m6_20 R K1 (e 2) (e 7) (e 8) (e 11) (e 12) w) : W6 k6_20 Q e w := by
  unfold m6_20 at h
  exact rgA 15 (fun e w => K1 ((e 11), (e 12)) w) h hN
theorem s6_19 {R : VP} {K1 : (Value × Value) → World → Prop} {Q : EQ} (hN : ∀ e w, (K1 ((e 11), (e 12)) w) → Q .normal e w) (e : Env) (w : World) (h : m6_19 R K1 (e 2) (e 7) (e 8) (e 11) (e 12) w) : W6 k6_19 Q e w := by
  unfold m6_19 at h
  refine seA ?_
  have hN : ∀ e w, (m6_20 R K1 (e 2) (e 7) (e 8) (e 11) (e 12) w) → (thenE (W6 k6_20 Q) Q) .normal e w := fun e w h => then_N (s6_20 (R := R) (Q := Q) (K1 := K1) hN e w h)
  refine block_ok 3 (by kernel_rfl) ?_
  have hN : ∀ e w, (m6_20 R K1 (e 2) (e 7) (e 8) (e 11) (e 12) w) → (inBlockE 3 (thenE (W6 k6_20 Q) Q)) .normal e w := fun e w h => block_N (hN e w h)
  exact rgA 16 (fun e w => m6_20 R K1 (e 2) (e 7) (e 8) (e 11) (e 12) w) h hN
theorem s6_11 {R : VP} {Q : EQ} (hR : ∀ e w, (R (e 6) w) → Q .ret e w) (e : Env) (w : World) (h : m6_11 R (e 6) w) : W6 k6_11 Q e w := by
  unfold m6_11 at h
  exact reA (hR _ _ h)
theorem s6_10 {R : VP} {Q : EQ} (hR : ∀ e w, (R (e 6) w) → Q .ret e w) (e : Env) (w : World) (h : m6_10 R (e 15) (e 16) (e 17) (e 18) (e 19) (e 20) w) : W6 k6_10 Q e w := by
  unfold m6_10 at h
  refine seA ?_
  have hN : ∀ e w, (m6_11 R (e 6) w) → (thenE (W6 k6_11 Q) Q) .normal e w := fun e w h => then_N (s6_11 (R := R) (Q := Q) hR e w h)
  exact rgK 25 (fun e w => m6_11 R (e 6) w) h hN
theorem s6_9 {R : VP} {Q : EQ} (hR : ∀ e w, (R (e 6) w) → Q .ret e w) (e : Env) (w : World) (h : m6_9 R (e 7) (e 11) (e 15) (e 16) (e 17) w) : W6 k6_9 Q e w := by
  unfold m6_9 at h
  refine seA ?_
  have hN : ∀ e w, (m6_10 R (e 15) (e 16) (e 17) (e 18) (e 19) (e 20) w) → (thenE (W6 k6_10 Q) Q) .normal e w := fun e w h => then_N (s6_10 (R := R) (Q := Q) hR e w h)
  exact rgA 24 (fun e w => m6_10 R (e 15) (e 16) (e 17) (e 18) (e 19) (e 20) w) h hN
theorem s6_8 {R : VP} {Q : EQ} (hR : ∀ e w, (R (e 6) w) → Q .ret e w) (e : Env) (w : World) (h : m6_8 R (e 7) (e 8) (e 11) w) : W6 k6_8 Q e w := by
  unfold m6_8 at h
  refine seA ?_
  have hN : ∀ e w, (m6_9 R (e 7) (e 11) (e 15) (e 16) (e 17) w) → (thenE (W6 k6_9 Q) Q) .normal e w := fun e w h => then_N (s6_9 (R := R) (Q := Q) hR e w h)
  exact rgA 23 (fun e w => m6_9 R (e 7) (e 11) (e 15) (e 16) (e 17) w) h hN
theorem s6_16 {R : VP} {Q : EQ} (hN : ∀ e w, (m6_8 R (e 7) (e 8) (e 11) w) → Q .normal e w) (e : Env) (w : World) (h : m6_16 R (e 7) (e 8) (e 14) w) : W6 k6_16 Q e w := by
  unfold m6_16 at h
  exact rgA 22 (fun e w => m6_8 R (e 7) (e 8) (e 11) w) h hN
theorem s6_15 {R : VP} {Q : EQ} (hN : ∀ e w, (m6_8 R (e 7) (e 8) (e 11) w) → Q .normal e w) (e : Env) (w : World) (h : m6_15 R (e 7) (e 8) (e 11) (e 13) (e 14) w) : W6 k6_15 Q e w := by
  unfold m6_15 at h
  refine seA ?_
  have hN : ∀ e w, (m6_16 R (e 7) (e 8) (e 14) w) → (thenE (W6 k6_16 Q) Q) .normal e w := fun e w h => then_N (s6_16 (R := R) (Q := Q) hN e w h)
  exact rgA 21 (fun e w => m6_16 R (e 7) (e 8) (e 14) w) h hN
theorem s6_14 {R : VP} {Q : EQ} (hN : ∀ e w, (m6_8 R (e 7) (e 8) (e 11) w) → Q .normal e w) (e : Env) (w : World) (h : m6_14 R (e 7) (e 8) (e 11) (e 13) (e 14) w) : W6 k6_14 Q e w := by
  unfold m6_14 at h
  refine seA ?_
  have hN : ∀ e w, (m6_15 R (e 7) (e 8) (e 11) (e 13) (e 14) w) → (thenE (W6 k6_15 Q) Q) .normal e w := fun e w h => then_N (s6_15 (R := R) (Q := Q) hN e w h)
  exact rgA 20 (fun e w => m6_15 R (e 7) (e 8) (e 11) (e 13) (e 14) w) h hN
theorem s6_13 {R : VP} {Q : EQ} (hN : ∀ e w, (m6_8 R (e 7) (e 8) (e 11) w) → Q .normal e w) (e : Env) (w : World) (h : m6_13 R (e 7) (e 8) (e 11) (e 13) w) : W6 k6_13 Q e w := by
  unfold m6_13 at h
  refine seA ?_
  have hN : ∀ e w, (m6_14 R (e 7) (e 8) (e 11) (e 13) (e 14) w) → (thenE (W6 k6_14 Q) Q) .normal e w := fun e w h => then_N (s6_14 (R := R) (Q := Q) hN e w h)
  exact rgA 19 (fun e w => m6_14 R (e 7) (e 8) (e 11) (e 13) (e 14) w) h hN
theorem s6_12 {R : VP} {Q : EQ} (hN : ∀ e w, (m6_8 R (e 7) (e 8) (e 11) w) → Q .normal e w) (e : Env) (w : World) (h : m6_12 R (e 2) (e 7) (e 8) (e 11) (e 69) w) : W6 k6_12 Q e w := by
  unfold m6_12 at h
  refine coA (Operand.tmp 69) h (fun h1 => ?_) (fun h1 => ?_)
  · refine seA ?_
    have hN : ∀ e w, (m6_13 R (e 7) (e 8) (e 11) (e 13) w) → (thenE (W6 k6_13 Q) Q) .normal e w := fun e w h => then_N (s6_13 (R := R) (Q := Q) hN e w h)
    exact rgA 18 (fun e w => m6_13 R (e 7) (e 8) (e 11) (e 13) w) h1 hN
  · exact skA (hN _ _ h1)
theorem s6_7 {R : VP} {Q : EQ} (hR : ∀ e w, (R (e 6) w) → Q .ret e w) (e : Env) (w : World) (h : m6_7 R (e 2) (e 7) (e 8) (e 11) w) : W6 k6_7 Q e w := by
  unfold m6_7 at h
  refine seA ?_
  have hN : ∀ e w, (m6_8 R (e 7) (e 8) (e 11) w) → (thenE (W6 k6_8 Q) Q) .normal e w := fun e w h => then_N (s6_8 (R := R) (Q := Q) hR e w h)
  refine seA ?_
  have hN : ∀ e w, (m6_12 R (e 2) (e 7) (e 8) (e 11) (e 69) w) → (thenE (W6 k6_12 (thenE (W6 k6_8 Q) Q)) (thenE (W6 k6_8 Q) Q)) .normal e w := fun e w h => then_N (s6_12 (R := R) (Q := (thenE (W6 k6_8 Q) Q)) hN e w h)
  exact rgA 17 (fun e w => m6_12 R (e 2) (e 7) (e 8) (e 11) (e 69) w) h hN
theorem s6_21 {R : VP} {K1 : (Value × Value) → World → Prop} {Q : EQ} (hN : ∀ e w, (m6_19 R K1 (e 2) (e 7) (e 8) (e 11) (e 12) w) → Q .normal e w) (hX2 : ∀ e w, (m6_7 R (e 2) (e 7) (e 8) (e 11) w) → Q (.exit 2) e w) (e : Env) (w : World) (h : m6_21 R K1 (e 2) (e 7) (e 8) (e 11) (e 12) (e 57) w) : W6 k6_21 Q e w := by
  unfold m6_21 at h
  refine coA (Operand.tmp 57) h (fun h1 => ?_) (fun h1 => ?_)
  · exact skA (hN _ _ h1)
  · exact exA 2 (hX2 _ _ h1)
theorem s6_18 {R : VP} {K1 : (Value × Value) → World → Prop} {Q : EQ} (hN : ∀ e w, (K1 ((e 11), (e 12)) w) → Q .normal e w) (hX2 : ∀ e w, (m6_7 R (e 2) (e 7) (e 8) (e 11) w) → Q (.exit 2) e w) (e : Env) (w : World) (h : m6_18 R K1 (e 2) (e 7) (e 8) (e 11) (e 12) w) : W6 k6_18 Q e w := by
  unfold m6_18 at h
  refine seA ?_
  have hN : ∀ e w, (m6_19 R K1 (e 2) (e 7) (e 8) (e 11) (e 12) w) → (thenE (W6 k6_19 Q) Q) .normal e w := fun e w h => then_N (s6_19 (R := R) (Q := Q) (K1 := K1) hN e w h)
  have hX2 : ∀ e w, (m6_7 R (e 2) (e 7) (e 8) (e 11) w) → (thenE (W6 k6_19 Q) Q) (.exit 2) e w := fun e w h => then_X (hX2 e w h)
  refine seA ?_
  have hN : ∀ e w, (m6_21 R K1 (e 2) (e 7) (e 8) (e 11) (e 12) (e 57) w) → (thenE (W6 k6_21 (thenE (W6 k6_19 Q) Q)) (thenE (W6 k6_19 Q) Q)) .normal e w := fun e w h => then_N (s6_21 (R := R) (Q := (thenE (W6 k6_19 Q) Q)) (K1 := K1) hN hX2 e w h)
  exact rgA 14 (fun e w => m6_21 R K1 (e 2) (e 7) (e 8) (e 11) (e 12) (e 57) w) h hN
theorem s6_17 {R : VP} {Q : EQ} (hN : ∀ e w, (m6_7 R (e 2) (e 7) (e 8) (e 11) w) → Q .normal e w) (e : Env) (w : World) (h : m6_17 R (e 2) (e 7) (e 8) (e 11) (e 12) w) : W6 k6_17 Q e w := by
  unfold m6_17 at h
  refine block_ok 2 (by kernel_rfl) ?_
  have hX2 : ∀ e w, (m6_7 R (e 2) (e 7) (e 8) (e 11) w) → (inBlockE 2 Q) (.exit 2) e w := fun e w h => inBlock_same (Q := Q) 2 (hN e w h)
  refine loop_ok' (fun (e : Env) => (e 11, e 12)) [2, 7, 8] (by kernel_rfl) (by kernel_rfl) h (fun K e' w' hk h' => ?_)
  have r2 : e' 2 = e 2 := hk 2 (by decide)
  have r7 : e' 7 = e 7 := hk 7 (by decide)
  have r8 : e' 8 = e 8 := hk 8 (by decide)
  have hX2 : ∀ e w, (m6_7 R (e 2) (e 7) (e 8) (e 11) w) → (thenE (fun (e : Env) w => K ((e 11), (e 12)) w) (inBlockE 2 Q)) (.exit 2) e w := fun e w h => then_X (hX2 e w h)
  exact s6_18 (R := R) (Q := (thenE (fun (e : Env) w => K ((e 11), (e 12)) w) (inBlockE 2 Q))) (K1 := K) (fun _ _ h => then_N h) hX2 e' w' (by rw [r2, r7, r8]; exact h')
theorem s6_6 {R : VP} {Q : EQ} (hR : ∀ e w, (R (e 6) w) → Q .ret e w) (e : Env) (w : World) (h : m6_6 R (e 2) (e 7) (e 8) (e 11) w) : W6 k6_6 Q e w := by
  unfold m6_6 at h
  refine seA ?_
  have hN : ∀ e w, (m6_7 R (e 2) (e 7) (e 8) (e 11) w) → (thenE (W6 k6_7 Q) Q) .normal e w := fun e w h => then_N (s6_7 (R := R) (Q := Q) hR e w h)
  refine seA ?_
  have hN : ∀ e w, (m6_17 R (e 2) (e 7) (e 8) (e 11) (e 12) w) → (thenE (W6 k6_17 (thenE (W6 k6_7 Q) Q)) (thenE (W6 k6_7 Q) Q)) .normal e w := fun e w h => then_N (s6_17 (R := R) (Q := (thenE (W6 k6_7 Q) Q)) hN e w h)
  exact rgA 13 (fun e w => m6_17 R (e 2) (e 7) (e 8) (e 11) (e 12) w) h hN
theorem s6_5 {R : VP} {Q : EQ} (hR : ∀ e w, (R (e 6) w) → Q .ret e w) (e : Env) (w : World) (h : m6_5 R (e 2) (e 7) (e 8) w) : W6 k6_5 Q e w := by
  unfold m6_5 at h
  refine seA ?_
  have hN : ∀ e w, (m6_6 R (e 2) (e 7) (e 8) (e 11) w) → (thenE (W6 k6_6 Q) Q) .normal e w := fun e w h => then_N (s6_6 (R := R) (Q := Q) hR e w h)
  exact rgA 12 (fun e w => m6_6 R (e 2) (e 7) (e 8) (e 11) w) h hN
theorem s6_29 {R : VP} {K1 : (Value × Value) → World → Prop} {Q : EQ} (hN : ∀ e w, (m6_24 R K1 (e 1) (e 2) (e 7) (e 8) (e 9) w) → Q .normal e w) (hX0 : ∀ e w, (m6_5 R (e 2) (e 7) (e 8) w) → Q (.exit 0) e w) (e : Env) (w : World) (h : m6_29 R K1 (e 1) (e 2) (e 7) (e 8) (e 9) (e 32) w) : W6 k6_29 Q e w := by
  unfold m6_29 at h
  refine coA (Operand.tmp 32) h (fun h1 => ?_) (fun h1 => ?_)
  · exact skA (hN _ _ h1)
  · exact exA 0 (hX0 _ _ h1)
theorem s6_23 {R : VP} {K1 : (Value × Value) → World → Prop} {Q : EQ} (hN : ∀ e w, (K1 ((e 8), (e 9)) w) → Q .normal e w) (hX0 : ∀ e w, (m6_5 R (e 2) (e 7) (e 8) w) → Q (.exit 0) e w) (e : Env) (w : World) (h : m6_23 R K1 (e 1) (e 2) (e 7) (e 8) (e 9) w) : W6 k6_23 Q e w := by
  unfold m6_23 at h
  refine seA ?_
  have hN : ∀ e w, (m6_24 R K1 (e 1) (e 2) (e 7) (e 8) (e 9) w) → (thenE (W6 k6_24 Q) Q) .normal e w := fun e w h => then_N (s6_24 (R := R) (Q := Q) (K1 := K1) hN e w h)
  have hX0 : ∀ e w, (m6_5 R (e 2) (e 7) (e 8) w) → (thenE (W6 k6_24 Q) Q) (.exit 0) e w := fun e w h => then_X (hX0 e w h)
  refine seA ?_
  have hN : ∀ e w, (m6_29 R K1 (e 1) (e 2) (e 7) (e 8) (e 9) (e 32) w) → (thenE (W6 k6_29 (thenE (W6 k6_24 Q) Q)) (thenE (W6 k6_24 Q) Q)) .normal e w := fun e w h => then_N (s6_29 (R := R) (Q := (thenE (W6 k6_24 Q) Q)) (K1 := K1) hN hX0 e w h)
  exact rgA 6 (fun e w => m6_29 R K1 (e 1) (e 2) (e 7) (e 8) (e 9) (e 32) w) h hN
theorem s6_22 {R : VP} {Q : EQ} (hN : ∀ e w, (m6_5 R (e 2) (e 7) (e 8) w) → Q .normal e w) (e : Env) (w : World) (h : m6_22 R (e 1) (e 2) (e 7) (e 8) (e 9) w) : W6 k6_22 Q e w := by
  unfold m6_22 at h
  refine block_ok 0 (by kernel_rfl) ?_
  have hX0 : ∀ e w, (m6_5 R (e 2) (e 7) (e 8) w) → (inBlockE 0 Q) (.exit 0) e w := fun e w h => inBlock_same (Q := Q) 0 (hN e w h)
  refine loop_ok' (fun (e : Env) => (e 8, e 9)) [1, 2, 7] (by kernel_rfl) (by kernel_rfl) h (fun K e' w' hk h' => ?_)
  have r1 : e' 1 = e 1 := hk 1 (by decide)
  have r2 : e' 2 = e 2 := hk 2 (by decide)
  have r7 : e' 7 = e 7 := hk 7 (by decide)
  have hX0 : ∀ e w, (m6_5 R (e 2) (e 7) (e 8) w) → (thenE (fun (e : Env) w => K ((e 8), (e 9)) w) (inBlockE 0 Q)) (.exit 0) e w := fun e w h => then_X (hX0 e w h)
  exact s6_23 (R := R) (Q := (thenE (fun (e : Env) w => K ((e 8), (e 9)) w) (inBlockE 0 Q))) (K1 := K) (fun _ _ h => then_N h) hX0 e' w' (by rw [r1, r2, r7]; exact h')
theorem s6_4 {R : VP} {Q : EQ} (hR : ∀ e w, (R (e 6) w) → Q .ret e w) (e : Env) (w : World) (h : m6_4 R (e 1) (e 2) (e 7) (e 8) w) : W6 k6_4 Q e w := by
  unfold m6_4 at h
  refine seA ?_
  have hN : ∀ e w, (m6_5 R (e 2) (e 7) (e 8) w) → (thenE (W6 k6_5 Q) Q) .normal e w := fun e w h => then_N (s6_5 (R := R) (Q := Q) hR e w h)
  refine seA ?_
  have hN : ∀ e w, (m6_22 R (e 1) (e 2) (e 7) (e 8) (e 9) w) → (thenE (W6 k6_22 (thenE (W6 k6_5 Q) Q)) (thenE (W6 k6_5 Q) Q)) .normal e w := fun e w h => then_N (s6_22 (R := R) (Q := (thenE (W6 k6_5 Q) Q)) hN e w h)
  exact rgA 5 (fun e w => m6_22 R (e 1) (e 2) (e 7) (e 8) (e 9) w) h hN
theorem s6_3 {R : VP} {Q : EQ} (hR : ∀ e w, (R (e 6) w) → Q .ret e w) (e : Env) (w : World) (h : m6_3 R (e 1) (e 2) (e 7) w) : W6 k6_3 Q e w := by
  unfold m6_3 at h
  refine seA ?_
  have hN : ∀ e w, (m6_4 R (e 1) (e 2) (e 7) (e 8) w) → (thenE (W6 k6_4 Q) Q) .normal e w := fun e w h => then_N (s6_4 (R := R) (Q := Q) hR e w h)
  exact rgA 4 (fun e w => m6_4 R (e 1) (e 2) (e 7) (e 8) w) h hN
theorem s6_30 {R : VP} {Q : EQ} (hN : ∀ e w, (m6_3 R (e 1) (e 2) (e 7) w) → Q .normal e w) (e : Env) (w : World) (h : m6_30 R (e 1) (e 2) (e 7) (e 26) w) : W6 k6_30 Q e w := by
  unfold m6_30 at h
  refine coA (Operand.tmp 26) h (fun h1 => ?_) (fun h1 => ?_)
  · exact rgA 3 (fun e w => m6_3 R (e 1) (e 2) (e 7) w) h1 hN
  · exact skA (hN _ _ h1)
theorem s6_2 {R : VP} {Q : EQ} (hR : ∀ e w, (R (e 6) w) → Q .ret e w) (e : Env) (w : World) (h : m6_2 R (e 1) (e 2) (e 7) w) : W6 k6_2 Q e w := by
  unfold m6_2 at h
  refine seA ?_
  have hN : ∀ e w, (m6_3 R (e 1) (e 2) (e 7) w) → (thenE (W6 k6_3 Q) Q) .normal e w := fun e w h => then_N (s6_3 (R := R) (Q := Q) hR e w h)
  refine seA ?_
  have hN : ∀ e w, (m6_30 R (e 1) (e 2) (e 7) (e 26) w) → (thenE (W6 k6_30 (thenE (W6 k6_3 Q) Q)) (thenE (W6 k6_3 Q) Q)) .normal e w := fun e w h => then_N (s6_30 (R := R) (Q := (thenE (W6 k6_3 Q) Q)) hN e w h)
  exact rgA 2 (fun e w => m6_30 R (e 1) (e 2) (e 7) (e 26) w) h hN
theorem s6_1 {R : VP} {Q : EQ} (hR : ∀ e w, (R (e 6) w) → Q .ret e w) (e : Env) (w : World) (h : m6_1 R (e 0) (e 1) (e 2) w) : W6 k6_1 Q e w := by
  unfold m6_1 at h
  refine seA ?_
  have hN : ∀ e w, (m6_2 R (e 1) (e 2) (e 7) w) → (thenE (W6 k6_2 Q) Q) .normal e w := fun e w h => then_N (s6_2 (R := R) (Q := Q) hR e w h)
  exact rgA 1 (fun e w => m6_2 R (e 1) (e 2) (e 7) w) h hN
theorem s6_0 {R : VP} {Q : EQ} (hR : ∀ e w, (R (e 6) w) → Q .ret e w) (e : Env) (w : World) (h : m6_0 R (e 0) (e 1) (e 2) w) : W6 k6_0 Q e w := by
  unfold m6_0 at h
  refine seA ?_
  have hN : ∀ e w, (m6_1 R (e 0) (e 1) (e 2) w) → (thenE (W6 k6_1 Q) Q) .normal e w := fun e w h => then_N (s6_1 (R := R) (Q := Q) hR e w h)
  exact rgA 0 (fun e w => m6_1 R (e 0) (e 1) (e 2) w) h hN
abbrev m6 (R : VP) (gap0 l1 turn2 : Value) (w : World) : Prop := m6_0 R gap0 l1 turn2 w
theorem s6 (gap0 l1 turn2 : Value) {R : VP} {w : World} (h : m6 R gap0 l1 turn2 w) :
    Calls Try.prog 6 #[gap0, l1, turn2] w fun e w' => ∃ v, e = .returned v ∧ R v w' :=
  calls_of_cwp (st := (fun i => 0)) (c := k6_0) (by kernel_rfl) Try.func6 (by kernel_rfl) (Nat.le_of_ble_eq_true (by kernel_rfl)) (by kernel_rfl)
    (s6_0 (R := R) (Q := endE Try.prog Try.f6 R) (fun e w h => kcast (by kernel_rfl) h) (argsE #[gap0, l1, turn2]) w (kcast (by kernel_rfl) h))
end Go.Proofs.Ytojgdmcojmllkaa.M
