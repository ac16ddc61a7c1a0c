/- What functions' texts ask of their ends, told over values that have names; printed by a program of this work. -/
import Derived.Test.YtcldjjmfpmkldaaDoorFw
import Derived.Test.YtcldjjmfpmkldaaDoorProg
namespace Go.Proofs.YtcldjjmfpmkldaaDoor.M
open Go.Proofs.YtcldjjmfpmkldaaDoor.F
set_option linter.unusedVariables false
set_option maxRecDepth 100000
/-! ### headgate/headgatelaw04.DiskFuse -/
def m3_27 (R : VP) (t4 : Value) (w : World) : Prop :=
  R t4 w
def m3_23 (R : VP) (K1 : (Value × Value × Value) → World → Prop) (t4 : Value) (w : World) : Prop :=
  R t4 w
def m3_14 (R : VP) (K1 : (Value × Value × Value) → World → Prop) (fuse0 texts1 d5 done7 all8 i9 : Value) (w : World) : Prop :=
  valP Tryd.prog (binS BinOp.add 3 (Operand.tmp 39) (Operand.const (Value.int IntKind.i64 1)) i9 (Value.int IntKind.i64 1)) w fun t40 w =>
  K1 (done7, all8, t40) w
def m3_20 (R : VP) (K1 : (Value × Value × Value) → World → Prop) (fuse0 texts1 d5 done7 all8 i9 s10 t82 : Value) (w : World) : Prop :=
  condP t82
  (valP Tryd.prog (binS BinOp.add 9 (Operand.tmp 83) (Operand.tmp 84) done7 s10) w fun t85 w =>
  m3_14 R K1 fuse0 texts1 d5 t85 all8 i9 w)
  (m3_14 R K1 fuse0 texts1 d5 done7 all8 i9 w)
def m3_19 (R : VP) (K1 : (Value × Value × Value) → World → Prop) (fuse0 texts1 d5 done7 all8 i9 s10 f11 : Value) (w : World) : Prop :=
  valP Tryd.prog (binS BinOp.eql 24 (Operand.tmp 81) (Operand.const (Value.int IntKind.i64 0)) f11 (Value.int IntKind.i64 0)) w fun t82 w =>
  m3_20 R K1 fuse0 texts1 d5 done7 all8 i9 s10 t82 w
def m3_21 (R : VP) (K1 : (Value × Value × Value) → World → Prop) (fuse0 texts1 d5 done7 all8 i9 s10 f11 t77 : Value) (w : World) : Prop :=
  condP t77
  (valP Tryd.prog (binS BinOp.add 9 (Operand.tmp 78) (Operand.tmp 79) all8 s10) w fun t80 w =>
  m3_19 R K1 fuse0 texts1 d5 done7 t80 i9 s10 f11 w)
  (m3_19 R K1 fuse0 texts1 d5 done7 all8 i9 s10 f11 w)
def m3_18 (R : VP) (K1 : (Value × Value × Value) → World → Prop) (fuse0 texts1 d5 done7 all8 i9 s10 f11 : Value) (w : World) : Prop :=
  valP Tryd.prog (binS BinOp.leq 3 (Operand.tmp 75) (Operand.tmp 76) i9 fuse0) w fun t77 w =>
  m3_21 R K1 fuse0 texts1 d5 done7 all8 i9 s10 f11 t77 w
def m3_22 (R : VP) (K1 : (Value × Value × Value) → World → Prop) (fuse0 texts1 d5 done7 all8 i9 s10 f11 t74 : Value) (w : World) : Prop :=
  condP t74
  (m3_23 R K1 (Value.bool false) w)
  (m3_18 R K1 fuse0 texts1 d5 done7 all8 i9 s10 f11 w)
def m3_17 (R : VP) (K1 : (Value × Value × Value) → World → Prop) (fuse0 texts1 d5 done7 all8 i9 s10 f11 : Value) (w : World) : Prop :=
  valP Tryd.prog (binS BinOp.eql 24 (Operand.tmp 53) (Operand.const (Value.int IntKind.i64 0)) f11 (Value.int IntKind.i64 0)) w fun t54 w =>
  valP Tryd.prog (binS BinOp.lss 3 (Operand.tmp 55) (Operand.tmp 56) i9 fuse0) w fun t57 w =>
  valP Tryd.prog (binS BinOp.neq 4 (Operand.tmp 54) (Operand.tmp 57) t54 t57) w fun t58 w =>
  condP t58
  (pickP t58 (Value.bool true) undef fun t66 =>
  condP t66
  (pickP t66 (Value.bool true) undef fun t74 =>
  m3_22 R K1 fuse0 texts1 d5 done7 all8 i9 s10 f11 t74 w)
  (callP Tryd.prog (fnV 13) #[d5] w fun t69 w =>
  valP Tryd.prog (binS BinOp.geq 3 (Operand.tmp 70) (Operand.tmp 71) i9 fuse0) w fun t72 w =>
  valP Tryd.prog (binS BinOp.neq 4 (Operand.tmp 69) (Operand.tmp 72) t69 t72) w fun t73 w =>
  pickP t66 (Value.bool true) t73 fun t74 =>
  m3_22 R K1 fuse0 texts1 d5 done7 all8 i9 s10 f11 t74 w))
  (valP Tryd.prog (binS BinOp.neq 24 (Operand.tmp 60) (Operand.const (Value.int IntKind.i64 0)) f11 (Value.int IntKind.i64 0)) w fun t61 w =>
  condP t61
  (valP Tryd.prog (binS BinOp.neq 24 (Operand.tmp 63) (Operand.const (Value.int IntKind.i64 4)) f11 (Value.int IntKind.i64 4)) w fun t64 w =>
  pickP t61 t64 (Value.bool false) fun t65 =>
  pickP t58 (Value.bool true) t65 fun t66 =>
  condP t66
  (pickP t66 (Value.bool true) undef fun t74 =>
  m3_22 R K1 fuse0 texts1 d5 done7 all8 i9 s10 f11 t74 w)
  (callP Tryd.prog (fnV 13) #[d5] w fun t69 w =>
  valP Tryd.prog (binS BinOp.geq 3 (Operand.tmp 70) (Operand.tmp 71) i9 fuse0) w fun t72 w =>
  valP Tryd.prog (binS BinOp.neq 4 (Operand.tmp 69) (Operand.tmp 72) t69 t72) w fun t73 w =>
  pickP t66 (Value.bool true) t73 fun t74 =>
  m3_22 R K1 fuse0 texts1 d5 done7 all8 i9 s10 f11 t74 w))
  (pickP t61 undef (Value.bool false) fun t65 =>
  pickP t58 (Value.bool true) t65 fun t66 =>
  condP t66
  (pickP t66 (Value.bool true) undef fun t74 =>
  m3_22 R K1 fuse0 texts1 d5 done7 all8 i9 s10 f11 t74 w)
  (callP Tryd.prog (fnV 13) #[d5] w fun t69 w =>
  valP Tryd.prog (binS BinOp.geq 3 (Operand.tmp 70) (Operand.tmp 71) i9 fuse0) w fun t72 w =>
  valP Tryd.prog (binS BinOp.neq 4 (Operand.tmp 69) (Operand.tmp 72) t69 t72) w fun t73 w =>
  pickP t66 (Value.bool true) t73 fun t74 =>
  m3_22 R K1 fuse0 texts1 d5 done7 all8 i9 s10 f11 t74 w)))
def m3_16 (R : VP) (K1 : (Value × Value × Value) → World → Prop) (fuse0 texts1 d5 done7 all8 i9 s10 : Value) (w : World) : Prop :=
  callP Tryd.prog (fnV 12) #[d5, (Value.string ⟨#[97]⟩), s10] w fun t52 w =>
  m3_17 R K1 fuse0 texts1 d5 done7 all8 i9 s10 t52 w
def m3_24 (R : VP) (K1 : (Value × Value × Value) → World → Prop) (fuse0 texts1 d5 done7 all8 i9 s10 t47 : Value) (w : World) : Prop :=
  condP t47
  (valP Tryd.prog (Instr.sliceAt 9 s10 none (some (Value.int IntKind.i64 100)) none) w fun t49 w =>
  m3_16 R K1 fuse0 texts1 d5 done7 all8 i9 t49 w)
  (m3_16 R K1 fuse0 texts1 d5 done7 all8 i9 s10 w)
def m3_15 (R : VP) (K1 : (Value × Value × Value) → World → Prop) (fuse0 texts1 d5 done7 all8 i9 s10 : Value) (w : World) : Prop :=
  builtinP Tryd.prog Builtin.len #[9] 3 #[false] #[s10] w fun t46 w =>
  valP Tryd.prog (binS BinOp.gtr 3 (Operand.tmp 46) (Operand.const (Value.int IntKind.i64 100)) t46 (Value.int IntKind.i64 100)) w fun t47 w =>
  m3_24 R K1 fuse0 texts1 d5 done7 all8 i9 s10 t47 w
def m3_13 (R : VP) (K1 : (Value × Value × Value) → World → Prop) (fuse0 texts1 d5 done7 all8 i9 : Value) (w : World) : Prop :=
  valP Tryd.prog (Instr.indexAt 22 texts1 i9) w fun t43 w =>
  valP Tryd.prog (Instr.loadAt 9 t43) w fun t44 w =>
  m3_15 R K1 fuse0 texts1 d5 done7 all8 i9 t44 w
def m3_10 (R : VP) (t4 : Value) (w : World) : Prop :=
  R t4 w
def m3_9 (R : VP) (d5 done7 all8 s12 : Value) (w : World) : Prop :=
  valP Tryd.prog (binS BinOp.eql 9 (Operand.tmp 94) (Operand.tmp 95) s12 all8) w fun t96 w =>
  condP t96
  (callP Tryd.prog (fnV 16) #[done7, s12] w fun t100 w =>
  pickP t96 t100 (Value.bool false) fun t101 =>
  condP t101
  (callP Tryd.prog (fnV 13) #[d5] w fun t104 w =>
  valP Tryd.prog (Op.unary UnOp.not t104) w fun t105 w =>
  pickP t101 t105 (Value.bool false) fun t106 =>
  condP t106
  (callP Tryd.prog (fnV 17) #[] w fun t108 w =>
  pickP t106 t108 (Value.bool false) fun t109 =>
  m3_10 R t109 w)
  (pickP t106 undef (Value.bool false) fun t109 =>
  m3_10 R t109 w))
  (pickP t101 undef (Value.bool false) fun t106 =>
  condP t106
  (callP Tryd.prog (fnV 17) #[] w fun t108 w =>
  pickP t106 t108 (Value.bool false) fun t109 =>
  m3_10 R t109 w)
  (pickP t106 undef (Value.bool false) fun t109 =>
  m3_10 R t109 w)))
  (pickP t96 undef (Value.bool false) fun t101 =>
  condP t101
  (callP Tryd.prog (fnV 13) #[d5] w fun t104 w =>
  valP Tryd.prog (Op.unary UnOp.not t104) w fun t105 w =>
  pickP t101 t105 (Value.bool false) fun t106 =>
  condP t106
  (callP Tryd.prog (fnV 17) #[] w fun t108 w =>
  pickP t106 t108 (Value.bool false) fun t109 =>
  m3_10 R t109 w)
  (pickP t106 undef (Value.bool false) fun t109 =>
  m3_10 R t109 w))
  (pickP t101 undef (Value.bool false) fun t106 =>
  condP t106
  (callP Tryd.prog (fnV 17) #[] w fun t108 w =>
  pickP t106 t108 (Value.bool false) fun t109 =>
  m3_10 R t109 w)
  (pickP t106 undef (Value.bool false) fun t109 =>
  m3_10 R t109 w)))
def m3_8 (R : VP) (d5 done7 all8 : Value) (w : World) : Prop :=
  callP Tryd.prog (fnV 15) #[d5, (Value.string ⟨#[97]⟩)] w fun t91 w =>
  valP Tryd.prog (Instr.extract t91 0) w fun t92 w =>
  valP Tryd.prog (Instr.extract t91 1) w fun t93 w =>
  m3_9 R d5 done7 all8 t92 w
def m3_7 (R : VP) (d5 done7 all8 : Value) (w : World) : Prop :=
  valP Tryd.prog (Instr.buildSlice 46 1 #[(0, (Value.int IntKind.i64 1048576))]) w fun t87 w =>
  callP Tryd.prog (fnV 14) #[d5, t87] w fun t88 w =>
  m3_8 R d5 done7 all8 w
def m3_25 (R : VP) (K1 : (Value × Value × Value) → World → Prop) (fuse0 texts1 d5 done7 all8 i9 t38 : Value) (w : World) : Prop :=
  condP t38
  (m3_13 R K1 fuse0 texts1 d5 done7 all8 i9 w)
  (m3_7 R d5 done7 all8 w)
def m3_12 (R : VP) (K1 : (Value × Value × Value) → World → Prop) (fuse0 texts1 d5 done7 all8 i9 : Value) (w : World) : Prop :=
  builtinP Tryd.prog Builtin.len #[22] 3 #[false] #[texts1] w fun t33 w =>
  valP Tryd.prog (binS BinOp.lss 3 (Operand.tmp 31) (Operand.tmp 33) i9 t33) w fun t34 w =>
  condP t34
  (valP Tryd.prog (binS BinOp.lss 3 (Operand.tmp 36) (Operand.const (Value.int IntKind.i64 60)) i9 (Value.int IntKind.i64 60)) w fun t37 w =>
  pickP t34 t37 (Value.bool false) fun t38 =>
  m3_25 R K1 fuse0 texts1 d5 done7 all8 i9 t38 w)
  (pickP t34 undef (Value.bool false) fun t38 =>
  m3_25 R K1 fuse0 texts1 d5 done7 all8 i9 t38 w)
def m3_11 (R : VP) (fuse0 texts1 d5 done7 all8 i9 : Value) (w : World) : Prop :=
  loopP (fun (K1 : (Value × Value × Value) → World → Prop) (s : Value × Value × Value) w => m3_12 R K1 fuse0 texts1 d5 s.1 s.2.1 s.2.2 w) (done7, all8, i9) w
def m3_6 (R : VP) (fuse0 texts1 d5 done7 all8 : Value) (w : World) : Prop :=
  m3_11 R fuse0 texts1 d5 done7 all8 (Value.int IntKind.i64 0) w
def m3_5 (R : VP) (fuse0 texts1 d5 : Value) (w : World) : Prop :=
  m3_6 R fuse0 texts1 d5 (Value.string ⟨#[]⟩) (Value.string ⟨#[]⟩) w
def m3_4 (R : VP) (fuse0 texts1 d5 : Value) (w : World) : Prop :=
  callP Tryd.prog (fnV 11) #[d5, fuse0] w fun t30 w =>
  m3_5 R fuse0 texts1 d5 w
def m3_3 (R : VP) (fuse0 texts1 d5 : Value) (w : World) : Prop :=
  valP Tryd.prog (binS BinOp.rem 3 (Operand.tmp 24) (Operand.const (Value.int IntKind.i64 50)) fuse0 (Value.int IntKind.i64 50)) w fun t25 w =>
  valP Tryd.prog (binS BinOp.add 3 (Operand.tmp 25) (Operand.const (Value.int IntKind.i64 50)) t25 (Value.int IntKind.i64 50)) w fun t26 w =>
  valP Tryd.prog (binS BinOp.rem 3 (Operand.tmp 26) (Operand.const (Value.int IntKind.i64 50)) t26 (Value.int IntKind.i64 50)) w fun t27 w =>
  m3_4 R t27 texts1 d5 w
def m3_26 (R : VP) (fuse0 texts1 d5 t23 : Value) (w : World) : Prop :=
  condP t23
  (m3_27 R (Value.bool false) w)
  (m3_3 R fuse0 texts1 d5 w)
def m3_2 (R : VP) (fuse0 texts1 d5 e6 : Value) (w : World) : Prop :=
  valP Tryd.prog (binS BinOp.neq 24 (Operand.tmp 18) (Operand.const (Value.int IntKind.i64 0)) e6 (Value.int IntKind.i64 0)) w fun t19 w =>
  condP t19
  (pickP t19 (Value.bool true) undef fun t23 =>
  m3_26 R fuse0 texts1 d5 t23 w)
  (valP Tryd.prog (binS BinOp.eql 23 (Operand.tmp 21) (Operand.const (Value.pointer none)) d5 (Value.pointer none)) w fun t22 w =>
  pickP t19 (Value.bool true) t22 fun t23 =>
  m3_26 R fuse0 texts1 d5 t23 w)
def m3_1 (R : VP) (fuse0 texts1 : Value) (w : World) : Prop :=
  callP Tryd.prog (fnV 10) #[(Value.int IntKind.i64 1000)] w fun t15 w =>
  valP Tryd.prog (Instr.extract t15 0) w fun t16 w =>
  valP Tryd.prog (Instr.extract t15 1) w fun t17 w =>
  m3_2 R fuse0 texts1 t16 t17 w
def m3_0 (R : VP) (fuse0 texts1 : Value) (w : World) : Prop :=
  m3_1 R fuse0 texts1 w
abbrev W3 := cwp Tryd.prog (fun i => 0)
noncomputable def k3_0 : Code := (bodyOf Tryd.f3)
noncomputable def k3_1 : Code := (c2 k3_0)
noncomputable def k3_2 : Code := (c2 k3_1)
noncomputable def k3_3 : Code := (c2 k3_2)
noncomputable def k3_4 : Code := (c2 k3_3)
noncomputable def k3_5 : Code := (c2 k3_4)
noncomputable def k3_6 : Code := (c2 k3_5)
noncomputable def k3_7 : Code := (c2 k3_6)
noncomputable def k3_8 : Code := (c2 k3_7)
noncomputable def k3_9 : Code := (c2 k3_8)
noncomputable def k3_10 : Code := (c2 k3_9)
noncomputable def k3_11 : Code := (c2 (c1 k3_6))
noncomputable def k3_12 : Code := (c1 (c1 k3_11))
noncomputable def k3_13 : Code := (c2 k3_12)
noncomputable def k3_14 : Code := (c2 k3_13)
noncomputable def k3_15 : Code := (c2 (c1 (c1 k3_13)))
noncomputable def k3_16 : Code := (c2 k3_15)
noncomputable def k3_17 : Code := (c2 k3_16)
noncomputable def k3_18 : Code := (c2 k3_17)
noncomputable def k3_19 : Code := (c2 k3_18)
noncomputable def k3_20 : Code := (c2 k3_19)
noncomputable def k3_21 : Code := (c2 (c1 k3_18))
noncomputable def k3_22 : Code := (c2 (c1 k3_17))
noncomputable def k3_23 : Code := (c2 (c1 k3_22))
noncomputable def k3_24 : Code := (c2 (c1 k3_15))
noncomputable def k3_25 : Code := (c2 (c1 k3_12))
noncomputable def k3_26 : Code := (c2 (c1 k3_2))
noncomputable def k3_27 : Code := (c2 (c1 k3_26))
theorem s3_27 {R : VP} {Q : EQ} (hR : ∀ e w, (R (e 4) w) → Q .ret e w) (e : Env) (w : World) (h : m3_27 R (e 4) w) : W3 k3_27 Q e w := by
  unfold m3_27 at h
  exact reA (hR _ _ h)
theorem s3_23 {R : VP} {K1 : (Value × Value × Value) → World → Prop} {Q : EQ} (hR : ∀ e w, (R (e 4) w) → Q .ret e w) (e : Env) (w : World) (h : m3_23 R K1 (e 4) w) : W3 k3_23 Q e w := by
  unfold m3_23 at h
  exact reA (hR _ _ h)
theorem s3_14 {R : VP} {K1 : (Value × Value × Value) → World → Prop} {Q : EQ} (hN : ∀ e w, (K1 ((e 7), (e 8), (e 9)) w) → Q .normal e w) (e : Env) (w : World) (h : m3_14 R K1 (e 0) (e 1) (e 5) (e 7) (e 8) (e 9) w) : W3 k3_14 Q e w := by
  unfold m3_14 at h
  exact rgA 9 (fun e w => K1 ((e 7), (e 8), (e 9)) w) h hN
theorem s3_20 {R : VP} {K1 : (Value × Value × Value) → World → Prop} {Q : EQ} (hN : ∀ e w, (m3_14 R K1 (e 0) (e 1) (e 5) (e 7) (e 8) (e 9) w) → Q .normal e w) (e : Env) (w : World) (h : m3_20 R K1 (e 0) (e 1) (e 5) (e 7) (e 8) (e 9) (e 10) (e 82) w) : W3 k3_20 Q e w := by
  unfold m3_20 at h
  refine coA (Operand.tmp 82) h (fun h1 => ?_) (fun h1 => ?_)
  · exact rgA 19 (fun e w => m3_14 R K1 (e 0) (e 1) (e 5) (e 7) (e 8) (e 9) w) h1 hN
  · exact skA (hN _ _ h1)
theorem s3_19 {R : VP} {K1 : (Value × Value × Value) → World → Prop} {Q : EQ} (hN : ∀ e w, (m3_14 R K1 (e 0) (e 1) (e 5) (e 7) (e 8) (e 9) w) → Q .normal e w) (e : Env) (w : World) (h : m3_19 R K1 (e 0) (e 1) (e 5) (e 7) (e 8) (e 9) (e 10) (e 11) w) : W3 k3_19 Q e w := by
  unfold m3_19 at h
  refine seA ?_
  have hN : ∀ e w, (m3_20 R K1 (e 0) (e 1) (e 5) (e 7) (e 8) (e 9) (e 10) (e 82) w) → (thenE (W3 k3_20 Q) Q) .normal e w := fun e w h => then_N (s3_20 (R := R) (Q := Q) (K1 := K1) hN e w h)
  exact rgA 18 (fun e w => m3_20 R K1 (e 0) (e 1) (e 5) (e 7) (e 8) (e 9) (e 10) (e 82) w) h hN
theorem s3_21 {R : VP} {K1 : (Value × Value × Value) → World → Prop} {Q : EQ} (hN : ∀ e w, (m3_19 R K1 (e 0) (e 1) (e 5) (e 7) (e 8) (e 9) (e 10) (e 11) w) → Q .normal e w) (e : Env) (w : World) (h : m3_21 R K1 (e 0) (e 1) (e 5) (e 7) (e 8) (e 9) (e 10) (e 11) (e 77) w) : W3 k3_21 Q e w := by
  unfold m3_21 at h
  refine coA (Operand.tmp 77) h (fun h1 => ?_) (fun h1 => ?_)
  · exact rgA 17 (fun e w => m3_19 R K1 (e 0) (e 1) (e 5) (e 7) (e 8) (e 9) (e 10) (e 11) w) h1 hN
  · exact skA (hN _ _ h1)
theorem s3_18 {R : VP} {K1 : (Value × Value × Value) → World → Prop} {Q : EQ} (hN : ∀ e w, (m3_14 R K1 (e 0) (e 1) (e 5) (e 7) (e 8) (e 9) w) → Q .normal e w) (e : Env) (w : World) (h : m3_18 R K1 (e 0) (e 1) (e 5) (e 7) (e 8) (e 9) (e 10) (e 11) w) : W3 k3_18 Q e w := by
  unfold m3_18 at h
  refine seA ?_
  have hN : ∀ e w, (m3_19 R K1 (e 0) (e 1) (e 5) (e 7) (e 8) (e 9) (e 10) (e 11) w) → (thenE (W3 k3_19 Q) Q) .normal e w := fun e w h => then_N (s3_19 (R := R) (Q := Q) (K1 := K1) hN e w h)
  refine seA ?_
  have hN : ∀ e w, (m3_21 R K1 (e 0) (e 1) (e 5) (e 7) (e 8) (e 9) (e 10) (e 11) (e 77) w) → (thenE (W3 k3_21 (thenE (W3 k3_19 Q) Q)) (thenE (W3 k3_19 Q) Q)) .normal e w := fun e w h => then_N (s3_21 (R := R) (Q := (thenE (W3 k3_19 Q) Q)) (K1 := K1) hN e w h)
  exact rgA 16 (fun e w => m3_21 R K1 (e 0) (e 1) (e 5) (e 7) (e 8) (e 9) (e 10) (e 11) (e 77) w) h hN
theorem s3_22 {R : VP} {K1 : (Value × Value × Value) → World → Prop} {Q : EQ} (hN : ∀ e w, (m3_18 R K1 (e 0) (e 1) (e 5) (e 7) (e 8) (e 9) (e 10) (e 11) w) → Q .normal e w) (hR : ∀ e w, (R (e 4) w) → Q .ret e w) (e : Env) (w : World) (h : m3_22 R K1 (e 0) (e 1) (e 5) (e 7) (e 8) (e 9) (e 10) (e 11) (e 74) w) : W3 k3_22 Q e w := by
  unfold m3_22 at h
  refine coA (Operand.tmp 74) h (fun h1 => ?_) (fun h1 => ?_)
  · refine seA ?_
    have hN : ∀ e w, (m3_23 R K1 (e 4) w) → (thenE (W3 k3_23 Q) Q) .normal e w := fun e w h => then_N (s3_23 (R := R) (Q := Q) (K1 := K1) hR e w h)
    exact rgA 15 (fun e w => m3_23 R K1 (e 4) w) h1 hN
  · exact skA (hN _ _ h1)
theorem s3_17 {R : VP} {K1 : (Value × Value × Value) → World → Prop} {Q : EQ} (hN : ∀ e w, (m3_14 R K1 (e 0) (e 1) (e 5) (e 7) (e 8) (e 9) w) → Q .normal e w) (hR : ∀ e w, (R (e 4) w) → Q .ret e w) (e : Env) (w : World) (h : m3_17 R K1 (e 0) (e 1) (e 5) (e 7) (e 8) (e 9) (e 10) (e 11) w) : W3 k3_17 Q e w := by
  unfold m3_17 at h
  refine seA ?_
  have hN : ∀ e w, (m3_18 R K1 (e 0) (e 1) (e 5) (e 7) (e 8) (e 9) (e 10) (e 11) w) → (thenE (W3 k3_18 Q) Q) .normal e w := fun e w h => then_N (s3_18 (R := R) (Q := Q) (K1 := K1) hN e w h)
  have hR : ∀ e w, (R (e 4) w) → (thenE (W3 k3_18 Q) Q) .ret e w := fun e w h => then_R (hR e w h)
  refine seA ?_
  have hN : ∀ e w, (m3_22 R K1 (e 0) (e 1) (e 5) (e 7) (e 8) (e 9) (e 10) (e 11) (e 74) w) → (thenE (W3 k3_22 (thenE (W3 k3_18 Q) Q)) (thenE (W3 k3_18 Q) Q)) .normal e w := fun e w h => then_N (s3_22 (R := R) (Q := (thenE (W3 k3_18 Q) Q)) (K1 := K1) hN hR e w h)
  exact rgA 14 (fun e w => m3_22 R K1 (e 0) (e 1) (e 5) (e 7) (e 8) (e 9) (e 10) (e 11) (e 74) w) h hN
theorem s3_16 {R : VP} {K1 : (Value × Value × Value) → World → Prop} {Q : EQ} (hN : ∀ e w, (m3_14 R K1 (e 0) (e 1) (e 5) (e 7) (e 8) (e 9) w) → Q .normal e w) (hR : ∀ e w, (R (e 4) w) → Q .ret e w) (e : Env) (w : World) (h : m3_16 R K1 (e 0) (e 1) (e 5) (e 7) (e 8) (e 9) (e 10) w) : W3 k3_16 Q e w := by
  unfold m3_16 at h
  refine seA ?_
  have hN : ∀ e w, (m3_17 R K1 (e 0) (e 1) (e 5) (e 7) (e 8) (e 9) (e 10) (e 11) w) → (thenE (W3 k3_17 Q) Q) .normal e w := fun e w h => then_N (s3_17 (R := R) (Q := Q) (K1 := K1) hN hR e w h)
  exact rgA 13 (fun e w => m3_17 R K1 (e 0) (e 1) (e 5) (e 7) (e 8) (e 9) (e 10) (e 11) w) h hN
theorem s3_24 {R : VP} {K1 : (Value × Value × Value) → World → Prop} {Q : EQ} (hN : ∀ e w, (m3_16 R K1 (e 0) (e 1) (e 5) (e 7) (e 8) (e 9) (e 10) w) → Q .normal e w) (e : Env) (w : World) (h : m3_24 R K1 (e 0) (e 1) (e 5) (e 7) (e 8) (e 9) (e 10) (e 47) w) : W3 k3_24 Q e w := by
  unfold m3_24 at h
  refine coA (Operand.tmp 47) h (fun h1 => ?_) (fun h1 => ?_)
  · exact rgA 12 (fun e w => m3_16 R K1 (e 0) (e 1) (e 5) (e 7) (e 8) (e 9) (e 10) w) h1 hN
  · exact skA (hN _ _ h1)
theorem s3_15 {R : VP} {K1 : (Value × Value × Value) → World → Prop} {Q : EQ} (hN : ∀ e w, (m3_14 R K1 (e 0) (e 1) (e 5) (e 7) (e 8) (e 9) w) → Q .normal e w) (hR : ∀ e w, (R (e 4) w) → Q .ret e w) (e : Env) (w : World) (h : m3_15 R K1 (e 0) (e 1) (e 5) (e 7) (e 8) (e 9) (e 10) w) : W3 k3_15 Q e w := by
  unfold m3_15 at h
  refine seA ?_
  have hN : ∀ e w, (m3_16 R K1 (e 0) (e 1) (e 5) (e 7) (e 8) (e 9) (e 10) w) → (thenE (W3 k3_16 Q) Q) .normal e w := fun e w h => then_N (s3_16 (R := R) (Q := Q) (K1 := K1) hN hR e w h)
  refine seA ?_
  have hN : ∀ e w, (m3_24 R K1 (e 0) (e 1) (e 5) (e 7) (e 8) (e 9) (e 10) (e 47) w) → (thenE (W3 k3_24 (thenE (W3 k3_16 Q) Q)) (thenE (W3 k3_16 Q) Q)) .normal e w := fun e w h => then_N (s3_24 (R := R) (Q := (thenE (W3 k3_16 Q) Q)) (K1 := K1) hN e w h)
  exact rgA 11 (fun e w => m3_24 R K1 (e 0) (e 1) (e 5) (e 7) (e 8) (e 9) (e 10) (e 47) w) h hN
theorem s3_13 {R : VP} {K1 : (Value × Value × Value) → World → Prop} {Q : EQ} (hN : ∀ e w, (K1 ((e 7), (e 8), (e 9)) w) → Q .normal e w) (hR : ∀ e w, (R (e 4) w) → Q .ret e w) (e : Env) (w : World) (h : m3_13 R K1 (e 0) (e 1) (e 5) (e 7) (e 8) (e 9) w) : W3 k3_13 Q e w := by
  unfold m3_13 at h
  refine seA ?_
  have hN : ∀ e w, (m3_14 R K1 (e 0) (e 1) (e 5) (e 7) (e 8) (e 9) w) → (thenE (W3 k3_14 Q) Q) .normal e w := fun e w h => then_N (s3_14 (R := R) (Q := Q) (K1 := K1) hN e w h)
  have hR : ∀ e w, (R (e 4) w) → (thenE (W3 k3_14 Q) Q) .ret e w := fun e w h => then_R (hR e w h)
  refine block_ok 1 (by kernel_rfl) ?_
  have hN : ∀ e w, (m3_14 R K1 (e 0) (e 1) (e 5) (e 7) (e 8) (e 9) w) → (inBlockE 1 (thenE (W3 k3_14 Q) Q)) .normal e w := fun e w h => block_N (hN e w h)
  have hR : ∀ e w, (R (e 4) w) → (inBlockE 1 (thenE (W3 k3_14 Q) Q)) .ret e w := fun e w h => block_R (hR e w h)
  refine seA ?_
  have hN : ∀ e w, (m3_15 R K1 (e 0) (e 1) (e 5) (e 7) (e 8) (e 9) (e 10) w) → (thenE (W3 k3_15 (inBlockE 1 (thenE (W3 k3_14 Q) Q))) (inBlockE 1 (thenE (W3 k3_14 Q) Q))) .normal e w := fun e w h => then_N (s3_15 (R := R) (Q := (inBlockE 1 (thenE (W3 k3_14 Q) Q))) (K1 := K1) hN hR e w h)
  exact rgA 10 (fun e w => m3_15 R K1 (e 0) (e 1) (e 5) (e 7) (e 8) (e 9) (e 10) w) h hN
theorem s3_10 {R : VP} {Q : EQ} (hR : ∀ e w, (R (e 4) w) → Q .ret e w) (e : Env) (w : World) (h : m3_10 R (e 4) w) : W3 k3_10 Q e w := by
  unfold m3_10 at h
  exact reA (hR _ _ h)
theorem s3_9 {R : VP} {Q : EQ} (hR : ∀ e w, (R (e 4) w) → Q .ret e w) (e : Env) (w : World) (h : m3_9 R (e 5) (e 7) (e 8) (e 12) w) : W3 k3_9 Q e w := by
  unfold m3_9 at h
  refine seA ?_
  have hN : ∀ e w, (m3_10 R (e 4) w) → (thenE (W3 k3_10 Q) Q) .normal e w := fun e w h => then_N (s3_10 (R := R) (Q := Q) hR e w h)
  exact rgA 22 (fun e w => m3_10 R (e 4) w) h hN
theorem s3_8 {R : VP} {Q : EQ} (hR : ∀ e w, (R (e 4) w) → Q .ret e w) (e : Env) (w : World) (h : m3_8 R (e 5) (e 7) (e 8) w) : W3 k3_8 Q e w := by
  unfold m3_8 at h
  refine seA ?_
  have hN : ∀ e w, (m3_9 R (e 5) (e 7) (e 8) (e 12) w) → (thenE (W3 k3_9 Q) Q) .normal e w := fun e w h => then_N (s3_9 (R := R) (Q := Q) hR e w h)
  exact rgA 21 (fun e w => m3_9 R (e 5) (e 7) (e 8) (e 12) w) h hN
theorem s3_7 {R : VP} {Q : EQ} (hR : ∀ e w, (R (e 4) w) → Q .ret e w) (e : Env) (w : World) (h : m3_7 R (e 5) (e 7) (e 8) w) : W3 k3_7 Q e w := by
  unfold m3_7 at h
  refine seA ?_
  have hN : ∀ e w, (m3_8 R (e 5) (e 7) (e 8) w) → (thenE (W3 k3_8 Q) Q) .normal e w := fun e w h => then_N (s3_8 (R := R) (Q := Q) hR e w h)
  exact rgA 20 (fun e w => m3_8 R (e 5) (e 7) (e 8) w) h hN
theorem s3_25 {R : VP} {K1 : (Value × Value × Value) → World → Prop} {Q : EQ} (hN : ∀ e w, (m3_13 R K1 (e 0) (e 1) (e 5) (e 7) (e 8) (e 9) w) → Q .normal e w) (hX0 : ∀ e w, (m3_7 R (e 5) (e 7) (e 8) w) → Q (.exit 0) e w) (e : Env) (w : World) (h : m3_25 R K1 (e 0) (e 1) (e 5) (e 7) (e 8) (e 9) (e 38) w) : W3 k3_25 Q e w := by
  unfold m3_25 at h
  refine coA (Operand.tmp 38) h (fun h1 => ?_) (fun h1 => ?_)
  · exact skA (hN _ _ h1)
  · exact exA 0 (hX0 _ _ h1)
theorem s3_12 {R : VP} {K1 : (Value × Value × Value) → World → Prop} {Q : EQ} (hN : ∀ e w, (K1 ((e 7), (e 8), (e 9)) w) → Q .normal e w) (hR : ∀ e w, (R (e 4) w) → Q .ret e w) (hX0 : ∀ e w, (m3_7 R (e 5) (e 7) (e 8) w) → Q (.exit 0) e w) (e : Env) (w : World) (h : m3_12 R K1 (e 0) (e 1) (e 5) (e 7) (e 8) (e 9) w) : W3 k3_12 Q e w := by
  unfold m3_12 at h
  refine seA ?_
  have hN : ∀ e w, (m3_13 R K1 (e 0) (e 1) (e 5) (e 7) (e 8) (e 9) w) → (thenE (W3 k3_13 Q) Q) .normal e w := fun e w h => then_N (s3_13 (R := R) (Q := Q) (K1 := K1) hN hR e w h)
  have hX0 : ∀ e w, (m3_7 R (e 5) (e 7) (e 8) w) → (thenE (W3 k3_13 Q) Q) (.exit 0) e w := fun e w h => then_X (hX0 e w h)
  refine seA ?_
  have hN : ∀ e w, (m3_25 R K1 (e 0) (e 1) (e 5) (e 7) (e 8) (e 9) (e 38) w) → (thenE (W3 k3_25 (thenE (W3 k3_13 Q) Q)) (thenE (W3 k3_13 Q) Q)) .normal e w := fun e w h => then_N (s3_25 (R := R) (Q := (thenE (W3 k3_13 Q) Q)) (K1 := K1) hN hX0 e w h)
  exact rgA 8 (fun e w => m3_25 R K1 (e 0) (e 1) (e 5) (e 7) (e 8) (e 9) (e 38) w) h hN
theorem s3_11 {R : VP} {Q : EQ} (hN : ∀ e w, (m3_7 R (e 5) (e 7) (e 8) w) → Q .normal e w) (hR : ∀ e w, (R (e 4) w) → Q .ret e w) (e : Env) (w : World) (h : m3_11 R (e 0) (e 1) (e 5) (e 7) (e 8) (e 9) w) : W3 k3_11 Q e w := by
  unfold m3_11 at h
  refine block_ok 0 (by kernel_rfl) ?_
  have hX0 : ∀ e w, (m3_7 R (e 5) (e 7) (e 8) w) → (inBlockE 0 Q) (.exit 0) e w := fun e w h => inBlock_same (Q := Q) 0 (hN e w h)
  have hR : ∀ e w, (R (e 4) w) → (inBlockE 0 Q) .ret e w := fun e w h => block_R (hR e w h)
  refine loop_ok' (fun (e : Env) => (e 7, e 8, e 9)) [0, 1, 5] (by kernel_rfl) (by kernel_rfl) h (fun K e' w' hk h' => ?_)
  have r0 : e' 0 = e 0 := hk 0 (by decide)
  have r1 : e' 1 = e 1 := hk 1 (by decide)
  have r5 : e' 5 = e 5 := hk 5 (by decide)
  have hR : ∀ e w, (R (e 4) w) → (thenE (fun (e : Env) w => K ((e 7), (e 8), (e 9)) w) (inBlockE 0 Q)) .ret e w := fun e w h => then_R (hR e w h)
  have hX0 : ∀ e w, (m3_7 R (e 5) (e 7) (e 8) w) → (thenE (fun (e : Env) w => K ((e 7), (e 8), (e 9)) w) (inBlockE 0 Q)) (.exit 0) e w := fun e w h => then_X (hX0 e w h)
  exact s3_12 (R := R) (Q := (thenE (fun (e : Env) w => K ((e 7), (e 8), (e 9)) w) (inBlockE 0 Q))) (K1 := K) (fun _ _ h => then_N h) hR hX0 e' w' (by rw [r0, r1, r5]; exact h')
theorem s3_6 {R : VP} {Q : EQ} (hR : ∀ e w, (R (e 4) w) → Q .ret e w) (e : Env) (w : World) (h : m3_6 R (e 0) (e 1) (e 5) (e 7) (e 8) w) : W3 k3_6 Q e w := by
  unfold m3_6 at h
  refine seA ?_
  have hN : ∀ e w, (m3_7 R (e 5) (e 7) (e 8) w) → (thenE (W3 k3_7 Q) Q) .normal e w := fun e w h => then_N (s3_7 (R := R) (Q := Q) hR e w h)
  have hR : ∀ e w, (R (e 4) w) → (thenE (W3 k3_7 Q) Q) .ret e w := fun e w h => then_R (hR e w h)
  refine seA ?_
  have hN : ∀ e w, (m3_11 R (e 0) (e 1) (e 5) (e 7) (e 8) (e 9) w) → (thenE (W3 k3_11 (thenE (W3 k3_7 Q) Q)) (thenE (W3 k3_7 Q) Q)) .normal e w := fun e w h => then_N (s3_11 (R := R) (Q := (thenE (W3 k3_7 Q) Q)) hN hR e w h)
  exact rgA 7 (fun e w => m3_11 R (e 0) (e 1) (e 5) (e 7) (e 8) (e 9) w) h hN
theorem s3_5 {R : VP} {Q : EQ} (hR : ∀ e w, (R (e 4) w) → Q .ret e w) (e : Env) (w : World) (h : m3_5 R (e 0) (e 1) (e 5) w) : W3 k3_5 Q e w := by
  unfold m3_5 at h
  refine seA ?_
  have hN : ∀ e w, (m3_6 R (e 0) (e 1) (e 5) (e 7) (e 8) w) → (thenE (W3 k3_6 Q) Q) .normal e w := fun e w h => then_N (s3_6 (R := R) (Q := Q) hR e w h)
  exact rgA 6 (fun e w => m3_6 R (e 0) (e 1) (e 5) (e 7) (e 8) w) h hN
theorem s3_4 {R : VP} {Q : EQ} (hR : ∀ e w, (R (e 4) w) → Q .ret e w) (e : Env) (w : World) (h : m3_4 R (e 0) (e 1) (e 5) w) : W3 k3_4 Q e w := by
  unfold m3_4 at h
  refine seA ?_
  have hN : ∀ e w, (m3_5 R (e 0) (e 1) (e 5) w) → (thenE (W3 k3_5 Q) Q) .normal e w := fun e w h => then_N (s3_5 (R := R) (Q := Q) hR e w h)
  exact rgA 5 (fun e w => m3_5 R (e 0) (e 1) (e 5) w) h hN
theorem s3_3 {R : VP} {Q : EQ} (hR : ∀ e w, (R (e 4) w) → Q .ret e w) (e : Env) (w : World) (h : m3_3 R (e 0) (e 1) (e 5) w) : W3 k3_3 Q e w := by
  unfold m3_3 at h
  refine seA ?_
  have hN : ∀ e w, (m3_4 R (e 0) (e 1) (e 5) w) → (thenE (W3 k3_4 Q) Q) .normal e w := fun e w h => then_N (s3_4 (R := R) (Q := Q) hR e w h)
  exact rgA 4 (fun e w => m3_4 R (e 0) (e 1) (e 5) w) h hN
theorem s3_26 {R : VP} {Q : EQ} (hN : ∀ e w, (m3_3 R (e 0) (e 1) (e 5) w) → Q .normal e w) (hR : ∀ e w, (R (e 4) w) → Q .ret e w) (e : Env) (w : World) (h : m3_26 R (e 0) (e 1) (e 5) (e 23) w) : W3 k3_26 Q e w := by
  unfold m3_26 at h
  refine coA (Operand.tmp 23) h (fun h1 => ?_) (fun h1 => ?_)
  · refine seA ?_
    have hN : ∀ e w, (m3_27 R (e 4) w) → (thenE (W3 k3_27 Q) Q) .normal e w := fun e w h => then_N (s3_27 (R := R) (Q := Q) hR e w h)
    exact rgA 3 (fun e w => m3_27 R (e 4) w) h1 hN
  · exact skA (hN _ _ h1)
theorem s3_2 {R : VP} {Q : EQ} (hR : ∀ e w, (R (e 4) w) → Q .ret e w) (e : Env) (w : World) (h : m3_2 R (e 0) (e 1) (e 5) (e 6) w) : W3 k3_2 Q e w := by
  unfold m3_2 at h
  refine seA ?_
  have hN : ∀ e w, (m3_3 R (e 0) (e 1) (e 5) w) → (thenE (W3 k3_3 Q) Q) .normal e w := fun e w h => then_N (s3_3 (R := R) (Q := Q) hR e w h)
  have hR : ∀ e w, (R (e 4) w) → (thenE (W3 k3_3 Q) Q) .ret e w := fun e w h => then_R (hR e w h)
  refine seA ?_
  have hN : ∀ e w, (m3_26 R (e 0) (e 1) (e 5) (e 23) w) → (thenE (W3 k3_26 (thenE (W3 k3_3 Q) Q)) (thenE (W3 k3_3 Q) Q)) .normal e w := fun e w h => then_N (s3_26 (R := R) (Q := (thenE (W3 k3_3 Q) Q)) hN hR e w h)
  exact rgA 2 (fun e w => m3_26 R (e 0) (e 1) (e 5) (e 23) w) h hN
theorem s3_1 {R : VP} {Q : EQ} (hR : ∀ e w, (R (e 4) w) → Q .ret e w) (e : Env) (w : World) (h : m3_1 R (e 0) (e 1) w) : W3 k3_1 Q e w := by
  unfold m3_1 at h
  refine seA ?_
  have hN : ∀ e w, (m3_2 R (e 0) (e 1) (e 5) (e 6) w) → (thenE (W3 k3_2 Q) Q) .normal e w := fun e w h => then_N (s3_2 (R := R) (Q := Q) hR e w h)
  exact rgA 1 (fun e w => m3_2 R (e 0) (e 1) (e 5) (e 6) w) h hN
theorem s3_0 {R : VP} {Q : EQ} (hR : ∀ e w, (R (e 4) w) → Q .ret e w) (e : Env) (w : World) (h : m3_0 R (e 0) (e 1) w) : W3 k3_0 Q e w := by
  unfold m3_0 at h
  refine seA ?_
  have hN : ∀ e w, (m3_1 R (e 0) (e 1) w) → (thenE (W3 k3_1 Q) Q) .normal e w := fun e w h => then_N (s3_1 (R := R) (Q := Q) hR e w h)
  exact rgA 0 (fun e w => m3_1 R (e 0) (e 1) w) h hN
abbrev m3 (R : VP) (fuse0 texts1 : Value) (w : World) : Prop := m3_0 R fuse0 texts1 w
theorem s3 (fuse0 texts1 : Value) {R : VP} {w : World} (h : m3 R fuse0 texts1 w) :
    Calls Tryd.prog 3 #[fuse0, texts1] w fun e w' => ∃ v, e = .returned v ∧ R v w' :=
  calls_of_cwp (st := (fun i => 0)) (c := k3_0) (by kernel_rfl) Tryd.func3 (by kernel_rfl) (Nat.le_of_ble_eq_true (by kernel_rfl)) (by kernel_rfl)
    (s3_0 (R := R) (Q := endE Tryd.prog Tryd.f3 R) (fun e w h => kcast (by kernel_rfl) h) (argsE #[fuse0, texts1]) w (kcast (by kernel_rfl) h))
/-! ### headgate/headgatelaw04.DiskRoom -/
def m4_14 (R : VP) (t4 : Value) (w : World) : Prop :=
  R t4 w
def m4_11 (R : VP) (K1 : (Value × Value) → World → Prop) (size0 d5 n6 files7 i8 : Value) (w : World) : Prop :=
  valP Tryd.prog (binS BinOp.add 3 (Operand.tmp 23) (Operand.const (Value.int IntKind.i64 1)) i8 (Value.int IntKind.i64 1)) w fun t24 w =>
  K1 (n6, t24) w
def m4_10 (R : VP) (K1 : (Value × Value) → World → Prop) (size0 d5 n6 files7 i8 : Value) (w : World) : Prop :=
  anyDraw w fun w =>
  heldP w fun J =>
  valJ Tryd.prog J (Instr.indexAt 38 files7 i8) fun t28 =>
  valJ Tryd.prog J (Instr.fieldAt 42 t28 1) fun t29 =>
  valJ Tryd.prog J (Instr.loadAt 9 t29) fun t30 =>
  builtinJ Tryd.prog J Builtin.len #[9] 3 #[false] #[t30] fun t31 =>
  valJ Tryd.prog J (Instr.indexAt 38 files7 i8) fun t34 =>
  valJ Tryd.prog J (Instr.fieldAt 42 t34 2) fun t35 =>
  valJ Tryd.prog J (Instr.loadAt 9 t35) fun t36 =>
  builtinJ Tryd.prog J Builtin.len #[9] 3 #[false] #[t36] fun t37 =>
  valJ Tryd.prog J (binS BinOp.add 3 (Operand.tmp 31) (Operand.tmp 37) t31 t37) fun t38 =>
  callP Tryd.prog (fnV 21) #[t38] w fun t39 w =>
  stayP J w
  (valJ Tryd.prog J (binS BinOp.add 3 (Operand.tmp 25) (Operand.tmp 39) n6 t39) fun t40 =>
  m4_11 R K1 size0 d5 t40 files7 i8 w)
def m4_7 (R : VP) (t4 : Value) (w : World) : Prop :=
  R t4 w
def m4_6 (R : VP) (size0 d5 n6 files7 : Value) (w : World) : Prop :=
  valP Tryd.prog (binS BinOp.eql 3 (Operand.tmp 41) (Operand.tmp 42) n6 size0) w fun t43 w =>
  condP t43
  (callP Tryd.prog (fnV 19) #[d5] w fun t46 w =>
  valP Tryd.prog (binS BinOp.geq 3 (Operand.tmp 46) (Operand.const (Value.int IntKind.i64 0)) t46 (Value.int IntKind.i64 0)) w fun t47 w =>
  pickP t43 t47 (Value.bool false) fun t48 =>
  condP t48
  (builtinP Tryd.prog Builtin.len #[38] 3 #[false] #[files7] w fun t51 w =>
  valP Tryd.prog (binS BinOp.leq 3 (Operand.tmp 51) (Operand.const (Value.int IntKind.i64 256)) t51 (Value.int IntKind.i64 256)) w fun t52 w =>
  pickP t48 t52 (Value.bool false) fun t53 =>
  condP t53
  (callP Tryd.prog (fnV 17) #[] w fun t55 w =>
  pickP t53 t55 (Value.bool false) fun t56 =>
  m4_7 R t56 w)
  (pickP t53 undef (Value.bool false) fun t56 =>
  m4_7 R t56 w))
  (pickP t48 undef (Value.bool false) fun t53 =>
  condP t53
  (callP Tryd.prog (fnV 17) #[] w fun t55 w =>
  pickP t53 t55 (Value.bool false) fun t56 =>
  m4_7 R t56 w)
  (pickP t53 undef (Value.bool false) fun t56 =>
  m4_7 R t56 w)))
  (pickP t43 undef (Value.bool false) fun t48 =>
  condP t48
  (builtinP Tryd.prog Builtin.len #[38] 3 #[false] #[files7] w fun t51 w =>
  valP Tryd.prog (binS BinOp.leq 3 (Operand.tmp 51) (Operand.const (Value.int IntKind.i64 256)) t51 (Value.int IntKind.i64 256)) w fun t52 w =>
  pickP t48 t52 (Value.bool false) fun t53 =>
  condP t53
  (callP Tryd.prog (fnV 17) #[] w fun t55 w =>
  pickP t53 t55 (Value.bool false) fun t56 =>
  m4_7 R t56 w)
  (pickP t53 undef (Value.bool false) fun t56 =>
  m4_7 R t56 w))
  (pickP t48 undef (Value.bool false) fun t53 =>
  condP t53
  (callP Tryd.prog (fnV 17) #[] w fun t55 w =>
  pickP t53 t55 (Value.bool false) fun t56 =>
  m4_7 R t56 w)
  (pickP t53 undef (Value.bool false) fun t56 =>
  m4_7 R t56 w)))
def m4_12 (R : VP) (K1 : (Value × Value) → World → Prop) (size0 d5 n6 files7 i8 t22 : Value) (w : World) : Prop :=
  condP t22
  (m4_10 R K1 size0 d5 n6 files7 i8 w)
  (m4_6 R size0 d5 n6 files7 w)
def m4_9 (R : VP) (K1 : (Value × Value) → World → Prop) (size0 d5 n6 files7 i8 : Value) (w : World) : Prop :=
  builtinP Tryd.prog Builtin.len #[38] 3 #[false] #[files7] w fun t21 w =>
  valP Tryd.prog (binS BinOp.lss 3 (Operand.tmp 19) (Operand.tmp 21) i8 t21) w fun t22 w =>
  m4_12 R K1 size0 d5 n6 files7 i8 t22 w
def m4_8 (R : VP) (size0 d5 n6 files7 i8 : Value) (w : World) : Prop :=
  loopP (fun (K1 : (Value × Value) → World → Prop) (s : Value × Value) w => m4_9 R K1 size0 d5 s.1 files7 s.2 w) (n6, i8) w
def m4_5 (R : VP) (size0 d5 n6 files7 : Value) (w : World) : Prop :=
  m4_8 R size0 d5 n6 files7 (Value.int IntKind.i64 0) w
def m4_4 (R : VP) (size0 d5 n6 : Value) (w : World) : Prop :=
  callP Tryd.prog (fnV 20) #[d5] w fun t18 w =>
  m4_5 R size0 d5 n6 t18 w
def m4_3 (R : VP) (size0 d5 : Value) (w : World) : Prop :=
  callP Tryd.prog (fnV 19) #[d5] w fun t16 w =>
  m4_4 R size0 d5 t16 w
def m4_13 (R : VP) (size0 d5 t13 : Value) (w : World) : Prop :=
  condP t13
  (callP Tryd.prog (fnV 17) #[] w fun t14 w =>
  m4_14 R t14 w)
  (m4_3 R size0 d5 w)
def m4_2 (R : VP) (size0 d5 : Value) (w : World) : Prop :=
  valP Tryd.prog (binS BinOp.eql 23 (Operand.tmp 12) (Operand.const (Value.pointer none)) d5 (Value.pointer none)) w fun t13 w =>
  m4_13 R size0 d5 t13 w
def m4_1 (R : VP) (size0 l1 : Value) (w : World) : Prop :=
  callP Tryd.prog (fnV 18) #[size0, l1] w fun t11 w =>
  m4_2 R size0 t11 w
def m4_0 (R : VP) (size0 l1 : Value) (w : World) : Prop :=
  m4_1 R size0 l1 w
abbrev W4 := cwp Tryd.prog (fun i => 0)
noncomputable def k4_0 : Code := (bodyOf Tryd.f4)
noncomputable def k4_1 : Code := (c2 k4_0)
noncomputable def k4_2 : Code := (c2 k4_1)
noncomputable def k4_3 : Code := (c2 k4_2)
noncomputable def k4_4 : Code := (c2 k4_3)
noncomputable def k4_5 : Code := (c2 k4_4)
noncomputable def k4_6 : Code := (c2 k4_5)
noncomputable def k4_7 : Code := (c2 k4_6)
noncomputable def k4_8 : Code := (c2 (c1 k4_5))
noncomputable def k4_9 : Code := (c1 (c1 k4_8))
noncomputable def k4_10 : Code := (c2 k4_9)
noncomputable def k4_11 : Code := (c2 k4_10)
noncomputable def k4_12 : Code := (c2 (c1 k4_9))
noncomputable def k4_13 : Code := (c2 (c1 k4_2))
noncomputable def k4_14 : Code := (c2 (c1 k4_13))
theorem s4_14 {R : VP} {Q : EQ} (hR : ∀ e w, (R (e 4) w) → Q .ret e w) (e : Env) (w : World) (h : m4_14 R (e 4) w) : W4 k4_14 Q e w := by
  unfold m4_14 at h
  exact reA (hR _ _ h)
theorem s4_11 {R : VP} {K1 : (Value × Value) → World → Prop} {Q : EQ} (hN : ∀ e w, (K1 ((e 6), (e 8)) w) → Q .normal e w) (e : Env) (w : World) (h : m4_11 R K1 (e 0) (e 5) (e 6) (e 7) (e 8) w) : W4 k4_11 Q e w := by
  unfold m4_11 at h
  exact rgA 8 (fun e w => K1 ((e 6), (e 8)) w) h hN
theorem s4_10 {R : VP} {K1 : (Value × Value) → World → Prop} {Q : EQ} (hN : ∀ e w, (K1 ((e 6), (e 8)) w) → Q .normal e w) (e : Env) (w : World) (h : m4_10 R K1 (e 0) (e 5) (e 6) (e 7) (e 8) w) : W4 k4_10 Q e w := by
  unfold m4_10 at h
  refine seA ?_
  have hN : ∀ e w, (m4_11 R K1 (e 0) (e 5) (e 6) (e 7) (e 8) w) → (thenE (W4 k4_11 Q) Q) .normal e w := fun e w h => then_N (s4_11 (R := R) (Q := Q) (K1 := K1) hN e w h)
  refine block_ok 1 (by kernel_rfl) ?_
  have hN : ∀ e w, (m4_11 R K1 (e 0) (e 5) (e 6) (e 7) (e 8) w) → (inBlockE 1 (thenE (W4 k4_11 Q) Q)) .normal e w := fun e w h => block_N (hN e w h)
  exact treeJ_ok 9 17 [false, false, false, false, false, false, false, false, false, false, false, false, false, false, false, false, false] (.take 0 [true, false, false, false, false, false, false, false, false, false, false, false, false, false, false, false, false] (.take 1 [true, true, false, false, false, false, false, false, false, false, false, false, false, false, false, false, false] (.take 2 [true, true, true, false, false, false, false, false, false, false, false, false, false, false, false, false, false] (.take 3 [true, true, true, true, false, false, false, false, false, false, false, false, false, false, false, false, false] (.take 4 [true, true, true, true, true, false, false, false, false, false, false, false, false, false, false, false, false] (.take 5 [true, true, true, true, true, true, false, false, false, false, false, false, false, false, false, false, false] (.take 6 [true, true, true, true, true, true, true, false, false, false, false, false, false, false, false, false, false] (.take 7 [true, true, true, true, true, true, true, true, false, false, false, false, false, false, false, false, false] (.take 8 [true, true, true, true, true, true, true, true, true, false, false, false, false, false, false, false, false] (.take 9 [true, true, true, true, true, true, true, true, true, true, false, false, false, false, false, false, false] (.take 10 [true, true, true, true, true, true, true, true, true, true, true, false, false, false, false, false, false] (.take 11 [true, true, true, true, true, true, true, true, true, true, true, true, false, false, false, false, false] (.take 12 [true, true, true, true, true, true, true, true, true, true, true, true, true, false, false, false, false] (.take 13 [true, true, true, true, true, true, true, true, true, true, true, true, true, true, false, false, false] (.alt 14 [true, true, true, true, true, true, true, true, true, true, true, true, true, true, true, false, false] (.take 15 [true, true, true, true, true, true, true, true, true, true, true, true, true, true, true, true, false] (.take 16 [true, true, true, true, true, true, true, true, true, true, true, true, true, true, true, true, true] .done)) .stop))))))))))))))) (fun e w => m4_11 R K1 (e 0) (e 5) (e 6) (e 7) (e 8) w) (by kernel_rfl) (by kernel_rfl) (by kernel_rfl) (by kernel_rfl) (by kernel_rfl) (by kernel_rfl) (kcast (by kernel_rfl) h) hN (by kernel_rfl)
theorem s4_7 {R : VP} {Q : EQ} (hR : ∀ e w, (R (e 4) w) → Q .ret e w) (e : Env) (w : World) (h : m4_7 R (e 4) w) : W4 k4_7 Q e w := by
  unfold m4_7 at h
  exact reA (hR _ _ h)
theorem s4_6 {R : VP} {Q : EQ} (hR : ∀ e w, (R (e 4) w) → Q .ret e w) (e : Env) (w : World) (h : m4_6 R (e 0) (e 5) (e 6) (e 7) w) : W4 k4_6 Q e w := by
  unfold m4_6 at h
  refine seA ?_
  have hN : ∀ e w, (m4_7 R (e 4) w) → (thenE (W4 k4_7 Q) Q) .normal e w := fun e w h => then_N (s4_7 (R := R) (Q := Q) hR e w h)
  exact rgA 10 (fun e w => m4_7 R (e 4) w) h hN
theorem s4_12 {R : VP} {K1 : (Value × Value) → World → Prop} {Q : EQ} (hN : ∀ e w, (m4_10 R K1 (e 0) (e 5) (e 6) (e 7) (e 8) w) → Q .normal e w) (hX0 : ∀ e w, (m4_6 R (e 0) (e 5) (e 6) (e 7) w) → Q (.exit 0) e w) (e : Env) (w : World) (h : m4_12 R K1 (e 0) (e 5) (e 6) (e 7) (e 8) (e 22) w) : W4 k4_12 Q e w := by
  unfold m4_12 at h
  refine coA (Operand.tmp 22) h (fun h1 => ?_) (fun h1 => ?_)
  · exact skA (hN _ _ h1)
  · exact exA 0 (hX0 _ _ h1)
theorem s4_9 {R : VP} {K1 : (Value × Value) → World → Prop} {Q : EQ} (hN : ∀ e w, (K1 ((e 6), (e 8)) w) → Q .normal e w) (hX0 : ∀ e w, (m4_6 R (e 0) (e 5) (e 6) (e 7) w) → Q (.exit 0) e w) (e : Env) (w : World) (h : m4_9 R K1 (e 0) (e 5) (e 6) (e 7) (e 8) w) : W4 k4_9 Q e w := by
  unfold m4_9 at h
  refine seA ?_
  have hN : ∀ e w, (m4_10 R K1 (e 0) (e 5) (e 6) (e 7) (e 8) w) → (thenE (W4 k4_10 Q) Q) .normal e w := fun e w h => then_N (s4_10 (R := R) (Q := Q) (K1 := K1) hN e w h)
  have hX0 : ∀ e w, (m4_6 R (e 0) (e 5) (e 6) (e 7) w) → (thenE (W4 k4_10 Q) Q) (.exit 0) e w := fun e w h => then_X (hX0 e w h)
  refine seA ?_
  have hN : ∀ e w, (m4_12 R K1 (e 0) (e 5) (e 6) (e 7) (e 8) (e 22) w) → (thenE (W4 k4_12 (thenE (W4 k4_10 Q) Q)) (thenE (W4 k4_10 Q) Q)) .normal e w := fun e w h => then_N (s4_12 (R := R) (Q := (thenE (W4 k4_10 Q) Q)) (K1 := K1) hN hX0 e w h)
  exact rgA 7 (fun e w => m4_12 R K1 (e 0) (e 5) (e 6) (e 7) (e 8) (e 22) w) h hN
theorem s4_8 {R : VP} {Q : EQ} (hN : ∀ e w, (m4_6 R (e 0) (e 5) (e 6) (e 7) w) → Q .normal e w) (e : Env) (w : World) (h : m4_8 R (e 0) (e 5) (e 6) (e 7) (e 8) w) : W4 k4_8 Q e w := by
  unfold m4_8 at h
  refine block_ok 0 (by kernel_rfl) ?_
  have hX0 : ∀ e w, (m4_6 R (e 0) (e 5) (e 6) (e 7) w) → (inBlockE 0 Q) (.exit 0) e w := fun e w h => inBlock_same (Q := Q) 0 (hN e w h)
  refine loop_ok' (fun (e : Env) => (e 6, e 8)) [0, 5, 7] (by kernel_rfl) (by kernel_rfl) h (fun K e' w' hk h' => ?_)
  have r0 : e' 0 = e 0 := hk 0 (by decide)
  have r5 : e' 5 = e 5 := hk 5 (by decide)
  have r7 : e' 7 = e 7 := hk 7 (by decide)
  have hX0 : ∀ e w, (m4_6 R (e 0) (e 5) (e 6) (e 7) w) → (thenE (fun (e : Env) w => K ((e 6), (e 8)) w) (inBlockE 0 Q)) (.exit 0) e w := fun e w h => then_X (hX0 e w h)
  exact s4_9 (R := R) (Q := (thenE (fun (e : Env) w => K ((e 6), (e 8)) w) (inBlockE 0 Q))) (K1 := K) (fun _ _ h => then_N h) hX0 e' w' (by rw [r0, r5, r7]; exact h')
theorem s4_5 {R : VP} {Q : EQ} (hR : ∀ e w, (R (e 4) w) → Q .ret e w) (e : Env) (w : World) (h : m4_5 R (e 0) (e 5) (e 6) (e 7) w) : W4 k4_5 Q e w := by
  unfold m4_5 at h
  refine seA ?_
  have hN : ∀ e w, (m4_6 R (e 0) (e 5) (e 6) (e 7) w) → (thenE (W4 k4_6 Q) Q) .normal e w := fun e w h => then_N (s4_6 (R := R) (Q := Q) hR e w h)
  refine seA ?_
  have hN : ∀ e w, (m4_8 R (e 0) (e 5) (e 6) (e 7) (e 8) w) → (thenE (W4 k4_8 (thenE (W4 k4_6 Q) Q)) (thenE (W4 k4_6 Q) Q)) .normal e w := fun e w h => then_N (s4_8 (R := R) (Q := (thenE (W4 k4_6 Q) Q)) hN e w h)
  exact rgA 6 (fun e w => m4_8 R (e 0) (e 5) (e 6) (e 7) (e 8) w) h hN
theorem s4_4 {R : VP} {Q : EQ} (hR : ∀ e w, (R (e 4) w) → Q .ret e w) (e : Env) (w : World) (h : m4_4 R (e 0) (e 5) (e 6) w) : W4 k4_4 Q e w := by
  unfold m4_4 at h
  refine seA ?_
  have hN : ∀ e w, (m4_5 R (e 0) (e 5) (e 6) (e 7) w) → (thenE (W4 k4_5 Q) Q) .normal e w := fun e w h => then_N (s4_5 (R := R) (Q := Q) hR e w h)
  exact rgA 5 (fun e w => m4_5 R (e 0) (e 5) (e 6) (e 7) w) h hN
theorem s4_3 {R : VP} {Q : EQ} (hR : ∀ e w, (R (e 4) w) → Q .ret e w) (e : Env) (w : World) (h : m4_3 R (e 0) (e 5) w) : W4 k4_3 Q e w := by
  unfold m4_3 at h
  refine seA ?_
  have hN : ∀ e w, (m4_4 R (e 0) (e 5) (e 6) w) → (thenE (W4 k4_4 Q) Q) .normal e w := fun e w h => then_N (s4_4 (R := R) (Q := Q) hR e w h)
  exact rgA 4 (fun e w => m4_4 R (e 0) (e 5) (e 6) w) h hN
theorem s4_13 {R : VP} {Q : EQ} (hN : ∀ e w, (m4_3 R (e 0) (e 5) w) → Q .normal e w) (hR : ∀ e w, (R (e 4) w) → Q .ret e w) (e : Env) (w : World) (h : m4_13 R (e 0) (e 5) (e 13) w) : W4 k4_13 Q e w := by
  unfold m4_13 at h
  refine coA (Operand.tmp 13) h (fun h1 => ?_) (fun h1 => ?_)
  · refine seA ?_
    have hN : ∀ e w, (m4_14 R (e 4) w) → (thenE (W4 k4_14 Q) Q) .normal e w := fun e w h => then_N (s4_14 (R := R) (Q := Q) hR e w h)
    exact rgA 3 (fun e w => m4_14 R (e 4) w) h1 hN
  · exact skA (hN _ _ h1)
theorem s4_2 {R : VP} {Q : EQ} (hR : ∀ e w, (R (e 4) w) → Q .ret e w) (e : Env) (w : World) (h : m4_2 R (e 0) (e 5) w) : W4 k4_2 Q e w := by
  unfold m4_2 at h
  refine seA ?_
  have hN : ∀ e w, (m4_3 R (e 0) (e 5) w) → (thenE (W4 k4_3 Q) Q) .normal e w := fun e w h => then_N (s4_3 (R := R) (Q := Q) hR e w h)
  have hR : ∀ e w, (R (e 4) w) → (thenE (W4 k4_3 Q) Q) .ret e w := fun e w h => then_R (hR e w h)
  refine seA ?_
  have hN : ∀ e w, (m4_13 R (e 0) (e 5) (e 13) w) → (thenE (W4 k4_13 (thenE (W4 k4_3 Q) Q)) (thenE (W4 k4_3 Q) Q)) .normal e w := fun e w h => then_N (s4_13 (R := R) (Q := (thenE (W4 k4_3 Q) Q)) hN hR e w h)
  exact rgA 2 (fun e w => m4_13 R (e 0) (e 5) (e 13) w) h hN
theorem s4_1 {R : VP} {Q : EQ} (hR : ∀ e w, (R (e 4) w) → Q .ret e w) (e : Env) (w : World) (h : m4_1 R (e 0) (e 1) w) : W4 k4_1 Q e w := by
  unfold m4_1 at h
  refine seA ?_
  have hN : ∀ e w, (m4_2 R (e 0) (e 5) w) → (thenE (W4 k4_2 Q) Q) .normal e w := fun e w h => then_N (s4_2 (R := R) (Q := Q) hR e w h)
  exact rgA 1 (fun e w => m4_2 R (e 0) (e 5) w) h hN
theorem s4_0 {R : VP} {Q : EQ} (hR : ∀ e w, (R (e 4) w) → Q .ret e w) (e : Env) (w : World) (h : m4_0 R (e 0) (e 1) w) : W4 k4_0 Q e w := by
  unfold m4_0 at h
  refine seA ?_
  have hN : ∀ e w, (m4_1 R (e 0) (e 1) w) → (thenE (W4 k4_1 Q) Q) .normal e w := fun e w h => then_N (s4_1 (R := R) (Q := Q) hR e w h)
  exact rgA 0 (fun e w => m4_1 R (e 0) (e 1) w) h hN
abbrev m4 (R : VP) (size0 l1 : Value) (w : World) : Prop := m4_0 R size0 l1 w
theorem s4 (size0 l1 : Value) {R : VP} {w : World} (h : m4 R size0 l1 w) :
    Calls Tryd.prog 4 #[size0, l1] w fun e w' => ∃ v, e = .returned v ∧ R v w' :=
  calls_of_cwp (st := (fun i => 0)) (c := k4_0) (by kernel_rfl) Tryd.func4 (by kernel_rfl) (Nat.le_of_ble_eq_true (by kernel_rfl)) (by kernel_rfl)
    (s4_0 (R := R) (Q := endE Tryd.prog Tryd.f4 R) (fun e w h => kcast (by kernel_rfl) h) (argsE #[size0, l1]) w (kcast (by kernel_rfl) h))
/-! ### headgate/headgatelaw04.DiskRenames -/
def m5_33 (R : VP) (t8 : Value) (w : World) : Prop :=
  R t8 w
def m5_31 (R : VP) (t8 : Value) (w : World) : Prop :=
  R t8 w
def m5_17 (R : VP) (K1 : (Value × Value) → World → Prop) (from2 to3 was10 now12 f14 n15 i16 : Value) (w : World) : Prop :=
  valP Tryd.prog (binS BinOp.add 3 (Operand.tmp 56) (Operand.const (Value.int IntKind.i64 1)) i16 (Value.int IntKind.i64 1)) w fun t57 w =>
  K1 (n15, t57) w
def m5_24 (R : VP) (K1 : (Value × Value) → World → Prop) (K2 : (Value × Value) → World → Prop) (from2 to3 was10 now12 f14 n15 i16 x17 k18 : Value) (w : World) : Prop :=
  valP Tryd.prog (binS BinOp.add 3 (Operand.tmp 81) (Operand.const (Value.int IntKind.i64 1)) k18 (Value.int IntKind.i64 1)) w fun t82 w =>
  K2 (n15, t82) w
def m5_25 (R : VP) (K1 : (Value × Value) → World → Prop) (K2 : (Value × Value) → World → Prop) (from2 to3 was10 now12 f14 n15 i16 x17 k18 t88 : Value) (w : World) : Prop :=
  condP t88
  (valP Tryd.prog (binS BinOp.add 3 (Operand.tmp 89) (Operand.const (Value.int IntKind.i64 1)) n15 (Value.int IntKind.i64 1)) w fun t90 w =>
  m5_24 R K1 K2 from2 to3 was10 now12 f14 t90 i16 x17 k18 w)
  (m5_24 R K1 K2 from2 to3 was10 now12 f14 n15 i16 x17 k18 w)
def m5_23 (R : VP) (K1 : (Value × Value) → World → Prop) (K2 : (Value × Value) → World → Prop) (from2 to3 was10 now12 f14 n15 i16 x17 k18 : Value) (w : World) : Prop :=
  valQ Tryd.prog (Instr.indexAt 38 now12 k18) w fun t85 =>
  valQ Tryd.prog (Instr.loadAt 42 t85) w fun t86 =>
  valQ Tryd.prog (Instr.loadAt 42 x17) w fun t87 =>
  valQ Tryd.prog (binS BinOp.eql 42 (Operand.tmp 86) (Operand.tmp 87) t86 t87) w fun t88 =>
  anyDraw w fun w =>
  m5_25 R K1 K2 from2 to3 was10 now12 f14 n15 i16 x17 k18 t88 w
def m5_26 (R : VP) (K1 : (Value × Value) → World → Prop) (K2 : (Value × Value) → World → Prop) (from2 to3 was10 now12 f14 n15 i16 x17 k18 t80 : Value) (w : World) : Prop :=
  condP t80
  (m5_23 R K1 K2 from2 to3 was10 now12 f14 n15 i16 x17 k18 w)
  (m5_17 R K1 from2 to3 was10 now12 f14 n15 i16 w)
def m5_22 (R : VP) (K1 : (Value × Value) → World → Prop) (K2 : (Value × Value) → World → Prop) (from2 to3 was10 now12 f14 n15 i16 x17 k18 : Value) (w : World) : Prop :=
  builtinP Tryd.prog Builtin.len #[38] 3 #[false] #[now12] w fun t79 w =>
  valP Tryd.prog (binS BinOp.lss 3 (Operand.tmp 77) (Operand.tmp 79) k18 t79) w fun t80 w =>
  m5_26 R K1 K2 from2 to3 was10 now12 f14 n15 i16 x17 k18 t80 w
def m5_21 (R : VP) (K1 : (Value × Value) → World → Prop) (from2 to3 was10 now12 f14 n15 i16 x17 k18 : Value) (w : World) : Prop :=
  loopP (fun (K2 : (Value × Value) → World → Prop) (s : Value × Value) w => m5_22 R K1 K2 from2 to3 was10 now12 f14 s.1 i16 x17 s.2 w) (n15, k18) w
def m5_20 (R : VP) (K1 : (Value × Value) → World → Prop) (from2 to3 was10 now12 f14 n15 i16 x17 : Value) (w : World) : Prop :=
  m5_21 R K1 from2 to3 was10 now12 f14 n15 i16 x17 (Value.int IntKind.i64 0) w
def m5_27 (R : VP) (K1 : (Value × Value) → World → Prop) (from2 to3 was10 now12 f14 n15 i16 x17 t74 : Value) (w : World) : Prop :=
  condP t74
  (valP Tryd.prog (Instr.fieldAt 42 x17 0) w fun t76 w =>
  unitP Tryd.prog (Instr.storeAt 9 t76 to3) w fun _ w =>
  m5_20 R K1 from2 to3 was10 now12 f14 n15 i16 x17 w)
  (m5_20 R K1 from2 to3 was10 now12 f14 n15 i16 x17 w)
def m5_19 (R : VP) (K1 : (Value × Value) → World → Prop) (from2 to3 was10 now12 f14 n15 i16 x17 : Value) (w : World) : Prop :=
  valP Tryd.prog (Instr.fieldAt 42 x17 0) w fun t71 w =>
  valP Tryd.prog (Instr.loadAt 9 t71) w fun t72 w =>
  valP Tryd.prog (binS BinOp.eql 9 (Operand.tmp 72) (Operand.tmp 73) t72 from2) w fun t74 w =>
  m5_27 R K1 from2 to3 was10 now12 f14 n15 i16 x17 t74 w
def m5_28 (R : VP) (K1 : (Value × Value) → World → Prop) (from2 to3 was10 now12 f14 n15 i16 x17 t70 : Value) (w : World) : Prop :=
  condP t70
  (m5_17 R K1 from2 to3 was10 now12 f14 n15 i16 w)
  (m5_19 R K1 from2 to3 was10 now12 f14 n15 i16 x17 w)
def m5_18 (R : VP) (K1 : (Value × Value) → World → Prop) (from2 to3 was10 now12 f14 n15 i16 x17 : Value) (w : World) : Prop :=
  valP Tryd.prog (Instr.fieldAt 42 x17 0) w fun t62 w =>
  valP Tryd.prog (Instr.loadAt 9 t62) w fun t63 w =>
  valP Tryd.prog (binS BinOp.eql 9 (Operand.tmp 63) (Operand.tmp 64) t63 to3) w fun t65 w =>
  condP t65
  (valP Tryd.prog (binS BinOp.neq 9 (Operand.tmp 67) (Operand.tmp 68) from2 to3) w fun t69 w =>
  pickP t65 t69 (Value.bool false) fun t70 =>
  m5_28 R K1 from2 to3 was10 now12 f14 n15 i16 x17 t70 w)
  (pickP t65 undef (Value.bool false) fun t70 =>
  m5_28 R K1 from2 to3 was10 now12 f14 n15 i16 x17 t70 w)
def m5_16 (R : VP) (K1 : (Value × Value) → World → Prop) (from2 to3 was10 now12 f14 n15 i16 : Value) (w : World) : Prop :=
  valP Tryd.prog (Instr.indexAt 38 was10 i16) w fun t60 w =>
  valP Tryd.prog (Instr.loadAt 42 t60) w fun t61 w =>
  valP Tryd.prog (Instr.alloc 42 true (.tuple #[])) w fun x17 w =>
  unitP Tryd.prog (Instr.storeAt 42 x17 t61) w fun _ w =>
  m5_18 R K1 from2 to3 was10 now12 f14 n15 i16 x17 w
def m5_13 (R : VP) (t8 : Value) (w : World) : Prop :=
  R t8 w
def m5_12 (R : VP) (from2 to3 now12 f14 n15 : Value) (w : World) : Prop :=
  builtinP Tryd.prog Builtin.len #[38] 3 #[false] #[now12] w fun t93 w =>
  valP Tryd.prog (binS BinOp.eql 3 (Operand.tmp 91) (Operand.tmp 93) n15 t93) w fun t94 w =>
  condP t94
  (valP Tryd.prog (binS BinOp.eql 24 (Operand.tmp 96) (Operand.const (Value.int IntKind.i64 3)) f14 (Value.int IntKind.i64 3)) w fun t97 w =>
  valP Tryd.prog (binS BinOp.neq 9 (Operand.tmp 98) (Operand.tmp 99) from2 to3) w fun t100 w =>
  valP Tryd.prog (binS BinOp.eql 4 (Operand.tmp 97) (Operand.tmp 100) t97 t100) w fun t101 w =>
  pickP t94 t101 (Value.bool false) fun t102 =>
  condP t102
  (callP Tryd.prog (fnV 17) #[] w fun t104 w =>
  pickP t102 t104 (Value.bool false) fun t105 =>
  m5_13 R t105 w)
  (pickP t102 undef (Value.bool false) fun t105 =>
  m5_13 R t105 w))
  (pickP t94 undef (Value.bool false) fun t102 =>
  condP t102
  (callP Tryd.prog (fnV 17) #[] w fun t104 w =>
  pickP t102 t104 (Value.bool false) fun t105 =>
  m5_13 R t105 w)
  (pickP t102 undef (Value.bool false) fun t105 =>
  m5_13 R t105 w))
def m5_29 (R : VP) (K1 : (Value × Value) → World → Prop) (from2 to3 was10 now12 f14 n15 i16 t55 : Value) (w : World) : Prop :=
  condP t55
  (m5_16 R K1 from2 to3 was10 now12 f14 n15 i16 w)
  (m5_12 R from2 to3 now12 f14 n15 w)
def m5_15 (R : VP) (K1 : (Value × Value) → World → Prop) (from2 to3 was10 now12 f14 n15 i16 : Value) (w : World) : Prop :=
  builtinP Tryd.prog Builtin.len #[38] 3 #[false] #[was10] w fun t54 w =>
  valP Tryd.prog (binS BinOp.lss 3 (Operand.tmp 52) (Operand.tmp 54) i16 t54) w fun t55 w =>
  m5_29 R K1 from2 to3 was10 now12 f14 n15 i16 t55 w
def m5_14 (R : VP) (from2 to3 was10 now12 f14 n15 i16 : Value) (w : World) : Prop :=
  loopP (fun (K1 : (Value × Value) → World → Prop) (s : Value × Value) w => m5_15 R K1 from2 to3 was10 now12 f14 s.1 s.2 w) (n15, i16) w
def m5_11 (R : VP) (from2 to3 was10 now12 f14 n15 : Value) (w : World) : Prop :=
  m5_14 R from2 to3 was10 now12 f14 n15 (Value.int IntKind.i64 0) w
def m5_10 (R : VP) (from2 to3 was10 now12 f14 : Value) (w : World) : Prop :=
  m5_11 R from2 to3 was10 now12 f14 (Value.int IntKind.i64 0) w
def m5_9 (R : VP) (from2 to3 d9 was10 now12 : Value) (w : World) : Prop :=
  callP Tryd.prog (fnV 15) #[d9, from2] w fun t49 w =>
  valP Tryd.prog (Instr.extract t49 0) w fun t50 w =>
  valP Tryd.prog (Instr.extract t49 1) w fun t51 w =>
  m5_10 R from2 to3 was10 now12 t51 w
def m5_30 (R : VP) (from2 to3 d9 was10 now12 t39 : Value) (w : World) : Prop :=
  condP t39
  (callP Tryd.prog (fnV 23) #[was10, now12] w fun t42 w =>
  condP t42
  (callP Tryd.prog (fnV 17) #[] w fun t44 w =>
  pickP t42 t44 (Value.bool false) fun t45 =>
  m5_31 R t45 w)
  (pickP t42 undef (Value.bool false) fun t45 =>
  m5_31 R t45 w))
  (m5_9 R from2 to3 d9 was10 now12 w)
def m5_8 (R : VP) (from2 to3 d9 was10 e11 now12 : Value) (w : World) : Prop :=
  valP Tryd.prog (binS BinOp.neq 24 (Operand.tmp 38) (Operand.const (Value.int IntKind.i64 0)) e11 (Value.int IntKind.i64 0)) w fun t39 w =>
  m5_30 R from2 to3 d9 was10 now12 t39 w
def m5_7 (R : VP) (from2 to3 d9 was10 e11 : Value) (w : World) : Prop :=
  callP Tryd.prog (fnV 20) #[d9] w fun t37 w =>
  m5_8 R from2 to3 d9 was10 e11 t37 w
def m5_6 (R : VP) (from2 to3 d9 was10 : Value) (w : World) : Prop :=
  callP Tryd.prog (fnV 22) #[d9, from2, to3] w fun t35 w =>
  m5_7 R from2 to3 d9 was10 t35 w
def m5_5 (R : VP) (from2 to3 d9 : Value) (w : World) : Prop :=
  callP Tryd.prog (fnV 20) #[d9] w fun t31 w =>
  m5_6 R from2 to3 d9 t31 w
def m5_4 (R : VP) (from2 to3 d9 : Value) (w : World) : Prop :=
  callP Tryd.prog (fnV 12) #[d9, from2, (Value.string ⟨#[110, 101, 119]⟩)] w fun t29 w =>
  m5_5 R from2 to3 d9 w
def m5_3 (R : VP) (from2 to3 d9 : Value) (w : World) : Prop :=
  callP Tryd.prog (fnV 14) #[d9, (Value.slice none 0 0)] w fun t26 w =>
  m5_4 R from2 to3 d9 w
def m5_32 (R : VP) (from2 to3 d9 t23 : Value) (w : World) : Prop :=
  condP t23
  (callP Tryd.prog (fnV 17) #[] w fun t24 w =>
  m5_33 R t24 w)
  (m5_3 R from2 to3 d9 w)
def m5_2 (R : VP) (from2 to3 d9 : Value) (w : World) : Prop :=
  valP Tryd.prog (binS BinOp.eql 23 (Operand.tmp 22) (Operand.const (Value.pointer none)) d9 (Value.pointer none)) w fun t23 w =>
  m5_32 R from2 to3 d9 t23 w
def m5_1 (R : VP) (size0 l1 from2 to3 : Value) (w : World) : Prop :=
  callP Tryd.prog (fnV 18) #[size0, l1] w fun t21 w =>
  m5_2 R from2 to3 t21 w
def m5_0 (R : VP) (size0 l1 from2 to3 : Value) (w : World) : Prop :=
  m5_1 R size0 l1 from2 to3 w
abbrev W5 := cwp Tryd.prog (fun i => cond (Nat.beq i 23) 1 (0))
noncomputable def k5_0 : Code := (bodyOf Tryd.f5)
noncomputable def k5_1 : Code := (c2 k5_0)
noncomputable def k5_2 : Code := (c2 k5_1)
noncomputable def k5_3 : Code := (c2 k5_2)
noncomputable def k5_4 : Code := (c2 k5_3)
noncomputable def k5_5 : Code := (c2 k5_4)
noncomputable def k5_6 : Code := (c2 k5_5)
noncomputable def k5_7 : Code := (c2 k5_6)
noncomputable def k5_8 : Code := (c2 k5_7)
noncomputable def k5_9 : Code := (c2 k5_8)
noncomputable def k5_10 : Code := (c2 k5_9)
noncomputable def k5_11 : Code := (c2 k5_10)
noncomputable def k5_12 : Code := (c2 k5_11)
noncomputable def k5_13 : Code := (c2 k5_12)
noncomputable def k5_14 : Code := (c2 (c1 k5_11))
noncomputable def k5_15 : Code := (c1 (c1 k5_14))
noncomputable def k5_16 : Code := (c2 k5_15)
noncomputable def k5_17 : Code := (c2 k5_16)
noncomputable def k5_18 : Code := (c2 (c1 (c1 k5_16)))
noncomputable def k5_19 : Code := (c2 k5_18)
noncomputable def k5_20 : Code := (c2 k5_19)
noncomputable def k5_21 : Code := (c2 k5_20)
noncomputable def k5_22 : Code := (c1 (c1 k5_21))
noncomputable def k5_23 : Code := (c2 k5_22)
noncomputable def k5_24 : Code := (c2 k5_23)
noncomputable def k5_25 : Code := (c2 (c1 (c1 k5_23)))
noncomputable def k5_26 : Code := (c2 (c1 k5_22))
noncomputable def k5_27 : Code := (c2 (c1 k5_19))
noncomputable def k5_28 : Code := (c2 (c1 k5_18))
noncomputable def k5_29 : Code := (c2 (c1 k5_15))
noncomputable def k5_30 : Code := (c2 (c1 k5_8))
noncomputable def k5_31 : Code := (c2 (c1 k5_30))
noncomputable def k5_32 : Code := (c2 (c1 k5_2))
noncomputable def k5_33 : Code := (c2 (c1 k5_32))
theorem s5_33 {R : VP} {Q : EQ} (hR : ∀ e w, (R (e 8) w) → Q .ret e w) (e : Env) (w : World) (h : m5_33 R (e 8) w) : W5 k5_33 Q e w := by
  unfold m5_33 at h
  exact reA (hR _ _ h)
theorem s5_31 {R : VP} {Q : EQ} (hR : ∀ e w, (R (e 8) w) → Q .ret e w) (e : Env) (w : World) (h : m5_31 R (e 8) w) : W5 k5_31 Q e w := by
  unfold m5_31 at h
  exact reA (hR _ _ h)
theorem s5_17 {R : VP} {K1 : (Value × Value) → World → Prop} {Q : EQ} (hN : ∀ e w, (K1 ((e 15), (e 16)) w) → Q .normal e w) (e : Env) (w : World) (h : m5_17 R K1 (e 2) (e 3) (e 10) (e 12) (e 14) (e 15) (e 16) w) : W5 k5_17 Q e w := by
  unfold m5_17 at h
  exact rgA 15 (fun e w => K1 ((e 15), (e 16)) w) h hN
theorem s5_24 {R : VP} {K1 : (Value × Value) → World → Prop} {K2 : (Value × Value) → World → Prop} {Q : EQ} (hN : ∀ e w, (K2 ((e 15), (e 18)) w) → Q .normal e w) (e : Env) (w : World) (h : m5_24 R K1 K2 (e 2) (e 3) (e 10) (e 12) (e 14) (e 15) (e 16) (e 17) (e 18) w) : W5 k5_24 Q e w := by
  unfold m5_24 at h
  exact rgA 22 (fun e w => K2 ((e 15), (e 18)) w) h hN
theorem s5_25 {R : VP} {K1 : (Value × Value) → World → Prop} {K2 : (Value × Value) → World → Prop} {Q : EQ} (hN : ∀ e w, (m5_24 R K1 K2 (e 2) (e 3) (e 10) (e 12) (e 14) (e 15) (e 16) (e 17) (e 18) w) → Q .normal e w) (e : Env) (w : World) (h : m5_25 R K1 K2 (e 2) (e 3) (e 10) (e 12) (e 14) (e 15) (e 16) (e 17) (e 18) (e 88) w) : W5 k5_25 Q e w := by
  unfold m5_25 at h
  refine coA (Operand.tmp 88) h (fun h1 => ?_) (fun h1 => ?_)
  · exact rgA 24 (fun e w => m5_24 R K1 K2 (e 2) (e 3) (e 10) (e 12) (e 14) (e 15) (e 16) (e 17) (e 18) w) h1 hN
  · exact skA (hN _ _ h1)
theorem s5_23 {R : VP} {K1 : (Value × Value) → World → Prop} {K2 : (Value × Value) → World → Prop} {Q : EQ} (hN : ∀ e w, (K2 ((e 15), (e 18)) w) → Q .normal e w) (e : Env) (w : World) (h : m5_23 R K1 K2 (e 2) (e 3) (e 10) (e 12) (e 14) (e 15) (e 16) (e 17) (e 18) w) : W5 k5_23 Q e w := by
  unfold m5_23 at h
  refine seA ?_
  have hN : ∀ e w, (m5_24 R K1 K2 (e 2) (e 3) (e 10) (e 12) (e 14) (e 15) (e 16) (e 17) (e 18) w) → (thenE (W5 k5_24 Q) Q) .normal e w := fun e w h => then_N (s5_24 (R := R) (Q := Q) (K1 := K1) (K2 := K2) hN e w h)
  refine block_ok 3 (by kernel_rfl) ?_
  have hN : ∀ e w, (m5_24 R K1 K2 (e 2) (e 3) (e 10) (e 12) (e 14) (e 15) (e 16) (e 17) (e 18) w) → (inBlockE 3 (thenE (W5 k5_24 Q) Q)) .normal e w := fun e w h => block_N (hN e w h)
  refine seA ?_
  have hN : ∀ e w, (m5_25 R K1 K2 (e 2) (e 3) (e 10) (e 12) (e 14) (e 15) (e 16) (e 17) (e 18) (e 88) w) → (thenE (W5 k5_25 (inBlockE 3 (thenE (W5 k5_24 Q) Q))) (inBlockE 3 (thenE (W5 k5_24 Q) Q))) .normal e w := fun e w h => then_N (s5_25 (R := R) (Q := (inBlockE 3 (thenE (W5 k5_24 Q) Q))) (K1 := K1) (K2 := K2) hN e w h)
  exact quA 23 (fun e w => m5_25 R K1 K2 (e 2) (e 3) (e 10) (e 12) (e 14) (e 15) (e 16) (e 17) (e 18) (e 88) w) h hN
theorem s5_26 {R : VP} {K1 : (Value × Value) → World → Prop} {K2 : (Value × Value) → World → Prop} {Q : EQ} (hN : ∀ e w, (m5_23 R K1 K2 (e 2) (e 3) (e 10) (e 12) (e 14) (e 15) (e 16) (e 17) (e 18) w) → Q .normal e w) (hX2 : ∀ e w, (m5_17 R K1 (e 2) (e 3) (e 10) (e 12) (e 14) (e 15) (e 16) w) → Q (.exit 2) e w) (e : Env) (w : World) (h : m5_26 R K1 K2 (e 2) (e 3) (e 10) (e 12) (e 14) (e 15) (e 16) (e 17) (e 18) (e 80) w) : W5 k5_26 Q e w := by
  unfold m5_26 at h
  refine coA (Operand.tmp 80) h (fun h1 => ?_) (fun h1 => ?_)
  · exact skA (hN _ _ h1)
  · exact exA 2 (hX2 _ _ h1)
theorem s5_22 {R : VP} {K1 : (Value × Value) → World → Prop} {K2 : (Value × Value) → World → Prop} {Q : EQ} (hN : ∀ e w, (K2 ((e 15), (e 18)) w) → Q .normal e w) (hX2 : ∀ e w, (m5_17 R K1 (e 2) (e 3) (e 10) (e 12) (e 14) (e 15) (e 16) w) → Q (.exit 2) e w) (e : Env) (w : World) (h : m5_22 R K1 K2 (e 2) (e 3) (e 10) (e 12) (e 14) (e 15) (e 16) (e 17) (e 18) w) : W5 k5_22 Q e w := by
  unfold m5_22 at h
  refine seA ?_
  have hN : ∀ e w, (m5_23 R K1 K2 (e 2) (e 3) (e 10) (e 12) (e 14) (e 15) (e 16) (e 17) (e 18) w) → (thenE (W5 k5_23 Q) Q) .normal e w := fun e w h => then_N (s5_23 (R := R) (Q := Q) (K1 := K1) (K2 := K2) hN e w h)
  have hX2 : ∀ e w, (m5_17 R K1 (e 2) (e 3) (e 10) (e 12) (e 14) (e 15) (e 16) w) → (thenE (W5 k5_23 Q) Q) (.exit 2) e w := fun e w h => then_X (hX2 e w h)
  refine seA ?_
  have hN : ∀ e w, (m5_26 R K1 K2 (e 2) (e 3) (e 10) (e 12) (e 14) (e 15) (e 16) (e 17) (e 18) (e 80) w) → (thenE (W5 k5_26 (thenE (W5 k5_23 Q) Q)) (thenE (W5 k5_23 Q) Q)) .normal e w := fun e w h => then_N (s5_26 (R := R) (Q := (thenE (W5 k5_23 Q) Q)) (K1 := K1) (K2 := K2) hN hX2 e w h)
  exact rgA 21 (fun e w => m5_26 R K1 K2 (e 2) (e 3) (e 10) (e 12) (e 14) (e 15) (e 16) (e 17) (e 18) (e 80) w) h hN
theorem s5_21 {R : VP} {K1 : (Value × Value) → World → Prop} {Q : EQ} (hN : ∀ e w, (m5_17 R K1 (e 2) (e 3) (e 10) (e 12) (e 14) (e 15) (e 16) w) → Q .normal e w) (e : Env) (w : World) (h : m5_21 R K1 (e 2) (e 3) (e 10) (e 12) (e 14) (e 15) (e 16) (e 17) (e 18) w) : W5 k5_21 Q e w := by
  unfold m5_21 at h
  refine block_ok 2 (by kernel_rfl) ?_
  have hX2 : ∀ e w, (m5_17 R K1 (e 2) (e 3) (e 10) (e 12) (e 14) (e 15) (e 16) w) → (inBlockE 2 Q) (.exit 2) e w := fun e w h => inBlock_same (Q := Q) 2 (hN e w h)
  refine loop_ok' (fun (e : Env) => (e 15, e 18)) [2, 3, 10, 12, 14, 16, 17] (by kernel_rfl) (by kernel_rfl) h (fun K e' w' hk h' => ?_)
  have r2 : e' 2 = e 2 := hk 2 (by decide)
  have r3 : e' 3 = e 3 := hk 3 (by decide)
  have r10 : e' 10 = e 10 := hk 10 (by decide)
  have r12 : e' 12 = e 12 := hk 12 (by decide)
  have r14 : e' 14 = e 14 := hk 14 (by decide)
  have r16 : e' 16 = e 16 := hk 16 (by decide)
  have r17 : e' 17 = e 17 := hk 17 (by decide)
  have hX2 : ∀ e w, (m5_17 R K1 (e 2) (e 3) (e 10) (e 12) (e 14) (e 15) (e 16) w) → (thenE (fun (e : Env) w => K ((e 15), (e 18)) w) (inBlockE 2 Q)) (.exit 2) e w := fun e w h => then_X (hX2 e w h)
  exact s5_22 (R := R) (Q := (thenE (fun (e : Env) w => K ((e 15), (e 18)) w) (inBlockE 2 Q))) (K1 := K1) (K2 := K) (fun _ _ h => then_N h) hX2 e' w' (by rw [r2, r3, r10, r12, r14, r16, r17]; exact h')
theorem s5_20 {R : VP} {K1 : (Value × Value) → World → Prop} {Q : EQ} (hN : ∀ e w, (m5_17 R K1 (e 2) (e 3) (e 10) (e 12) (e 14) (e 15) (e 16) w) → Q .normal e w) (e : Env) (w : World) (h : m5_20 R K1 (e 2) (e 3) (e 10) (e 12) (e 14) (e 15) (e 16) (e 17) w) : W5 k5_20 Q e w := by
  unfold m5_20 at h
  refine seA ?_
  have hN : ∀ e w, (m5_21 R K1 (e 2) (e 3) (e 10) (e 12) (e 14) (e 15) (e 16) (e 17) (e 18) w) → (thenE (W5 k5_21 Q) Q) .normal e w := fun e w h => then_N (s5_21 (R := R) (Q := Q) (K1 := K1) hN e w h)
  exact rgA 20 (fun e w => m5_21 R K1 (e 2) (e 3) (e 10) (e 12) (e 14) (e 15) (e 16) (e 17) (e 18) w) h hN
theorem s5_27 {R : VP} {K1 : (Value × Value) → World → Prop} {Q : EQ} (hN : ∀ e w, (m5_20 R K1 (e 2) (e 3) (e 10) (e 12) (e 14) (e 15) (e 16) (e 17) w) → Q .normal e w) (e : Env) (w : World) (h : m5_27 R K1 (e 2) (e 3) (e 10) (e 12) (e 14) (e 15) (e 16) (e 17) (e 74) w) : W5 k5_27 Q e w := by
  unfold m5_27 at h
  refine coA (Operand.tmp 74) h (fun h1 => ?_) (fun h1 => ?_)
  · exact rgA 19 (fun e w => m5_20 R K1 (e 2) (e 3) (e 10) (e 12) (e 14) (e 15) (e 16) (e 17) w) h1 hN
  · exact skA (hN _ _ h1)
theorem s5_19 {R : VP} {K1 : (Value × Value) → World → Prop} {Q : EQ} (hN : ∀ e w, (m5_17 R K1 (e 2) (e 3) (e 10) (e 12) (e 14) (e 15) (e 16) w) → Q .normal e w) (e : Env) (w : World) (h : m5_19 R K1 (e 2) (e 3) (e 10) (e 12) (e 14) (e 15) (e 16) (e 17) w) : W5 k5_19 Q e w := by
  unfold m5_19 at h
  refine seA ?_
  have hN : ∀ e w, (m5_20 R K1 (e 2) (e 3) (e 10) (e 12) (e 14) (e 15) (e 16) (e 17) w) → (thenE (W5 k5_20 Q) Q) .normal e w := fun e w h => then_N (s5_20 (R := R) (Q := Q) (K1 := K1) hN e w h)
  refine seA ?_
  have hN : ∀ e w, (m5_27 R K1 (e 2) (e 3) (e 10) (e 12) (e 14) (e 15) (e 16) (e 17) (e 74) w) → (thenE (W5 k5_27 (thenE (W5 k5_20 Q) Q)) (thenE (W5 k5_20 Q) Q)) .normal e w := fun e w h => then_N (s5_27 (R := R) (Q := (thenE (W5 k5_20 Q) Q)) (K1 := K1) hN e w h)
  exact rgA 18 (fun e w => m5_27 R K1 (e 2) (e 3) (e 10) (e 12) (e 14) (e 15) (e 16) (e 17) (e 74) w) h hN
theorem s5_28 {R : VP} {K1 : (Value × Value) → World → Prop} {Q : EQ} (hN : ∀ e w, (m5_19 R K1 (e 2) (e 3) (e 10) (e 12) (e 14) (e 15) (e 16) (e 17) w) → Q .normal e w) (hX1 : ∀ e w, (m5_17 R K1 (e 2) (e 3) (e 10) (e 12) (e 14) (e 15) (e 16) w) → Q (.exit 1) e w) (e : Env) (w : World) (h : m5_28 R K1 (e 2) (e 3) (e 10) (e 12) (e 14) (e 15) (e 16) (e 17) (e 70) w) : W5 k5_28 Q e w := by
  unfold m5_28 at h
  refine coA (Operand.tmp 70) h (fun h1 => ?_) (fun h1 => ?_)
  · exact exA 1 (hX1 _ _ h1)
  · exact skA (hN _ _ h1)
theorem s5_18 {R : VP} {K1 : (Value × Value) → World → Prop} {Q : EQ} (hN : ∀ e w, (m5_17 R K1 (e 2) (e 3) (e 10) (e 12) (e 14) (e 15) (e 16) w) → Q .normal e w) (hX1 : ∀ e w, (m5_17 R K1 (e 2) (e 3) (e 10) (e 12) (e 14) (e 15) (e 16) w) → Q (.exit 1) e w) (e : Env) (w : World) (h : m5_18 R K1 (e 2) (e 3) (e 10) (e 12) (e 14) (e 15) (e 16) (e 17) w) : W5 k5_18 Q e w := by
  unfold m5_18 at h
  refine seA ?_
  have hN : ∀ e w, (m5_19 R K1 (e 2) (e 3) (e 10) (e 12) (e 14) (e 15) (e 16) (e 17) w) → (thenE (W5 k5_19 Q) Q) .normal e w := fun e w h => then_N (s5_19 (R := R) (Q := Q) (K1 := K1) hN e w h)
  have hX1 : ∀ e w, (m5_17 R K1 (e 2) (e 3) (e 10) (e 12) (e 14) (e 15) (e 16) w) → (thenE (W5 k5_19 Q) Q) (.exit 1) e w := fun e w h => then_X (hX1 e w h)
  refine seA ?_
  have hN : ∀ e w, (m5_28 R K1 (e 2) (e 3) (e 10) (e 12) (e 14) (e 15) (e 16) (e 17) (e 70) w) → (thenE (W5 k5_28 (thenE (W5 k5_19 Q) Q)) (thenE (W5 k5_19 Q) Q)) .normal e w := fun e w h => then_N (s5_28 (R := R) (Q := (thenE (W5 k5_19 Q) Q)) (K1 := K1) hN hX1 e w h)
  exact rgA 17 (fun e w => m5_28 R K1 (e 2) (e 3) (e 10) (e 12) (e 14) (e 15) (e 16) (e 17) (e 70) w) h hN
theorem s5_16 {R : VP} {K1 : (Value × Value) → World → Prop} {Q : EQ} (hN : ∀ e w, (K1 ((e 15), (e 16)) w) → Q .normal e w) (e : Env) (w : World) (h : m5_16 R K1 (e 2) (e 3) (e 10) (e 12) (e 14) (e 15) (e 16) w) : W5 k5_16 Q e w := by
  unfold m5_16 at h
  refine seA ?_
  have hN : ∀ e w, (m5_17 R K1 (e 2) (e 3) (e 10) (e 12) (e 14) (e 15) (e 16) w) → (thenE (W5 k5_17 Q) Q) .normal e w := fun e w h => then_N (s5_17 (R := R) (Q := Q) (K1 := K1) hN e w h)
  refine block_ok 1 (by kernel_rfl) ?_
  have hX1 : ∀ e w, (m5_17 R K1 (e 2) (e 3) (e 10) (e 12) (e 14) (e 15) (e 16) w) → (inBlockE 1 (thenE (W5 k5_17 Q) Q)) (.exit 1) e w := fun e w h => inBlock_same (Q := (thenE (W5 k5_17 Q) Q)) 1 (hN e w h)
  have hN : ∀ e w, (m5_17 R K1 (e 2) (e 3) (e 10) (e 12) (e 14) (e 15) (e 16) w) → (inBlockE 1 (thenE (W5 k5_17 Q) Q)) .normal e w := fun e w h => block_N (hN e w h)
  refine seA ?_
  have hN : ∀ e w, (m5_18 R K1 (e 2) (e 3) (e 10) (e 12) (e 14) (e 15) (e 16) (e 17) w) → (thenE (W5 k5_18 (inBlockE 1 (thenE (W5 k5_17 Q) Q))) (inBlockE 1 (thenE (W5 k5_17 Q) Q))) .normal e w := fun e w h => then_N (s5_18 (R := R) (Q := (inBlockE 1 (thenE (W5 k5_17 Q) Q))) (K1 := K1) hN hX1 e w h)
  exact rgA 16 (fun e w => m5_18 R K1 (e 2) (e 3) (e 10) (e 12) (e 14) (e 15) (e 16) (e 17) w) h hN
theorem s5_13 {R : VP} {Q : EQ} (hR : ∀ e w, (R (e 8) w) → Q .ret e w) (e : Env) (w : World) (h : m5_13 R (e 8) w) : W5 k5_13 Q e w := by
  unfold m5_13 at h
  exact reA (hR _ _ h)
theorem s5_12 {R : VP} {Q : EQ} (hR : ∀ e w, (R (e 8) w) → Q .ret e w) (e : Env) (w : World) (h : m5_12 R (e 2) (e 3) (e 12) (e 14) (e 15) w) : W5 k5_12 Q e w := by
  unfold m5_12 at h
  refine seA ?_
  have hN : ∀ e w, (m5_13 R (e 8) w) → (thenE (W5 k5_13 Q) Q) .normal e w := fun e w h => then_N (s5_13 (R := R) (Q := Q) hR e w h)
  exact rgA 25 (fun e w => m5_13 R (e 8) w) h hN
theorem s5_29 {R : VP} {K1 : (Value × Value) → World → Prop} {Q : EQ} (hN : ∀ e w, (m5_16 R K1 (e 2) (e 3) (e 10) (e 12) (e 14) (e 15) (e 16) w) → Q .normal e w) (hX0 : ∀ e w, (m5_12 R (e 2) (e 3) (e 12) (e 14) (e 15) w) → Q (.exit 0) e w) (e : Env) (w : World) (h : m5_29 R K1 (e 2) (e 3) (e 10) (e 12) (e 14) (e 15) (e 16) (e 55) w) : W5 k5_29 Q e w := by
  unfold m5_29 at h
  refine coA (Operand.tmp 55) h (fun h1 => ?_) (fun h1 => ?_)
  · exact skA (hN _ _ h1)
  · exact exA 0 (hX0 _ _ h1)
theorem s5_15 {R : VP} {K1 : (Value × Value) → World → Prop} {Q : EQ} (hN : ∀ e w, (K1 ((e 15), (e 16)) w) → Q .normal e w) (hX0 : ∀ e w, (m5_12 R (e 2) (e 3) (e 12) (e 14) (e 15) w) → Q (.exit 0) e w) (e : Env) (w : World) (h : m5_15 R K1 (e 2) (e 3) (e 10) (e 12) (e 14) (e 15) (e 16) w) : W5 k5_15 Q e w := by
  unfold m5_15 at h
  refine seA ?_
  have hN : ∀ e w, (m5_16 R K1 (e 2) (e 3) (e 10) (e 12) (e 14) (e 15) (e 16) w) → (thenE (W5 k5_16 Q) Q) .normal e w := fun e w h => then_N (s5_16 (R := R) (Q := Q) (K1 := K1) hN e w h)
  have hX0 : ∀ e w, (m5_12 R (e 2) (e 3) (e 12) (e 14) (e 15) w) → (thenE (W5 k5_16 Q) Q) (.exit 0) e w := fun e w h => then_X (hX0 e w h)
  refine seA ?_
  have hN : ∀ e w, (m5_29 R K1 (e 2) (e 3) (e 10) (e 12) (e 14) (e 15) (e 16) (e 55) w) → (thenE (W5 k5_29 (thenE (W5 k5_16 Q) Q)) (thenE (W5 k5_16 Q) Q)) .normal e w := fun e w h => then_N (s5_29 (R := R) (Q := (thenE (W5 k5_16 Q) Q)) (K1 := K1) hN hX0 e w h)
  exact rgA 14 (fun e w => m5_29 R K1 (e 2) (e 3) (e 10) (e 12) (e 14) (e 15) (e 16) (e 55) w) h hN
theorem s5_14 {R : VP} {Q : EQ} (hN : ∀ e w, (m5_12 R (e 2) (e 3) (e 12) (e 14) (e 15) w) → Q .normal e w) (e : Env) (w : World) (h : m5_14 R (e 2) (e 3) (e 10) (e 12) (e 14) (e 15) (e 16) w) : W5 k5_14 Q e w := by
  unfold m5_14 at h
  refine block_ok 0 (by kernel_rfl) ?_
  have hX0 : ∀ e w, (m5_12 R (e 2) (e 3) (e 12) (e 14) (e 15) w) → (inBlockE 0 Q) (.exit 0) e w := fun e w h => inBlock_same (Q := Q) 0 (hN e w h)
  refine loop_ok' (fun (e : Env) => (e 15, e 16)) [2, 3, 10, 12, 14] (by kernel_rfl) (by kernel_rfl) h (fun K e' w' hk h' => ?_)
  have r2 : e' 2 = e 2 := hk 2 (by decide)
  have r3 : e' 3 = e 3 := hk 3 (by decide)
  have r10 : e' 10 = e 10 := hk 10 (by decide)
  have r12 : e' 12 = e 12 := hk 12 (by decide)
  have r14 : e' 14 = e 14 := hk 14 (by decide)
  have hX0 : ∀ e w, (m5_12 R (e 2) (e 3) (e 12) (e 14) (e 15) w) → (thenE (fun (e : Env) w => K ((e 15), (e 16)) w) (inBlockE 0 Q)) (.exit 0) e w := fun e w h => then_X (hX0 e w h)
  exact s5_15 (R := R) (Q := (thenE (fun (e : Env) w => K ((e 15), (e 16)) w) (inBlockE 0 Q))) (K1 := K) (fun _ _ h => then_N h) hX0 e' w' (by rw [r2, r3, r10, r12, r14]; exact h')
theorem s5_11 {R : VP} {Q : EQ} (hR : ∀ e w, (R (e 8) w) → Q .ret e w) (e : Env) (w : World) (h : m5_11 R (e 2) (e 3) (e 10) (e 12) (e 14) (e 15) w) : W5 k5_11 Q e w := by
  unfold m5_11 at h
  refine seA ?_
  have hN : ∀ e w, (m5_12 R (e 2) (e 3) (e 12) (e 14) (e 15) w) → (thenE (W5 k5_12 Q) Q) .normal e w := fun e w h => then_N (s5_12 (R := R) (Q := Q) hR e w h)
  refine seA ?_
  have hN : ∀ e w, (m5_14 R (e 2) (e 3) (e 10) (e 12) (e 14) (e 15) (e 16) w) → (thenE (W5 k5_14 (thenE (W5 k5_12 Q) Q)) (thenE (W5 k5_12 Q) Q)) .normal e w := fun e w h => then_N (s5_14 (R := R) (Q := (thenE (W5 k5_12 Q) Q)) hN e w h)
  exact rgA 13 (fun e w => m5_14 R (e 2) (e 3) (e 10) (e 12) (e 14) (e 15) (e 16) w) h hN
theorem s5_10 {R : VP} {Q : EQ} (hR : ∀ e w, (R (e 8) w) → Q .ret e w) (e : Env) (w : World) (h : m5_10 R (e 2) (e 3) (e 10) (e 12) (e 14) w) : W5 k5_10 Q e w := by
  unfold m5_10 at h
  refine seA ?_
  have hN : ∀ e w, (m5_11 R (e 2) (e 3) (e 10) (e 12) (e 14) (e 15) w) → (thenE (W5 k5_11 Q) Q) .normal e w := fun e w h => then_N (s5_11 (R := R) (Q := Q) hR e w h)
  exact rgA 12 (fun e w => m5_11 R (e 2) (e 3) (e 10) (e 12) (e 14) (e 15) w) h hN
theorem s5_9 {R : VP} {Q : EQ} (hR : ∀ e w, (R (e 8) w) → Q .ret e w) (e : Env) (w : World) (h : m5_9 R (e 2) (e 3) (e 9) (e 10) (e 12) w) : W5 k5_9 Q e w := by
  unfold m5_9 at h
  refine seA ?_
  have hN : ∀ e w, (m5_10 R (e 2) (e 3) (e 10) (e 12) (e 14) w) → (thenE (W5 k5_10 Q) Q) .normal e w := fun e w h => then_N (s5_10 (R := R) (Q := Q) hR e w h)
  exact rgA 11 (fun e w => m5_10 R (e 2) (e 3) (e 10) (e 12) (e 14) w) h hN
theorem s5_30 {R : VP} {Q : EQ} (hN : ∀ e w, (m5_9 R (e 2) (e 3) (e 9) (e 10) (e 12) w) → Q .normal e w) (hR : ∀ e w, (R (e 8) w) → Q .ret e w) (e : Env) (w : World) (h : m5_30 R (e 2) (e 3) (e 9) (e 10) (e 12) (e 39) w) : W5 k5_30 Q e w := by
  unfold m5_30 at h
  refine coA (Operand.tmp 39) h (fun h1 => ?_) (fun h1 => ?_)
  · refine seA ?_
    have hN : ∀ e w, (m5_31 R (e 8) w) → (thenE (W5 k5_31 Q) Q) .normal e w := fun e w h => then_N (s5_31 (R := R) (Q := Q) hR e w h)
    exact rgA 10 (fun e w => m5_31 R (e 8) w) h1 hN
  · exact skA (hN _ _ h1)
theorem s5_8 {R : VP} {Q : EQ} (hR : ∀ e w, (R (e 8) w) → Q .ret e w) (e : Env) (w : World) (h : m5_8 R (e 2) (e 3) (e 9) (e 10) (e 11) (e 12) w) : W5 k5_8 Q e w := by
  unfold m5_8 at h
  refine seA ?_
  have hN : ∀ e w, (m5_9 R (e 2) (e 3) (e 9) (e 10) (e 12) w) → (thenE (W5 k5_9 Q) Q) .normal e w := fun e w h => then_N (s5_9 (R := R) (Q := Q) hR e w h)
  have hR : ∀ e w, (R (e 8) w) → (thenE (W5 k5_9 Q) Q) .ret e w := fun e w h => then_R (hR e w h)
  refine seA ?_
  have hN : ∀ e w, (m5_30 R (e 2) (e 3) (e 9) (e 10) (e 12) (e 39) w) → (thenE (W5 k5_30 (thenE (W5 k5_9 Q) Q)) (thenE (W5 k5_9 Q) Q)) .normal e w := fun e w h => then_N (s5_30 (R := R) (Q := (thenE (W5 k5_9 Q) Q)) hN hR e w h)
  exact rgA 9 (fun e w => m5_30 R (e 2) (e 3) (e 9) (e 10) (e 12) (e 39) w) h hN
theorem s5_7 {R : VP} {Q : EQ} (hR : ∀ e w, (R (e 8) w) → Q .ret e w) (e : Env) (w : World) (h : m5_7 R (e 2) (e 3) (e 9) (e 10) (e 11) w) : W5 k5_7 Q e w := by
  unfold m5_7 at h
  refine seA ?_
  have hN : ∀ e w, (m5_8 R (e 2) (e 3) (e 9) (e 10) (e 11) (e 12) w) → (thenE (W5 k5_8 Q) Q) .normal e w := fun e w h => then_N (s5_8 (R := R) (Q := Q) hR e w h)
  exact rgA 8 (fun e w => m5_8 R (e 2) (e 3) (e 9) (e 10) (e 11) (e 12) w) h hN
theorem s5_6 {R : VP} {Q : EQ} (hR : ∀ e w, (R (e 8) w) → Q .ret e w) (e : Env) (w : World) (h : m5_6 R (e 2) (e 3) (e 9) (e 10) w) : W5 k5_6 Q e w := by
  unfold m5_6 at h
  refine seA ?_
  have hN : ∀ e w, (m5_7 R (e 2) (e 3) (e 9) (e 10) (e 11) w) → (thenE (W5 k5_7 Q) Q) .normal e w := fun e w h => then_N (s5_7 (R := R) (Q := Q) hR e w h)
  exact rgA 7 (fun e w => m5_7 R (e 2) (e 3) (e 9) (e 10) (e 11) w) h hN
theorem s5_5 {R : VP} {Q : EQ} (hR : ∀ e w, (R (e 8) w) → Q .ret e w) (e : Env) (w : World) (h : m5_5 R (e 2) (e 3) (e 9) w) : W5 k5_5 Q e w := by
  unfold m5_5 at h
  refine seA ?_
  have hN : ∀ e w, (m5_6 R (e 2) (e 3) (e 9) (e 10) w) → (thenE (W5 k5_6 Q) Q) .normal e w := fun e w h => then_N (s5_6 (R := R) (Q := Q) hR e w h)
  exact rgA 6 (fun e w => m5_6 R (e 2) (e 3) (e 9) (e 10) w) h hN
theorem s5_4 {R : VP} {Q : EQ} (hR : ∀ e w, (R (e 8) w) → Q .ret e w) (e : Env) (w : World) (h : m5_4 R (e 2) (e 3) (e 9) w) : W5 k5_4 Q e w := by
  unfold m5_4 at h
  refine seA ?_
  have hN : ∀ e w, (m5_5 R (e 2) (e 3) (e 9) w) → (thenE (W5 k5_5 Q) Q) .normal e w := fun e w h => then_N (s5_5 (R := R) (Q := Q) hR e w h)
  exact rgA 5 (fun e w => m5_5 R (e 2) (e 3) (e 9) w) h hN
theorem s5_3 {R : VP} {Q : EQ} (hR : ∀ e w, (R (e 8) w) → Q .ret e w) (e : Env) (w : World) (h : m5_3 R (e 2) (e 3) (e 9) w) : W5 k5_3 Q e w := by
  unfold m5_3 at h
  refine seA ?_
  have hN : ∀ e w, (m5_4 R (e 2) (e 3) (e 9) w) → (thenE (W5 k5_4 Q) Q) .normal e w := fun e w h => then_N (s5_4 (R := R) (Q := Q) hR e w h)
  exact rgA 4 (fun e w => m5_4 R (e 2) (e 3) (e 9) w) h hN
theorem s5_32 {R : VP} {Q : EQ} (hN : ∀ e w, (m5_3 R (e 2) (e 3) (e 9) w) → Q .normal e w) (hR : ∀ e w, (R (e 8) w) → Q .ret e w) (e : Env) (w : World) (h : m5_32 R (e 2) (e 3) (e 9) (e 23) w) : W5 k5_32 Q e w := by
  unfold m5_32 at h
  refine coA (Operand.tmp 23) h (fun h1 => ?_) (fun h1 => ?_)
  · refine seA ?_
    have hN : ∀ e w, (m5_33 R (e 8) w) → (thenE (W5 k5_33 Q) Q) .normal e w := fun e w h => then_N (s5_33 (R := R) (Q := Q) hR e w h)
    exact rgA 3 (fun e w => m5_33 R (e 8) w) h1 hN
  · exact skA (hN _ _ h1)
theorem s5_2 {R : VP} {Q : EQ} (hR : ∀ e w, (R (e 8) w) → Q .ret e w) (e : Env) (w : World) (h : m5_2 R (e 2) (e 3) (e 9) w) : W5 k5_2 Q e w := by
  unfold m5_2 at h
  refine seA ?_
  have hN : ∀ e w, (m5_3 R (e 2) (e 3) (e 9) w) → (thenE (W5 k5_3 Q) Q) .normal e w := fun e w h => then_N (s5_3 (R := R) (Q := Q) hR e w h)
  have hR : ∀ e w, (R (e 8) w) → (thenE (W5 k5_3 Q) Q) .ret e w := fun e w h => then_R (hR e w h)
  refine seA ?_
  have hN : ∀ e w, (m5_32 R (e 2) (e 3) (e 9) (e 23) w) → (thenE (W5 k5_32 (thenE (W5 k5_3 Q) Q)) (thenE (W5 k5_3 Q) Q)) .normal e w := fun e w h => then_N (s5_32 (R := R) (Q := (thenE (W5 k5_3 Q) Q)) hN hR e w h)
  exact rgA 2 (fun e w => m5_32 R (e 2) (e 3) (e 9) (e 23) w) h hN
theorem s5_1 {R : VP} {Q : EQ} (hR : ∀ e w, (R (e 8) w) → Q .ret e w) (e : Env) (w : World) (h : m5_1 R (e 0) (e 1) (e 2) (e 3) w) : W5 k5_1 Q e w := by
  unfold m5_1 at h
  refine seA ?_
  have hN : ∀ e w, (m5_2 R (e 2) (e 3) (e 9) w) → (thenE (W5 k5_2 Q) Q) .normal e w := fun e w h => then_N (s5_2 (R := R) (Q := Q) hR e w h)
  exact rgA 1 (fun e w => m5_2 R (e 2) (e 3) (e 9) w) h hN
theorem s5_0 {R : VP} {Q : EQ} (hR : ∀ e w, (R (e 8) w) → Q .ret e w) (e : Env) (w : World) (h : m5_0 R (e 0) (e 1) (e 2) (e 3) w) : W5 k5_0 Q e w := by
  unfold m5_0 at h
  refine seA ?_
  have hN : ∀ e w, (m5_1 R (e 0) (e 1) (e 2) (e 3) w) → (thenE (W5 k5_1 Q) Q) .normal e w := fun e w h => then_N (s5_1 (R := R) (Q := Q) hR e w h)
  exact rgA 0 (fun e w => m5_1 R (e 0) (e 1) (e 2) (e 3) w) h hN
abbrev m5 (R : VP) (size0 l1 from2 to3 : Value) (w : World) : Prop := m5_0 R size0 l1 from2 to3 w
theorem s5 (size0 l1 from2 to3 : Value) {R : VP} {w : World} (h : m5 R size0 l1 from2 to3 w) :
    Calls Tryd.prog 5 #[size0, l1, from2, to3] w fun e w' => ∃ v, e = .returned v ∧ R v w' :=
  calls_of_cwp (st := (fun i => cond (Nat.beq i 23) 1 (0))) (c := k5_0) (by kernel_rfl) Tryd.func5 (by kernel_rfl) (Nat.le_of_ble_eq_true (by kernel_rfl)) (by kernel_rfl)
    (s5_0 (R := R) (Q := endE Tryd.prog Tryd.f5 R) (fun e w h => kcast (by kernel_rfl) h) (argsE #[size0, l1, from2, to3]) w (kcast (by kernel_rfl) h))
/-! ### headgate/headgatelaw04.DiskKeeps -/
def m6_23 (R : VP) (t6 : Value) (w : World) : Prop :=
  R t6 w
def m6_20 (R : VP) (t6 : Value) (w : World) : Prop :=
  R t6 w
def m6_17 (R : VP) (K1 : VP) (t6 : Value) (w : World) : Prop :=
  R t6 w
def m6_15 (R : VP) (K1 : VP) (d7 was8 now9 i10 : Value) (w : World) : Prop :=
  valP Tryd.prog (binS BinOp.add 3 (Operand.tmp 42) (Operand.const (Value.int IntKind.i64 1)) i10 (Value.int IntKind.i64 1)) w fun t43 w =>
  K1 t43 w
def m6_16 (R : VP) (K1 : VP) (d7 was8 now9 i10 t96 : Value) (w : World) : Prop :=
  condP t96
  (m6_17 R K1 (Value.bool false) w)
  (m6_15 R K1 d7 was8 now9 i10 w)
def m6_14 (R : VP) (K1 : VP) (d7 was8 now9 i10 : Value) (w : World) : Prop :=
  anyDraw w fun w =>
  heldP w fun J =>
  valJ Tryd.prog J (Instr.indexAt 38 now9 i10) fun t46 =>
  valJ Tryd.prog J (Instr.fieldAt 42 t46 0) fun t47 =>
  valJ Tryd.prog J (Instr.loadAt 9 t47) fun t48 =>
  valJ Tryd.prog J (Instr.indexAt 38 was8 i10) fun t51 =>
  valJ Tryd.prog J (Instr.fieldAt 42 t51 0) fun t52 =>
  valJ Tryd.prog J (Instr.loadAt 9 t52) fun t53 =>
  valJ Tryd.prog J (binS BinOp.neq 9 (Operand.tmp 48) (Operand.tmp 53) t48 t53) fun t54 =>
  condP t54
  (pickP t54 (Value.bool true) undef fun t62 =>
  pickP t62 (Value.bool true) undef fun t76 =>
  pickP t76 (Value.bool true) undef fun t96 =>
  m6_16 R K1 d7 was8 now9 i10 t96 w)
  (valJ Tryd.prog J (Instr.indexAt 38 now9 i10) fun t58 =>
  valJ Tryd.prog J (Instr.fieldAt 42 t58 2) fun t59 =>
  valJ Tryd.prog J (Instr.loadAt 9 t59) fun t60 =>
  valJ Tryd.prog J (binS BinOp.neq 9 (Operand.tmp 60) (Operand.const (Value.string ⟨#[]⟩)) t60 (Value.string ⟨#[]⟩)) fun t61 =>
  pickP t54 (Value.bool true) t61 fun t62 =>
  condP t62
  (pickP t62 (Value.bool true) undef fun t76 =>
  pickP t76 (Value.bool true) undef fun t96 =>
  m6_16 R K1 d7 was8 now9 i10 t96 w)
  (valJ Tryd.prog J (Instr.indexAt 38 was8 i10) fun t66 =>
  valJ Tryd.prog J (Instr.fieldAt 42 t66 1) fun t67 =>
  valJ Tryd.prog J (Instr.loadAt 9 t67) fun t68 =>
  valJ Tryd.prog J (Instr.indexAt 38 now9 i10) fun t71 =>
  valJ Tryd.prog J (Instr.fieldAt 42 t71 1) fun t72 =>
  valJ Tryd.prog J (Instr.loadAt 9 t72) fun t73 =>
  callP Tryd.prog (fnV 16) #[t68, t73] w fun t74 w =>
  stayP J w
  (valJ Tryd.prog J (Op.unary UnOp.not t74) fun t75 =>
  pickP t62 (Value.bool true) t75 fun t76 =>
  condP t76
  (pickP t76 (Value.bool true) undef fun t96 =>
  m6_16 R K1 d7 was8 now9 i10 t96 w)
  (valJ Tryd.prog J (Instr.indexAt 38 now9 i10) fun t80 =>
  valJ Tryd.prog J (Instr.fieldAt 42 t80 1) fun t81 =>
  valJ Tryd.prog J (Instr.loadAt 9 t81) fun t82 =>
  valJ Tryd.prog J (Instr.indexAt 38 was8 i10) fun t85 =>
  valJ Tryd.prog J (Instr.fieldAt 42 t85 1) fun t86 =>
  valJ Tryd.prog J (Instr.loadAt 9 t86) fun t87 =>
  valJ Tryd.prog J (Instr.indexAt 38 was8 i10) fun t90 =>
  valJ Tryd.prog J (Instr.fieldAt 42 t90 2) fun t91 =>
  valJ Tryd.prog J (Instr.loadAt 9 t91) fun t92 =>
  valJ Tryd.prog J (binS BinOp.add 9 (Operand.tmp 87) (Operand.tmp 92) t87 t92) fun t93 =>
  callP Tryd.prog (fnV 16) #[t82, t93] w fun t94 w =>
  stayP J w
  (valJ Tryd.prog J (Op.unary UnOp.not t94) fun t95 =>
  pickP t76 (Value.bool true) t95 fun t96 =>
  m6_16 R K1 d7 was8 now9 i10 t96 w)))))
def m6_11 (R : VP) (t6 : Value) (w : World) : Prop :=
  R t6 w
def m6_10 (R : VP) (d7 now9 : Value) (w : World) : Prop :=
  callP Tryd.prog (fnV 20) #[d7] w fun t100 w =>
  callP Tryd.prog (fnV 23) #[t100, now9] w fun t102 w =>
  condP t102
  (callP Tryd.prog (fnV 17) #[] w fun t104 w =>
  pickP t102 t104 (Value.bool false) fun t105 =>
  m6_11 R t105 w)
  (pickP t102 undef (Value.bool false) fun t105 =>
  m6_11 R t105 w)
def m6_9 (R : VP) (d7 now9 : Value) (w : World) : Prop :=
  callP Tryd.prog (fnV 14) #[d7, (Value.slice none 0 0)] w fun t98 w =>
  m6_10 R d7 now9 w
def m6_18 (R : VP) (K1 : VP) (d7 was8 now9 i10 t41 : Value) (w : World) : Prop :=
  condP t41
  (m6_14 R K1 d7 was8 now9 i10 w)
  (m6_9 R d7 now9 w)
def m6_13 (R : VP) (K1 : VP) (d7 was8 now9 i10 : Value) (w : World) : Prop :=
  builtinP Tryd.prog Builtin.len #[38] 3 #[false] #[was8] w fun t40 w =>
  valP Tryd.prog (binS BinOp.lss 3 (Operand.tmp 38) (Operand.tmp 40) i10 t40) w fun t41 w =>
  m6_18 R K1 d7 was8 now9 i10 t41 w
def m6_12 (R : VP) (d7 was8 now9 i10 : Value) (w : World) : Prop :=
  loopP (fun (K1 : VP) (s : Value) w => m6_13 R K1 d7 was8 now9 s w) i10 w
def m6_8 (R : VP) (d7 was8 now9 : Value) (w : World) : Prop :=
  m6_12 R d7 was8 now9 (Value.int IntKind.i64 0) w
def m6_19 (R : VP) (d7 was8 now9 t37 : Value) (w : World) : Prop :=
  condP t37
  (m6_20 R (Value.bool false) w)
  (m6_8 R d7 was8 now9 w)
def m6_7 (R : VP) (d7 was8 now9 : Value) (w : World) : Prop :=
  builtinP Tryd.prog Builtin.len #[38] 3 #[false] #[was8] w fun t30 w =>
  builtinP Tryd.prog Builtin.len #[38] 3 #[false] #[now9] w fun t32 w =>
  valP Tryd.prog (binS BinOp.neq 3 (Operand.tmp 30) (Operand.tmp 32) t30 t32) w fun t33 w =>
  condP t33
  (pickP t33 (Value.bool true) undef fun t37 =>
  m6_19 R d7 was8 now9 t37 w)
  (callP Tryd.prog (fnV 13) #[d7] w fun t36 w =>
  pickP t33 (Value.bool true) t36 fun t37 =>
  m6_19 R d7 was8 now9 t37 w)
def m6_6 (R : VP) (d7 was8 : Value) (w : World) : Prop :=
  callP Tryd.prog (fnV 20) #[d7] w fun t28 w =>
  m6_7 R d7 was8 t28 w
def m6_5 (R : VP) (keep2 d7 was8 : Value) (w : World) : Prop :=
  callP Tryd.prog (fnV 14) #[d7, keep2] w fun t26 w =>
  m6_6 R d7 was8 w
def m6_21 (R : VP) (keep2 d7 was8 t21 : Value) (w : World) : Prop :=
  condP t21
  (valP Tryd.prog (Instr.sliceAt 46 keep2 none (some (Value.int IntKind.i64 100)) none) w fun t23 w =>
  m6_5 R t23 d7 was8 w)
  (m6_5 R keep2 d7 was8 w)
def m6_4 (R : VP) (keep2 d7 was8 : Value) (w : World) : Prop :=
  builtinP Tryd.prog Builtin.len #[46] 3 #[false] #[keep2] w fun t20 w =>
  valP Tryd.prog (binS BinOp.gtr 3 (Operand.tmp 20) (Operand.const (Value.int IntKind.i64 100)) t20 (Value.int IntKind.i64 100)) w fun t21 w =>
  m6_21 R keep2 d7 was8 t21 w
def m6_3 (R : VP) (keep2 d7 : Value) (w : World) : Prop :=
  callP Tryd.prog (fnV 20) #[d7] w fun t18 w =>
  m6_4 R keep2 d7 t18 w
def m6_22 (R : VP) (keep2 d7 t15 : Value) (w : World) : Prop :=
  condP t15
  (callP Tryd.prog (fnV 17) #[] w fun t16 w =>
  m6_23 R t16 w)
  (m6_3 R keep2 d7 w)
def m6_2 (R : VP) (keep2 d7 : Value) (w : World) : Prop :=
  valP Tryd.prog (binS BinOp.eql 23 (Operand.tmp 14) (Operand.const (Value.pointer none)) d7 (Value.pointer none)) w fun t15 w =>
  m6_22 R keep2 d7 t15 w
def m6_1 (R : VP) (size0 l1 keep2 : Value) (w : World) : Prop :=
  callP Tryd.prog (fnV 18) #[size0, l1] w fun t13 w =>
  m6_2 R keep2 t13 w
def m6_0 (R : VP) (size0 l1 keep2 : Value) (w : World) : Prop :=
  m6_1 R size0 l1 keep2 w
abbrev W6 := cwp Tryd.prog (fun i => 0)
noncomputable def k6_0 : Code := (bodyOf Tryd.f6)
noncomputable def k6_1 : Code := (c2 k6_0)
noncomputable def k6_2 : Code := (c2 k6_1)
noncomputable def k6_3 : Code := (c2 k6_2)
noncomputable def k6_4 : Code := (c2 k6_3)
noncomputable def k6_5 : Code := (c2 k6_4)
noncomputable def k6_6 : Code := (c2 k6_5)
noncomputable def k6_7 : Code := (c2 k6_6)
noncomputable def k6_8 : Code := (c2 k6_7)
noncomputable def k6_9 : Code := (c2 k6_8)
noncomputable def k6_10 : Code := (c2 k6_9)
noncomputable def k6_11 : Code := (c2 k6_10)
noncomputable def k6_12 : Code := (c2 (c1 k6_8))
noncomputable def k6_13 : Code := (c1 (c1 k6_12))
noncomputable def k6_14 : Code := (c2 k6_13)
noncomputable def k6_15 : Code := (c2 k6_14)
noncomputable def k6_16 : Code := (c2 (c1 (c1 k6_14)))
noncomputable def k6_17 : Code := (c2 (c1 k6_16))
noncomputable def k6_18 : Code := (c2 (c1 k6_13))
noncomputable def k6_19 : Code := (c2 (c1 k6_7))
noncomputable def k6_20 : Code := (c2 (c1 k6_19))
noncomputable def k6_21 : Code := (c2 (c1 k6_4))
noncomputable def k6_22 : Code := (c2 (c1 k6_2))
noncomputable def k6_23 : Code := (c2 (c1 k6_22))
theorem s6_23 {R : VP} {Q : EQ} (hR : ∀ e w, (R (e 6) w) → Q .ret e w) (e : Env) (w : World) (h : m6_23 R (e 6) w) : W6 k6_23 Q e w := by
  unfold m6_23 at h
  exact reA (hR _ _ h)
theorem s6_20 {R : VP} {Q : EQ} (hR : ∀ e w, (R (e 6) w) → Q .ret e w) (e : Env) (w : World) (h : m6_20 R (e 6) w) : W6 k6_20 Q e w := by
  unfold m6_20 at h
  exact reA (hR _ _ h)
theorem s6_17 {R : VP} {K1 : VP} {Q : EQ} (hR : ∀ e w, (R (e 6) w) → Q .ret e w) (e : Env) (w : World) (h : m6_17 R K1 (e 6) w) : W6 k6_17 Q e w := by
  unfold m6_17 at h
  exact reA (hR _ _ h)
theorem s6_15 {R : VP} {K1 : VP} {Q : EQ} (hN : ∀ e w, (K1 (e 10) w) → Q .normal e w) (e : Env) (w : World) (h : m6_15 R K1 (e 7) (e 8) (e 9) (e 10) w) : W6 k6_15 Q e w := by
  unfold m6_15 at h
  exact rgA 13 (fun e w => K1 (e 10) w) h hN
theorem s6_16 {R : VP} {K1 : VP} {Q : EQ} (hN : ∀ e w, (m6_15 R K1 (e 7) (e 8) (e 9) (e 10) w) → Q .normal e w) (hR : ∀ e w, (R (e 6) w) → Q .ret e w) (e : Env) (w : World) (h : m6_16 R K1 (e 7) (e 8) (e 9) (e 10) (e 96) w) : W6 k6_16 Q e w := by
  unfold m6_16 at h
  refine coA (Operand.tmp 96) h (fun h1 => ?_) (fun h1 => ?_)
  · refine seA ?_
    have hN : ∀ e w, (m6_17 R K1 (e 6) w) → (thenE (W6 k6_17 Q) Q) .normal e w := fun e w h => then_N (s6_17 (R := R) (Q := Q) (K1 := K1) hR e w h)
    exact rgA 15 (fun e w => m6_17 R K1 (e 6) w) h1 hN
  · exact skA (hN _ _ h1)
theorem s6_14 {R : VP} {K1 : VP} {Q : EQ} (hN : ∀ e w, (K1 (e 10) w) → Q .normal e w) (hR : ∀ e w, (R (e 6) w) → Q .ret e w) (e : Env) (w : World) (h : m6_14 R K1 (e 7) (e 8) (e 9) (e 10) w) : W6 k6_14 Q e w := by
  unfold m6_14 at h
  refine seA ?_
  have hN : ∀ e w, (m6_15 R K1 (e 7) (e 8) (e 9) (e 10) w) → (thenE (W6 k6_15 Q) Q) .normal e w := fun e w h => then_N (s6_15 (R := R) (Q := Q) (K1 := K1) hN e w h)
  have hR : ∀ e w, (R (e 6) w) → (thenE (W6 k6_15 Q) Q) .ret e w := fun e w h => then_R (hR e w h)
  refine block_ok 1 (by kernel_rfl) ?_
  have hN : ∀ e w, (m6_15 R K1 (e 7) (e 8) (e 9) (e 10) w) → (inBlockE 1 (thenE (W6 k6_15 Q) Q)) .normal e w := fun e w h => block_N (hN e w h)
  have hR : ∀ e w, (R (e 6) w) → (inBlockE 1 (thenE (W6 k6_15 Q) Q)) .ret e w := fun e w h => block_R (hR e w h)
  refine seA ?_
  have hN : ∀ e w, (m6_16 R K1 (e 7) (e 8) (e 9) (e 10) (e 96) w) → (thenE (W6 k6_16 (inBlockE 1 (thenE (W6 k6_15 Q) Q))) (inBlockE 1 (thenE (W6 k6_15 Q) Q))) .normal e w := fun e w h => then_N (s6_16 (R := R) (Q := (inBlockE 1 (thenE (W6 k6_15 Q) Q))) (K1 := K1) hN hR e w h)
  exact treeJ_ok 14 53 [false, false, false, false, false, false, false, false, false, false, false, false, false, false, false, false, false, false, false, false, false, false, false, false, false, false, false, false, false, false, false, false, false, false, false, false, false, false, false, false, false, false, false, false, false, false, false, false, false, false, false, false, false] (.take 0 [true, false, false, false, false, false, false, false, false, false, false, false, false, false, false, false, false, false, false, false, false, false, false, false, false, false, false, false, false, false, false, false, false, false, false, false, false, false, false, false, false, false, false, false, false, false, false, false, false, false, false, false, false] (.take 1 [true, true, false, false, false, false, false, false, false, false, false, false, false, false, false, false, false, false, false, false, false, false, false, false, false, false, false, false, false, false, false, false, false, false, false, false, false, false, false, false, false, false, false, false, false, false, false, false, false, false, false, false, false] (.take 2 [true, true, true, false, false, false, false, false, false, false, false, false, false, false, false, false, false, false, false, false, false, false, false, false, false, false, false, false, false, false, false, false, false, false, false, false, false, false, false, false, false, false, false, false, false, false, false, false, false, false, false, false, false] (.take 3 [true, true, true, true, false, false, false, false, false, false, false, false, false, false, false, false, false, false, false, false, false, false, false, false, false, false, false, false, false, false, false, false, false, false, false, false, false, false, false, false, false, false, false, false, false, false, false, false, false, false, false, false, false] (.take 4 [true, true, true, true, true, false, false, false, false, false, false, false, false, false, false, false, false, false, false, false, false, false, false, false, false, false, false, false, false, false, false, false, false, false, false, false, false, false, false, false, false, false, false, false, false, false, false, false, false, false, false, false, false] (.take 5 [true, true, true, true, true, true, false, false, false, false, false, false, false, false, false, false, false, false, false, false, false, false, false, false, false, false, false, false, false, false, false, false, false, false, false, false, false, false, false, false, false, false, false, false, false, false, false, false, false, false, false, false, false] (.take 6 [true, true, true, true, true, true, true, false, false, false, false, false, false, false, false, false, false, false, false, false, false, false, false, false, false, false, false, false, false, false, false, false, false, false, false, false, false, false, false, false, false, false, false, false, false, false, false, false, false, false, false, false, false] (.take 7 [true, true, true, true, true, true, true, true, false, false, false, false, false, false, false, false, false, false, false, false, false, false, false, false, false, false, false, false, false, false, false, false, false, false, false, false, false, false, false, false, false, false, false, false, false, false, false, false, false, false, false, false, false] (.take 8 [true, true, true, true, true, true, true, true, true, false, false, false, false, false, false, false, false, false, false, false, false, false, false, false, false, false, false, false, false, false, false, false, false, false, false, false, false, false, false, false, false, false, false, false, false, false, false, false, false, false, false, false, false] (.take 9 [true, true, true, true, true, true, true, true, true, true, false, false, false, false, false, false, false, false, false, false, false, false, false, false, false, false, false, false, false, false, false, false, false, false, false, false, false, false, false, false, false, false, false, false, false, false, false, false, false, false, false, false, false] (.take 10 [true, true, true, true, true, true, true, true, true, true, true, false, false, false, false, false, false, false, false, false, false, false, false, false, false, false, false, false, false, false, false, false, false, false, false, false, false, false, false, false, false, false, false, false, false, false, false, false, false, false, false, false, false] (.take 11 [true, true, true, true, true, true, true, true, true, true, true, true, false, false, false, false, false, false, false, false, false, false, false, false, false, false, false, false, false, false, false, false, false, false, false, false, false, false, false, false, false, false, false, false, false, false, false, false, false, false, false, false, false] (.take 12 [true, true, true, true, true, true, true, true, true, true, true, true, true, false, false, false, false, false, false, false, false, false, false, false, false, false, false, false, false, false, false, false, false, false, false, false, false, false, false, false, false, false, false, false, false, false, false, false, false, false, false, false, false] (.take 13 [true, true, true, true, true, true, true, true, true, true, true, true, true, true, false, false, false, false, false, false, false, false, false, false, false, false, false, false, false, false, false, false, false, false, false, false, false, false, false, false, false, false, false, false, false, false, false, false, false, false, false, false, false] (.take 14 [true, true, true, true, true, true, true, true, true, true, true, true, true, true, true, false, false, false, false, false, false, false, false, false, false, false, false, false, false, false, false, false, false, false, false, false, false, false, false, false, false, false, false, false, false, false, false, false, false, false, false, false, false] (.take 15 [true, true, true, true, true, true, true, true, true, true, true, true, true, true, true, true, false, false, false, false, false, false, false, false, false, false, false, false, false, false, false, false, false, false, false, false, false, false, false, false, false, false, false, false, false, false, false, false, false, false, false, false, false] (.take 16 [true, true, true, true, true, true, true, true, true, true, true, true, true, true, true, true, true, false, false, false, false, false, false, false, false, false, false, false, false, false, false, false, false, false, false, false, false, false, false, false, false, false, false, false, false, false, false, false, false, false, false, false, false] (.take 17 [true, true, true, true, true, true, true, true, true, true, true, true, true, true, true, true, true, true, false, false, false, false, false, false, false, false, false, false, false, false, false, false, false, false, false, false, false, false, false, false, false, false, false, false, false, false, false, false, false, false, false, false, false] (.take 18 [true, true, true, true, true, true, true, true, true, true, true, true, true, true, true, true, true, true, true, false, false, false, false, false, false, false, false, false, false, false, false, false, false, false, false, false, false, false, false, false, false, false, false, false, false, false, false, false, false, false, false, false, false] (.take 19 [true, true, true, true, true, true, true, true, true, true, true, true, true, true, true, true, true, true, true, true, false, false, false, false, false, false, false, false, false, false, false, false, false, false, false, false, false, false, false, false, false, false, false, false, false, false, false, false, false, false, false, false, false] (.take 20 [true, true, true, true, true, true, true, true, true, true, true, true, true, true, true, true, true, true, true, true, true, false, false, false, false, false, false, false, false, false, false, false, false, false, false, false, false, false, false, false, false, false, false, false, false, false, false, false, false, false, false, false, false] (.take 21 [true, true, true, true, true, true, true, true, true, true, true, true, true, true, true, true, true, true, true, true, true, true, false, false, false, false, false, false, false, false, false, false, false, false, false, false, false, false, false, false, false, false, false, false, false, false, false, false, false, false, false, false, false] (.take 22 [true, true, true, true, true, true, true, true, true, true, true, true, true, true, true, true, true, true, true, true, true, true, true, false, false, false, false, false, false, false, false, false, false, false, false, false, false, false, false, false, false, false, false, false, false, false, false, false, false, false, false, false, false] (.take 23 [true, true, true, true, true, true, true, true, true, true, true, true, true, true, true, true, true, true, true, true, true, true, true, true, false, false, false, false, false, false, false, false, false, false, false, false, false, false, false, false, false, false, false, false, false, false, false, false, false, false, false, false, false] (.take 24 [true, true, true, true, true, true, true, true, true, true, true, true, true, true, true, true, true, true, true, true, true, true, true, true, true, false, false, false, false, false, false, false, false, false, false, false, false, false, false, false, false, false, false, false, false, false, false, false, false, false, false, false, false] (.take 25 [true, true, true, true, true, true, true, true, true, true, true, true, true, true, true, true, true, true, true, true, true, true, true, true, true, true, false, false, false, false, false, false, false, false, false, false, false, false, false, false, false, false, false, false, false, false, false, false, false, false, false, false, false] (.take 26 [true, true, true, true, true, true, true, true, true, true, true, true, true, true, true, true, true, true, true, true, true, true, true, true, true, true, true, false, false, false, false, false, false, false, false, false, false, false, false, false, false, false, false, false, false, false, false, false, false, false, false, false, false] (.take 27 [true, true, true, true, true, true, true, true, true, true, true, true, true, true, true, true, true, true, true, true, true, true, true, true, true, true, true, true, false, false, false, false, false, false, false, false, false, false, false, false, false, false, false, false, false, false, false, false, false, false, false, false, false] (.take 28 [true, true, true, true, true, true, true, true, true, true, true, true, true, true, true, true, true, true, true, true, true, true, true, true, true, true, true, true, true, false, false, false, false, false, false, false, false, false, false, false, false, false, false, false, false, false, false, false, false, false, false, false, false] (.take 29 [true, true, true, true, true, true, true, true, true, true, true, true, true, true, true, true, true, true, true, true, true, true, true, true, true, true, true, true, true, true, false, false, false, false, false, false, false, false, false, false, false, false, false, false, false, false, false, false, false, false, false, false, false] (.alt 30 [true, true, true, true, true, true, true, true, true, true, true, true, true, true, true, true, true, true, true, true, true, true, true, true, true, true, true, true, true, true, true, false, false, false, false, false, false, false, false, false, false, false, false, false, false, false, false, false, false, false, false, false, false] (.take 31 [true, true, true, true, true, true, true, true, true, true, true, true, true, true, true, true, true, true, true, true, true, true, true, true, true, true, true, true, true, true, true, true, false, false, false, false, false, false, false, false, false, false, false, false, false, false, false, false, false, false, false, false, false] (.take 32 [true, true, true, true, true, true, true, true, true, true, true, true, true, true, true, true, true, true, true, true, true, true, true, true, true, true, true, true, true, true, true, true, true, false, false, false, false, false, false, false, false, false, false, false, false, false, false, false, false, false, false, false, false] (.take 33 [true, true, true, true, true, true, true, true, true, true, true, true, true, true, true, true, true, true, true, true, true, true, true, true, true, true, true, true, true, true, true, true, true, true, false, false, false, false, false, false, false, false, false, false, false, false, false, false, false, false, false, false, false] (.take 34 [true, true, true, true, true, true, true, true, true, true, true, true, true, true, true, true, true, true, true, true, true, true, true, true, true, true, true, true, true, true, true, true, true, true, true, false, false, false, false, false, false, false, false, false, false, false, false, false, false, false, false, false, false] (.take 35 [true, true, true, true, true, true, true, true, true, true, true, true, true, true, true, true, true, true, true, true, true, true, true, true, true, true, true, true, true, true, true, true, true, true, true, true, false, false, false, false, false, false, false, false, false, false, false, false, false, false, false, false, false] (.take 36 [true, true, true, true, true, true, true, true, true, true, true, true, true, true, true, true, true, true, true, true, true, true, true, true, true, true, true, true, true, true, true, true, true, true, true, true, true, false, false, false, false, false, false, false, false, false, false, false, false, false, false, false, false] (.take 37 [true, true, true, true, true, true, true, true, true, true, true, true, true, true, true, true, true, true, true, true, true, true, true, true, true, true, true, true, true, true, true, true, true, true, true, true, true, true, false, false, false, false, false, false, false, false, false, false, false, false, false, false, false] (.take 38 [true, true, true, true, true, true, true, true, true, true, true, true, true, true, true, true, true, true, true, true, true, true, true, true, true, true, true, true, true, true, true, true, true, true, true, true, true, true, true, false, false, false, false, false, false, false, false, false, false, false, false, false, false] (.take 39 [true, true, true, true, true, true, true, true, true, true, true, true, true, true, true, true, true, true, true, true, true, true, true, true, true, true, true, true, true, true, true, true, true, true, true, true, true, true, true, true, false, false, false, false, false, false, false, false, false, false, false, false, false] (.take 40 [true, true, true, true, true, true, true, true, true, true, true, true, true, true, true, true, true, true, true, true, true, true, true, true, true, true, true, true, true, true, true, true, true, true, true, true, true, true, true, true, true, false, false, false, false, false, false, false, false, false, false, false, false] (.take 41 [true, true, true, true, true, true, true, true, true, true, true, true, true, true, true, true, true, true, true, true, true, true, true, true, true, true, true, true, true, true, true, true, true, true, true, true, true, true, true, true, true, true, false, false, false, false, false, false, false, false, false, false, false] (.take 42 [true, true, true, true, true, true, true, true, true, true, true, true, true, true, true, true, true, true, true, true, true, true, true, true, true, true, true, true, true, true, true, true, true, true, true, true, true, true, true, true, true, true, true, false, false, false, false, false, false, false, false, false, false] (.take 43 [true, true, true, true, true, true, true, true, true, true, true, true, true, true, true, true, true, true, true, true, true, true, true, true, true, true, true, true, true, true, true, true, true, true, true, true, true, true, true, true, true, true, true, true, false, false, false, false, false, false, false, false, false] (.take 44 [true, true, true, true, true, true, true, true, true, true, true, true, true, true, true, true, true, true, true, true, true, true, true, true, true, true, true, true, true, true, true, true, true, true, true, true, true, true, true, true, true, true, true, true, true, false, false, false, false, false, false, false, false] (.take 45 [true, true, true, true, true, true, true, true, true, true, true, true, true, true, true, true, true, true, true, true, true, true, true, true, true, true, true, true, true, true, true, true, true, true, true, true, true, true, true, true, true, true, true, true, true, true, false, false, false, false, false, false, false] (.take 46 [true, true, true, true, true, true, true, true, true, true, true, true, true, true, true, true, true, true, true, true, true, true, true, true, true, true, true, true, true, true, true, true, true, true, true, true, true, true, true, true, true, true, true, true, true, true, true, false, false, false, false, false, false] (.take 47 [true, true, true, true, true, true, true, true, true, true, true, true, true, true, true, true, true, true, true, true, true, true, true, true, true, true, true, true, true, true, true, true, true, true, true, true, true, true, true, true, true, true, true, true, true, true, true, true, false, false, false, false, false] (.take 48 [true, true, true, true, true, true, true, true, true, true, true, true, true, true, true, true, true, true, true, true, true, true, true, true, true, true, true, true, true, true, true, true, true, true, true, true, true, true, true, true, true, true, true, true, true, true, true, true, true, false, false, false, false] (.take 49 [true, true, true, true, true, true, true, true, true, true, true, true, true, true, true, true, true, true, true, true, true, true, true, true, true, true, true, true, true, true, true, true, true, true, true, true, true, true, true, true, true, true, true, true, true, true, true, true, true, true, false, false, false] (.alt 50 [true, true, true, true, true, true, true, true, true, true, true, true, true, true, true, true, true, true, true, true, true, true, true, true, true, true, true, true, true, true, true, true, true, true, true, true, true, true, true, true, true, true, true, true, true, true, true, true, true, true, true, false, false] (.take 51 [true, true, true, true, true, true, true, true, true, true, true, true, true, true, true, true, true, true, true, true, true, true, true, true, true, true, true, true, true, true, true, true, true, true, true, true, true, true, true, true, true, true, true, true, true, true, true, true, true, true, true, true, false] (.take 52 [true, true, true, true, true, true, true, true, true, true, true, true, true, true, true, true, true, true, true, true, true, true, true, true, true, true, true, true, true, true, true, true, true, true, true, true, true, true, true, true, true, true, true, true, true, true, true, true, true, true, true, true, true] .done)) .stop)))))))))))))))))))) .stop))))))))))))))))))))))))))))))) (fun e w => m6_16 R K1 (e 7) (e 8) (e 9) (e 10) (e 96) w) (by kernel_rfl) (by kernel_rfl) (by kernel_rfl) (by kernel_rfl) (by kernel_rfl) (by kernel_rfl) (kcast (by kernel_rfl) h) hN (by kernel_rfl)
theorem s6_11 {R : VP} {Q : EQ} (hR : ∀ e w, (R (e 6) w) → Q .ret e w) (e : Env) (w : World) (h : m6_11 R (e 6) w) : W6 k6_11 Q e w := by
  unfold m6_11 at h
  exact reA (hR _ _ h)
theorem s6_10 {R : VP} {Q : EQ} (hR : ∀ e w, (R (e 6) w) → Q .ret e w) (e : Env) (w : World) (h : m6_10 R (e 7) (e 9) w) : W6 k6_10 Q e w := by
  unfold m6_10 at h
  refine seA ?_
  have hN : ∀ e w, (m6_11 R (e 6) w) → (thenE (W6 k6_11 Q) Q) .normal e w := fun e w h => then_N (s6_11 (R := R) (Q := Q) hR e w h)
  exact rgA 17 (fun e w => m6_11 R (e 6) w) h hN
theorem s6_9 {R : VP} {Q : EQ} (hR : ∀ e w, (R (e 6) w) → Q .ret e w) (e : Env) (w : World) (h : m6_9 R (e 7) (e 9) w) : W6 k6_9 Q e w := by
  unfold m6_9 at h
  refine seA ?_
  have hN : ∀ e w, (m6_10 R (e 7) (e 9) w) → (thenE (W6 k6_10 Q) Q) .normal e w := fun e w h => then_N (s6_10 (R := R) (Q := Q) hR e w h)
  exact rgA 16 (fun e w => m6_10 R (e 7) (e 9) w) h hN
theorem s6_18 {R : VP} {K1 : VP} {Q : EQ} (hN : ∀ e w, (m6_14 R K1 (e 7) (e 8) (e 9) (e 10) w) → Q .normal e w) (hX0 : ∀ e w, (m6_9 R (e 7) (e 9) w) → Q (.exit 0) e w) (e : Env) (w : World) (h : m6_18 R K1 (e 7) (e 8) (e 9) (e 10) (e 41) w) : W6 k6_18 Q e w := by
  unfold m6_18 at h
  refine coA (Operand.tmp 41) h (fun h1 => ?_) (fun h1 => ?_)
  · exact skA (hN _ _ h1)
  · exact exA 0 (hX0 _ _ h1)
theorem s6_13 {R : VP} {K1 : VP} {Q : EQ} (hN : ∀ e w, (K1 (e 10) w) → Q .normal e w) (hR : ∀ e w, (R (e 6) w) → Q .ret e w) (hX0 : ∀ e w, (m6_9 R (e 7) (e 9) w) → Q (.exit 0) e w) (e : Env) (w : World) (h : m6_13 R K1 (e 7) (e 8) (e 9) (e 10) w) : W6 k6_13 Q e w := by
  unfold m6_13 at h
  refine seA ?_
  have hN : ∀ e w, (m6_14 R K1 (e 7) (e 8) (e 9) (e 10) w) → (thenE (W6 k6_14 Q) Q) .normal e w := fun e w h => then_N (s6_14 (R := R) (Q := Q) (K1 := K1) hN hR e w h)
  have hX0 : ∀ e w, (m6_9 R (e 7) (e 9) w) → (thenE (W6 k6_14 Q) Q) (.exit 0) e w := fun e w h => then_X (hX0 e w h)
  refine seA ?_
  have hN : ∀ e w, (m6_18 R K1 (e 7) (e 8) (e 9) (e 10) (e 41) w) → (thenE (W6 k6_18 (thenE (W6 k6_14 Q) Q)) (thenE (W6 k6_14 Q) Q)) .normal e w := fun e w h => then_N (s6_18 (R := R) (Q := (thenE (W6 k6_14 Q) Q)) (K1 := K1) hN hX0 e w h)
  exact rgA 12 (fun e w => m6_18 R K1 (e 7) (e 8) (e 9) (e 10) (e 41) w) h hN
theorem s6_12 {R : VP} {Q : EQ} (hN : ∀ e w, (m6_9 R (e 7) (e 9) w) → Q .normal e w) (hR : ∀ e w, (R (e 6) w) → Q .ret e w) (e : Env) (w : World) (h : m6_12 R (e 7) (e 8) (e 9) (e 10) w) : W6 k6_12 Q e w := by
  unfold m6_12 at h
  refine block_ok 0 (by kernel_rfl) ?_
  have hX0 : ∀ e w, (m6_9 R (e 7) (e 9) w) → (inBlockE 0 Q) (.exit 0) e w := fun e w h => inBlock_same (Q := Q) 0 (hN e w h)
  have hR : ∀ e w, (R (e 6) w) → (inBlockE 0 Q) .ret e w := fun e w h => block_R (hR e w h)
  refine loop_ok' (fun (e : Env) => e 10) [7, 8, 9] (by kernel_rfl) (by kernel_rfl) h (fun K e' w' hk h' => ?_)
  have r7 : e' 7 = e 7 := hk 7 (by decide)
  have r8 : e' 8 = e 8 := hk 8 (by decide)
  have r9 : e' 9 = e 9 := hk 9 (by decide)
  have hR : ∀ e w, (R (e 6) w) → (thenE (fun (e : Env) w => K (e 10) w) (inBlockE 0 Q)) .ret e w := fun e w h => then_R (hR e w h)
  have hX0 : ∀ e w, (m6_9 R (e 7) (e 9) w) → (thenE (fun (e : Env) w => K (e 10) w) (inBlockE 0 Q)) (.exit 0) e w := fun e w h => then_X (hX0 e w h)
  exact s6_13 (R := R) (Q := (thenE (fun (e : Env) w => K (e 10) w) (inBlockE 0 Q))) (K1 := K) (fun _ _ h => then_N h) hR hX0 e' w' (by rw [r7, r8, r9]; exact h')
theorem s6_8 {R : VP} {Q : EQ} (hR : ∀ e w, (R (e 6) w) → Q .ret e w) (e : Env) (w : World) (h : m6_8 R (e 7) (e 8) (e 9) w) : W6 k6_8 Q e w := by
  unfold m6_8 at h
  refine seA ?_
  have hN : ∀ e w, (m6_9 R (e 7) (e 9) w) → (thenE (W6 k6_9 Q) Q) .normal e w := fun e w h => then_N (s6_9 (R := R) (Q := Q) hR e w h)
  have hR : ∀ e w, (R (e 6) w) → (thenE (W6 k6_9 Q) Q) .ret e w := fun e w h => then_R (hR e w h)
  refine seA ?_
  have hN : ∀ e w, (m6_12 R (e 7) (e 8) (e 9) (e 10) w) → (thenE (W6 k6_12 (thenE (W6 k6_9 Q) Q)) (thenE (W6 k6_9 Q) Q)) .normal e w := fun e w h => then_N (s6_12 (R := R) (Q := (thenE (W6 k6_9 Q) Q)) hN hR e w h)
  exact rgA 11 (fun e w => m6_12 R (e 7) (e 8) (e 9) (e 10) w) h hN
theorem s6_19 {R : VP} {Q : EQ} (hN : ∀ e w, (m6_8 R (e 7) (e 8) (e 9) w) → Q .normal e w) (hR : ∀ e w, (R (e 6) w) → Q .ret e w) (e : Env) (w : World) (h : m6_19 R (e 7) (e 8) (e 9) (e 37) w) : W6 k6_19 Q e w := by
  unfold m6_19 at h
  refine coA (Operand.tmp 37) h (fun h1 => ?_) (fun h1 => ?_)
  · refine seA ?_
    have hN : ∀ e w, (m6_20 R (e 6) w) → (thenE (W6 k6_20 Q) Q) .normal e w := fun e w h => then_N (s6_20 (R := R) (Q := Q) hR e w h)
    exact rgA 10 (fun e w => m6_20 R (e 6) w) h1 hN
  · exact skA (hN _ _ h1)
theorem s6_7 {R : VP} {Q : EQ} (hR : ∀ e w, (R (e 6) w) → Q .ret e w) (e : Env) (w : World) (h : m6_7 R (e 7) (e 8) (e 9) w) : W6 k6_7 Q e w := by
  unfold m6_7 at h
  refine seA ?_
  have hN : ∀ e w, (m6_8 R (e 7) (e 8) (e 9) w) → (thenE (W6 k6_8 Q) Q) .normal e w := fun e w h => then_N (s6_8 (R := R) (Q := Q) hR e w h)
  have hR : ∀ e w, (R (e 6) w) → (thenE (W6 k6_8 Q) Q) .ret e w := fun e w h => then_R (hR e w h)
  refine seA ?_
  have hN : ∀ e w, (m6_19 R (e 7) (e 8) (e 9) (e 37) w) → (thenE (W6 k6_19 (thenE (W6 k6_8 Q) Q)) (thenE (W6 k6_8 Q) Q)) .normal e w := fun e w h => then_N (s6_19 (R := R) (Q := (thenE (W6 k6_8 Q) Q)) hN hR e w h)
  exact rgA 9 (fun e w => m6_19 R (e 7) (e 8) (e 9) (e 37) w) h hN
theorem s6_6 {R : VP} {Q : EQ} (hR : ∀ e w, (R (e 6) w) → Q .ret e w) (e : Env) (w : World) (h : m6_6 R (e 7) (e 8) w) : W6 k6_6 Q e w := by
  unfold m6_6 at h
  refine seA ?_
  have hN : ∀ e w, (m6_7 R (e 7) (e 8) (e 9) w) → (thenE (W6 k6_7 Q) Q) .normal e w := fun e w h => then_N (s6_7 (R := R) (Q := Q) hR e w h)
  exact rgA 8 (fun e w => m6_7 R (e 7) (e 8) (e 9) w) h hN
theorem s6_5 {R : VP} {Q : EQ} (hR : ∀ e w, (R (e 6) w) → Q .ret e w) (e : Env) (w : World) (h : m6_5 R (e 2) (e 7) (e 8) w) : W6 k6_5 Q e w := by
  unfold m6_5 at h
  refine seA ?_
  have hN : ∀ e w, (m6_6 R (e 7) (e 8) w) → (thenE (W6 k6_6 Q) Q) .normal e w := fun e w h => then_N (s6_6 (R := R) (Q := Q) hR e w h)
  exact rgA 7 (fun e w => m6_6 R (e 7) (e 8) w) h hN
theorem s6_21 {R : VP} {Q : EQ} (hN : ∀ e w, (m6_5 R (e 2) (e 7) (e 8) w) → Q .normal e w) (e : Env) (w : World) (h : m6_21 R (e 2) (e 7) (e 8) (e 21) w) : W6 k6_21 Q e w := by
  unfold m6_21 at h
  refine coA (Operand.tmp 21) h (fun h1 => ?_) (fun h1 => ?_)
  · exact rgA 6 (fun e w => m6_5 R (e 2) (e 7) (e 8) w) h1 hN
  · exact skA (hN _ _ h1)
theorem s6_4 {R : VP} {Q : EQ} (hR : ∀ e w, (R (e 6) w) → Q .ret e w) (e : Env) (w : World) (h : m6_4 R (e 2) (e 7) (e 8) w) : W6 k6_4 Q e w := by
  unfold m6_4 at h
  refine seA ?_
  have hN : ∀ e w, (m6_5 R (e 2) (e 7) (e 8) w) → (thenE (W6 k6_5 Q) Q) .normal e w := fun e w h => then_N (s6_5 (R := R) (Q := Q) hR e w h)
  refine seA ?_
  have hN : ∀ e w, (m6_21 R (e 2) (e 7) (e 8) (e 21) w) → (thenE (W6 k6_21 (thenE (W6 k6_5 Q) Q)) (thenE (W6 k6_5 Q) Q)) .normal e w := fun e w h => then_N (s6_21 (R := R) (Q := (thenE (W6 k6_5 Q) Q)) hN e w h)
  exact rgA 5 (fun e w => m6_21 R (e 2) (e 7) (e 8) (e 21) w) h hN
theorem s6_3 {R : VP} {Q : EQ} (hR : ∀ e w, (R (e 6) w) → Q .ret e w) (e : Env) (w : World) (h : m6_3 R (e 2) (e 7) w) : W6 k6_3 Q e w := by
  unfold m6_3 at h
  refine seA ?_
  have hN : ∀ e w, (m6_4 R (e 2) (e 7) (e 8) w) → (thenE (W6 k6_4 Q) Q) .normal e w := fun e w h => then_N (s6_4 (R := R) (Q := Q) hR e w h)
  exact rgA 4 (fun e w => m6_4 R (e 2) (e 7) (e 8) w) h hN
theorem s6_22 {R : VP} {Q : EQ} (hN : ∀ e w, (m6_3 R (e 2) (e 7) w) → Q .normal e w) (hR : ∀ e w, (R (e 6) w) → Q .ret e w) (e : Env) (w : World) (h : m6_22 R (e 2) (e 7) (e 15) w) : W6 k6_22 Q e w := by
  unfold m6_22 at h
  refine coA (Operand.tmp 15) h (fun h1 => ?_) (fun h1 => ?_)
  · refine seA ?_
    have hN : ∀ e w, (m6_23 R (e 6) w) → (thenE (W6 k6_23 Q) Q) .normal e w := fun e w h => then_N (s6_23 (R := R) (Q := Q) hR e w h)
    exact rgA 3 (fun e w => m6_23 R (e 6) w) h1 hN
  · exact skA (hN _ _ h1)
theorem s6_2 {R : VP} {Q : EQ} (hR : ∀ e w, (R (e 6) w) → Q .ret e w) (e : Env) (w : World) (h : m6_2 R (e 2) (e 7) w) : W6 k6_2 Q e w := by
  unfold m6_2 at h
  refine seA ?_
  have hN : ∀ e w, (m6_3 R (e 2) (e 7) w) → (thenE (W6 k6_3 Q) Q) .normal e w := fun e w h => then_N (s6_3 (R := R) (Q := Q) hR e w h)
  have hR : ∀ e w, (R (e 6) w) → (thenE (W6 k6_3 Q) Q) .ret e w := fun e w h => then_R (hR e w h)
  refine seA ?_
  have hN : ∀ e w, (m6_22 R (e 2) (e 7) (e 15) w) → (thenE (W6 k6_22 (thenE (W6 k6_3 Q) Q)) (thenE (W6 k6_3 Q) Q)) .normal e w := fun e w h => then_N (s6_22 (R := R) (Q := (thenE (W6 k6_3 Q) Q)) hN hR e w h)
  exact rgA 2 (fun e w => m6_22 R (e 2) (e 7) (e 15) w) h hN
theorem s6_1 {R : VP} {Q : EQ} (hR : ∀ e w, (R (e 6) w) → Q .ret e w) (e : Env) (w : World) (h : m6_1 R (e 0) (e 1) (e 2) w) : W6 k6_1 Q e w := by
  unfold m6_1 at h
  refine seA ?_
  have hN : ∀ e w, (m6_2 R (e 2) (e 7) w) → (thenE (W6 k6_2 Q) Q) .normal e w := fun e w h => then_N (s6_2 (R := R) (Q := Q) hR e w h)
  exact rgA 1 (fun e w => m6_2 R (e 2) (e 7) w) h hN
theorem s6_0 {R : VP} {Q : EQ} (hR : ∀ e w, (R (e 6) w) → Q .ret e w) (e : Env) (w : World) (h : m6_0 R (e 0) (e 1) (e 2) w) : W6 k6_0 Q e w := by
  unfold m6_0 at h
  refine seA ?_
  have hN : ∀ e w, (m6_1 R (e 0) (e 1) (e 2) w) → (thenE (W6 k6_1 Q) Q) .normal e w := fun e w h => then_N (s6_1 (R := R) (Q := Q) hR e w h)
  exact rgA 0 (fun e w => m6_1 R (e 0) (e 1) (e 2) w) h hN
abbrev m6 (R : VP) (size0 l1 keep2 : Value) (w : World) : Prop := m6_0 R size0 l1 keep2 w
theorem s6 (size0 l1 keep2 : Value) {R : VP} {w : World} (h : m6 R size0 l1 keep2 w) :
    Calls Tryd.prog 6 #[size0, l1, keep2] w fun e w' => ∃ v, e = .returned v ∧ R v w' :=
  calls_of_cwp (st := (fun i => 0)) (c := k6_0) (by kernel_rfl) Tryd.func6 (by kernel_rfl) (Nat.le_of_ble_eq_true (by kernel_rfl)) (by kernel_rfl)
    (s6_0 (R := R) (Q := endE Tryd.prog Tryd.f6 R) (fun e w h => kcast (by kernel_rfl) h) (argsE #[size0, l1, keep2]) w (kcast (by kernel_rfl) h))
end Go.Proofs.YtcldjjmfpmkldaaDoor.M
