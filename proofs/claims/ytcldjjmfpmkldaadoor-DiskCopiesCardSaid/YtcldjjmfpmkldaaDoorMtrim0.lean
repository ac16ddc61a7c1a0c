/- What functions' texts ask of their ends, told over values that have names; printed by a program of this work. -/
import Derived.Test.YtcldjjmfpmkldaaDoorFw
import Derived.Test.YtcldjjmfpmkldaaDoorProg
namespace Go.Proofs.YtcldjjmfpmkldaaDoor.M
open Go.Proofs.YtcldjjmfpmkldaaDoor.F
set_option linter.unusedVariables false
set_option maxRecDepth 100000
/-! ### strings.Trim -/
def m46_12 (R : VP) (t4 : Value) (w : World) : Prop :=
  R t4 w
def m46_10 (R : VP) (t4 : Value) (w : World) : Prop :=
  R t4 w
def m46_8 (R : VP) (t4 : Value) (w : World) : Prop :=
  R t4 w
def m46_5 (R : VP) (t4 : Value) (w : World) : Prop :=
  R t4 w
def m46_4 (R : VP) (s0 cutset1 : Value) (w : World) : Prop :=
  callP Tryd.prog (fnV 56) #[s0, cutset1] w fun t40 w =>
  callP Tryd.prog (fnV 55) #[t40, cutset1] w fun t42 w =>
  m46_5 R t42 w
def m46_7 (R : VP) (s0 cutset1 as5 t34 : Value) (w : World) : Prop :=
  condP t34
  (callP Tryd.prog (fnV 54) #[s0, as5] w fun t36 w =>
  callP Tryd.prog (fnV 53) #[t36, as5] w fun t37 w =>
  m46_8 R t37 w)
  (m46_4 R s0 cutset1 w)
def m46_6 (R : VP) (s0 cutset1 as5 ok6 : Value) (w : World) : Prop :=
  m46_7 R s0 cutset1 as5 ok6 w
def m46_3 (R : VP) (s0 cutset1 : Value) (w : World) : Prop :=
  callP Tryd.prog (fnV 52) #[cutset1] w fun t31 w =>
  valP Tryd.prog (Instr.extract t31 0) w fun t32 w =>
  valP Tryd.prog (Instr.extract t31 1) w fun t33 w =>
  valP Tryd.prog (Instr.alloc 81 true (.tuple #[])) w fun as5 w =>
  unitP Tryd.prog (Instr.storeAt 81 as5 t32) w fun _ w =>
  m46_6 R s0 cutset1 as5 t33 w
def m46_9 (R : VP) (s0 cutset1 t21 : Value) (w : World) : Prop :=
  condP t21
  (anyDraw w fun w =>
  pureP Tryd.prog (Instr.index 9 cutset1 (Value.int IntKind.i64 0)) fun t24 =>
  pureP Tryd.prog (Instr.index 9 cutset1 (Value.int IntKind.i64 0)) fun t27 =>
  callP Tryd.prog (fnV 51) #[s0, t24] w fun t25 w =>
  callP Tryd.prog (fnV 50) #[t25, t27] w fun t28 w =>
  m46_10 R t28 w)
  (m46_3 R s0 cutset1 w)
def m46_2 (R : VP) (s0 cutset1 : Value) (w : World) : Prop :=
  builtinP Tryd.prog Builtin.len #[9] 3 #[false] #[cutset1] w fun t15 w =>
  valP Tryd.prog (binS BinOp.eql 3 (Operand.tmp 15) (Operand.const (Value.int IntKind.i64 1)) t15 (Value.int IntKind.i64 1)) w fun t16 w =>
  condP t16
  (valP Tryd.prog (Instr.index 9 cutset1 (Value.int IntKind.i64 0)) w fun t19 w =>
  valP Tryd.prog (binS BinOp.lss 5 (Operand.tmp 19) (Operand.const (Value.int IntKind.u8 128)) t19 (Value.int IntKind.u8 128)) w fun t20 w =>
  pickP t16 t20 (Value.bool false) fun t21 =>
  m46_9 R s0 cutset1 t21 w)
  (pickP t16 undef (Value.bool false) fun t21 =>
  m46_9 R s0 cutset1 t21 w)
def m46_11 (R : VP) (s0 cutset1 t12 : Value) (w : World) : Prop :=
  condP t12
  (m46_12 R s0 w)
  (m46_2 R s0 cutset1 w)
def m46_1 (R : VP) (s0 cutset1 : Value) (w : World) : Prop :=
  valP Tryd.prog (binS BinOp.eql 9 (Operand.tmp 7) (Operand.const (Value.string ⟨#[]⟩)) s0 (Value.string ⟨#[]⟩)) w fun t8 w =>
  condP t8
  (pickP t8 (Value.bool true) undef fun t12 =>
  m46_11 R s0 cutset1 t12 w)
  (valP Tryd.prog (binS BinOp.eql 9 (Operand.tmp 10) (Operand.const (Value.string ⟨#[]⟩)) cutset1 (Value.string ⟨#[]⟩)) w fun t11 w =>
  pickP t8 (Value.bool true) t11 fun t12 =>
  m46_11 R s0 cutset1 t12 w)
def m46_0 (R : VP) (s0 cutset1 : Value) (w : World) : Prop :=
  m46_1 R s0 cutset1 w
abbrev W46 := cwp Tryd.prog (fun i => 0)
noncomputable def k46_0 : Code := (bodyOf Tryd.f46)
noncomputable def k46_1 : Code := (c2 k46_0)
noncomputable def k46_2 : Code := (c2 k46_1)
noncomputable def k46_3 : Code := (c2 k46_2)
noncomputable def k46_4 : Code := (c2 k46_3)
noncomputable def k46_5 : Code := (c2 k46_4)
noncomputable def k46_6 : Code := (c2 (c1 k46_3))
noncomputable def k46_7 : Code := (c2 k46_6)
noncomputable def k46_8 : Code := (c2 (c1 k46_7))
noncomputable def k46_9 : Code := (c2 (c1 k46_2))
noncomputable def k46_10 : Code := (c2 (c1 k46_9))
noncomputable def k46_11 : Code := (c2 (c1 k46_1))
noncomputable def k46_12 : Code := (c2 (c1 k46_11))
theorem s46_12 {R : VP} {Q : EQ} (hR : ∀ e w, (R (e 4) w) → Q .ret e w) (e : Env) (w : World) (h : m46_12 R (e 4) w) : W46 k46_12 Q e w := by
  unfold m46_12 at h
  exact reA (hR _ _ h)
theorem s46_10 {R : VP} {Q : EQ} (hR : ∀ e w, (R (e 4) w) → Q .ret e w) (e : Env) (w : World) (h : m46_10 R (e 4) w) : W46 k46_10 Q e w := by
  unfold m46_10 at h
  exact reA (hR _ _ h)
theorem s46_8 {R : VP} {Q : EQ} (hR : ∀ e w, (R (e 4) w) → Q .ret e w) (e : Env) (w : World) (h : m46_8 R (e 4) w) : W46 k46_8 Q e w := by
  unfold m46_8 at h
  exact reA (hR _ _ h)
theorem s46_5 {R : VP} {Q : EQ} (hR : ∀ e w, (R (e 4) w) → Q .ret e w) (e : Env) (w : World) (h : m46_5 R (e 4) w) : W46 k46_5 Q e w := by
  unfold m46_5 at h
  exact reA (hR _ _ h)
theorem s46_4 {R : VP} {Q : EQ} (hR : ∀ e w, (R (e 4) w) → Q .ret e w) (e : Env) (w : World) (h : m46_4 R (e 0) (e 1) w) : W46 k46_4 Q e w := by
  unfold m46_4 at h
  refine seA ?_
  have hN : ∀ e w, (m46_5 R (e 4) w) → (thenE (W46 k46_5 Q) Q) .normal e w := fun e w h => then_N (s46_5 (R := R) (Q := Q) hR e w h)
  exact rgA 8 (fun e w => m46_5 R (e 4) w) h hN
theorem s46_7 {R : VP} {Q : EQ} (hN : ∀ e w, (m46_4 R (e 0) (e 1) w) → Q .normal e w) (hR : ∀ e w, (R (e 4) w) → Q .ret e w) (e : Env) (w : World) (h : m46_7 R (e 0) (e 1) (e 5) (e 34) w) : W46 k46_7 Q e w := by
  unfold m46_7 at h
  refine coA (Operand.tmp 34) h (fun h1 => ?_) (fun h1 => ?_)
  · refine seA ?_
    have hN : ∀ e w, (m46_8 R (e 4) w) → (thenE (W46 k46_8 Q) Q) .normal e w := fun e w h => then_N (s46_8 (R := R) (Q := Q) hR e w h)
    exact rgA 7 (fun e w => m46_8 R (e 4) w) h1 hN
  · exact skA (hN _ _ h1)
theorem s46_6 {R : VP} {Q : EQ} (hN : ∀ e w, (m46_4 R (e 0) (e 1) w) → Q .normal e w) (hR : ∀ e w, (R (e 4) w) → Q .ret e w) (e : Env) (w : World) (h : m46_6 R (e 0) (e 1) (e 5) (e 6) w) : W46 k46_6 Q e w := by
  unfold m46_6 at h
  refine seA ?_
  have hN : ∀ e w, (m46_7 R (e 0) (e 1) (e 5) (e 34) w) → (thenE (W46 k46_7 Q) Q) .normal e w := fun e w h => then_N (s46_7 (R := R) (Q := Q) hN hR e w h)
  exact rgA 6 (fun e w => m46_7 R (e 0) (e 1) (e 5) (e 34) w) h hN
theorem s46_3 {R : VP} {Q : EQ} (hR : ∀ e w, (R (e 4) w) → Q .ret e w) (e : Env) (w : World) (h : m46_3 R (e 0) (e 1) w) : W46 k46_3 Q e w := by
  unfold m46_3 at h
  refine seA ?_
  have hN : ∀ e w, (m46_4 R (e 0) (e 1) w) → (thenE (W46 k46_4 Q) Q) .normal e w := fun e w h => then_N (s46_4 (R := R) (Q := Q) hR e w h)
  have hR : ∀ e w, (R (e 4) w) → (thenE (W46 k46_4 Q) Q) .ret e w := fun e w h => then_R (hR e w h)
  refine seA ?_
  have hN : ∀ e w, (m46_6 R (e 0) (e 1) (e 5) (e 6) w) → (thenE (W46 k46_6 (thenE (W46 k46_4 Q) Q)) (thenE (W46 k46_4 Q) Q)) .normal e w := fun e w h => then_N (s46_6 (R := R) (Q := (thenE (W46 k46_4 Q) Q)) hN hR e w h)
  exact rgA 5 (fun e w => m46_6 R (e 0) (e 1) (e 5) (e 6) w) h hN
theorem s46_9 {R : VP} {Q : EQ} (hN : ∀ e w, (m46_3 R (e 0) (e 1) w) → Q .normal e w) (hR : ∀ e w, (R (e 4) w) → Q .ret e w) (e : Env) (w : World) (h : m46_9 R (e 0) (e 1) (e 21) w) : W46 k46_9 Q e w := by
  unfold m46_9 at h
  refine coA (Operand.tmp 21) h (fun h1 => ?_) (fun h1 => ?_)
  · refine seA ?_
    have hN : ∀ e w, (m46_10 R (e 4) w) → (thenE (W46 k46_10 Q) Q) .normal e w := fun e w h => then_N (s46_10 (R := R) (Q := Q) hR e w h)
    exact tree_ok 4 8 [false, false, false, false, false, false, false, false] (.take 0 [true, false, false, false, false, false, false, false] (.take 1 [true, true, false, false, false, false, false, false] (.take 2 [true, true, true, false, false, false, false, false] (.take 4 [true, true, true, false, true, false, false, false] (.take 5 [true, true, true, false, true, true, false, false] (.alt 3 [true, true, true, true, true, true, false, false] (.alt 6 [true, true, true, true, true, true, true, false] (.take 7 [true, true, true, true, true, true, true, true] .done) .stop) .stop)))))) (fun e w => m46_10 R (e 4) w) (by kernel_rfl) (by kernel_rfl) (by kernel_rfl) (by kernel_rfl) (by kernel_rfl) (by kernel_rfl) (kcast (by kernel_rfl) h1) hN (by kernel_rfl)
  · exact skA (hN _ _ h1)
theorem s46_2 {R : VP} {Q : EQ} (hR : ∀ e w, (R (e 4) w) → Q .ret e w) (e : Env) (w : World) (h : m46_2 R (e 0) (e 1) w) : W46 k46_2 Q e w := by
  unfold m46_2 at h
  refine seA ?_
  have hN : ∀ e w, (m46_3 R (e 0) (e 1) w) → (thenE (W46 k46_3 Q) Q) .normal e w := fun e w h => then_N (s46_3 (R := R) (Q := Q) hR e w h)
  have hR : ∀ e w, (R (e 4) w) → (thenE (W46 k46_3 Q) Q) .ret e w := fun e w h => then_R (hR e w h)
  refine seA ?_
  have hN : ∀ e w, (m46_9 R (e 0) (e 1) (e 21) w) → (thenE (W46 k46_9 (thenE (W46 k46_3 Q) Q)) (thenE (W46 k46_3 Q) Q)) .normal e w := fun e w h => then_N (s46_9 (R := R) (Q := (thenE (W46 k46_3 Q) Q)) hN hR e w h)
  exact rgA 3 (fun e w => m46_9 R (e 0) (e 1) (e 21) w) h hN
theorem s46_11 {R : VP} {Q : EQ} (hN : ∀ e w, (m46_2 R (e 0) (e 1) w) → Q .normal e w) (hR : ∀ e w, (R (e 4) w) → Q .ret e w) (e : Env) (w : World) (h : m46_11 R (e 0) (e 1) (e 12) w) : W46 k46_11 Q e w := by
  unfold m46_11 at h
  refine coA (Operand.tmp 12) h (fun h1 => ?_) (fun h1 => ?_)
  · refine seA ?_
    have hN : ∀ e w, (m46_12 R (e 4) w) → (thenE (W46 k46_12 Q) Q) .normal e w := fun e w h => then_N (s46_12 (R := R) (Q := Q) hR e w h)
    exact rgA 2 (fun e w => m46_12 R (e 4) w) h1 hN
  · exact skA (hN _ _ h1)
theorem s46_1 {R : VP} {Q : EQ} (hR : ∀ e w, (R (e 4) w) → Q .ret e w) (e : Env) (w : World) (h : m46_1 R (e 0) (e 1) w) : W46 k46_1 Q e w := by
  unfold m46_1 at h
  refine seA ?_
  have hN : ∀ e w, (m46_2 R (e 0) (e 1) w) → (thenE (W46 k46_2 Q) Q) .normal e w := fun e w h => then_N (s46_2 (R := R) (Q := Q) hR e w h)
  have hR : ∀ e w, (R (e 4) w) → (thenE (W46 k46_2 Q) Q) .ret e w := fun e w h => then_R (hR e w h)
  refine seA ?_
  have hN : ∀ e w, (m46_11 R (e 0) (e 1) (e 12) w) → (thenE (W46 k46_11 (thenE (W46 k46_2 Q) Q)) (thenE (W46 k46_2 Q) Q)) .normal e w := fun e w h => then_N (s46_11 (R := R) (Q := (thenE (W46 k46_2 Q) Q)) hN hR e w h)
  exact rgA 1 (fun e w => m46_11 R (e 0) (e 1) (e 12) w) h hN
theorem s46_0 {R : VP} {Q : EQ} (hR : ∀ e w, (R (e 4) w) → Q .ret e w) (e : Env) (w : World) (h : m46_0 R (e 0) (e 1) w) : W46 k46_0 Q e w := by
  unfold m46_0 at h
  refine seA ?_
  have hN : ∀ e w, (m46_1 R (e 0) (e 1) w) → (thenE (W46 k46_1 Q) Q) .normal e w := fun e w h => then_N (s46_1 (R := R) (Q := Q) hR e w h)
  exact rgA 0 (fun e w => m46_1 R (e 0) (e 1) w) h hN
abbrev m46 (R : VP) (s0 cutset1 : Value) (w : World) : Prop := m46_0 R s0 cutset1 w
theorem s46 (s0 cutset1 : Value) {R : VP} {w : World} (h : m46 R s0 cutset1 w) :
    Calls Tryd.prog 46 #[s0, cutset1] w fun e w' => ∃ v, e = .returned v ∧ R v w' :=
  calls_of_cwp (st := (fun i => 0)) (c := k46_0) (by kernel_rfl) Tryd.func46 (by kernel_rfl) (Nat.le_of_ble_eq_true (by kernel_rfl)) (by kernel_rfl)
    (s46_0 (R := R) (Q := endE Tryd.prog Tryd.f46 R) (fun e w h => kcast (by kernel_rfl) h) (argsE #[s0, cutset1]) w (kcast (by kernel_rfl) h))
/-! ### strings.trimLeftASCII -/
def m53_3 (R : VP) (t4 : Value) (w : World) : Prop :=
  R t4 w
def m53_2 (R : VP) (s0 : Value) (w : World) : Prop :=
  m53_3 R s0 w
def m53_6 (R : VP) (K1 : VP) (s0 as1 : Value) (w : World) : Prop :=
  valP Tryd.prog (Instr.sliceAt 9 s0 (some (Value.int IntKind.i64 1)) none none) w fun t14 w =>
  K1 t14 w
def m53_7 (R : VP) (K1 : VP) (s0 as1 t12 : Value) (w : World) : Prop :=
  condP t12
  (m53_2 R s0 w)
  (m53_6 R K1 s0 as1 w)
def m53_5 (R : VP) (K1 : VP) (s0 as1 : Value) (w : World) : Prop :=
  valP Tryd.prog (Instr.index 9 s0 (Value.int IntKind.i64 0)) w fun t10 w =>
  callP Tryd.prog (fnV 68) #[as1, t10] w fun t11 w =>
  valP Tryd.prog (Op.unary UnOp.not t11) w fun t12 w =>
  m53_7 R K1 s0 as1 t12 w
def m53_8 (R : VP) (K1 : VP) (s0 as1 t7 : Value) (w : World) : Prop :=
  condP t7
  (m53_5 R K1 s0 as1 w)
  (m53_2 R s0 w)
def m53_4 (R : VP) (K1 : VP) (s0 as1 : Value) (w : World) : Prop :=
  builtinP Tryd.prog Builtin.len #[9] 3 #[false] #[s0] w fun t6 w =>
  valP Tryd.prog (binS BinOp.gtr 3 (Operand.tmp 6) (Operand.const (Value.int IntKind.i64 0)) t6 (Value.int IntKind.i64 0)) w fun t7 w =>
  m53_8 R K1 s0 as1 t7 w
def m53_1 (R : VP) (s0 as1 : Value) (w : World) : Prop :=
  loopP (fun (K1 : VP) (s : Value) w => m53_4 R K1 s as1 w) s0 w
def m53_0 (R : VP) (s0 as1 : Value) (w : World) : Prop :=
  m53_1 R s0 as1 w
abbrev W53 := cwp Tryd.prog (fun i => 0)
noncomputable def k53_0 : Code := (bodyOf Tryd.f53)
noncomputable def k53_1 : Code := (c2 k53_0)
noncomputable def k53_2 : Code := (c2 k53_1)
noncomputable def k53_3 : Code := (c2 k53_2)
noncomputable def k53_4 : Code := (c1 (c1 (c1 k53_1)))
noncomputable def k53_5 : Code := (c2 k53_4)
noncomputable def k53_6 : Code := (c2 (c1 k53_5))
noncomputable def k53_7 : Code := (c2 (c1 (c1 k53_5)))
noncomputable def k53_8 : Code := (c2 (c1 k53_4))
theorem s53_3 {R : VP} {Q : EQ} (hR : ∀ e w, (R (e 4) w) → Q .ret e w) (e : Env) (w : World) (h : m53_3 R (e 4) w) : W53 k53_3 Q e w := by
  unfold m53_3 at h
  exact reA (hR _ _ h)
theorem s53_2 {R : VP} {Q : EQ} (hR : ∀ e w, (R (e 4) w) → Q .ret e w) (e : Env) (w : World) (h : m53_2 R (e 0) w) : W53 k53_2 Q e w := by
  unfold m53_2 at h
  refine seA ?_
  have hN : ∀ e w, (m53_3 R (e 4) w) → (thenE (W53 k53_3 Q) Q) .normal e w := fun e w h => then_N (s53_3 (R := R) (Q := Q) hR e w h)
  exact rgA 4 (fun e w => m53_3 R (e 4) w) h hN
theorem s53_6 {R : VP} {K1 : VP} {Q : EQ} (hN : ∀ e w, (K1 (e 0) w) → Q .normal e w) (e : Env) (w : World) (h : m53_6 R K1 (e 0) (e 1) w) : W53 k53_6 Q e w := by
  unfold m53_6 at h
  exact rgA 3 (fun e w => K1 (e 0) w) h hN
theorem s53_7 {R : VP} {K1 : VP} {Q : EQ} (hN : ∀ e w, (m53_6 R K1 (e 0) (e 1) w) → Q .normal e w) (hX0 : ∀ e w, (m53_2 R (e 0) w) → Q (.exit 0) e w) (e : Env) (w : World) (h : m53_7 R K1 (e 0) (e 1) (e 12) w) : W53 k53_7 Q e w := by
  unfold m53_7 at h
  refine coA (Operand.tmp 12) h (fun h1 => ?_) (fun h1 => ?_)
  · exact exA 0 (hX0 _ _ h1)
  · exact skA (hN _ _ h1)
theorem s53_5 {R : VP} {K1 : VP} {Q : EQ} (hN : ∀ e w, (K1 (e 0) w) → Q .normal e w) (hX0 : ∀ e w, (m53_2 R (e 0) w) → Q (.exit 0) e w) (e : Env) (w : World) (h : m53_5 R K1 (e 0) (e 1) w) : W53 k53_5 Q e w := by
  unfold m53_5 at h
  refine block_ok 1 (by kernel_rfl) ?_
  have hX0 : ∀ e w, (m53_2 R (e 0) w) → (inBlockE 1 Q) (.exit 0) e w := fun e w h => inBlock_other (Q := Q) 1 0 (by kernel_rfl) (hX0 e w h)
  have hN : ∀ e w, (K1 (e 0) w) → (inBlockE 1 Q) .normal e w := fun e w h => block_N (hN e w h)
  refine seA ?_
  have hN : ∀ e w, (m53_6 R K1 (e 0) (e 1) w) → (thenE (W53 k53_6 (inBlockE 1 Q)) (inBlockE 1 Q)) .normal e w := fun e w h => then_N (s53_6 (R := R) (Q := (inBlockE 1 Q)) (K1 := K1) hN e w h)
  have hX0 : ∀ e w, (m53_2 R (e 0) w) → (thenE (W53 k53_6 (inBlockE 1 Q)) (inBlockE 1 Q)) (.exit 0) e w := fun e w h => then_X (hX0 e w h)
  refine seA ?_
  have hN : ∀ e w, (m53_7 R K1 (e 0) (e 1) (e 12) w) → (thenE (W53 k53_7 (thenE (W53 k53_6 (inBlockE 1 Q)) (inBlockE 1 Q))) (thenE (W53 k53_6 (inBlockE 1 Q)) (inBlockE 1 Q))) .normal e w := fun e w h => then_N (s53_7 (R := R) (Q := (thenE (W53 k53_6 (inBlockE 1 Q)) (inBlockE 1 Q))) (K1 := K1) hN hX0 e w h)
  exact rgA 2 (fun e w => m53_7 R K1 (e 0) (e 1) (e 12) w) h hN
theorem s53_8 {R : VP} {K1 : VP} {Q : EQ} (hN : ∀ e w, (m53_5 R K1 (e 0) (e 1) w) → Q .normal e w) (hX0 : ∀ e w, (m53_2 R (e 0) w) → Q (.exit 0) e w) (e : Env) (w : World) (h : m53_8 R K1 (e 0) (e 1) (e 7) w) : W53 k53_8 Q e w := by
  unfold m53_8 at h
  refine coA (Operand.tmp 7) h (fun h1 => ?_) (fun h1 => ?_)
  · exact skA (hN _ _ h1)
  · exact exA 0 (hX0 _ _ h1)
theorem s53_4 {R : VP} {K1 : VP} {Q : EQ} (hN : ∀ e w, (K1 (e 0) w) → Q .normal e w) (hX0 : ∀ e w, (m53_2 R (e 0) w) → Q (.exit 0) e w) (e : Env) (w : World) (h : m53_4 R K1 (e 0) (e 1) w) : W53 k53_4 Q e w := by
  unfold m53_4 at h
  refine seA ?_
  have hN : ∀ e w, (m53_5 R K1 (e 0) (e 1) w) → (thenE (W53 k53_5 Q) Q) .normal e w := fun e w h => then_N (s53_5 (R := R) (Q := Q) (K1 := K1) hN hX0 e w h)
  have hX0 : ∀ e w, (m53_2 R (e 0) w) → (thenE (W53 k53_5 Q) Q) (.exit 0) e w := fun e w h => then_X (hX0 e w h)
  refine seA ?_
  have hN : ∀ e w, (m53_8 R K1 (e 0) (e 1) (e 7) w) → (thenE (W53 k53_8 (thenE (W53 k53_5 Q) Q)) (thenE (W53 k53_5 Q) Q)) .normal e w := fun e w h => then_N (s53_8 (R := R) (Q := (thenE (W53 k53_5 Q) Q)) (K1 := K1) hN hX0 e w h)
  exact rgA 1 (fun e w => m53_8 R K1 (e 0) (e 1) (e 7) w) h hN
theorem s53_1 {R : VP} {Q : EQ} (hR : ∀ e w, (R (e 4) w) → Q .ret e w) (e : Env) (w : World) (h : m53_1 R (e 0) (e 1) w) : W53 k53_1 Q e w := by
  unfold m53_1 at h
  refine seA ?_
  have hN : ∀ e w, (m53_2 R (e 0) w) → (thenE (W53 k53_2 Q) Q) .normal e w := fun e w h => then_N (s53_2 (R := R) (Q := Q) hR e w h)
  refine block_ok 0 (by kernel_rfl) ?_
  have hX0 : ∀ e w, (m53_2 R (e 0) w) → (inBlockE 0 (thenE (W53 k53_2 Q) Q)) (.exit 0) e w := fun e w h => inBlock_same (Q := (thenE (W53 k53_2 Q) Q)) 0 (hN e w h)
  refine loop_ok' (fun (e : Env) => e 0) [1] (by kernel_rfl) (by kernel_rfl) h (fun K e' w' hk h' => ?_)
  have r1 : e' 1 = e 1 := hk 1 (by decide)
  have hX0 : ∀ e w, (m53_2 R (e 0) w) → (thenE (fun (e : Env) w => K (e 0) w) (inBlockE 0 (thenE (W53 k53_2 Q) Q))) (.exit 0) e w := fun e w h => then_X (hX0 e w h)
  exact s53_4 (R := R) (Q := (thenE (fun (e : Env) w => K (e 0) w) (inBlockE 0 (thenE (W53 k53_2 Q) Q)))) (K1 := K) (fun _ _ h => then_N h) hX0 e' w' (by rw [r1]; exact h')
theorem s53_0 {R : VP} {Q : EQ} (hR : ∀ e w, (R (e 4) w) → Q .ret e w) (e : Env) (w : World) (h : m53_0 R (e 0) (e 1) w) : W53 k53_0 Q e w := by
  unfold m53_0 at h
  refine seA ?_
  have hN : ∀ e w, (m53_1 R (e 0) (e 1) w) → (thenE (W53 k53_1 Q) Q) .normal e w := fun e w h => then_N (s53_1 (R := R) (Q := Q) hR e w h)
  exact rgA 0 (fun e w => m53_1 R (e 0) (e 1) w) h hN
abbrev m53 (R : VP) (s0 as1 : Value) (w : World) : Prop := m53_0 R s0 as1 w
theorem s53 (s0 as1 : Value) {R : VP} {w : World} (h : m53 R s0 as1 w) :
    Calls Tryd.prog 53 #[s0, as1] w fun e w' => ∃ v, e = .returned v ∧ R v w' :=
  calls_of_cwp (st := (fun i => 0)) (c := k53_0) (by kernel_rfl) Tryd.func53 (by kernel_rfl) (Nat.le_of_ble_eq_true (by kernel_rfl)) (by kernel_rfl)
    (s53_0 (R := R) (Q := endE Tryd.prog Tryd.f53 R) (fun e w h => kcast (by kernel_rfl) h) (argsE #[s0, as1]) w (kcast (by kernel_rfl) h))
/-! ### strings.trimRightASCII -/
def m54_3 (R : VP) (t4 : Value) (w : World) : Prop :=
  R t4 w
def m54_2 (R : VP) (s0 : Value) (w : World) : Prop :=
  m54_3 R s0 w
def m54_6 (R : VP) (K1 : VP) (s0 as1 : Value) (w : World) : Prop :=
  builtinP Tryd.prog Builtin.len #[9] 3 #[false] #[s0] w fun t18 w =>
  valP Tryd.prog (binS BinOp.sub 3 (Operand.tmp 18) (Operand.const (Value.int IntKind.i64 1)) t18 (Value.int IntKind.i64 1)) w fun t19 w =>
  valP Tryd.prog (Instr.sliceAt 9 s0 none (some t19) none) w fun t20 w =>
  K1 t20 w
def m54_7 (R : VP) (K1 : VP) (s0 as1 t15 : Value) (w : World) : Prop :=
  condP t15
  (m54_2 R s0 w)
  (m54_6 R K1 s0 as1 w)
def m54_5 (R : VP) (K1 : VP) (s0 as1 : Value) (w : World) : Prop :=
  builtinP Tryd.prog Builtin.len #[9] 3 #[false] #[s0] w fun t11 w =>
  valP Tryd.prog (binS BinOp.sub 3 (Operand.tmp 11) (Operand.const (Value.int IntKind.i64 1)) t11 (Value.int IntKind.i64 1)) w fun t12 w =>
  valP Tryd.prog (Instr.index 9 s0 t12) w fun t13 w =>
  callP Tryd.prog (fnV 68) #[as1, t13] w fun t14 w =>
  valP Tryd.prog (Op.unary UnOp.not t14) w fun t15 w =>
  m54_7 R K1 s0 as1 t15 w
def m54_8 (R : VP) (K1 : VP) (s0 as1 t7 : Value) (w : World) : Prop :=
  condP t7
  (m54_5 R K1 s0 as1 w)
  (m54_2 R s0 w)
def m54_4 (R : VP) (K1 : VP) (s0 as1 : Value) (w : World) : Prop :=
  builtinP Tryd.prog Builtin.len #[9] 3 #[false] #[s0] w fun t6 w =>
  valP Tryd.prog (binS BinOp.gtr 3 (Operand.tmp 6) (Operand.const (Value.int IntKind.i64 0)) t6 (Value.int IntKind.i64 0)) w fun t7 w =>
  m54_8 R K1 s0 as1 t7 w
def m54_1 (R : VP) (s0 as1 : Value) (w : World) : Prop :=
  loopP (fun (K1 : VP) (s : Value) w => m54_4 R K1 s as1 w) s0 w
def m54_0 (R : VP) (s0 as1 : Value) (w : World) : Prop :=
  m54_1 R s0 as1 w
abbrev W54 := cwp Tryd.prog (fun i => 0)
noncomputable def k54_0 : Code := (bodyOf Tryd.f54)
noncomputable def k54_1 : Code := (c2 k54_0)
noncomputable def k54_2 : Code := (c2 k54_1)
noncomputable def k54_3 : Code := (c2 k54_2)
noncomputable def k54_4 : Code := (c1 (c1 (c1 k54_1)))
noncomputable def k54_5 : Code := (c2 k54_4)
noncomputable def k54_6 : Code := (c2 (c1 k54_5))
noncomputable def k54_7 : Code := (c2 (c1 (c1 k54_5)))
noncomputable def k54_8 : Code := (c2 (c1 k54_4))
theorem s54_3 {R : VP} {Q : EQ} (hR : ∀ e w, (R (e 4) w) → Q .ret e w) (e : Env) (w : World) (h : m54_3 R (e 4) w) : W54 k54_3 Q e w := by
  unfold m54_3 at h
  exact reA (hR _ _ h)
theorem s54_2 {R : VP} {Q : EQ} (hR : ∀ e w, (R (e 4) w) → Q .ret e w) (e : Env) (w : World) (h : m54_2 R (e 0) w) : W54 k54_2 Q e w := by
  unfold m54_2 at h
  refine seA ?_
  have hN : ∀ e w, (m54_3 R (e 4) w) → (thenE (W54 k54_3 Q) Q) .normal e w := fun e w h => then_N (s54_3 (R := R) (Q := Q) hR e w h)
  exact rgA 4 (fun e w => m54_3 R (e 4) w) h hN
theorem s54_6 {R : VP} {K1 : VP} {Q : EQ} (hN : ∀ e w, (K1 (e 0) w) → Q .normal e w) (e : Env) (w : World) (h : m54_6 R K1 (e 0) (e 1) w) : W54 k54_6 Q e w := by
  unfold m54_6 at h
  exact rgA 3 (fun e w => K1 (e 0) w) h hN
theorem s54_7 {R : VP} {K1 : VP} {Q : EQ} (hN : ∀ e w, (m54_6 R K1 (e 0) (e 1) w) → Q .normal e w) (hX0 : ∀ e w, (m54_2 R (e 0) w) → Q (.exit 0) e w) (e : Env) (w : World) (h : m54_7 R K1 (e 0) (e 1) (e 15) w) : W54 k54_7 Q e w := by
  unfold m54_7 at h
  refine coA (Operand.tmp 15) h (fun h1 => ?_) (fun h1 => ?_)
  · exact exA 0 (hX0 _ _ h1)
  · exact skA (hN _ _ h1)
theorem s54_5 {R : VP} {K1 : VP} {Q : EQ} (hN : ∀ e w, (K1 (e 0) w) → Q .normal e w) (hX0 : ∀ e w, (m54_2 R (e 0) w) → Q (.exit 0) e w) (e : Env) (w : World) (h : m54_5 R K1 (e 0) (e 1) w) : W54 k54_5 Q e w := by
  unfold m54_5 at h
  refine block_ok 1 (by kernel_rfl) ?_
  have hX0 : ∀ e w, (m54_2 R (e 0) w) → (inBlockE 1 Q) (.exit 0) e w := fun e w h => inBlock_other (Q := Q) 1 0 (by kernel_rfl) (hX0 e w h)
  have hN : ∀ e w, (K1 (e 0) w) → (inBlockE 1 Q) .normal e w := fun e w h => block_N (hN e w h)
  refine seA ?_
  have hN : ∀ e w, (m54_6 R K1 (e 0) (e 1) w) → (thenE (W54 k54_6 (inBlockE 1 Q)) (inBlockE 1 Q)) .normal e w := fun e w h => then_N (s54_6 (R := R) (Q := (inBlockE 1 Q)) (K1 := K1) hN e w h)
  have hX0 : ∀ e w, (m54_2 R (e 0) w) → (thenE (W54 k54_6 (inBlockE 1 Q)) (inBlockE 1 Q)) (.exit 0) e w := fun e w h => then_X (hX0 e w h)
  refine seA ?_
  have hN : ∀ e w, (m54_7 R K1 (e 0) (e 1) (e 15) w) → (thenE (W54 k54_7 (thenE (W54 k54_6 (inBlockE 1 Q)) (inBlockE 1 Q))) (thenE (W54 k54_6 (inBlockE 1 Q)) (inBlockE 1 Q))) .normal e w := fun e w h => then_N (s54_7 (R := R) (Q := (thenE (W54 k54_6 (inBlockE 1 Q)) (inBlockE 1 Q))) (K1 := K1) hN hX0 e w h)
  exact rgA 2 (fun e w => m54_7 R K1 (e 0) (e 1) (e 15) w) h hN
theorem s54_8 {R : VP} {K1 : VP} {Q : EQ} (hN : ∀ e w, (m54_5 R K1 (e 0) (e 1) w) → Q .normal e w) (hX0 : ∀ e w, (m54_2 R (e 0) w) → Q (.exit 0) e w) (e : Env) (w : World) (h : m54_8 R K1 (e 0) (e 1) (e 7) w) : W54 k54_8 Q e w := by
  unfold m54_8 at h
  refine coA (Operand.tmp 7) h (fun h1 => ?_) (fun h1 => ?_)
  · exact skA (hN _ _ h1)
  · exact exA 0 (hX0 _ _ h1)
theorem s54_4 {R : VP} {K1 : VP} {Q : EQ} (hN : ∀ e w, (K1 (e 0) w) → Q .normal e w) (hX0 : ∀ e w, (m54_2 R (e 0) w) → Q (.exit 0) e w) (e : Env) (w : World) (h : m54_4 R K1 (e 0) (e 1) w) : W54 k54_4 Q e w := by
  unfold m54_4 at h
  refine seA ?_
  have hN : ∀ e w, (m54_5 R K1 (e 0) (e 1) w) → (thenE (W54 k54_5 Q) Q) .normal e w := fun e w h => then_N (s54_5 (R := R) (Q := Q) (K1 := K1) hN hX0 e w h)
  have hX0 : ∀ e w, (m54_2 R (e 0) w) → (thenE (W54 k54_5 Q) Q) (.exit 0) e w := fun e w h => then_X (hX0 e w h)
  refine seA ?_
  have hN : ∀ e w, (m54_8 R K1 (e 0) (e 1) (e 7) w) → (thenE (W54 k54_8 (thenE (W54 k54_5 Q) Q)) (thenE (W54 k54_5 Q) Q)) .normal e w := fun e w h => then_N (s54_8 (R := R) (Q := (thenE (W54 k54_5 Q) Q)) (K1 := K1) hN hX0 e w h)
  exact rgA 1 (fun e w => m54_8 R K1 (e 0) (e 1) (e 7) w) h hN
theorem s54_1 {R : VP} {Q : EQ} (hR : ∀ e w, (R (e 4) w) → Q .ret e w) (e : Env) (w : World) (h : m54_1 R (e 0) (e 1) w) : W54 k54_1 Q e w := by
  unfold m54_1 at h
  refine seA ?_
  have hN : ∀ e w, (m54_2 R (e 0) w) → (thenE (W54 k54_2 Q) Q) .normal e w := fun e w h => then_N (s54_2 (R := R) (Q := Q) hR e w h)
  refine block_ok 0 (by kernel_rfl) ?_
  have hX0 : ∀ e w, (m54_2 R (e 0) w) → (inBlockE 0 (thenE (W54 k54_2 Q) Q)) (.exit 0) e w := fun e w h => inBlock_same (Q := (thenE (W54 k54_2 Q) Q)) 0 (hN e w h)
  refine loop_ok' (fun (e : Env) => e 0) [1] (by kernel_rfl) (by kernel_rfl) h (fun K e' w' hk h' => ?_)
  have r1 : e' 1 = e 1 := hk 1 (by decide)
  have hX0 : ∀ e w, (m54_2 R (e 0) w) → (thenE (fun (e : Env) w => K (e 0) w) (inBlockE 0 (thenE (W54 k54_2 Q) Q))) (.exit 0) e w := fun e w h => then_X (hX0 e w h)
  exact s54_4 (R := R) (Q := (thenE (fun (e : Env) w => K (e 0) w) (inBlockE 0 (thenE (W54 k54_2 Q) Q)))) (K1 := K) (fun _ _ h => then_N h) hX0 e' w' (by rw [r1]; exact h')
theorem s54_0 {R : VP} {Q : EQ} (hR : ∀ e w, (R (e 4) w) → Q .ret e w) (e : Env) (w : World) (h : m54_0 R (e 0) (e 1) w) : W54 k54_0 Q e w := by
  unfold m54_0 at h
  refine seA ?_
  have hN : ∀ e w, (m54_1 R (e 0) (e 1) w) → (thenE (W54 k54_1 Q) Q) .normal e w := fun e w h => then_N (s54_1 (R := R) (Q := Q) hR e w h)
  exact rgA 0 (fun e w => m54_1 R (e 0) (e 1) w) h hN
abbrev m54 (R : VP) (s0 as1 : Value) (w : World) : Prop := m54_0 R s0 as1 w
theorem s54 (s0 as1 : Value) {R : VP} {w : World} (h : m54 R s0 as1 w) :
    Calls Tryd.prog 54 #[s0, as1] w fun e w' => ∃ v, e = .returned v ∧ R v w' :=
  calls_of_cwp (st := (fun i => 0)) (c := k54_0) (by kernel_rfl) Tryd.func54 (by kernel_rfl) (Nat.le_of_ble_eq_true (by kernel_rfl)) (by kernel_rfl)
    (s54_0 (R := R) (Q := endE Tryd.prog Tryd.f54 R) (fun e w h => kcast (by kernel_rfl) h) (argsE #[s0, as1]) w (kcast (by kernel_rfl) h))
/-! ### headgate/disk.named -/
def m42_2 (R : VP) (t2 : Value) (w : World) : Prop :=
  R t2 w
def m42_1 (R : VP) (name0 : Value) (w : World) : Prop :=
  valP Tryd.prog (binS BinOp.neq 9 (Operand.tmp 3) (Operand.const (Value.string ⟨#[]⟩)) name0 (Value.string ⟨#[]⟩)) w fun t4 w =>
  condP t4
  (builtinP Tryd.prog Builtin.len #[9] 3 #[false] #[name0] w fun t7 w =>
  valP Tryd.prog (binS BinOp.leq 3 (Operand.tmp 7) (Operand.const (Value.int IntKind.i64 24)) t7 (Value.int IntKind.i64 24)) w fun t8 w =>
  pickP t4 t8 (Value.bool false) fun t9 =>
  condP t9
  (callP Tryd.prog (fnV 46) #[name0, (Value.string ⟨#[97, 98, 99, 100, 101, 102, 103, 104, 105, 106, 107, 108, 109, 110, 111, 112, 113, 114, 115, 116, 117, 118, 119, 120, 121, 122, 48, 49, 50, 51, 52, 53, 54, 55, 56, 57, 46, 45]⟩)] w fun t12 w =>
  valP Tryd.prog (binS BinOp.eql 9 (Operand.tmp 12) (Operand.const (Value.string ⟨#[]⟩)) t12 (Value.string ⟨#[]⟩)) w fun t13 w =>
  pickP t9 t13 (Value.bool false) fun t14 =>
  m42_2 R t14 w)
  (pickP t9 undef (Value.bool false) fun t14 =>
  m42_2 R t14 w))
  (pickP t4 undef (Value.bool false) fun t9 =>
  condP t9
  (callP Tryd.prog (fnV 46) #[name0, (Value.string ⟨#[97, 98, 99, 100, 101, 102, 103, 104, 105, 106, 107, 108, 109, 110, 111, 112, 113, 114, 115, 116, 117, 118, 119, 120, 121, 122, 48, 49, 50, 51, 52, 53, 54, 55, 56, 57, 46, 45]⟩)] w fun t12 w =>
  valP Tryd.prog (binS BinOp.eql 9 (Operand.tmp 12) (Operand.const (Value.string ⟨#[]⟩)) t12 (Value.string ⟨#[]⟩)) w fun t13 w =>
  pickP t9 t13 (Value.bool false) fun t14 =>
  m42_2 R t14 w)
  (pickP t9 undef (Value.bool false) fun t14 =>
  m42_2 R t14 w))
def m42_0 (R : VP) (name0 : Value) (w : World) : Prop :=
  m42_1 R name0 w
abbrev W42 := cwp Tryd.prog (fun i => 0)
noncomputable def k42_0 : Code := (bodyOf Tryd.f42)
noncomputable def k42_1 : Code := (c2 k42_0)
noncomputable def k42_2 : Code := (c2 k42_1)
theorem s42_2 {R : VP} {Q : EQ} (hR : ∀ e w, (R (e 2) w) → Q .ret e w) (e : Env) (w : World) (h : m42_2 R (e 2) w) : W42 k42_2 Q e w := by
  unfold m42_2 at h
  exact reA (hR _ _ h)
theorem s42_1 {R : VP} {Q : EQ} (hR : ∀ e w, (R (e 2) w) → Q .ret e w) (e : Env) (w : World) (h : m42_1 R (e 0) w) : W42 k42_1 Q e w := by
  unfold m42_1 at h
  refine seA ?_
  have hN : ∀ e w, (m42_2 R (e 2) w) → (thenE (W42 k42_2 Q) Q) .normal e w := fun e w h => then_N (s42_2 (R := R) (Q := Q) hR e w h)
  exact rgA 1 (fun e w => m42_2 R (e 2) w) h hN
theorem s42_0 {R : VP} {Q : EQ} (hR : ∀ e w, (R (e 2) w) → Q .ret e w) (e : Env) (w : World) (h : m42_0 R (e 0) w) : W42 k42_0 Q e w := by
  unfold m42_0 at h
  refine seA ?_
  have hN : ∀ e w, (m42_1 R (e 0) w) → (thenE (W42 k42_1 Q) Q) .normal e w := fun e w h => then_N (s42_1 (R := R) (Q := Q) hR e w h)
  exact rgA 0 (fun e w => m42_1 R (e 0) w) h hN
abbrev m42 (R : VP) (name0 : Value) (w : World) : Prop := m42_0 R name0 w
theorem s42 (name0 : Value) {R : VP} {w : World} (h : m42 R name0 w) :
    Calls Tryd.prog 42 #[name0] w fun e w' => ∃ v, e = .returned v ∧ R v w' :=
  calls_of_cwp (st := (fun i => 0)) (c := k42_0) (by kernel_rfl) Tryd.func42 (by kernel_rfl) (Nat.le_of_ble_eq_true (by kernel_rfl)) (by kernel_rfl)
    (s42_0 (R := R) (Q := endE Tryd.prog Tryd.f42 R) (fun e w h => kcast (by kernel_rfl) h) (argsE #[name0]) w (kcast (by kernel_rfl) h))
end Go.Proofs.YtcldjjmfpmkldaaDoor.M
