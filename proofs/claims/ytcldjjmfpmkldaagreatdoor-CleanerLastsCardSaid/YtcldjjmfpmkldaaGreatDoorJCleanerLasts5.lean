/- Parts of a proof, in one text: what it needs of Mdisk0, D2, D3, Mmore0, D4, D5, D6, D7. -/
import Derived.Test.YtcldjjmfpmkldaaGreatDoorJCleanerLasts4
import Derived.Test.YtcldjjmfpmkldaaGreatDoorProg
namespace Go.Proofs.YtcldjjmfpmkldaaGreatDoor.M
open Go.Proofs.YtcldjjmfpmkldaaGreatDoor.F
set_option linter.unusedVariables false
set_option maxRecDepth 100000
def m6_5 (R : VP) (t2 t3 : Value) (w : World) : Prop :=
  R (Value.tuple #[t2, t3]) w
def m6_3 (R : VP) (t2 t3 : Value) (w : World) : Prop :=
  R (Value.tuple #[t2, t3]) w
def m6_2 (R : VP) (n0 : Value) (w : World) : Prop :=
  valP Tryz.prog (Instr.makeMap 59 none) w fun t10 w =>
  valP Tryz.prog (Instr.build 61 #[(0, t10), (1, n0), (2, (Value.int IntKind.i64 (-1)))]) w fun t12 w =>
  valP Tryz.prog (Instr.box 61 t12) w fun t13 w =>
  m6_3 R t13 (Value.int IntKind.i64 0) w
def m6_4 (R : VP) (n0 t9 : Value) (w : World) : Prop :=
  condP t9
  (m6_5 R (Value.pointer none) (Value.int IntKind.i64 1) w)
  (m6_2 R n0 w)
def m6_1 (R : VP) (n0 : Value) (w : World) : Prop :=
  valP Tryz.prog (binS BinOp.lss 3 (Operand.tmp 4) (Operand.const (Value.int IntKind.i64 1)) n0 (Value.int IntKind.i64 1)) w fun t5 w =>
  condP t5
  (pickP t5 (Value.bool true) undef fun t9 =>
  m6_4 R n0 t9 w)
  (valP Tryz.prog (binS BinOp.gtr 3 (Operand.tmp 7) (Operand.const (Value.int IntKind.i64 16384)) n0 (Value.int IntKind.i64 16384)) w fun t8 w =>
  pickP t5 (Value.bool true) t8 fun t9 =>
  m6_4 R n0 t9 w)
def m6_0 (R : VP) (n0 : Value) (w : World) : Prop :=
  m6_1 R n0 w
abbrev W6 := cwp Tryz.prog (fun i => 0)
noncomputable def k6_0 : Code := (bodyOf Tryz.f6)
noncomputable def k6_1 : Code := (c2 k6_0)
noncomputable def k6_2 : Code := (c2 k6_1)
noncomputable def k6_3 : Code := (c2 k6_2)
noncomputable def k6_4 : Code := (c2 (c1 k6_1))
noncomputable def k6_5 : Code := (c2 (c1 k6_4))
theorem s6_5 {R : VP} {Q : EQ} (hR : ∀ e w, (R (Value.tuple #[(e 2), (e 3)]) w) → Q .ret e w) (e : Env) (w : World) (h : m6_5 R (e 2) (e 3) w) : W6 k6_5 Q e w := by
  unfold m6_5 at h
  exact reA (hR _ _ h)
theorem s6_3 {R : VP} {Q : EQ} (hR : ∀ e w, (R (Value.tuple #[(e 2), (e 3)]) w) → Q .ret e w) (e : Env) (w : World) (h : m6_3 R (e 2) (e 3) w) : W6 k6_3 Q e w := by
  unfold m6_3 at h
  exact reA (hR _ _ h)
theorem s6_2 {R : VP} {Q : EQ} (hR : ∀ e w, (R (Value.tuple #[(e 2), (e 3)]) w) → Q .ret e w) (e : Env) (w : World) (h : m6_2 R (e 0) w) : W6 k6_2 Q e w := by
  unfold m6_2 at h
  refine seA ?_
  have hN : ∀ e w, (m6_3 R (e 2) (e 3) w) → (thenE (W6 k6_3 Q) Q) .normal e w := fun e w h => then_N (s6_3 (R := R) (Q := Q) hR e w h)
  exact rgA 3 (fun e w => m6_3 R (e 2) (e 3) w) h hN
theorem s6_4 {R : VP} {Q : EQ} (hN : ∀ e w, (m6_2 R (e 0) w) → Q .normal e w) (hR : ∀ e w, (R (Value.tuple #[(e 2), (e 3)]) w) → Q .ret e w) (e : Env) (w : World) (h : m6_4 R (e 0) (e 9) w) : W6 k6_4 Q e w := by
  unfold m6_4 at h
  refine coA (Operand.tmp 9) h (fun h1 => ?_) (fun h1 => ?_)
  · refine seA ?_
    have hN : ∀ e w, (m6_5 R (e 2) (e 3) w) → (thenE (W6 k6_5 Q) Q) .normal e w := fun e w h => then_N (s6_5 (R := R) (Q := Q) hR e w h)
    exact rgA 2 (fun e w => m6_5 R (e 2) (e 3) w) h1 hN
  · exact skA (hN _ _ h1)
theorem s6_1 {R : VP} {Q : EQ} (hR : ∀ e w, (R (Value.tuple #[(e 2), (e 3)]) w) → Q .ret e w) (e : Env) (w : World) (h : m6_1 R (e 0) w) : W6 k6_1 Q e w := by
  unfold m6_1 at h
  refine seA ?_
  have hN : ∀ e w, (m6_2 R (e 0) w) → (thenE (W6 k6_2 Q) Q) .normal e w := fun e w h => then_N (s6_2 (R := R) (Q := Q) hR e w h)
  have hR : ∀ e w, (R (Value.tuple #[(e 2), (e 3)]) w) → (thenE (W6 k6_2 Q) Q) .ret e w := fun e w h => then_R (hR e w h)
  refine seA ?_
  have hN : ∀ e w, (m6_4 R (e 0) (e 9) w) → (thenE (W6 k6_4 (thenE (W6 k6_2 Q) Q)) (thenE (W6 k6_2 Q) Q)) .normal e w := fun e w h => then_N (s6_4 (R := R) (Q := (thenE (W6 k6_2 Q) Q)) hN hR e w h)
  exact rgA 1 (fun e w => m6_4 R (e 0) (e 9) w) h hN
theorem s6_0 {R : VP} {Q : EQ} (hR : ∀ e w, (R (Value.tuple #[(e 2), (e 3)]) w) → Q .ret e w) (e : Env) (w : World) (h : m6_0 R (e 0) w) : W6 k6_0 Q e w := by
  unfold m6_0 at h
  refine seA ?_
  have hN : ∀ e w, (m6_1 R (e 0) w) → (thenE (W6 k6_1 Q) Q) .normal e w := fun e w h => then_N (s6_1 (R := R) (Q := Q) hR e w h)
  exact rgA 0 (fun e w => m6_1 R (e 0) w) h hN
abbrev m6 (R : VP) (n0 : Value) (w : World) : Prop := m6_0 R n0 w
theorem s6 (n0 : Value) {R : VP} {w : World} (h : m6 R n0 w) :
    Calls Tryz.prog 6 #[n0] w fun e w' => ∃ v, e = .returned v ∧ R v w' :=
  calls_of_cwp (st := (fun i => 0)) (c := k6_0) (by kernel_rfl) Tryz.func6 (by kernel_rfl) (Nat.le_of_ble_eq_true (by kernel_rfl)) (by kernel_rfl)
    (s6_0 (R := R) (Q := endE Tryz.prog Tryz.f6 R) (fun e w h => kcast (by kernel_rfl) h) (argsE #[n0]) w (kcast (by kernel_rfl) h))
def m8_1 (R : VP) (d0 n1 t5 : Value) (w : World) : Prop :=
  condP t5
  (builtinP Tryz.prog Builtin.max #[3, 3] 3 #[false, true] #[n1, (Value.int IntKind.i64 (-1))] w fun t8 w =>
  nilCheckP d0 fun t9 =>
  valP Tryz.prog (Instr.fieldAt 61 t9 2) w fun t10 w =>
  unitP Tryz.prog (Instr.storeAt 3 t10 t8) w fun _ w =>
  R (Value.tuple #[]) w)
  (R (Value.tuple #[]) w)
def m8_0 (R : VP) (d0 n1 : Value) (w : World) : Prop :=
  valP Tryz.prog (binS BinOp.neq 25 (Operand.tmp 4) (Operand.const (Value.pointer none)) d0 (Value.pointer none)) w fun t5 w =>
  m8_1 R d0 n1 t5 w
abbrev W8 := cwp Tryz.prog (fun i => 0)
noncomputable def k8_0 : Code := (bodyOf Tryz.f8)
noncomputable def k8_1 : Code := (c2 k8_0)
theorem s8_1 {R : VP} {Q : EQ} (hN : ∀ e w, (R (Value.tuple #[]) w) → Q .normal e w) (e : Env) (w : World) (h : m8_1 R (e 0) (e 1) (e 5) w) : W8 k8_1 Q e w := by
  unfold m8_1 at h
  refine coA (Operand.tmp 5) h (fun h1 => ?_) (fun h1 => ?_)
  · exact rgA 1 (fun e w => R (Value.tuple #[]) w) h1 hN
  · exact skA (hN _ _ h1)
theorem s8_0 {R : VP} {Q : EQ} (hN : ∀ e w, (R (Value.tuple #[]) w) → Q .normal e w) (e : Env) (w : World) (h : m8_0 R (e 0) (e 1) w) : W8 k8_0 Q e w := by
  unfold m8_0 at h
  refine seA ?_
  have hN : ∀ e w, (m8_1 R (e 0) (e 1) (e 5) w) → (thenE (W8 k8_1 Q) Q) .normal e w := fun e w h => then_N (s8_1 (R := R) (Q := Q) hN e w h)
  exact rgA 0 (fun e w => m8_1 R (e 0) (e 1) (e 5) w) h hN
abbrev m8 (R : VP) (d0 n1 : Value) (w : World) : Prop := m8_0 R d0 n1 w
theorem s8 (d0 n1 : Value) {R : VP} {w : World} (h : m8 R d0 n1 w) :
    Calls Tryz.prog 8 #[d0, n1] w fun e w' => ∃ v, e = .returned v ∧ R v w' :=
  calls_of_cwp (st := (fun i => 0)) (c := k8_0) (by kernel_rfl) Tryz.func8 (by kernel_rfl) (Nat.le_of_ble_eq_true (by kernel_rfl)) (by kernel_rfl)
    (s8_0 (R := R) (Q := endE Tryz.prog Tryz.f8 R) (fun e w h => kcast (by kernel_rfl) h) (argsE #[d0, n1]) w (kcast (by kernel_rfl) h))
def m44_14 (R : VP) (K1 : VP) (t4 : Value) (w : World) : Prop :=
  R t4 w
def m44_11 (R : VP) (K1 : VP) (d0 t7 t8 t9 : Value) (w : World) : Prop :=
  valP Tryz.prog (binS BinOp.add 3 (Operand.tmp 9) (Operand.const (Value.int IntKind.i64 1)) t9 (Value.int IntKind.i64 1)) w fun t20 w =>
  K1 t20 w
def m44_13 (R : VP) (K1 : VP) (d0 t7 t8 t9 t19 : Value) (w : World) : Prop :=
  condP t19
  (m44_14 R K1 (Value.int IntKind.i64 1) w)
  (m44_11 R K1 d0 t7 t8 t9 w)
def m44_12 (R : VP) (K1 : VP) (d0 name6 t7 t8 t9 : Value) (w : World) : Prop :=
  valP Tryz.prog (binS BinOp.eql 25 (Operand.tmp 13) (Operand.const (Value.pointer none)) d0 (Value.pointer none)) w fun t14 w =>
  condP t14
  (pickP t14 (Value.bool true) undef fun t19 =>
  m44_13 R K1 d0 t7 t8 t9 t19 w)
  (callP Tryz.prog (fnV 82) #[name6] w fun t17 w =>
  valP Tryz.prog (Op.unary UnOp.not t17) w fun t18 w =>
  pickP t14 (Value.bool true) t18 fun t19 =>
  m44_13 R K1 d0 t7 t8 t9 t19 w)
def m44_10 (R : VP) (K1 : VP) (d0 t7 t8 t9 : Value) (w : World) : Prop :=
  valP Tryz.prog (Instr.indexAt 71 t7 t9) w fun t11 w =>
  valP Tryz.prog (Instr.loadAt 9 t11) w fun t12 w =>
  m44_12 R K1 d0 t12 t7 t8 t9 w
def m44_6 (R : VP) (t4 : Value) (w : World) : Prop :=
  R t4 w
def m44_4 (R : VP) (t4 : Value) (w : World) : Prop :=
  R t4 w
def m44_3 (R : VP) (w : World) : Prop :=
  m44_4 R (Value.int IntKind.i64 0) w
def m44_5 (R : VP) (t24 : Value) (w : World) : Prop :=
  condP t24
  (m44_6 R (Value.int IntKind.i64 4) w)
  (m44_3 R w)
def m44_2 (R : VP) (d0 : Value) (w : World) : Prop :=
  nilCheckP d0 fun t22 =>
  valP Tryz.prog (Instr.fieldAt 61 t22 3) w fun t23 w =>
  valP Tryz.prog (Instr.loadAt 4 t23) w fun t24 w =>
  m44_5 R t24 w
def m44_9 (R : VP) (K1 : VP) (d0 t7 t8 t9 t10 : Value) (w : World) : Prop :=
  condP t10
  (m44_10 R K1 d0 t7 t8 t9 w)
  (m44_2 R d0 w)
def m44_8 (R : VP) (K1 : VP) (d0 t7 t8 t9 : Value) (w : World) : Prop :=
  valP Tryz.prog (binS BinOp.lss 3 (Operand.tmp 9) (Operand.tmp 8) t9 t8) w fun t10 w =>
  m44_9 R K1 d0 t7 t8 t9 t10 w
def m44_7 (R : VP) (d0 t7 t8 t9 : Value) (w : World) : Prop :=
  loopP (fun (K1 : VP) (s : Value) w => m44_8 R K1 d0 t7 t8 s w) t9 w
def m44_1 (R : VP) (d0 names1 : Value) (w : World) : Prop :=
  builtinP Tryz.prog Builtin.len #[71] 3 #[false] #[names1] w fun t8 w =>
  m44_7 R d0 names1 t8 (Value.int IntKind.i64 0) w
def m44_0 (R : VP) (d0 names1 : Value) (w : World) : Prop :=
  m44_1 R d0 names1 w
abbrev W44 := cwp Tryz.prog (fun i => 0)
noncomputable def k44_0 : Code := (bodyOf Tryz.f44)
noncomputable def k44_1 : Code := (c2 k44_0)
noncomputable def k44_2 : Code := (c2 k44_1)
noncomputable def k44_3 : Code := (c2 k44_2)
noncomputable def k44_4 : Code := (c2 k44_3)
noncomputable def k44_5 : Code := (c2 (c1 k44_2))
noncomputable def k44_6 : Code := (c2 (c1 k44_5))
noncomputable def k44_7 : Code := (c2 (c1 k44_1))
noncomputable def k44_8 : Code := (c1 (c1 k44_7))
noncomputable def k44_9 : Code := (c2 k44_8)
noncomputable def k44_10 : Code := (c2 k44_9)
noncomputable def k44_11 : Code := (c2 k44_10)
noncomputable def k44_12 : Code := (c2 (c1 (c1 k44_10)))
noncomputable def k44_13 : Code := (c2 k44_12)
noncomputable def k44_14 : Code := (c2 (c1 k44_13))
theorem s44_14 {R : VP} {K1 : VP} {Q : EQ} (hR : ∀ e w, (R (e 4) w) → Q .ret e w) (e : Env) (w : World) (h : m44_14 R K1 (e 4) w) : W44 k44_14 Q e w := by
  unfold m44_14 at h
  exact reA (hR _ _ h)
theorem s44_11 {R : VP} {K1 : VP} {Q : EQ} (hN : ∀ e w, (K1 (e 9) w) → Q .normal e w) (e : Env) (w : World) (h : m44_11 R K1 (e 0) (e 7) (e 8) (e 9) w) : W44 k44_11 Q e w := by
  unfold m44_11 at h
  exact rgA 6 (fun e w => K1 (e 9) w) h hN
theorem s44_13 {R : VP} {K1 : VP} {Q : EQ} (hN : ∀ e w, (m44_11 R K1 (e 0) (e 7) (e 8) (e 9) w) → Q .normal e w) (hR : ∀ e w, (R (e 4) w) → Q .ret e w) (e : Env) (w : World) (h : m44_13 R K1 (e 0) (e 7) (e 8) (e 9) (e 19) w) : W44 k44_13 Q e w := by
  unfold m44_13 at h
  refine coA (Operand.tmp 19) h (fun h1 => ?_) (fun h1 => ?_)
  · refine seA ?_
    have hN : ∀ e w, (m44_14 R K1 (e 4) w) → (thenE (W44 k44_14 Q) Q) .normal e w := fun e w h => then_N (s44_14 (R := R) (Q := Q) (K1 := K1) hR e w h)
    exact rgA 5 (fun e w => m44_14 R K1 (e 4) w) h1 hN
  · exact skA (hN _ _ h1)
theorem s44_12 {R : VP} {K1 : VP} {Q : EQ} (hN : ∀ e w, (m44_11 R K1 (e 0) (e 7) (e 8) (e 9) w) → Q .normal e w) (hR : ∀ e w, (R (e 4) w) → Q .ret e w) (e : Env) (w : World) (h : m44_12 R K1 (e 0) (e 6) (e 7) (e 8) (e 9) w) : W44 k44_12 Q e w := by
  unfold m44_12 at h
  refine seA ?_
  have hN : ∀ e w, (m44_13 R K1 (e 0) (e 7) (e 8) (e 9) (e 19) w) → (thenE (W44 k44_13 Q) Q) .normal e w := fun e w h => then_N (s44_13 (R := R) (Q := Q) (K1 := K1) hN hR e w h)
  exact rgA 4 (fun e w => m44_13 R K1 (e 0) (e 7) (e 8) (e 9) (e 19) w) h hN
theorem s44_10 {R : VP} {K1 : VP} {Q : EQ} (hN : ∀ e w, (K1 (e 9) w) → Q .normal e w) (hR : ∀ e w, (R (e 4) w) → Q .ret e w) (e : Env) (w : World) (h : m44_10 R K1 (e 0) (e 7) (e 8) (e 9) w) : W44 k44_10 Q e w := by
  unfold m44_10 at h
  refine seA ?_
  have hN : ∀ e w, (m44_11 R K1 (e 0) (e 7) (e 8) (e 9) w) → (thenE (W44 k44_11 Q) Q) .normal e w := fun e w h => then_N (s44_11 (R := R) (Q := Q) (K1 := K1) hN e w h)
  have hR : ∀ e w, (R (e 4) w) → (thenE (W44 k44_11 Q) Q) .ret e w := fun e w h => then_R (hR e w h)
  refine block_ok 1 (by kernel_rfl) ?_
  have hN : ∀ e w, (m44_11 R K1 (e 0) (e 7) (e 8) (e 9) w) → (inBlockE 1 (thenE (W44 k44_11 Q) Q)) .normal e w := fun e w h => block_N (hN e w h)
  have hR : ∀ e w, (R (e 4) w) → (inBlockE 1 (thenE (W44 k44_11 Q) Q)) .ret e w := fun e w h => block_R (hR e w h)
  refine seA ?_
  have hN : ∀ e w, (m44_12 R K1 (e 0) (e 6) (e 7) (e 8) (e 9) w) → (thenE (W44 k44_12 (inBlockE 1 (thenE (W44 k44_11 Q) Q))) (inBlockE 1 (thenE (W44 k44_11 Q) Q))) .normal e w := fun e w h => then_N (s44_12 (R := R) (Q := (inBlockE 1 (thenE (W44 k44_11 Q) Q))) (K1 := K1) hN hR e w h)
  exact rgA 3 (fun e w => m44_12 R K1 (e 0) (e 6) (e 7) (e 8) (e 9) w) h hN
theorem s44_6 {R : VP} {Q : EQ} (hR : ∀ e w, (R (e 4) w) → Q .ret e w) (e : Env) (w : World) (h : m44_6 R (e 4) w) : W44 k44_6 Q e w := by
  unfold m44_6 at h
  exact reA (hR _ _ h)
theorem s44_4 {R : VP} {Q : EQ} (hR : ∀ e w, (R (e 4) w) → Q .ret e w) (e : Env) (w : World) (h : m44_4 R (e 4) w) : W44 k44_4 Q e w := by
  unfold m44_4 at h
  exact reA (hR _ _ h)
theorem s44_3 {R : VP} {Q : EQ} (hR : ∀ e w, (R (e 4) w) → Q .ret e w) (e : Env) (w : World) (h : m44_3 R w) : W44 k44_3 Q e w := by
  unfold m44_3 at h
  refine seA ?_
  have hN : ∀ e w, (m44_4 R (e 4) w) → (thenE (W44 k44_4 Q) Q) .normal e w := fun e w h => then_N (s44_4 (R := R) (Q := Q) hR e w h)
  exact rgA 9 (fun e w => m44_4 R (e 4) w) h hN
theorem s44_5 {R : VP} {Q : EQ} (hN : ∀ e w, (m44_3 R w) → Q .normal e w) (hR : ∀ e w, (R (e 4) w) → Q .ret e w) (e : Env) (w : World) (h : m44_5 R (e 24) w) : W44 k44_5 Q e w := by
  unfold m44_5 at h
  refine coA (Operand.tmp 24) h (fun h1 => ?_) (fun h1 => ?_)
  · refine seA ?_
    have hN : ∀ e w, (m44_6 R (e 4) w) → (thenE (W44 k44_6 Q) Q) .normal e w := fun e w h => then_N (s44_6 (R := R) (Q := Q) hR e w h)
    exact rgA 8 (fun e w => m44_6 R (e 4) w) h1 hN
  · exact skA (hN _ _ h1)
theorem s44_2 {R : VP} {Q : EQ} (hR : ∀ e w, (R (e 4) w) → Q .ret e w) (e : Env) (w : World) (h : m44_2 R (e 0) w) : W44 k44_2 Q e w := by
  unfold m44_2 at h
  refine seA ?_
  have hN : ∀ e w, (m44_3 R w) → (thenE (W44 k44_3 Q) Q) .normal e w := fun e w h => then_N (s44_3 (R := R) (Q := Q) hR e w h)
  have hR : ∀ e w, (R (e 4) w) → (thenE (W44 k44_3 Q) Q) .ret e w := fun e w h => then_R (hR e w h)
  refine seA ?_
  have hN : ∀ e w, (m44_5 R (e 24) w) → (thenE (W44 k44_5 (thenE (W44 k44_3 Q) Q)) (thenE (W44 k44_3 Q) Q)) .normal e w := fun e w h => then_N (s44_5 (R := R) (Q := (thenE (W44 k44_3 Q) Q)) hN hR e w h)
  exact rgA 7 (fun e w => m44_5 R (e 24) w) h hN
theorem s44_9 {R : VP} {K1 : VP} {Q : EQ} (hN : ∀ e w, (K1 (e 9) w) → Q .normal e w) (hR : ∀ e w, (R (e 4) w) → Q .ret e w) (hX0 : ∀ e w, (m44_2 R (e 0) w) → Q (.exit 0) e w) (e : Env) (w : World) (h : m44_9 R K1 (e 0) (e 7) (e 8) (e 9) (e 10) w) : W44 k44_9 Q e w := by
  unfold m44_9 at h
  refine seA ?_
  have hN : ∀ e w, (m44_10 R K1 (e 0) (e 7) (e 8) (e 9) w) → (thenE (W44 k44_10 Q) Q) .normal e w := fun e w h => then_N (s44_10 (R := R) (Q := Q) (K1 := K1) hN hR e w h)
  have hX0 : ∀ e w, (m44_2 R (e 0) w) → (thenE (W44 k44_10 Q) Q) (.exit 0) e w := fun e w h => then_X (hX0 e w h)
  refine coA (Operand.tmp 10) h (fun h1 => ?_) (fun h1 => ?_)
  · exact skA (hN _ _ h1)
  · exact exA 0 (hX0 _ _ h1)
theorem s44_8 {R : VP} {K1 : VP} {Q : EQ} (hN : ∀ e w, (K1 (e 9) w) → Q .normal e w) (hR : ∀ e w, (R (e 4) w) → Q .ret e w) (hX0 : ∀ e w, (m44_2 R (e 0) w) → Q (.exit 0) e w) (e : Env) (w : World) (h : m44_8 R K1 (e 0) (e 7) (e 8) (e 9) w) : W44 k44_8 Q e w := by
  unfold m44_8 at h
  refine seA ?_
  have hN : ∀ e w, (m44_9 R K1 (e 0) (e 7) (e 8) (e 9) (e 10) w) → (thenE (W44 k44_9 Q) Q) .normal e w := fun e w h => then_N (s44_9 (R := R) (Q := Q) (K1 := K1) hN hR hX0 e w h)
  exact rgA 2 (fun e w => m44_9 R K1 (e 0) (e 7) (e 8) (e 9) (e 10) w) h hN
theorem s44_7 {R : VP} {Q : EQ} (hN : ∀ e w, (m44_2 R (e 0) w) → Q .normal e w) (hR : ∀ e w, (R (e 4) w) → Q .ret e w) (e : Env) (w : World) (h : m44_7 R (e 0) (e 7) (e 8) (e 9) w) : W44 k44_7 Q e w := by
  unfold m44_7 at h
  refine block_ok 0 (by kernel_rfl) ?_
  have hX0 : ∀ e w, (m44_2 R (e 0) w) → (inBlockE 0 Q) (.exit 0) e w := fun e w h => inBlock_same (Q := Q) 0 (hN e w h)
  have hR : ∀ e w, (R (e 4) w) → (inBlockE 0 Q) .ret e w := fun e w h => block_R (hR e w h)
  refine loop_ok' (fun (e : Env) => e 9) [0, 7, 8] (by kernel_rfl) (by kernel_rfl) h (fun K e' w' hk h' => ?_)
  have r0 : e' 0 = e 0 := hk 0 (by decide)
  have r7 : e' 7 = e 7 := hk 7 (by decide)
  have r8 : e' 8 = e 8 := hk 8 (by decide)
  have hR : ∀ e w, (R (e 4) w) → (thenE (fun (e : Env) w => K (e 9) w) (inBlockE 0 Q)) .ret e w := fun e w h => then_R (hR e w h)
  have hX0 : ∀ e w, (m44_2 R (e 0) w) → (thenE (fun (e : Env) w => K (e 9) w) (inBlockE 0 Q)) (.exit 0) e w := fun e w h => then_X (hX0 e w h)
  exact s44_8 (R := R) (Q := (thenE (fun (e : Env) w => K (e 9) w) (inBlockE 0 Q))) (K1 := K) (fun _ _ h => then_N h) hR hX0 e' w' (by rw [r0, r7, r8]; exact h')
theorem s44_1 {R : VP} {Q : EQ} (hR : ∀ e w, (R (e 4) w) → Q .ret e w) (e : Env) (w : World) (h : m44_1 R (e 0) (e 1) w) : W44 k44_1 Q e w := by
  unfold m44_1 at h
  refine seA ?_
  have hN : ∀ e w, (m44_2 R (e 0) w) → (thenE (W44 k44_2 Q) Q) .normal e w := fun e w h => then_N (s44_2 (R := R) (Q := Q) hR e w h)
  have hR : ∀ e w, (R (e 4) w) → (thenE (W44 k44_2 Q) Q) .ret e w := fun e w h => then_R (hR e w h)
  refine seA ?_
  have hN : ∀ e w, (m44_7 R (e 0) (e 7) (e 8) (e 9) w) → (thenE (W44 k44_7 (thenE (W44 k44_2 Q) Q)) (thenE (W44 k44_2 Q) Q)) .normal e w := fun e w h => then_N (s44_7 (R := R) (Q := (thenE (W44 k44_2 Q) Q)) hN hR e w h)
  exact rgA 1 (fun e w => m44_7 R (e 0) (e 7) (e 8) (e 9) w) h hN
theorem s44_0 {R : VP} {Q : EQ} (hR : ∀ e w, (R (e 4) w) → Q .ret e w) (e : Env) (w : World) (h : m44_0 R (e 0) (e 1) w) : W44 k44_0 Q e w := by
  unfold m44_0 at h
  refine seA ?_
  have hN : ∀ e w, (m44_1 R (e 0) (e 1) w) → (thenE (W44 k44_1 Q) Q) .normal e w := fun e w h => then_N (s44_1 (R := R) (Q := Q) hR e w h)
  exact rgA 0 (fun e w => m44_1 R (e 0) (e 1) w) h hN
abbrev m44 (R : VP) (d0 names1 : Value) (w : World) : Prop := m44_0 R d0 names1 w
theorem s44 (d0 names1 : Value) {R : VP} {w : World} (h : m44 R d0 names1 w) :
    Calls Tryz.prog 44 #[d0, names1] w fun e w' => ∃ v, e = .returned v ∧ R v w' :=
  calls_of_cwp (st := (fun i => 0)) (c := k44_0) (by kernel_rfl) Tryz.func44 (by kernel_rfl) (Nat.le_of_ble_eq_true (by kernel_rfl)) (by kernel_rfl)
    (s44_0 (R := R) (Q := endE Tryz.prog Tryz.f44 R) (fun e w h => kcast (by kernel_rfl) h) (argsE #[d0, names1]) w (kcast (by kernel_rfl) h))
def m31_2 (R : VP) (t2 : Value) (w : World) : Prop :=
  R t2 w
def m31_1 (R : VP) (n0 : Value) (w : World) : Prop :=
  valP Tryz.prog (binS BinOp.add 3 (Operand.tmp 3) (Operand.const (Value.int IntKind.i64 64)) n0 (Value.int IntKind.i64 64)) w fun t4 w =>
  valP Tryz.prog (binS BinOp.sub 3 (Operand.tmp 4) (Operand.const (Value.int IntKind.i64 1)) t4 (Value.int IntKind.i64 1)) w fun t5 w =>
  valP Tryz.prog (binS BinOp.quo 3 (Operand.tmp 5) (Operand.const (Value.int IntKind.i64 64)) t5 (Value.int IntKind.i64 64)) w fun t6 w =>
  builtinP Tryz.prog Builtin.max #[3, 3] 3 #[true, false] #[(Value.int IntKind.i64 1), t6] w fun t7 w =>
  m31_2 R t7 w
def m31_0 (R : VP) (n0 : Value) (w : World) : Prop :=
  m31_1 R n0 w
abbrev W31 := cwp Tryz.prog (fun i => 0)
noncomputable def k31_0 : Code := (bodyOf Tryz.f31)
noncomputable def k31_1 : Code := (c2 k31_0)
noncomputable def k31_2 : Code := (c2 k31_1)
theorem s31_2 {R : VP} {Q : EQ} (hR : ∀ e w, (R (e 2) w) → Q .ret e w) (e : Env) (w : World) (h : m31_2 R (e 2) w) : W31 k31_2 Q e w := by
  unfold m31_2 at h
  exact reA (hR _ _ h)
theorem s31_1 {R : VP} {Q : EQ} (hR : ∀ e w, (R (e 2) w) → Q .ret e w) (e : Env) (w : World) (h : m31_1 R (e 0) w) : W31 k31_1 Q e w := by
  unfold m31_1 at h
  refine seA ?_
  have hN : ∀ e w, (m31_2 R (e 2) w) → (thenE (W31 k31_2 Q) Q) .normal e w := fun e w h => then_N (s31_2 (R := R) (Q := Q) hR e w h)
  exact rgA 1 (fun e w => m31_2 R (e 2) w) h hN
theorem s31_0 {R : VP} {Q : EQ} (hR : ∀ e w, (R (e 2) w) → Q .ret e w) (e : Env) (w : World) (h : m31_0 R (e 0) w) : W31 k31_0 Q e w := by
  unfold m31_0 at h
  refine seA ?_
  have hN : ∀ e w, (m31_1 R (e 0) w) → (thenE (W31 k31_1 Q) Q) .normal e w := fun e w h => then_N (s31_1 (R := R) (Q := Q) hR e w h)
  exact rgA 0 (fun e w => m31_1 R (e 0) w) h hN
abbrev m31 (R : VP) (n0 : Value) (w : World) : Prop := m31_0 R n0 w
theorem s31 (n0 : Value) {R : VP} {w : World} (h : m31 R n0 w) :
    Calls Tryz.prog 31 #[n0] w fun e w' => ∃ v, e = .returned v ∧ R v w' :=
  calls_of_cwp (st := (fun i => 0)) (c := k31_0) (by kernel_rfl) Tryz.func31 (by kernel_rfl) (Nat.le_of_ble_eq_true (by kernel_rfl)) (by kernel_rfl)
    (s31_0 (R := R) (Q := endE Tryz.prog Tryz.f31 R) (fun e w h => kcast (by kernel_rfl) h) (argsE #[n0]) w (kcast (by kernel_rfl) h))
def m32_2 (R : VP) (t2 : Value) (w : World) : Prop :=
  R t2 w
def m32_1 (R : VP) (f0 : Value) (w : World) : Prop :=
  nilCheckP f0 fun t4 =>
  valQ Tryz.prog (Instr.fieldAt 78 t4 0) w fun t5 =>
  valQ Tryz.prog (Instr.loadAt 9 t5) w fun t6 =>
  builtinQ Tryz.prog Builtin.len #[9] 3 #[false] #[t6] w fun t7 =>
  nilCheckP f0 fun t9 =>
  valQ Tryz.prog (Instr.fieldAt 78 t9 1) w fun t10 =>
  valQ Tryz.prog (Instr.loadAt 9 t10) w fun t11 =>
  builtinQ Tryz.prog Builtin.len #[9] 3 #[false] #[t11] w fun t12 =>
  valQ Tryz.prog (binS BinOp.add 3 (Operand.tmp 7) (Operand.tmp 12) t7 t12) w fun t13 =>
  anyDraw w fun w =>
  m32_2 R t13 w
def m32_0 (R : VP) (f0 : Value) (w : World) : Prop :=
  m32_1 R f0 w
abbrev W32 := cwp Tryz.prog (fun i => cond (Nat.beq i 1) 1 (0))
noncomputable def k32_0 : Code := (bodyOf Tryz.f32)
noncomputable def k32_1 : Code := (c2 k32_0)
noncomputable def k32_2 : Code := (c2 k32_1)
theorem s32_2 {R : VP} {Q : EQ} (hR : ∀ e w, (R (e 2) w) → Q .ret e w) (e : Env) (w : World) (h : m32_2 R (e 2) w) : W32 k32_2 Q e w := by
  unfold m32_2 at h
  exact reA (hR _ _ h)
theorem s32_1 {R : VP} {Q : EQ} (hR : ∀ e w, (R (e 2) w) → Q .ret e w) (e : Env) (w : World) (h : m32_1 R (e 0) w) : W32 k32_1 Q e w := by
  unfold m32_1 at h
  refine seA ?_
  have hN : ∀ e w, (m32_2 R (e 2) w) → (thenE (W32 k32_2 Q) Q) .normal e w := fun e w h => then_N (s32_2 (R := R) (Q := Q) hR e w h)
  exact quA 1 (fun e w => m32_2 R (e 2) w) h hN
theorem s32_0 {R : VP} {Q : EQ} (hR : ∀ e w, (R (e 2) w) → Q .ret e w) (e : Env) (w : World) (h : m32_0 R (e 0) w) : W32 k32_0 Q e w := by
  unfold m32_0 at h
  refine seA ?_
  have hN : ∀ e w, (m32_1 R (e 0) w) → (thenE (W32 k32_1 Q) Q) .normal e w := fun e w h => then_N (s32_1 (R := R) (Q := Q) hR e w h)
  exact rgA 0 (fun e w => m32_1 R (e 0) w) h hN
abbrev m32 (R : VP) (f0 : Value) (w : World) : Prop := m32_0 R f0 w
theorem s32 (f0 : Value) {R : VP} {w : World} (h : m32 R f0 w) :
    Calls Tryz.prog 32 #[f0] w fun e w' => ∃ v, e = .returned v ∧ R v w' :=
  calls_of_cwp (st := (fun i => cond (Nat.beq i 1) 1 (0))) (c := k32_0) (by kernel_rfl) Tryz.func32 (by kernel_rfl) (Nat.le_of_ble_eq_true (by kernel_rfl)) (by kernel_rfl)
    (s32_0 (R := R) (Q := endE Tryz.prog Tryz.f32 R) (fun e w h => kcast (by kernel_rfl) h) (argsE #[f0]) w (kcast (by kernel_rfl) h))
def m45_8 (R : VP) (t2 : Value) (w : World) : Prop :=
  R t2 w
def m45_7 (R : VP) (w : World) : Prop :=
  m45_8 R (Value.bool false) w
def m45_4 (R : VP) (t2 : Value) (w : World) : Prop :=
  R t2 w
def m45_3 (R : VP) (w : World) : Prop :=
  m45_4 R (Value.bool true) w
def m45_5 (R : VP) (d0 t15 : Value) (w : World) : Prop :=
  condP t15
  (nilCheckP d0 fun t17 =>
  valP Tryz.prog (Instr.fieldAt 61 t17 2) w fun t18 w =>
  valP Tryz.prog (Instr.loadAt 3 t18) w fun t19 w =>
  valP Tryz.prog (binS BinOp.sub 3 (Operand.tmp 19) (Operand.const (Value.int IntKind.i64 1)) t19 (Value.int IntKind.i64 1)) w fun t20 w =>
  nilCheckP d0 fun t21 =>
  valP Tryz.prog (Instr.fieldAt 61 t21 2) w fun t22 w =>
  unitP Tryz.prog (Instr.storeAt 3 t22 t20) w fun _ w =>
  m45_3 R w)
  (m45_3 R w)
def m45_2 (R : VP) (d0 : Value) (w : World) : Prop :=
  nilCheckP d0 fun t12 =>
  valP Tryz.prog (Instr.fieldAt 61 t12 2) w fun t13 w =>
  valP Tryz.prog (Instr.loadAt 3 t13) w fun t14 w =>
  valP Tryz.prog (binS BinOp.gtr 3 (Operand.tmp 14) (Operand.const (Value.int IntKind.i64 0)) t14 (Value.int IntKind.i64 0)) w fun t15 w =>
  m45_5 R d0 t15 w
def m45_6 (R : VP) (d0 t7 : Value) (w : World) : Prop :=
  condP t7
  (nilCheckP d0 fun t9 =>
  valP Tryz.prog (Instr.fieldAt 61 t9 3) w fun t10 w =>
  unitP Tryz.prog (Instr.storeAt 4 t10 (Value.bool true)) w fun _ w =>
  m45_7 R w)
  (m45_2 R d0 w)
def m45_1 (R : VP) (d0 : Value) (w : World) : Prop :=
  nilCheckP d0 fun t4 =>
  valP Tryz.prog (Instr.fieldAt 61 t4 2) w fun t5 w =>
  valP Tryz.prog (Instr.loadAt 3 t5) w fun t6 w =>
  valP Tryz.prog (binS BinOp.eql 3 (Operand.tmp 6) (Operand.const (Value.int IntKind.i64 0)) t6 (Value.int IntKind.i64 0)) w fun t7 w =>
  m45_6 R d0 t7 w
def m45_0 (R : VP) (d0 : Value) (w : World) : Prop :=
  m45_1 R d0 w
abbrev W45 := cwp Tryz.prog (fun i => 0)
noncomputable def k45_0 : Code := (bodyOf Tryz.f45)
noncomputable def k45_1 : Code := (c2 k45_0)
noncomputable def k45_2 : Code := (c2 k45_1)
noncomputable def k45_3 : Code := (c2 k45_2)
noncomputable def k45_4 : Code := (c2 k45_3)
noncomputable def k45_5 : Code := (c2 (c1 k45_2))
noncomputable def k45_6 : Code := (c2 (c1 k45_1))
noncomputable def k45_7 : Code := (c2 (c1 k45_6))
noncomputable def k45_8 : Code := (c2 k45_7)
theorem s45_8 {R : VP} {Q : EQ} (hR : ∀ e w, (R (e 2) w) → Q .ret e w) (e : Env) (w : World) (h : m45_8 R (e 2) w) : W45 k45_8 Q e w := by
  unfold m45_8 at h
  exact reA (hR _ _ h)
theorem s45_7 {R : VP} {Q : EQ} (hR : ∀ e w, (R (e 2) w) → Q .ret e w) (e : Env) (w : World) (h : m45_7 R w) : W45 k45_7 Q e w := by
  unfold m45_7 at h
  refine seA ?_
  have hN : ∀ e w, (m45_8 R (e 2) w) → (thenE (W45 k45_8 Q) Q) .normal e w := fun e w h => then_N (s45_8 (R := R) (Q := Q) hR e w h)
  exact rgA 3 (fun e w => m45_8 R (e 2) w) h hN
theorem s45_4 {R : VP} {Q : EQ} (hR : ∀ e w, (R (e 2) w) → Q .ret e w) (e : Env) (w : World) (h : m45_4 R (e 2) w) : W45 k45_4 Q e w := by
  unfold m45_4 at h
  exact reA (hR _ _ h)
theorem s45_3 {R : VP} {Q : EQ} (hR : ∀ e w, (R (e 2) w) → Q .ret e w) (e : Env) (w : World) (h : m45_3 R w) : W45 k45_3 Q e w := by
  unfold m45_3 at h
  refine seA ?_
  have hN : ∀ e w, (m45_4 R (e 2) w) → (thenE (W45 k45_4 Q) Q) .normal e w := fun e w h => then_N (s45_4 (R := R) (Q := Q) hR e w h)
  exact rgA 6 (fun e w => m45_4 R (e 2) w) h hN
theorem s45_5 {R : VP} {Q : EQ} (hN : ∀ e w, (m45_3 R w) → Q .normal e w) (e : Env) (w : World) (h : m45_5 R (e 0) (e 15) w) : W45 k45_5 Q e w := by
  unfold m45_5 at h
  refine coA (Operand.tmp 15) h (fun h1 => ?_) (fun h1 => ?_)
  · exact rgA 5 (fun e w => m45_3 R w) h1 hN
  · exact skA (hN _ _ h1)
theorem s45_2 {R : VP} {Q : EQ} (hR : ∀ e w, (R (e 2) w) → Q .ret e w) (e : Env) (w : World) (h : m45_2 R (e 0) w) : W45 k45_2 Q e w := by
  unfold m45_2 at h
  refine seA ?_
  have hN : ∀ e w, (m45_3 R w) → (thenE (W45 k45_3 Q) Q) .normal e w := fun e w h => then_N (s45_3 (R := R) (Q := Q) hR e w h)
  refine seA ?_
  have hN : ∀ e w, (m45_5 R (e 0) (e 15) w) → (thenE (W45 k45_5 (thenE (W45 k45_3 Q) Q)) (thenE (W45 k45_3 Q) Q)) .normal e w := fun e w h => then_N (s45_5 (R := R) (Q := (thenE (W45 k45_3 Q) Q)) hN e w h)
  exact rgA 4 (fun e w => m45_5 R (e 0) (e 15) w) h hN
theorem s45_6 {R : VP} {Q : EQ} (hN : ∀ e w, (m45_2 R (e 0) w) → Q .normal e w) (hR : ∀ e w, (R (e 2) w) → Q .ret e w) (e : Env) (w : World) (h : m45_6 R (e 0) (e 7) w) : W45 k45_6 Q e w := by
  unfold m45_6 at h
  refine coA (Operand.tmp 7) h (fun h1 => ?_) (fun h1 => ?_)
  · refine seA ?_
    have hN : ∀ e w, (m45_7 R w) → (thenE (W45 k45_7 Q) Q) .normal e w := fun e w h => then_N (s45_7 (R := R) (Q := Q) hR e w h)
    exact rgA 2 (fun e w => m45_7 R w) h1 hN
  · exact skA (hN _ _ h1)
theorem s45_1 {R : VP} {Q : EQ} (hR : ∀ e w, (R (e 2) w) → Q .ret e w) (e : Env) (w : World) (h : m45_1 R (e 0) w) : W45 k45_1 Q e w := by
  unfold m45_1 at h
  refine seA ?_
  have hN : ∀ e w, (m45_2 R (e 0) w) → (thenE (W45 k45_2 Q) Q) .normal e w := fun e w h => then_N (s45_2 (R := R) (Q := Q) hR e w h)
  have hR : ∀ e w, (R (e 2) w) → (thenE (W45 k45_2 Q) Q) .ret e w := fun e w h => then_R (hR e w h)
  refine seA ?_
  have hN : ∀ e w, (m45_6 R (e 0) (e 7) w) → (thenE (W45 k45_6 (thenE (W45 k45_2 Q) Q)) (thenE (W45 k45_2 Q) Q)) .normal e w := fun e w h => then_N (s45_6 (R := R) (Q := (thenE (W45 k45_2 Q) Q)) hN hR e w h)
  exact rgA 1 (fun e w => m45_6 R (e 0) (e 7) w) h hN
theorem s45_0 {R : VP} {Q : EQ} (hR : ∀ e w, (R (e 2) w) → Q .ret e w) (e : Env) (w : World) (h : m45_0 R (e 0) w) : W45 k45_0 Q e w := by
  unfold m45_0 at h
  refine seA ?_
  have hN : ∀ e w, (m45_1 R (e 0) w) → (thenE (W45 k45_1 Q) Q) .normal e w := fun e w h => then_N (s45_1 (R := R) (Q := Q) hR e w h)
  exact rgA 0 (fun e w => m45_1 R (e 0) w) h hN
abbrev m45 (R : VP) (d0 : Value) (w : World) : Prop := m45_0 R d0 w
theorem s45 (d0 : Value) {R : VP} {w : World} (h : m45 R d0 w) :
    Calls Tryz.prog 45 #[d0] w fun e w' => ∃ v, e = .returned v ∧ R v w' :=
  calls_of_cwp (st := (fun i => 0)) (c := k45_0) (by kernel_rfl) Tryz.func45 (by kernel_rfl) (Nat.le_of_ble_eq_true (by kernel_rfl)) (by kernel_rfl)
    (s45_0 (R := R) (Q := endE Tryz.prog Tryz.f45 R) (fun e w h => kcast (by kernel_rfl) h) (argsE #[d0]) w (kcast (by kernel_rfl) h))
def m65_12 (R : VP) (t6 : Value) (w : World) : Prop :=
  R t6 w
def m65_7 (R : VP) (t6 : Value) (w : World) : Prop :=
  R t6 w
def m65_9 (R : VP) (t6 : Value) (w : World) : Prop :=
  R t6 w
def m65_5 (R : VP) (t6 : Value) (w : World) : Prop :=
  R t6 w
def m65_4 (R : VP) (do2 f8 : Value) (w : World) : Prop :=
  callP Tryz.prog do2 #[f8] w fun t31 w =>
  m65_5 R t31 w
def m65_8 (R : VP) (do2 f8 t25 : Value) (w : World) : Prop :=
  condP t25
  (m65_9 R (Value.int IntKind.i64 4) w)
  (m65_4 R do2 f8 w)
def m65_6 (R : VP) (d0 do2 f8 t22 : Value) (w : World) : Prop :=
  condP t22
  (m65_7 R (Value.int IntKind.i64 3) w)
  (callP Tryz.prog (fnV 45) #[d0] w fun t27 w =>
  valP Tryz.prog (Op.unary UnOp.not t27) w fun t28 w =>
  m65_8 R do2 f8 t28 w)
def m65_3 (R : VP) (d0 do2 f8 : Value) (w : World) : Prop :=
  valP Tryz.prog (binS BinOp.eql 76 (Operand.tmp 23) (Operand.const (Value.pointer none)) f8 (Value.pointer none)) w fun t24 w =>
  m65_6 R d0 do2 f8 t24 w
def m65_2 (R : VP) (d0 name1 do2 : Value) (w : World) : Prop :=
  nilCheckP d0 fun t17 =>
  valP Tryz.prog (Instr.fieldAt 61 t17 0) w fun t18 w =>
  valP Tryz.prog (Instr.loadAt 59 t18) w fun t19 w =>
  valP Tryz.prog (Instr.lookup 59 t19 name1 false) w fun t21 w =>
  m65_3 R d0 do2 t21 w
def m65_11 (R : VP) (d0 name1 do2 e7 t14 : Value) (w : World) : Prop :=
  condP t14
  (m65_12 R e7 w)
  (m65_2 R d0 name1 do2 w)
def m65_10 (R : VP) (d0 name1 do2 e7 : Value) (w : World) : Prop :=
  valP Tryz.prog (binS BinOp.neq 26 (Operand.tmp 13) (Operand.const (Value.int IntKind.i64 0)) e7 (Value.int IntKind.i64 0)) w fun t14 w =>
  m65_11 R d0 name1 do2 e7 t14 w
def m65_1 (R : VP) (d0 name1 do2 : Value) (w : World) : Prop :=
  valP Tryz.prog (Instr.buildSlice 71 1 #[(0, name1)]) w fun t11 w =>
  callP Tryz.prog (fnV 44) #[d0, t11] w fun t12 w =>
  m65_10 R d0 name1 do2 t12 w
def m65_0 (R : VP) (d0 name1 do2 : Value) (w : World) : Prop :=
  m65_1 R d0 name1 do2 w
abbrev W65 := cwp Tryz.prog (fun i => 0)
noncomputable def k65_0 : Code := (bodyOf Tryz.f65)
noncomputable def k65_1 : Code := (c2 k65_0)
noncomputable def k65_2 : Code := (c2 k65_1)
noncomputable def k65_3 : Code := (c2 k65_2)
noncomputable def k65_4 : Code := (c2 k65_3)
noncomputable def k65_5 : Code := (c2 k65_4)
noncomputable def k65_6 : Code := (c2 (c1 (c1 k65_3)))
noncomputable def k65_7 : Code := (c2 (c1 k65_6))
noncomputable def k65_8 : Code := (c2 (c2 k65_6))
noncomputable def k65_9 : Code := (c2 (c1 k65_8))
noncomputable def k65_10 : Code := (c2 (c1 k65_1))
noncomputable def k65_11 : Code := (c2 k65_10)
noncomputable def k65_12 : Code := (c2 (c1 k65_11))
theorem s65_12 {R : VP} {Q : EQ} (hR : ∀ e w, (R (e 6) w) → Q .ret e w) (e : Env) (w : World) (h : m65_12 R (e 6) w) : W65 k65_12 Q e w := by
  unfold m65_12 at h
  exact reA (hR _ _ h)
theorem s65_7 {R : VP} {Q : EQ} (hR : ∀ e w, (R (e 6) w) → Q .ret e w) (e : Env) (w : World) (h : m65_7 R (e 6) w) : W65 k65_7 Q e w := by
  unfold m65_7 at h
  exact reA (hR _ _ h)
theorem s65_9 {R : VP} {Q : EQ} (hR : ∀ e w, (R (e 6) w) → Q .ret e w) (e : Env) (w : World) (h : m65_9 R (e 6) w) : W65 k65_9 Q e w := by
  unfold m65_9 at h
  exact reA (hR _ _ h)
theorem s65_5 {R : VP} {Q : EQ} (hR : ∀ e w, (R (e 6) w) → Q .ret e w) (e : Env) (w : World) (h : m65_5 R (e 6) w) : W65 k65_5 Q e w := by
  unfold m65_5 at h
  exact reA (hR _ _ h)
theorem s65_4 {R : VP} {Q : EQ} (hR : ∀ e w, (R (e 6) w) → Q .ret e w) (e : Env) (w : World) (h : m65_4 R (e 2) (e 8) w) : W65 k65_4 Q e w := by
  unfold m65_4 at h
  refine seA ?_
  have hN : ∀ e w, (m65_5 R (e 6) w) → (thenE (W65 k65_5 Q) Q) .normal e w := fun e w h => then_N (s65_5 (R := R) (Q := Q) hR e w h)
  exact rgA 9 (fun e w => m65_5 R (e 6) w) h hN
theorem s65_8 {R : VP} {Q : EQ} (hN : ∀ e w, (m65_4 R (e 2) (e 8) w) → Q .normal e w) (hR : ∀ e w, (R (e 6) w) → Q .ret e w) (e : Env) (w : World) (h : m65_8 R (e 2) (e 8) (e 25) w) : W65 k65_8 Q e w := by
  unfold m65_8 at h
  refine coA (Operand.tmp 25) h (fun h1 => ?_) (fun h1 => ?_)
  · refine seA ?_
    have hN : ∀ e w, (m65_9 R (e 6) w) → (thenE (W65 k65_9 Q) Q) .normal e w := fun e w h => then_N (s65_9 (R := R) (Q := Q) hR e w h)
    exact rgA 8 (fun e w => m65_9 R (e 6) w) h1 hN
  · exact skA (hN _ _ h1)
theorem s65_6 {R : VP} {Q : EQ} (hN : ∀ e w, (m65_4 R (e 2) (e 8) w) → Q .normal e w) (hR : ∀ e w, (R (e 6) w) → Q .ret e w) (e : Env) (w : World) (h : m65_6 R (e 0) (e 2) (e 8) (e 22) w) : W65 k65_6 Q e w := by
  unfold m65_6 at h
  refine coA (Operand.tmp 22) h (fun h1 => ?_) (fun h1 => ?_)
  · refine seA ?_
    have hN : ∀ e w, (m65_7 R (e 6) w) → (thenE (W65 k65_7 Q) Q) .normal e w := fun e w h => then_N (s65_7 (R := R) (Q := Q) hR e w h)
    exact rgA 6 (fun e w => m65_7 R (e 6) w) h1 hN
  · refine seA ?_
    have hN : ∀ e w, (m65_8 R (e 2) (e 8) (e 25) w) → (thenE (W65 k65_8 Q) Q) .normal e w := fun e w h => then_N (s65_8 (R := R) (Q := Q) hN hR e w h)
    exact rgA 7 (fun e w => m65_8 R (e 2) (e 8) (e 25) w) h1 hN
theorem s65_3 {R : VP} {Q : EQ} (hR : ∀ e w, (R (e 6) w) → Q .ret e w) (e : Env) (w : World) (h : m65_3 R (e 0) (e 2) (e 8) w) : W65 k65_3 Q e w := by
  unfold m65_3 at h
  refine seA ?_
  have hN : ∀ e w, (m65_4 R (e 2) (e 8) w) → (thenE (W65 k65_4 Q) Q) .normal e w := fun e w h => then_N (s65_4 (R := R) (Q := Q) hR e w h)
  have hR : ∀ e w, (R (e 6) w) → (thenE (W65 k65_4 Q) Q) .ret e w := fun e w h => then_R (hR e w h)
  refine block_ok 0 (by kernel_rfl) ?_
  have hN : ∀ e w, (m65_4 R (e 2) (e 8) w) → (inBlockE 0 (thenE (W65 k65_4 Q) Q)) .normal e w := fun e w h => block_N (hN e w h)
  have hR : ∀ e w, (R (e 6) w) → (inBlockE 0 (thenE (W65 k65_4 Q) Q)) .ret e w := fun e w h => block_R (hR e w h)
  refine seA ?_
  have hN : ∀ e w, (m65_6 R (e 0) (e 2) (e 8) (e 22) w) → (thenE (W65 k65_6 (inBlockE 0 (thenE (W65 k65_4 Q) Q))) (inBlockE 0 (thenE (W65 k65_4 Q) Q))) .normal e w := fun e w h => then_N (s65_6 (R := R) (Q := (inBlockE 0 (thenE (W65 k65_4 Q) Q))) hN hR e w h)
  exact rgA 5 (fun e w => m65_6 R (e 0) (e 2) (e 8) (e 22) w) h hN
theorem s65_2 {R : VP} {Q : EQ} (hR : ∀ e w, (R (e 6) w) → Q .ret e w) (e : Env) (w : World) (h : m65_2 R (e 0) (e 1) (e 2) w) : W65 k65_2 Q e w := by
  unfold m65_2 at h
  refine seA ?_
  have hN : ∀ e w, (m65_3 R (e 0) (e 2) (e 8) w) → (thenE (W65 k65_3 Q) Q) .normal e w := fun e w h => then_N (s65_3 (R := R) (Q := Q) hR e w h)
  exact rgA 4 (fun e w => m65_3 R (e 0) (e 2) (e 8) w) h hN
theorem s65_11 {R : VP} {Q : EQ} (hN : ∀ e w, (m65_2 R (e 0) (e 1) (e 2) w) → Q .normal e w) (hR : ∀ e w, (R (e 6) w) → Q .ret e w) (e : Env) (w : World) (h : m65_11 R (e 0) (e 1) (e 2) (e 7) (e 14) w) : W65 k65_11 Q e w := by
  unfold m65_11 at h
  refine coA (Operand.tmp 14) h (fun h1 => ?_) (fun h1 => ?_)
  · refine seA ?_
    have hN : ∀ e w, (m65_12 R (e 6) w) → (thenE (W65 k65_12 Q) Q) .normal e w := fun e w h => then_N (s65_12 (R := R) (Q := Q) hR e w h)
    exact rgA 3 (fun e w => m65_12 R (e 6) w) h1 hN
  · exact skA (hN _ _ h1)
theorem s65_10 {R : VP} {Q : EQ} (hN : ∀ e w, (m65_2 R (e 0) (e 1) (e 2) w) → Q .normal e w) (hR : ∀ e w, (R (e 6) w) → Q .ret e w) (e : Env) (w : World) (h : m65_10 R (e 0) (e 1) (e 2) (e 7) w) : W65 k65_10 Q e w := by
  unfold m65_10 at h
  refine seA ?_
  have hN : ∀ e w, (m65_11 R (e 0) (e 1) (e 2) (e 7) (e 14) w) → (thenE (W65 k65_11 Q) Q) .normal e w := fun e w h => then_N (s65_11 (R := R) (Q := Q) hN hR e w h)
  exact rgA 2 (fun e w => m65_11 R (e 0) (e 1) (e 2) (e 7) (e 14) w) h hN
theorem s65_1 {R : VP} {Q : EQ} (hR : ∀ e w, (R (e 6) w) → Q .ret e w) (e : Env) (w : World) (h : m65_1 R (e 0) (e 1) (e 2) w) : W65 k65_1 Q e w := by
  unfold m65_1 at h
  refine seA ?_
  have hN : ∀ e w, (m65_2 R (e 0) (e 1) (e 2) w) → (thenE (W65 k65_2 Q) Q) .normal e w := fun e w h => then_N (s65_2 (R := R) (Q := Q) hR e w h)
  have hR : ∀ e w, (R (e 6) w) → (thenE (W65 k65_2 Q) Q) .ret e w := fun e w h => then_R (hR e w h)
  refine seA ?_
  have hN : ∀ e w, (m65_10 R (e 0) (e 1) (e 2) (e 7) w) → (thenE (W65 k65_10 (thenE (W65 k65_2 Q) Q)) (thenE (W65 k65_2 Q) Q)) .normal e w := fun e w h => then_N (s65_10 (R := R) (Q := (thenE (W65 k65_2 Q) Q)) hN hR e w h)
  exact rgA 1 (fun e w => m65_10 R (e 0) (e 1) (e 2) (e 7) w) h hN
theorem s65_0 {R : VP} {Q : EQ} (hR : ∀ e w, (R (e 6) w) → Q .ret e w) (e : Env) (w : World) (h : m65_0 R (e 0) (e 1) (e 2) w) : W65 k65_0 Q e w := by
  unfold m65_0 at h
  refine seA ?_
  have hN : ∀ e w, (m65_1 R (e 0) (e 1) (e 2) w) → (thenE (W65 k65_1 Q) Q) .normal e w := fun e w h => then_N (s65_1 (R := R) (Q := Q) hR e w h)
  exact rgA 0 (fun e w => m65_1 R (e 0) (e 1) (e 2) w) h hN
abbrev m65 (R : VP) (d0 name1 do2 : Value) (w : World) : Prop := m65_0 R d0 name1 do2 w
theorem s65 (d0 name1 do2 : Value) {R : VP} {w : World} (h : m65 R d0 name1 do2 w) :
    Calls Tryz.prog 65 #[d0, name1, do2] w fun e w' => ∃ v, e = .returned v ∧ R v w' :=
  calls_of_cwp (st := (fun i => 0)) (c := k65_0) (by kernel_rfl) Tryz.func65 (by kernel_rfl) (Nat.le_of_ble_eq_true (by kernel_rfl)) (by kernel_rfl)
    (s65_0 (R := R) (Q := endE Tryz.prog Tryz.f65 R) (fun e w h => kcast (by kernel_rfl) h) (argsE #[d0, name1, do2]) w (kcast (by kernel_rfl) h))
def m68_5 (R : VP) (t5 : Value) (w : World) : Prop :=
  R t5 w
def m68_4 (R : VP) (w : World) : Prop :=
  m68_5 R (Value.int IntKind.i64 0) w
def m68_3 (R : VP) (f0 t1 t2 : Value) (w : World) : Prop :=
  anyDraw w fun w =>
  valS Tryz.prog (Instr.loadAt 25 t1) w fun t35 =>
  nilCheckP t35 fun t36 =>
  valS Tryz.prog (Instr.fieldAt 61 t36 0) w fun t37 =>
  valS Tryz.prog (Instr.loadAt 59 t37) w fun t38 =>
  valS Tryz.prog (Instr.loadAt 9 t2) w fun t39 =>
  unitP Tryz.prog (Instr.mapUpdate 59 t38 t39 f0) w fun _ w =>
  m68_4 R w
def m68_2 (R : VP) (f0 t1 t2 t3 : Value) (w : World) : Prop :=
  anyDraw w fun w =>
  valS Tryz.prog (Instr.loadAt 25 t1) w fun t30 =>
  nilCheckP t30 fun t31 =>
  valS Tryz.prog (Instr.fieldAt 61 t31 0) w fun t32 =>
  valS Tryz.prog (Instr.loadAt 59 t32) w fun t33 =>
  valS Tryz.prog (Instr.loadAt 9 t3) w fun t34 =>
  builtinP Tryz.prog Builtin.delete #[59, 9] 0 #[false, false] #[t33, t34] w fun _ w =>
  m68_3 R f0 t1 t2 w
def m68_7 (R : VP) (f0 t1 t2 t3 old6 t19 : Value) (w : World) : Prop :=
  condP t19
  (anyDraw w fun w =>
  heldP w fun J =>
  valJ Tryz.prog J (Instr.loadAt 25 t1) fun t20 =>
  nilCheckP t20 fun t21 =>
  valJ Tryz.prog J (Instr.fieldAt 61 t21 1) fun t22 =>
  (valP Tryz.prog (Instr.loadAt 3 t22) w fun t23 w =>
  stayP J w
  (callP Tryz.prog (fnV 32) #[old6] w fun t25 w =>
  stayP J w
  (callP Tryz.prog (fnV 31) #[t25] w fun t26 w =>
  stayP J w
  (valJ Tryz.prog J (binS BinOp.add 3 (Operand.tmp 23) (Operand.tmp 26) t23 t26) fun t27 =>
  nilCheckP t20 fun t28 =>
  valJ Tryz.prog J (Instr.fieldAt 61 t28 1) fun t29 =>
  unitP Tryz.prog (Instr.storeAt 3 t29 t27) w fun _ w =>
  stayP J w
  (m68_2 R f0 t1 t2 t3 w))))) ∧ (callP Tryz.prog (fnV 32) #[old6] w fun t25 w =>
  stayP J w
  ((valP Tryz.prog (Instr.loadAt 3 t22) w fun t23 w =>
  stayP J w
  (callP Tryz.prog (fnV 31) #[t25] w fun t26 w =>
  stayP J w
  (valJ Tryz.prog J (binS BinOp.add 3 (Operand.tmp 23) (Operand.tmp 26) t23 t26) fun t27 =>
  nilCheckP t20 fun t28 =>
  valJ Tryz.prog J (Instr.fieldAt 61 t28 1) fun t29 =>
  unitP Tryz.prog (Instr.storeAt 3 t29 t27) w fun _ w =>
  stayP J w
  (m68_2 R f0 t1 t2 t3 w)))) ∧ (callP Tryz.prog (fnV 31) #[t25] w fun t26 w =>
  stayP J w
  (valP Tryz.prog (Instr.loadAt 3 t22) w fun t23 w =>
  stayP J w
  (valJ Tryz.prog J (binS BinOp.add 3 (Operand.tmp 23) (Operand.tmp 26) t23 t26) fun t27 =>
  nilCheckP t20 fun t28 =>
  valJ Tryz.prog J (Instr.fieldAt 61 t28 1) fun t29 =>
  unitP Tryz.prog (Instr.storeAt 3 t29 t27) w fun _ w =>
  stayP J w
  (m68_2 R f0 t1 t2 t3 w)))))))
  (m68_2 R f0 t1 t2 t3 w)
def m68_6 (R : VP) (f0 t1 t2 t3 old6 : Value) (w : World) : Prop :=
  valP Tryz.prog (binS BinOp.neq 76 (Operand.tmp 13) (Operand.const (Value.pointer none)) old6 (Value.pointer none)) w fun t14 w =>
  condP t14
  (valP Tryz.prog (Instr.loadAt 9 t3) w fun t16 w =>
  valP Tryz.prog (Instr.loadAt 9 t2) w fun t17 w =>
  valP Tryz.prog (binS BinOp.neq 9 (Operand.tmp 16) (Operand.tmp 17) t16 t17) w fun t18 w =>
  pickP t14 t18 (Value.bool false) fun t19 =>
  m68_7 R f0 t1 t2 t3 old6 t19 w)
  (pickP t14 undef (Value.bool false) fun t19 =>
  m68_7 R f0 t1 t2 t3 old6 t19 w)
def m68_1 (R : VP) (f0 t1 t2 t3 : Value) (w : World) : Prop :=
  valQ Tryz.prog (Instr.loadAt 25 t1) w fun t7 =>
  nilCheckP t7 fun t8 =>
  valQ Tryz.prog (Instr.fieldAt 61 t8 0) w fun t9 =>
  valQ Tryz.prog (Instr.loadAt 59 t9) w fun t10 =>
  valQ Tryz.prog (Instr.loadAt 9 t2) w fun t11 =>
  valQ Tryz.prog (Instr.lookup 59 t10 t11 false) w fun t12 =>
  anyDraw w fun w =>
  m68_6 R f0 t1 t2 t3 t12 w
def m68_0 (R : VP) (f0 t1 t2 t3 : Value) (w : World) : Prop :=
  m68_1 R f0 t1 t2 t3 w
abbrev W68 := cwp Tryz.prog (fun i => cond (Nat.beq i 5) 8 (cond (Nat.beq i 4) 7 (cond (Nat.beq i 1) 1 (0))))
noncomputable def k68_0 : Code := (bodyOf Tryz.f68)
noncomputable def k68_1 : Code := (c2 k68_0)
noncomputable def k68_2 : Code := (c2 k68_1)
noncomputable def k68_3 : Code := (c2 k68_2)
noncomputable def k68_4 : Code := (c2 k68_3)
noncomputable def k68_5 : Code := (c2 k68_4)
noncomputable def k68_6 : Code := (c2 (c1 k68_1))
noncomputable def k68_7 : Code := (c2 k68_6)
theorem s68_5 {R : VP} {Q : EQ} (hR : ∀ e w, (R (e 5) w) → Q .ret e w) (e : Env) (w : World) (h : m68_5 R (e 5) w) : W68 k68_5 Q e w := by
  unfold m68_5 at h
  exact reA (hR _ _ h)
theorem s68_4 {R : VP} {Q : EQ} (hR : ∀ e w, (R (e 5) w) → Q .ret e w) (e : Env) (w : World) (h : m68_4 R w) : W68 k68_4 Q e w := by
  unfold m68_4 at h
  refine seA ?_
  have hN : ∀ e w, (m68_5 R (e 5) w) → (thenE (W68 k68_5 Q) Q) .normal e w := fun e w h => then_N (s68_5 (R := R) (Q := Q) hR e w h)
  exact rgA 6 (fun e w => m68_5 R (e 5) w) h hN
theorem s68_3 {R : VP} {Q : EQ} (hR : ∀ e w, (R (e 5) w) → Q .ret e w) (e : Env) (w : World) (h : m68_3 R (e 0) (e 1) (e 2) w) : W68 k68_3 Q e w := by
  unfold m68_3 at h
  refine seA ?_
  have hN : ∀ e w, (m68_4 R w) → (thenE (W68 k68_4 Q) Q) .normal e w := fun e w h => then_N (s68_4 (R := R) (Q := Q) hR e w h)
  exact taA 5 6 (fun e w => m68_4 R w) h hN
theorem s68_2 {R : VP} {Q : EQ} (hR : ∀ e w, (R (e 5) w) → Q .ret e w) (e : Env) (w : World) (h : m68_2 R (e 0) (e 1) (e 2) (e 3) w) : W68 k68_2 Q e w := by
  unfold m68_2 at h
  refine seA ?_
  have hN : ∀ e w, (m68_3 R (e 0) (e 1) (e 2) w) → (thenE (W68 k68_3 Q) Q) .normal e w := fun e w h => then_N (s68_3 (R := R) (Q := Q) hR e w h)
  exact taA 4 5 (fun e w => m68_3 R (e 0) (e 1) (e 2) w) h hN
theorem s68_7 {R : VP} {Q : EQ} (hN : ∀ e w, (m68_2 R (e 0) (e 1) (e 2) (e 3) w) → Q .normal e w) (e : Env) (w : World) (h : m68_7 R (e 0) (e 1) (e 2) (e 3) (e 6) (e 19) w) : W68 k68_7 Q e w := by
  unfold m68_7 at h
  refine coA (Operand.tmp 19) h (fun h1 => ?_) (fun h1 => ?_)
  · exact treeJ_ok 3 11 [false, false, false, false, false, false, false, false, false, false, false] (.take 0 [true, false, false, false, false, false, false, false, false, false, false] (.take 1 [true, true, false, false, false, false, false, false, false, false, false] (.take 2 [true, true, true, false, false, false, false, false, false, false, false] (.take 4 [true, true, true, false, true, false, false, false, false, false, false] (.alt 3 [true, true, true, true, true, false, false, false, false, false, false] (.alt 5 [true, true, true, true, true, true, false, false, false, false, false] (.alt 6 [true, true, true, true, true, true, true, false, false, false, false] (.take 7 [true, true, true, true, true, true, true, true, false, false, false] (.take 8 [true, true, true, true, true, true, true, true, true, false, false] (.take 9 [true, true, true, true, true, true, true, true, true, true, false] (.alt 10 [true, true, true, true, true, true, true, true, true, true, true] .done .stop)))) .stop) .stop) (.alt 5 [true, true, true, false, true, true, false, false, false, false, false] (.alt 3 [true, true, true, true, true, true, false, false, false, false, false] (.alt 6 [true, true, true, true, true, true, true, false, false, false, false] (.take 7 [true, true, true, true, true, true, true, true, false, false, false] (.take 8 [true, true, true, true, true, true, true, true, true, false, false] (.take 9 [true, true, true, true, true, true, true, true, true, true, false] (.alt 10 [true, true, true, true, true, true, true, true, true, true, true] .done .stop)))) .stop) (.alt 6 [true, true, true, false, true, true, true, false, false, false, false] (.alt 3 [true, true, true, true, true, true, true, false, false, false, false] (.take 7 [true, true, true, true, true, true, true, true, false, false, false] (.take 8 [true, true, true, true, true, true, true, true, true, false, false] (.take 9 [true, true, true, true, true, true, true, true, true, true, false] (.alt 10 [true, true, true, true, true, true, true, true, true, true, true] .done .stop)))) .stop) .stop)) .stop)))))) (fun e w => m68_2 R (e 0) (e 1) (e 2) (e 3) w) (by kernel_rfl) (by kernel_rfl) (by kernel_rfl) (by kernel_rfl) (by kernel_rfl) (by kernel_rfl) (kcast (by kernel_rfl) h1) hN (by kernel_rfl)
  · exact skA (hN _ _ h1)
theorem s68_6 {R : VP} {Q : EQ} (hN : ∀ e w, (m68_2 R (e 0) (e 1) (e 2) (e 3) w) → Q .normal e w) (e : Env) (w : World) (h : m68_6 R (e 0) (e 1) (e 2) (e 3) (e 6) w) : W68 k68_6 Q e w := by
  unfold m68_6 at h
  refine seA ?_
  have hN : ∀ e w, (m68_7 R (e 0) (e 1) (e 2) (e 3) (e 6) (e 19) w) → (thenE (W68 k68_7 Q) Q) .normal e w := fun e w h => then_N (s68_7 (R := R) (Q := Q) hN e w h)
  exact rgA 2 (fun e w => m68_7 R (e 0) (e 1) (e 2) (e 3) (e 6) (e 19) w) h hN
theorem s68_1 {R : VP} {Q : EQ} (hR : ∀ e w, (R (e 5) w) → Q .ret e w) (e : Env) (w : World) (h : m68_1 R (e 0) (e 1) (e 2) (e 3) w) : W68 k68_1 Q e w := by
  unfold m68_1 at h
  refine seA ?_
  have hN : ∀ e w, (m68_2 R (e 0) (e 1) (e 2) (e 3) w) → (thenE (W68 k68_2 Q) Q) .normal e w := fun e w h => then_N (s68_2 (R := R) (Q := Q) hR e w h)
  refine seA ?_
  have hN : ∀ e w, (m68_6 R (e 0) (e 1) (e 2) (e 3) (e 6) w) → (thenE (W68 k68_6 (thenE (W68 k68_2 Q) Q)) (thenE (W68 k68_2 Q) Q)) .normal e w := fun e w h => then_N (s68_6 (R := R) (Q := (thenE (W68 k68_2 Q) Q)) hN e w h)
  exact quA 1 (fun e w => m68_6 R (e 0) (e 1) (e 2) (e 3) (e 6) w) h hN
theorem s68_0 {R : VP} {Q : EQ} (hR : ∀ e w, (R (e 5) w) → Q .ret e w) (e : Env) (w : World) (h : m68_0 R (e 0) (e 1) (e 2) (e 3) w) : W68 k68_0 Q e w := by
  unfold m68_0 at h
  refine seA ?_
  have hN : ∀ e w, (m68_1 R (e 0) (e 1) (e 2) (e 3) w) → (thenE (W68 k68_1 Q) Q) .normal e w := fun e w h => then_N (s68_1 (R := R) (Q := Q) hR e w h)
  exact rgA 0 (fun e w => m68_1 R (e 0) (e 1) (e 2) (e 3) w) h hN
abbrev m68 (R : VP) (f0 t1 t2 t3 : Value) (w : World) : Prop := m68_0 R f0 t1 t2 t3 w
theorem s68 (f0 t1 t2 t3 : Value) {R : VP} {w : World} (h : m68 R f0 t1 t2 t3 w) :
    Calls Tryz.prog 68 #[f0, t1, t2, t3] w fun e w' => ∃ v, e = .returned v ∧ R v w' :=
  calls_of_cwp (st := (fun i => cond (Nat.beq i 5) 8 (cond (Nat.beq i 4) 7 (cond (Nat.beq i 1) 1 (0))))) (c := k68_0) (by kernel_rfl) Tryz.func68 (by kernel_rfl) (Nat.le_of_ble_eq_true (by kernel_rfl)) (by kernel_rfl)
    (s68_0 (R := R) (Q := endE Tryz.prog Tryz.f68 R) (fun e w h => kcast (by kernel_rfl) h) (argsE #[f0, t1, t2, t3]) w (kcast (by kernel_rfl) h))
def m67_3 (R : VP) (t2 : Value) (w : World) : Prop :=
  R t2 w
def m67_2 (R : VP) (w : World) : Prop :=
  m67_3 R (Value.int IntKind.i64 0) w
def m67_1 (R : VP) (f0 : Value) (w : World) : Prop :=
  anyDraw w fun w =>
  nilCheckP f0 fun t6 =>
  pureP Tryz.prog (Instr.fieldAt 78 t6 0) fun t7 =>
  nilCheckP f0 fun t10 =>
  pureP Tryz.prog (Instr.fieldAt 78 t10 1) fun t11 =>
  (valP Tryz.prog (Instr.loadAt 9 t7) w fun t8 w =>
  valP Tryz.prog (Instr.loadAt 9 t11) w fun t12 w =>
  pureP Tryz.prog (binS BinOp.add 9 (Operand.tmp 8) (Operand.tmp 12) t8 t12) fun t13 =>
  nilCheckP f0 fun t14 =>
  pureP Tryz.prog (Instr.fieldAt 78 t14 0) fun t15 =>
  unitP Tryz.prog (Instr.storeAt 9 t15 t13) w fun _ w =>
  nilCheckP f0 fun t16 =>
  pureP Tryz.prog (Instr.fieldAt 78 t16 1) fun t17 =>
  unitP Tryz.prog (Instr.storeAt 9 t17 (Value.string ⟨#[]⟩)) w fun _ w =>
  m67_2 R w) ∧ (valP Tryz.prog (Instr.loadAt 9 t11) w fun t12 w =>
  valP Tryz.prog (Instr.loadAt 9 t7) w fun t8 w =>
  pureP Tryz.prog (binS BinOp.add 9 (Operand.tmp 8) (Operand.tmp 12) t8 t12) fun t13 =>
  nilCheckP f0 fun t14 =>
  pureP Tryz.prog (Instr.fieldAt 78 t14 0) fun t15 =>
  unitP Tryz.prog (Instr.storeAt 9 t15 t13) w fun _ w =>
  nilCheckP f0 fun t16 =>
  pureP Tryz.prog (Instr.fieldAt 78 t16 1) fun t17 =>
  unitP Tryz.prog (Instr.storeAt 9 t17 (Value.string ⟨#[]⟩)) w fun _ w =>
  m67_2 R w)
def m67_0 (R : VP) (f0 : Value) (w : World) : Prop :=
  m67_1 R f0 w
abbrev W67 := cwp Tryz.prog (fun i => 0)
noncomputable def k67_0 : Code := (bodyOf Tryz.f67)
noncomputable def k67_1 : Code := (c2 k67_0)
noncomputable def k67_2 : Code := (c2 k67_1)
noncomputable def k67_3 : Code := (c2 k67_2)
theorem s67_3 {R : VP} {Q : EQ} (hR : ∀ e w, (R (e 2) w) → Q .ret e w) (e : Env) (w : World) (h : m67_3 R (e 2) w) : W67 k67_3 Q e w := by
  unfold m67_3 at h
  exact reA (hR _ _ h)
theorem s67_2 {R : VP} {Q : EQ} (hR : ∀ e w, (R (e 2) w) → Q .ret e w) (e : Env) (w : World) (h : m67_2 R w) : W67 k67_2 Q e w := by
  unfold m67_2 at h
  refine seA ?_
  have hN : ∀ e w, (m67_3 R (e 2) w) → (thenE (W67 k67_3 Q) Q) .normal e w := fun e w h => then_N (s67_3 (R := R) (Q := Q) hR e w h)
  exact rgA 2 (fun e w => m67_3 R (e 2) w) h hN
theorem s67_1 {R : VP} {Q : EQ} (hR : ∀ e w, (R (e 2) w) → Q .ret e w) (e : Env) (w : World) (h : m67_1 R (e 0) w) : W67 k67_1 Q e w := by
  unfold m67_1 at h
  refine seA ?_
  have hN : ∀ e w, (m67_2 R w) → (thenE (W67 k67_2 Q) Q) .normal e w := fun e w h => then_N (s67_2 (R := R) (Q := Q) hR e w h)
  exact tree_ok 1 17 [false, false, false, false, false, false, false, false, false, false, false, false, false, false, false, false, false] (.take 0 [true, false, false, false, false, false, false, false, false, false, false, false, false, false, false, false, false] (.take 1 [true, true, false, false, false, false, false, false, false, false, false, false, false, false, false, false, false] (.take 2 [true, true, true, false, false, false, false, false, false, false, false, false, false, false, false, false, false] (.take 3 [true, true, true, true, false, false, false, false, false, false, false, false, false, false, false, false, false] (.take 4 [true, true, true, true, true, false, false, false, false, false, false, false, false, false, false, false, false] (.take 6 [true, true, true, true, true, false, true, false, false, false, false, false, false, false, false, false, false] (.take 7 [true, true, true, true, true, false, true, true, false, false, false, false, false, false, false, false, false] (.take 8 [true, true, true, true, true, false, true, true, true, false, false, false, false, false, false, false, false] (.alt 5 [true, true, true, true, true, true, true, true, true, false, false, false, false, false, false, false, false] (.alt 9 [true, true, true, true, true, true, true, true, true, true, false, false, false, false, false, false, false] (.take 10 [true, true, true, true, true, true, true, true, true, true, true, false, false, false, false, false, false] (.take 11 [true, true, true, true, true, true, true, true, true, true, true, true, false, false, false, false, false] (.take 12 [true, true, true, true, true, true, true, true, true, true, true, true, true, false, false, false, false] (.alt 13 [true, true, true, true, true, true, true, true, true, true, true, true, true, true, false, false, false] (.take 14 [true, true, true, true, true, true, true, true, true, true, true, true, true, true, true, false, false] (.take 15 [true, true, true, true, true, true, true, true, true, true, true, true, true, true, true, true, false] (.alt 16 [true, true, true, true, true, true, true, true, true, true, true, true, true, true, true, true, true] .done .stop))) .stop)))) .stop) (.alt 9 [true, true, true, true, true, false, true, true, true, true, false, false, false, false, false, false, false] (.alt 5 [true, true, true, true, true, true, true, true, true, true, false, false, false, false, false, false, false] (.take 10 [true, true, true, true, true, true, true, true, true, true, true, false, false, false, false, false, false] (.take 11 [true, true, true, true, true, true, true, true, true, true, true, true, false, false, false, false, false] (.take 12 [true, true, true, true, true, true, true, true, true, true, true, true, true, false, false, false, false] (.alt 13 [true, true, true, true, true, true, true, true, true, true, true, true, true, true, false, false, false] (.take 14 [true, true, true, true, true, true, true, true, true, true, true, true, true, true, true, false, false] (.take 15 [true, true, true, true, true, true, true, true, true, true, true, true, true, true, true, true, false] (.alt 16 [true, true, true, true, true, true, true, true, true, true, true, true, true, true, true, true, true] .done .stop))) .stop)))) .stop) .stop)))))))))) (fun e w => m67_2 R w) (by kernel_rfl) (by kernel_rfl) (by kernel_rfl) (by kernel_rfl) (by kernel_rfl) (by kernel_rfl) (kcast (by kernel_rfl) h) hN (by kernel_rfl)
theorem s67_0 {R : VP} {Q : EQ} (hR : ∀ e w, (R (e 2) w) → Q .ret e w) (e : Env) (w : World) (h : m67_0 R (e 0) w) : W67 k67_0 Q e w := by
  unfold m67_0 at h
  refine seA ?_
  have hN : ∀ e w, (m67_1 R (e 0) w) → (thenE (W67 k67_1 Q) Q) .normal e w := fun e w h => then_N (s67_1 (R := R) (Q := Q) hR e w h)
  exact rgA 0 (fun e w => m67_1 R (e 0) w) h hN
abbrev m67 (R : VP) (f0 : Value) (w : World) : Prop := m67_0 R f0 w
theorem s67 (f0 : Value) {R : VP} {w : World} (h : m67 R f0 w) :
    Calls Tryz.prog 67 #[f0] w fun e w' => ∃ v, e = .returned v ∧ R v w' :=
  calls_of_cwp (st := (fun i => 0)) (c := k67_0) (by kernel_rfl) Tryz.func67 (by kernel_rfl) (Nat.le_of_ble_eq_true (by kernel_rfl)) (by kernel_rfl)
    (s67_0 (R := R) (Q := endE Tryz.prog Tryz.f67 R) (fun e w h => kcast (by kernel_rfl) h) (argsE #[f0]) w (kcast (by kernel_rfl) h))
def m66_4 (R : VP) (t4 : Value) (w : World) : Prop :=
  R t4 w
def m66_3 (R : VP) (w : World) : Prop :=
  m66_4 R (Value.int IntKind.i64 0) w
def m66_2 (R : VP) (t1 t2 : Value) (w : World) : Prop :=
  anyDraw w fun w =>
  valS Tryz.prog (Instr.loadAt 25 t1) w fun t15 =>
  nilCheckP t15 fun t16 =>
  valS Tryz.prog (Instr.fieldAt 61 t16 0) w fun t17 =>
  valS Tryz.prog (Instr.loadAt 59 t17) w fun t18 =>
  valS Tryz.prog (Instr.loadAt 9 t2) w fun t19 =>
  builtinP Tryz.prog Builtin.delete #[59, 9] 0 #[false, false] #[t18, t19] w fun _ w =>
  m66_3 R w
def m66_1 (R : VP) (f0 t1 t2 : Value) (w : World) : Prop :=
  anyDraw w fun w =>
  heldP w fun J =>
  valJ Tryz.prog J (Instr.loadAt 25 t1) fun t5 =>
  nilCheckP t5 fun t6 =>
  valJ Tryz.prog J (Instr.fieldAt 61 t6 1) fun t7 =>
  (valP Tryz.prog (Instr.loadAt 3 t7) w fun t8 w =>
  stayP J w
  (callP Tryz.prog (fnV 32) #[f0] w fun t10 w =>
  stayP J w
  (callP Tryz.prog (fnV 31) #[t10] w fun t11 w =>
  stayP J w
  (valJ Tryz.prog J (binS BinOp.add 3 (Operand.tmp 8) (Operand.tmp 11) t8 t11) fun t12 =>
  nilCheckP t5 fun t13 =>
  valJ Tryz.prog J (Instr.fieldAt 61 t13 1) fun t14 =>
  unitP Tryz.prog (Instr.storeAt 3 t14 t12) w fun _ w =>
  stayP J w
  (m66_2 R t1 t2 w))))) ∧ (callP Tryz.prog (fnV 32) #[f0] w fun t10 w =>
  stayP J w
  ((valP Tryz.prog (Instr.loadAt 3 t7) w fun t8 w =>
  stayP J w
  (callP Tryz.prog (fnV 31) #[t10] w fun t11 w =>
  stayP J w
  (valJ Tryz.prog J (binS BinOp.add 3 (Operand.tmp 8) (Operand.tmp 11) t8 t11) fun t12 =>
  nilCheckP t5 fun t13 =>
  valJ Tryz.prog J (Instr.fieldAt 61 t13 1) fun t14 =>
  unitP Tryz.prog (Instr.storeAt 3 t14 t12) w fun _ w =>
  stayP J w
  (m66_2 R t1 t2 w)))) ∧ (callP Tryz.prog (fnV 31) #[t10] w fun t11 w =>
  stayP J w
  (valP Tryz.prog (Instr.loadAt 3 t7) w fun t8 w =>
  stayP J w
  (valJ Tryz.prog J (binS BinOp.add 3 (Operand.tmp 8) (Operand.tmp 11) t8 t11) fun t12 =>
  nilCheckP t5 fun t13 =>
  valJ Tryz.prog J (Instr.fieldAt 61 t13 1) fun t14 =>
  unitP Tryz.prog (Instr.storeAt 3 t14 t12) w fun _ w =>
  stayP J w
  (m66_2 R t1 t2 w))))))
def m66_0 (R : VP) (f0 t1 t2 : Value) (w : World) : Prop :=
  m66_1 R f0 t1 t2 w
abbrev W66 := cwp Tryz.prog (fun i => cond (Nat.beq i 2) 7 (0))
noncomputable def k66_0 : Code := (bodyOf Tryz.f66)
noncomputable def k66_1 : Code := (c2 k66_0)
noncomputable def k66_2 : Code := (c2 k66_1)
noncomputable def k66_3 : Code := (c2 k66_2)
noncomputable def k66_4 : Code := (c2 k66_3)
theorem s66_4 {R : VP} {Q : EQ} (hR : ∀ e w, (R (e 4) w) → Q .ret e w) (e : Env) (w : World) (h : m66_4 R (e 4) w) : W66 k66_4 Q e w := by
  unfold m66_4 at h
  exact reA (hR _ _ h)
theorem s66_3 {R : VP} {Q : EQ} (hR : ∀ e w, (R (e 4) w) → Q .ret e w) (e : Env) (w : World) (h : m66_3 R w) : W66 k66_3 Q e w := by
  unfold m66_3 at h
  refine seA ?_
  have hN : ∀ e w, (m66_4 R (e 4) w) → (thenE (W66 k66_4 Q) Q) .normal e w := fun e w h => then_N (s66_4 (R := R) (Q := Q) hR e w h)
  exact rgA 3 (fun e w => m66_4 R (e 4) w) h hN
theorem s66_2 {R : VP} {Q : EQ} (hR : ∀ e w, (R (e 4) w) → Q .ret e w) (e : Env) (w : World) (h : m66_2 R (e 1) (e 2) w) : W66 k66_2 Q e w := by
  unfold m66_2 at h
  refine seA ?_
  have hN : ∀ e w, (m66_3 R w) → (thenE (W66 k66_3 Q) Q) .normal e w := fun e w h => then_N (s66_3 (R := R) (Q := Q) hR e w h)
  exact taA 2 5 (fun e w => m66_3 R w) h hN
theorem s66_1 {R : VP} {Q : EQ} (hR : ∀ e w, (R (e 4) w) → Q .ret e w) (e : Env) (w : World) (h : m66_1 R (e 0) (e 1) (e 2) w) : W66 k66_1 Q e w := by
  unfold m66_1 at h
  refine seA ?_
  have hN : ∀ e w, (m66_2 R (e 1) (e 2) w) → (thenE (W66 k66_2 Q) Q) .normal e w := fun e w h => then_N (s66_2 (R := R) (Q := Q) hR e w h)
  exact treeJ_ok 1 11 [false, false, false, false, false, false, false, false, false, false, false] (.take 0 [true, false, false, false, false, false, false, false, false, false, false] (.take 1 [true, true, false, false, false, false, false, false, false, false, false] (.take 2 [true, true, true, false, false, false, false, false, false, false, false] (.take 4 [true, true, true, false, true, false, false, false, false, false, false] (.alt 3 [true, true, true, true, true, false, false, false, false, false, false] (.alt 5 [true, true, true, true, true, true, false, false, false, false, false] (.alt 6 [true, true, true, true, true, true, true, false, false, false, false] (.take 7 [true, true, true, true, true, true, true, true, false, false, false] (.take 8 [true, true, true, true, true, true, true, true, true, false, false] (.take 9 [true, true, true, true, true, true, true, true, true, true, false] (.alt 10 [true, true, true, true, true, true, true, true, true, true, true] .done .stop)))) .stop) .stop) (.alt 5 [true, true, true, false, true, true, false, false, false, false, false] (.alt 3 [true, true, true, true, true, true, false, false, false, false, false] (.alt 6 [true, true, true, true, true, true, true, false, false, false, false] (.take 7 [true, true, true, true, true, true, true, true, false, false, false] (.take 8 [true, true, true, true, true, true, true, true, true, false, false] (.take 9 [true, true, true, true, true, true, true, true, true, true, false] (.alt 10 [true, true, true, true, true, true, true, true, true, true, true] .done .stop)))) .stop) (.alt 6 [true, true, true, false, true, true, true, false, false, false, false] (.alt 3 [true, true, true, true, true, true, true, false, false, false, false] (.take 7 [true, true, true, true, true, true, true, true, false, false, false] (.take 8 [true, true, true, true, true, true, true, true, true, false, false] (.take 9 [true, true, true, true, true, true, true, true, true, true, false] (.alt 10 [true, true, true, true, true, true, true, true, true, true, true] .done .stop)))) .stop) .stop)) .stop)))))) (fun e w => m66_2 R (e 1) (e 2) w) (by kernel_rfl) (by kernel_rfl) (by kernel_rfl) (by kernel_rfl) (by kernel_rfl) (by kernel_rfl) (kcast (by kernel_rfl) h) hN (by kernel_rfl)
theorem s66_0 {R : VP} {Q : EQ} (hR : ∀ e w, (R (e 4) w) → Q .ret e w) (e : Env) (w : World) (h : m66_0 R (e 0) (e 1) (e 2) w) : W66 k66_0 Q e w := by
  unfold m66_0 at h
  refine seA ?_
  have hN : ∀ e w, (m66_1 R (e 0) (e 1) (e 2) w) → (thenE (W66 k66_1 Q) Q) .normal e w := fun e w h => then_N (s66_1 (R := R) (Q := Q) hR e w h)
  exact rgA 0 (fun e w => m66_1 R (e 0) (e 1) (e 2) w) h hN
abbrev m66 (R : VP) (f0 t1 t2 : Value) (w : World) : Prop := m66_0 R f0 t1 t2 w
theorem s66 (f0 t1 t2 : Value) {R : VP} {w : World} (h : m66 R f0 t1 t2 w) :
    Calls Tryz.prog 66 #[f0, t1, t2] w fun e w' => ∃ v, e = .returned v ∧ R v w' :=
  calls_of_cwp (st := (fun i => cond (Nat.beq i 2) 7 (0))) (c := k66_0) (by kernel_rfl) Tryz.func66 (by kernel_rfl) (Nat.le_of_ble_eq_true (by kernel_rfl)) (by kernel_rfl)
    (s66_0 (R := R) (Q := endE Tryz.prog Tryz.f66 R) (fun e w h => kcast (by kernel_rfl) h) (argsE #[f0, t1, t2]) w (kcast (by kernel_rfl) h))
def m27_2 (R : VP) (t4 : Value) (w : World) : Prop :=
  R t4 w
def m27_1 (R : VP) (d0 name1 : Value) (w : World) : Prop :=
  callP Tryz.prog (fnV 65) #[d0, name1, (fnV 67)] w fun t7 w =>
  m27_2 R t7 w
def m27_0 (R : VP) (d0 name1 : Value) (w : World) : Prop :=
  m27_1 R d0 name1 w
abbrev W27 := cwp Tryz.prog (fun i => 0)
noncomputable def k27_0 : Code := (bodyOf Tryz.f27)
noncomputable def k27_1 : Code := (c2 k27_0)
noncomputable def k27_2 : Code := (c2 k27_1)
theorem s27_2 {R : VP} {Q : EQ} (hR : ∀ e w, (R (e 4) w) → Q .ret e w) (e : Env) (w : World) (h : m27_2 R (e 4) w) : W27 k27_2 Q e w := by
  unfold m27_2 at h
  exact reA (hR _ _ h)
theorem s27_1 {R : VP} {Q : EQ} (hR : ∀ e w, (R (e 4) w) → Q .ret e w) (e : Env) (w : World) (h : m27_1 R (e 0) (e 1) w) : W27 k27_1 Q e w := by
  unfold m27_1 at h
  refine seA ?_
  have hN : ∀ e w, (m27_2 R (e 4) w) → (thenE (W27 k27_2 Q) Q) .normal e w := fun e w h => then_N (s27_2 (R := R) (Q := Q) hR e w h)
  exact rgA 1 (fun e w => m27_2 R (e 4) w) h hN
theorem s27_0 {R : VP} {Q : EQ} (hR : ∀ e w, (R (e 4) w) → Q .ret e w) (e : Env) (w : World) (h : m27_0 R (e 0) (e 1) w) : W27 k27_0 Q e w := by
  unfold m27_0 at h
  refine seA ?_
  have hN : ∀ e w, (m27_1 R (e 0) (e 1) w) → (thenE (W27 k27_1 Q) Q) .normal e w := fun e w h => then_N (s27_1 (R := R) (Q := Q) hR e w h)
  exact rgA 0 (fun e w => m27_1 R (e 0) (e 1) w) h hN
abbrev m27 (R : VP) (d0 name1 : Value) (w : World) : Prop := m27_0 R d0 name1 w
theorem s27 (d0 name1 : Value) {R : VP} {w : World} (h : m27 R d0 name1 w) :
    Calls Tryz.prog 27 #[d0, name1] w fun e w' => ∃ v, e = .returned v ∧ R v w' :=
  calls_of_cwp (st := (fun i => 0)) (c := k27_0) (by kernel_rfl) Tryz.func27 (by kernel_rfl) (Nat.le_of_ble_eq_true (by kernel_rfl)) (by kernel_rfl)
    (s27_0 (R := R) (Q := endE Tryz.prog Tryz.f27 R) (fun e w h => kcast (by kernel_rfl) h) (argsE #[d0, name1]) w (kcast (by kernel_rfl) h))
def m26_2 (R : VP) (t4 : Value) (w : World) : Prop :=
  R t4 w
def m26_1 (R : VP) (d2 name3 : Value) (w : World) : Prop :=
  valP Tryz.prog (Instr.loadAt 25 d2) w fun t5 w =>
  valP Tryz.prog (Instr.loadAt 9 name3) w fun t6 w =>
  valP Tryz.prog (Instr.makeFunc (Fn.func 66) #[] #[d2, name3]) w fun t7 w =>
  callP Tryz.prog (fnV 65) #[t5, t6, t7] w fun t8 w =>
  m26_2 R t8 w
def m26_0 (R : VP) (d0 name1 : Value) (w : World) : Prop :=
  valP Tryz.prog (Instr.box 25 d0) w fun d2 w =>
  valP Tryz.prog (Instr.box 9 name1) w fun name3 w =>
  m26_1 R d2 name3 w
abbrev W26 := cwp Tryz.prog (fun i => 0)
noncomputable def k26_0 : Code := (bodyOf Tryz.f26)
noncomputable def k26_1 : Code := (c2 k26_0)
noncomputable def k26_2 : Code := (c2 k26_1)
theorem s26_2 {R : VP} {Q : EQ} (hR : ∀ e w, (R (e 4) w) → Q .ret e w) (e : Env) (w : World) (h : m26_2 R (e 4) w) : W26 k26_2 Q e w := by
  unfold m26_2 at h
  exact reA (hR _ _ h)
theorem s26_1 {R : VP} {Q : EQ} (hR : ∀ e w, (R (e 4) w) → Q .ret e w) (e : Env) (w : World) (h : m26_1 R (e 2) (e 3) w) : W26 k26_1 Q e w := by
  unfold m26_1 at h
  refine seA ?_
  have hN : ∀ e w, (m26_2 R (e 4) w) → (thenE (W26 k26_2 Q) Q) .normal e w := fun e w h => then_N (s26_2 (R := R) (Q := Q) hR e w h)
  exact rgA 1 (fun e w => m26_2 R (e 4) w) h hN
theorem s26_0 {R : VP} {Q : EQ} (hR : ∀ e w, (R (e 4) w) → Q .ret e w) (e : Env) (w : World) (h : m26_0 R (e 0) (e 1) w) : W26 k26_0 Q e w := by
  unfold m26_0 at h
  refine seA ?_
  have hN : ∀ e w, (m26_1 R (e 2) (e 3) w) → (thenE (W26 k26_1 Q) Q) .normal e w := fun e w h => then_N (s26_1 (R := R) (Q := Q) hR e w h)
  exact rgA 0 (fun e w => m26_1 R (e 2) (e 3) w) h hN
abbrev m26 (R : VP) (d0 name1 : Value) (w : World) : Prop := m26_0 R d0 name1 w
theorem s26 (d0 name1 : Value) {R : VP} {w : World} (h : m26 R d0 name1 w) :
    Calls Tryz.prog 26 #[d0, name1] w fun e w' => ∃ v, e = .returned v ∧ R v w' :=
  calls_of_cwp (st := (fun i => 0)) (c := k26_0) (by kernel_rfl) Tryz.func26 (by kernel_rfl) (Nat.le_of_ble_eq_true (by kernel_rfl)) (by kernel_rfl)
    (s26_0 (R := R) (Q := endE Tryz.prog Tryz.f26 R) (fun e w h => kcast (by kernel_rfl) h) (argsE #[d0, name1]) w (kcast (by kernel_rfl) h))
end Go.Proofs.YtcldjjmfpmkldaaGreatDoor.M
namespace Go.Proofs.YtcldjjmfpmkldaaGreatDoor.M
open Go.Proofs.YtcldjjmfpmkldaaGreatDoor.F Go.RowKit
set_option linter.unusedVariables false
set_option linter.unusedSimpArgs false
set_option maxRecDepth 100000
set_option maxHeartbeats 2000000
attribute [local irreducible] Res.cells Res.row Res.map Res.any World.cell? World.frozen? Instr.fieldAt Instr.loadAt Instr.storeAt Instr.indexAt Instr.lookup Instr.mapUpdate Instr.box Instr.build Instr.buildSlice Instr.extract Instr.alloc Instr.field Instr.index Instr.sliceAt Instr.makeSlice Instr.makeMap Instr.makeFunc binS Op.unary Sem.run
structure Fl where
  name : ByteArray
  sure : ByteArray
  loose : ByteArray
def Fl.sz (f : Fl) : Nat := f.sure.size + f.loose.size
structure Dk where
  L : List Fl
  room : Int
  fuse : Int
  off : Bool
def blk (n : Nat) : Nat := max 1 ((n + 63) / 64)
abbrev dCell (b : Nat) (m : Value) (r f : Int) (o : Bool) : Res := Res.cells b 61 [m, .int .i64 r, .int .i64 f, .bool o]
abbrev fCell (g : Nat) (a c : ByteArray) : Res := Res.cells g 78 [.string a, .string c]
abbrev fileR (p : Fl × Nat) : Res := fCell p.2 p.1.sure p.1.loose
abbrev nb (p : Fl × Nat) : ByteArray × Nat := (p.1.name, p.2)
abbrev mapD (mb : Nat) (X : List (Fl × Nat)) : Res := Res.mapT Tryz.prog 9 mb (X.map nb)
/-- the disk at b is D. -/
def Dsk (w0 : World) (F : List Nat) (L : List Res) (b : Nat) (D : Dk) (w : World) : Prop := ∃ mb X, X.map Prod.fst = D.L ∧ St w0 F w (dCell b (.map (some mb)) D.room D.fuse D.off :: mapD mb X :: (X.map fileR ++ L))
/-- in the order of their names. -/
def UpL (l : List Fl) : Prop := l.Pairwise (fun a b => lst a.name < lst b.name)
theorem up_nb {X : List (Fl × Nat)} (h : UpL (X.map Prod.fst)) : Up (X.map nb) := by
  unfold Up UpL at *
  rw [List.pairwise_map] at *
  exact h
def burnt (D : Dk) : Dk := if D.fuse = 0 then ⟨D.L, D.room, D.fuse, true⟩ else if 0 < D.fuse then ⟨D.L, D.room, D.fuse - 1, D.off⟩ else D
section
variable {w0 w : World} {F : List Nat} {L : List Res}
theorem blocks_ret {n : Nat} (hn : n ≤ 1000000000000) (hS : St w0 F w L) : Ret Tryz.prog 31 #[.int .i64 (n : Int)] w fun v w' => v = .int .i64 (blk n : Int) ∧ St w0 F w' L := by
  refine s31 _ ?_
  unfold m31
  unfold m31_0
  unfold m31_1
  refine valP_ok (add_ok _ _ _ (by omega) (by omega) _) ?_
  refine valP_ok (sub_ok _ _ _ (by omega) (by omega) _) ?_
  refine valP_ok (quo_ok _ _ _ (by omega) (by omega) (by omega) _) ?_
  refine builtin_ok (max_run _ _ _) ?_
  unfold m31_2
  refine ⟨?_, hS⟩
  unfold blk
  congr 1
  omega
theorem size_ret (k : Nat) {g : Nat} {a c : ByteArray} (hz : a.size + c.size ≤ 1000000000000) (hk : L[k]? = some (fCell g a c)) (hS : St w0 F w L) : Ret Tryz.prog 32 #[ptr g] w fun v w' => v = .int .i64 ((a.size + c.size : Nat) : Int) ∧ St w0 F w' L := by
  have c0 := hS.cell k hk (i := 0) rfl
  have c1 := hS.cell k hk (i := 1) rfl
  refine s32 _ ?_
  unfold m32 m32_0 m32_1
  refine nil_ok ?_
  refine valQ_ok (fun w => fa78_0 _ _) ?_
  refine valQ_load ld9 c0 ?_
  refine builtinQ_ok (len9) ?_
  refine nil_ok ?_
  first | refine valQ_ok (fa78_1 _) ?_ | refine valQ_ok (fao78_1 _ _) ?_
  refine valQ_load ld9 c1 ?_
  refine builtinQ_ok (len9) ?_
  refine valQ_ok (add_ok _ _ _ (by omega) (by omega)) ?_
  refine drawn_ok hS ?_
  intro w hS
  unfold m32_2
  refine ⟨?_, hS⟩
  congr 1
theorem burn_ret {b : Nat} {m : Value} {r f : Int} {o : Bool} (hf : -9223372036854775808 ≤ f ∧ f ≤ 9223372036854775807) (hS : St w0 F w (dCell b m r f o :: L)) : Ret Tryz.prog 45 #[ptr b] w fun v w' => v = .bool (decide (¬ f = 0)) ∧ St w0 F w' (dCell b m r (if 0 < f then f - 1 else f) (if f = 0 then true else o) :: L) := by
  refine s45 _ ?_
  unfold m45
  unfold m45_0
  unfold m45_1
  refine nil_ok ?_
  first | refine valP_ok (fa61_2 _ _) ?_ | refine valP_ok (fao61_2 _ _ _) ?_
  first | refine valP_ok (ld3 (hS.cell 0 rfl rfl)) ?_ | refine valP_ok (ld3 (hS.cell 1 rfl rfl)) ?_ | refine valP_ok (ld3 (hS.cell 2 rfl rfl)) ?_ | refine valP_ok (ld3 (hS.cell 3 rfl rfl)) ?_ | refine valP_ok (ld3 (hS.cell 4 rfl rfl)) ?_ | refine valP_ok (ld3 (hS.cell 5 rfl rfl)) ?_ | refine valP_ok (ld3 (hS.cell 6 rfl rfl)) ?_ | refine valP_ok (ld3 (hS.cell 7 rfl rfl)) ?_ | refine valP_ok (ld3 (by assumption)) ?_
  refine valP_ok (eq3 _ _ _ _ _) ?_
  unfold m45_6
  refine cond_split (fun h => ?_) (fun h => ?_)
  · refine nil_ok ?_
    first | refine valP_ok (fa61_3 _ _) ?_ | refine valP_ok (fao61_3 _ _ _) ?_
    first | refine store_at 0 st4 hS rfl (by simp) rfl ?_ | refine store_at 1 st4 hS rfl (by simp) rfl ?_ | refine store_at 2 st4 hS rfl (by simp) rfl ?_ | refine store_at 3 st4 hS rfl (by simp) rfl ?_ | refine store_at 4 st4 hS rfl (by simp) rfl ?_ | refine store_at 5 st4 hS rfl (by simp) rfl ?_ | refine store_at 6 st4 hS rfl (by simp) rfl ?_ | refine store_at 7 st4 hS rfl (by simp) rfl ?_
    intro w hS
    simp only [List.set_cons_zero, List.set_cons_succ] at hS
    unfold m45_7 m45_8
    rw [if_pos h, if_neg (by omega)]
    exact ⟨congrArg Value.bool (decide_eq_false (not_not_intro h)).symm, hS⟩
  · unfold m45_2
    refine nil_ok ?_
    first | refine valP_ok (fa61_2 _ _) ?_ | refine valP_ok (fao61_2 _ _ _) ?_
    first | refine valP_ok (ld3 (hS.cell 0 rfl rfl)) ?_ | refine valP_ok (ld3 (hS.cell 1 rfl rfl)) ?_ | refine valP_ok (ld3 (hS.cell 2 rfl rfl)) ?_ | refine valP_ok (ld3 (hS.cell 3 rfl rfl)) ?_ | refine valP_ok (ld3 (hS.cell 4 rfl rfl)) ?_ | refine valP_ok (ld3 (hS.cell 5 rfl rfl)) ?_ | refine valP_ok (ld3 (hS.cell 6 rfl rfl)) ?_ | refine valP_ok (ld3 (hS.cell 7 rfl rfl)) ?_ | refine valP_ok (ld3 (by assumption)) ?_
    refine valP_ok (gtr_ok _ _ _ _ _ _ _) ?_
    unfold m45_5
    rw [if_neg h]
    refine cond_split (fun h1 => ?_) (fun h1 => ?_)
    · refine nil_ok ?_
      first | refine valP_ok (fa61_2 _ _) ?_ | refine valP_ok (fao61_2 _ _ _) ?_
      first | refine valP_ok (ld3 (hS.cell 0 rfl rfl)) ?_ | refine valP_ok (ld3 (hS.cell 1 rfl rfl)) ?_ | refine valP_ok (ld3 (hS.cell 2 rfl rfl)) ?_ | refine valP_ok (ld3 (hS.cell 3 rfl rfl)) ?_ | refine valP_ok (ld3 (hS.cell 4 rfl rfl)) ?_ | refine valP_ok (ld3 (hS.cell 5 rfl rfl)) ?_ | refine valP_ok (ld3 (hS.cell 6 rfl rfl)) ?_ | refine valP_ok (ld3 (hS.cell 7 rfl rfl)) ?_ | refine valP_ok (ld3 (by assumption)) ?_
      refine valP_ok (sub_ok _ _ _ (by omega) (by omega) _) ?_
      refine nil_ok ?_
      first | refine valP_ok (fa61_2 _ _) ?_ | refine valP_ok (fao61_2 _ _ _) ?_
      first | refine store_at 0 st3 hS rfl (by simp) rfl ?_ | refine store_at 1 st3 hS rfl (by simp) rfl ?_ | refine store_at 2 st3 hS rfl (by simp) rfl ?_ | refine store_at 3 st3 hS rfl (by simp) rfl ?_ | refine store_at 4 st3 hS rfl (by simp) rfl ?_ | refine store_at 5 st3 hS rfl (by simp) rfl ?_ | refine store_at 6 st3 hS rfl (by simp) rfl ?_ | refine store_at 7 st3 hS rfl (by simp) rfl ?_
      intro w hS
      simp only [List.set_cons_zero, List.set_cons_succ] at hS
      unfold m45_3 m45_4
      rw [if_pos h1]
      exact ⟨congrArg Value.bool (decide_eq_true h).symm, hS⟩
    · unfold m45_3 m45_4
      rw [if_neg h1]
      exact ⟨congrArg Value.bool (decide_eq_true h).symm, hS⟩
/-- why a disk does nothing. -/
def readyC (xs : List ByteArray) (o : Bool) : Int := if ∀ x ∈ xs, Named x then (if o then 4 else 0) else 1
theorem ready_ret {xs : List ByteArray} {A : Option Addr} {c b : Nat} {m : Value} {r f : Int} {o : Bool} (k : Nat) (hk : L[k]? = some (dCell b m r f o)) (hm : xs.length ≤ 1000) (hE : Bes w0 F L 1 A xs.length (xs.map Value.string)) (hS : St w0 F w L) : Ret Tryz.prog 44 #[ptr b, .slice A xs.length c] w fun v w' => v = .int .i64 (readyC xs o) ∧ St w0 F w' L := by
  refine s44 _ _ ?_
  unfold m44
  unfold m44_0
  unfold m44_1
  refine builtin_ok (len71 _) ?_
  unfold m44_7
  refine loop_in (fun u w' => ∃ i : Nat, u = .int .i64 (i : Int) ∧ i ≤ xs.length ∧ (∀ j (hj : j < xs.length), j < i → Named xs[j]) ∧ St w0 F w' L) (fun u _ => xs.length - (intOf u).toNat) ⟨0, rfl, by omega, fun j _ h => by omega, hS⟩ ?_
  clear hS
  rintro u w ⟨i, rfl, hi, hno, hS⟩
  unfold m44_8
  refine valP_ok (lss_ok _ _ _ _ _ _ _) ?_
  unfold m44_9
  refine cond_split (fun h => ?_) (fun h => ?_)
  · have hil : i < xs.length := by omega
    have hR := hE.rd hS
    obtain ⟨gb, oo, rfl⟩ := hR.some_ (by omega) (by omega)
    unfold m44_10
    refine valP_ok (ix71 hil _) ?_
    refine valP_ok (ld9 (hR.cell_ (by rw [List.getElem?_map, List.getElem?_eq_getElem hil]; rfl))) ?_
    unfold m44_12
    refine valP_ok (eq25s _ _ _ _) ?_
    refine cond_f rfl ?_
    refine callR (by kernel_rfl) (named_ret hS) ?_
    rintro _ w ⟨rfl, hS⟩
    first | refine valP_ok (not_ok _ _) ?_ | refine valP_ok (notb_ok _ _) ?_
    first | refine pick_dt (by first | assumption | omega) ?_ | refine pick_df (by first | assumption | omega) ?_ | refine pick_t (by first | rfl | assumption) ?_ | refine pick_f (by first | rfl | assumption) ?_ | refine pick_dt rfl ?_ | refine pick_df (not_not_intro rfl) ?_
    unfold m44_13
    refine cond_split (fun h1 => ?_) (fun h1 => ?_)
    · unfold m44_14 readyC
      rw [if_neg (fun h2 => h1 (h2 _ (List.getElem_mem hil)))]
      exact ⟨rfl, hS⟩
    · unfold m44_11
      refine valP_ok (add_ok _ _ _ (by omega) (by omega) _) ?_
      refine ⟨⟨i + 1, rfl, by omega, fun j hj h3 => ?_, hS⟩, by simp [intOf]; omega⟩
      rcases Nat.lt_or_ge j i with g | g
      · exact hno j hj g
      · obtain rfl : j = i := by omega
        exact Classical.not_not.1 h1
  · have hall : ∀ x ∈ xs, Named x := fun x hx => by
      obtain ⟨j, hj, rfl⟩ := List.mem_iff_getElem.1 hx
      exact hno j hj (by omega)
    unfold m44_2
    refine nil_ok ?_
    refine valP_ok (fa61_3 _ _) ?_
    refine valP_ok (ld4 (hS.cell k hk (i := 3) rfl)) ?_
    unfold m44_5 readyC
    rw [if_pos hall]
    cases o with
    | true =>
      refine cond_t rfl ?_
      unfold m44_6
      exact ⟨rfl, hS⟩
    | false =>
      refine cond_f rfl ?_
      unfold m44_3 m44_4
      exact ⟨rfl, hS⟩
theorem new_ret {n : Int} (hS : St w0 F w L) : Ret Tryz.prog 6 #[.int .i64 n] w fun v w' => if 1 ≤ n ∧ n ≤ 16384 then ∃ b, v = .tuple #[ptr b, .int .i64 0] ∧ Dsk w0 F L b ⟨[], n, -1, false⟩ w' else v = .tuple #[.pointer none, .int .i64 1] ∧ St w0 F w' L := by
  have bad : ¬ (1 ≤ n ∧ n ≤ 16384) → m6_4 (fun v w' => if 1 ≤ n ∧ n ≤ 16384 then ∃ b, v = .tuple #[ptr b, .int .i64 0] ∧ Dsk w0 F L b ⟨[], n, -1, false⟩ w' else v = .tuple #[.pointer none, .int .i64 1] ∧ St w0 F w' L) (.int .i64 n) (.bool true) w := fun h => by
    unfold m6_4
    refine cond_t rfl ?_
    unfold m6_5
    simp only [if_neg h]
    exact ⟨trivial, hS⟩
  refine s6 _ ?_
  unfold m6
  unfold m6_0
  unfold m6_1
  refine valP_ok (lss_ok _ _ _ _ _ _ _) ?_
  refine cond_split (fun h => ?_) (fun h => ?_)
  · first | refine pick_dt (by first | assumption | omega) ?_ | refine pick_df (by first | assumption | omega) ?_ | refine pick_t (by first | rfl | assumption) ?_ | refine pick_f (by first | rfl | assumption) ?_ | refine pick_dt rfl ?_ | refine pick_df (not_not_intro rfl) ?_
    exact bad (by omega)
  · refine valP_ok (gtr_ok _ _ _ _ _ _ _) ?_
    first | refine pick_dt (by first | assumption | omega) ?_ | refine pick_df (by first | assumption | omega) ?_ | refine pick_t (by first | rfl | assumption) ?_ | refine pick_f (by first | rfl | assumption) ?_ | refine pick_dt rfl ?_ | refine pick_df (not_not_intro rfl) ?_
    by_cases h1 : 16384 < n
    · rw [decide_eq_true h1]
      exact bad (by omega)
    · rw [decide_eq_false h1]
      unfold m6_4
      refine cond_f rfl ?_
      unfold m6_2
      refine makeMapT_ok 9 hS ?_
      intro mb w hS
      refine valP_ok (bd61_0_1_2 rfl rfl rfl _) ?_
      refine new_ok (bx61 _ _ _ _ _) hS ?_
      intro b13 w hS
      unfold m6_3
      simp only [show (1 ≤ n ∧ n ≤ 16384) from by omega, and_self, if_true]
      exact ⟨_, rfl, mb, [], rfl, hS⟩
theorem fuse_ret {b : Nat} {m : Value} {r f n : Int} {o : Bool} (hS : St w0 F w (dCell b m r f o :: L)) : Ret Tryz.prog 8 #[ptr b, .int .i64 n] w fun v w' => St w0 F w' (dCell b m r (max n (-1)) o :: L) := by
  refine s8 _ _ ?_
  unfold m8
  unfold m8_0
  first | refine valP_ok (ne25n _ _ _) ?_ | refine valP_ok (ne25s _ _ _ _) ?_
  unfold m8_1
  refine cond_t rfl ?_
  refine builtin_ok (max_run _ _ _) ?_
  refine nil_ok ?_
  first | refine valP_ok (fa61_2 _ _) ?_ | refine valP_ok (fao61_2 _ _ _) ?_
  first | refine store_at 0 st3 hS rfl (by simp) rfl ?_ | refine store_at 1 st3 hS rfl (by simp) rfl ?_ | refine store_at 2 st3 hS rfl (by simp) rfl ?_ | refine store_at 3 st3 hS rfl (by simp) rfl ?_ | refine store_at 4 st3 hS rfl (by simp) rfl ?_ | refine store_at 5 st3 hS rfl (by simp) rfl ?_ | refine store_at 6 st3 hS rfl (by simp) rfl ?_ | refine store_at 7 st3 hS rfl (by simp) rfl ?_
  intro w hS
  simp only [List.set_cons_zero, List.set_cons_succ] at hS
  exact hS
end
end Go.Proofs.YtcldjjmfpmkldaaGreatDoor.M
namespace Go.Proofs.YtcldjjmfpmkldaaGreatDoor.M
open Go.Proofs.YtcldjjmfpmkldaaGreatDoor.F Go.RowKit
set_option linter.unusedVariables false
set_option linter.unusedSimpArgs false
set_option maxRecDepth 100000
set_option maxHeartbeats 2000000
attribute [local irreducible] Res.cells Res.row Res.map Res.any World.cell? World.frozen? Instr.fieldAt Instr.loadAt Instr.storeAt Instr.indexAt Instr.lookup Instr.mapUpdate Instr.box Instr.build Instr.buildSlice Instr.extract Instr.alloc Instr.field Instr.index Instr.sliceAt Instr.makeSlice Instr.makeMap Instr.makeFunc binS Op.unary Sem.run
def getF (l : List Fl) (s : ByteArray) : Option Fl := l.find? (fun f => decide (f.name = s))
def updF (l : List Fl) (f' : Fl) : List Fl := l.map (fun f => if f.name = f'.name then f' else f)
def insX (p : Fl × Nat) : List (Fl × Nat) → List (Fl × Nat)
  | [] => [p]
  | q :: X => if lst p.1.name < lst q.1.name then p :: q :: X else q :: insX p X
def insF (f : Fl) : List Fl → List Fl
  | [] => [f]
  | q :: X => if lst f.name < lst q.name then f :: q :: X else q :: insF f X
theorem insX_map (p : Fl × Nat) : ∀ X, (insX p X).map Prod.fst = insF p.1 (X.map Prod.fst)
  | [] => rfl
  | q :: X => by
    unfold insX
    simp only [List.map_cons, insF]
    split
    · rfl
    · rw [List.map_cons, insX_map p X]
theorem insX_perm (p : Fl × Nat) : ∀ X, (insX p X).Perm (p :: X)
  | [] => .refl _
  | q :: X => by
    unfold insX
    split
    · exact .refl _
    · exact ((insX_perm p X).cons q).trans (.swap _ _ _)
theorem insF_perm (f : Fl) : ∀ l, (insF f l).Perm (f :: l)
  | [] => .refl _
  | q :: l => by
    unfold insF
    split
    · exact .refl _
    · exact ((insF_perm f l).cons q).trans (.swap _ _ _)
theorem lt_of_ne {a b : ByteArray} (h : ¬ lst a < lst b) (hne : a ≠ b) : lst b < lst a := by
  refine Classical.byContradiction fun h1 => hne (lst_inj ?_)
  exact List.le_antisymm (List.not_lt.1 h1) (List.not_lt.1 h)
theorem insF_up {f : Fl} : ∀ {l : List Fl}, UpL l → (∀ g ∈ l, g.name ≠ f.name) → UpL (insF f l)
  | [], _, _ => List.pairwise_singleton _ _
  | q :: l, h, hn => by
    have hq := List.pairwise_cons.1 h
    unfold insF
    split
    · rename_i h1
      refine List.pairwise_cons.2 ⟨fun g hg => ?_, h⟩
      rcases List.mem_cons.1 hg with rfl | hg
      · exact h1
      · exact List.lt_trans h1 (hq.1 g hg)
    · rename_i h1
      refine List.pairwise_cons.2 ⟨fun g hg => ?_, insF_up hq.2 (fun g hg => hn g (.tail _ hg))⟩
      rcases List.mem_cons.1 ((insF_perm f l).mem_iff.1 hg) with rfl | hg
      · exact lt_of_ne h1 (hn q (.head _)).symm
      · exact hq.1 g hg
theorem up_ne {l : List Fl} (h : UpL l) : l.Pairwise (fun a b => a.name ≠ b.name) := h.imp fun hab e => by rw [e] at hab; exact absurd hab (List.lt_irrefl _)
theorem getF_mem {l : List Fl} (h : UpL l) {f : Fl} (hf : f ∈ l) : getF l f.name = some f := by
  induction l with
  | nil => cases hf
  | cons q l ih =>
    have hq := List.pairwise_cons.1 (up_ne h)
    unfold getF
    rcases List.mem_cons.1 hf with rfl | hf
    · simp
    · rw [List.find?_cons_of_neg (by simp [hq.1 f hf])]
      exact ih (List.pairwise_cons.1 h).2 hf
theorem getF_none {l : List Fl} {s : ByteArray} (h : ∀ f ∈ l, f.name ≠ s) : getF l s = none := List.find?_eq_none.2 fun f hf => by simp [h f hf]
theorem getF_some {l : List Fl} {s : ByteArray} {f : Fl} (h : getF l s = some f) : f ∈ l ∧ f.name = s := ⟨List.mem_of_find?_eq_some h, by simpa using List.find?_some h⟩
theorem look_X {X : List (Fl × Nat)} (hU : UpL (X.map Prod.fst)) (s : ByteArray) : (Assoc.find (X.map nb) s = none ∧ getF (X.map Prod.fst) s = none ∧ ∀ p ∈ X, p.1.name ≠ s) ∨ ∃ i, ∃ hi : i < X.length, Assoc.find (X.map nb) s = some X[i].2 ∧ getF (X.map Prod.fst) s = some X[i].1 ∧ X[i].1.name = s := by
  cases hf : Assoc.find (X.map nb) s with
  | none =>
    have h := Assoc.find_none hf
    have h2 : ∀ p ∈ X, p.1.name ≠ s := fun p hp => h (nb p) (List.mem_map.2 ⟨p, hp, rfl⟩)
    exact .inl ⟨rfl, getF_none (fun f hf => by obtain ⟨p, hp, rfl⟩ := List.mem_map.1 hf; exact h2 p hp), h2⟩
  | some g =>
    have h := Assoc.find_some hf
    obtain ⟨p, hp, he⟩ := List.mem_map.1 h
    obtain ⟨i, hi, rfl⟩ := List.mem_iff_getElem.1 hp
    obtain ⟨rfl, rfl⟩ := Prod.mk.inj he
    exact .inr ⟨i, hi, rfl, getF_mem hU (List.mem_map.2 ⟨_, List.getElem_mem hi, rfl⟩), rfl⟩
theorem updF_set : ∀ {l : List Fl} (_ : UpL l) {i : Nat} (hi : i < l.length) {f' : Fl} (_ : l[i].name = f'.name), l.set i f' = updF l f'
  | [], _, i, hi, _, _ => absurd hi (Nat.not_lt_zero _)
  | q :: l, h, 0, hi, f', e => by
    have hq := List.pairwise_cons.1 (up_ne h)
    simp only [List.getElem_cons_zero] at e
    unfold updF
    rw [List.set_cons_zero, List.map_cons, if_pos e]
    congr 1
    exact (Eq.trans (List.map_congr_left (g := id) (fun g hg => if_neg (fun h2 => hq.1 g hg (e.trans h2.symm)))) (List.map_id l)).symm
  | q :: l, h, i + 1, hi, f', e => by
    have hq := List.pairwise_cons.1 (up_ne h)
    simp only [List.getElem_cons_succ] at e
    have hl : i < l.length := by simpa using hi
    have ih := updF_set (List.pairwise_cons.1 h).2 hl e
    unfold updF at ih ⊢
    rw [List.set_cons_succ, List.map_cons, if_neg (fun h2 => hq.1 _ (List.getElem_mem hl) (h2.trans e.symm)), ih]
theorem updX_map {X : List (Fl × Nat)} (hU : UpL (X.map Prod.fst)) {i : Nat} (hi : i < X.length) {f' : Fl} (e : X[i].1.name = f'.name) : (X.set i (f', X[i].2)).map Prod.fst = updF (X.map Prod.fst) f' := by
  rw [List.map_set]
  exact updF_set hU (by simpa using hi) (by simpa using e)
theorem nb_set {X : List (Fl × Nat)} {i : Nat} (hi : i < X.length) {f' : Fl} (e : X[i].1.name = f'.name) : (X.set i (f', X[i].2)).map nb = X.map nb := by
  rw [List.map_set]
  have : nb (f', X[i].2) = (X.map nb)[i]'(by simpa using hi) := by simp [nb, e]
  rw [this, List.set_getElem_self]
theorem fileAt {X : List (Fl × Nat)} {i : Nat} (hi : i < X.length) (L : List Res) (a b : Res) : (a :: b :: (X.map fileR ++ L))[i + 2]? = some (fileR X[i]) := by
  rw [List.getElem?_cons_succ, List.getElem?_cons_succ, List.getElem?_append_left (by simpa using hi)]
  simp [hi]
theorem fileSet {X : List (Fl × Nat)} {i : Nat} (hi : i < X.length) (L : List Res) (a b : Res) (f' : Fl) : (a :: b :: (X.map fileR ++ L)).set (i + 2) (fileR (f', X[i].2)) = a :: b :: ((X.set i (f', X[i].2)).map fileR ++ L) := by
  rw [List.set_cons_succ, List.set_cons_succ, List.set_append_left _ _ (by simpa using hi), List.map_set]
def used (l : List Fl) : Nat := (l.map (fun f => blk f.sz)).sum
/-- a disk of so many blocks. -/
structure Ok (size : Nat) (D : Dk) : Prop where
  up : UpL D.L
  len : D.L.length ≤ 256
  room : 0 ≤ D.room
  sum : D.room + used D.L = size
  names : ∀ f ∈ D.L, f.name.size ≤ 24
  fuse : -1 ≤ D.fuse ∧ D.fuse ≤ 9223372036854775807
  size : size ≤ 16384
theorem used_mem {l : List Fl} {f : Fl} (h : f ∈ l) : blk f.sz ≤ used l := by
  unfold used
  induction l with
  | nil => cases h
  | cons q l ih =>
    rw [List.map_cons, List.sum_cons]
    rcases List.mem_cons.1 h with rfl | h
    · omega
    · have := ih h
      omega
theorem Ok.sz {n : Nat} {D : Dk} (h : Ok n D) {f : Fl} (hf : f ∈ D.L) : f.sz ≤ 1048576 := by
  have h1 := used_mem hf
  have h2 := h.sum
  have h3 := h.room
  have h4 := h.size
  unfold blk at h1
  omega
end Go.Proofs.YtcldjjmfpmkldaaGreatDoor.M
namespace Go.Proofs.YtcldjjmfpmkldaaGreatDoor.M
open Go.Proofs.YtcldjjmfpmkldaaGreatDoor.F
set_option linter.unusedVariables false
set_option maxRecDepth 100000
def m17_21 (R : VP) (t6 : Value) (w : World) : Prop :=
  R t6 w
def m17_17 (R : VP) (t6 : Value) (w : World) : Prop :=
  R t6 w
def m17_13 (R : VP) (t6 : Value) (w : World) : Prop :=
  R t6 w
def m17_11 (R : VP) (t6 : Value) (w : World) : Prop :=
  R t6 w
def m17_10 (R : VP) (w : World) : Prop :=
  m17_11 R (Value.int IntKind.i64 0) w
def m17_12 (R : VP) (t84 : Value) (w : World) : Prop :=
  condP t84
  (m17_13 R (Value.int IntKind.i64 4) w)
  (m17_10 R w)
def m17_9 (R : VP) (d0 : Value) (w : World) : Prop :=
  callP Tryz.prog (fnV 45) #[d0] w fun t83 w =>
  valP Tryz.prog (Op.unary UnOp.not t83) w fun t84 w =>
  m17_12 R t84 w
def m17_8 (R : VP) (d0 s2 f8 : Value) (w : World) : Prop :=
  nilCheckP f8 fun t75 =>
  valP Tryz.prog (Instr.fieldAt 78 t75 1) w fun t76 w =>
  valP Tryz.prog (Instr.loadAt 9 t76) w fun t77 w =>
  valP Tryz.prog (binS BinOp.add 9 (Operand.tmp 77) (Operand.tmp 78) t77 s2) w fun t79 w =>
  nilCheckP f8 fun t80 =>
  valP Tryz.prog (Instr.fieldAt 78 t80 1) w fun t81 w =>
  unitP Tryz.prog (Instr.storeAt 9 t81 t79) w fun _ w =>
  m17_9 R d0 w
def m17_7 (R : VP) (d0 s2 f8 need9 : Value) (w : World) : Prop :=
  nilCheckP d0 fun t67 =>
  valP Tryz.prog (Instr.fieldAt 61 t67 1) w fun t68 w =>
  valP Tryz.prog (Instr.loadAt 3 t68) w fun t69 w =>
  valP Tryz.prog (binS BinOp.sub 3 (Operand.tmp 69) (Operand.tmp 70) t69 need9) w fun t71 w =>
  nilCheckP d0 fun t72 =>
  valP Tryz.prog (Instr.fieldAt 61 t72 1) w fun t73 w =>
  unitP Tryz.prog (Instr.storeAt 3 t73 t71) w fun _ w =>
  m17_8 R d0 s2 f8 w
def m17_15 (R : VP) (d0 name1 s2 f8 need9 : Value) (w : World) : Prop :=
  nilCheckP d0 fun t61 =>
  valP Tryz.prog (Instr.fieldAt 61 t61 0) w fun t62 w =>
  valP Tryz.prog (Instr.loadAt 59 t62) w fun t63 w =>
  unitP Tryz.prog (Instr.mapUpdate 59 t63 name1 f8) w fun _ w =>
  m17_7 R d0 s2 f8 need9 w
def m17_14 (R : VP) (d0 name1 s2 f8 need9 t57 : Value) (w : World) : Prop :=
  condP t57
  (valP Tryz.prog (Instr.build 78 #[]) w fun t58 w =>
  valP Tryz.prog (Instr.box 78 t58) w fun t59 w =>
  m17_15 R d0 name1 s2 t59 need9 w)
  (m17_7 R d0 s2 f8 need9 w)
def m17_6 (R : VP) (d0 name1 s2 f8 need9 : Value) (w : World) : Prop :=
  valP Tryz.prog (binS BinOp.eql 76 (Operand.tmp 56) (Operand.const (Value.pointer none)) f8 (Value.pointer none)) w fun t57 w =>
  m17_14 R d0 name1 s2 f8 need9 t57 w
def m17_16 (R : VP) (d0 name1 s2 f8 need9 t55 : Value) (w : World) : Prop :=
  condP t55
  (m17_17 R (Value.int IntKind.i64 5) w)
  (m17_6 R d0 name1 s2 f8 need9 w)
def m17_5 (R : VP) (d0 name1 s2 f8 need9 : Value) (w : World) : Prop :=
  nilCheckP d0 fun t40 =>
  valP Tryz.prog (Instr.fieldAt 61 t40 1) w fun t41 w =>
  valP Tryz.prog (Instr.loadAt 3 t41) w fun t42 w =>
  valP Tryz.prog (binS BinOp.gtr 3 (Operand.tmp 38) (Operand.tmp 42) need9 t42) w fun t43 w =>
  condP t43
  (pickP t43 (Value.bool true) undef fun t55 =>
  m17_16 R d0 name1 s2 f8 need9 t55 w)
  (valP Tryz.prog (binS BinOp.eql 76 (Operand.tmp 45) (Operand.const (Value.pointer none)) f8 (Value.pointer none)) w fun t46 w =>
  condP t46
  (nilCheckP d0 fun t49 =>
  valP Tryz.prog (Instr.fieldAt 61 t49 0) w fun t50 w =>
  valP Tryz.prog (Instr.loadAt 59 t50) w fun t51 w =>
  builtinP Tryz.prog Builtin.len #[59] 3 #[false] #[t51] w fun t52 w =>
  valP Tryz.prog (binS BinOp.geq 3 (Operand.tmp 52) (Operand.const (Value.int IntKind.i64 256)) t52 (Value.int IntKind.i64 256)) w fun t53 w =>
  pickP t46 t53 (Value.bool false) fun t54 =>
  pickP t43 (Value.bool true) t54 fun t55 =>
  m17_16 R d0 name1 s2 f8 need9 t55 w)
  (pickP t46 undef (Value.bool false) fun t54 =>
  pickP t43 (Value.bool true) t54 fun t55 =>
  m17_16 R d0 name1 s2 f8 need9 t55 w))
def m17_18 (R : VP) (d0 name1 s2 f8 need9 t27 : Value) (w : World) : Prop :=
  condP t27
  (callP Tryz.prog (fnV 32) #[f8] w fun t29 w =>
  builtinP Tryz.prog Builtin.len #[9] 3 #[false] #[s2] w fun t31 w =>
  valP Tryz.prog (binS BinOp.add 3 (Operand.tmp 29) (Operand.tmp 31) t29 t31) w fun t32 w =>
  callP Tryz.prog (fnV 31) #[t32] w fun t33 w =>
  callP Tryz.prog (fnV 32) #[f8] w fun t35 w =>
  callP Tryz.prog (fnV 31) #[t35] w fun t36 w =>
  valP Tryz.prog (binS BinOp.sub 3 (Operand.tmp 33) (Operand.tmp 36) t33 t36) w fun t37 w =>
  m17_5 R d0 name1 s2 f8 t37 w)
  (m17_5 R d0 name1 s2 f8 need9 w)
def m17_4 (R : VP) (d0 name1 s2 f8 need9 : Value) (w : World) : Prop :=
  valP Tryz.prog (binS BinOp.neq 76 (Operand.tmp 26) (Operand.const (Value.pointer none)) f8 (Value.pointer none)) w fun t27 w =>
  m17_18 R d0 name1 s2 f8 need9 t27 w
def m17_3 (R : VP) (d0 name1 s2 f8 : Value) (w : World) : Prop :=
  builtinP Tryz.prog Builtin.len #[9] 3 #[false] #[s2] w fun t24 w =>
  callP Tryz.prog (fnV 31) #[t24] w fun t25 w =>
  m17_4 R d0 name1 s2 f8 t25 w
def m17_2 (R : VP) (d0 name1 s2 : Value) (w : World) : Prop :=
  nilCheckP d0 fun t18 =>
  valP Tryz.prog (Instr.fieldAt 61 t18 0) w fun t19 w =>
  valP Tryz.prog (Instr.loadAt 59 t19) w fun t20 w =>
  valP Tryz.prog (Instr.lookup 59 t20 name1 false) w fun t22 w =>
  m17_3 R d0 name1 s2 t22 w
def m17_20 (R : VP) (d0 name1 s2 e7 t15 : Value) (w : World) : Prop :=
  condP t15
  (m17_21 R e7 w)
  (m17_2 R d0 name1 s2 w)
def m17_19 (R : VP) (d0 name1 s2 e7 : Value) (w : World) : Prop :=
  valP Tryz.prog (binS BinOp.neq 26 (Operand.tmp 14) (Operand.const (Value.int IntKind.i64 0)) e7 (Value.int IntKind.i64 0)) w fun t15 w =>
  m17_20 R d0 name1 s2 e7 t15 w
def m17_1 (R : VP) (d0 name1 s2 : Value) (w : World) : Prop :=
  valP Tryz.prog (Instr.buildSlice 71 1 #[(0, name1)]) w fun t12 w =>
  callP Tryz.prog (fnV 44) #[d0, t12] w fun t13 w =>
  m17_19 R d0 name1 s2 t13 w
def m17_0 (R : VP) (d0 name1 s2 : Value) (w : World) : Prop :=
  m17_1 R d0 name1 s2 w
abbrev W17 := cwp Tryz.prog (fun i => 0)
noncomputable def k17_0 : Code := (bodyOf Tryz.f17)
noncomputable def k17_1 : Code := (c2 k17_0)
noncomputable def k17_2 : Code := (c2 k17_1)
noncomputable def k17_3 : Code := (c2 k17_2)
noncomputable def k17_4 : Code := (c2 k17_3)
noncomputable def k17_5 : Code := (c2 k17_4)
noncomputable def k17_6 : Code := (c2 k17_5)
noncomputable def k17_7 : Code := (c2 k17_6)
noncomputable def k17_8 : Code := (c2 k17_7)
noncomputable def k17_9 : Code := (c2 k17_8)
noncomputable def k17_10 : Code := (c2 k17_9)
noncomputable def k17_11 : Code := (c2 k17_10)
noncomputable def k17_12 : Code := (c2 (c1 k17_9))
noncomputable def k17_13 : Code := (c2 (c1 k17_12))
noncomputable def k17_14 : Code := (c2 (c1 k17_6))
noncomputable def k17_15 : Code := (c2 (c1 k17_14))
noncomputable def k17_16 : Code := (c2 (c1 k17_5))
noncomputable def k17_17 : Code := (c2 (c1 k17_16))
noncomputable def k17_18 : Code := (c2 (c1 k17_4))
noncomputable def k17_19 : Code := (c2 (c1 k17_1))
noncomputable def k17_20 : Code := (c2 k17_19)
noncomputable def k17_21 : Code := (c2 (c1 k17_20))
theorem s17_21 {R : VP} {Q : EQ} (hR : ∀ e w, (R (e 6) w) → Q .ret e w) (e : Env) (w : World) (h : m17_21 R (e 6) w) : W17 k17_21 Q e w := by
  unfold m17_21 at h
  exact reA (hR _ _ h)
theorem s17_17 {R : VP} {Q : EQ} (hR : ∀ e w, (R (e 6) w) → Q .ret e w) (e : Env) (w : World) (h : m17_17 R (e 6) w) : W17 k17_17 Q e w := by
  unfold m17_17 at h
  exact reA (hR _ _ h)
theorem s17_13 {R : VP} {Q : EQ} (hR : ∀ e w, (R (e 6) w) → Q .ret e w) (e : Env) (w : World) (h : m17_13 R (e 6) w) : W17 k17_13 Q e w := by
  unfold m17_13 at h
  exact reA (hR _ _ h)
theorem s17_11 {R : VP} {Q : EQ} (hR : ∀ e w, (R (e 6) w) → Q .ret e w) (e : Env) (w : World) (h : m17_11 R (e 6) w) : W17 k17_11 Q e w := by
  unfold m17_11 at h
  exact reA (hR _ _ h)
theorem s17_10 {R : VP} {Q : EQ} (hR : ∀ e w, (R (e 6) w) → Q .ret e w) (e : Env) (w : World) (h : m17_10 R w) : W17 k17_10 Q e w := by
  unfold m17_10 at h
  refine seA ?_
  have hN : ∀ e w, (m17_11 R (e 6) w) → (thenE (W17 k17_11 Q) Q) .normal e w := fun e w h => then_N (s17_11 (R := R) (Q := Q) hR e w h)
  exact rgA 17 (fun e w => m17_11 R (e 6) w) h hN
theorem s17_12 {R : VP} {Q : EQ} (hN : ∀ e w, (m17_10 R w) → Q .normal e w) (hR : ∀ e w, (R (e 6) w) → Q .ret e w) (e : Env) (w : World) (h : m17_12 R (e 84) w) : W17 k17_12 Q e w := by
  unfold m17_12 at h
  refine coA (Operand.tmp 84) h (fun h1 => ?_) (fun h1 => ?_)
  · refine seA ?_
    have hN : ∀ e w, (m17_13 R (e 6) w) → (thenE (W17 k17_13 Q) Q) .normal e w := fun e w h => then_N (s17_13 (R := R) (Q := Q) hR e w h)
    exact rgA 16 (fun e w => m17_13 R (e 6) w) h1 hN
  · exact skA (hN _ _ h1)
theorem s17_9 {R : VP} {Q : EQ} (hR : ∀ e w, (R (e 6) w) → Q .ret e w) (e : Env) (w : World) (h : m17_9 R (e 0) w) : W17 k17_9 Q e w := by
  unfold m17_9 at h
  refine seA ?_
  have hN : ∀ e w, (m17_10 R w) → (thenE (W17 k17_10 Q) Q) .normal e w := fun e w h => then_N (s17_10 (R := R) (Q := Q) hR e w h)
  have hR : ∀ e w, (R (e 6) w) → (thenE (W17 k17_10 Q) Q) .ret e w := fun e w h => then_R (hR e w h)
  refine seA ?_
  have hN : ∀ e w, (m17_12 R (e 84) w) → (thenE (W17 k17_12 (thenE (W17 k17_10 Q) Q)) (thenE (W17 k17_10 Q) Q)) .normal e w := fun e w h => then_N (s17_12 (R := R) (Q := (thenE (W17 k17_10 Q) Q)) hN hR e w h)
  exact rgA 15 (fun e w => m17_12 R (e 84) w) h hN
theorem s17_8 {R : VP} {Q : EQ} (hR : ∀ e w, (R (e 6) w) → Q .ret e w) (e : Env) (w : World) (h : m17_8 R (e 0) (e 2) (e 8) w) : W17 k17_8 Q e w := by
  unfold m17_8 at h
  refine seA ?_
  have hN : ∀ e w, (m17_9 R (e 0) w) → (thenE (W17 k17_9 Q) Q) .normal e w := fun e w h => then_N (s17_9 (R := R) (Q := Q) hR e w h)
  exact rgA 14 (fun e w => m17_9 R (e 0) w) h hN
theorem s17_7 {R : VP} {Q : EQ} (hR : ∀ e w, (R (e 6) w) → Q .ret e w) (e : Env) (w : World) (h : m17_7 R (e 0) (e 2) (e 8) (e 9) w) : W17 k17_7 Q e w := by
  unfold m17_7 at h
  refine seA ?_
  have hN : ∀ e w, (m17_8 R (e 0) (e 2) (e 8) w) → (thenE (W17 k17_8 Q) Q) .normal e w := fun e w h => then_N (s17_8 (R := R) (Q := Q) hR e w h)
  exact rgA 13 (fun e w => m17_8 R (e 0) (e 2) (e 8) w) h hN
theorem s17_15 {R : VP} {Q : EQ} (hN : ∀ e w, (m17_7 R (e 0) (e 2) (e 8) (e 9) w) → Q .normal e w) (e : Env) (w : World) (h : m17_15 R (e 0) (e 1) (e 2) (e 8) (e 9) w) : W17 k17_15 Q e w := by
  unfold m17_15 at h
  exact rgA 12 (fun e w => m17_7 R (e 0) (e 2) (e 8) (e 9) w) h hN
theorem s17_14 {R : VP} {Q : EQ} (hN : ∀ e w, (m17_7 R (e 0) (e 2) (e 8) (e 9) w) → Q .normal e w) (e : Env) (w : World) (h : m17_14 R (e 0) (e 1) (e 2) (e 8) (e 9) (e 57) w) : W17 k17_14 Q e w := by
  unfold m17_14 at h
  refine coA (Operand.tmp 57) h (fun h1 => ?_) (fun h1 => ?_)
  · refine seA ?_
    have hN : ∀ e w, (m17_15 R (e 0) (e 1) (e 2) (e 8) (e 9) w) → (thenE (W17 k17_15 Q) Q) .normal e w := fun e w h => then_N (s17_15 (R := R) (Q := Q) hN e w h)
    exact rgA 11 (fun e w => m17_15 R (e 0) (e 1) (e 2) (e 8) (e 9) w) h1 hN
  · exact skA (hN _ _ h1)
theorem s17_6 {R : VP} {Q : EQ} (hR : ∀ e w, (R (e 6) w) → Q .ret e w) (e : Env) (w : World) (h : m17_6 R (e 0) (e 1) (e 2) (e 8) (e 9) w) : W17 k17_6 Q e w := by
  unfold m17_6 at h
  refine seA ?_
  have hN : ∀ e w, (m17_7 R (e 0) (e 2) (e 8) (e 9) w) → (thenE (W17 k17_7 Q) Q) .normal e w := fun e w h => then_N (s17_7 (R := R) (Q := Q) hR e w h)
  refine seA ?_
  have hN : ∀ e w, (m17_14 R (e 0) (e 1) (e 2) (e 8) (e 9) (e 57) w) → (thenE (W17 k17_14 (thenE (W17 k17_7 Q) Q)) (thenE (W17 k17_7 Q) Q)) .normal e w := fun e w h => then_N (s17_14 (R := R) (Q := (thenE (W17 k17_7 Q) Q)) hN e w h)
  exact rgA 10 (fun e w => m17_14 R (e 0) (e 1) (e 2) (e 8) (e 9) (e 57) w) h hN
theorem s17_16 {R : VP} {Q : EQ} (hN : ∀ e w, (m17_6 R (e 0) (e 1) (e 2) (e 8) (e 9) w) → Q .normal e w) (hR : ∀ e w, (R (e 6) w) → Q .ret e w) (e : Env) (w : World) (h : m17_16 R (e 0) (e 1) (e 2) (e 8) (e 9) (e 55) w) : W17 k17_16 Q e w := by
  unfold m17_16 at h
  refine coA (Operand.tmp 55) h (fun h1 => ?_) (fun h1 => ?_)
  · refine seA ?_
    have hN : ∀ e w, (m17_17 R (e 6) w) → (thenE (W17 k17_17 Q) Q) .normal e w := fun e w h => then_N (s17_17 (R := R) (Q := Q) hR e w h)
    exact rgA 9 (fun e w => m17_17 R (e 6) w) h1 hN
  · exact skA (hN _ _ h1)
theorem s17_5 {R : VP} {Q : EQ} (hR : ∀ e w, (R (e 6) w) → Q .ret e w) (e : Env) (w : World) (h : m17_5 R (e 0) (e 1) (e 2) (e 8) (e 9) w) : W17 k17_5 Q e w := by
  unfold m17_5 at h
  refine seA ?_
  have hN : ∀ e w, (m17_6 R (e 0) (e 1) (e 2) (e 8) (e 9) w) → (thenE (W17 k17_6 Q) Q) .normal e w := fun e w h => then_N (s17_6 (R := R) (Q := Q) hR e w h)
  have hR : ∀ e w, (R (e 6) w) → (thenE (W17 k17_6 Q) Q) .ret e w := fun e w h => then_R (hR e w h)
  refine seA ?_
  have hN : ∀ e w, (m17_16 R (e 0) (e 1) (e 2) (e 8) (e 9) (e 55) w) → (thenE (W17 k17_16 (thenE (W17 k17_6 Q) Q)) (thenE (W17 k17_6 Q) Q)) .normal e w := fun e w h => then_N (s17_16 (R := R) (Q := (thenE (W17 k17_6 Q) Q)) hN hR e w h)
  exact rgA 8 (fun e w => m17_16 R (e 0) (e 1) (e 2) (e 8) (e 9) (e 55) w) h hN
theorem s17_18 {R : VP} {Q : EQ} (hN : ∀ e w, (m17_5 R (e 0) (e 1) (e 2) (e 8) (e 9) w) → Q .normal e w) (e : Env) (w : World) (h : m17_18 R (e 0) (e 1) (e 2) (e 8) (e 9) (e 27) w) : W17 k17_18 Q e w := by
  unfold m17_18 at h
  refine coA (Operand.tmp 27) h (fun h1 => ?_) (fun h1 => ?_)
  · exact rgA 7 (fun e w => m17_5 R (e 0) (e 1) (e 2) (e 8) (e 9) w) h1 hN
  · exact skA (hN _ _ h1)
theorem s17_4 {R : VP} {Q : EQ} (hR : ∀ e w, (R (e 6) w) → Q .ret e w) (e : Env) (w : World) (h : m17_4 R (e 0) (e 1) (e 2) (e 8) (e 9) w) : W17 k17_4 Q e w := by
  unfold m17_4 at h
  refine seA ?_
  have hN : ∀ e w, (m17_5 R (e 0) (e 1) (e 2) (e 8) (e 9) w) → (thenE (W17 k17_5 Q) Q) .normal e w := fun e w h => then_N (s17_5 (R := R) (Q := Q) hR e w h)
  refine seA ?_
  have hN : ∀ e w, (m17_18 R (e 0) (e 1) (e 2) (e 8) (e 9) (e 27) w) → (thenE (W17 k17_18 (thenE (W17 k17_5 Q) Q)) (thenE (W17 k17_5 Q) Q)) .normal e w := fun e w h => then_N (s17_18 (R := R) (Q := (thenE (W17 k17_5 Q) Q)) hN e w h)
  exact rgA 6 (fun e w => m17_18 R (e 0) (e 1) (e 2) (e 8) (e 9) (e 27) w) h hN
theorem s17_3 {R : VP} {Q : EQ} (hR : ∀ e w, (R (e 6) w) → Q .ret e w) (e : Env) (w : World) (h : m17_3 R (e 0) (e 1) (e 2) (e 8) w) : W17 k17_3 Q e w := by
  unfold m17_3 at h
  refine seA ?_
  have hN : ∀ e w, (m17_4 R (e 0) (e 1) (e 2) (e 8) (e 9) w) → (thenE (W17 k17_4 Q) Q) .normal e w := fun e w h => then_N (s17_4 (R := R) (Q := Q) hR e w h)
  exact rgA 5 (fun e w => m17_4 R (e 0) (e 1) (e 2) (e 8) (e 9) w) h hN
theorem s17_2 {R : VP} {Q : EQ} (hR : ∀ e w, (R (e 6) w) → Q .ret e w) (e : Env) (w : World) (h : m17_2 R (e 0) (e 1) (e 2) w) : W17 k17_2 Q e w := by
  unfold m17_2 at h
  refine seA ?_
  have hN : ∀ e w, (m17_3 R (e 0) (e 1) (e 2) (e 8) w) → (thenE (W17 k17_3 Q) Q) .normal e w := fun e w h => then_N (s17_3 (R := R) (Q := Q) hR e w h)
  exact rgA 4 (fun e w => m17_3 R (e 0) (e 1) (e 2) (e 8) w) h hN
theorem s17_20 {R : VP} {Q : EQ} (hN : ∀ e w, (m17_2 R (e 0) (e 1) (e 2) w) → Q .normal e w) (hR : ∀ e w, (R (e 6) w) → Q .ret e w) (e : Env) (w : World) (h : m17_20 R (e 0) (e 1) (e 2) (e 7) (e 15) w) : W17 k17_20 Q e w := by
  unfold m17_20 at h
  refine coA (Operand.tmp 15) h (fun h1 => ?_) (fun h1 => ?_)
  · refine seA ?_
    have hN : ∀ e w, (m17_21 R (e 6) w) → (thenE (W17 k17_21 Q) Q) .normal e w := fun e w h => then_N (s17_21 (R := R) (Q := Q) hR e w h)
    exact rgA 3 (fun e w => m17_21 R (e 6) w) h1 hN
  · exact skA (hN _ _ h1)
theorem s17_19 {R : VP} {Q : EQ} (hN : ∀ e w, (m17_2 R (e 0) (e 1) (e 2) w) → Q .normal e w) (hR : ∀ e w, (R (e 6) w) → Q .ret e w) (e : Env) (w : World) (h : m17_19 R (e 0) (e 1) (e 2) (e 7) w) : W17 k17_19 Q e w := by
  unfold m17_19 at h
  refine seA ?_
  have hN : ∀ e w, (m17_20 R (e 0) (e 1) (e 2) (e 7) (e 15) w) → (thenE (W17 k17_20 Q) Q) .normal e w := fun e w h => then_N (s17_20 (R := R) (Q := Q) hN hR e w h)
  exact rgA 2 (fun e w => m17_20 R (e 0) (e 1) (e 2) (e 7) (e 15) w) h hN
theorem s17_1 {R : VP} {Q : EQ} (hR : ∀ e w, (R (e 6) w) → Q .ret e w) (e : Env) (w : World) (h : m17_1 R (e 0) (e 1) (e 2) w) : W17 k17_1 Q e w := by
  unfold m17_1 at h
  refine seA ?_
  have hN : ∀ e w, (m17_2 R (e 0) (e 1) (e 2) w) → (thenE (W17 k17_2 Q) Q) .normal e w := fun e w h => then_N (s17_2 (R := R) (Q := Q) hR e w h)
  have hR : ∀ e w, (R (e 6) w) → (thenE (W17 k17_2 Q) Q) .ret e w := fun e w h => then_R (hR e w h)
  refine seA ?_
  have hN : ∀ e w, (m17_19 R (e 0) (e 1) (e 2) (e 7) w) → (thenE (W17 k17_19 (thenE (W17 k17_2 Q) Q)) (thenE (W17 k17_2 Q) Q)) .normal e w := fun e w h => then_N (s17_19 (R := R) (Q := (thenE (W17 k17_2 Q) Q)) hN hR e w h)
  exact rgA 1 (fun e w => m17_19 R (e 0) (e 1) (e 2) (e 7) w) h hN
theorem s17_0 {R : VP} {Q : EQ} (hR : ∀ e w, (R (e 6) w) → Q .ret e w) (e : Env) (w : World) (h : m17_0 R (e 0) (e 1) (e 2) w) : W17 k17_0 Q e w := by
  unfold m17_0 at h
  refine seA ?_
  have hN : ∀ e w, (m17_1 R (e 0) (e 1) (e 2) w) → (thenE (W17 k17_1 Q) Q) .normal e w := fun e w h => then_N (s17_1 (R := R) (Q := Q) hR e w h)
  exact rgA 0 (fun e w => m17_1 R (e 0) (e 1) (e 2) w) h hN
abbrev m17 (R : VP) (d0 name1 s2 : Value) (w : World) : Prop := m17_0 R d0 name1 s2 w
theorem s17 (d0 name1 s2 : Value) {R : VP} {w : World} (h : m17 R d0 name1 s2 w) :
    Calls Tryz.prog 17 #[d0, name1, s2] w fun e w' => ∃ v, e = .returned v ∧ R v w' :=
  calls_of_cwp (st := (fun i => 0)) (c := k17_0) (by kernel_rfl) Tryz.func17 (by kernel_rfl) (Nat.le_of_ble_eq_true (by kernel_rfl)) (by kernel_rfl)
    (s17_0 (R := R) (Q := endE Tryz.prog Tryz.f17 R) (fun e w h => kcast (by kernel_rfl) h) (argsE #[d0, name1, s2]) w (kcast (by kernel_rfl) h))
def m9_7 (R : VP) (K1 : VP) (d0 keep1 t15 t16 t17 : Value) (w : World) : Prop :=
  valP Tryz.prog (binS BinOp.add 3 (Operand.tmp 17) (Operand.const (Value.int IntKind.i64 1)) t17 (Value.int IntKind.i64 1)) w fun t80 w =>
  K1 t80 w
def m9_13 (R : VP) (K1 : VP) (d0 keep1 f6 t15 t16 t17 : Value) (w : World) : Prop :=
  anyDraw w fun w =>
  nilCheckP d0 fun t71 =>
  pureP Tryz.prog (Instr.fieldAt 61 t71 1) fun t72 =>
  (valP Tryz.prog (Instr.loadAt 3 t72) w fun t73 w =>
  callP Tryz.prog (fnV 32) #[f6] w fun t75 w =>
  callP Tryz.prog (fnV 31) #[t75] w fun t76 w =>
  pureP Tryz.prog (binS BinOp.sub 3 (Operand.tmp 73) (Operand.tmp 76) t73 t76) fun t77 =>
  nilCheckP d0 fun t78 =>
  pureP Tryz.prog (Instr.fieldAt 61 t78 1) fun t79 =>
  unitP Tryz.prog (Instr.storeAt 3 t79 t77) w fun _ w =>
  m9_7 R K1 d0 keep1 t15 t16 t17 w) ∧ (callP Tryz.prog (fnV 32) #[f6] w fun t75 w =>
  (valP Tryz.prog (Instr.loadAt 3 t72) w fun t73 w =>
  callP Tryz.prog (fnV 31) #[t75] w fun t76 w =>
  pureP Tryz.prog (binS BinOp.sub 3 (Operand.tmp 73) (Operand.tmp 76) t73 t76) fun t77 =>
  nilCheckP d0 fun t78 =>
  pureP Tryz.prog (Instr.fieldAt 61 t78 1) fun t79 =>
  unitP Tryz.prog (Instr.storeAt 3 t79 t77) w fun _ w =>
  m9_7 R K1 d0 keep1 t15 t16 t17 w) ∧ (callP Tryz.prog (fnV 31) #[t75] w fun t76 w =>
  valP Tryz.prog (Instr.loadAt 3 t72) w fun t73 w =>
  pureP Tryz.prog (binS BinOp.sub 3 (Operand.tmp 73) (Operand.tmp 76) t73 t76) fun t77 =>
  nilCheckP d0 fun t78 =>
  pureP Tryz.prog (Instr.fieldAt 61 t78 1) fun t79 =>
  unitP Tryz.prog (Instr.storeAt 3 t79 t77) w fun _ w =>
  m9_7 R K1 d0 keep1 t15 t16 t17 w))
def m9_12 (R : VP) (K1 : VP) (d0 keep1 f6 k7 t15 t16 t17 : Value) (w : World) : Prop :=
  anyDraw w fun w =>
  nilCheckP f6 fun t56 =>
  pureP Tryz.prog (Instr.fieldAt 78 t56 0) fun t57 =>
  nilCheckP f6 fun t60 =>
  pureP Tryz.prog (Instr.fieldAt 78 t60 1) fun t61 =>
  (valP Tryz.prog (Instr.loadAt 9 t57) w fun t58 w =>
  valP Tryz.prog (Instr.loadAt 9 t61) w fun t62 w =>
  pureP Tryz.prog (Instr.sliceAt 9 t62 none (some k7) none) fun t64 =>
  pureP Tryz.prog (binS BinOp.add 9 (Operand.tmp 58) (Operand.tmp 64) t58 t64) fun t65 =>
  nilCheckP f6 fun t66 =>
  pureP Tryz.prog (Instr.fieldAt 78 t66 0) fun t67 =>
  unitP Tryz.prog (Instr.storeAt 9 t67 t65) w fun _ w =>
  nilCheckP f6 fun t68 =>
  pureP Tryz.prog (Instr.fieldAt 78 t68 1) fun t69 =>
  unitP Tryz.prog (Instr.storeAt 9 t69 (Value.string ⟨#[]⟩)) w fun _ w =>
  m9_13 R K1 d0 keep1 f6 t15 t16 t17 w) ∧ (valP Tryz.prog (Instr.loadAt 9 t61) w fun t62 w =>
  pureP Tryz.prog (Instr.sliceAt 9 t62 none (some k7) none) fun t64 =>
  valP Tryz.prog (Instr.loadAt 9 t57) w fun t58 w =>
  pureP Tryz.prog (binS BinOp.add 9 (Operand.tmp 58) (Operand.tmp 64) t58 t64) fun t65 =>
  nilCheckP f6 fun t66 =>
  pureP Tryz.prog (Instr.fieldAt 78 t66 0) fun t67 =>
  unitP Tryz.prog (Instr.storeAt 9 t67 t65) w fun _ w =>
  nilCheckP f6 fun t68 =>
  pureP Tryz.prog (Instr.fieldAt 78 t68 1) fun t69 =>
  unitP Tryz.prog (Instr.storeAt 9 t69 (Value.string ⟨#[]⟩)) w fun _ w =>
  m9_13 R K1 d0 keep1 f6 t15 t16 t17 w)
def m9_11 (R : VP) (K1 : VP) (d0 keep1 f6 k7 t15 t16 t17 : Value) (w : World) : Prop :=
  anyDraw w fun w =>
  nilCheckP d0 fun t44 =>
  pureP Tryz.prog (Instr.fieldAt 61 t44 1) fun t45 =>
  (valP Tryz.prog (Instr.loadAt 3 t45) w fun t46 w =>
  callP Tryz.prog (fnV 32) #[f6] w fun t48 w =>
  callP Tryz.prog (fnV 31) #[t48] w fun t49 w =>
  pureP Tryz.prog (binS BinOp.add 3 (Operand.tmp 46) (Operand.tmp 49) t46 t49) fun t50 =>
  nilCheckP d0 fun t51 =>
  pureP Tryz.prog (Instr.fieldAt 61 t51 1) fun t52 =>
  unitP Tryz.prog (Instr.storeAt 3 t52 t50) w fun _ w =>
  m9_12 R K1 d0 keep1 f6 k7 t15 t16 t17 w) ∧ (callP Tryz.prog (fnV 32) #[f6] w fun t48 w =>
  (valP Tryz.prog (Instr.loadAt 3 t45) w fun t46 w =>
  callP Tryz.prog (fnV 31) #[t48] w fun t49 w =>
  pureP Tryz.prog (binS BinOp.add 3 (Operand.tmp 46) (Operand.tmp 49) t46 t49) fun t50 =>
  nilCheckP d0 fun t51 =>
  pureP Tryz.prog (Instr.fieldAt 61 t51 1) fun t52 =>
  unitP Tryz.prog (Instr.storeAt 3 t52 t50) w fun _ w =>
  m9_12 R K1 d0 keep1 f6 k7 t15 t16 t17 w) ∧ (callP Tryz.prog (fnV 31) #[t48] w fun t49 w =>
  valP Tryz.prog (Instr.loadAt 3 t45) w fun t46 w =>
  pureP Tryz.prog (binS BinOp.add 3 (Operand.tmp 46) (Operand.tmp 49) t46 t49) fun t50 =>
  nilCheckP d0 fun t51 =>
  pureP Tryz.prog (Instr.fieldAt 61 t51 1) fun t52 =>
  unitP Tryz.prog (Instr.storeAt 3 t52 t50) w fun _ w =>
  m9_12 R K1 d0 keep1 f6 k7 t15 t16 t17 w))
def m9_14 (R : VP) (K1 : VP) (d0 keep1 i4 f6 k7 t15 t16 t17 t31 : Value) (w : World) : Prop :=
  condP t31
  (valQ Tryz.prog (Instr.indexAt 23 keep1 i4) w fun t34 =>
  valQ Tryz.prog (Instr.loadAt 3 t34) w fun t35 =>
  nilCheckP f6 fun t37 =>
  valQ Tryz.prog (Instr.fieldAt 78 t37 1) w fun t38 =>
  valQ Tryz.prog (Instr.loadAt 9 t38) w fun t39 =>
  builtinQ Tryz.prog Builtin.len #[9] 3 #[false] #[t39] w fun t40 =>
  builtinQ Tryz.prog Builtin.min #[3, 3] 3 #[false, false] #[t35, t40] w fun t41 =>
  builtinQ Tryz.prog Builtin.max #[3, 3] 3 #[true, false] #[(Value.int IntKind.i64 0), t41] w fun t42 =>
  anyDraw w fun w =>
  m9_11 R K1 d0 keep1 f6 t42 t15 t16 t17 w)
  (m9_11 R K1 d0 keep1 f6 k7 t15 t16 t17 w)
def m9_10 (R : VP) (K1 : VP) (d0 keep1 i4 f6 k7 t15 t16 t17 : Value) (w : World) : Prop :=
  builtinP Tryz.prog Builtin.len #[23] 3 #[false] #[keep1] w fun t30 w =>
  valP Tryz.prog (binS BinOp.lss 3 (Operand.tmp 28) (Operand.tmp 30) i4 t30) w fun t31 w =>
  m9_14 R K1 d0 keep1 i4 f6 k7 t15 t16 t17 t31 w
def m9_9 (R : VP) (K1 : VP) (d0 keep1 i4 f6 t15 t16 t17 : Value) (w : World) : Prop :=
  m9_10 R K1 d0 keep1 i4 f6 (Value.int IntKind.i64 0) t15 t16 t17 w
def m9_8 (R : VP) (K1 : VP) (d0 keep1 i4 name5 t15 t16 t17 : Value) (w : World) : Prop :=
  nilCheckP d0 fun t23 =>
  valP Tryz.prog (Instr.fieldAt 61 t23 0) w fun t24 w =>
  valP Tryz.prog (Instr.loadAt 59 t24) w fun t25 w =>
  valP Tryz.prog (Instr.lookup 59 t25 name5 false) w fun t27 w =>
  m9_9 R K1 d0 keep1 i4 t27 t15 t16 t17 w
def m9_6 (R : VP) (K1 : VP) (d0 keep1 t15 t16 t17 : Value) (w : World) : Prop :=
  valP Tryz.prog (Instr.indexAt 71 t15 t17) w fun t20 w =>
  valP Tryz.prog (Instr.loadAt 9 t20) w fun t21 w =>
  m9_8 R K1 d0 keep1 t17 t21 t15 t16 t17 w
def m9_2 (R : VP) (d0 : Value) (w : World) : Prop :=
  nilCheckP d0 fun t83 =>
  valP Tryz.prog (Instr.fieldAt 61 t83 3) w fun t84 w =>
  unitP Tryz.prog (Instr.storeAt 4 t84 (Value.bool false)) w fun _ w =>
  nilCheckP d0 fun t85 =>
  valP Tryz.prog (Instr.fieldAt 61 t85 2) w fun t86 w =>
  unitP Tryz.prog (Instr.storeAt 3 t86 (Value.int IntKind.i64 (-1))) w fun _ w =>
  R (Value.tuple #[]) w
def m9_5 (R : VP) (K1 : VP) (d0 keep1 t15 t16 t17 t18 : Value) (w : World) : Prop :=
  condP t18
  (m9_6 R K1 d0 keep1 t15 t16 t17 w)
  (m9_2 R d0 w)
def m9_4 (R : VP) (K1 : VP) (d0 keep1 t15 t16 t17 : Value) (w : World) : Prop :=
  valP Tryz.prog (binS BinOp.lss 3 (Operand.tmp 17) (Operand.tmp 16) t17 t16) w fun t18 w =>
  m9_5 R K1 d0 keep1 t15 t16 t17 t18 w
def m9_3 (R : VP) (d0 keep1 t15 t16 t17 : Value) (w : World) : Prop :=
  loopP (fun (K1 : VP) (s : Value) w => m9_4 R K1 d0 keep1 t15 t16 s w) t17 w
def m9_1 (R : VP) (d0 keep1 : Value) (w : World) : Prop :=
  nilCheckP d0 fun t11 =>
  valP Tryz.prog (Instr.fieldAt 61 t11 0) w fun t12 w =>
  valP Tryz.prog (Instr.loadAt 59 t12) w fun t13 w =>
  callP Tryz.prog (fnV 30) #[t13] w fun t14 w =>
  callP Tryz.prog (fnV 29) #[t14] w fun t15 w =>
  builtinP Tryz.prog Builtin.len #[71] 3 #[false] #[t15] w fun t16 w =>
  m9_3 R d0 keep1 t15 t16 (Value.int IntKind.i64 0) w
def m9_15 (R : VP) (d0 keep1 t9 : Value) (w : World) : Prop :=
  condP t9
  (R (Value.tuple #[]) w)
  (m9_1 R d0 keep1 w)
def m9_0 (R : VP) (d0 keep1 : Value) (w : World) : Prop :=
  valP Tryz.prog (binS BinOp.eql 25 (Operand.tmp 8) (Operand.const (Value.pointer none)) d0 (Value.pointer none)) w fun t9 w =>
  m9_15 R d0 keep1 t9 w
abbrev W9 := cwp Tryz.prog (fun i => cond (Nat.beq i 7) 1 (0))
noncomputable def k9_0 : Code := (bodyOf Tryz.f9)
noncomputable def k9_1 : Code := (c2 k9_0)
noncomputable def k9_2 : Code := (c2 k9_1)
noncomputable def k9_3 : Code := (c2 (c1 k9_1))
noncomputable def k9_4 : Code := (c1 (c1 k9_3))
noncomputable def k9_5 : Code := (c2 k9_4)
noncomputable def k9_6 : Code := (c2 k9_5)
noncomputable def k9_7 : Code := (c2 k9_6)
noncomputable def k9_8 : Code := (c2 (c1 (c1 k9_6)))
noncomputable def k9_9 : Code := (c2 k9_8)
noncomputable def k9_10 : Code := (c2 k9_9)
noncomputable def k9_11 : Code := (c2 k9_10)
noncomputable def k9_12 : Code := (c2 k9_11)
noncomputable def k9_13 : Code := (c2 k9_12)
noncomputable def k9_14 : Code := (c2 (c1 k9_10))
noncomputable def k9_15 : Code := (c2 (c1 k9_0))
theorem s9_7 {R : VP} {K1 : VP} {Q : EQ} (hN : ∀ e w, (K1 (e 17) w) → Q .normal e w) (e : Env) (w : World) (h : m9_7 R K1 (e 0) (e 1) (e 15) (e 16) (e 17) w) : W9 k9_7 Q e w := by
  unfold m9_7 at h
  exact rgA 11 (fun e w => K1 (e 17) w) h hN
theorem s9_13 {R : VP} {K1 : VP} {Q : EQ} (hN : ∀ e w, (m9_7 R K1 (e 0) (e 1) (e 15) (e 16) (e 17) w) → Q .normal e w) (e : Env) (w : World) (h : m9_13 R K1 (e 0) (e 1) (e 6) (e 15) (e 16) (e 17) w) : W9 k9_13 Q e w := by
  unfold m9_13 at h
  exact tree_ok 10 11 [false, false, false, false, false, false, false, false, false, false, false] (.take 0 [true, false, false, false, false, false, false, false, false, false, false] (.take 1 [true, true, false, false, false, false, false, false, false, false, false] (.take 2 [true, true, true, false, false, false, false, false, false, false, false] (.take 4 [true, true, true, false, true, false, false, false, false, false, false] (.alt 3 [true, true, true, true, true, false, false, false, false, false, false] (.alt 5 [true, true, true, true, true, true, false, false, false, false, false] (.alt 6 [true, true, true, true, true, true, true, false, false, false, false] (.take 7 [true, true, true, true, true, true, true, true, false, false, false] (.take 8 [true, true, true, true, true, true, true, true, true, false, false] (.take 9 [true, true, true, true, true, true, true, true, true, true, false] (.alt 10 [true, true, true, true, true, true, true, true, true, true, true] .done .stop)))) .stop) .stop) (.alt 5 [true, true, true, false, true, true, false, false, false, false, false] (.alt 3 [true, true, true, true, true, true, false, false, false, false, false] (.alt 6 [true, true, true, true, true, true, true, false, false, false, false] (.take 7 [true, true, true, true, true, true, true, true, false, false, false] (.take 8 [true, true, true, true, true, true, true, true, true, false, false] (.take 9 [true, true, true, true, true, true, true, true, true, true, false] (.alt 10 [true, true, true, true, true, true, true, true, true, true, true] .done .stop)))) .stop) (.alt 6 [true, true, true, false, true, true, true, false, false, false, false] (.alt 3 [true, true, true, true, true, true, true, false, false, false, false] (.take 7 [true, true, true, true, true, true, true, true, false, false, false] (.take 8 [true, true, true, true, true, true, true, true, true, false, false] (.take 9 [true, true, true, true, true, true, true, true, true, true, false] (.alt 10 [true, true, true, true, true, true, true, true, true, true, true] .done .stop)))) .stop) .stop)) .stop)))))) (fun e w => m9_7 R K1 (e 0) (e 1) (e 15) (e 16) (e 17) w) (by kernel_rfl) (by kernel_rfl) (by kernel_rfl) (by kernel_rfl) (by kernel_rfl) (by kernel_rfl) (kcast (by kernel_rfl) h) hN (by kernel_rfl)
theorem s9_12 {R : VP} {K1 : VP} {Q : EQ} (hN : ∀ e w, (m9_7 R K1 (e 0) (e 1) (e 15) (e 16) (e 17) w) → Q .normal e w) (e : Env) (w : World) (h : m9_12 R K1 (e 0) (e 1) (e 6) (e 7) (e 15) (e 16) (e 17) w) : W9 k9_12 Q e w := by
  unfold m9_12 at h
  refine seA ?_
  have hN : ∀ e w, (m9_13 R K1 (e 0) (e 1) (e 6) (e 15) (e 16) (e 17) w) → (thenE (W9 k9_13 Q) Q) .normal e w := fun e w h => then_N (s9_13 (R := R) (Q := Q) (K1 := K1) hN e w h)
  exact tree_ok 9 19 [false, false, false, false, false, false, false, false, false, false, false, false, false, false, false, false, false, false, false] (.take 0 [true, false, false, false, false, false, false, false, false, false, false, false, false, false, false, false, false, false, false] (.take 1 [true, true, false, false, false, false, false, false, false, false, false, false, false, false, false, false, false, false, false] (.take 2 [true, true, true, false, false, false, false, false, false, false, false, false, false, false, false, false, false, false, false] (.take 3 [true, true, true, true, false, false, false, false, false, false, false, false, false, false, false, false, false, false, false] (.take 4 [true, true, true, true, true, false, false, false, false, false, false, false, false, false, false, false, false, false, false] (.take 6 [true, true, true, true, true, false, true, false, false, false, false, false, false, false, false, false, false, false, false] (.take 7 [true, true, true, true, true, false, true, true, false, false, false, false, false, false, false, false, false, false, false] (.take 8 [true, true, true, true, true, false, true, true, true, false, false, false, false, false, false, false, false, false, false] (.take 10 [true, true, true, true, true, false, true, true, true, false, true, false, false, false, false, false, false, false, false] (.alt 5 [true, true, true, true, true, true, true, true, true, false, true, false, false, false, false, false, false, false, false] (.alt 9 [true, true, true, true, true, true, true, true, true, true, true, false, false, false, false, false, false, false, false] (.take 11 [true, true, true, true, true, true, true, true, true, true, true, true, false, false, false, false, false, false, false] (.take 12 [true, true, true, true, true, true, true, true, true, true, true, true, true, false, false, false, false, false, false] (.take 13 [true, true, true, true, true, true, true, true, true, true, true, true, true, true, false, false, false, false, false] (.take 14 [true, true, true, true, true, true, true, true, true, true, true, true, true, true, true, false, false, false, false] (.alt 15 [true, true, true, true, true, true, true, true, true, true, true, true, true, true, true, true, false, false, false] (.take 16 [true, true, true, true, true, true, true, true, true, true, true, true, true, true, true, true, true, false, false] (.take 17 [true, true, true, true, true, true, true, true, true, true, true, true, true, true, true, true, true, true, false] (.alt 18 [true, true, true, true, true, true, true, true, true, true, true, true, true, true, true, true, true, true, true] .done .stop))) .stop))))) .stop) (.alt 9 [true, true, true, true, true, false, true, true, true, true, true, false, false, false, false, false, false, false, false] (.take 11 [true, true, true, true, true, false, true, true, true, true, true, true, false, false, false, false, false, false, false] (.alt 5 [true, true, true, true, true, true, true, true, true, true, true, true, false, false, false, false, false, false, false] (.take 12 [true, true, true, true, true, true, true, true, true, true, true, true, true, false, false, false, false, false, false] (.take 13 [true, true, true, true, true, true, true, true, true, true, true, true, true, true, false, false, false, false, false] (.take 14 [true, true, true, true, true, true, true, true, true, true, true, true, true, true, true, false, false, false, false] (.alt 15 [true, true, true, true, true, true, true, true, true, true, true, true, true, true, true, true, false, false, false] (.take 16 [true, true, true, true, true, true, true, true, true, true, true, true, true, true, true, true, true, false, false] (.take 17 [true, true, true, true, true, true, true, true, true, true, true, true, true, true, true, true, true, true, false] (.alt 18 [true, true, true, true, true, true, true, true, true, true, true, true, true, true, true, true, true, true, true] .done .stop))) .stop)))) .stop)) .stop))))))))))) (fun e w => m9_13 R K1 (e 0) (e 1) (e 6) (e 15) (e 16) (e 17) w) (by kernel_rfl) (by kernel_rfl) (by kernel_rfl) (by kernel_rfl) (by kernel_rfl) (by kernel_rfl) (kcast (by kernel_rfl) h) hN (by kernel_rfl)
theorem s9_11 {R : VP} {K1 : VP} {Q : EQ} (hN : ∀ e w, (m9_7 R K1 (e 0) (e 1) (e 15) (e 16) (e 17) w) → Q .normal e w) (e : Env) (w : World) (h : m9_11 R K1 (e 0) (e 1) (e 6) (e 7) (e 15) (e 16) (e 17) w) : W9 k9_11 Q e w := by
  unfold m9_11 at h
  refine seA ?_
  have hN : ∀ e w, (m9_12 R K1 (e 0) (e 1) (e 6) (e 7) (e 15) (e 16) (e 17) w) → (thenE (W9 k9_12 Q) Q) .normal e w := fun e w h => then_N (s9_12 (R := R) (Q := Q) (K1 := K1) hN e w h)
  exact tree_ok 8 11 [false, false, false, false, false, false, false, false, false, false, false] (.take 0 [true, false, false, false, false, false, false, false, false, false, false] (.take 1 [true, true, false, false, false, false, false, false, false, false, false] (.take 2 [true, true, true, false, false, false, false, false, false, false, false] (.take 4 [true, true, true, false, true, false, false, false, false, false, false] (.alt 3 [true, true, true, true, true, false, false, false, false, false, false] (.alt 5 [true, true, true, true, true, true, false, false, false, false, false] (.alt 6 [true, true, true, true, true, true, true, false, false, false, false] (.take 7 [true, true, true, true, true, true, true, true, false, false, false] (.take 8 [true, true, true, true, true, true, true, true, true, false, false] (.take 9 [true, true, true, true, true, true, true, true, true, true, false] (.alt 10 [true, true, true, true, true, true, true, true, true, true, true] .done .stop)))) .stop) .stop) (.alt 5 [true, true, true, false, true, true, false, false, false, false, false] (.alt 3 [true, true, true, true, true, true, false, false, false, false, false] (.alt 6 [true, true, true, true, true, true, true, false, false, false, false] (.take 7 [true, true, true, true, true, true, true, true, false, false, false] (.take 8 [true, true, true, true, true, true, true, true, true, false, false] (.take 9 [true, true, true, true, true, true, true, true, true, true, false] (.alt 10 [true, true, true, true, true, true, true, true, true, true, true] .done .stop)))) .stop) (.alt 6 [true, true, true, false, true, true, true, false, false, false, false] (.alt 3 [true, true, true, true, true, true, true, false, false, false, false] (.take 7 [true, true, true, true, true, true, true, true, false, false, false] (.take 8 [true, true, true, true, true, true, true, true, true, false, false] (.take 9 [true, true, true, true, true, true, true, true, true, true, false] (.alt 10 [true, true, true, true, true, true, true, true, true, true, true] .done .stop)))) .stop) .stop)) .stop)))))) (fun e w => m9_12 R K1 (e 0) (e 1) (e 6) (e 7) (e 15) (e 16) (e 17) w) (by kernel_rfl) (by kernel_rfl) (by kernel_rfl) (by kernel_rfl) (by kernel_rfl) (by kernel_rfl) (kcast (by kernel_rfl) h) hN (by kernel_rfl)
theorem s9_14 {R : VP} {K1 : VP} {Q : EQ} (hN : ∀ e w, (m9_11 R K1 (e 0) (e 1) (e 6) (e 7) (e 15) (e 16) (e 17) w) → Q .normal e w) (e : Env) (w : World) (h : m9_14 R K1 (e 0) (e 1) (e 4) (e 6) (e 7) (e 15) (e 16) (e 17) (e 31) w) : W9 k9_14 Q e w := by
  unfold m9_14 at h
  refine coA (Operand.tmp 31) h (fun h1 => ?_) (fun h1 => ?_)
  · exact quA 7 (fun e w => m9_11 R K1 (e 0) (e 1) (e 6) (e 7) (e 15) (e 16) (e 17) w) h1 hN
  · exact skA (hN _ _ h1)
theorem s9_10 {R : VP} {K1 : VP} {Q : EQ} (hN : ∀ e w, (m9_7 R K1 (e 0) (e 1) (e 15) (e 16) (e 17) w) → Q .normal e w) (e : Env) (w : World) (h : m9_10 R K1 (e 0) (e 1) (e 4) (e 6) (e 7) (e 15) (e 16) (e 17) w) : W9 k9_10 Q e w := by
  unfold m9_10 at h
  refine seA ?_
  have hN : ∀ e w, (m9_11 R K1 (e 0) (e 1) (e 6) (e 7) (e 15) (e 16) (e 17) w) → (thenE (W9 k9_11 Q) Q) .normal e w := fun e w h => then_N (s9_11 (R := R) (Q := Q) (K1 := K1) hN e w h)
  refine seA ?_
  have hN : ∀ e w, (m9_14 R K1 (e 0) (e 1) (e 4) (e 6) (e 7) (e 15) (e 16) (e 17) (e 31) w) → (thenE (W9 k9_14 (thenE (W9 k9_11 Q) Q)) (thenE (W9 k9_11 Q) Q)) .normal e w := fun e w h => then_N (s9_14 (R := R) (Q := (thenE (W9 k9_11 Q) Q)) (K1 := K1) hN e w h)
  exact rgA 6 (fun e w => m9_14 R K1 (e 0) (e 1) (e 4) (e 6) (e 7) (e 15) (e 16) (e 17) (e 31) w) h hN
theorem s9_9 {R : VP} {K1 : VP} {Q : EQ} (hN : ∀ e w, (m9_7 R K1 (e 0) (e 1) (e 15) (e 16) (e 17) w) → Q .normal e w) (e : Env) (w : World) (h : m9_9 R K1 (e 0) (e 1) (e 4) (e 6) (e 15) (e 16) (e 17) w) : W9 k9_9 Q e w := by
  unfold m9_9 at h
  refine seA ?_
  have hN : ∀ e w, (m9_10 R K1 (e 0) (e 1) (e 4) (e 6) (e 7) (e 15) (e 16) (e 17) w) → (thenE (W9 k9_10 Q) Q) .normal e w := fun e w h => then_N (s9_10 (R := R) (Q := Q) (K1 := K1) hN e w h)
  exact rgA 5 (fun e w => m9_10 R K1 (e 0) (e 1) (e 4) (e 6) (e 7) (e 15) (e 16) (e 17) w) h hN
theorem s9_8 {R : VP} {K1 : VP} {Q : EQ} (hN : ∀ e w, (m9_7 R K1 (e 0) (e 1) (e 15) (e 16) (e 17) w) → Q .normal e w) (e : Env) (w : World) (h : m9_8 R K1 (e 0) (e 1) (e 4) (e 5) (e 15) (e 16) (e 17) w) : W9 k9_8 Q e w := by
  unfold m9_8 at h
  refine seA ?_
  have hN : ∀ e w, (m9_9 R K1 (e 0) (e 1) (e 4) (e 6) (e 15) (e 16) (e 17) w) → (thenE (W9 k9_9 Q) Q) .normal e w := fun e w h => then_N (s9_9 (R := R) (Q := Q) (K1 := K1) hN e w h)
  exact rgA 4 (fun e w => m9_9 R K1 (e 0) (e 1) (e 4) (e 6) (e 15) (e 16) (e 17) w) h hN
theorem s9_6 {R : VP} {K1 : VP} {Q : EQ} (hN : ∀ e w, (K1 (e 17) w) → Q .normal e w) (e : Env) (w : World) (h : m9_6 R K1 (e 0) (e 1) (e 15) (e 16) (e 17) w) : W9 k9_6 Q e w := by
  unfold m9_6 at h
  refine seA ?_
  have hN : ∀ e w, (m9_7 R K1 (e 0) (e 1) (e 15) (e 16) (e 17) w) → (thenE (W9 k9_7 Q) Q) .normal e w := fun e w h => then_N (s9_7 (R := R) (Q := Q) (K1 := K1) hN e w h)
  refine block_ok 1 (by kernel_rfl) ?_
  have hN : ∀ e w, (m9_7 R K1 (e 0) (e 1) (e 15) (e 16) (e 17) w) → (inBlockE 1 (thenE (W9 k9_7 Q) Q)) .normal e w := fun e w h => block_N (hN e w h)
  refine seA ?_
  have hN : ∀ e w, (m9_8 R K1 (e 0) (e 1) (e 4) (e 5) (e 15) (e 16) (e 17) w) → (thenE (W9 k9_8 (inBlockE 1 (thenE (W9 k9_7 Q) Q))) (inBlockE 1 (thenE (W9 k9_7 Q) Q))) .normal e w := fun e w h => then_N (s9_8 (R := R) (Q := (inBlockE 1 (thenE (W9 k9_7 Q) Q))) (K1 := K1) hN e w h)
  exact rgA 3 (fun e w => m9_8 R K1 (e 0) (e 1) (e 4) (e 5) (e 15) (e 16) (e 17) w) h hN
theorem s9_2 {R : VP} {Q : EQ} (hN : ∀ e w, (R (Value.tuple #[]) w) → Q .normal e w) (e : Env) (w : World) (h : m9_2 R (e 0) w) : W9 k9_2 Q e w := by
  unfold m9_2 at h
  exact rgA 12 (fun e w => R (Value.tuple #[]) w) h hN
theorem s9_5 {R : VP} {K1 : VP} {Q : EQ} (hN : ∀ e w, (K1 (e 17) w) → Q .normal e w) (hX0 : ∀ e w, (m9_2 R (e 0) w) → Q (.exit 0) e w) (e : Env) (w : World) (h : m9_5 R K1 (e 0) (e 1) (e 15) (e 16) (e 17) (e 18) w) : W9 k9_5 Q e w := by
  unfold m9_5 at h
  refine seA ?_
  have hN : ∀ e w, (m9_6 R K1 (e 0) (e 1) (e 15) (e 16) (e 17) w) → (thenE (W9 k9_6 Q) Q) .normal e w := fun e w h => then_N (s9_6 (R := R) (Q := Q) (K1 := K1) hN e w h)
  have hX0 : ∀ e w, (m9_2 R (e 0) w) → (thenE (W9 k9_6 Q) Q) (.exit 0) e w := fun e w h => then_X (hX0 e w h)
  refine coA (Operand.tmp 18) h (fun h1 => ?_) (fun h1 => ?_)
  · exact skA (hN _ _ h1)
  · exact exA 0 (hX0 _ _ h1)
theorem s9_4 {R : VP} {K1 : VP} {Q : EQ} (hN : ∀ e w, (K1 (e 17) w) → Q .normal e w) (hX0 : ∀ e w, (m9_2 R (e 0) w) → Q (.exit 0) e w) (e : Env) (w : World) (h : m9_4 R K1 (e 0) (e 1) (e 15) (e 16) (e 17) w) : W9 k9_4 Q e w := by
  unfold m9_4 at h
  refine seA ?_
  have hN : ∀ e w, (m9_5 R K1 (e 0) (e 1) (e 15) (e 16) (e 17) (e 18) w) → (thenE (W9 k9_5 Q) Q) .normal e w := fun e w h => then_N (s9_5 (R := R) (Q := Q) (K1 := K1) hN hX0 e w h)
  exact rgA 2 (fun e w => m9_5 R K1 (e 0) (e 1) (e 15) (e 16) (e 17) (e 18) w) h hN
theorem s9_3 {R : VP} {Q : EQ} (hN : ∀ e w, (m9_2 R (e 0) w) → Q .normal e w) (e : Env) (w : World) (h : m9_3 R (e 0) (e 1) (e 15) (e 16) (e 17) w) : W9 k9_3 Q e w := by
  unfold m9_3 at h
  refine block_ok 0 (by kernel_rfl) ?_
  have hX0 : ∀ e w, (m9_2 R (e 0) w) → (inBlockE 0 Q) (.exit 0) e w := fun e w h => inBlock_same (Q := Q) 0 (hN e w h)
  refine loop_ok' (fun (e : Env) => e 17) [0, 1, 15, 16] (by kernel_rfl) (by kernel_rfl) h (fun K e' w' hk h' => ?_)
  have r0 : e' 0 = e 0 := hk 0 (by decide)
  have r1 : e' 1 = e 1 := hk 1 (by decide)
  have r15 : e' 15 = e 15 := hk 15 (by decide)
  have r16 : e' 16 = e 16 := hk 16 (by decide)
  have hX0 : ∀ e w, (m9_2 R (e 0) w) → (thenE (fun (e : Env) w => K (e 17) w) (inBlockE 0 Q)) (.exit 0) e w := fun e w h => then_X (hX0 e w h)
  exact s9_4 (R := R) (Q := (thenE (fun (e : Env) w => K (e 17) w) (inBlockE 0 Q))) (K1 := K) (fun _ _ h => then_N h) hX0 e' w' (by rw [r0, r1, r15, r16]; exact h')
theorem s9_1 {R : VP} {Q : EQ} (hN : ∀ e w, (R (Value.tuple #[]) w) → Q .normal e w) (e : Env) (w : World) (h : m9_1 R (e 0) (e 1) w) : W9 k9_1 Q e w := by
  unfold m9_1 at h
  refine seA ?_
  have hN : ∀ e w, (m9_2 R (e 0) w) → (thenE (W9 k9_2 Q) Q) .normal e w := fun e w h => then_N (s9_2 (R := R) (Q := Q) hN e w h)
  refine seA ?_
  have hN : ∀ e w, (m9_3 R (e 0) (e 1) (e 15) (e 16) (e 17) w) → (thenE (W9 k9_3 (thenE (W9 k9_2 Q) Q)) (thenE (W9 k9_2 Q) Q)) .normal e w := fun e w h => then_N (s9_3 (R := R) (Q := (thenE (W9 k9_2 Q) Q)) hN e w h)
  exact rgA 1 (fun e w => m9_3 R (e 0) (e 1) (e 15) (e 16) (e 17) w) h hN
theorem s9_15 {R : VP} {Q : EQ} (hN : ∀ e w, (m9_1 R (e 0) (e 1) w) → Q .normal e w) (hR : ∀ e w, (R (Value.tuple #[]) w) → Q .ret e w) (e : Env) (w : World) (h : m9_15 R (e 0) (e 1) (e 9) w) : W9 k9_15 Q e w := by
  unfold m9_15 at h
  refine coA (Operand.tmp 9) h (fun h1 => ?_) (fun h1 => ?_)
  · exact reA (hR _ _ h1)
  · exact skA (hN _ _ h1)
theorem s9_0 {R : VP} {Q : EQ} (hN : ∀ e w, (R (Value.tuple #[]) w) → Q .normal e w) (hR : ∀ e w, (R (Value.tuple #[]) w) → Q .ret e w) (e : Env) (w : World) (h : m9_0 R (e 0) (e 1) w) : W9 k9_0 Q e w := by
  unfold m9_0 at h
  refine seA ?_
  have hN : ∀ e w, (m9_1 R (e 0) (e 1) w) → (thenE (W9 k9_1 Q) Q) .normal e w := fun e w h => then_N (s9_1 (R := R) (Q := Q) hN e w h)
  have hR : ∀ e w, (R (Value.tuple #[]) w) → (thenE (W9 k9_1 Q) Q) .ret e w := fun e w h => then_R (hR e w h)
  refine seA ?_
  have hN : ∀ e w, (m9_15 R (e 0) (e 1) (e 9) w) → (thenE (W9 k9_15 (thenE (W9 k9_1 Q) Q)) (thenE (W9 k9_1 Q) Q)) .normal e w := fun e w h => then_N (s9_15 (R := R) (Q := (thenE (W9 k9_1 Q) Q)) hN hR e w h)
  exact rgA 0 (fun e w => m9_15 R (e 0) (e 1) (e 9) w) h hN
abbrev m9 (R : VP) (d0 keep1 : Value) (w : World) : Prop := m9_0 R d0 keep1 w
theorem s9 (d0 keep1 : Value) {R : VP} {w : World} (h : m9 R d0 keep1 w) :
    Calls Tryz.prog 9 #[d0, keep1] w fun e w' => ∃ v, e = .returned v ∧ R v w' :=
  calls_of_cwp (st := (fun i => cond (Nat.beq i 7) 1 (0))) (c := k9_0) (by kernel_rfl) Tryz.func9 (by kernel_rfl) (Nat.le_of_ble_eq_true (by kernel_rfl)) (by kernel_rfl)
    (s9_0 (R := R) (Q := endE Tryz.prog Tryz.f9 R) (fun e w h => kcast (by kernel_rfl) h) (fun e w h => kcast (by kernel_rfl) h) (argsE #[d0, keep1]) w (kcast (by kernel_rfl) h))
def m33_10 (R : VP) (t4 t5 : Value) (w : World) : Prop :=
  R (Value.tuple #[t4, t5]) w
def m33_7 (R : VP) (t4 t5 : Value) (w : World) : Prop :=
  R (Value.tuple #[t4, t5]) w
def m33_5 (R : VP) (t4 t5 : Value) (w : World) : Prop :=
  R (Value.tuple #[t4, t5]) w
def m33_4 (R : VP) (f7 : Value) (w : World) : Prop :=
  nilCheckP f7 fun t24 =>
  valQ Tryz.prog (Instr.fieldAt 78 t24 0) w fun t25 =>
  valQ Tryz.prog (Instr.loadAt 9 t25) w fun t26 =>
  nilCheckP f7 fun t28 =>
  valQ Tryz.prog (Instr.fieldAt 78 t28 1) w fun t29 =>
  valQ Tryz.prog (Instr.loadAt 9 t29) w fun t30 =>
  valQ Tryz.prog (binS BinOp.add 9 (Operand.tmp 26) (Operand.tmp 30) t26 t30) w fun t31 =>
  anyDraw w fun w =>
  m33_5 R t31 (Value.int IntKind.i64 0) w
def m33_6 (R : VP) (f7 t22 : Value) (w : World) : Prop :=
  condP t22
  (m33_7 R (Value.string ⟨#[]⟩) (Value.int IntKind.i64 3) w)
  (m33_4 R f7 w)
def m33_3 (R : VP) (f7 : Value) (w : World) : Prop :=
  valP Tryz.prog (binS BinOp.eql 76 (Operand.tmp 21) (Operand.const (Value.pointer none)) f7 (Value.pointer none)) w fun t22 w =>
  m33_6 R f7 t22 w
def m33_2 (R : VP) (d0 name1 : Value) (w : World) : Prop :=
  nilCheckP d0 fun t16 =>
  valP Tryz.prog (Instr.fieldAt 61 t16 0) w fun t17 w =>
  valP Tryz.prog (Instr.loadAt 59 t17) w fun t18 w =>
  valP Tryz.prog (Instr.lookup 59 t18 name1 false) w fun t20 w =>
  m33_3 R t20 w
def m33_9 (R : VP) (d0 name1 e6 t13 : Value) (w : World) : Prop :=
  condP t13
  (m33_10 R (Value.string ⟨#[]⟩) e6 w)
  (m33_2 R d0 name1 w)
def m33_8 (R : VP) (d0 name1 e6 : Value) (w : World) : Prop :=
  valP Tryz.prog (binS BinOp.neq 26 (Operand.tmp 12) (Operand.const (Value.int IntKind.i64 0)) e6 (Value.int IntKind.i64 0)) w fun t13 w =>
  m33_9 R d0 name1 e6 t13 w
def m33_1 (R : VP) (d0 name1 : Value) (w : World) : Prop :=
  valP Tryz.prog (Instr.buildSlice 71 1 #[(0, name1)]) w fun t10 w =>
  callP Tryz.prog (fnV 44) #[d0, t10] w fun t11 w =>
  m33_8 R d0 name1 t11 w
def m33_0 (R : VP) (d0 name1 : Value) (w : World) : Prop :=
  m33_1 R d0 name1 w
abbrev W33 := cwp Tryz.prog (fun i => cond (Nat.beq i 7) 1 (0))
noncomputable def k33_0 : Code := (bodyOf Tryz.f33)
noncomputable def k33_1 : Code := (c2 k33_0)
noncomputable def k33_2 : Code := (c2 k33_1)
noncomputable def k33_3 : Code := (c2 k33_2)
noncomputable def k33_4 : Code := (c2 k33_3)
noncomputable def k33_5 : Code := (c2 k33_4)
noncomputable def k33_6 : Code := (c2 (c1 k33_3))
noncomputable def k33_7 : Code := (c2 (c1 k33_6))
noncomputable def k33_8 : Code := (c2 (c1 k33_1))
noncomputable def k33_9 : Code := (c2 k33_8)
noncomputable def k33_10 : Code := (c2 (c1 k33_9))
theorem s33_10 {R : VP} {Q : EQ} (hR : ∀ e w, (R (Value.tuple #[(e 4), (e 5)]) w) → Q .ret e w) (e : Env) (w : World) (h : m33_10 R (e 4) (e 5) w) : W33 k33_10 Q e w := by
  unfold m33_10 at h
  exact reA (hR _ _ h)
theorem s33_7 {R : VP} {Q : EQ} (hR : ∀ e w, (R (Value.tuple #[(e 4), (e 5)]) w) → Q .ret e w) (e : Env) (w : World) (h : m33_7 R (e 4) (e 5) w) : W33 k33_7 Q e w := by
  unfold m33_7 at h
  exact reA (hR _ _ h)
theorem s33_5 {R : VP} {Q : EQ} (hR : ∀ e w, (R (Value.tuple #[(e 4), (e 5)]) w) → Q .ret e w) (e : Env) (w : World) (h : m33_5 R (e 4) (e 5) w) : W33 k33_5 Q e w := by
  unfold m33_5 at h
  exact reA (hR _ _ h)
theorem s33_4 {R : VP} {Q : EQ} (hR : ∀ e w, (R (Value.tuple #[(e 4), (e 5)]) w) → Q .ret e w) (e : Env) (w : World) (h : m33_4 R (e 7) w) : W33 k33_4 Q e w := by
  unfold m33_4 at h
  refine seA ?_
  have hN : ∀ e w, (m33_5 R (e 4) (e 5) w) → (thenE (W33 k33_5 Q) Q) .normal e w := fun e w h => then_N (s33_5 (R := R) (Q := Q) hR e w h)
  exact quA 7 (fun e w => m33_5 R (e 4) (e 5) w) h hN
theorem s33_6 {R : VP} {Q : EQ} (hN : ∀ e w, (m33_4 R (e 7) w) → Q .normal e w) (hR : ∀ e w, (R (Value.tuple #[(e 4), (e 5)]) w) → Q .ret e w) (e : Env) (w : World) (h : m33_6 R (e 7) (e 22) w) : W33 k33_6 Q e w := by
  unfold m33_6 at h
  refine coA (Operand.tmp 22) h (fun h1 => ?_) (fun h1 => ?_)
  · refine seA ?_
    have hN : ∀ e w, (m33_7 R (e 4) (e 5) w) → (thenE (W33 k33_7 Q) Q) .normal e w := fun e w h => then_N (s33_7 (R := R) (Q := Q) hR e w h)
    exact rgA 6 (fun e w => m33_7 R (e 4) (e 5) w) h1 hN
  · exact skA (hN _ _ h1)
theorem s33_3 {R : VP} {Q : EQ} (hR : ∀ e w, (R (Value.tuple #[(e 4), (e 5)]) w) → Q .ret e w) (e : Env) (w : World) (h : m33_3 R (e 7) w) : W33 k33_3 Q e w := by
  unfold m33_3 at h
  refine seA ?_
  have hN : ∀ e w, (m33_4 R (e 7) w) → (thenE (W33 k33_4 Q) Q) .normal e w := fun e w h => then_N (s33_4 (R := R) (Q := Q) hR e w h)
  have hR : ∀ e w, (R (Value.tuple #[(e 4), (e 5)]) w) → (thenE (W33 k33_4 Q) Q) .ret e w := fun e w h => then_R (hR e w h)
  refine seA ?_
  have hN : ∀ e w, (m33_6 R (e 7) (e 22) w) → (thenE (W33 k33_6 (thenE (W33 k33_4 Q) Q)) (thenE (W33 k33_4 Q) Q)) .normal e w := fun e w h => then_N (s33_6 (R := R) (Q := (thenE (W33 k33_4 Q) Q)) hN hR e w h)
  exact rgA 5 (fun e w => m33_6 R (e 7) (e 22) w) h hN
theorem s33_2 {R : VP} {Q : EQ} (hR : ∀ e w, (R (Value.tuple #[(e 4), (e 5)]) w) → Q .ret e w) (e : Env) (w : World) (h : m33_2 R (e 0) (e 1) w) : W33 k33_2 Q e w := by
  unfold m33_2 at h
  refine seA ?_
  have hN : ∀ e w, (m33_3 R (e 7) w) → (thenE (W33 k33_3 Q) Q) .normal e w := fun e w h => then_N (s33_3 (R := R) (Q := Q) hR e w h)
  exact rgA 4 (fun e w => m33_3 R (e 7) w) h hN
theorem s33_9 {R : VP} {Q : EQ} (hN : ∀ e w, (m33_2 R (e 0) (e 1) w) → Q .normal e w) (hR : ∀ e w, (R (Value.tuple #[(e 4), (e 5)]) w) → Q .ret e w) (e : Env) (w : World) (h : m33_9 R (e 0) (e 1) (e 6) (e 13) w) : W33 k33_9 Q e w := by
  unfold m33_9 at h
  refine coA (Operand.tmp 13) h (fun h1 => ?_) (fun h1 => ?_)
  · refine seA ?_
    have hN : ∀ e w, (m33_10 R (e 4) (e 5) w) → (thenE (W33 k33_10 Q) Q) .normal e w := fun e w h => then_N (s33_10 (R := R) (Q := Q) hR e w h)
    exact rgA 3 (fun e w => m33_10 R (e 4) (e 5) w) h1 hN
  · exact skA (hN _ _ h1)
theorem s33_8 {R : VP} {Q : EQ} (hN : ∀ e w, (m33_2 R (e 0) (e 1) w) → Q .normal e w) (hR : ∀ e w, (R (Value.tuple #[(e 4), (e 5)]) w) → Q .ret e w) (e : Env) (w : World) (h : m33_8 R (e 0) (e 1) (e 6) w) : W33 k33_8 Q e w := by
  unfold m33_8 at h
  refine seA ?_
  have hN : ∀ e w, (m33_9 R (e 0) (e 1) (e 6) (e 13) w) → (thenE (W33 k33_9 Q) Q) .normal e w := fun e w h => then_N (s33_9 (R := R) (Q := Q) hN hR e w h)
  exact rgA 2 (fun e w => m33_9 R (e 0) (e 1) (e 6) (e 13) w) h hN
theorem s33_1 {R : VP} {Q : EQ} (hR : ∀ e w, (R (Value.tuple #[(e 4), (e 5)]) w) → Q .ret e w) (e : Env) (w : World) (h : m33_1 R (e 0) (e 1) w) : W33 k33_1 Q e w := by
  unfold m33_1 at h
  refine seA ?_
  have hN : ∀ e w, (m33_2 R (e 0) (e 1) w) → (thenE (W33 k33_2 Q) Q) .normal e w := fun e w h => then_N (s33_2 (R := R) (Q := Q) hR e w h)
  have hR : ∀ e w, (R (Value.tuple #[(e 4), (e 5)]) w) → (thenE (W33 k33_2 Q) Q) .ret e w := fun e w h => then_R (hR e w h)
  refine seA ?_
  have hN : ∀ e w, (m33_8 R (e 0) (e 1) (e 6) w) → (thenE (W33 k33_8 (thenE (W33 k33_2 Q) Q)) (thenE (W33 k33_2 Q) Q)) .normal e w := fun e w h => then_N (s33_8 (R := R) (Q := (thenE (W33 k33_2 Q) Q)) hN hR e w h)
  exact rgA 1 (fun e w => m33_8 R (e 0) (e 1) (e 6) w) h hN
theorem s33_0 {R : VP} {Q : EQ} (hR : ∀ e w, (R (Value.tuple #[(e 4), (e 5)]) w) → Q .ret e w) (e : Env) (w : World) (h : m33_0 R (e 0) (e 1) w) : W33 k33_0 Q e w := by
  unfold m33_0 at h
  refine seA ?_
  have hN : ∀ e w, (m33_1 R (e 0) (e 1) w) → (thenE (W33 k33_1 Q) Q) .normal e w := fun e w h => then_N (s33_1 (R := R) (Q := Q) hR e w h)
  exact rgA 0 (fun e w => m33_1 R (e 0) (e 1) w) h hN
abbrev m33 (R : VP) (d0 name1 : Value) (w : World) : Prop := m33_0 R d0 name1 w
theorem s33 (d0 name1 : Value) {R : VP} {w : World} (h : m33 R d0 name1 w) :
    Calls Tryz.prog 33 #[d0, name1] w fun e w' => ∃ v, e = .returned v ∧ R v w' :=
  calls_of_cwp (st := (fun i => cond (Nat.beq i 7) 1 (0))) (c := k33_0) (by kernel_rfl) Tryz.func33 (by kernel_rfl) (Nat.le_of_ble_eq_true (by kernel_rfl)) (by kernel_rfl)
    (s33_0 (R := R) (Q := endE Tryz.prog Tryz.f33 R) (fun e w h => kcast (by kernel_rfl) h) (argsE #[d0, name1]) w (kcast (by kernel_rfl) h))
def m24_14 (R : VP) (t2 : Value) (w : World) : Prop :=
  R t2 w
def m24_10 (R : VP) (K1 : (Value × Value) → World → Prop) (d0 l3 t15 t16 t17 : Value) (w : World) : Prop :=
  valP Tryz.prog (binS BinOp.add 3 (Operand.tmp 17) (Operand.const (Value.int IntKind.i64 1)) t17 (Value.int IntKind.i64 1)) w fun t40 w =>
  K1 (l3, t40) w
def m24_12 (R : VP) (K1 : (Value × Value) → World → Prop) (d0 l3 name5 f6 t15 t16 t17 : Value) (w : World) : Prop :=
  anyDraw w fun w =>
  heldP w fun J =>
  nilCheckP f6 fun t30 =>
  valJ Tryz.prog J (Instr.fieldAt 78 t30 0) fun t31 =>
  valJ Tryz.prog J (Instr.loadAt 9 t31) fun t32 =>
  nilCheckP f6 fun t34 =>
  valJ Tryz.prog J (Instr.fieldAt 78 t34 1) fun t35 =>
  valJ Tryz.prog J (Instr.loadAt 9 t35) fun t36 =>
  valJ Tryz.prog J (Instr.build 67 #[(0, name5), (1, t32), (2, t36)]) fun t37 =>
  valP Tryz.prog (Instr.buildSlice 39 1 #[(0, t37)]) w fun t38 w =>
  stayP J w
  (builtinP Tryz.prog Builtin.append #[39, 39] 39 #[false, false] #[l3, t38] w fun t39 w =>
  stayP J w
  (m24_10 R K1 d0 t39 t15 t16 t17 w))
def m24_11 (R : VP) (K1 : (Value × Value) → World → Prop) (d0 l3 name5 t15 t16 t17 : Value) (w : World) : Prop :=
  nilCheckP d0 fun t22 =>
  valP Tryz.prog (Instr.fieldAt 61 t22 0) w fun t23 w =>
  valP Tryz.prog (Instr.loadAt 59 t23) w fun t24 w =>
  valP Tryz.prog (Instr.lookup 59 t24 name5 false) w fun t26 w =>
  m24_12 R K1 d0 l3 name5 t26 t15 t16 t17 w
def m24_9 (R : VP) (K1 : (Value × Value) → World → Prop) (d0 l3 t15 t16 t17 : Value) (w : World) : Prop :=
  valP Tryz.prog (Instr.indexAt 71 t15 t17) w fun t19 w =>
  valP Tryz.prog (Instr.loadAt 9 t19) w fun t20 w =>
  m24_11 R K1 d0 l3 t20 t15 t16 t17 w
def m24_5 (R : VP) (t2 : Value) (w : World) : Prop :=
  R t2 w
def m24_4 (R : VP) (l3 : Value) (w : World) : Prop :=
  m24_5 R l3 w
def m24_8 (R : VP) (K1 : (Value × Value) → World → Prop) (d0 l3 t15 t16 t17 t18 : Value) (w : World) : Prop :=
  condP t18
  (m24_9 R K1 d0 l3 t15 t16 t17 w)
  (m24_4 R l3 w)
def m24_7 (R : VP) (K1 : (Value × Value) → World → Prop) (d0 l3 t15 t16 t17 : Value) (w : World) : Prop :=
  valP Tryz.prog (binS BinOp.lss 3 (Operand.tmp 17) (Operand.tmp 16) t17 t16) w fun t18 w =>
  m24_8 R K1 d0 l3 t15 t16 t17 t18 w
def m24_6 (R : VP) (d0 l3 t15 t16 t17 : Value) (w : World) : Prop :=
  loopP (fun (K1 : (Value × Value) → World → Prop) (s : Value × Value) w => m24_7 R K1 d0 s.1 t15 t16 s.2 w) (l3, t17) w
def m24_3 (R : VP) (d0 l3 : Value) (w : World) : Prop :=
  nilCheckP d0 fun t11 =>
  valP Tryz.prog (Instr.fieldAt 61 t11 0) w fun t12 w =>
  valP Tryz.prog (Instr.loadAt 59 t12) w fun t13 w =>
  callP Tryz.prog (fnV 30) #[t13] w fun t14 w =>
  callP Tryz.prog (fnV 29) #[t14] w fun t15 w =>
  builtinP Tryz.prog Builtin.len #[71] 3 #[false] #[t15] w fun t16 w =>
  m24_6 R d0 l3 t15 t16 (Value.int IntKind.i64 0) w
def m24_13 (R : VP) (d0 l3 t8 : Value) (w : World) : Prop :=
  condP t8
  (m24_14 R l3 w)
  (m24_3 R d0 l3 w)
def m24_2 (R : VP) (d0 l3 : Value) (w : World) : Prop :=
  valP Tryz.prog (binS BinOp.eql 25 (Operand.tmp 7) (Operand.const (Value.pointer none)) d0 (Value.pointer none)) w fun t8 w =>
  m24_13 R d0 l3 t8 w
def m24_1 (R : VP) (d0 : Value) (w : World) : Prop :=
  m24_2 R d0 (Value.slice none 0 0) w
def m24_0 (R : VP) (d0 : Value) (w : World) : Prop :=
  m24_1 R d0 w
abbrev W24 := cwp Tryz.prog (fun i => 0)
noncomputable def k24_0 : Code := (bodyOf Tryz.f24)
noncomputable def k24_1 : Code := (c2 k24_0)
noncomputable def k24_2 : Code := (c2 k24_1)
noncomputable def k24_3 : Code := (c2 k24_2)
noncomputable def k24_4 : Code := (c2 k24_3)
noncomputable def k24_5 : Code := (c2 k24_4)
noncomputable def k24_6 : Code := (c2 (c1 k24_3))
noncomputable def k24_7 : Code := (c1 (c1 k24_6))
noncomputable def k24_8 : Code := (c2 k24_7)
noncomputable def k24_9 : Code := (c2 k24_8)
noncomputable def k24_10 : Code := (c2 k24_9)
noncomputable def k24_11 : Code := (c2 (c1 (c1 k24_9)))
noncomputable def k24_12 : Code := (c2 k24_11)
noncomputable def k24_13 : Code := (c2 (c1 k24_2))
noncomputable def k24_14 : Code := (c2 (c1 k24_13))
theorem s24_14 {R : VP} {Q : EQ} (hR : ∀ e w, (R (e 2) w) → Q .ret e w) (e : Env) (w : World) (h : m24_14 R (e 2) w) : W24 k24_14 Q e w := by
  unfold m24_14 at h
  exact reA (hR _ _ h)
theorem s24_10 {R : VP} {K1 : (Value × Value) → World → Prop} {Q : EQ} (hN : ∀ e w, (K1 ((e 3), (e 17)) w) → Q .normal e w) (e : Env) (w : World) (h : m24_10 R K1 (e 0) (e 3) (e 15) (e 16) (e 17) w) : W24 k24_10 Q e w := by
  unfold m24_10 at h
  exact rgA 9 (fun e w => K1 ((e 3), (e 17)) w) h hN
theorem s24_12 {R : VP} {K1 : (Value × Value) → World → Prop} {Q : EQ} (hN : ∀ e w, (m24_10 R K1 (e 0) (e 3) (e 15) (e 16) (e 17) w) → Q .normal e w) (e : Env) (w : World) (h : m24_12 R K1 (e 0) (e 3) (e 5) (e 6) (e 15) (e 16) (e 17) w) : W24 k24_12 Q e w := by
  unfold m24_12 at h
  exact treeJ_ok 8 14 [false, false, false, false, false, false, false, false, false, false, false, false, false, false] (.take 0 [true, false, false, false, false, false, false, false, false, false, false, false, false, false] (.take 1 [true, true, false, false, false, false, false, false, false, false, false, false, false, false] (.take 2 [true, true, true, false, false, false, false, false, false, false, false, false, false, false] (.take 3 [true, true, true, true, false, false, false, false, false, false, false, false, false, false] (.take 4 [true, true, true, true, true, false, false, false, false, false, false, false, false, false] (.take 5 [true, true, true, true, true, true, false, false, false, false, false, false, false, false] (.take 6 [true, true, true, true, true, true, true, false, false, false, false, false, false, false] (.take 7 [true, true, true, true, true, true, true, true, false, false, false, false, false, false] (.take 8 [true, true, true, true, true, true, true, true, true, false, false, false, false, false] (.take 9 [true, true, true, true, true, true, true, true, true, true, false, false, false, false] (.take 10 [true, true, true, true, true, true, true, true, true, true, true, false, false, false] (.alt 11 [true, true, true, true, true, true, true, true, true, true, true, true, false, false] (.alt 12 [true, true, true, true, true, true, true, true, true, true, true, true, true, false] (.take 13 [true, true, true, true, true, true, true, true, true, true, true, true, true, true] .done) .stop) .stop)))))))))))) (fun e w => m24_10 R K1 (e 0) (e 3) (e 15) (e 16) (e 17) w) (by kernel_rfl) (by kernel_rfl) (by kernel_rfl) (by kernel_rfl) (by kernel_rfl) (by kernel_rfl) (kcast (by kernel_rfl) h) hN (by kernel_rfl)
theorem s24_11 {R : VP} {K1 : (Value × Value) → World → Prop} {Q : EQ} (hN : ∀ e w, (m24_10 R K1 (e 0) (e 3) (e 15) (e 16) (e 17) w) → Q .normal e w) (e : Env) (w : World) (h : m24_11 R K1 (e 0) (e 3) (e 5) (e 15) (e 16) (e 17) w) : W24 k24_11 Q e w := by
  unfold m24_11 at h
  refine seA ?_
  have hN : ∀ e w, (m24_12 R K1 (e 0) (e 3) (e 5) (e 6) (e 15) (e 16) (e 17) w) → (thenE (W24 k24_12 Q) Q) .normal e w := fun e w h => then_N (s24_12 (R := R) (Q := Q) (K1 := K1) hN e w h)
  exact rgA 7 (fun e w => m24_12 R K1 (e 0) (e 3) (e 5) (e 6) (e 15) (e 16) (e 17) w) h hN
theorem s24_9 {R : VP} {K1 : (Value × Value) → World → Prop} {Q : EQ} (hN : ∀ e w, (K1 ((e 3), (e 17)) w) → Q .normal e w) (e : Env) (w : World) (h : m24_9 R K1 (e 0) (e 3) (e 15) (e 16) (e 17) w) : W24 k24_9 Q e w := by
  unfold m24_9 at h
  refine seA ?_
  have hN : ∀ e w, (m24_10 R K1 (e 0) (e 3) (e 15) (e 16) (e 17) w) → (thenE (W24 k24_10 Q) Q) .normal e w := fun e w h => then_N (s24_10 (R := R) (Q := Q) (K1 := K1) hN e w h)
  refine block_ok 1 (by kernel_rfl) ?_
  have hN : ∀ e w, (m24_10 R K1 (e 0) (e 3) (e 15) (e 16) (e 17) w) → (inBlockE 1 (thenE (W24 k24_10 Q) Q)) .normal e w := fun e w h => block_N (hN e w h)
  refine seA ?_
  have hN : ∀ e w, (m24_11 R K1 (e 0) (e 3) (e 5) (e 15) (e 16) (e 17) w) → (thenE (W24 k24_11 (inBlockE 1 (thenE (W24 k24_10 Q) Q))) (inBlockE 1 (thenE (W24 k24_10 Q) Q))) .normal e w := fun e w h => then_N (s24_11 (R := R) (Q := (inBlockE 1 (thenE (W24 k24_10 Q) Q))) (K1 := K1) hN e w h)
  exact rgA 6 (fun e w => m24_11 R K1 (e 0) (e 3) (e 5) (e 15) (e 16) (e 17) w) h hN
theorem s24_5 {R : VP} {Q : EQ} (hR : ∀ e w, (R (e 2) w) → Q .ret e w) (e : Env) (w : World) (h : m24_5 R (e 2) w) : W24 k24_5 Q e w := by
  unfold m24_5 at h
  exact reA (hR _ _ h)
theorem s24_4 {R : VP} {Q : EQ} (hR : ∀ e w, (R (e 2) w) → Q .ret e w) (e : Env) (w : World) (h : m24_4 R (e 3) w) : W24 k24_4 Q e w := by
  unfold m24_4 at h
  refine seA ?_
  have hN : ∀ e w, (m24_5 R (e 2) w) → (thenE (W24 k24_5 Q) Q) .normal e w := fun e w h => then_N (s24_5 (R := R) (Q := Q) hR e w h)
  exact rgA 10 (fun e w => m24_5 R (e 2) w) h hN
theorem s24_8 {R : VP} {K1 : (Value × Value) → World → Prop} {Q : EQ} (hN : ∀ e w, (K1 ((e 3), (e 17)) w) → Q .normal e w) (hX0 : ∀ e w, (m24_4 R (e 3) w) → Q (.exit 0) e w) (e : Env) (w : World) (h : m24_8 R K1 (e 0) (e 3) (e 15) (e 16) (e 17) (e 18) w) : W24 k24_8 Q e w := by
  unfold m24_8 at h
  refine seA ?_
  have hN : ∀ e w, (m24_9 R K1 (e 0) (e 3) (e 15) (e 16) (e 17) w) → (thenE (W24 k24_9 Q) Q) .normal e w := fun e w h => then_N (s24_9 (R := R) (Q := Q) (K1 := K1) hN e w h)
  have hX0 : ∀ e w, (m24_4 R (e 3) w) → (thenE (W24 k24_9 Q) Q) (.exit 0) e w := fun e w h => then_X (hX0 e w h)
  refine coA (Operand.tmp 18) h (fun h1 => ?_) (fun h1 => ?_)
  · exact skA (hN _ _ h1)
  · exact exA 0 (hX0 _ _ h1)
theorem s24_7 {R : VP} {K1 : (Value × Value) → World → Prop} {Q : EQ} (hN : ∀ e w, (K1 ((e 3), (e 17)) w) → Q .normal e w) (hX0 : ∀ e w, (m24_4 R (e 3) w) → Q (.exit 0) e w) (e : Env) (w : World) (h : m24_7 R K1 (e 0) (e 3) (e 15) (e 16) (e 17) w) : W24 k24_7 Q e w := by
  unfold m24_7 at h
  refine seA ?_
  have hN : ∀ e w, (m24_8 R K1 (e 0) (e 3) (e 15) (e 16) (e 17) (e 18) w) → (thenE (W24 k24_8 Q) Q) .normal e w := fun e w h => then_N (s24_8 (R := R) (Q := Q) (K1 := K1) hN hX0 e w h)
  exact rgA 5 (fun e w => m24_8 R K1 (e 0) (e 3) (e 15) (e 16) (e 17) (e 18) w) h hN
theorem s24_6 {R : VP} {Q : EQ} (hN : ∀ e w, (m24_4 R (e 3) w) → Q .normal e w) (e : Env) (w : World) (h : m24_6 R (e 0) (e 3) (e 15) (e 16) (e 17) w) : W24 k24_6 Q e w := by
  unfold m24_6 at h
  refine block_ok 0 (by kernel_rfl) ?_
  have hX0 : ∀ e w, (m24_4 R (e 3) w) → (inBlockE 0 Q) (.exit 0) e w := fun e w h => inBlock_same (Q := Q) 0 (hN e w h)
  refine loop_ok' (fun (e : Env) => (e 3, e 17)) [0, 15, 16] (by kernel_rfl) (by kernel_rfl) h (fun K e' w' hk h' => ?_)
  have r0 : e' 0 = e 0 := hk 0 (by decide)
  have r15 : e' 15 = e 15 := hk 15 (by decide)
  have r16 : e' 16 = e 16 := hk 16 (by decide)
  have hX0 : ∀ e w, (m24_4 R (e 3) w) → (thenE (fun (e : Env) w => K ((e 3), (e 17)) w) (inBlockE 0 Q)) (.exit 0) e w := fun e w h => then_X (hX0 e w h)
  exact s24_7 (R := R) (Q := (thenE (fun (e : Env) w => K ((e 3), (e 17)) w) (inBlockE 0 Q))) (K1 := K) (fun _ _ h => then_N h) hX0 e' w' (by rw [r0, r15, r16]; exact h')
theorem s24_3 {R : VP} {Q : EQ} (hR : ∀ e w, (R (e 2) w) → Q .ret e w) (e : Env) (w : World) (h : m24_3 R (e 0) (e 3) w) : W24 k24_3 Q e w := by
  unfold m24_3 at h
  refine seA ?_
  have hN : ∀ e w, (m24_4 R (e 3) w) → (thenE (W24 k24_4 Q) Q) .normal e w := fun e w h => then_N (s24_4 (R := R) (Q := Q) hR e w h)
  refine seA ?_
  have hN : ∀ e w, (m24_6 R (e 0) (e 3) (e 15) (e 16) (e 17) w) → (thenE (W24 k24_6 (thenE (W24 k24_4 Q) Q)) (thenE (W24 k24_4 Q) Q)) .normal e w := fun e w h => then_N (s24_6 (R := R) (Q := (thenE (W24 k24_4 Q) Q)) hN e w h)
  exact rgA 4 (fun e w => m24_6 R (e 0) (e 3) (e 15) (e 16) (e 17) w) h hN
theorem s24_13 {R : VP} {Q : EQ} (hN : ∀ e w, (m24_3 R (e 0) (e 3) w) → Q .normal e w) (hR : ∀ e w, (R (e 2) w) → Q .ret e w) (e : Env) (w : World) (h : m24_13 R (e 0) (e 3) (e 8) w) : W24 k24_13 Q e w := by
  unfold m24_13 at h
  refine coA (Operand.tmp 8) h (fun h1 => ?_) (fun h1 => ?_)
  · refine seA ?_
    have hN : ∀ e w, (m24_14 R (e 2) w) → (thenE (W24 k24_14 Q) Q) .normal e w := fun e w h => then_N (s24_14 (R := R) (Q := Q) hR e w h)
    exact rgA 3 (fun e w => m24_14 R (e 2) w) h1 hN
  · exact skA (hN _ _ h1)
theorem s24_2 {R : VP} {Q : EQ} (hR : ∀ e w, (R (e 2) w) → Q .ret e w) (e : Env) (w : World) (h : m24_2 R (e 0) (e 3) w) : W24 k24_2 Q e w := by
  unfold m24_2 at h
  refine seA ?_
  have hN : ∀ e w, (m24_3 R (e 0) (e 3) w) → (thenE (W24 k24_3 Q) Q) .normal e w := fun e w h => then_N (s24_3 (R := R) (Q := Q) hR e w h)
  have hR : ∀ e w, (R (e 2) w) → (thenE (W24 k24_3 Q) Q) .ret e w := fun e w h => then_R (hR e w h)
  refine seA ?_
  have hN : ∀ e w, (m24_13 R (e 0) (e 3) (e 8) w) → (thenE (W24 k24_13 (thenE (W24 k24_3 Q) Q)) (thenE (W24 k24_3 Q) Q)) .normal e w := fun e w h => then_N (s24_13 (R := R) (Q := (thenE (W24 k24_3 Q) Q)) hN hR e w h)
  exact rgA 2 (fun e w => m24_13 R (e 0) (e 3) (e 8) w) h hN
theorem s24_1 {R : VP} {Q : EQ} (hR : ∀ e w, (R (e 2) w) → Q .ret e w) (e : Env) (w : World) (h : m24_1 R (e 0) w) : W24 k24_1 Q e w := by
  unfold m24_1 at h
  refine seA ?_
  have hN : ∀ e w, (m24_2 R (e 0) (e 3) w) → (thenE (W24 k24_2 Q) Q) .normal e w := fun e w h => then_N (s24_2 (R := R) (Q := Q) hR e w h)
  exact rgA 1 (fun e w => m24_2 R (e 0) (e 3) w) h hN
theorem s24_0 {R : VP} {Q : EQ} (hR : ∀ e w, (R (e 2) w) → Q .ret e w) (e : Env) (w : World) (h : m24_0 R (e 0) w) : W24 k24_0 Q e w := by
  unfold m24_0 at h
  refine seA ?_
  have hN : ∀ e w, (m24_1 R (e 0) w) → (thenE (W24 k24_1 Q) Q) .normal e w := fun e w h => then_N (s24_1 (R := R) (Q := Q) hR e w h)
  exact rgA 0 (fun e w => m24_1 R (e 0) w) h hN
abbrev m24 (R : VP) (d0 : Value) (w : World) : Prop := m24_0 R d0 w
theorem s24 (d0 : Value) {R : VP} {w : World} (h : m24 R d0 w) :
    Calls Tryz.prog 24 #[d0] w fun e w' => ∃ v, e = .returned v ∧ R v w' :=
  calls_of_cwp (st := (fun i => 0)) (c := k24_0) (by kernel_rfl) Tryz.func24 (by kernel_rfl) (Nat.le_of_ble_eq_true (by kernel_rfl)) (by kernel_rfl)
    (s24_0 (R := R) (Q := endE Tryz.prog Tryz.f24 R) (fun e w h => kcast (by kernel_rfl) h) (argsE #[d0]) w (kcast (by kernel_rfl) h))
def m28_6 (R : VP) (t6 : Value) (w : World) : Prop :=
  R t6 w
def m28_3 (R : VP) (t6 : Value) (w : World) : Prop :=
  R t6 w
def m28_2 (R : VP) (d3 from4 to5 : Value) (w : World) : Prop :=
  valP Tryz.prog (Instr.loadAt 25 d3) w fun t16 w =>
  valP Tryz.prog (Instr.loadAt 9 from4) w fun t17 w =>
  valP Tryz.prog (Instr.makeFunc (Fn.func 68) #[] #[d3, to5, from4]) w fun t18 w =>
  callP Tryz.prog (fnV 65) #[t16, t17, t18] w fun t19 w =>
  m28_3 R t19 w
def m28_5 (R : VP) (d3 from4 to5 e7 t14 : Value) (w : World) : Prop :=
  condP t14
  (m28_6 R e7 w)
  (m28_2 R d3 from4 to5 w)
def m28_4 (R : VP) (d3 from4 to5 e7 : Value) (w : World) : Prop :=
  valP Tryz.prog (binS BinOp.neq 26 (Operand.tmp 13) (Operand.const (Value.int IntKind.i64 0)) e7 (Value.int IntKind.i64 0)) w fun t14 w =>
  m28_5 R d3 from4 to5 e7 t14 w
def m28_1 (R : VP) (d3 from4 to5 : Value) (w : World) : Prop :=
  valP Tryz.prog (Instr.loadAt 25 d3) w fun t8 w =>
  valP Tryz.prog (Instr.loadAt 9 from4) w fun t9 w =>
  valP Tryz.prog (Instr.loadAt 9 to5) w fun t10 w =>
  valP Tryz.prog (Instr.buildSlice 71 2 #[(0, t9), (1, t10)]) w fun t11 w =>
  callP Tryz.prog (fnV 44) #[t8, t11] w fun t12 w =>
  m28_4 R d3 from4 to5 t12 w
def m28_0 (R : VP) (d0 from1 to2 : Value) (w : World) : Prop :=
  valP Tryz.prog (Instr.box 25 d0) w fun d3 w =>
  valP Tryz.prog (Instr.box 9 from1) w fun from4 w =>
  valP Tryz.prog (Instr.box 9 to2) w fun to5 w =>
  m28_1 R d3 from4 to5 w
abbrev W28 := cwp Tryz.prog (fun i => 0)
noncomputable def k28_0 : Code := (bodyOf Tryz.f28)
noncomputable def k28_1 : Code := (c2 k28_0)
noncomputable def k28_2 : Code := (c2 k28_1)
noncomputable def k28_3 : Code := (c2 k28_2)
noncomputable def k28_4 : Code := (c2 (c1 k28_1))
noncomputable def k28_5 : Code := (c2 k28_4)
noncomputable def k28_6 : Code := (c2 (c1 k28_5))
theorem s28_6 {R : VP} {Q : EQ} (hR : ∀ e w, (R (e 6) w) → Q .ret e w) (e : Env) (w : World) (h : m28_6 R (e 6) w) : W28 k28_6 Q e w := by
  unfold m28_6 at h
  exact reA (hR _ _ h)
theorem s28_3 {R : VP} {Q : EQ} (hR : ∀ e w, (R (e 6) w) → Q .ret e w) (e : Env) (w : World) (h : m28_3 R (e 6) w) : W28 k28_3 Q e w := by
  unfold m28_3 at h
  exact reA (hR _ _ h)
theorem s28_2 {R : VP} {Q : EQ} (hR : ∀ e w, (R (e 6) w) → Q .ret e w) (e : Env) (w : World) (h : m28_2 R (e 3) (e 4) (e 5) w) : W28 k28_2 Q e w := by
  unfold m28_2 at h
  refine seA ?_
  have hN : ∀ e w, (m28_3 R (e 6) w) → (thenE (W28 k28_3 Q) Q) .normal e w := fun e w h => then_N (s28_3 (R := R) (Q := Q) hR e w h)
  exact rgA 4 (fun e w => m28_3 R (e 6) w) h hN
theorem s28_5 {R : VP} {Q : EQ} (hN : ∀ e w, (m28_2 R (e 3) (e 4) (e 5) w) → Q .normal e w) (hR : ∀ e w, (R (e 6) w) → Q .ret e w) (e : Env) (w : World) (h : m28_5 R (e 3) (e 4) (e 5) (e 7) (e 14) w) : W28 k28_5 Q e w := by
  unfold m28_5 at h
  refine coA (Operand.tmp 14) h (fun h1 => ?_) (fun h1 => ?_)
  · refine seA ?_
    have hN : ∀ e w, (m28_6 R (e 6) w) → (thenE (W28 k28_6 Q) Q) .normal e w := fun e w h => then_N (s28_6 (R := R) (Q := Q) hR e w h)
    exact rgA 3 (fun e w => m28_6 R (e 6) w) h1 hN
  · exact skA (hN _ _ h1)
theorem s28_4 {R : VP} {Q : EQ} (hN : ∀ e w, (m28_2 R (e 3) (e 4) (e 5) w) → Q .normal e w) (hR : ∀ e w, (R (e 6) w) → Q .ret e w) (e : Env) (w : World) (h : m28_4 R (e 3) (e 4) (e 5) (e 7) w) : W28 k28_4 Q e w := by
  unfold m28_4 at h
  refine seA ?_
  have hN : ∀ e w, (m28_5 R (e 3) (e 4) (e 5) (e 7) (e 14) w) → (thenE (W28 k28_5 Q) Q) .normal e w := fun e w h => then_N (s28_5 (R := R) (Q := Q) hN hR e w h)
  exact rgA 2 (fun e w => m28_5 R (e 3) (e 4) (e 5) (e 7) (e 14) w) h hN
theorem s28_1 {R : VP} {Q : EQ} (hR : ∀ e w, (R (e 6) w) → Q .ret e w) (e : Env) (w : World) (h : m28_1 R (e 3) (e 4) (e 5) w) : W28 k28_1 Q e w := by
  unfold m28_1 at h
  refine seA ?_
  have hN : ∀ e w, (m28_2 R (e 3) (e 4) (e 5) w) → (thenE (W28 k28_2 Q) Q) .normal e w := fun e w h => then_N (s28_2 (R := R) (Q := Q) hR e w h)
  have hR : ∀ e w, (R (e 6) w) → (thenE (W28 k28_2 Q) Q) .ret e w := fun e w h => then_R (hR e w h)
  refine seA ?_
  have hN : ∀ e w, (m28_4 R (e 3) (e 4) (e 5) (e 7) w) → (thenE (W28 k28_4 (thenE (W28 k28_2 Q) Q)) (thenE (W28 k28_2 Q) Q)) .normal e w := fun e w h => then_N (s28_4 (R := R) (Q := (thenE (W28 k28_2 Q) Q)) hN hR e w h)
  exact rgA 1 (fun e w => m28_4 R (e 3) (e 4) (e 5) (e 7) w) h hN
theorem s28_0 {R : VP} {Q : EQ} (hR : ∀ e w, (R (e 6) w) → Q .ret e w) (e : Env) (w : World) (h : m28_0 R (e 0) (e 1) (e 2) w) : W28 k28_0 Q e w := by
  unfold m28_0 at h
  refine seA ?_
  have hN : ∀ e w, (m28_1 R (e 3) (e 4) (e 5) w) → (thenE (W28 k28_1 Q) Q) .normal e w := fun e w h => then_N (s28_1 (R := R) (Q := Q) hR e w h)
  exact rgA 0 (fun e w => m28_1 R (e 3) (e 4) (e 5) w) h hN
abbrev m28 (R : VP) (d0 from1 to2 : Value) (w : World) : Prop := m28_0 R d0 from1 to2 w
theorem s28 (d0 from1 to2 : Value) {R : VP} {w : World} (h : m28 R d0 from1 to2 w) :
    Calls Tryz.prog 28 #[d0, from1, to2] w fun e w' => ∃ v, e = .returned v ∧ R v w' :=
  calls_of_cwp (st := (fun i => 0)) (c := k28_0) (by kernel_rfl) Tryz.func28 (by kernel_rfl) (Nat.le_of_ble_eq_true (by kernel_rfl)) (by kernel_rfl)
    (s28_0 (R := R) (Q := endE Tryz.prog Tryz.f28 R) (fun e w h => kcast (by kernel_rfl) h) (argsE #[d0, from1, to2]) w (kcast (by kernel_rfl) h))
end Go.Proofs.YtcldjjmfpmkldaaGreatDoor.M
namespace Go.Proofs.YtcldjjmfpmkldaaGreatDoor.M
open Go.Proofs.YtcldjjmfpmkldaaGreatDoor.F Go.RowKit
set_option linter.unusedVariables false
set_option linter.unusedSimpArgs false
set_option maxRecDepth 100000
set_option maxHeartbeats 2000000
attribute [local irreducible] Res.cells Res.row Res.map Res.any World.cell? World.frozen? Instr.fieldAt Instr.loadAt Instr.storeAt Instr.indexAt Instr.lookup Instr.mapUpdate Instr.box Instr.build Instr.buildSlice Instr.extract Instr.alloc Instr.field Instr.index Instr.sliceAt Instr.makeSlice Instr.makeMap Instr.makeFunc binS Op.unary Sem.run
def burnC (D : Dk) : Dk × Int := (burnt D, if D.fuse = 0 then 4 else 0)
/-- bytes are put behind a file. -/
def appD (D : Dk) (s t : ByteArray) : Dk × Int :=
  if readyC [s] D.off = 0 then
    match getF D.L s with
    | some f => if D.room < (blk (f.sz + t.size) : Int) - blk f.sz then (D, 5) else burnC ⟨updF D.L ⟨s, f.sure, f.loose ++ t⟩, D.room - ((blk (f.sz + t.size) : Int) - blk f.sz), D.fuse, D.off⟩
    | none => if D.room < (blk t.size : Int) ∨ 256 ≤ D.L.length then (D, 5) else burnC ⟨insF ⟨s, ⟨#[]⟩, t⟩ D.L, D.room - blk t.size, D.fuse, D.off⟩
  else (D, readyC [s] D.off)
theorem burnt_eq (D : Dk) : burnt D = ⟨D.L, D.room, if 0 < D.fuse then D.fuse - 1 else D.fuse, if D.fuse = 0 then true else D.off⟩ := by
  unfold burnt
  by_cases h : D.fuse = 0
  · rw [if_pos h, if_pos h, if_neg (by omega)]
  · rw [if_neg h, if_neg h]
    by_cases h1 : 0 < D.fuse
    · rw [if_pos h1, if_pos h1]
    · rw [if_neg h1, if_neg h1]
theorem ready_size {s : ByteArray} {o : Bool} (h : readyC [s] o = 0) : s.size ≤ 24 ∧ Named s ∧ o = false := by
  unfold readyC at h
  split at h
  · rename_i h1
    have h2 := h1 s (.head _)
    refine ⟨h2.2.1, h2, ?_⟩
    cases o with
    | true => simp at h
    | false => rfl
  · omega
section
variable {w0 w : World} {F : List Nat} {L : List Res} {b : Nat} {D : Dk} {size : Nat} {s t : ByteArray}
theorem zero63 (w : World) : (zeroValue 76).run Tryz.prog w = .ok (.pointer none) w := by simp [go_sem]
/-- the fuse is burnt, behind all. -/
theorem app_end {mb : Nat} {X : List (Fl × Nat)} {r : Int} (hf : -9223372036854775808 ≤ D.fuse ∧ D.fuse ≤ 9223372036854775807) (hX : X.map Prod.fst = D.L) (hr : r = D.room) (hS : St w0 F w (dCell b (.map (some mb)) r D.fuse D.off :: mapD mb X :: (X.map fileR ++ L))) : m17_9 (fun v w' => v = .int .i64 (burnC D).2 ∧ Dsk w0 F L b (burnC D).1 w') (ptr b) w := by
  subst hr
  unfold m17_9
  refine callR (by kernel_rfl) (burn_ret hf hS) ?_
  rintro _ w ⟨rfl, hS⟩
  first | refine valP_ok (not_ok _ _) ?_ | refine valP_ok (notb_ok _ _) ?_
  unfold m17_12 burnC
  rw [burnt_eq]
  refine cond_split (fun h => ?_) (fun h => ?_)
  · unfold m17_13
    have h0 := Classical.not_not.1 h
    refine ⟨by simp only [if_pos h0], mb, X, hX, ?_⟩
    simp only [if_pos h0] at hS ⊢
    exact hS
  · unfold m17_10 m17_11
    have h0 : ¬ D.fuse = 0 := fun h1 => h (not_not_intro h1)
    refine ⟨by simp only [if_neg h0], mb, X, hX, ?_⟩
    simp only [if_neg h0] at hS ⊢
    exact hS
theorem append_ret (hO : Ok size D) (ht : t.size ≤ 1000000000) (hD : Dsk w0 F L b D w) : Ret Tryz.prog 17 #[ptr b, .string s, .string t] w fun v w' => v = .int .i64 (appD D s t).2 ∧ Dsk w0 F L b (appD D s t).1 w' := by
  obtain ⟨mb, X, hX, hS⟩ := hD
  have hU : UpL (X.map Prod.fst) := hX ▸ hO.up
  have hfu : -9223372036854775808 ≤ D.fuse ∧ D.fuse ≤ 9223372036854775807 := by have := hO.fuse; omega
  have hroom := hO.room
  have hsize := hO.size
  have hsum := hO.sum
  refine s17 _ _ _ ?_
  unfold m17
  unfold m17_0
  unfold m17_1
  refine newslice_ok (bs71_1 rfl _) hS ?_
  intro b12 w hS
  refine callR (by kernel_rfl) (ready_ret (xs := [s]) 1 rfl (by simp) (Bes.of_cells 0 rfl rfl) hS) ?_
  rintro _ w ⟨rfl, hS⟩
  have hS := hS.tail
  unfold m17_19
  refine valP_ok (ne26 _ _ _ _ _) ?_
  unfold m17_20 appD
  refine cond_split (fun h => ?_) (fun h => ?_)
  · unfold m17_21
    rw [if_neg h]
    exact ⟨rfl, mb, X, hX, hS⟩
  rw [if_pos (Classical.not_not.1 h)]
  obtain ⟨hs24, hnm, ho⟩ := ready_size (Classical.not_not.1 h)
  unfold m17_2
  refine nil_ok ?_
  first | refine valP_ok (fa61_0 _ _) ?_ | refine valP_ok (fao61_0 _ _ _) ?_
  first | refine valP_ok (ld59 (hS.cell 0 rfl rfl)) ?_ | refine valP_ok (ld59 (hS.cell 1 rfl rfl)) ?_ | refine valP_ok (ld59 (hS.cell 2 rfl rfl)) ?_ | refine valP_ok (ld59 (hS.cell 3 rfl rfl)) ?_ | refine valP_ok (ld59 (hS.cell 4 rfl rfl)) ?_ | refine valP_ok (ld59 (hS.cell 5 rfl rfl)) ?_ | refine valP_ok (ld59 (hS.cell 6 rfl rfl)) ?_ | refine valP_ok (ld59 (hS.cell 7 rfl rfl)) ?_ | refine valP_ok (ld59 (by assumption)) ?_
  refine valP_ok ((hS.mapT 1 rfl).lookup Tryz.underlying9 Tryz.underlying59 (zero63 _) (by unfold maxLen; omega)) ?_
  unfold m17_3
  refine builtin_ok (len9 _) ?_
  refine callR (by kernel_rfl) (blocks_ret (n := t.size) (by omega) hS) ?_
  rintro _ w ⟨rfl, hS⟩
  rcases look_X hU s with ⟨h1, h2, h3⟩ | ⟨i, hi, h1, h2, h3⟩
  · rw [h1]
    rw [hX] at h2
    rw [h2]
    unfold m17_4
    first | refine valP_ok (ne76n _ _ _) ?_ | refine valP_ok (ne76s _ _ _ _) ?_
    unfold m17_18
    refine cond_f rfl ?_
    unfold m17_5
    refine nil_ok ?_
    first | refine valP_ok (fa61_1 _ _) ?_ | refine valP_ok (fao61_1 _ _ _) ?_
    first | refine valP_ok (ld3 (hS.cell 0 rfl rfl)) ?_ | refine valP_ok (ld3 (hS.cell 1 rfl rfl)) ?_ | refine valP_ok (ld3 (hS.cell 2 rfl rfl)) ?_ | refine valP_ok (ld3 (hS.cell 3 rfl rfl)) ?_ | refine valP_ok (ld3 (hS.cell 4 rfl rfl)) ?_ | refine valP_ok (ld3 (hS.cell 5 rfl rfl)) ?_ | refine valP_ok (ld3 (hS.cell 6 rfl rfl)) ?_ | refine valP_ok (ld3 (hS.cell 7 rfl rfl)) ?_ | refine valP_ok (ld3 (by assumption)) ?_
    refine valP_ok (gtr_ok _ _ _ _ _ _ _) ?_
    have hlen : (X.map nb).length = D.L.length := by rw [← hX, List.length_map, List.length_map]
    have h3f : (X.map nb).filter (fun p => decide (p.1 ≠ s)) = X.map nb := List.filter_eq_self.2 fun p hp => by
      obtain ⟨q, hq, rfl⟩ := List.mem_map.1 hp
      simpa using h3 q hq
    refine cond_split (fun h5 => ?_) (fun h5 => ?_)
    · first | refine pick_dt (by first | assumption | omega) ?_ | refine pick_df (by first | assumption | omega) ?_ | refine pick_t (by first | rfl | assumption) ?_ | refine pick_f (by first | rfl | assumption) ?_ | refine pick_dt rfl ?_ | refine pick_df (not_not_intro rfl) ?_
      unfold m17_16
      refine cond_t rfl ?_
      unfold m17_17
      rw [if_pos (.inl h5)]
      exact ⟨rfl, mb, X, hX, hS⟩
    · first | refine valP_ok (eq76n _ _ _) ?_ | refine valP_ok (eq76s _ _ _ _) ?_
      refine cond_t rfl ?_
      refine nil_ok ?_
      first | refine valP_ok (fa61_0 _ _) ?_ | refine valP_ok (fao61_0 _ _ _) ?_
      first | refine valP_ok (ld59 (hS.cell 0 rfl rfl)) ?_ | refine valP_ok (ld59 (hS.cell 1 rfl rfl)) ?_ | refine valP_ok (ld59 (hS.cell 2 rfl rfl)) ?_ | refine valP_ok (ld59 (hS.cell 3 rfl rfl)) ?_ | refine valP_ok (ld59 (hS.cell 4 rfl rfl)) ?_ | refine valP_ok (ld59 (hS.cell 5 rfl rfl)) ?_ | refine valP_ok (ld59 (hS.cell 6 rfl rfl)) ?_ | refine valP_ok (ld59 (hS.cell 7 rfl rfl)) ?_ | refine valP_ok (ld59 (by assumption)) ?_
      refine lenT_ok 1 hS rfl Tryz.underlying59 ?_
      refine valP_ok (geq_ok _ _ _ _ _ _ _) ?_
      first | refine pick_dt (by first | assumption | omega) ?_ | refine pick_df (by first | assumption | omega) ?_ | refine pick_t (by first | rfl | assumption) ?_ | refine pick_f (by first | rfl | assumption) ?_ | refine pick_dt rfl ?_ | refine pick_df (not_not_intro rfl) ?_
      first | refine pick_dt (by first | assumption | omega) ?_ | refine pick_df (by first | assumption | omega) ?_ | refine pick_t (by first | rfl | assumption) ?_ | refine pick_f (by first | rfl | assumption) ?_ | refine pick_dt rfl ?_ | refine pick_df (not_not_intro rfl) ?_
      unfold m17_16
      refine cond_split (fun h6 => ?_) (fun h6 => ?_)
      · unfold m17_17
        rw [if_pos (.inr (by omega))]
        exact ⟨rfl, mb, X, hX, hS⟩
      · rw [if_neg (show ¬ (D.room < (blk t.size : Int) ∨ 256 ≤ D.L.length) by omega)]
        unfold m17_6
        first | refine valP_ok (eq76n _ _ _) ?_ | refine valP_ok (eq76s _ _ _ _) ?_
        unfold m17_14
        refine cond_t rfl ?_
        refine valP_ok (bd78 _) ?_
        refine new_ok (bx78 _ _ _) hS ?_
        intro b59 w hS
        unfold m17_15
        refine nil_ok ?_
        first | refine valP_ok (fa61_0 _ _) ?_ | refine valP_ok (fao61_0 _ _ _) ?_
        first | refine valP_ok (ld59 (hS.cell 0 rfl rfl)) ?_ | refine valP_ok (ld59 (hS.cell 1 rfl rfl)) ?_ | refine valP_ok (ld59 (hS.cell 2 rfl rfl)) ?_ | refine valP_ok (ld59 (hS.cell 3 rfl rfl)) ?_ | refine valP_ok (ld59 (hS.cell 4 rfl rfl)) ?_ | refine valP_ok (ld59 (hS.cell 5 rfl rfl)) ?_ | refine valP_ok (ld59 (hS.cell 6 rfl rfl)) ?_ | refine valP_ok (ld59 (hS.cell 7 rfl rfl)) ?_ | refine valP_ok (ld59 (by assumption)) ?_
        have hp := insX_perm (⟨s, ⟨#[]⟩, t⟩, b59) X
        refine putT_at 2 ((insX (⟨s, ⟨#[]⟩, t⟩, b59) X).map nb) hS rfl Tryz.underlying9 Tryz.underlying59 (by unfold maxLen; omega) (by unfold maxLen; omega) (by rw [h3f]; exact hp.map nb) ?_
        intro w hS
        simp only [List.set_cons_zero, List.set_cons_succ] at hS
        unfold m17_7
        refine nil_ok ?_
        first | refine valP_ok (fa61_1 _ _) ?_ | refine valP_ok (fao61_1 _ _ _) ?_
        first | refine valP_ok (ld3 (hS.cell 0 rfl rfl)) ?_ | refine valP_ok (ld3 (hS.cell 1 rfl rfl)) ?_ | refine valP_ok (ld3 (hS.cell 2 rfl rfl)) ?_ | refine valP_ok (ld3 (hS.cell 3 rfl rfl)) ?_ | refine valP_ok (ld3 (hS.cell 4 rfl rfl)) ?_ | refine valP_ok (ld3 (hS.cell 5 rfl rfl)) ?_ | refine valP_ok (ld3 (hS.cell 6 rfl rfl)) ?_ | refine valP_ok (ld3 (hS.cell 7 rfl rfl)) ?_ | refine valP_ok (ld3 (by assumption)) ?_
        refine valP_ok (sub_ok _ _ _ (by omega) (by omega) _) ?_
        refine nil_ok ?_
        first | refine valP_ok (fa61_1 _ _) ?_ | refine valP_ok (fao61_1 _ _ _) ?_
        first | refine store_at 0 st3 hS rfl (by simp) rfl ?_ | refine store_at 1 st3 hS rfl (by simp) rfl ?_ | refine store_at 2 st3 hS rfl (by simp) rfl ?_ | refine store_at 3 st3 hS rfl (by simp) rfl ?_ | refine store_at 4 st3 hS rfl (by simp) rfl ?_ | refine store_at 5 st3 hS rfl (by simp) rfl ?_ | refine store_at 6 st3 hS rfl (by simp) rfl ?_ | refine store_at 7 st3 hS rfl (by simp) rfl ?_
        intro w hS
        simp only [List.set_cons_zero, List.set_cons_succ] at hS
        unfold m17_8
        refine nil_ok ?_
        first | refine valP_ok (fa78_1 _ _) ?_ | refine valP_ok (fao78_1 _ _ _) ?_
        first | refine valP_ok (ld9 (hS.cell 0 rfl rfl)) ?_ | refine valP_ok (ld9 (hS.cell 1 rfl rfl)) ?_ | refine valP_ok (ld9 (hS.cell 2 rfl rfl)) ?_ | refine valP_ok (ld9 (hS.cell 3 rfl rfl)) ?_ | refine valP_ok (ld9 (hS.cell 4 rfl rfl)) ?_ | refine valP_ok (ld9 (hS.cell 5 rfl rfl)) ?_ | refine valP_ok (ld9 (hS.cell 6 rfl rfl)) ?_ | refine valP_ok (ld9 (hS.cell 7 rfl rfl)) ?_ | refine valP_ok (ld9 (by assumption)) ?_
        refine valP_ok (sadd _ _ (by have : (⟨#[]⟩ : ByteArray).size = 0 := rfl; omega) _) ?_
        refine nil_ok ?_
        first | refine valP_ok (fa78_1 _ _) ?_ | refine valP_ok (fao78_1 _ _ _) ?_
        first | refine store_at 0 st9 hS rfl (by simp) rfl ?_ | refine store_at 1 st9 hS rfl (by simp) rfl ?_ | refine store_at 2 st9 hS rfl (by simp) rfl ?_ | refine store_at 3 st9 hS rfl (by simp) rfl ?_ | refine store_at 4 st9 hS rfl (by simp) rfl ?_ | refine store_at 5 st9 hS rfl (by simp) rfl ?_ | refine store_at 6 st9 hS rfl (by simp) rfl ?_ | refine store_at 7 st9 hS rfl (by simp) rfl ?_
        intro w hS
        simp only [List.set_cons_zero, List.set_cons_succ] at hS
        rw [empty_add] at hS
        have hS2 := hS.perm (L' := dCell b (.map (some mb)) (D.room - blk t.size) D.fuse D.off :: mapD mb (insX (⟨s, ⟨#[]⟩, t⟩, b59) X) :: ((insX (⟨s, ⟨#[]⟩, t⟩, b59) X).map fileR ++ L)) (by
          refine ((List.Perm.swap _ _ _).trans ((List.Perm.swap _ _ _).cons _)).trans (((?_ : List.Perm _ _).cons _).cons _)
          exact ((hp.map fileR).append_right L).symm)
        exact app_end (D := ⟨insF ⟨s, ⟨#[]⟩, t⟩ D.L, D.room - blk t.size, D.fuse, D.off⟩) hfu (by rw [insX_map, hX]) rfl hS2
  · rw [h1]
    rw [hX] at h2
    rw [h2]
    have hfm : X[i].1 ∈ D.L := (getF_some h2).1
    have hsz := hO.sz hfm
    have hsz' : X[i].1.sure.size + X[i].1.loose.size = X[i].1.sz := rfl
    have hfa := fileAt hi L (dCell b (.map (some mb)) D.room D.fuse D.off) (mapD mb X)
    unfold m17_4
    first | refine valP_ok (ne76n _ _ _) ?_ | refine valP_ok (ne76s _ _ _ _) ?_
    unfold m17_18
    refine cond_t rfl ?_
    refine callR (by kernel_rfl) (size_ret (i + 2) (by omega) hfa hS) ?_
    rintro _ w ⟨rfl, hS⟩
    refine builtin_ok (len9 _) ?_
    refine valP_ok (add_ok _ _ _ (by omega) (by omega) _) ?_
    rw [show (((X[i].1.sure.size + X[i].1.loose.size : Nat) : Int) + (t.size : Int)) = ((X[i].1.sz + t.size : Nat) : Int) by omega]
    refine callR (by kernel_rfl) (blocks_ret (n := X[i].1.sz + t.size) (by omega) hS) ?_
    rintro _ w ⟨rfl, hS⟩
    refine callR (by kernel_rfl) (size_ret (i + 2) (by omega) hfa hS) ?_
    rintro _ w ⟨rfl, hS⟩
    refine callR (by kernel_rfl) (blocks_ret (n := X[i].1.sz) (by omega) hS) ?_
    rintro _ w ⟨rfl, hS⟩
    have hb1 : blk (X[i].1.sz + t.size) ≤ 1000000000000 := by unfold blk; omega
    have hb2 : blk X[i].1.sz ≤ 1000000000000 := by unfold blk; omega
    refine valP_ok (sub_ok _ _ _ (by omega) (by omega) _) ?_
    unfold m17_5
    refine nil_ok ?_
    first | refine valP_ok (fa61_1 _ _) ?_ | refine valP_ok (fao61_1 _ _ _) ?_
    first | refine valP_ok (ld3 (hS.cell 0 rfl rfl)) ?_ | refine valP_ok (ld3 (hS.cell 1 rfl rfl)) ?_ | refine valP_ok (ld3 (hS.cell 2 rfl rfl)) ?_ | refine valP_ok (ld3 (hS.cell 3 rfl rfl)) ?_ | refine valP_ok (ld3 (hS.cell 4 rfl rfl)) ?_ | refine valP_ok (ld3 (hS.cell 5 rfl rfl)) ?_ | refine valP_ok (ld3 (hS.cell 6 rfl rfl)) ?_ | refine valP_ok (ld3 (hS.cell 7 rfl rfl)) ?_ | refine valP_ok (ld3 (by assumption)) ?_
    refine valP_ok (gtr_ok _ _ _ _ _ _ _) ?_
    refine cond_split (fun h5 => ?_) (fun h5 => ?_)
    · first | refine pick_dt (by first | assumption | omega) ?_ | refine pick_df (by first | assumption | omega) ?_ | refine pick_t (by first | rfl | assumption) ?_ | refine pick_f (by first | rfl | assumption) ?_ | refine pick_dt rfl ?_ | refine pick_df (not_not_intro rfl) ?_
      unfold m17_16
      refine cond_t rfl ?_
      unfold m17_17
      simp only [if_pos h5]
      exact ⟨trivial, mb, X, hX, hS⟩
    · simp only [if_neg h5]
      first | refine valP_ok (eq76n _ _ _) ?_ | refine valP_ok (eq76s _ _ _ _) ?_
      refine cond_f rfl ?_
      first | refine pick_dt (by first | assumption | omega) ?_ | refine pick_df (by first | assumption | omega) ?_ | refine pick_t (by first | rfl | assumption) ?_ | refine pick_f (by first | rfl | assumption) ?_ | refine pick_dt rfl ?_ | refine pick_df (not_not_intro rfl) ?_
      first | refine pick_dt (by first | assumption | omega) ?_ | refine pick_df (by first | assumption | omega) ?_ | refine pick_t (by first | rfl | assumption) ?_ | refine pick_f (by first | rfl | assumption) ?_ | refine pick_dt rfl ?_ | refine pick_df (not_not_intro rfl) ?_
      unfold m17_16
      refine cond_f rfl ?_
      unfold m17_6
      first | refine valP_ok (eq76n _ _ _) ?_ | refine valP_ok (eq76s _ _ _ _) ?_
      unfold m17_14
      refine cond_f rfl ?_
      unfold m17_7
      refine nil_ok ?_
      first | refine valP_ok (fa61_1 _ _) ?_ | refine valP_ok (fao61_1 _ _ _) ?_
      first | refine valP_ok (ld3 (hS.cell 0 rfl rfl)) ?_ | refine valP_ok (ld3 (hS.cell 1 rfl rfl)) ?_ | refine valP_ok (ld3 (hS.cell 2 rfl rfl)) ?_ | refine valP_ok (ld3 (hS.cell 3 rfl rfl)) ?_ | refine valP_ok (ld3 (hS.cell 4 rfl rfl)) ?_ | refine valP_ok (ld3 (hS.cell 5 rfl rfl)) ?_ | refine valP_ok (ld3 (hS.cell 6 rfl rfl)) ?_ | refine valP_ok (ld3 (hS.cell 7 rfl rfl)) ?_ | refine valP_ok (ld3 (by assumption)) ?_
      refine valP_ok (sub_ok _ _ _ (by omega) (by omega) _) ?_
      refine nil_ok ?_
      first | refine valP_ok (fa61_1 _ _) ?_ | refine valP_ok (fao61_1 _ _ _) ?_
      first | refine store_at 0 st3 hS rfl (by simp) rfl ?_ | refine store_at 1 st3 hS rfl (by simp) rfl ?_ | refine store_at 2 st3 hS rfl (by simp) rfl ?_ | refine store_at 3 st3 hS rfl (by simp) rfl ?_ | refine store_at 4 st3 hS rfl (by simp) rfl ?_ | refine store_at 5 st3 hS rfl (by simp) rfl ?_ | refine store_at 6 st3 hS rfl (by simp) rfl ?_ | refine store_at 7 st3 hS rfl (by simp) rfl ?_
      intro w hS
      simp only [List.set_cons_zero, List.set_cons_succ] at hS
      have hfa := fileAt hi L (dCell b (.map (some mb)) (D.room - ((blk (X[i].1.sz + t.size) : Int) - blk X[i].1.sz)) D.fuse D.off) (mapD mb X)
      unfold m17_8
      refine nil_ok ?_
      refine valP_ok (fa78_1 _ _) ?_
      refine valP_ok (ld9 (hS.cell (i + 2) hfa (i := 1) rfl)) ?_
      refine valP_ok (sadd _ _ (by omega) _) ?_
      refine nil_ok ?_
      refine valP_ok (fa78_1 _ _) ?_
      refine store_at (i + 2) st9 hS hfa (by simp) rfl ?_
      intro w hS
      have hset := fileSet hi L (dCell b (.map (some mb)) (D.room - ((blk (X[i].1.sz + t.size) : Int) - blk X[i].1.sz)) D.fuse D.off) (mapD mb X) ⟨s, X[i].1.sure, X[i].1.loose ++ t⟩
      have hS2 : St w0 F w ((dCell b (.map (some mb)) (D.room - ((blk (X[i].1.sz + t.size) : Int) - blk X[i].1.sz)) D.fuse D.off :: mapD mb X :: (X.map fileR ++ L)).set (i + 2) (fileR (⟨s, X[i].1.sure, X[i].1.loose ++ t⟩, X[i].2))) := hS
      rw [hset] at hS2
      have hnb := nb_set (f' := ⟨s, X[i].1.sure, X[i].1.loose ++ t⟩) hi h3
      have hmap : mapD mb X = mapD mb (X.set i (⟨s, X[i].1.sure, X[i].1.loose ++ t⟩, X[i].2)) := by unfold mapD; rw [hnb]
      rw [hmap] at hS2
      exact app_end (D := ⟨updF D.L ⟨s, X[i].1.sure, X[i].1.loose ++ t⟩, D.room - ((blk (X[i].1.sz + t.size) : Int) - blk X[i].1.sz), D.fuse, D.off⟩) hfu (by rw [updX_map hU hi h3, hX]) rfl hS2
end
end Go.Proofs.YtcldjjmfpmkldaaGreatDoor.M
namespace Go.Proofs.YtcldjjmfpmkldaaGreatDoor.M
open Go.Proofs.YtcldjjmfpmkldaaGreatDoor.F Go.RowKit
set_option linter.unusedVariables false
set_option linter.unusedSimpArgs false
set_option maxRecDepth 100000
set_option maxHeartbeats 2000000
attribute [local irreducible] Res.cells Res.row Res.map Res.any World.cell? World.frozen? Instr.fieldAt Instr.loadAt Instr.storeAt Instr.indexAt Instr.lookup Instr.mapUpdate Instr.box Instr.build Instr.buildSlice Instr.extract Instr.alloc Instr.field Instr.index Instr.sliceAt Instr.makeSlice Instr.makeMap Instr.makeFunc binS Op.unary Sem.run
def delF (l : List Fl) (s : ByteArray) : List Fl := l.filter (fun f => decide (f.name ≠ s))
theorem delX_map (X : List (Fl × Nat)) (s : ByteArray) : (X.filter (fun p => decide (p.1.name ≠ s))).map Prod.fst = delF (X.map Prod.fst) s := by
  unfold delF
  rw [List.filter_map]
  rfl
theorem delX_nb (X : List (Fl × Nat)) (s : ByteArray) : (X.filter (fun p => decide (p.1.name ≠ s))).map nb = (X.map nb).filter (fun p => decide (p.1 ≠ s)) := by
  rw [List.filter_map]
  rfl
theorem erase_del : ∀ {X : List (Fl × Nat)} (_ : UpL (X.map Prod.fst)) {i : Nat} (hi : i < X.length) {s : ByteArray} (_ : X[i].1.name = s), X.eraseIdx i = X.filter (fun p => decide (p.1.name ≠ s))
  | [], _, i, hi, _, _ => absurd hi (Nat.not_lt_zero _)
  | q :: X, h, 0, hi, s, e => by
    have hq := List.pairwise_cons.1 (up_ne h)
    simp only [List.getElem_cons_zero] at e
    rw [List.filter_cons_of_neg (by simp [e])]
    refine (List.filter_eq_self.2 fun p hp => ?_).symm
    have := hq.1 p.1 (List.mem_map.2 ⟨p, hp, rfl⟩)
    simp only [decide_eq_true_eq]
    exact fun h2 => this (e.trans h2.symm)
  | q :: X, h, i + 1, hi, s, e => by
    have hq := List.pairwise_cons.1 (up_ne h)
    simp only [List.getElem_cons_succ] at e
    have hl : i < X.length := by simpa using hi
    have hne := hq.1 X[i].1 (List.mem_map.2 ⟨_, List.getElem_mem hl, rfl⟩)
    rw [e] at hne
    have hp : decide (q.1.name ≠ s) = true := decide_eq_true hne
    rw [List.eraseIdx_cons_succ, List.filter_cons, if_pos hp, erase_del (List.pairwise_cons.1 h).2 hl e]
theorem perm_get : ∀ {X : List (Fl × Nat)} {i : Nat} (hi : i < X.length), X.Perm (X[i] :: X.eraseIdx i)
  | [], i, hi => absurd hi (Nat.not_lt_zero _)
  | q :: X, 0, hi => .refl _
  | q :: X, i + 1, hi => ((perm_get (X := X) (i := i) (by simpa using hi)).cons q).trans (.swap _ _ _)
theorem perm_put {X : List (Fl × Nat)} {i : Nat} (hi : i < X.length) (p : Fl × Nat) : (X.set i p).Perm (p :: X.eraseIdx i) := by
  have h1 : i < (X.set i p).length := by simpa using hi
  have := perm_get h1
  rw [List.getElem_set_self, List.eraseIdx_set_eq] at this
  exact this
section
variable {w0 w : World} {F : List Nat} {L : List Res} {d m : Res}
theorem St.focus {X : List (Fl × Nat)} {i : Nat} (hi : i < X.length) (hS : St w0 F w (d :: m :: (X.map fileR ++ L))) : St w0 F w (d :: fileR X[i] :: m :: ((X.eraseIdx i).map fileR ++ L)) := by
  refine hS.perm (List.Perm.cons _ (List.Perm.trans (List.Perm.cons _ ?_) (List.Perm.swap _ _ _)))
  have := ((perm_get hi).map fileR).append_right L
  rwa [List.map_cons, List.cons_append] at this
theorem St.unfocus {X : List (Fl × Nat)} {i : Nat} (hi : i < X.length) (p : Fl × Nat) (hS : St w0 F w (d :: fileR p :: m :: ((X.eraseIdx i).map fileR ++ L))) : St w0 F w (d :: m :: ((X.set i p).map fileR ++ L)) := by
  refine hS.perm (List.Perm.cons _ (List.Perm.trans (List.Perm.swap _ _ _) (List.Perm.cons _ ?_)))
  have := ((perm_put hi p).map fileR).append_right L
  rw [List.map_cons, List.cons_append] at this
  exact this.symm
theorem St.push {r : Res} {Y : List Res} (hS : St w0 F w (r :: d :: m :: (Y ++ L))) : St w0 F w (d :: m :: (Y ++ r :: L)) := by
  refine hS.perm ((List.Perm.swap _ _ _).trans (List.Perm.cons _ ((List.Perm.swap _ _ _).trans (List.Perm.cons _ ?_))))
  exact List.perm_middle.symm
theorem St.pull {r : Res} {Y : List Res} (hS : St w0 F w (d :: m :: (Y ++ r :: L))) : St w0 F w (d :: m :: r :: (Y ++ L)) :=
  hS.perm (List.Perm.cons _ (List.Perm.cons _ List.perm_middle))
theorem Dsk.pop {b : Nat} {D : Dk} {r : Res} (h : Dsk w0 F (r :: L) b D w) : Dsk w0 F L b D w := by
  obtain ⟨mb, X, hX, hS⟩ := h
  exact ⟨mb, X, hX, (St.pull hS).pick 3 [0, 1] (by simp) (by decide)⟩
theorem Dsk.push {b : Nat} {D : Dk} {r : Res} {mb : Nat} {X : List (Fl × Nat)} (hX : X.map Prod.fst = D.L) (hS : St w0 F w (r :: dCell b (.map (some mb)) D.room D.fuse D.off :: mapD mb X :: (X.map fileR ++ L))) : Dsk w0 F (r :: L) b D w := ⟨mb, X, hX, St.push hS⟩
end
/-- something is done with a file that is there, if the power stays. -/
def workD (D : Dk) (s : ByteArray) (Rf : Fl → Dk → Dk × Int) : Dk × Int :=
  if readyC [s] D.off = 0 then
    match getF D.L s with
    | some f => if D.fuse = 0 then (burnt D, 4) else Rf f (burnt D)
    | none => (D, 3)
  else (D, readyC [s] D.off)
theorem burnt_L (D : Dk) : (burnt D).L = D.L := by rw [burnt_eq]
theorem burnt_room (D : Dk) : (burnt D).room = D.room := by rw [burnt_eq]
theorem Ok.burnt {n : Nat} {D : Dk} (h : Ok n D) : Ok n (burnt D) := by
  rw [burnt_eq]
  refine ⟨h.up, h.len, h.room, h.sum, h.names, ?_, h.size⟩
  have := h.fuse
  simp only
  split <;> omega
section
variable {w0 w : World} {F : List Nat} {L : List Res} {b : Nat} {D : Dk} {size : Nat} {s : ByteArray}
/-- a disk's parts, with one file in front. -/
def Foc (w0 : World) (F : List Nat) (L : List Res) (b mb : Nat) (X : List (Fl × Nat)) (i : Nat) (p : Fl × Nat) (D : Dk) (w : World) : Prop := St w0 F w (dCell b (.map (some mb)) D.room D.fuse D.off :: fileR p :: mapD mb X :: ((X.eraseIdx i).map fileR ++ L))
theorem work_ret {fn : Nat} {first cap : Array Value} {Rf : Fl → Dk → Dk × Int} (hfn : callsOk Tryz.prog fn = true) (hO : Ok size D)
    (hdo : ∀ w mb X i (hi : i < X.length), X.map Prod.fst = (burnt D).L → X[i].1.name = s → Foc w0 F L b mb X i X[i] (burnt D) w → Ret Tryz.prog fn (first ++ #[ptr X[i].2] ++ cap) w fun v w' => v = .int .i64 (Rf X[i].1 (burnt D)).2 ∧ Dsk w0 F L b (Rf X[i].1 (burnt D)).1 w')
    (hD : Dsk w0 F L b D w) : Ret Tryz.prog 65 #[ptr b, .string s, .func (.func fn) first cap] w fun v w' => v = .int .i64 (workD D s Rf).2 ∧ Dsk w0 F L b (workD D s Rf).1 w' := by
  obtain ⟨mb, X, hX, hS⟩ := hD
  have hU : UpL (X.map Prod.fst) := hX ▸ hO.up
  have hfu : -9223372036854775808 ≤ D.fuse ∧ D.fuse ≤ 9223372036854775807 := by have := hO.fuse; omega
  refine s65 _ _ _ ?_
  unfold m65
  unfold m65_0
  unfold m65_1
  refine newslice_ok (bs71_1 rfl _) hS ?_
  intro b11 w hS
  refine callR (by kernel_rfl) (ready_ret (xs := [s]) 1 rfl (by simp) (Bes.of_cells 0 rfl rfl) hS) ?_
  rintro _ w ⟨rfl, hS⟩
  have hS := hS.tail
  unfold m65_10
  refine valP_ok (ne26 _ _ _ _ _) ?_
  unfold m65_11 workD
  refine cond_split (fun h => ?_) (fun h => ?_)
  · unfold m65_12
    rw [if_neg h]
    exact ⟨rfl, mb, X, hX, hS⟩
  rw [if_pos (Classical.not_not.1 h)]
  obtain ⟨hs24, hnm, ho⟩ := ready_size (Classical.not_not.1 h)
  unfold m65_2
  refine nil_ok ?_
  first | refine valP_ok (fa61_0 _ _) ?_ | refine valP_ok (fao61_0 _ _ _) ?_
  first | refine valP_ok (ld59 (hS.cell 0 rfl rfl)) ?_ | refine valP_ok (ld59 (hS.cell 1 rfl rfl)) ?_ | refine valP_ok (ld59 (hS.cell 2 rfl rfl)) ?_ | refine valP_ok (ld59 (hS.cell 3 rfl rfl)) ?_ | refine valP_ok (ld59 (hS.cell 4 rfl rfl)) ?_ | refine valP_ok (ld59 (hS.cell 5 rfl rfl)) ?_ | refine valP_ok (ld59 (hS.cell 6 rfl rfl)) ?_ | refine valP_ok (ld59 (hS.cell 7 rfl rfl)) ?_ | refine valP_ok (ld59 (by assumption)) ?_
  refine valP_ok ((hS.mapT 1 rfl).lookup Tryz.underlying9 Tryz.underlying59 (zero63 _) (by unfold maxLen; omega)) ?_
  rcases look_X hU s with ⟨h1, h2, h3⟩ | ⟨i, hi, h1, h2, h3⟩
  · rw [h1]
    rw [hX] at h2
    rw [h2]
    unfold m65_3
    first | refine valP_ok (eq76n _ _ _) ?_ | refine valP_ok (eq76s _ _ _ _) ?_
    unfold m65_6
    refine cond_t rfl ?_
    unfold m65_7
    exact ⟨rfl, mb, X, hX, hS⟩
  · rw [h1]
    rw [hX] at h2
    rw [h2]
    unfold m65_3
    first | refine valP_ok (eq76n _ _ _) ?_ | refine valP_ok (eq76s _ _ _ _) ?_
    unfold m65_6
    refine cond_f rfl ?_
    refine callR (by kernel_rfl) (burn_ret hfu hS) ?_
    rintro _ w ⟨rfl, hS⟩
    first | refine valP_ok (not_ok _ _) ?_ | refine valP_ok (notb_ok _ _) ?_
    unfold m65_8
    have hb := burnt_eq D
    refine cond_split (fun h4 => ?_) (fun h4 => ?_)
    · unfold m65_9
      have h0 := Classical.not_not.1 h4
      simp only [if_pos h0]
      refine ⟨trivial, mb, X, by rw [burnt_L]; exact hX, ?_⟩
      rw [hb]
      exact hS
    · have h0 : ¬ D.fuse = 0 := fun h1 => h4 (not_not_intro h1)
      simp only [if_neg h0]
      unfold m65_4
      have hf := St.focus hi hS
      refine callvR hfn rfl (hdo w mb X i hi (by rw [burnt_L]; exact hX) h3 (by unfold Foc; rw [hb]; exact hf)) ?_
      rintro _ w ⟨rfl, hD⟩
      unfold m65_5
      exact ⟨rfl, hD⟩
def syncR (f : Fl) (D : Dk) : Dk × Int := (⟨updF D.L ⟨f.name, f.sure ++ f.loose, ⟨#[]⟩⟩, D.room, D.fuse, D.off⟩, 0)
theorem Foc.done {mb : Nat} {X : List (Fl × Nat)} {i : Nat} {f' : Fl} {D' : Dk} (hU : UpL (X.map Prod.fst)) (hi : i < X.length) (hn : X[i].1.name = f'.name) (hL : D'.L = updF (X.map Prod.fst) f') (h : Foc w0 F L b mb X i (f', X[i].2) D' w) : Dsk w0 F L b D' w := by
  unfold Foc at h
  have hS := St.unfocus hi _ h
  refine ⟨mb, X.set i (f', X[i].2), by rw [updX_map hU hi hn, hL], ?_⟩
  have hnb := nb_set hi hn
  have hmap : mapD mb X = mapD mb (X.set i (f', X[i].2)) := by unfold mapD; rw [hnb]
  rw [hmap] at hS
  exact hS
theorem sync_ret (hO : Ok size D) (hD : Dsk w0 F L b D w) : Ret Tryz.prog 27 #[ptr b, .string s] w fun v w' => v = .int .i64 (workD D s syncR).2 ∧ Dsk w0 F L b (workD D s syncR).1 w' := by
  refine s27 _ _ ?_
  unfold m27 m27_0 m27_1
  refine callR (by kernel_rfl) (work_ret (fn := 67) (first := #[]) (cap := #[]) (Rf := syncR) (by kernel_rfl) hO ?_ hD) ?_
  · intro w mb X i hi hX hn hS
    have hU : UpL (X.map Prod.fst) := by rw [hX, burnt_L]; exact hO.up
    have hfm : X[i].1 ∈ D.L := by rw [← burnt_L D, ← hX]; exact List.mem_map.2 ⟨_, List.getElem_mem hi, rfl⟩
    have hsz := hO.sz hfm
    have hsz' : X[i].1.sure.size + X[i].1.loose.size = X[i].1.sz := rfl
    refine s67 _ ?_
    have fin : ∀ w, Foc w0 F L b mb X i (⟨X[i].1.name, X[i].1.sure ++ X[i].1.loose, ⟨#[]⟩⟩, X[i].2) (burnt D) w → m67_2 (fun v w' => v = .int .i64 (syncR X[i].1 (burnt D)).2 ∧ Dsk w0 F L b (syncR X[i].1 (burnt D)).1 w') w := fun w hS => by
      unfold m67_2 m67_3
      exact ⟨rfl, Foc.done (f' := ⟨X[i].1.name, X[i].1.sure ++ X[i].1.loose, ⟨#[]⟩⟩) (D' := (syncR X[i].1 (burnt D)).1) hU hi rfl (by unfold syncR; rw [hX]) hS⟩
    unfold Foc at hS
    unfold m67
    unfold m67_0
    unfold m67_1
    refine drawn_ok hS ?_
    intro w hS
    refine nil_ok ?_
    first | refine pureP_ok (fa78_0 _) ?_ | refine pureP_ok (fao78_0 _ _) ?_
    refine nil_ok ?_
    first | refine pureP_ok (fa78_1 _) ?_ | refine pureP_ok (fao78_1 _ _) ?_
    refine ⟨?_, ?_⟩
    · first | refine valP_ok (ld9 (hS.cell 0 rfl rfl)) ?_ | refine valP_ok (ld9 (hS.cell 1 rfl rfl)) ?_ | refine valP_ok (ld9 (hS.cell 2 rfl rfl)) ?_ | refine valP_ok (ld9 (hS.cell 3 rfl rfl)) ?_ | refine valP_ok (ld9 (hS.cell 4 rfl rfl)) ?_ | refine valP_ok (ld9 (hS.cell 5 rfl rfl)) ?_ | refine valP_ok (ld9 (hS.cell 6 rfl rfl)) ?_ | refine valP_ok (ld9 (hS.cell 7 rfl rfl)) ?_ | refine valP_ok (ld9 (by assumption)) ?_
      first | refine valP_ok (ld9 (hS.cell 0 rfl rfl)) ?_ | refine valP_ok (ld9 (hS.cell 1 rfl rfl)) ?_ | refine valP_ok (ld9 (hS.cell 2 rfl rfl)) ?_ | refine valP_ok (ld9 (hS.cell 3 rfl rfl)) ?_ | refine valP_ok (ld9 (hS.cell 4 rfl rfl)) ?_ | refine valP_ok (ld9 (hS.cell 5 rfl rfl)) ?_ | refine valP_ok (ld9 (hS.cell 6 rfl rfl)) ?_ | refine valP_ok (ld9 (hS.cell 7 rfl rfl)) ?_ | refine valP_ok (ld9 (by assumption)) ?_
      refine pureP_ok (fun w => sadd _ _ (by omega) w) ?_
      refine nil_ok ?_
      first | refine pureP_ok (fa78_0 _) ?_ | refine pureP_ok (fao78_0 _ _) ?_
      first | refine store_at 0 st9 hS rfl (by simp) rfl ?_ | refine store_at 1 st9 hS rfl (by simp) rfl ?_ | refine store_at 2 st9 hS rfl (by simp) rfl ?_ | refine store_at 3 st9 hS rfl (by simp) rfl ?_ | refine store_at 4 st9 hS rfl (by simp) rfl ?_ | refine store_at 5 st9 hS rfl (by simp) rfl ?_ | refine store_at 6 st9 hS rfl (by simp) rfl ?_ | refine store_at 7 st9 hS rfl (by simp) rfl ?_
      intro w hS
      simp only [List.set_cons_zero, List.set_cons_succ] at hS
      refine nil_ok ?_
      first | refine pureP_ok (fa78_1 _) ?_ | refine pureP_ok (fao78_1 _ _) ?_
      first | refine store_at 0 st9 hS rfl (by simp) rfl ?_ | refine store_at 1 st9 hS rfl (by simp) rfl ?_ | refine store_at 2 st9 hS rfl (by simp) rfl ?_ | refine store_at 3 st9 hS rfl (by simp) rfl ?_ | refine store_at 4 st9 hS rfl (by simp) rfl ?_ | refine store_at 5 st9 hS rfl (by simp) rfl ?_ | refine store_at 6 st9 hS rfl (by simp) rfl ?_ | refine store_at 7 st9 hS rfl (by simp) rfl ?_
      intro w hS
      simp only [List.set_cons_zero, List.set_cons_succ] at hS
      exact fin _ hS
    · first | refine valP_ok (ld9 (hS.cell 0 rfl rfl)) ?_ | refine valP_ok (ld9 (hS.cell 1 rfl rfl)) ?_ | refine valP_ok (ld9 (hS.cell 2 rfl rfl)) ?_ | refine valP_ok (ld9 (hS.cell 3 rfl rfl)) ?_ | refine valP_ok (ld9 (hS.cell 4 rfl rfl)) ?_ | refine valP_ok (ld9 (hS.cell 5 rfl rfl)) ?_ | refine valP_ok (ld9 (hS.cell 6 rfl rfl)) ?_ | refine valP_ok (ld9 (hS.cell 7 rfl rfl)) ?_ | refine valP_ok (ld9 (by assumption)) ?_
      first | refine valP_ok (ld9 (hS.cell 0 rfl rfl)) ?_ | refine valP_ok (ld9 (hS.cell 1 rfl rfl)) ?_ | refine valP_ok (ld9 (hS.cell 2 rfl rfl)) ?_ | refine valP_ok (ld9 (hS.cell 3 rfl rfl)) ?_ | refine valP_ok (ld9 (hS.cell 4 rfl rfl)) ?_ | refine valP_ok (ld9 (hS.cell 5 rfl rfl)) ?_ | refine valP_ok (ld9 (hS.cell 6 rfl rfl)) ?_ | refine valP_ok (ld9 (hS.cell 7 rfl rfl)) ?_ | refine valP_ok (ld9 (by assumption)) ?_
      refine pureP_ok (fun w => sadd _ _ (by omega) w) ?_
      refine nil_ok ?_
      first | refine pureP_ok (fa78_0 _) ?_ | refine pureP_ok (fao78_0 _ _) ?_
      first | refine store_at 0 st9 hS rfl (by simp) rfl ?_ | refine store_at 1 st9 hS rfl (by simp) rfl ?_ | refine store_at 2 st9 hS rfl (by simp) rfl ?_ | refine store_at 3 st9 hS rfl (by simp) rfl ?_ | refine store_at 4 st9 hS rfl (by simp) rfl ?_ | refine store_at 5 st9 hS rfl (by simp) rfl ?_ | refine store_at 6 st9 hS rfl (by simp) rfl ?_ | refine store_at 7 st9 hS rfl (by simp) rfl ?_
      intro w hS
      simp only [List.set_cons_zero, List.set_cons_succ] at hS
      refine nil_ok ?_
      first | refine pureP_ok (fa78_1 _) ?_ | refine pureP_ok (fao78_1 _ _) ?_
      first | refine store_at 0 st9 hS rfl (by simp) rfl ?_ | refine store_at 1 st9 hS rfl (by simp) rfl ?_ | refine store_at 2 st9 hS rfl (by simp) rfl ?_ | refine store_at 3 st9 hS rfl (by simp) rfl ?_ | refine store_at 4 st9 hS rfl (by simp) rfl ?_ | refine store_at 5 st9 hS rfl (by simp) rfl ?_ | refine store_at 6 st9 hS rfl (by simp) rfl ?_ | refine store_at 7 st9 hS rfl (by simp) rfl ?_
      intro w hS
      simp only [List.set_cons_zero, List.set_cons_succ] at hS
      exact fin _ hS
  · rintro _ w ⟨rfl, hD⟩
    unfold m27_2
    exact ⟨rfl, hD⟩
end
end Go.Proofs.YtcldjjmfpmkldaaGreatDoor.M
namespace Go.Proofs.YtcldjjmfpmkldaaGreatDoor.M
open Go.Proofs.YtcldjjmfpmkldaaGreatDoor.F Go.RowKit
set_option linter.unusedVariables false
set_option linter.unusedSimpArgs false
set_option maxRecDepth 100000
set_option maxHeartbeats 2000000
attribute [local irreducible] Res.cells Res.row Res.map Res.any World.cell? World.frozen? Instr.fieldAt Instr.loadAt Instr.storeAt Instr.indexAt Instr.lookup Instr.mapUpdate Instr.box Instr.build Instr.buildSlice Instr.extract Instr.alloc Instr.field Instr.index Instr.sliceAt Instr.makeSlice Instr.makeMap Instr.makeFunc binS Op.unary Sem.run
section
variable {w0 w : World} {F : List Nat} {L : List Res} {d m : Res}
theorem St.pushes {R Y : List Res} (hS : St w0 F w (d :: m :: (R ++ (Y ++ L)))) : St w0 F w (d :: m :: (Y ++ (R ++ L))) := hS.perm ((List.perm_append_comm_assoc R Y L).cons m |>.cons d)
theorem St.pulls {f : Res} {R Y : List Res} (hS : St w0 F w (d :: f :: m :: (Y ++ (R ++ L)))) : St w0 F w (d :: f :: m :: (R ++ (Y ++ L))) := hS.perm (((List.perm_append_comm_assoc Y R L).cons m |>.cons f).cons d)
theorem Dsk.drop {b : Nat} {D : Dk} : ∀ {R : List Res}, Dsk w0 F (R ++ L) b D w → Dsk w0 F L b D w
  | [], h => h
  | r :: R, h => Dsk.drop (R := R) (Dsk.pop h)
end
theorem blk_le {n : Nat} (h : n ≤ 1048576) : blk n ≤ 16384 := by unfold blk; omega
def removeR (f : Fl) (D : Dk) : Dk × Int := (⟨delF D.L f.name, D.room + blk f.sz, D.fuse, D.off⟩, 0)
section
variable {w0 w : World} {F : List Nat} {L : List Res} {b : Nat} {D : Dk} {size : Nat} {s : ByteArray}
theorem room_le (hO : Ok size D) : 0 ≤ (burnt D).room ∧ (burnt D).room ≤ 16384 := by
  rw [burnt_room]
  have h1 := hO.room
  have h2 := hO.sum
  have h3 := hO.size
  omega
theorem remove_ret (hO : Ok size D) (hD : Dsk w0 F L b D w) : Ret Tryz.prog 26 #[ptr b, .string s] w fun v w' => v = .int .i64 (workD D s removeR).2 ∧ Dsk w0 F L b (workD D s removeR).1 w' := by
  obtain ⟨mb, X, hX, hS⟩ := hD
  refine s26 _ _ ?_
  unfold m26
  unfold m26_0
  refine new_ok (bx25 rfl _) hS ?_
  intro b2 w hS
  refine new_ok (bx9 rfl _) hS ?_
  intro b3 w hS
  unfold m26_1
  first | refine valP_ok (ld25 (hS.cell 0 rfl rfl)) ?_ | refine valP_ok (ld25 (hS.cell 1 rfl rfl)) ?_ | refine valP_ok (ld25 (hS.cell 2 rfl rfl)) ?_ | refine valP_ok (ld25 (hS.cell 3 rfl rfl)) ?_ | refine valP_ok (ld25 (hS.cell 4 rfl rfl)) ?_ | refine valP_ok (ld25 (hS.cell 5 rfl rfl)) ?_ | refine valP_ok (ld25 (hS.cell 6 rfl rfl)) ?_ | refine valP_ok (ld25 (hS.cell 7 rfl rfl)) ?_ | refine valP_ok (ld25 (by assumption)) ?_
  first | refine valP_ok (ld9 (hS.cell 0 rfl rfl)) ?_ | refine valP_ok (ld9 (hS.cell 1 rfl rfl)) ?_ | refine valP_ok (ld9 (hS.cell 2 rfl rfl)) ?_ | refine valP_ok (ld9 (hS.cell 3 rfl rfl)) ?_ | refine valP_ok (ld9 (hS.cell 4 rfl rfl)) ?_ | refine valP_ok (ld9 (hS.cell 5 rfl rfl)) ?_ | refine valP_ok (ld9 (hS.cell 6 rfl rfl)) ?_ | refine valP_ok (ld9 (hS.cell 7 rfl rfl)) ?_ | refine valP_ok (ld9 (by assumption)) ?_
  refine valP_ok (mf66 _ _ _) ?_
  have hD : Dsk w0 F ([Res.cells b3 9 [.string s], Res.cells b2 25 [ptr b]] ++ L) b D w := ⟨mb, X, hX, St.pushes (R := [Res.cells b3 9 [.string s], Res.cells b2 25 [ptr b]]) (hS.pick 4 [2, 3, 0, 1] (by simp) (by decide))⟩
  clear hS hX
  refine callR (by kernel_rfl) (work_ret (fn := 66) (first := #[]) (cap := #[ptr b2, ptr b3]) (Rf := removeR) (by kernel_rfl) hO ?_ hD) ?_
  · clear hD
    intro w mb X i hi hX hn hS
    have hU : UpL (X.map Prod.fst) := by rw [hX, burnt_L]; exact hO.up
    have hfm : X[i].1 ∈ D.L := by rw [← burnt_L D, ← hX]; exact List.mem_map.2 ⟨_, List.getElem_mem hi, rfl⟩
    have hsz := hO.sz hfm
    have hsz' : X[i].1.sure.size + X[i].1.loose.size = X[i].1.sz := rfl
    have hbl := blk_le hsz
    have hr := room_le hO
    have hnl : s.size ≤ 24 := hn ▸ hO.names _ hfm
    have hS := St.pulls (R := [Res.cells b3 9 [.string s], Res.cells b2 25 [ptr b]]) hS
    refine s66 _ _ _ ?_
    unfold m66
    unfold m66_0
    have fin : ∀ w, St w0 F w (dCell b (.map (some mb)) ((burnt D).room + blk X[i].1.sz) (burnt D).fuse (burnt D).off :: fileR X[i] :: mapD mb X :: Res.cells b3 9 [.string s] :: Res.cells b2 25 [ptr b] :: ((X.eraseIdx i).map fileR ++ L)) → m66_2 (fun v w' => v = .int .i64 (removeR X[i].1 (burnt D)).2 ∧ Dsk w0 F ([Res.cells b3 9 [.string s], Res.cells b2 25 [ptr b]] ++ L) b (removeR X[i].1 (burnt D)).1 w') (ptr b2) (ptr b3) w := fun w hS => by
      unfold m66_2
      refine drawn_ok hS ?_
      intro w hS
      first | refine valS_ok (ld25 (hS.cell 0 rfl rfl)) ?_ | refine valS_ok (ld25 (hS.cell 1 rfl rfl)) ?_ | refine valS_ok (ld25 (hS.cell 2 rfl rfl)) ?_ | refine valS_ok (ld25 (hS.cell 3 rfl rfl)) ?_ | refine valS_ok (ld25 (hS.cell 4 rfl rfl)) ?_ | refine valS_ok (ld25 (hS.cell 5 rfl rfl)) ?_ | refine valS_ok (ld25 (hS.cell 6 rfl rfl)) ?_ | refine valS_ok (ld25 (hS.cell 7 rfl rfl)) ?_ | refine valS_ok (ld25 (by assumption)) ?_
      refine nil_ok ?_
      first | refine valS_ok (fa61_0 _ _) ?_ | refine valS_ok (fao61_0 _ _ _) ?_
      first | refine valS_ok (ld59 (hS.cell 0 rfl rfl)) ?_ | refine valS_ok (ld59 (hS.cell 1 rfl rfl)) ?_ | refine valS_ok (ld59 (hS.cell 2 rfl rfl)) ?_ | refine valS_ok (ld59 (hS.cell 3 rfl rfl)) ?_ | refine valS_ok (ld59 (hS.cell 4 rfl rfl)) ?_ | refine valS_ok (ld59 (hS.cell 5 rfl rfl)) ?_ | refine valS_ok (ld59 (hS.cell 6 rfl rfl)) ?_ | refine valS_ok (ld59 (hS.cell 7 rfl rfl)) ?_ | refine valS_ok (ld59 (by assumption)) ?_
      first | refine valS_ok (ld9 (hS.cell 0 rfl rfl)) ?_ | refine valS_ok (ld9 (hS.cell 1 rfl rfl)) ?_ | refine valS_ok (ld9 (hS.cell 2 rfl rfl)) ?_ | refine valS_ok (ld9 (hS.cell 3 rfl rfl)) ?_ | refine valS_ok (ld9 (hS.cell 4 rfl rfl)) ?_ | refine valS_ok (ld9 (hS.cell 5 rfl rfl)) ?_ | refine valS_ok (ld9 (hS.cell 6 rfl rfl)) ?_ | refine valS_ok (ld9 (hS.cell 7 rfl rfl)) ?_ | refine valS_ok (ld9 (by assumption)) ?_
      refine delT_at 2 ((X.eraseIdx i).map nb) hS rfl Tryz.underlying9 Tryz.underlying59 (by unfold maxLen; omega) (by rw [erase_del hU hi hn, delX_nb]) ?_
      intro w hS
      simp only [List.set_cons_zero, List.set_cons_succ] at hS
      unfold m66_3 m66_4
      refine ⟨rfl, mb, X.eraseIdx i, ?_, ?_⟩
      · rw [erase_del hU hi hn, delX_map, hX, ← hn]
        rfl
      · exact St.pushes (R := [Res.cells b3 9 [.string s], Res.cells b2 25 [ptr b]]) (hS.pick 5 [0, 2, 3, 4] (by simp) (by decide))
    unfold m66_1
    refine drawn_ok hS ?_
    intro w hS
    refine held_Hs (hS.pick 5 [3, 4] (by simp) (by decide)) ?_
    first | refine valJ_load ld25 (Hs.cell 0 rfl rfl) ?_ | refine valJ_load ld25 (Hs.cell 1 rfl rfl) ?_ | refine valJ_load ld25 (Hs.cell 2 rfl rfl) ?_ | refine valJ_load ld25 (Hs.cell 3 rfl rfl) ?_ | refine valJ_load ld25 (Hs.cell 4 rfl rfl) ?_ | refine valJ_load ld25 (Hs.cell 5 rfl rfl) ?_ | refine valJ_load ld25 (Hs.cell 6 rfl rfl) ?_ | refine valJ_load ld25 (Hs.cell 7 rfl rfl) ?_ | refine valJ_load ld25 (by assumption) ?_
    refine nil_ok ?_
    first | refine valJ_ok (fa61_1 _) ?_ | refine valJ_ok (fao61_1 _ _) ?_
    refine ⟨?_, ?_⟩
    · first | refine valP_ok (ld3 (hS.cell 0 rfl rfl)) ?_ | refine valP_ok (ld3 (hS.cell 1 rfl rfl)) ?_ | refine valP_ok (ld3 (hS.cell 2 rfl rfl)) ?_ | refine valP_ok (ld3 (hS.cell 3 rfl rfl)) ?_ | refine valP_ok (ld3 (hS.cell 4 rfl rfl)) ?_ | refine valP_ok (ld3 (hS.cell 5 rfl rfl)) ?_ | refine valP_ok (ld3 (hS.cell 6 rfl rfl)) ?_ | refine valP_ok (ld3 (hS.cell 7 rfl rfl)) ?_ | refine valP_ok (ld3 (by assumption)) ?_
      refine stay_Hs (hS.pick 5 [3, 4] (by simp) (by decide)) (fun _ h => h) ?_
      refine callR (by kernel_rfl) (size_ret 1 (by omega) rfl hS) ?_
      rintro _ w ⟨rfl, hS⟩
      refine stay_Hs (hS.pick 5 [3, 4] (by simp) (by decide)) (fun _ h => h) ?_
      refine callR (by kernel_rfl) (blocks_ret (n := X[i].1.sz) (by omega) hS) ?_
      rintro _ w ⟨rfl, hS⟩
      refine stay_Hs (hS.pick 5 [3, 4] (by simp) (by decide)) (fun _ h => h) ?_
      refine valJ_ok (add_ok _ _ _ (by omega) (by omega)) ?_
      refine nil_ok ?_
      first | refine valJ_ok (fa61_1 _) ?_ | refine valJ_ok (fao61_1 _ _) ?_
      first | refine store_at 0 st3 hS rfl (by simp) rfl ?_ | refine store_at 1 st3 hS rfl (by simp) rfl ?_ | refine store_at 2 st3 hS rfl (by simp) rfl ?_ | refine store_at 3 st3 hS rfl (by simp) rfl ?_ | refine store_at 4 st3 hS rfl (by simp) rfl ?_ | refine store_at 5 st3 hS rfl (by simp) rfl ?_ | refine store_at 6 st3 hS rfl (by simp) rfl ?_ | refine store_at 7 st3 hS rfl (by simp) rfl ?_
      intro w hS
      simp only [List.set_cons_zero, List.set_cons_succ] at hS
      refine stay_Hs (hS.pick 5 [3, 4] (by simp) (by decide)) (fun _ h => h) ?_
      exact fin _ hS
    · refine callR (by kernel_rfl) (size_ret 1 (by omega) rfl hS) ?_
      rintro _ w ⟨rfl, hS⟩
      refine stay_Hs (hS.pick 5 [3, 4] (by simp) (by decide)) (fun _ h => h) ?_
      refine ⟨?_, ?_⟩
      · first | refine valP_ok (ld3 (hS.cell 0 rfl rfl)) ?_ | refine valP_ok (ld3 (hS.cell 1 rfl rfl)) ?_ | refine valP_ok (ld3 (hS.cell 2 rfl rfl)) ?_ | refine valP_ok (ld3 (hS.cell 3 rfl rfl)) ?_ | refine valP_ok (ld3 (hS.cell 4 rfl rfl)) ?_ | refine valP_ok (ld3 (hS.cell 5 rfl rfl)) ?_ | refine valP_ok (ld3 (hS.cell 6 rfl rfl)) ?_ | refine valP_ok (ld3 (hS.cell 7 rfl rfl)) ?_ | refine valP_ok (ld3 (by assumption)) ?_
        refine stay_Hs (hS.pick 5 [3, 4] (by simp) (by decide)) (fun _ h => h) ?_
        refine callR (by kernel_rfl) (blocks_ret (n := X[i].1.sz) (by omega) hS) ?_
        rintro _ w ⟨rfl, hS⟩
        refine stay_Hs (hS.pick 5 [3, 4] (by simp) (by decide)) (fun _ h => h) ?_
        refine valJ_ok (add_ok _ _ _ (by omega) (by omega)) ?_
        refine nil_ok ?_
        first | refine valJ_ok (fa61_1 _) ?_ | refine valJ_ok (fao61_1 _ _) ?_
        first | refine store_at 0 st3 hS rfl (by simp) rfl ?_ | refine store_at 1 st3 hS rfl (by simp) rfl ?_ | refine store_at 2 st3 hS rfl (by simp) rfl ?_ | refine store_at 3 st3 hS rfl (by simp) rfl ?_ | refine store_at 4 st3 hS rfl (by simp) rfl ?_ | refine store_at 5 st3 hS rfl (by simp) rfl ?_ | refine store_at 6 st3 hS rfl (by simp) rfl ?_ | refine store_at 7 st3 hS rfl (by simp) rfl ?_
        intro w hS
        simp only [List.set_cons_zero, List.set_cons_succ] at hS
        refine stay_Hs (hS.pick 5 [3, 4] (by simp) (by decide)) (fun _ h => h) ?_
        exact fin _ hS
      · refine callR (by kernel_rfl) (blocks_ret (n := X[i].1.sz) (by omega) hS) ?_
        rintro _ w ⟨rfl, hS⟩
        refine stay_Hs (hS.pick 5 [3, 4] (by simp) (by decide)) (fun _ h => h) ?_
        first | refine valP_ok (ld3 (hS.cell 0 rfl rfl)) ?_ | refine valP_ok (ld3 (hS.cell 1 rfl rfl)) ?_ | refine valP_ok (ld3 (hS.cell 2 rfl rfl)) ?_ | refine valP_ok (ld3 (hS.cell 3 rfl rfl)) ?_ | refine valP_ok (ld3 (hS.cell 4 rfl rfl)) ?_ | refine valP_ok (ld3 (hS.cell 5 rfl rfl)) ?_ | refine valP_ok (ld3 (hS.cell 6 rfl rfl)) ?_ | refine valP_ok (ld3 (hS.cell 7 rfl rfl)) ?_ | refine valP_ok (ld3 (by assumption)) ?_
        refine stay_Hs (hS.pick 5 [3, 4] (by simp) (by decide)) (fun _ h => h) ?_
        refine valJ_ok (add_ok _ _ _ (by omega) (by omega)) ?_
        refine nil_ok ?_
        first | refine valJ_ok (fa61_1 _) ?_ | refine valJ_ok (fao61_1 _ _) ?_
        first | refine store_at 0 st3 hS rfl (by simp) rfl ?_ | refine store_at 1 st3 hS rfl (by simp) rfl ?_ | refine store_at 2 st3 hS rfl (by simp) rfl ?_ | refine store_at 3 st3 hS rfl (by simp) rfl ?_ | refine store_at 4 st3 hS rfl (by simp) rfl ?_ | refine store_at 5 st3 hS rfl (by simp) rfl ?_ | refine store_at 6 st3 hS rfl (by simp) rfl ?_ | refine store_at 7 st3 hS rfl (by simp) rfl ?_
        intro w hS
        simp only [List.set_cons_zero, List.set_cons_succ] at hS
        refine stay_Hs (hS.pick 5 [3, 4] (by simp) (by decide)) (fun _ h => h) ?_
        exact fin _ hS
  · rintro _ w ⟨rfl, hD⟩
    unfold m26_2
    exact ⟨rfl, Dsk.drop hD⟩
/-- a file's bytes. -/
def readV (D : Dk) (s : ByteArray) : ByteArray × Int :=
  if readyC [s] D.off = 0 then
    match getF D.L s with
    | some f => (f.sure ++ f.loose, 0)
    | none => (⟨#[]⟩, 3)
  else (⟨#[]⟩, readyC [s] D.off)
theorem read_ret (hO : Ok size D) (hD : Dsk w0 F L b D w) : Ret Tryz.prog 33 #[ptr b, .string s] w fun v w' => v = .tuple #[.string (readV D s).1, .int .i64 (readV D s).2] ∧ Dsk w0 F L b D w' := by
  obtain ⟨mb, X, hX, hS⟩ := hD
  have hU : UpL (X.map Prod.fst) := hX ▸ hO.up
  refine s33 _ _ ?_
  unfold m33
  unfold m33_0
  unfold m33_1
  refine newslice_ok (bs71_1 rfl _) hS ?_
  intro b10 w hS
  refine callR (by kernel_rfl) (ready_ret (xs := [s]) 1 rfl (by simp) (Bes.of_cells 0 rfl rfl) hS) ?_
  rintro _ w ⟨rfl, hS⟩
  have hS := hS.tail
  unfold m33_8
  refine valP_ok (ne26 _ _ _ _ _) ?_
  unfold m33_9 readV
  refine cond_split (fun h => ?_) (fun h => ?_)
  · unfold m33_10
    rw [if_neg h]
    exact ⟨rfl, mb, X, hX, hS⟩
  rw [if_pos (Classical.not_not.1 h)]
  obtain ⟨hs24, hnm, ho⟩ := ready_size (Classical.not_not.1 h)
  unfold m33_2
  refine nil_ok ?_
  first | refine valP_ok (fa61_0 _ _) ?_ | refine valP_ok (fao61_0 _ _ _) ?_
  first | refine valP_ok (ld59 (hS.cell 0 rfl rfl)) ?_ | refine valP_ok (ld59 (hS.cell 1 rfl rfl)) ?_ | refine valP_ok (ld59 (hS.cell 2 rfl rfl)) ?_ | refine valP_ok (ld59 (hS.cell 3 rfl rfl)) ?_ | refine valP_ok (ld59 (hS.cell 4 rfl rfl)) ?_ | refine valP_ok (ld59 (hS.cell 5 rfl rfl)) ?_ | refine valP_ok (ld59 (hS.cell 6 rfl rfl)) ?_ | refine valP_ok (ld59 (hS.cell 7 rfl rfl)) ?_ | refine valP_ok (ld59 (by assumption)) ?_
  refine valP_ok ((hS.mapT 1 rfl).lookup Tryz.underlying9 Tryz.underlying59 (zero63 _) (by unfold maxLen; omega)) ?_
  rcases look_X hU s with ⟨h1, h2, h3⟩ | ⟨i, hi, h1, h2, h3⟩
  · rw [h1]
    rw [hX] at h2
    rw [h2]
    unfold m33_3
    first | refine valP_ok (eq76n _ _ _) ?_ | refine valP_ok (eq76s _ _ _ _) ?_
    unfold m33_6
    refine cond_t rfl ?_
    unfold m33_7
    exact ⟨rfl, mb, X, hX, hS⟩
  · rw [h1]
    rw [hX] at h2
    rw [h2]
    unfold m33_3
    first | refine valP_ok (eq76n _ _ _) ?_ | refine valP_ok (eq76s _ _ _ _) ?_
    unfold m33_6
    refine cond_f rfl ?_
    have hsz := hO.sz (getF_some h2).1
    have hsz' : X[i].1.sure.size + X[i].1.loose.size = X[i].1.sz := rfl
    have hfa := fileAt hi L (dCell b (.map (some mb)) D.room D.fuse D.off) (mapD mb X)
    have c0 := hS.cell (i + 2) hfa (i := 0) rfl
    have c1 := hS.cell (i + 2) hfa (i := 1) rfl
    unfold m33_4
    refine nil_ok ?_
    refine valQ_ok (fun w => fa78_0 _ _) ?_
    refine valQ_load ld9 c0 ?_
    refine nil_ok ?_
    refine valQ_ok (fun w => fa78_1 _ _) ?_
    refine valQ_load ld9 c1 ?_
    refine valQ_ok (fun w => sadd _ _ (by omega) w) ?_
    refine drawn_ok hS ?_
    intro w hS
    unfold m33_5
    exact ⟨rfl, mb, X, hX, hS⟩
end
end Go.Proofs.YtcldjjmfpmkldaaGreatDoor.M
namespace Go.Proofs.YtcldjjmfpmkldaaGreatDoor.M
open Go.Proofs.YtcldjjmfpmkldaaGreatDoor.F Go.RowKit
set_option linter.unusedVariables false
set_option linter.unusedSimpArgs false
set_option maxRecDepth 100000
set_option maxHeartbeats 2000000
attribute [local irreducible] Res.cells Res.row Res.map Res.any World.cell? World.frozen? Instr.fieldAt Instr.loadAt Instr.storeAt Instr.indexAt Instr.lookup Instr.mapUpdate Instr.box Instr.build Instr.buildSlice Instr.extract Instr.alloc Instr.field Instr.index Instr.sliceAt Instr.makeSlice Instr.makeMap Instr.makeFunc binS Op.unary Sem.run
end Go.Proofs.YtcldjjmfpmkldaaGreatDoor.M
