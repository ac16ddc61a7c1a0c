/- What functions' texts ask of their ends, told over values that have names; printed by a program of this work. -/
import Derived.Test.YtcldjjmfpmkldaaDoorFw
import Derived.Test.YtcldjjmfpmkldaaDoorProg
namespace Go.Proofs.YtcldjjmfpmkldaaDoor.M
open Go.Proofs.YtcldjjmfpmkldaaDoor.F
set_option linter.unusedVariables false
set_option maxRecDepth 100000
/-! ### headgate/disk.New -/
def m10_5 (R : VP) (t2 t3 : Value) (w : World) : Prop :=
  R (Value.tuple #[t2, t3]) w
def m10_3 (R : VP) (t2 t3 : Value) (w : World) : Prop :=
  R (Value.tuple #[t2, t3]) w
def m10_2 (R : VP) (n0 : Value) (w : World) : Prop :=
  valP Tryd.prog (Instr.makeMap 59 none) w fun t10 w =>
  valP Tryd.prog (Instr.build 61 #[(0, t10), (1, n0), (2, (Value.int IntKind.i64 (-1)))]) w fun t12 w =>
  valP Tryd.prog (Instr.box 61 t12) w fun t13 w =>
  m10_3 R t13 (Value.int IntKind.i64 0) w
def m10_4 (R : VP) (n0 t9 : Value) (w : World) : Prop :=
  condP t9
  (m10_5 R (Value.pointer none) (Value.int IntKind.i64 1) w)
  (m10_2 R n0 w)
def m10_1 (R : VP) (n0 : Value) (w : World) : Prop :=
  valP Tryd.prog (binS BinOp.lss 3 (Operand.tmp 4) (Operand.const (Value.int IntKind.i64 1)) n0 (Value.int IntKind.i64 1)) w fun t5 w =>
  condP t5
  (pickP t5 (Value.bool true) undef fun t9 =>
  m10_4 R n0 t9 w)
  (valP Tryd.prog (binS BinOp.gtr 3 (Operand.tmp 7) (Operand.const (Value.int IntKind.i64 16384)) n0 (Value.int IntKind.i64 16384)) w fun t8 w =>
  pickP t5 (Value.bool true) t8 fun t9 =>
  m10_4 R n0 t9 w)
def m10_0 (R : VP) (n0 : Value) (w : World) : Prop :=
  m10_1 R n0 w
abbrev W10 := cwp Tryd.prog (fun i => 0)
noncomputable def k10_0 : Code := (bodyOf Tryd.f10)
noncomputable def k10_1 : Code := (c2 k10_0)
noncomputable def k10_2 : Code := (c2 k10_1)
noncomputable def k10_3 : Code := (c2 k10_2)
noncomputable def k10_4 : Code := (c2 (c1 k10_1))
noncomputable def k10_5 : Code := (c2 (c1 k10_4))
theorem s10_5 {R : VP} {Q : EQ} (hR : ∀ e w, (R (Value.tuple #[(e 2), (e 3)]) w) → Q .ret e w) (e : Env) (w : World) (h : m10_5 R (e 2) (e 3) w) : W10 k10_5 Q e w := by
  unfold m10_5 at h
  exact reA (hR _ _ h)
theorem s10_3 {R : VP} {Q : EQ} (hR : ∀ e w, (R (Value.tuple #[(e 2), (e 3)]) w) → Q .ret e w) (e : Env) (w : World) (h : m10_3 R (e 2) (e 3) w) : W10 k10_3 Q e w := by
  unfold m10_3 at h
  exact reA (hR _ _ h)
theorem s10_2 {R : VP} {Q : EQ} (hR : ∀ e w, (R (Value.tuple #[(e 2), (e 3)]) w) → Q .ret e w) (e : Env) (w : World) (h : m10_2 R (e 0) w) : W10 k10_2 Q e w := by
  unfold m10_2 at h
  refine seA ?_
  have hN : ∀ e w, (m10_3 R (e 2) (e 3) w) → (thenE (W10 k10_3 Q) Q) .normal e w := fun e w h => then_N (s10_3 (R := R) (Q := Q) hR e w h)
  exact rgA 3 (fun e w => m10_3 R (e 2) (e 3) w) h hN
theorem s10_4 {R : VP} {Q : EQ} (hN : ∀ e w, (m10_2 R (e 0) w) → Q .normal e w) (hR : ∀ e w, (R (Value.tuple #[(e 2), (e 3)]) w) → Q .ret e w) (e : Env) (w : World) (h : m10_4 R (e 0) (e 9) w) : W10 k10_4 Q e w := by
  unfold m10_4 at h
  refine coA (Operand.tmp 9) h (fun h1 => ?_) (fun h1 => ?_)
  · refine seA ?_
    have hN : ∀ e w, (m10_5 R (e 2) (e 3) w) → (thenE (W10 k10_5 Q) Q) .normal e w := fun e w h => then_N (s10_5 (R := R) (Q := Q) hR e w h)
    exact rgA 2 (fun e w => m10_5 R (e 2) (e 3) w) h1 hN
  · exact skA (hN _ _ h1)
theorem s10_1 {R : VP} {Q : EQ} (hR : ∀ e w, (R (Value.tuple #[(e 2), (e 3)]) w) → Q .ret e w) (e : Env) (w : World) (h : m10_1 R (e 0) w) : W10 k10_1 Q e w := by
  unfold m10_1 at h
  refine seA ?_
  have hN : ∀ e w, (m10_2 R (e 0) w) → (thenE (W10 k10_2 Q) Q) .normal e w := fun e w h => then_N (s10_2 (R := R) (Q := Q) hR e w h)
  have hR : ∀ e w, (R (Value.tuple #[(e 2), (e 3)]) w) → (thenE (W10 k10_2 Q) Q) .ret e w := fun e w h => then_R (hR e w h)
  refine seA ?_
  have hN : ∀ e w, (m10_4 R (e 0) (e 9) w) → (thenE (W10 k10_4 (thenE (W10 k10_2 Q) Q)) (thenE (W10 k10_2 Q) Q)) .normal e w := fun e w h => then_N (s10_4 (R := R) (Q := (thenE (W10 k10_2 Q) Q)) hN hR e w h)
  exact rgA 1 (fun e w => m10_4 R (e 0) (e 9) w) h hN
theorem s10_0 {R : VP} {Q : EQ} (hR : ∀ e w, (R (Value.tuple #[(e 2), (e 3)]) w) → Q .ret e w) (e : Env) (w : World) (h : m10_0 R (e 0) w) : W10 k10_0 Q e w := by
  unfold m10_0 at h
  refine seA ?_
  have hN : ∀ e w, (m10_1 R (e 0) w) → (thenE (W10 k10_1 Q) Q) .normal e w := fun e w h => then_N (s10_1 (R := R) (Q := Q) hR e w h)
  exact rgA 0 (fun e w => m10_1 R (e 0) w) h hN
abbrev m10 (R : VP) (n0 : Value) (w : World) : Prop := m10_0 R n0 w
theorem s10 (n0 : Value) {R : VP} {w : World} (h : m10 R n0 w) :
    Calls Tryd.prog 10 #[n0] w fun e w' => ∃ v, e = .returned v ∧ R v w' :=
  calls_of_cwp (st := (fun i => 0)) (c := k10_0) (by kernel_rfl) Tryd.func10 (by kernel_rfl) (Nat.le_of_ble_eq_true (by kernel_rfl)) (by kernel_rfl)
    (s10_0 (R := R) (Q := endE Tryd.prog Tryd.f10 R) (fun e w h => kcast (by kernel_rfl) h) (argsE #[n0]) w (kcast (by kernel_rfl) h))
/-! ### (*headgate/disk.Disk).Fuse -/
def m11_1 (R : VP) (d0 n1 t5 : Value) (w : World) : Prop :=
  condP t5
  (builtinP Tryd.prog Builtin.max #[3, 3] 3 #[false, true] #[n1, (Value.int IntKind.i64 (-1))] w fun t8 w =>
  nilCheckP d0 fun t9 =>
  valP Tryd.prog (Instr.fieldAt 61 t9 2) w fun t10 w =>
  unitP Tryd.prog (Instr.storeAt 3 t10 t8) w fun _ w =>
  R (Value.tuple #[]) w)
  (R (Value.tuple #[]) w)
def m11_0 (R : VP) (d0 n1 : Value) (w : World) : Prop :=
  valP Tryd.prog (binS BinOp.neq 23 (Operand.tmp 4) (Operand.const (Value.pointer none)) d0 (Value.pointer none)) w fun t5 w =>
  m11_1 R d0 n1 t5 w
abbrev W11 := cwp Tryd.prog (fun i => 0)
noncomputable def k11_0 : Code := (bodyOf Tryd.f11)
noncomputable def k11_1 : Code := (c2 k11_0)
theorem s11_1 {R : VP} {Q : EQ} (hN : ∀ e w, (R (Value.tuple #[]) w) → Q .normal e w) (e : Env) (w : World) (h : m11_1 R (e 0) (e 1) (e 5) w) : W11 k11_1 Q e w := by
  unfold m11_1 at h
  refine coA (Operand.tmp 5) h (fun h1 => ?_) (fun h1 => ?_)
  · exact rgA 1 (fun e w => R (Value.tuple #[]) w) h1 hN
  · exact skA (hN _ _ h1)
theorem s11_0 {R : VP} {Q : EQ} (hN : ∀ e w, (R (Value.tuple #[]) w) → Q .normal e w) (e : Env) (w : World) (h : m11_0 R (e 0) (e 1) w) : W11 k11_0 Q e w := by
  unfold m11_0 at h
  refine seA ?_
  have hN : ∀ e w, (m11_1 R (e 0) (e 1) (e 5) w) → (thenE (W11 k11_1 Q) Q) .normal e w := fun e w h => then_N (s11_1 (R := R) (Q := Q) hN e w h)
  exact rgA 0 (fun e w => m11_1 R (e 0) (e 1) (e 5) w) h hN
abbrev m11 (R : VP) (d0 n1 : Value) (w : World) : Prop := m11_0 R d0 n1 w
theorem s11 (d0 n1 : Value) {R : VP} {w : World} (h : m11 R d0 n1 w) :
    Calls Tryd.prog 11 #[d0, n1] w fun e w' => ∃ v, e = .returned v ∧ R v w' :=
  calls_of_cwp (st := (fun i => 0)) (c := k11_0) (by kernel_rfl) Tryd.func11 (by kernel_rfl) (Nat.le_of_ble_eq_true (by kernel_rfl)) (by kernel_rfl)
    (s11_0 (R := R) (Q := endE Tryd.prog Tryd.f11 R) (fun e w h => kcast (by kernel_rfl) h) (argsE #[d0, n1]) w (kcast (by kernel_rfl) h))
/-! ### (*headgate/disk.Disk).Off -/
def m13_2 (R : VP) (t2 : Value) (w : World) : Prop :=
  R t2 w
def m13_1 (R : VP) (d0 : Value) (w : World) : Prop :=
  valP Tryd.prog (binS BinOp.eql 23 (Operand.tmp 3) (Operand.const (Value.pointer none)) d0 (Value.pointer none)) w fun t4 w =>
  condP t4
  (pickP t4 (Value.bool true) undef fun t10 =>
  m13_2 R t10 w)
  (nilCheckP d0 fun t7 =>
  valP Tryd.prog (Instr.fieldAt 61 t7 3) w fun t8 w =>
  valP Tryd.prog (Instr.loadAt 4 t8) w fun t9 w =>
  pickP t4 (Value.bool true) t9 fun t10 =>
  m13_2 R t10 w)
def m13_0 (R : VP) (d0 : Value) (w : World) : Prop :=
  m13_1 R d0 w
abbrev W13 := cwp Tryd.prog (fun i => 0)
noncomputable def k13_0 : Code := (bodyOf Tryd.f13)
noncomputable def k13_1 : Code := (c2 k13_0)
noncomputable def k13_2 : Code := (c2 k13_1)
theorem s13_2 {R : VP} {Q : EQ} (hR : ∀ e w, (R (e 2) w) → Q .ret e w) (e : Env) (w : World) (h : m13_2 R (e 2) w) : W13 k13_2 Q e w := by
  unfold m13_2 at h
  exact reA (hR _ _ h)
theorem s13_1 {R : VP} {Q : EQ} (hR : ∀ e w, (R (e 2) w) → Q .ret e w) (e : Env) (w : World) (h : m13_1 R (e 0) w) : W13 k13_1 Q e w := by
  unfold m13_1 at h
  refine seA ?_
  have hN : ∀ e w, (m13_2 R (e 2) w) → (thenE (W13 k13_2 Q) Q) .normal e w := fun e w h => then_N (s13_2 (R := R) (Q := Q) hR e w h)
  exact rgA 1 (fun e w => m13_2 R (e 2) w) h hN
theorem s13_0 {R : VP} {Q : EQ} (hR : ∀ e w, (R (e 2) w) → Q .ret e w) (e : Env) (w : World) (h : m13_0 R (e 0) w) : W13 k13_0 Q e w := by
  unfold m13_0 at h
  refine seA ?_
  have hN : ∀ e w, (m13_1 R (e 0) w) → (thenE (W13 k13_1 Q) Q) .normal e w := fun e w h => then_N (s13_1 (R := R) (Q := Q) hR e w h)
  exact rgA 0 (fun e w => m13_1 R (e 0) w) h hN
abbrev m13 (R : VP) (d0 : Value) (w : World) : Prop := m13_0 R d0 w
theorem s13 (d0 : Value) {R : VP} {w : World} (h : m13 R d0 w) :
    Calls Tryd.prog 13 #[d0] w fun e w' => ∃ v, e = .returned v ∧ R v w' :=
  calls_of_cwp (st := (fun i => 0)) (c := k13_0) (by kernel_rfl) Tryd.func13 (by kernel_rfl) (Nat.le_of_ble_eq_true (by kernel_rfl)) (by kernel_rfl)
    (s13_0 (R := R) (Q := endE Tryd.prog Tryd.f13 R) (fun e w h => kcast (by kernel_rfl) h) (argsE #[d0]) w (kcast (by kernel_rfl) h))
/-! ### (*headgate/disk.Disk).Free -/
def m19_5 (R : VP) (t2 : Value) (w : World) : Prop :=
  R t2 w
def m19_3 (R : VP) (t2 : Value) (w : World) : Prop :=
  R t2 w
def m19_2 (R : VP) (d0 : Value) (w : World) : Prop :=
  nilCheckP d0 fun t6 =>
  valP Tryd.prog (Instr.fieldAt 61 t6 1) w fun t7 w =>
  valP Tryd.prog (Instr.loadAt 3 t7) w fun t8 w =>
  m19_3 R t8 w
def m19_4 (R : VP) (d0 t4 : Value) (w : World) : Prop :=
  condP t4
  (m19_5 R (Value.int IntKind.i64 0) w)
  (m19_2 R d0 w)
def m19_1 (R : VP) (d0 : Value) (w : World) : Prop :=
  valP Tryd.prog (binS BinOp.eql 23 (Operand.tmp 3) (Operand.const (Value.pointer none)) d0 (Value.pointer none)) w fun t4 w =>
  m19_4 R d0 t4 w
def m19_0 (R : VP) (d0 : Value) (w : World) : Prop :=
  m19_1 R d0 w
abbrev W19 := cwp Tryd.prog (fun i => 0)
noncomputable def k19_0 : Code := (bodyOf Tryd.f19)
noncomputable def k19_1 : Code := (c2 k19_0)
noncomputable def k19_2 : Code := (c2 k19_1)
noncomputable def k19_3 : Code := (c2 k19_2)
noncomputable def k19_4 : Code := (c2 (c1 k19_1))
noncomputable def k19_5 : Code := (c2 (c1 k19_4))
theorem s19_5 {R : VP} {Q : EQ} (hR : ∀ e w, (R (e 2) w) → Q .ret e w) (e : Env) (w : World) (h : m19_5 R (e 2) w) : W19 k19_5 Q e w := by
  unfold m19_5 at h
  exact reA (hR _ _ h)
theorem s19_3 {R : VP} {Q : EQ} (hR : ∀ e w, (R (e 2) w) → Q .ret e w) (e : Env) (w : World) (h : m19_3 R (e 2) w) : W19 k19_3 Q e w := by
  unfold m19_3 at h
  exact reA (hR _ _ h)
theorem s19_2 {R : VP} {Q : EQ} (hR : ∀ e w, (R (e 2) w) → Q .ret e w) (e : Env) (w : World) (h : m19_2 R (e 0) w) : W19 k19_2 Q e w := by
  unfold m19_2 at h
  refine seA ?_
  have hN : ∀ e w, (m19_3 R (e 2) w) → (thenE (W19 k19_3 Q) Q) .normal e w := fun e w h => then_N (s19_3 (R := R) (Q := Q) hR e w h)
  exact rgA 3 (fun e w => m19_3 R (e 2) w) h hN
theorem s19_4 {R : VP} {Q : EQ} (hN : ∀ e w, (m19_2 R (e 0) w) → Q .normal e w) (hR : ∀ e w, (R (e 2) w) → Q .ret e w) (e : Env) (w : World) (h : m19_4 R (e 0) (e 4) w) : W19 k19_4 Q e w := by
  unfold m19_4 at h
  refine coA (Operand.tmp 4) h (fun h1 => ?_) (fun h1 => ?_)
  · refine seA ?_
    have hN : ∀ e w, (m19_5 R (e 2) w) → (thenE (W19 k19_5 Q) Q) .normal e w := fun e w h => then_N (s19_5 (R := R) (Q := Q) hR e w h)
    exact rgA 2 (fun e w => m19_5 R (e 2) w) h1 hN
  · exact skA (hN _ _ h1)
theorem s19_1 {R : VP} {Q : EQ} (hR : ∀ e w, (R (e 2) w) → Q .ret e w) (e : Env) (w : World) (h : m19_1 R (e 0) w) : W19 k19_1 Q e w := by
  unfold m19_1 at h
  refine seA ?_
  have hN : ∀ e w, (m19_2 R (e 0) w) → (thenE (W19 k19_2 Q) Q) .normal e w := fun e w h => then_N (s19_2 (R := R) (Q := Q) hR e w h)
  have hR : ∀ e w, (R (e 2) w) → (thenE (W19 k19_2 Q) Q) .ret e w := fun e w h => then_R (hR e w h)
  refine seA ?_
  have hN : ∀ e w, (m19_4 R (e 0) (e 4) w) → (thenE (W19 k19_4 (thenE (W19 k19_2 Q) Q)) (thenE (W19 k19_2 Q) Q)) .normal e w := fun e w h => then_N (s19_4 (R := R) (Q := (thenE (W19 k19_2 Q) Q)) hN hR e w h)
  exact rgA 1 (fun e w => m19_4 R (e 0) (e 4) w) h hN
theorem s19_0 {R : VP} {Q : EQ} (hR : ∀ e w, (R (e 2) w) → Q .ret e w) (e : Env) (w : World) (h : m19_0 R (e 0) w) : W19 k19_0 Q e w := by
  unfold m19_0 at h
  refine seA ?_
  have hN : ∀ e w, (m19_1 R (e 0) w) → (thenE (W19 k19_1 Q) Q) .normal e w := fun e w h => then_N (s19_1 (R := R) (Q := Q) hR e w h)
  exact rgA 0 (fun e w => m19_1 R (e 0) w) h hN
abbrev m19 (R : VP) (d0 : Value) (w : World) : Prop := m19_0 R d0 w
theorem s19 (d0 : Value) {R : VP} {w : World} (h : m19 R d0 w) :
    Calls Tryd.prog 19 #[d0] w fun e w' => ∃ v, e = .returned v ∧ R v w' :=
  calls_of_cwp (st := (fun i => 0)) (c := k19_0) (by kernel_rfl) Tryd.func19 (by kernel_rfl) (Nat.le_of_ble_eq_true (by kernel_rfl)) (by kernel_rfl)
    (s19_0 (R := R) (Q := endE Tryd.prog Tryd.f19 R) (fun e w h => kcast (by kernel_rfl) h) (argsE #[d0]) w (kcast (by kernel_rfl) h))
/-! ### (*headgate/disk.Disk).ready -/
def m31_14 (R : VP) (K1 : VP) (t4 : Value) (w : World) : Prop :=
  R t4 w
def m31_11 (R : VP) (K1 : VP) (d0 t7 t8 t9 : Value) (w : World) : Prop :=
  valP Tryd.prog (binS BinOp.add 3 (Operand.tmp 9) (Operand.const (Value.int IntKind.i64 1)) t9 (Value.int IntKind.i64 1)) w fun t20 w =>
  K1 t20 w
def m31_13 (R : VP) (K1 : VP) (d0 t7 t8 t9 t19 : Value) (w : World) : Prop :=
  condP t19
  (m31_14 R K1 (Value.int IntKind.i64 1) w)
  (m31_11 R K1 d0 t7 t8 t9 w)
def m31_12 (R : VP) (K1 : VP) (d0 name6 t7 t8 t9 : Value) (w : World) : Prop :=
  valP Tryd.prog (binS BinOp.eql 23 (Operand.tmp 13) (Operand.const (Value.pointer none)) d0 (Value.pointer none)) w fun t14 w =>
  condP t14
  (pickP t14 (Value.bool true) undef fun t19 =>
  m31_13 R K1 d0 t7 t8 t9 t19 w)
  (callP Tryd.prog (fnV 42) #[name6] w fun t17 w =>
  valP Tryd.prog (Op.unary UnOp.not t17) w fun t18 w =>
  pickP t14 (Value.bool true) t18 fun t19 =>
  m31_13 R K1 d0 t7 t8 t9 t19 w)
def m31_10 (R : VP) (K1 : VP) (d0 t7 t8 t9 : Value) (w : World) : Prop :=
  valP Tryd.prog (Instr.indexAt 22 t7 t9) w fun t11 w =>
  valP Tryd.prog (Instr.loadAt 9 t11) w fun t12 w =>
  m31_12 R K1 d0 t12 t7 t8 t9 w
def m31_6 (R : VP) (t4 : Value) (w : World) : Prop :=
  R t4 w
def m31_4 (R : VP) (t4 : Value) (w : World) : Prop :=
  R t4 w
def m31_3 (R : VP) (w : World) : Prop :=
  m31_4 R (Value.int IntKind.i64 0) w
def m31_5 (R : VP) (t24 : Value) (w : World) : Prop :=
  condP t24
  (m31_6 R (Value.int IntKind.i64 4) w)
  (m31_3 R w)
def m31_2 (R : VP) (d0 : Value) (w : World) : Prop :=
  nilCheckP d0 fun t22 =>
  valP Tryd.prog (Instr.fieldAt 61 t22 3) w fun t23 w =>
  valP Tryd.prog (Instr.loadAt 4 t23) w fun t24 w =>
  m31_5 R t24 w
def m31_9 (R : VP) (K1 : VP) (d0 t7 t8 t9 t10 : Value) (w : World) : Prop :=
  condP t10
  (m31_10 R K1 d0 t7 t8 t9 w)
  (m31_2 R d0 w)
def m31_8 (R : VP) (K1 : VP) (d0 t7 t8 t9 : Value) (w : World) : Prop :=
  valP Tryd.prog (binS BinOp.lss 3 (Operand.tmp 9) (Operand.tmp 8) t9 t8) w fun t10 w =>
  m31_9 R K1 d0 t7 t8 t9 t10 w
def m31_7 (R : VP) (d0 t7 t8 t9 : Value) (w : World) : Prop :=
  loopP (fun (K1 : VP) (s : Value) w => m31_8 R K1 d0 t7 t8 s w) t9 w
def m31_1 (R : VP) (d0 names1 : Value) (w : World) : Prop :=
  builtinP Tryd.prog Builtin.len #[22] 3 #[false] #[names1] w fun t8 w =>
  m31_7 R d0 names1 t8 (Value.int IntKind.i64 0) w
def m31_0 (R : VP) (d0 names1 : Value) (w : World) : Prop :=
  m31_1 R d0 names1 w
abbrev W31 := cwp Tryd.prog (fun i => 0)
noncomputable def k31_0 : Code := (bodyOf Tryd.f31)
noncomputable def k31_1 : Code := (c2 k31_0)
noncomputable def k31_2 : Code := (c2 k31_1)
noncomputable def k31_3 : Code := (c2 k31_2)
noncomputable def k31_4 : Code := (c2 k31_3)
noncomputable def k31_5 : Code := (c2 (c1 k31_2))
noncomputable def k31_6 : Code := (c2 (c1 k31_5))
noncomputable def k31_7 : Code := (c2 (c1 k31_1))
noncomputable def k31_8 : Code := (c1 (c1 k31_7))
noncomputable def k31_9 : Code := (c2 k31_8)
noncomputable def k31_10 : Code := (c2 k31_9)
noncomputable def k31_11 : Code := (c2 k31_10)
noncomputable def k31_12 : Code := (c2 (c1 (c1 k31_10)))
noncomputable def k31_13 : Code := (c2 k31_12)
noncomputable def k31_14 : Code := (c2 (c1 k31_13))
theorem s31_14 {R : VP} {K1 : VP} {Q : EQ} (hR : ∀ e w, (R (e 4) w) → Q .ret e w) (e : Env) (w : World) (h : m31_14 R K1 (e 4) w) : W31 k31_14 Q e w := by
  unfold m31_14 at h
  exact reA (hR _ _ h)
theorem s31_11 {R : VP} {K1 : VP} {Q : EQ} (hN : ∀ e w, (K1 (e 9) w) → Q .normal e w) (e : Env) (w : World) (h : m31_11 R K1 (e 0) (e 7) (e 8) (e 9) w) : W31 k31_11 Q e w := by
  unfold m31_11 at h
  exact rgA 6 (fun e w => K1 (e 9) w) h hN
theorem s31_13 {R : VP} {K1 : VP} {Q : EQ} (hN : ∀ e w, (m31_11 R K1 (e 0) (e 7) (e 8) (e 9) w) → Q .normal e w) (hR : ∀ e w, (R (e 4) w) → Q .ret e w) (e : Env) (w : World) (h : m31_13 R K1 (e 0) (e 7) (e 8) (e 9) (e 19) w) : W31 k31_13 Q e w := by
  unfold m31_13 at h
  refine coA (Operand.tmp 19) h (fun h1 => ?_) (fun h1 => ?_)
  · refine seA ?_
    have hN : ∀ e w, (m31_14 R K1 (e 4) w) → (thenE (W31 k31_14 Q) Q) .normal e w := fun e w h => then_N (s31_14 (R := R) (Q := Q) (K1 := K1) hR e w h)
    exact rgA 5 (fun e w => m31_14 R K1 (e 4) w) h1 hN
  · exact skA (hN _ _ h1)
theorem s31_12 {R : VP} {K1 : VP} {Q : EQ} (hN : ∀ e w, (m31_11 R K1 (e 0) (e 7) (e 8) (e 9) w) → Q .normal e w) (hR : ∀ e w, (R (e 4) w) → Q .ret e w) (e : Env) (w : World) (h : m31_12 R K1 (e 0) (e 6) (e 7) (e 8) (e 9) w) : W31 k31_12 Q e w := by
  unfold m31_12 at h
  refine seA ?_
  have hN : ∀ e w, (m31_13 R K1 (e 0) (e 7) (e 8) (e 9) (e 19) w) → (thenE (W31 k31_13 Q) Q) .normal e w := fun e w h => then_N (s31_13 (R := R) (Q := Q) (K1 := K1) hN hR e w h)
  exact rgA 4 (fun e w => m31_13 R K1 (e 0) (e 7) (e 8) (e 9) (e 19) w) h hN
theorem s31_10 {R : VP} {K1 : VP} {Q : EQ} (hN : ∀ e w, (K1 (e 9) w) → Q .normal e w) (hR : ∀ e w, (R (e 4) w) → Q .ret e w) (e : Env) (w : World) (h : m31_10 R K1 (e 0) (e 7) (e 8) (e 9) w) : W31 k31_10 Q e w := by
  unfold m31_10 at h
  refine seA ?_
  have hN : ∀ e w, (m31_11 R K1 (e 0) (e 7) (e 8) (e 9) w) → (thenE (W31 k31_11 Q) Q) .normal e w := fun e w h => then_N (s31_11 (R := R) (Q := Q) (K1 := K1) hN e w h)
  have hR : ∀ e w, (R (e 4) w) → (thenE (W31 k31_11 Q) Q) .ret e w := fun e w h => then_R (hR e w h)
  refine block_ok 1 (by kernel_rfl) ?_
  have hN : ∀ e w, (m31_11 R K1 (e 0) (e 7) (e 8) (e 9) w) → (inBlockE 1 (thenE (W31 k31_11 Q) Q)) .normal e w := fun e w h => block_N (hN e w h)
  have hR : ∀ e w, (R (e 4) w) → (inBlockE 1 (thenE (W31 k31_11 Q) Q)) .ret e w := fun e w h => block_R (hR e w h)
  refine seA ?_
  have hN : ∀ e w, (m31_12 R K1 (e 0) (e 6) (e 7) (e 8) (e 9) w) → (thenE (W31 k31_12 (inBlockE 1 (thenE (W31 k31_11 Q) Q))) (inBlockE 1 (thenE (W31 k31_11 Q) Q))) .normal e w := fun e w h => then_N (s31_12 (R := R) (Q := (inBlockE 1 (thenE (W31 k31_11 Q) Q))) (K1 := K1) hN hR e w h)
  exact rgA 3 (fun e w => m31_12 R K1 (e 0) (e 6) (e 7) (e 8) (e 9) w) h hN
theorem s31_6 {R : VP} {Q : EQ} (hR : ∀ e w, (R (e 4) w) → Q .ret e w) (e : Env) (w : World) (h : m31_6 R (e 4) w) : W31 k31_6 Q e w := by
  unfold m31_6 at h
  exact reA (hR _ _ h)
theorem s31_4 {R : VP} {Q : EQ} (hR : ∀ e w, (R (e 4) w) → Q .ret e w) (e : Env) (w : World) (h : m31_4 R (e 4) w) : W31 k31_4 Q e w := by
  unfold m31_4 at h
  exact reA (hR _ _ h)
theorem s31_3 {R : VP} {Q : EQ} (hR : ∀ e w, (R (e 4) w) → Q .ret e w) (e : Env) (w : World) (h : m31_3 R w) : W31 k31_3 Q e w := by
  unfold m31_3 at h
  refine seA ?_
  have hN : ∀ e w, (m31_4 R (e 4) w) → (thenE (W31 k31_4 Q) Q) .normal e w := fun e w h => then_N (s31_4 (R := R) (Q := Q) hR e w h)
  exact rgA 9 (fun e w => m31_4 R (e 4) w) h hN
theorem s31_5 {R : VP} {Q : EQ} (hN : ∀ e w, (m31_3 R w) → Q .normal e w) (hR : ∀ e w, (R (e 4) w) → Q .ret e w) (e : Env) (w : World) (h : m31_5 R (e 24) w) : W31 k31_5 Q e w := by
  unfold m31_5 at h
  refine coA (Operand.tmp 24) h (fun h1 => ?_) (fun h1 => ?_)
  · refine seA ?_
    have hN : ∀ e w, (m31_6 R (e 4) w) → (thenE (W31 k31_6 Q) Q) .normal e w := fun e w h => then_N (s31_6 (R := R) (Q := Q) hR e w h)
    exact rgA 8 (fun e w => m31_6 R (e 4) w) h1 hN
  · exact skA (hN _ _ h1)
theorem s31_2 {R : VP} {Q : EQ} (hR : ∀ e w, (R (e 4) w) → Q .ret e w) (e : Env) (w : World) (h : m31_2 R (e 0) w) : W31 k31_2 Q e w := by
  unfold m31_2 at h
  refine seA ?_
  have hN : ∀ e w, (m31_3 R w) → (thenE (W31 k31_3 Q) Q) .normal e w := fun e w h => then_N (s31_3 (R := R) (Q := Q) hR e w h)
  have hR : ∀ e w, (R (e 4) w) → (thenE (W31 k31_3 Q) Q) .ret e w := fun e w h => then_R (hR e w h)
  refine seA ?_
  have hN : ∀ e w, (m31_5 R (e 24) w) → (thenE (W31 k31_5 (thenE (W31 k31_3 Q) Q)) (thenE (W31 k31_3 Q) Q)) .normal e w := fun e w h => then_N (s31_5 (R := R) (Q := (thenE (W31 k31_3 Q) Q)) hN hR e w h)
  exact rgA 7 (fun e w => m31_5 R (e 24) w) h hN
theorem s31_9 {R : VP} {K1 : VP} {Q : EQ} (hN : ∀ e w, (K1 (e 9) w) → Q .normal e w) (hR : ∀ e w, (R (e 4) w) → Q .ret e w) (hX0 : ∀ e w, (m31_2 R (e 0) w) → Q (.exit 0) e w) (e : Env) (w : World) (h : m31_9 R K1 (e 0) (e 7) (e 8) (e 9) (e 10) w) : W31 k31_9 Q e w := by
  unfold m31_9 at h
  refine seA ?_
  have hN : ∀ e w, (m31_10 R K1 (e 0) (e 7) (e 8) (e 9) w) → (thenE (W31 k31_10 Q) Q) .normal e w := fun e w h => then_N (s31_10 (R := R) (Q := Q) (K1 := K1) hN hR e w h)
  have hX0 : ∀ e w, (m31_2 R (e 0) w) → (thenE (W31 k31_10 Q) Q) (.exit 0) e w := fun e w h => then_X (hX0 e w h)
  refine coA (Operand.tmp 10) h (fun h1 => ?_) (fun h1 => ?_)
  · exact skA (hN _ _ h1)
  · exact exA 0 (hX0 _ _ h1)
theorem s31_8 {R : VP} {K1 : VP} {Q : EQ} (hN : ∀ e w, (K1 (e 9) w) → Q .normal e w) (hR : ∀ e w, (R (e 4) w) → Q .ret e w) (hX0 : ∀ e w, (m31_2 R (e 0) w) → Q (.exit 0) e w) (e : Env) (w : World) (h : m31_8 R K1 (e 0) (e 7) (e 8) (e 9) w) : W31 k31_8 Q e w := by
  unfold m31_8 at h
  refine seA ?_
  have hN : ∀ e w, (m31_9 R K1 (e 0) (e 7) (e 8) (e 9) (e 10) w) → (thenE (W31 k31_9 Q) Q) .normal e w := fun e w h => then_N (s31_9 (R := R) (Q := Q) (K1 := K1) hN hR hX0 e w h)
  exact rgA 2 (fun e w => m31_9 R K1 (e 0) (e 7) (e 8) (e 9) (e 10) w) h hN
theorem s31_7 {R : VP} {Q : EQ} (hN : ∀ e w, (m31_2 R (e 0) w) → Q .normal e w) (hR : ∀ e w, (R (e 4) w) → Q .ret e w) (e : Env) (w : World) (h : m31_7 R (e 0) (e 7) (e 8) (e 9) w) : W31 k31_7 Q e w := by
  unfold m31_7 at h
  refine block_ok 0 (by kernel_rfl) ?_
  have hX0 : ∀ e w, (m31_2 R (e 0) w) → (inBlockE 0 Q) (.exit 0) e w := fun e w h => inBlock_same (Q := Q) 0 (hN e w h)
  have hR : ∀ e w, (R (e 4) w) → (inBlockE 0 Q) .ret e w := fun e w h => block_R (hR e w h)
  refine loop_ok' (fun (e : Env) => e 9) [0, 7, 8] (by kernel_rfl) (by kernel_rfl) h (fun K e' w' hk h' => ?_)
  have r0 : e' 0 = e 0 := hk 0 (by decide)
  have r7 : e' 7 = e 7 := hk 7 (by decide)
  have r8 : e' 8 = e 8 := hk 8 (by decide)
  have hR : ∀ e w, (R (e 4) w) → (thenE (fun (e : Env) w => K (e 9) w) (inBlockE 0 Q)) .ret e w := fun e w h => then_R (hR e w h)
  have hX0 : ∀ e w, (m31_2 R (e 0) w) → (thenE (fun (e : Env) w => K (e 9) w) (inBlockE 0 Q)) (.exit 0) e w := fun e w h => then_X (hX0 e w h)
  exact s31_8 (R := R) (Q := (thenE (fun (e : Env) w => K (e 9) w) (inBlockE 0 Q))) (K1 := K) (fun _ _ h => then_N h) hR hX0 e' w' (by rw [r0, r7, r8]; exact h')
theorem s31_1 {R : VP} {Q : EQ} (hR : ∀ e w, (R (e 4) w) → Q .ret e w) (e : Env) (w : World) (h : m31_1 R (e 0) (e 1) w) : W31 k31_1 Q e w := by
  unfold m31_1 at h
  refine seA ?_
  have hN : ∀ e w, (m31_2 R (e 0) w) → (thenE (W31 k31_2 Q) Q) .normal e w := fun e w h => then_N (s31_2 (R := R) (Q := Q) hR e w h)
  have hR : ∀ e w, (R (e 4) w) → (thenE (W31 k31_2 Q) Q) .ret e w := fun e w h => then_R (hR e w h)
  refine seA ?_
  have hN : ∀ e w, (m31_7 R (e 0) (e 7) (e 8) (e 9) w) → (thenE (W31 k31_7 (thenE (W31 k31_2 Q) Q)) (thenE (W31 k31_2 Q) Q)) .normal e w := fun e w h => then_N (s31_7 (R := R) (Q := (thenE (W31 k31_2 Q) Q)) hN hR e w h)
  exact rgA 1 (fun e w => m31_7 R (e 0) (e 7) (e 8) (e 9) w) h hN
theorem s31_0 {R : VP} {Q : EQ} (hR : ∀ e w, (R (e 4) w) → Q .ret e w) (e : Env) (w : World) (h : m31_0 R (e 0) (e 1) w) : W31 k31_0 Q e w := by
  unfold m31_0 at h
  refine seA ?_
  have hN : ∀ e w, (m31_1 R (e 0) (e 1) w) → (thenE (W31 k31_1 Q) Q) .normal e w := fun e w h => then_N (s31_1 (R := R) (Q := Q) hR e w h)
  exact rgA 0 (fun e w => m31_1 R (e 0) (e 1) w) h hN
abbrev m31 (R : VP) (d0 names1 : Value) (w : World) : Prop := m31_0 R d0 names1 w
theorem s31 (d0 names1 : Value) {R : VP} {w : World} (h : m31 R d0 names1 w) :
    Calls Tryd.prog 31 #[d0, names1] w fun e w' => ∃ v, e = .returned v ∧ R v w' :=
  calls_of_cwp (st := (fun i => 0)) (c := k31_0) (by kernel_rfl) Tryd.func31 (by kernel_rfl) (Nat.le_of_ble_eq_true (by kernel_rfl)) (by kernel_rfl)
    (s31_0 (R := R) (Q := endE Tryd.prog Tryd.f31 R) (fun e w h => kcast (by kernel_rfl) h) (argsE #[d0, names1]) w (kcast (by kernel_rfl) h))
/-! ### headgate/disk.blocks -/
def m32_2 (R : VP) (t2 : Value) (w : World) : Prop :=
  R t2 w
def m32_1 (R : VP) (n0 : Value) (w : World) : Prop :=
  valP Tryd.prog (binS BinOp.add 3 (Operand.tmp 3) (Operand.const (Value.int IntKind.i64 64)) n0 (Value.int IntKind.i64 64)) w fun t4 w =>
  valP Tryd.prog (binS BinOp.sub 3 (Operand.tmp 4) (Operand.const (Value.int IntKind.i64 1)) t4 (Value.int IntKind.i64 1)) w fun t5 w =>
  valP Tryd.prog (binS BinOp.quo 3 (Operand.tmp 5) (Operand.const (Value.int IntKind.i64 64)) t5 (Value.int IntKind.i64 64)) w fun t6 w =>
  builtinP Tryd.prog Builtin.max #[3, 3] 3 #[true, false] #[(Value.int IntKind.i64 1), t6] w fun t7 w =>
  m32_2 R t7 w
def m32_0 (R : VP) (n0 : Value) (w : World) : Prop :=
  m32_1 R n0 w
abbrev W32 := cwp Tryd.prog (fun i => 0)
noncomputable def k32_0 : Code := (bodyOf Tryd.f32)
noncomputable def k32_1 : Code := (c2 k32_0)
noncomputable def k32_2 : Code := (c2 k32_1)
theorem s32_2 {R : VP} {Q : EQ} (hR : ∀ e w, (R (e 2) w) → Q .ret e w) (e : Env) (w : World) (h : m32_2 R (e 2) w) : W32 k32_2 Q e w := by
  unfold m32_2 at h
  exact reA (hR _ _ h)
theorem s32_1 {R : VP} {Q : EQ} (hR : ∀ e w, (R (e 2) w) → Q .ret e w) (e : Env) (w : World) (h : m32_1 R (e 0) w) : W32 k32_1 Q e w := by
  unfold m32_1 at h
  refine seA ?_
  have hN : ∀ e w, (m32_2 R (e 2) w) → (thenE (W32 k32_2 Q) Q) .normal e w := fun e w h => then_N (s32_2 (R := R) (Q := Q) hR e w h)
  exact rgA 1 (fun e w => m32_2 R (e 2) w) h hN
theorem s32_0 {R : VP} {Q : EQ} (hR : ∀ e w, (R (e 2) w) → Q .ret e w) (e : Env) (w : World) (h : m32_0 R (e 0) w) : W32 k32_0 Q e w := by
  unfold m32_0 at h
  refine seA ?_
  have hN : ∀ e w, (m32_1 R (e 0) w) → (thenE (W32 k32_1 Q) Q) .normal e w := fun e w h => then_N (s32_1 (R := R) (Q := Q) hR e w h)
  exact rgA 0 (fun e w => m32_1 R (e 0) w) h hN
abbrev m32 (R : VP) (n0 : Value) (w : World) : Prop := m32_0 R n0 w
theorem s32 (n0 : Value) {R : VP} {w : World} (h : m32 R n0 w) :
    Calls Tryd.prog 32 #[n0] w fun e w' => ∃ v, e = .returned v ∧ R v w' :=
  calls_of_cwp (st := (fun i => 0)) (c := k32_0) (by kernel_rfl) Tryd.func32 (by kernel_rfl) (Nat.le_of_ble_eq_true (by kernel_rfl)) (by kernel_rfl)
    (s32_0 (R := R) (Q := endE Tryd.prog Tryd.f32 R) (fun e w h => kcast (by kernel_rfl) h) (argsE #[n0]) w (kcast (by kernel_rfl) h))
/-! ### (*headgate/disk.file).size -/
def m33_2 (R : VP) (t2 : Value) (w : World) : Prop :=
  R t2 w
def m33_1 (R : VP) (f0 : Value) (w : World) : Prop :=
  nilCheckP f0 fun t4 =>
  valQ Tryd.prog (Instr.fieldAt 65 t4 0) w fun t5 =>
  valQ Tryd.prog (Instr.loadAt 9 t5) w fun t6 =>
  builtinQ Tryd.prog Builtin.len #[9] 3 #[false] #[t6] w fun t7 =>
  nilCheckP f0 fun t9 =>
  valQ Tryd.prog (Instr.fieldAt 65 t9 1) w fun t10 =>
  valQ Tryd.prog (Instr.loadAt 9 t10) w fun t11 =>
  builtinQ Tryd.prog Builtin.len #[9] 3 #[false] #[t11] w fun t12 =>
  valQ Tryd.prog (binS BinOp.add 3 (Operand.tmp 7) (Operand.tmp 12) t7 t12) w fun t13 =>
  anyDraw w fun w =>
  m33_2 R t13 w
def m33_0 (R : VP) (f0 : Value) (w : World) : Prop :=
  m33_1 R f0 w
abbrev W33 := cwp Tryd.prog (fun i => cond (Nat.beq i 1) 1 (0))
noncomputable def k33_0 : Code := (bodyOf Tryd.f33)
noncomputable def k33_1 : Code := (c2 k33_0)
noncomputable def k33_2 : Code := (c2 k33_1)
theorem s33_2 {R : VP} {Q : EQ} (hR : ∀ e w, (R (e 2) w) → Q .ret e w) (e : Env) (w : World) (h : m33_2 R (e 2) w) : W33 k33_2 Q e w := by
  unfold m33_2 at h
  exact reA (hR _ _ h)
theorem s33_1 {R : VP} {Q : EQ} (hR : ∀ e w, (R (e 2) w) → Q .ret e w) (e : Env) (w : World) (h : m33_1 R (e 0) w) : W33 k33_1 Q e w := by
  unfold m33_1 at h
  refine seA ?_
  have hN : ∀ e w, (m33_2 R (e 2) w) → (thenE (W33 k33_2 Q) Q) .normal e w := fun e w h => then_N (s33_2 (R := R) (Q := Q) hR e w h)
  exact quA 1 (fun e w => m33_2 R (e 2) w) h hN
theorem s33_0 {R : VP} {Q : EQ} (hR : ∀ e w, (R (e 2) w) → Q .ret e w) (e : Env) (w : World) (h : m33_0 R (e 0) w) : W33 k33_0 Q e w := by
  unfold m33_0 at h
  refine seA ?_
  have hN : ∀ e w, (m33_1 R (e 0) w) → (thenE (W33 k33_1 Q) Q) .normal e w := fun e w h => then_N (s33_1 (R := R) (Q := Q) hR e w h)
  exact rgA 0 (fun e w => m33_1 R (e 0) w) h hN
abbrev m33 (R : VP) (f0 : Value) (w : World) : Prop := m33_0 R f0 w
theorem s33 (f0 : Value) {R : VP} {w : World} (h : m33 R f0 w) :
    Calls Tryd.prog 33 #[f0] w fun e w' => ∃ v, e = .returned v ∧ R v w' :=
  calls_of_cwp (st := (fun i => cond (Nat.beq i 1) 1 (0))) (c := k33_0) (by kernel_rfl) Tryd.func33 (by kernel_rfl) (Nat.le_of_ble_eq_true (by kernel_rfl)) (by kernel_rfl)
    (s33_0 (R := R) (Q := endE Tryd.prog Tryd.f33 R) (fun e w h => kcast (by kernel_rfl) h) (argsE #[f0]) w (kcast (by kernel_rfl) h))
/-! ### (*headgate/disk.Disk).burn -/
def m34_8 (R : VP) (t2 : Value) (w : World) : Prop :=
  R t2 w
def m34_7 (R : VP) (w : World) : Prop :=
  m34_8 R (Value.bool false) w
def m34_4 (R : VP) (t2 : Value) (w : World) : Prop :=
  R t2 w
def m34_3 (R : VP) (w : World) : Prop :=
  m34_4 R (Value.bool true) w
def m34_5 (R : VP) (d0 t15 : Value) (w : World) : Prop :=
  condP t15
  (nilCheckP d0 fun t17 =>
  valP Tryd.prog (Instr.fieldAt 61 t17 2) w fun t18 w =>
  valP Tryd.prog (Instr.loadAt 3 t18) w fun t19 w =>
  valP Tryd.prog (binS BinOp.sub 3 (Operand.tmp 19) (Operand.const (Value.int IntKind.i64 1)) t19 (Value.int IntKind.i64 1)) w fun t20 w =>
  nilCheckP d0 fun t21 =>
  valP Tryd.prog (Instr.fieldAt 61 t21 2) w fun t22 w =>
  unitP Tryd.prog (Instr.storeAt 3 t22 t20) w fun _ w =>
  m34_3 R w)
  (m34_3 R w)
def m34_2 (R : VP) (d0 : Value) (w : World) : Prop :=
  nilCheckP d0 fun t12 =>
  valP Tryd.prog (Instr.fieldAt 61 t12 2) w fun t13 w =>
  valP Tryd.prog (Instr.loadAt 3 t13) w fun t14 w =>
  valP Tryd.prog (binS BinOp.gtr 3 (Operand.tmp 14) (Operand.const (Value.int IntKind.i64 0)) t14 (Value.int IntKind.i64 0)) w fun t15 w =>
  m34_5 R d0 t15 w
def m34_6 (R : VP) (d0 t7 : Value) (w : World) : Prop :=
  condP t7
  (nilCheckP d0 fun t9 =>
  valP Tryd.prog (Instr.fieldAt 61 t9 3) w fun t10 w =>
  unitP Tryd.prog (Instr.storeAt 4 t10 (Value.bool true)) w fun _ w =>
  m34_7 R w)
  (m34_2 R d0 w)
def m34_1 (R : VP) (d0 : Value) (w : World) : Prop :=
  nilCheckP d0 fun t4 =>
  valP Tryd.prog (Instr.fieldAt 61 t4 2) w fun t5 w =>
  valP Tryd.prog (Instr.loadAt 3 t5) w fun t6 w =>
  valP Tryd.prog (binS BinOp.eql 3 (Operand.tmp 6) (Operand.const (Value.int IntKind.i64 0)) t6 (Value.int IntKind.i64 0)) w fun t7 w =>
  m34_6 R d0 t7 w
def m34_0 (R : VP) (d0 : Value) (w : World) : Prop :=
  m34_1 R d0 w
abbrev W34 := cwp Tryd.prog (fun i => 0)
noncomputable def k34_0 : Code := (bodyOf Tryd.f34)
noncomputable def k34_1 : Code := (c2 k34_0)
noncomputable def k34_2 : Code := (c2 k34_1)
noncomputable def k34_3 : Code := (c2 k34_2)
noncomputable def k34_4 : Code := (c2 k34_3)
noncomputable def k34_5 : Code := (c2 (c1 k34_2))
noncomputable def k34_6 : Code := (c2 (c1 k34_1))
noncomputable def k34_7 : Code := (c2 (c1 k34_6))
noncomputable def k34_8 : Code := (c2 k34_7)
theorem s34_8 {R : VP} {Q : EQ} (hR : ∀ e w, (R (e 2) w) → Q .ret e w) (e : Env) (w : World) (h : m34_8 R (e 2) w) : W34 k34_8 Q e w := by
  unfold m34_8 at h
  exact reA (hR _ _ h)
theorem s34_7 {R : VP} {Q : EQ} (hR : ∀ e w, (R (e 2) w) → Q .ret e w) (e : Env) (w : World) (h : m34_7 R w) : W34 k34_7 Q e w := by
  unfold m34_7 at h
  refine seA ?_
  have hN : ∀ e w, (m34_8 R (e 2) w) → (thenE (W34 k34_8 Q) Q) .normal e w := fun e w h => then_N (s34_8 (R := R) (Q := Q) hR e w h)
  exact rgA 3 (fun e w => m34_8 R (e 2) w) h hN
theorem s34_4 {R : VP} {Q : EQ} (hR : ∀ e w, (R (e 2) w) → Q .ret e w) (e : Env) (w : World) (h : m34_4 R (e 2) w) : W34 k34_4 Q e w := by
  unfold m34_4 at h
  exact reA (hR _ _ h)
theorem s34_3 {R : VP} {Q : EQ} (hR : ∀ e w, (R (e 2) w) → Q .ret e w) (e : Env) (w : World) (h : m34_3 R w) : W34 k34_3 Q e w := by
  unfold m34_3 at h
  refine seA ?_
  have hN : ∀ e w, (m34_4 R (e 2) w) → (thenE (W34 k34_4 Q) Q) .normal e w := fun e w h => then_N (s34_4 (R := R) (Q := Q) hR e w h)
  exact rgA 6 (fun e w => m34_4 R (e 2) w) h hN
theorem s34_5 {R : VP} {Q : EQ} (hN : ∀ e w, (m34_3 R w) → Q .normal e w) (e : Env) (w : World) (h : m34_5 R (e 0) (e 15) w) : W34 k34_5 Q e w := by
  unfold m34_5 at h
  refine coA (Operand.tmp 15) h (fun h1 => ?_) (fun h1 => ?_)
  · exact rgA 5 (fun e w => m34_3 R w) h1 hN
  · exact skA (hN _ _ h1)
theorem s34_2 {R : VP} {Q : EQ} (hR : ∀ e w, (R (e 2) w) → Q .ret e w) (e : Env) (w : World) (h : m34_2 R (e 0) w) : W34 k34_2 Q e w := by
  unfold m34_2 at h
  refine seA ?_
  have hN : ∀ e w, (m34_3 R w) → (thenE (W34 k34_3 Q) Q) .normal e w := fun e w h => then_N (s34_3 (R := R) (Q := Q) hR e w h)
  refine seA ?_
  have hN : ∀ e w, (m34_5 R (e 0) (e 15) w) → (thenE (W34 k34_5 (thenE (W34 k34_3 Q) Q)) (thenE (W34 k34_3 Q) Q)) .normal e w := fun e w h => then_N (s34_5 (R := R) (Q := (thenE (W34 k34_3 Q) Q)) hN e w h)
  exact rgA 4 (fun e w => m34_5 R (e 0) (e 15) w) h hN
theorem s34_6 {R : VP} {Q : EQ} (hN : ∀ e w, (m34_2 R (e 0) w) → Q .normal e w) (hR : ∀ e w, (R (e 2) w) → Q .ret e w) (e : Env) (w : World) (h : m34_6 R (e 0) (e 7) w) : W34 k34_6 Q e w := by
  unfold m34_6 at h
  refine coA (Operand.tmp 7) h (fun h1 => ?_) (fun h1 => ?_)
  · refine seA ?_
    have hN : ∀ e w, (m34_7 R w) → (thenE (W34 k34_7 Q) Q) .normal e w := fun e w h => then_N (s34_7 (R := R) (Q := Q) hR e w h)
    exact rgA 2 (fun e w => m34_7 R w) h1 hN
  · exact skA (hN _ _ h1)
theorem s34_1 {R : VP} {Q : EQ} (hR : ∀ e w, (R (e 2) w) → Q .ret e w) (e : Env) (w : World) (h : m34_1 R (e 0) w) : W34 k34_1 Q e w := by
  unfold m34_1 at h
  refine seA ?_
  have hN : ∀ e w, (m34_2 R (e 0) w) → (thenE (W34 k34_2 Q) Q) .normal e w := fun e w h => then_N (s34_2 (R := R) (Q := Q) hR e w h)
  have hR : ∀ e w, (R (e 2) w) → (thenE (W34 k34_2 Q) Q) .ret e w := fun e w h => then_R (hR e w h)
  refine seA ?_
  have hN : ∀ e w, (m34_6 R (e 0) (e 7) w) → (thenE (W34 k34_6 (thenE (W34 k34_2 Q) Q)) (thenE (W34 k34_2 Q) Q)) .normal e w := fun e w h => then_N (s34_6 (R := R) (Q := (thenE (W34 k34_2 Q) Q)) hN hR e w h)
  exact rgA 1 (fun e w => m34_6 R (e 0) (e 7) w) h hN
theorem s34_0 {R : VP} {Q : EQ} (hR : ∀ e w, (R (e 2) w) → Q .ret e w) (e : Env) (w : World) (h : m34_0 R (e 0) w) : W34 k34_0 Q e w := by
  unfold m34_0 at h
  refine seA ?_
  have hN : ∀ e w, (m34_1 R (e 0) w) → (thenE (W34 k34_1 Q) Q) .normal e w := fun e w h => then_N (s34_1 (R := R) (Q := Q) hR e w h)
  exact rgA 0 (fun e w => m34_1 R (e 0) w) h hN
abbrev m34 (R : VP) (d0 : Value) (w : World) : Prop := m34_0 R d0 w
theorem s34 (d0 : Value) {R : VP} {w : World} (h : m34 R d0 w) :
    Calls Tryd.prog 34 #[d0] w fun e w' => ∃ v, e = .returned v ∧ R v w' :=
  calls_of_cwp (st := (fun i => 0)) (c := k34_0) (by kernel_rfl) Tryd.func34 (by kernel_rfl) (Nat.le_of_ble_eq_true (by kernel_rfl)) (by kernel_rfl)
    (s34_0 (R := R) (Q := endE Tryd.prog Tryd.f34 R) (fun e w h => kcast (by kernel_rfl) h) (argsE #[d0]) w (kcast (by kernel_rfl) h))
/-! ### (*headgate/disk.Disk).work -/
def m37_12 (R : VP) (t6 : Value) (w : World) : Prop :=
  R t6 w
def m37_7 (R : VP) (t6 : Value) (w : World) : Prop :=
  R t6 w
def m37_9 (R : VP) (t6 : Value) (w : World) : Prop :=
  R t6 w
def m37_5 (R : VP) (t6 : Value) (w : World) : Prop :=
  R t6 w
def m37_4 (R : VP) (do2 f8 : Value) (w : World) : Prop :=
  callP Tryd.prog do2 #[f8] w fun t31 w =>
  m37_5 R t31 w
def m37_8 (R : VP) (do2 f8 t25 : Value) (w : World) : Prop :=
  condP t25
  (m37_9 R (Value.int IntKind.i64 4) w)
  (m37_4 R do2 f8 w)
def m37_6 (R : VP) (d0 do2 f8 t22 : Value) (w : World) : Prop :=
  condP t22
  (m37_7 R (Value.int IntKind.i64 3) w)
  (callP Tryd.prog (fnV 34) #[d0] w fun t27 w =>
  valP Tryd.prog (Op.unary UnOp.not t27) w fun t28 w =>
  m37_8 R do2 f8 t28 w)
def m37_3 (R : VP) (d0 do2 f8 : Value) (w : World) : Prop :=
  valP Tryd.prog (binS BinOp.eql 63 (Operand.tmp 23) (Operand.const (Value.pointer none)) f8 (Value.pointer none)) w fun t24 w =>
  m37_6 R d0 do2 f8 t24 w
def m37_2 (R : VP) (d0 name1 do2 : Value) (w : World) : Prop :=
  nilCheckP d0 fun t17 =>
  valP Tryd.prog (Instr.fieldAt 61 t17 0) w fun t18 w =>
  valP Tryd.prog (Instr.loadAt 59 t18) w fun t19 w =>
  valP Tryd.prog (Instr.lookup 59 t19 name1 false) w fun t21 w =>
  m37_3 R d0 do2 t21 w
def m37_11 (R : VP) (d0 name1 do2 e7 t14 : Value) (w : World) : Prop :=
  condP t14
  (m37_12 R e7 w)
  (m37_2 R d0 name1 do2 w)
def m37_10 (R : VP) (d0 name1 do2 e7 : Value) (w : World) : Prop :=
  valP Tryd.prog (binS BinOp.neq 24 (Operand.tmp 13) (Operand.const (Value.int IntKind.i64 0)) e7 (Value.int IntKind.i64 0)) w fun t14 w =>
  m37_11 R d0 name1 do2 e7 t14 w
def m37_1 (R : VP) (d0 name1 do2 : Value) (w : World) : Prop :=
  valP Tryd.prog (Instr.buildSlice 22 1 #[(0, name1)]) w fun t11 w =>
  callP Tryd.prog (fnV 31) #[d0, t11] w fun t12 w =>
  m37_10 R d0 name1 do2 t12 w
def m37_0 (R : VP) (d0 name1 do2 : Value) (w : World) : Prop :=
  m37_1 R d0 name1 do2 w
abbrev W37 := cwp Tryd.prog (fun i => 0)
noncomputable def k37_0 : Code := (bodyOf Tryd.f37)
noncomputable def k37_1 : Code := (c2 k37_0)
noncomputable def k37_2 : Code := (c2 k37_1)
noncomputable def k37_3 : Code := (c2 k37_2)
noncomputable def k37_4 : Code := (c2 k37_3)
noncomputable def k37_5 : Code := (c2 k37_4)
noncomputable def k37_6 : Code := (c2 (c1 (c1 k37_3)))
noncomputable def k37_7 : Code := (c2 (c1 k37_6))
noncomputable def k37_8 : Code := (c2 (c2 k37_6))
noncomputable def k37_9 : Code := (c2 (c1 k37_8))
noncomputable def k37_10 : Code := (c2 (c1 k37_1))
noncomputable def k37_11 : Code := (c2 k37_10)
noncomputable def k37_12 : Code := (c2 (c1 k37_11))
theorem s37_12 {R : VP} {Q : EQ} (hR : ∀ e w, (R (e 6) w) → Q .ret e w) (e : Env) (w : World) (h : m37_12 R (e 6) w) : W37 k37_12 Q e w := by
  unfold m37_12 at h
  exact reA (hR _ _ h)
theorem s37_7 {R : VP} {Q : EQ} (hR : ∀ e w, (R (e 6) w) → Q .ret e w) (e : Env) (w : World) (h : m37_7 R (e 6) w) : W37 k37_7 Q e w := by
  unfold m37_7 at h
  exact reA (hR _ _ h)
theorem s37_9 {R : VP} {Q : EQ} (hR : ∀ e w, (R (e 6) w) → Q .ret e w) (e : Env) (w : World) (h : m37_9 R (e 6) w) : W37 k37_9 Q e w := by
  unfold m37_9 at h
  exact reA (hR _ _ h)
theorem s37_5 {R : VP} {Q : EQ} (hR : ∀ e w, (R (e 6) w) → Q .ret e w) (e : Env) (w : World) (h : m37_5 R (e 6) w) : W37 k37_5 Q e w := by
  unfold m37_5 at h
  exact reA (hR _ _ h)
theorem s37_4 {R : VP} {Q : EQ} (hR : ∀ e w, (R (e 6) w) → Q .ret e w) (e : Env) (w : World) (h : m37_4 R (e 2) (e 8) w) : W37 k37_4 Q e w := by
  unfold m37_4 at h
  refine seA ?_
  have hN : ∀ e w, (m37_5 R (e 6) w) → (thenE (W37 k37_5 Q) Q) .normal e w := fun e w h => then_N (s37_5 (R := R) (Q := Q) hR e w h)
  exact rgA 9 (fun e w => m37_5 R (e 6) w) h hN
theorem s37_8 {R : VP} {Q : EQ} (hN : ∀ e w, (m37_4 R (e 2) (e 8) w) → Q .normal e w) (hR : ∀ e w, (R (e 6) w) → Q .ret e w) (e : Env) (w : World) (h : m37_8 R (e 2) (e 8) (e 25) w) : W37 k37_8 Q e w := by
  unfold m37_8 at h
  refine coA (Operand.tmp 25) h (fun h1 => ?_) (fun h1 => ?_)
  · refine seA ?_
    have hN : ∀ e w, (m37_9 R (e 6) w) → (thenE (W37 k37_9 Q) Q) .normal e w := fun e w h => then_N (s37_9 (R := R) (Q := Q) hR e w h)
    exact rgA 8 (fun e w => m37_9 R (e 6) w) h1 hN
  · exact skA (hN _ _ h1)
theorem s37_6 {R : VP} {Q : EQ} (hN : ∀ e w, (m37_4 R (e 2) (e 8) w) → Q .normal e w) (hR : ∀ e w, (R (e 6) w) → Q .ret e w) (e : Env) (w : World) (h : m37_6 R (e 0) (e 2) (e 8) (e 22) w) : W37 k37_6 Q e w := by
  unfold m37_6 at h
  refine coA (Operand.tmp 22) h (fun h1 => ?_) (fun h1 => ?_)
  · refine seA ?_
    have hN : ∀ e w, (m37_7 R (e 6) w) → (thenE (W37 k37_7 Q) Q) .normal e w := fun e w h => then_N (s37_7 (R := R) (Q := Q) hR e w h)
    exact rgA 6 (fun e w => m37_7 R (e 6) w) h1 hN
  · refine seA ?_
    have hN : ∀ e w, (m37_8 R (e 2) (e 8) (e 25) w) → (thenE (W37 k37_8 Q) Q) .normal e w := fun e w h => then_N (s37_8 (R := R) (Q := Q) hN hR e w h)
    exact rgA 7 (fun e w => m37_8 R (e 2) (e 8) (e 25) w) h1 hN
theorem s37_3 {R : VP} {Q : EQ} (hR : ∀ e w, (R (e 6) w) → Q .ret e w) (e : Env) (w : World) (h : m37_3 R (e 0) (e 2) (e 8) w) : W37 k37_3 Q e w := by
  unfold m37_3 at h
  refine seA ?_
  have hN : ∀ e w, (m37_4 R (e 2) (e 8) w) → (thenE (W37 k37_4 Q) Q) .normal e w := fun e w h => then_N (s37_4 (R := R) (Q := Q) hR e w h)
  have hR : ∀ e w, (R (e 6) w) → (thenE (W37 k37_4 Q) Q) .ret e w := fun e w h => then_R (hR e w h)
  refine block_ok 0 (by kernel_rfl) ?_
  have hN : ∀ e w, (m37_4 R (e 2) (e 8) w) → (inBlockE 0 (thenE (W37 k37_4 Q) Q)) .normal e w := fun e w h => block_N (hN e w h)
  have hR : ∀ e w, (R (e 6) w) → (inBlockE 0 (thenE (W37 k37_4 Q) Q)) .ret e w := fun e w h => block_R (hR e w h)
  refine seA ?_
  have hN : ∀ e w, (m37_6 R (e 0) (e 2) (e 8) (e 22) w) → (thenE (W37 k37_6 (inBlockE 0 (thenE (W37 k37_4 Q) Q))) (inBlockE 0 (thenE (W37 k37_4 Q) Q))) .normal e w := fun e w h => then_N (s37_6 (R := R) (Q := (inBlockE 0 (thenE (W37 k37_4 Q) Q))) hN hR e w h)
  exact rgA 5 (fun e w => m37_6 R (e 0) (e 2) (e 8) (e 22) w) h hN
theorem s37_2 {R : VP} {Q : EQ} (hR : ∀ e w, (R (e 6) w) → Q .ret e w) (e : Env) (w : World) (h : m37_2 R (e 0) (e 1) (e 2) w) : W37 k37_2 Q e w := by
  unfold m37_2 at h
  refine seA ?_
  have hN : ∀ e w, (m37_3 R (e 0) (e 2) (e 8) w) → (thenE (W37 k37_3 Q) Q) .normal e w := fun e w h => then_N (s37_3 (R := R) (Q := Q) hR e w h)
  exact rgA 4 (fun e w => m37_3 R (e 0) (e 2) (e 8) w) h hN
theorem s37_11 {R : VP} {Q : EQ} (hN : ∀ e w, (m37_2 R (e 0) (e 1) (e 2) w) → Q .normal e w) (hR : ∀ e w, (R (e 6) w) → Q .ret e w) (e : Env) (w : World) (h : m37_11 R (e 0) (e 1) (e 2) (e 7) (e 14) w) : W37 k37_11 Q e w := by
  unfold m37_11 at h
  refine coA (Operand.tmp 14) h (fun h1 => ?_) (fun h1 => ?_)
  · refine seA ?_
    have hN : ∀ e w, (m37_12 R (e 6) w) → (thenE (W37 k37_12 Q) Q) .normal e w := fun e w h => then_N (s37_12 (R := R) (Q := Q) hR e w h)
    exact rgA 3 (fun e w => m37_12 R (e 6) w) h1 hN
  · exact skA (hN _ _ h1)
theorem s37_10 {R : VP} {Q : EQ} (hN : ∀ e w, (m37_2 R (e 0) (e 1) (e 2) w) → Q .normal e w) (hR : ∀ e w, (R (e 6) w) → Q .ret e w) (e : Env) (w : World) (h : m37_10 R (e 0) (e 1) (e 2) (e 7) w) : W37 k37_10 Q e w := by
  unfold m37_10 at h
  refine seA ?_
  have hN : ∀ e w, (m37_11 R (e 0) (e 1) (e 2) (e 7) (e 14) w) → (thenE (W37 k37_11 Q) Q) .normal e w := fun e w h => then_N (s37_11 (R := R) (Q := Q) hN hR e w h)
  exact rgA 2 (fun e w => m37_11 R (e 0) (e 1) (e 2) (e 7) (e 14) w) h hN
theorem s37_1 {R : VP} {Q : EQ} (hR : ∀ e w, (R (e 6) w) → Q .ret e w) (e : Env) (w : World) (h : m37_1 R (e 0) (e 1) (e 2) w) : W37 k37_1 Q e w := by
  unfold m37_1 at h
  refine seA ?_
  have hN : ∀ e w, (m37_2 R (e 0) (e 1) (e 2) w) → (thenE (W37 k37_2 Q) Q) .normal e w := fun e w h => then_N (s37_2 (R := R) (Q := Q) hR e w h)
  have hR : ∀ e w, (R (e 6) w) → (thenE (W37 k37_2 Q) Q) .ret e w := fun e w h => then_R (hR e w h)
  refine seA ?_
  have hN : ∀ e w, (m37_10 R (e 0) (e 1) (e 2) (e 7) w) → (thenE (W37 k37_10 (thenE (W37 k37_2 Q) Q)) (thenE (W37 k37_2 Q) Q)) .normal e w := fun e w h => then_N (s37_10 (R := R) (Q := (thenE (W37 k37_2 Q) Q)) hN hR e w h)
  exact rgA 1 (fun e w => m37_10 R (e 0) (e 1) (e 2) (e 7) w) h hN
theorem s37_0 {R : VP} {Q : EQ} (hR : ∀ e w, (R (e 6) w) → Q .ret e w) (e : Env) (w : World) (h : m37_0 R (e 0) (e 1) (e 2) w) : W37 k37_0 Q e w := by
  unfold m37_0 at h
  refine seA ?_
  have hN : ∀ e w, (m37_1 R (e 0) (e 1) (e 2) w) → (thenE (W37 k37_1 Q) Q) .normal e w := fun e w h => then_N (s37_1 (R := R) (Q := Q) hR e w h)
  exact rgA 0 (fun e w => m37_1 R (e 0) (e 1) (e 2) w) h hN
abbrev m37 (R : VP) (d0 name1 do2 : Value) (w : World) : Prop := m37_0 R d0 name1 do2 w
theorem s37 (d0 name1 do2 : Value) {R : VP} {w : World} (h : m37 R d0 name1 do2 w) :
    Calls Tryd.prog 37 #[d0, name1, do2] w fun e w' => ∃ v, e = .returned v ∧ R v w' :=
  calls_of_cwp (st := (fun i => 0)) (c := k37_0) (by kernel_rfl) Tryd.func37 (by kernel_rfl) (Nat.le_of_ble_eq_true (by kernel_rfl)) (by kernel_rfl)
    (s37_0 (R := R) (Q := endE Tryd.prog Tryd.f37 R) (fun e w h => kcast (by kernel_rfl) h) (argsE #[d0, name1, do2]) w (kcast (by kernel_rfl) h))
/-! ### (*headgate/disk.Disk).Rename$1 -/
def m38_5 (R : VP) (t5 : Value) (w : World) : Prop :=
  R t5 w
def m38_4 (R : VP) (w : World) : Prop :=
  m38_5 R (Value.int IntKind.i64 0) w
def m38_3 (R : VP) (f0 t1 t2 : Value) (w : World) : Prop :=
  anyDraw w fun w =>
  valS Tryd.prog (Instr.loadAt 23 t1) w fun t35 =>
  nilCheckP t35 fun t36 =>
  valS Tryd.prog (Instr.fieldAt 61 t36 0) w fun t37 =>
  valS Tryd.prog (Instr.loadAt 59 t37) w fun t38 =>
  valS Tryd.prog (Instr.loadAt 9 t2) w fun t39 =>
  unitP Tryd.prog (Instr.mapUpdate 59 t38 t39 f0) w fun _ w =>
  m38_4 R w
def m38_2 (R : VP) (f0 t1 t2 t3 : Value) (w : World) : Prop :=
  anyDraw w fun w =>
  valS Tryd.prog (Instr.loadAt 23 t1) w fun t30 =>
  nilCheckP t30 fun t31 =>
  valS Tryd.prog (Instr.fieldAt 61 t31 0) w fun t32 =>
  valS Tryd.prog (Instr.loadAt 59 t32) w fun t33 =>
  valS Tryd.prog (Instr.loadAt 9 t3) w fun t34 =>
  builtinP Tryd.prog Builtin.delete #[59, 9] 0 #[false, false] #[t33, t34] w fun _ w =>
  m38_3 R f0 t1 t2 w
def m38_7 (R : VP) (f0 t1 t2 t3 old6 t19 : Value) (w : World) : Prop :=
  condP t19
  (anyDraw w fun w =>
  heldP w fun J =>
  valJ Tryd.prog J (Instr.loadAt 23 t1) fun t20 =>
  nilCheckP t20 fun t21 =>
  valJ Tryd.prog J (Instr.fieldAt 61 t21 1) fun t22 =>
  (valP Tryd.prog (Instr.loadAt 3 t22) w fun t23 w =>
  stayP J w
  (callP Tryd.prog (fnV 33) #[old6] w fun t25 w =>
  stayP J w
  (callP Tryd.prog (fnV 32) #[t25] w fun t26 w =>
  stayP J w
  (valJ Tryd.prog J (binS BinOp.add 3 (Operand.tmp 23) (Operand.tmp 26) t23 t26) fun t27 =>
  nilCheckP t20 fun t28 =>
  valJ Tryd.prog J (Instr.fieldAt 61 t28 1) fun t29 =>
  unitP Tryd.prog (Instr.storeAt 3 t29 t27) w fun _ w =>
  stayP J w
  (m38_2 R f0 t1 t2 t3 w))))) ∧ (callP Tryd.prog (fnV 33) #[old6] w fun t25 w =>
  stayP J w
  ((valP Tryd.prog (Instr.loadAt 3 t22) w fun t23 w =>
  stayP J w
  (callP Tryd.prog (fnV 32) #[t25] w fun t26 w =>
  stayP J w
  (valJ Tryd.prog J (binS BinOp.add 3 (Operand.tmp 23) (Operand.tmp 26) t23 t26) fun t27 =>
  nilCheckP t20 fun t28 =>
  valJ Tryd.prog J (Instr.fieldAt 61 t28 1) fun t29 =>
  unitP Tryd.prog (Instr.storeAt 3 t29 t27) w fun _ w =>
  stayP J w
  (m38_2 R f0 t1 t2 t3 w)))) ∧ (callP Tryd.prog (fnV 32) #[t25] w fun t26 w =>
  stayP J w
  (valP Tryd.prog (Instr.loadAt 3 t22) w fun t23 w =>
  stayP J w
  (valJ Tryd.prog J (binS BinOp.add 3 (Operand.tmp 23) (Operand.tmp 26) t23 t26) fun t27 =>
  nilCheckP t20 fun t28 =>
  valJ Tryd.prog J (Instr.fieldAt 61 t28 1) fun t29 =>
  unitP Tryd.prog (Instr.storeAt 3 t29 t27) w fun _ w =>
  stayP J w
  (m38_2 R f0 t1 t2 t3 w)))))))
  (m38_2 R f0 t1 t2 t3 w)
def m38_6 (R : VP) (f0 t1 t2 t3 old6 : Value) (w : World) : Prop :=
  valP Tryd.prog (binS BinOp.neq 63 (Operand.tmp 13) (Operand.const (Value.pointer none)) old6 (Value.pointer none)) w fun t14 w =>
  condP t14
  (valP Tryd.prog (Instr.loadAt 9 t3) w fun t16 w =>
  valP Tryd.prog (Instr.loadAt 9 t2) w fun t17 w =>
  valP Tryd.prog (binS BinOp.neq 9 (Operand.tmp 16) (Operand.tmp 17) t16 t17) w fun t18 w =>
  pickP t14 t18 (Value.bool false) fun t19 =>
  m38_7 R f0 t1 t2 t3 old6 t19 w)
  (pickP t14 undef (Value.bool false) fun t19 =>
  m38_7 R f0 t1 t2 t3 old6 t19 w)
def m38_1 (R : VP) (f0 t1 t2 t3 : Value) (w : World) : Prop :=
  valQ Tryd.prog (Instr.loadAt 23 t1) w fun t7 =>
  nilCheckP t7 fun t8 =>
  valQ Tryd.prog (Instr.fieldAt 61 t8 0) w fun t9 =>
  valQ Tryd.prog (Instr.loadAt 59 t9) w fun t10 =>
  valQ Tryd.prog (Instr.loadAt 9 t2) w fun t11 =>
  valQ Tryd.prog (Instr.lookup 59 t10 t11 false) w fun t12 =>
  anyDraw w fun w =>
  m38_6 R f0 t1 t2 t3 t12 w
def m38_0 (R : VP) (f0 t1 t2 t3 : Value) (w : World) : Prop :=
  m38_1 R f0 t1 t2 t3 w
abbrev W38 := cwp Tryd.prog (fun i => cond (Nat.beq i 5) 8 (cond (Nat.beq i 4) 7 (cond (Nat.beq i 1) 1 (0))))
noncomputable def k38_0 : Code := (bodyOf Tryd.f38)
noncomputable def k38_1 : Code := (c2 k38_0)
noncomputable def k38_2 : Code := (c2 k38_1)
noncomputable def k38_3 : Code := (c2 k38_2)
noncomputable def k38_4 : Code := (c2 k38_3)
noncomputable def k38_5 : Code := (c2 k38_4)
noncomputable def k38_6 : Code := (c2 (c1 k38_1))
noncomputable def k38_7 : Code := (c2 k38_6)
theorem s38_5 {R : VP} {Q : EQ} (hR : ∀ e w, (R (e 5) w) → Q .ret e w) (e : Env) (w : World) (h : m38_5 R (e 5) w) : W38 k38_5 Q e w := by
  unfold m38_5 at h
  exact reA (hR _ _ h)
theorem s38_4 {R : VP} {Q : EQ} (hR : ∀ e w, (R (e 5) w) → Q .ret e w) (e : Env) (w : World) (h : m38_4 R w) : W38 k38_4 Q e w := by
  unfold m38_4 at h
  refine seA ?_
  have hN : ∀ e w, (m38_5 R (e 5) w) → (thenE (W38 k38_5 Q) Q) .normal e w := fun e w h => then_N (s38_5 (R := R) (Q := Q) hR e w h)
  exact rgA 6 (fun e w => m38_5 R (e 5) w) h hN
theorem s38_3 {R : VP} {Q : EQ} (hR : ∀ e w, (R (e 5) w) → Q .ret e w) (e : Env) (w : World) (h : m38_3 R (e 0) (e 1) (e 2) w) : W38 k38_3 Q e w := by
  unfold m38_3 at h
  refine seA ?_
  have hN : ∀ e w, (m38_4 R w) → (thenE (W38 k38_4 Q) Q) .normal e w := fun e w h => then_N (s38_4 (R := R) (Q := Q) hR e w h)
  exact taA 5 6 (fun e w => m38_4 R w) h hN
theorem s38_2 {R : VP} {Q : EQ} (hR : ∀ e w, (R (e 5) w) → Q .ret e w) (e : Env) (w : World) (h : m38_2 R (e 0) (e 1) (e 2) (e 3) w) : W38 k38_2 Q e w := by
  unfold m38_2 at h
  refine seA ?_
  have hN : ∀ e w, (m38_3 R (e 0) (e 1) (e 2) w) → (thenE (W38 k38_3 Q) Q) .normal e w := fun e w h => then_N (s38_3 (R := R) (Q := Q) hR e w h)
  exact taA 4 5 (fun e w => m38_3 R (e 0) (e 1) (e 2) w) h hN
theorem s38_7 {R : VP} {Q : EQ} (hN : ∀ e w, (m38_2 R (e 0) (e 1) (e 2) (e 3) w) → Q .normal e w) (e : Env) (w : World) (h : m38_7 R (e 0) (e 1) (e 2) (e 3) (e 6) (e 19) w) : W38 k38_7 Q e w := by
  unfold m38_7 at h
  refine coA (Operand.tmp 19) h (fun h1 => ?_) (fun h1 => ?_)
  · exact treeJ_ok 3 11 [false, false, false, false, false, false, false, false, false, false, false] (.take 0 [true, false, false, false, false, false, false, false, false, false, false] (.take 1 [true, true, false, false, false, false, false, false, false, false, false] (.take 2 [true, true, true, false, false, false, false, false, false, false, false] (.take 4 [true, true, true, false, true, false, false, false, false, false, false] (.alt 3 [true, true, true, true, true, false, false, false, false, false, false] (.alt 5 [true, true, true, true, true, true, false, false, false, false, false] (.alt 6 [true, true, true, true, true, true, true, false, false, false, false] (.take 7 [true, true, true, true, true, true, true, true, false, false, false] (.take 8 [true, true, true, true, true, true, true, true, true, false, false] (.take 9 [true, true, true, true, true, true, true, true, true, true, false] (.alt 10 [true, true, true, true, true, true, true, true, true, true, true] .done .stop)))) .stop) .stop) (.alt 5 [true, true, true, false, true, true, false, false, false, false, false] (.alt 3 [true, true, true, true, true, true, false, false, false, false, false] (.alt 6 [true, true, true, true, true, true, true, false, false, false, false] (.take 7 [true, true, true, true, true, true, true, true, false, false, false] (.take 8 [true, true, true, true, true, true, true, true, true, false, false] (.take 9 [true, true, true, true, true, true, true, true, true, true, false] (.alt 10 [true, true, true, true, true, true, true, true, true, true, true] .done .stop)))) .stop) (.alt 6 [true, true, true, false, true, true, true, false, false, false, false] (.alt 3 [true, true, true, true, true, true, true, false, false, false, false] (.take 7 [true, true, true, true, true, true, true, true, false, false, false] (.take 8 [true, true, true, true, true, true, true, true, true, false, false] (.take 9 [true, true, true, true, true, true, true, true, true, true, false] (.alt 10 [true, true, true, true, true, true, true, true, true, true, true] .done .stop)))) .stop) .stop)) .stop)))))) (fun e w => m38_2 R (e 0) (e 1) (e 2) (e 3) w) (by kernel_rfl) (by kernel_rfl) (by kernel_rfl) (by kernel_rfl) (by kernel_rfl) (by kernel_rfl) (kcast (by kernel_rfl) h1) hN (by kernel_rfl)
  · exact skA (hN _ _ h1)
theorem s38_6 {R : VP} {Q : EQ} (hN : ∀ e w, (m38_2 R (e 0) (e 1) (e 2) (e 3) w) → Q .normal e w) (e : Env) (w : World) (h : m38_6 R (e 0) (e 1) (e 2) (e 3) (e 6) w) : W38 k38_6 Q e w := by
  unfold m38_6 at h
  refine seA ?_
  have hN : ∀ e w, (m38_7 R (e 0) (e 1) (e 2) (e 3) (e 6) (e 19) w) → (thenE (W38 k38_7 Q) Q) .normal e w := fun e w h => then_N (s38_7 (R := R) (Q := Q) hN e w h)
  exact rgA 2 (fun e w => m38_7 R (e 0) (e 1) (e 2) (e 3) (e 6) (e 19) w) h hN
theorem s38_1 {R : VP} {Q : EQ} (hR : ∀ e w, (R (e 5) w) → Q .ret e w) (e : Env) (w : World) (h : m38_1 R (e 0) (e 1) (e 2) (e 3) w) : W38 k38_1 Q e w := by
  unfold m38_1 at h
  refine seA ?_
  have hN : ∀ e w, (m38_2 R (e 0) (e 1) (e 2) (e 3) w) → (thenE (W38 k38_2 Q) Q) .normal e w := fun e w h => then_N (s38_2 (R := R) (Q := Q) hR e w h)
  refine seA ?_
  have hN : ∀ e w, (m38_6 R (e 0) (e 1) (e 2) (e 3) (e 6) w) → (thenE (W38 k38_6 (thenE (W38 k38_2 Q) Q)) (thenE (W38 k38_2 Q) Q)) .normal e w := fun e w h => then_N (s38_6 (R := R) (Q := (thenE (W38 k38_2 Q) Q)) hN e w h)
  exact quA 1 (fun e w => m38_6 R (e 0) (e 1) (e 2) (e 3) (e 6) w) h hN
theorem s38_0 {R : VP} {Q : EQ} (hR : ∀ e w, (R (e 5) w) → Q .ret e w) (e : Env) (w : World) (h : m38_0 R (e 0) (e 1) (e 2) (e 3) w) : W38 k38_0 Q e w := by
  unfold m38_0 at h
  refine seA ?_
  have hN : ∀ e w, (m38_1 R (e 0) (e 1) (e 2) (e 3) w) → (thenE (W38 k38_1 Q) Q) .normal e w := fun e w h => then_N (s38_1 (R := R) (Q := Q) hR e w h)
  exact rgA 0 (fun e w => m38_1 R (e 0) (e 1) (e 2) (e 3) w) h hN
abbrev m38 (R : VP) (f0 t1 t2 t3 : Value) (w : World) : Prop := m38_0 R f0 t1 t2 t3 w
theorem s38 (f0 t1 t2 t3 : Value) {R : VP} {w : World} (h : m38 R f0 t1 t2 t3 w) :
    Calls Tryd.prog 38 #[f0, t1, t2, t3] w fun e w' => ∃ v, e = .returned v ∧ R v w' :=
  calls_of_cwp (st := (fun i => cond (Nat.beq i 5) 8 (cond (Nat.beq i 4) 7 (cond (Nat.beq i 1) 1 (0))))) (c := k38_0) (by kernel_rfl) Tryd.func38 (by kernel_rfl) (Nat.le_of_ble_eq_true (by kernel_rfl)) (by kernel_rfl)
    (s38_0 (R := R) (Q := endE Tryd.prog Tryd.f38 R) (fun e w h => kcast (by kernel_rfl) h) (argsE #[f0, t1, t2, t3]) w (kcast (by kernel_rfl) h))
/-! ### (*headgate/disk.Disk).Sync$1 -/
def m39_3 (R : VP) (t2 : Value) (w : World) : Prop :=
  R t2 w
def m39_2 (R : VP) (w : World) : Prop :=
  m39_3 R (Value.int IntKind.i64 0) w
def m39_1 (R : VP) (f0 : Value) (w : World) : Prop :=
  anyDraw w fun w =>
  nilCheckP f0 fun t6 =>
  pureP Tryd.prog (Instr.fieldAt 65 t6 0) fun t7 =>
  nilCheckP f0 fun t10 =>
  pureP Tryd.prog (Instr.fieldAt 65 t10 1) fun t11 =>
  (valP Tryd.prog (Instr.loadAt 9 t7) w fun t8 w =>
  valP Tryd.prog (Instr.loadAt 9 t11) w fun t12 w =>
  pureP Tryd.prog (binS BinOp.add 9 (Operand.tmp 8) (Operand.tmp 12) t8 t12) fun t13 =>
  nilCheckP f0 fun t14 =>
  pureP Tryd.prog (Instr.fieldAt 65 t14 0) fun t15 =>
  unitP Tryd.prog (Instr.storeAt 9 t15 t13) w fun _ w =>
  nilCheckP f0 fun t16 =>
  pureP Tryd.prog (Instr.fieldAt 65 t16 1) fun t17 =>
  unitP Tryd.prog (Instr.storeAt 9 t17 (Value.string ⟨#[]⟩)) w fun _ w =>
  m39_2 R w) ∧ (valP Tryd.prog (Instr.loadAt 9 t11) w fun t12 w =>
  valP Tryd.prog (Instr.loadAt 9 t7) w fun t8 w =>
  pureP Tryd.prog (binS BinOp.add 9 (Operand.tmp 8) (Operand.tmp 12) t8 t12) fun t13 =>
  nilCheckP f0 fun t14 =>
  pureP Tryd.prog (Instr.fieldAt 65 t14 0) fun t15 =>
  unitP Tryd.prog (Instr.storeAt 9 t15 t13) w fun _ w =>
  nilCheckP f0 fun t16 =>
  pureP Tryd.prog (Instr.fieldAt 65 t16 1) fun t17 =>
  unitP Tryd.prog (Instr.storeAt 9 t17 (Value.string ⟨#[]⟩)) w fun _ w =>
  m39_2 R w)
def m39_0 (R : VP) (f0 : Value) (w : World) : Prop :=
  m39_1 R f0 w
abbrev W39 := cwp Tryd.prog (fun i => 0)
noncomputable def k39_0 : Code := (bodyOf Tryd.f39)
noncomputable def k39_1 : Code := (c2 k39_0)
noncomputable def k39_2 : Code := (c2 k39_1)
noncomputable def k39_3 : Code := (c2 k39_2)
theorem s39_3 {R : VP} {Q : EQ} (hR : ∀ e w, (R (e 2) w) → Q .ret e w) (e : Env) (w : World) (h : m39_3 R (e 2) w) : W39 k39_3 Q e w := by
  unfold m39_3 at h
  exact reA (hR _ _ h)
theorem s39_2 {R : VP} {Q : EQ} (hR : ∀ e w, (R (e 2) w) → Q .ret e w) (e : Env) (w : World) (h : m39_2 R w) : W39 k39_2 Q e w := by
  unfold m39_2 at h
  refine seA ?_
  have hN : ∀ e w, (m39_3 R (e 2) w) → (thenE (W39 k39_3 Q) Q) .normal e w := fun e w h => then_N (s39_3 (R := R) (Q := Q) hR e w h)
  exact rgA 2 (fun e w => m39_3 R (e 2) w) h hN
theorem s39_1 {R : VP} {Q : EQ} (hR : ∀ e w, (R (e 2) w) → Q .ret e w) (e : Env) (w : World) (h : m39_1 R (e 0) w) : W39 k39_1 Q e w := by
  unfold m39_1 at h
  refine seA ?_
  have hN : ∀ e w, (m39_2 R w) → (thenE (W39 k39_2 Q) Q) .normal e w := fun e w h => then_N (s39_2 (R := R) (Q := Q) hR e w h)
  exact tree_ok 1 17 [false, false, false, false, false, false, false, false, false, false, false, false, false, false, false, false, false] (.take 0 [true, false, false, false, false, false, false, false, false, false, false, false, false, false, false, false, false] (.take 1 [true, true, false, false, false, false, false, false, false, false, false, false, false, false, false, false, false] (.take 2 [true, true, true, false, false, false, false, false, false, false, false, false, false, false, false, false, false] (.take 3 [true, true, true, true, false, false, false, false, false, false, false, false, false, false, false, false, false] (.take 4 [true, true, true, true, true, false, false, false, false, false, false, false, false, false, false, false, false] (.take 6 [true, true, true, true, true, false, true, false, false, false, false, false, false, false, false, false, false] (.take 7 [true, true, true, true, true, false, true, true, false, false, false, false, false, false, false, false, false] (.take 8 [true, true, true, true, true, false, true, true, true, false, false, false, false, false, false, false, false] (.alt 5 [true, true, true, true, true, true, true, true, true, false, false, false, false, false, false, false, false] (.alt 9 [true, true, true, true, true, true, true, true, true, true, false, false, false, false, false, false, false] (.take 10 [true, true, true, true, true, true, true, true, true, true, true, false, false, false, false, false, false] (.take 11 [true, true, true, true, true, true, true, true, true, true, true, true, false, false, false, false, false] (.take 12 [true, true, true, true, true, true, true, true, true, true, true, true, true, false, false, false, false] (.alt 13 [true, true, true, true, true, true, true, true, true, true, true, true, true, true, false, false, false] (.take 14 [true, true, true, true, true, true, true, true, true, true, true, true, true, true, true, false, false] (.take 15 [true, true, true, true, true, true, true, true, true, true, true, true, true, true, true, true, false] (.alt 16 [true, true, true, true, true, true, true, true, true, true, true, true, true, true, true, true, true] .done .stop))) .stop)))) .stop) (.alt 9 [true, true, true, true, true, false, true, true, true, true, false, false, false, false, false, false, false] (.alt 5 [true, true, true, true, true, true, true, true, true, true, false, false, false, false, false, false, false] (.take 10 [true, true, true, true, true, true, true, true, true, true, true, false, false, false, false, false, false] (.take 11 [true, true, true, true, true, true, true, true, true, true, true, true, false, false, false, false, false] (.take 12 [true, true, true, true, true, true, true, true, true, true, true, true, true, false, false, false, false] (.alt 13 [true, true, true, true, true, true, true, true, true, true, true, true, true, true, false, false, false] (.take 14 [true, true, true, true, true, true, true, true, true, true, true, true, true, true, true, false, false] (.take 15 [true, true, true, true, true, true, true, true, true, true, true, true, true, true, true, true, false] (.alt 16 [true, true, true, true, true, true, true, true, true, true, true, true, true, true, true, true, true] .done .stop))) .stop)))) .stop) .stop)))))))))) (fun e w => m39_2 R w) (by kernel_rfl) (by kernel_rfl) (by kernel_rfl) (by kernel_rfl) (by kernel_rfl) (by kernel_rfl) (kcast (by kernel_rfl) h) hN (by kernel_rfl)
theorem s39_0 {R : VP} {Q : EQ} (hR : ∀ e w, (R (e 2) w) → Q .ret e w) (e : Env) (w : World) (h : m39_0 R (e 0) w) : W39 k39_0 Q e w := by
  unfold m39_0 at h
  refine seA ?_
  have hN : ∀ e w, (m39_1 R (e 0) w) → (thenE (W39 k39_1 Q) Q) .normal e w := fun e w h => then_N (s39_1 (R := R) (Q := Q) hR e w h)
  exact rgA 0 (fun e w => m39_1 R (e 0) w) h hN
abbrev m39 (R : VP) (f0 : Value) (w : World) : Prop := m39_0 R f0 w
theorem s39 (f0 : Value) {R : VP} {w : World} (h : m39 R f0 w) :
    Calls Tryd.prog 39 #[f0] w fun e w' => ∃ v, e = .returned v ∧ R v w' :=
  calls_of_cwp (st := (fun i => 0)) (c := k39_0) (by kernel_rfl) Tryd.func39 (by kernel_rfl) (Nat.le_of_ble_eq_true (by kernel_rfl)) (by kernel_rfl)
    (s39_0 (R := R) (Q := endE Tryd.prog Tryd.f39 R) (fun e w h => kcast (by kernel_rfl) h) (argsE #[f0]) w (kcast (by kernel_rfl) h))
/-! ### (*headgate/disk.Disk).Truncate$1 -/
def m40_5 (R : VP) (t4 : Value) (w : World) : Prop :=
  R t4 w
def m40_4 (R : VP) (w : World) : Prop :=
  m40_5 R (Value.int IntKind.i64 0) w
def m40_3 (R : VP) (f0 t2 k5 : Value) (w : World) : Prop :=
  anyDraw w fun w =>
  heldP w fun J =>
  nilCheckP f0 fun t29 =>
  valJ Tryd.prog J (Instr.fieldAt 65 t29 0) fun t30 =>
  nilCheckP f0 fun t35 =>
  valJ Tryd.prog J (Instr.fieldAt 65 t35 1) fun t36 =>
  valJ Tryd.prog J (Instr.loadAt 3 t2) fun t38 =>
  valJ Tryd.prog J (binS BinOp.sub 3 (Operand.tmp 38) (Operand.tmp 39) t38 k5) fun t40 =>
  (valP Tryd.prog (Instr.loadAt 9 t30) w fun t31 w =>
  stayP J w
  (valJ Tryd.prog J (Instr.sliceAt 9 t31 none (some k5) none) fun t33 =>
  valP Tryd.prog (Instr.loadAt 9 t36) w fun t37 w =>
  stayP J w
  (valJ Tryd.prog J (Instr.sliceAt 9 t37 none (some t40) none) fun t41 =>
  nilCheckP f0 fun t42 =>
  valJ Tryd.prog J (Instr.fieldAt 65 t42 0) fun t43 =>
  unitP Tryd.prog (Instr.storeAt 9 t43 t33) w fun _ w =>
  stayP J w
  (nilCheckP f0 fun t44 =>
  valJ Tryd.prog J (Instr.fieldAt 65 t44 1) fun t45 =>
  unitP Tryd.prog (Instr.storeAt 9 t45 t41) w fun _ w =>
  stayP J w
  (m40_4 R w))))) ∧ (valP Tryd.prog (Instr.loadAt 9 t36) w fun t37 w =>
  stayP J w
  (valJ Tryd.prog J (Instr.sliceAt 9 t37 none (some t40) none) fun t41 =>
  valP Tryd.prog (Instr.loadAt 9 t30) w fun t31 w =>
  stayP J w
  (valJ Tryd.prog J (Instr.sliceAt 9 t31 none (some k5) none) fun t33 =>
  nilCheckP f0 fun t42 =>
  valJ Tryd.prog J (Instr.fieldAt 65 t42 0) fun t43 =>
  unitP Tryd.prog (Instr.storeAt 9 t43 t33) w fun _ w =>
  stayP J w
  (nilCheckP f0 fun t44 =>
  valJ Tryd.prog J (Instr.fieldAt 65 t44 1) fun t45 =>
  unitP Tryd.prog (Instr.storeAt 9 t45 t41) w fun _ w =>
  stayP J w
  (m40_4 R w)))))
def m40_2 (R : VP) (f0 t2 : Value) (w : World) : Prop :=
  valQ Tryd.prog (Instr.loadAt 3 t2) w fun t19 =>
  nilCheckP f0 fun t21 =>
  valQ Tryd.prog (Instr.fieldAt 65 t21 0) w fun t22 =>
  valQ Tryd.prog (Instr.loadAt 9 t22) w fun t23 =>
  builtinQ Tryd.prog Builtin.len #[9] 3 #[false] #[t23] w fun t24 =>
  builtinQ Tryd.prog Builtin.min #[3, 3] 3 #[false, false] #[t19, t24] w fun t25 =>
  anyDraw w fun w =>
  m40_3 R f0 t2 t25 w
def m40_1 (R : VP) (f0 t1 t2 : Value) (w : World) : Prop :=
  anyDraw w fun w =>
  heldP w fun J =>
  valJ Tryd.prog J (Instr.loadAt 23 t1) fun t6 =>
  nilCheckP t6 fun t7 =>
  valJ Tryd.prog J (Instr.fieldAt 61 t7 1) fun t8 =>
  valJ Tryd.prog J (Instr.loadAt 3 t2) fun t13 =>
  (valP Tryd.prog (Instr.loadAt 3 t8) w fun t9 w =>
  stayP J w
  (callP Tryd.prog (fnV 33) #[f0] w fun t11 w =>
  stayP J w
  (callP Tryd.prog (fnV 32) #[t11] w fun t12 w =>
  stayP J w
  (callP Tryd.prog (fnV 32) #[t13] w fun t14 w =>
  stayP J w
  (valJ Tryd.prog J (binS BinOp.sub 3 (Operand.tmp 12) (Operand.tmp 14) t12 t14) fun t15 =>
  valJ Tryd.prog J (binS BinOp.add 3 (Operand.tmp 9) (Operand.tmp 15) t9 t15) fun t16 =>
  nilCheckP t6 fun t17 =>
  valJ Tryd.prog J (Instr.fieldAt 61 t17 1) fun t18 =>
  unitP Tryd.prog (Instr.storeAt 3 t18 t16) w fun _ w =>
  stayP J w
  (m40_2 R f0 t2 w)))))) ∧ (callP Tryd.prog (fnV 33) #[f0] w fun t11 w =>
  stayP J w
  ((valP Tryd.prog (Instr.loadAt 3 t8) w fun t9 w =>
  stayP J w
  (callP Tryd.prog (fnV 32) #[t11] w fun t12 w =>
  stayP J w
  (callP Tryd.prog (fnV 32) #[t13] w fun t14 w =>
  stayP J w
  (valJ Tryd.prog J (binS BinOp.sub 3 (Operand.tmp 12) (Operand.tmp 14) t12 t14) fun t15 =>
  valJ Tryd.prog J (binS BinOp.add 3 (Operand.tmp 9) (Operand.tmp 15) t9 t15) fun t16 =>
  nilCheckP t6 fun t17 =>
  valJ Tryd.prog J (Instr.fieldAt 61 t17 1) fun t18 =>
  unitP Tryd.prog (Instr.storeAt 3 t18 t16) w fun _ w =>
  stayP J w
  (m40_2 R f0 t2 w))))) ∧ (callP Tryd.prog (fnV 32) #[t11] w fun t12 w =>
  stayP J w
  ((valP Tryd.prog (Instr.loadAt 3 t8) w fun t9 w =>
  stayP J w
  (callP Tryd.prog (fnV 32) #[t13] w fun t14 w =>
  stayP J w
  (valJ Tryd.prog J (binS BinOp.sub 3 (Operand.tmp 12) (Operand.tmp 14) t12 t14) fun t15 =>
  valJ Tryd.prog J (binS BinOp.add 3 (Operand.tmp 9) (Operand.tmp 15) t9 t15) fun t16 =>
  nilCheckP t6 fun t17 =>
  valJ Tryd.prog J (Instr.fieldAt 61 t17 1) fun t18 =>
  unitP Tryd.prog (Instr.storeAt 3 t18 t16) w fun _ w =>
  stayP J w
  (m40_2 R f0 t2 w)))) ∧ (callP Tryd.prog (fnV 32) #[t13] w fun t14 w =>
  stayP J w
  (valJ Tryd.prog J (binS BinOp.sub 3 (Operand.tmp 12) (Operand.tmp 14) t12 t14) fun t15 =>
  valP Tryd.prog (Instr.loadAt 3 t8) w fun t9 w =>
  stayP J w
  (valJ Tryd.prog J (binS BinOp.add 3 (Operand.tmp 9) (Operand.tmp 15) t9 t15) fun t16 =>
  nilCheckP t6 fun t17 =>
  valJ Tryd.prog J (Instr.fieldAt 61 t17 1) fun t18 =>
  unitP Tryd.prog (Instr.storeAt 3 t18 t16) w fun _ w =>
  stayP J w
  (m40_2 R f0 t2 w))))))))
def m40_0 (R : VP) (f0 t1 t2 : Value) (w : World) : Prop :=
  m40_1 R f0 t1 t2 w
abbrev W40 := cwp Tryd.prog (fun i => cond (Nat.beq i 2) 1 (0))
noncomputable def k40_0 : Code := (bodyOf Tryd.f40)
noncomputable def k40_1 : Code := (c2 k40_0)
noncomputable def k40_2 : Code := (c2 k40_1)
noncomputable def k40_3 : Code := (c2 k40_2)
noncomputable def k40_4 : Code := (c2 k40_3)
noncomputable def k40_5 : Code := (c2 k40_4)
theorem s40_5 {R : VP} {Q : EQ} (hR : ∀ e w, (R (e 4) w) → Q .ret e w) (e : Env) (w : World) (h : m40_5 R (e 4) w) : W40 k40_5 Q e w := by
  unfold m40_5 at h
  exact reA (hR _ _ h)
theorem s40_4 {R : VP} {Q : EQ} (hR : ∀ e w, (R (e 4) w) → Q .ret e w) (e : Env) (w : World) (h : m40_4 R w) : W40 k40_4 Q e w := by
  unfold m40_4 at h
  refine seA ?_
  have hN : ∀ e w, (m40_5 R (e 4) w) → (thenE (W40 k40_5 Q) Q) .normal e w := fun e w h => then_N (s40_5 (R := R) (Q := Q) hR e w h)
  exact rgA 4 (fun e w => m40_5 R (e 4) w) h hN
theorem s40_3 {R : VP} {Q : EQ} (hR : ∀ e w, (R (e 4) w) → Q .ret e w) (e : Env) (w : World) (h : m40_3 R (e 0) (e 2) (e 5) w) : W40 k40_3 Q e w := by
  unfold m40_3 at h
  refine seA ?_
  have hN : ∀ e w, (m40_4 R w) → (thenE (W40 k40_4 Q) Q) .normal e w := fun e w h => then_N (s40_4 (R := R) (Q := Q) hR e w h)
  exact treeJ_ok 3 22 [false, false, false, false, false, false, false, false, false, false, false, false, false, false, false, false, false, false, false, false, false, false] (.take 0 [true, false, false, false, false, false, false, false, false, false, false, false, false, false, false, false, false, false, false, false, false, false] (.take 1 [true, true, false, false, false, false, false, false, false, false, false, false, false, false, false, false, false, false, false, false, false, false] (.take 2 [true, true, true, false, false, false, false, false, false, false, false, false, false, false, false, false, false, false, false, false, false, false] (.take 3 [true, true, true, true, false, false, false, false, false, false, false, false, false, false, false, false, false, false, false, false, false, false] (.take 4 [true, true, true, true, true, false, false, false, false, false, false, false, false, false, false, false, false, false, false, false, false, false] (.take 6 [true, true, true, true, true, false, true, false, false, false, false, false, false, false, false, false, false, false, false, false, false, false] (.take 8 [true, true, true, true, true, false, true, false, true, false, false, false, false, false, false, false, false, false, false, false, false, false] (.take 9 [true, true, true, true, true, false, true, false, true, true, false, false, false, false, false, false, false, false, false, false, false, false] (.take 10 [true, true, true, true, true, false, true, false, true, true, true, false, false, false, false, false, false, false, false, false, false, false] (.take 12 [true, true, true, true, true, false, true, false, true, true, true, false, true, false, false, false, false, false, false, false, false, false] (.take 13 [true, true, true, true, true, false, true, false, true, true, true, false, true, true, false, false, false, false, false, false, false, false] (.take 14 [true, true, true, true, true, false, true, false, true, true, true, false, true, true, true, false, false, false, false, false, false, false] (.alt 5 [true, true, true, true, true, true, true, false, true, true, true, false, true, true, true, false, false, false, false, false, false, false] (.take 7 [true, true, true, true, true, true, true, true, true, true, true, false, true, true, true, false, false, false, false, false, false, false] (.alt 11 [true, true, true, true, true, true, true, true, true, true, true, true, true, true, true, false, false, false, false, false, false, false] (.take 15 [true, true, true, true, true, true, true, true, true, true, true, true, true, true, true, true, false, false, false, false, false, false] (.take 16 [true, true, true, true, true, true, true, true, true, true, true, true, true, true, true, true, true, false, false, false, false, false] (.take 17 [true, true, true, true, true, true, true, true, true, true, true, true, true, true, true, true, true, true, false, false, false, false] (.alt 18 [true, true, true, true, true, true, true, true, true, true, true, true, true, true, true, true, true, true, true, false, false, false] (.take 19 [true, true, true, true, true, true, true, true, true, true, true, true, true, true, true, true, true, true, true, true, false, false] (.take 20 [true, true, true, true, true, true, true, true, true, true, true, true, true, true, true, true, true, true, true, true, true, false] (.alt 21 [true, true, true, true, true, true, true, true, true, true, true, true, true, true, true, true, true, true, true, true, true, true] .done .stop))) .stop)))) .stop)) (.alt 11 [true, true, true, true, true, false, true, false, true, true, true, true, true, true, true, false, false, false, false, false, false, false] (.take 15 [true, true, true, true, true, false, true, false, true, true, true, true, true, true, true, true, false, false, false, false, false, false] (.alt 5 [true, true, true, true, true, true, true, false, true, true, true, true, true, true, true, true, false, false, false, false, false, false] (.take 7 [true, true, true, true, true, true, true, true, true, true, true, true, true, true, true, true, false, false, false, false, false, false] (.take 16 [true, true, true, true, true, true, true, true, true, true, true, true, true, true, true, true, true, false, false, false, false, false] (.take 17 [true, true, true, true, true, true, true, true, true, true, true, true, true, true, true, true, true, true, false, false, false, false] (.alt 18 [true, true, true, true, true, true, true, true, true, true, true, true, true, true, true, true, true, true, true, false, false, false] (.take 19 [true, true, true, true, true, true, true, true, true, true, true, true, true, true, true, true, true, true, true, true, false, false] (.take 20 [true, true, true, true, true, true, true, true, true, true, true, true, true, true, true, true, true, true, true, true, true, false] (.alt 21 [true, true, true, true, true, true, true, true, true, true, true, true, true, true, true, true, true, true, true, true, true, true] .done .stop))) .stop)))) .stop)) .stop)))))))))))))) (fun e w => m40_4 R w) (by kernel_rfl) (by kernel_rfl) (by kernel_rfl) (by kernel_rfl) (by kernel_rfl) (by kernel_rfl) (kcast (by kernel_rfl) h) hN (by kernel_rfl)
theorem s40_2 {R : VP} {Q : EQ} (hR : ∀ e w, (R (e 4) w) → Q .ret e w) (e : Env) (w : World) (h : m40_2 R (e 0) (e 2) w) : W40 k40_2 Q e w := by
  unfold m40_2 at h
  refine seA ?_
  have hN : ∀ e w, (m40_3 R (e 0) (e 2) (e 5) w) → (thenE (W40 k40_3 Q) Q) .normal e w := fun e w h => then_N (s40_3 (R := R) (Q := Q) hR e w h)
  exact quA 2 (fun e w => m40_3 R (e 0) (e 2) (e 5) w) h hN
theorem s40_1 {R : VP} {Q : EQ} (hR : ∀ e w, (R (e 4) w) → Q .ret e w) (e : Env) (w : World) (h : m40_1 R (e 0) (e 1) (e 2) w) : W40 k40_1 Q e w := by
  unfold m40_1 at h
  refine seA ?_
  have hN : ∀ e w, (m40_2 R (e 0) (e 2) w) → (thenE (W40 k40_2 Q) Q) .normal e w := fun e w h => then_N (s40_2 (R := R) (Q := Q) hR e w h)
  exact treeJ_ok 1 14 [false, false, false, false, false, false, false, false, false, false, false, false, false, false] (.take 0 [true, false, false, false, false, false, false, false, false, false, false, false, false, false] (.take 1 [true, true, false, false, false, false, false, false, false, false, false, false, false, false] (.take 2 [true, true, true, false, false, false, false, false, false, false, false, false, false, false] (.take 4 [true, true, true, false, true, false, false, false, false, false, false, false, false, false] (.take 7 [true, true, true, false, true, false, false, true, false, false, false, false, false, false] (.alt 3 [true, true, true, true, true, false, false, true, false, false, false, false, false, false] (.alt 5 [true, true, true, true, true, true, false, true, false, false, false, false, false, false] (.alt 6 [true, true, true, true, true, true, true, true, false, false, false, false, false, false] (.alt 8 [true, true, true, true, true, true, true, true, true, false, false, false, false, false] (.take 9 [true, true, true, true, true, true, true, true, true, true, false, false, false, false] (.take 10 [true, true, true, true, true, true, true, true, true, true, true, false, false, false] (.take 11 [true, true, true, true, true, true, true, true, true, true, true, true, false, false] (.take 12 [true, true, true, true, true, true, true, true, true, true, true, true, true, false] (.alt 13 [true, true, true, true, true, true, true, true, true, true, true, true, true, true] .done .stop))))) .stop) .stop) .stop) (.alt 5 [true, true, true, false, true, true, false, true, false, false, false, false, false, false] (.alt 3 [true, true, true, true, true, true, false, true, false, false, false, false, false, false] (.alt 6 [true, true, true, true, true, true, true, true, false, false, false, false, false, false] (.alt 8 [true, true, true, true, true, true, true, true, true, false, false, false, false, false] (.take 9 [true, true, true, true, true, true, true, true, true, true, false, false, false, false] (.take 10 [true, true, true, true, true, true, true, true, true, true, true, false, false, false] (.take 11 [true, true, true, true, true, true, true, true, true, true, true, true, false, false] (.take 12 [true, true, true, true, true, true, true, true, true, true, true, true, true, false] (.alt 13 [true, true, true, true, true, true, true, true, true, true, true, true, true, true] .done .stop))))) .stop) .stop) (.alt 6 [true, true, true, false, true, true, true, true, false, false, false, false, false, false] (.alt 3 [true, true, true, true, true, true, true, true, false, false, false, false, false, false] (.alt 8 [true, true, true, true, true, true, true, true, true, false, false, false, false, false] (.take 9 [true, true, true, true, true, true, true, true, true, true, false, false, false, false] (.take 10 [true, true, true, true, true, true, true, true, true, true, true, false, false, false] (.take 11 [true, true, true, true, true, true, true, true, true, true, true, true, false, false] (.take 12 [true, true, true, true, true, true, true, true, true, true, true, true, true, false] (.alt 13 [true, true, true, true, true, true, true, true, true, true, true, true, true, true] .done .stop))))) .stop) (.alt 8 [true, true, true, false, true, true, true, true, true, false, false, false, false, false] (.take 9 [true, true, true, false, true, true, true, true, true, true, false, false, false, false] (.alt 3 [true, true, true, true, true, true, true, true, true, true, false, false, false, false] (.take 10 [true, true, true, true, true, true, true, true, true, true, true, false, false, false] (.take 11 [true, true, true, true, true, true, true, true, true, true, true, true, false, false] (.take 12 [true, true, true, true, true, true, true, true, true, true, true, true, true, false] (.alt 13 [true, true, true, true, true, true, true, true, true, true, true, true, true, true] .done .stop)))) .stop)) .stop)) .stop)) .stop))))))) (fun e w => m40_2 R (e 0) (e 2) w) (by kernel_rfl) (by kernel_rfl) (by kernel_rfl) (by kernel_rfl) (by kernel_rfl) (by kernel_rfl) (kcast (by kernel_rfl) h) hN (by kernel_rfl)
theorem s40_0 {R : VP} {Q : EQ} (hR : ∀ e w, (R (e 4) w) → Q .ret e w) (e : Env) (w : World) (h : m40_0 R (e 0) (e 1) (e 2) w) : W40 k40_0 Q e w := by
  unfold m40_0 at h
  refine seA ?_
  have hN : ∀ e w, (m40_1 R (e 0) (e 1) (e 2) w) → (thenE (W40 k40_1 Q) Q) .normal e w := fun e w h => then_N (s40_1 (R := R) (Q := Q) hR e w h)
  exact rgA 0 (fun e w => m40_1 R (e 0) (e 1) (e 2) w) h hN
abbrev m40 (R : VP) (f0 t1 t2 : Value) (w : World) : Prop := m40_0 R f0 t1 t2 w
theorem s40 (f0 t1 t2 : Value) {R : VP} {w : World} (h : m40 R f0 t1 t2 w) :
    Calls Tryd.prog 40 #[f0, t1, t2] w fun e w' => ∃ v, e = .returned v ∧ R v w' :=
  calls_of_cwp (st := (fun i => cond (Nat.beq i 2) 1 (0))) (c := k40_0) (by kernel_rfl) Tryd.func40 (by kernel_rfl) (Nat.le_of_ble_eq_true (by kernel_rfl)) (by kernel_rfl)
    (s40_0 (R := R) (Q := endE Tryd.prog Tryd.f40 R) (fun e w h => kcast (by kernel_rfl) h) (argsE #[f0, t1, t2]) w (kcast (by kernel_rfl) h))
/-! ### (*headgate/disk.Disk).Remove$1 -/
def m41_4 (R : VP) (t4 : Value) (w : World) : Prop :=
  R t4 w
def m41_3 (R : VP) (w : World) : Prop :=
  m41_4 R (Value.int IntKind.i64 0) w
def m41_2 (R : VP) (t1 t2 : Value) (w : World) : Prop :=
  anyDraw w fun w =>
  valS Tryd.prog (Instr.loadAt 23 t1) w fun t15 =>
  nilCheckP t15 fun t16 =>
  valS Tryd.prog (Instr.fieldAt 61 t16 0) w fun t17 =>
  valS Tryd.prog (Instr.loadAt 59 t17) w fun t18 =>
  valS Tryd.prog (Instr.loadAt 9 t2) w fun t19 =>
  builtinP Tryd.prog Builtin.delete #[59, 9] 0 #[false, false] #[t18, t19] w fun _ w =>
  m41_3 R w
def m41_1 (R : VP) (f0 t1 t2 : Value) (w : World) : Prop :=
  anyDraw w fun w =>
  heldP w fun J =>
  valJ Tryd.prog J (Instr.loadAt 23 t1) fun t5 =>
  nilCheckP t5 fun t6 =>
  valJ Tryd.prog J (Instr.fieldAt 61 t6 1) fun t7 =>
  (valP Tryd.prog (Instr.loadAt 3 t7) w fun t8 w =>
  stayP J w
  (callP Tryd.prog (fnV 33) #[f0] w fun t10 w =>
  stayP J w
  (callP Tryd.prog (fnV 32) #[t10] w fun t11 w =>
  stayP J w
  (valJ Tryd.prog J (binS BinOp.add 3 (Operand.tmp 8) (Operand.tmp 11) t8 t11) fun t12 =>
  nilCheckP t5 fun t13 =>
  valJ Tryd.prog J (Instr.fieldAt 61 t13 1) fun t14 =>
  unitP Tryd.prog (Instr.storeAt 3 t14 t12) w fun _ w =>
  stayP J w
  (m41_2 R t1 t2 w))))) ∧ (callP Tryd.prog (fnV 33) #[f0] w fun t10 w =>
  stayP J w
  ((valP Tryd.prog (Instr.loadAt 3 t7) w fun t8 w =>
  stayP J w
  (callP Tryd.prog (fnV 32) #[t10] w fun t11 w =>
  stayP J w
  (valJ Tryd.prog J (binS BinOp.add 3 (Operand.tmp 8) (Operand.tmp 11) t8 t11) fun t12 =>
  nilCheckP t5 fun t13 =>
  valJ Tryd.prog J (Instr.fieldAt 61 t13 1) fun t14 =>
  unitP Tryd.prog (Instr.storeAt 3 t14 t12) w fun _ w =>
  stayP J w
  (m41_2 R t1 t2 w)))) ∧ (callP Tryd.prog (fnV 32) #[t10] w fun t11 w =>
  stayP J w
  (valP Tryd.prog (Instr.loadAt 3 t7) w fun t8 w =>
  stayP J w
  (valJ Tryd.prog J (binS BinOp.add 3 (Operand.tmp 8) (Operand.tmp 11) t8 t11) fun t12 =>
  nilCheckP t5 fun t13 =>
  valJ Tryd.prog J (Instr.fieldAt 61 t13 1) fun t14 =>
  unitP Tryd.prog (Instr.storeAt 3 t14 t12) w fun _ w =>
  stayP J w
  (m41_2 R t1 t2 w))))))
def m41_0 (R : VP) (f0 t1 t2 : Value) (w : World) : Prop :=
  m41_1 R f0 t1 t2 w
abbrev W41 := cwp Tryd.prog (fun i => cond (Nat.beq i 2) 7 (0))
noncomputable def k41_0 : Code := (bodyOf Tryd.f41)
noncomputable def k41_1 : Code := (c2 k41_0)
noncomputable def k41_2 : Code := (c2 k41_1)
noncomputable def k41_3 : Code := (c2 k41_2)
noncomputable def k41_4 : Code := (c2 k41_3)
theorem s41_4 {R : VP} {Q : EQ} (hR : ∀ e w, (R (e 4) w) → Q .ret e w) (e : Env) (w : World) (h : m41_4 R (e 4) w) : W41 k41_4 Q e w := by
  unfold m41_4 at h
  exact reA (hR _ _ h)
theorem s41_3 {R : VP} {Q : EQ} (hR : ∀ e w, (R (e 4) w) → Q .ret e w) (e : Env) (w : World) (h : m41_3 R w) : W41 k41_3 Q e w := by
  unfold m41_3 at h
  refine seA ?_
  have hN : ∀ e w, (m41_4 R (e 4) w) → (thenE (W41 k41_4 Q) Q) .normal e w := fun e w h => then_N (s41_4 (R := R) (Q := Q) hR e w h)
  exact rgA 3 (fun e w => m41_4 R (e 4) w) h hN
theorem s41_2 {R : VP} {Q : EQ} (hR : ∀ e w, (R (e 4) w) → Q .ret e w) (e : Env) (w : World) (h : m41_2 R (e 1) (e 2) w) : W41 k41_2 Q e w := by
  unfold m41_2 at h
  refine seA ?_
  have hN : ∀ e w, (m41_3 R w) → (thenE (W41 k41_3 Q) Q) .normal e w := fun e w h => then_N (s41_3 (R := R) (Q := Q) hR e w h)
  exact taA 2 5 (fun e w => m41_3 R w) h hN
theorem s41_1 {R : VP} {Q : EQ} (hR : ∀ e w, (R (e 4) w) → Q .ret e w) (e : Env) (w : World) (h : m41_1 R (e 0) (e 1) (e 2) w) : W41 k41_1 Q e w := by
  unfold m41_1 at h
  refine seA ?_
  have hN : ∀ e w, (m41_2 R (e 1) (e 2) w) → (thenE (W41 k41_2 Q) Q) .normal e w := fun e w h => then_N (s41_2 (R := R) (Q := Q) hR e w h)
  exact treeJ_ok 1 11 [false, false, false, false, false, false, false, false, false, false, false] (.take 0 [true, false, false, false, false, false, false, false, false, false, false] (.take 1 [true, true, false, false, false, false, false, false, false, false, false] (.take 2 [true, true, true, false, false, false, false, false, false, false, false] (.take 4 [true, true, true, false, true, false, false, false, false, false, false] (.alt 3 [true, true, true, true, true, false, false, false, false, false, false] (.alt 5 [true, true, true, true, true, true, false, false, false, false, false] (.alt 6 [true, true, true, true, true, true, true, false, false, false, false] (.take 7 [true, true, true, true, true, true, true, true, false, false, false] (.take 8 [true, true, true, true, true, true, true, true, true, false, false] (.take 9 [true, true, true, true, true, true, true, true, true, true, false] (.alt 10 [true, true, true, true, true, true, true, true, true, true, true] .done .stop)))) .stop) .stop) (.alt 5 [true, true, true, false, true, true, false, false, false, false, false] (.alt 3 [true, true, true, true, true, true, false, false, false, false, false] (.alt 6 [true, true, true, true, true, true, true, false, false, false, false] (.take 7 [true, true, true, true, true, true, true, true, false, false, false] (.take 8 [true, true, true, true, true, true, true, true, true, false, false] (.take 9 [true, true, true, true, true, true, true, true, true, true, false] (.alt 10 [true, true, true, true, true, true, true, true, true, true, true] .done .stop)))) .stop) (.alt 6 [true, true, true, false, true, true, true, false, false, false, false] (.alt 3 [true, true, true, true, true, true, true, false, false, false, false] (.take 7 [true, true, true, true, true, true, true, true, false, false, false] (.take 8 [true, true, true, true, true, true, true, true, true, false, false] (.take 9 [true, true, true, true, true, true, true, true, true, true, false] (.alt 10 [true, true, true, true, true, true, true, true, true, true, true] .done .stop)))) .stop) .stop)) .stop)))))) (fun e w => m41_2 R (e 1) (e 2) w) (by kernel_rfl) (by kernel_rfl) (by kernel_rfl) (by kernel_rfl) (by kernel_rfl) (by kernel_rfl) (kcast (by kernel_rfl) h) hN (by kernel_rfl)
theorem s41_0 {R : VP} {Q : EQ} (hR : ∀ e w, (R (e 4) w) → Q .ret e w) (e : Env) (w : World) (h : m41_0 R (e 0) (e 1) (e 2) w) : W41 k41_0 Q e w := by
  unfold m41_0 at h
  refine seA ?_
  have hN : ∀ e w, (m41_1 R (e 0) (e 1) (e 2) w) → (thenE (W41 k41_1 Q) Q) .normal e w := fun e w h => then_N (s41_1 (R := R) (Q := Q) hR e w h)
  exact rgA 0 (fun e w => m41_1 R (e 0) (e 1) (e 2) w) h hN
abbrev m41 (R : VP) (f0 t1 t2 : Value) (w : World) : Prop := m41_0 R f0 t1 t2 w
theorem s41 (f0 t1 t2 : Value) {R : VP} {w : World} (h : m41 R f0 t1 t2 w) :
    Calls Tryd.prog 41 #[f0, t1, t2] w fun e w' => ∃ v, e = .returned v ∧ R v w' :=
  calls_of_cwp (st := (fun i => cond (Nat.beq i 2) 7 (0))) (c := k41_0) (by kernel_rfl) Tryd.func41 (by kernel_rfl) (Nat.le_of_ble_eq_true (by kernel_rfl)) (by kernel_rfl)
    (s41_0 (R := R) (Q := endE Tryd.prog Tryd.f41 R) (fun e w h => kcast (by kernel_rfl) h) (argsE #[f0, t1, t2]) w (kcast (by kernel_rfl) h))
/-! ### (*headgate/disk.Disk).Sync -/
def m28_2 (R : VP) (t4 : Value) (w : World) : Prop :=
  R t4 w
def m28_1 (R : VP) (d0 name1 : Value) (w : World) : Prop :=
  callP Tryd.prog (fnV 37) #[d0, name1, (fnV 39)] w fun t7 w =>
  m28_2 R t7 w
def m28_0 (R : VP) (d0 name1 : Value) (w : World) : Prop :=
  m28_1 R d0 name1 w
abbrev W28 := cwp Tryd.prog (fun i => 0)
noncomputable def k28_0 : Code := (bodyOf Tryd.f28)
noncomputable def k28_1 : Code := (c2 k28_0)
noncomputable def k28_2 : Code := (c2 k28_1)
theorem s28_2 {R : VP} {Q : EQ} (hR : ∀ e w, (R (e 4) w) → Q .ret e w) (e : Env) (w : World) (h : m28_2 R (e 4) w) : W28 k28_2 Q e w := by
  unfold m28_2 at h
  exact reA (hR _ _ h)
theorem s28_1 {R : VP} {Q : EQ} (hR : ∀ e w, (R (e 4) w) → Q .ret e w) (e : Env) (w : World) (h : m28_1 R (e 0) (e 1) w) : W28 k28_1 Q e w := by
  unfold m28_1 at h
  refine seA ?_
  have hN : ∀ e w, (m28_2 R (e 4) w) → (thenE (W28 k28_2 Q) Q) .normal e w := fun e w h => then_N (s28_2 (R := R) (Q := Q) hR e w h)
  exact rgA 1 (fun e w => m28_2 R (e 4) w) h hN
theorem s28_0 {R : VP} {Q : EQ} (hR : ∀ e w, (R (e 4) w) → Q .ret e w) (e : Env) (w : World) (h : m28_0 R (e 0) (e 1) w) : W28 k28_0 Q e w := by
  unfold m28_0 at h
  refine seA ?_
  have hN : ∀ e w, (m28_1 R (e 0) (e 1) w) → (thenE (W28 k28_1 Q) Q) .normal e w := fun e w h => then_N (s28_1 (R := R) (Q := Q) hR e w h)
  exact rgA 0 (fun e w => m28_1 R (e 0) (e 1) w) h hN
abbrev m28 (R : VP) (d0 name1 : Value) (w : World) : Prop := m28_0 R d0 name1 w
theorem s28 (d0 name1 : Value) {R : VP} {w : World} (h : m28 R d0 name1 w) :
    Calls Tryd.prog 28 #[d0, name1] w fun e w' => ∃ v, e = .returned v ∧ R v w' :=
  calls_of_cwp (st := (fun i => 0)) (c := k28_0) (by kernel_rfl) Tryd.func28 (by kernel_rfl) (Nat.le_of_ble_eq_true (by kernel_rfl)) (by kernel_rfl)
    (s28_0 (R := R) (Q := endE Tryd.prog Tryd.f28 R) (fun e w h => kcast (by kernel_rfl) h) (argsE #[d0, name1]) w (kcast (by kernel_rfl) h))
/-! ### (*headgate/disk.Disk).Remove -/
def m30_2 (R : VP) (t4 : Value) (w : World) : Prop :=
  R t4 w
def m30_1 (R : VP) (d2 name3 : Value) (w : World) : Prop :=
  valP Tryd.prog (Instr.loadAt 23 d2) w fun t5 w =>
  valP Tryd.prog (Instr.loadAt 9 name3) w fun t6 w =>
  valP Tryd.prog (Instr.makeFunc (Fn.func 41) #[] #[d2, name3]) w fun t7 w =>
  callP Tryd.prog (fnV 37) #[t5, t6, t7] w fun t8 w =>
  m30_2 R t8 w
def m30_0 (R : VP) (d0 name1 : Value) (w : World) : Prop :=
  valP Tryd.prog (Instr.box 23 d0) w fun d2 w =>
  valP Tryd.prog (Instr.box 9 name1) w fun name3 w =>
  m30_1 R d2 name3 w
abbrev W30 := cwp Tryd.prog (fun i => 0)
noncomputable def k30_0 : Code := (bodyOf Tryd.f30)
noncomputable def k30_1 : Code := (c2 k30_0)
noncomputable def k30_2 : Code := (c2 k30_1)
theorem s30_2 {R : VP} {Q : EQ} (hR : ∀ e w, (R (e 4) w) → Q .ret e w) (e : Env) (w : World) (h : m30_2 R (e 4) w) : W30 k30_2 Q e w := by
  unfold m30_2 at h
  exact reA (hR _ _ h)
theorem s30_1 {R : VP} {Q : EQ} (hR : ∀ e w, (R (e 4) w) → Q .ret e w) (e : Env) (w : World) (h : m30_1 R (e 2) (e 3) w) : W30 k30_1 Q e w := by
  unfold m30_1 at h
  refine seA ?_
  have hN : ∀ e w, (m30_2 R (e 4) w) → (thenE (W30 k30_2 Q) Q) .normal e w := fun e w h => then_N (s30_2 (R := R) (Q := Q) hR e w h)
  exact rgA 1 (fun e w => m30_2 R (e 4) w) h hN
theorem s30_0 {R : VP} {Q : EQ} (hR : ∀ e w, (R (e 4) w) → Q .ret e w) (e : Env) (w : World) (h : m30_0 R (e 0) (e 1) w) : W30 k30_0 Q e w := by
  unfold m30_0 at h
  refine seA ?_
  have hN : ∀ e w, (m30_1 R (e 2) (e 3) w) → (thenE (W30 k30_1 Q) Q) .normal e w := fun e w h => then_N (s30_1 (R := R) (Q := Q) hR e w h)
  exact rgA 0 (fun e w => m30_1 R (e 2) (e 3) w) h hN
abbrev m30 (R : VP) (d0 name1 : Value) (w : World) : Prop := m30_0 R d0 name1 w
theorem s30 (d0 name1 : Value) {R : VP} {w : World} (h : m30 R d0 name1 w) :
    Calls Tryd.prog 30 #[d0, name1] w fun e w' => ∃ v, e = .returned v ∧ R v w' :=
  calls_of_cwp (st := (fun i => 0)) (c := k30_0) (by kernel_rfl) Tryd.func30 (by kernel_rfl) (Nat.le_of_ble_eq_true (by kernel_rfl)) (by kernel_rfl)
    (s30_0 (R := R) (Q := endE Tryd.prog Tryd.f30 R) (fun e w h => kcast (by kernel_rfl) h) (argsE #[d0, name1]) w (kcast (by kernel_rfl) h))
end Go.Proofs.YtcldjjmfpmkldaaDoor.M
