/- What functions' texts ask of their ends, told over values that have names; printed by a program of this work. -/
import Derived.Test.YtcldjjmfpmkldaaDoorFw
import Derived.Test.YtcldjjmfpmkldaaDoorProg
namespace Go.Proofs.YtcldjjmfpmkldaaDoor.M
open Go.Proofs.YtcldjjmfpmkldaaDoor.F
set_option linter.unusedVariables false
set_option maxRecDepth 100000
/-! ### headgate/headgatelaw04.begins -/
def m16_2 (R : VP) (t4 : Value) (w : World) : Prop :=
  R t4 w
def m16_1 (R : VP) (a0 b1 : Value) (w : World) : Prop :=
  builtinP Tryd.prog Builtin.len #[9] 3 #[false] #[a0] w fun t6 w =>
  builtinP Tryd.prog Builtin.len #[9] 3 #[false] #[b1] w fun t8 w =>
  valP Tryd.prog (binS BinOp.leq 3 (Operand.tmp 6) (Operand.tmp 8) t6 t8) w fun t9 w =>
  condP t9
  (builtinP Tryd.prog Builtin.len #[9] 3 #[false] #[a0] w fun t13 w =>
  valP Tryd.prog (Instr.sliceAt 9 b1 none (some t13) none) w fun t14 w =>
  valP Tryd.prog (binS BinOp.eql 9 (Operand.tmp 14) (Operand.tmp 15) t14 a0) w fun t16 w =>
  pickP t9 t16 (Value.bool false) fun t17 =>
  m16_2 R t17 w)
  (pickP t9 undef (Value.bool false) fun t17 =>
  m16_2 R t17 w)
def m16_0 (R : VP) (a0 b1 : Value) (w : World) : Prop :=
  m16_1 R a0 b1 w
abbrev W16 := cwp Tryd.prog (fun i => 0)
noncomputable def k16_0 : Code := (bodyOf Tryd.f16)
noncomputable def k16_1 : Code := (c2 k16_0)
noncomputable def k16_2 : Code := (c2 k16_1)
theorem s16_2 {R : VP} {Q : EQ} (hR : ∀ e w, (R (e 4) w) → Q .ret e w) (e : Env) (w : World) (h : m16_2 R (e 4) w) : W16 k16_2 Q e w := by
  unfold m16_2 at h
  exact reA (hR _ _ h)
theorem s16_1 {R : VP} {Q : EQ} (hR : ∀ e w, (R (e 4) w) → Q .ret e w) (e : Env) (w : World) (h : m16_1 R (e 0) (e 1) w) : W16 k16_1 Q e w := by
  unfold m16_1 at h
  refine seA ?_
  have hN : ∀ e w, (m16_2 R (e 4) w) → (thenE (W16 k16_2 Q) Q) .normal e w := fun e w h => then_N (s16_2 (R := R) (Q := Q) hR e w h)
  exact rgA 1 (fun e w => m16_2 R (e 4) w) h hN
theorem s16_0 {R : VP} {Q : EQ} (hR : ∀ e w, (R (e 4) w) → Q .ret e w) (e : Env) (w : World) (h : m16_0 R (e 0) (e 1) w) : W16 k16_0 Q e w := by
  unfold m16_0 at h
  refine seA ?_
  have hN : ∀ e w, (m16_1 R (e 0) (e 1) w) → (thenE (W16 k16_1 Q) Q) .normal e w := fun e w h => then_N (s16_1 (R := R) (Q := Q) hR e w h)
  exact rgA 0 (fun e w => m16_1 R (e 0) (e 1) w) h hN
abbrev m16 (R : VP) (a0 b1 : Value) (w : World) : Prop := m16_0 R a0 b1 w
theorem s16 (a0 b1 : Value) {R : VP} {w : World} (h : m16 R a0 b1 w) :
    Calls Tryd.prog 16 #[a0, b1] w fun e w' => ∃ v, e = .returned v ∧ R v w' :=
  calls_of_cwp (st := (fun i => 0)) (c := k16_0) (by kernel_rfl) Tryd.func16 (by kernel_rfl) (Nat.le_of_ble_eq_true (by kernel_rfl)) (by kernel_rfl)
    (s16_0 (R := R) (Q := endE Tryd.prog Tryd.f16 R) (fun e w h => kcast (by kernel_rfl) h) (argsE #[a0, b1]) w (kcast (by kernel_rfl) h))
/-! ### headgate/headgatelaw04.awake -/
def m17_11 (R : VP) (t0 : Value) (w : World) : Prop :=
  R t0 w
def m17_9 (R : VP) (t0 : Value) (w : World) : Prop :=
  R t0 w
def m17_8 (R : VP) (d1 f3 free4 g5 s6 h7 : Value) (w : World) : Prop :=
  valP Tryd.prog (binS BinOp.eql 24 (Operand.tmp 33) (Operand.const (Value.int IntKind.i64 0)) f3 (Value.int IntKind.i64 0)) w fun t34 w =>
  condP t34
  (valP Tryd.prog (binS BinOp.eql 3 (Operand.tmp 36) (Operand.const (Value.int IntKind.i64 0)) free4 (Value.int IntKind.i64 0)) w fun t37 w =>
  pickP t34 t37 (Value.bool false) fun t38 =>
  condP t38
  (valP Tryd.prog (binS BinOp.eql 24 (Operand.tmp 40) (Operand.const (Value.int IntKind.i64 5)) g5 (Value.int IntKind.i64 5)) w fun t41 w =>
  pickP t38 t41 (Value.bool false) fun t42 =>
  condP t42
  (valP Tryd.prog (binS BinOp.eql 9 (Operand.tmp 44) (Operand.const (Value.string ⟨#[]⟩)) s6 (Value.string ⟨#[]⟩)) w fun t45 w =>
  pickP t42 t45 (Value.bool false) fun t46 =>
  condP t46
  (valP Tryd.prog (binS BinOp.eql 24 (Operand.tmp 48) (Operand.const (Value.int IntKind.i64 0)) h7 (Value.int IntKind.i64 0)) w fun t49 w =>
  pickP t46 t49 (Value.bool false) fun t50 =>
  condP t50
  (callP Tryd.prog (fnV 19) #[d1] w fun t53 w =>
  valP Tryd.prog (binS BinOp.eql 3 (Operand.tmp 53) (Operand.const (Value.int IntKind.i64 1)) t53 (Value.int IntKind.i64 1)) w fun t54 w =>
  pickP t50 t54 (Value.bool false) fun t55 =>
  m17_9 R t55 w)
  (pickP t50 undef (Value.bool false) fun t55 =>
  m17_9 R t55 w))
  (pickP t46 undef (Value.bool false) fun t50 =>
  pickP t50 undef (Value.bool false) fun t55 =>
  m17_9 R t55 w))
  (pickP t42 undef (Value.bool false) fun t46 =>
  pickP t46 undef (Value.bool false) fun t50 =>
  pickP t50 undef (Value.bool false) fun t55 =>
  m17_9 R t55 w))
  (pickP t38 undef (Value.bool false) fun t42 =>
  pickP t42 undef (Value.bool false) fun t46 =>
  pickP t46 undef (Value.bool false) fun t50 =>
  pickP t50 undef (Value.bool false) fun t55 =>
  m17_9 R t55 w))
  (pickP t34 undef (Value.bool false) fun t38 =>
  pickP t38 undef (Value.bool false) fun t42 =>
  pickP t42 undef (Value.bool false) fun t46 =>
  pickP t46 undef (Value.bool false) fun t50 =>
  pickP t50 undef (Value.bool false) fun t55 =>
  m17_9 R t55 w)
def m17_7 (R : VP) (d1 f3 free4 g5 : Value) (w : World) : Prop :=
  callP Tryd.prog (fnV 15) #[d1, (Value.string ⟨#[97]⟩)] w fun t30 w =>
  valP Tryd.prog (Instr.extract t30 0) w fun t31 w =>
  valP Tryd.prog (Instr.extract t30 1) w fun t32 w =>
  m17_8 R d1 f3 free4 g5 t31 t32 w
def m17_6 (R : VP) (d1 f3 free4 g5 : Value) (w : World) : Prop :=
  callP Tryd.prog (fnV 14) #[d1, (Value.slice none 0 0)] w fun t27 w =>
  m17_7 R d1 f3 free4 g5 w
def m17_5 (R : VP) (d1 f3 free4 : Value) (w : World) : Prop :=
  callP Tryd.prog (fnV 12) #[d1, (Value.string ⟨#[98]⟩), (Value.string ⟨#[]⟩)] w fun t25 w =>
  m17_6 R d1 f3 free4 t25 w
def m17_4 (R : VP) (d1 f3 : Value) (w : World) : Prop :=
  callP Tryd.prog (fnV 19) #[d1] w fun t23 w =>
  m17_5 R d1 f3 t23 w
def m17_3 (R : VP) (d1 : Value) (w : World) : Prop :=
  valP Tryd.prog (Instr.makeSlice 70 (Value.int IntKind.i64 65) (Value.int IntKind.i64 65)) w fun t19 w =>
  valP Tryd.prog (convert 70 9 t19) w fun t20 w =>
  callP Tryd.prog (fnV 12) #[d1, (Value.string ⟨#[97]⟩), t20] w fun t21 w =>
  m17_4 R d1 t21 w
def m17_10 (R : VP) (d1 t17 : Value) (w : World) : Prop :=
  condP t17
  (m17_11 R (Value.bool false) w)
  (m17_3 R d1 w)
def m17_2 (R : VP) (d1 e2 : Value) (w : World) : Prop :=
  valP Tryd.prog (binS BinOp.neq 24 (Operand.tmp 12) (Operand.const (Value.int IntKind.i64 0)) e2 (Value.int IntKind.i64 0)) w fun t13 w =>
  condP t13
  (pickP t13 (Value.bool true) undef fun t17 =>
  m17_10 R d1 t17 w)
  (valP Tryd.prog (binS BinOp.eql 23 (Operand.tmp 15) (Operand.const (Value.pointer none)) d1 (Value.pointer none)) w fun t16 w =>
  pickP t13 (Value.bool true) t16 fun t17 =>
  m17_10 R d1 t17 w)
def m17_1 (R : VP) (w : World) : Prop :=
  callP Tryd.prog (fnV 10) #[(Value.int IntKind.i64 2)] w fun t9 w =>
  valP Tryd.prog (Instr.extract t9 0) w fun t10 w =>
  valP Tryd.prog (Instr.extract t9 1) w fun t11 w =>
  m17_2 R t10 t11 w
def m17_0 (R : VP) (w : World) : Prop :=
  m17_1 R w
abbrev W17 := cwp Tryd.prog (fun i => 0)
noncomputable def k17_0 : Code := (bodyOf Tryd.f17)
noncomputable def k17_1 : Code := (c2 k17_0)
noncomputable def k17_2 : Code := (c2 k17_1)
noncomputable def k17_3 : Code := (c2 k17_2)
noncomputable def k17_4 : Code := (c2 k17_3)
noncomputable def k17_5 : Code := (c2 k17_4)
noncomputable def k17_6 : Code := (c2 k17_5)
noncomputable def k17_7 : Code := (c2 k17_6)
noncomputable def k17_8 : Code := (c2 k17_7)
noncomputable def k17_9 : Code := (c2 k17_8)
noncomputable def k17_10 : Code := (c2 (c1 k17_2))
noncomputable def k17_11 : Code := (c2 (c1 k17_10))
theorem s17_11 {R : VP} {Q : EQ} (hR : ∀ e w, (R (e 0) w) → Q .ret e w) (e : Env) (w : World) (h : m17_11 R (e 0) w) : W17 k17_11 Q e w := by
  unfold m17_11 at h
  exact reA (hR _ _ h)
theorem s17_9 {R : VP} {Q : EQ} (hR : ∀ e w, (R (e 0) w) → Q .ret e w) (e : Env) (w : World) (h : m17_9 R (e 0) w) : W17 k17_9 Q e w := by
  unfold m17_9 at h
  exact reA (hR _ _ h)
theorem s17_8 {R : VP} {Q : EQ} (hR : ∀ e w, (R (e 0) w) → Q .ret e w) (e : Env) (w : World) (h : m17_8 R (e 1) (e 3) (e 4) (e 5) (e 6) (e 7) w) : W17 k17_8 Q e w := by
  unfold m17_8 at h
  refine seA ?_
  have hN : ∀ e w, (m17_9 R (e 0) w) → (thenE (W17 k17_9 Q) Q) .normal e w := fun e w h => then_N (s17_9 (R := R) (Q := Q) hR e w h)
  exact rgK 9 (fun e w => m17_9 R (e 0) w) h hN
theorem s17_7 {R : VP} {Q : EQ} (hR : ∀ e w, (R (e 0) w) → Q .ret e w) (e : Env) (w : World) (h : m17_7 R (e 1) (e 3) (e 4) (e 5) w) : W17 k17_7 Q e w := by
  unfold m17_7 at h
  refine seA ?_
  have hN : ∀ e w, (m17_8 R (e 1) (e 3) (e 4) (e 5) (e 6) (e 7) w) → (thenE (W17 k17_8 Q) Q) .normal e w := fun e w h => then_N (s17_8 (R := R) (Q := Q) hR e w h)
  exact rgA 8 (fun e w => m17_8 R (e 1) (e 3) (e 4) (e 5) (e 6) (e 7) w) h hN
theorem s17_6 {R : VP} {Q : EQ} (hR : ∀ e w, (R (e 0) w) → Q .ret e w) (e : Env) (w : World) (h : m17_6 R (e 1) (e 3) (e 4) (e 5) w) : W17 k17_6 Q e w := by
  unfold m17_6 at h
  refine seA ?_
  have hN : ∀ e w, (m17_7 R (e 1) (e 3) (e 4) (e 5) w) → (thenE (W17 k17_7 Q) Q) .normal e w := fun e w h => then_N (s17_7 (R := R) (Q := Q) hR e w h)
  exact rgA 7 (fun e w => m17_7 R (e 1) (e 3) (e 4) (e 5) w) h hN
theorem s17_5 {R : VP} {Q : EQ} (hR : ∀ e w, (R (e 0) w) → Q .ret e w) (e : Env) (w : World) (h : m17_5 R (e 1) (e 3) (e 4) w) : W17 k17_5 Q e w := by
  unfold m17_5 at h
  refine seA ?_
  have hN : ∀ e w, (m17_6 R (e 1) (e 3) (e 4) (e 5) w) → (thenE (W17 k17_6 Q) Q) .normal e w := fun e w h => then_N (s17_6 (R := R) (Q := Q) hR e w h)
  exact rgA 6 (fun e w => m17_6 R (e 1) (e 3) (e 4) (e 5) w) h hN
theorem s17_4 {R : VP} {Q : EQ} (hR : ∀ e w, (R (e 0) w) → Q .ret e w) (e : Env) (w : World) (h : m17_4 R (e 1) (e 3) w) : W17 k17_4 Q e w := by
  unfold m17_4 at h
  refine seA ?_
  have hN : ∀ e w, (m17_5 R (e 1) (e 3) (e 4) w) → (thenE (W17 k17_5 Q) Q) .normal e w := fun e w h => then_N (s17_5 (R := R) (Q := Q) hR e w h)
  exact rgA 5 (fun e w => m17_5 R (e 1) (e 3) (e 4) w) h hN
theorem s17_3 {R : VP} {Q : EQ} (hR : ∀ e w, (R (e 0) w) → Q .ret e w) (e : Env) (w : World) (h : m17_3 R (e 1) w) : W17 k17_3 Q e w := by
  unfold m17_3 at h
  refine seA ?_
  have hN : ∀ e w, (m17_4 R (e 1) (e 3) w) → (thenE (W17 k17_4 Q) Q) .normal e w := fun e w h => then_N (s17_4 (R := R) (Q := Q) hR e w h)
  exact rgA 4 (fun e w => m17_4 R (e 1) (e 3) w) h hN
theorem s17_10 {R : VP} {Q : EQ} (hN : ∀ e w, (m17_3 R (e 1) w) → Q .normal e w) (hR : ∀ e w, (R (e 0) w) → Q .ret e w) (e : Env) (w : World) (h : m17_10 R (e 1) (e 17) w) : W17 k17_10 Q e w := by
  unfold m17_10 at h
  refine coA (Operand.tmp 17) h (fun h1 => ?_) (fun h1 => ?_)
  · refine seA ?_
    have hN : ∀ e w, (m17_11 R (e 0) w) → (thenE (W17 k17_11 Q) Q) .normal e w := fun e w h => then_N (s17_11 (R := R) (Q := Q) hR e w h)
    exact rgA 3 (fun e w => m17_11 R (e 0) w) h1 hN
  · exact skA (hN _ _ h1)
theorem s17_2 {R : VP} {Q : EQ} (hR : ∀ e w, (R (e 0) w) → Q .ret e w) (e : Env) (w : World) (h : m17_2 R (e 1) (e 2) w) : W17 k17_2 Q e w := by
  unfold m17_2 at h
  refine seA ?_
  have hN : ∀ e w, (m17_3 R (e 1) w) → (thenE (W17 k17_3 Q) Q) .normal e w := fun e w h => then_N (s17_3 (R := R) (Q := Q) hR e w h)
  have hR : ∀ e w, (R (e 0) w) → (thenE (W17 k17_3 Q) Q) .ret e w := fun e w h => then_R (hR e w h)
  refine seA ?_
  have hN : ∀ e w, (m17_10 R (e 1) (e 17) w) → (thenE (W17 k17_10 (thenE (W17 k17_3 Q) Q)) (thenE (W17 k17_3 Q) Q)) .normal e w := fun e w h => then_N (s17_10 (R := R) (Q := (thenE (W17 k17_3 Q) Q)) hN hR e w h)
  exact rgA 2 (fun e w => m17_10 R (e 1) (e 17) w) h hN
theorem s17_1 {R : VP} {Q : EQ} (hR : ∀ e w, (R (e 0) w) → Q .ret e w) (e : Env) (w : World) (h : m17_1 R w) : W17 k17_1 Q e w := by
  unfold m17_1 at h
  refine seA ?_
  have hN : ∀ e w, (m17_2 R (e 1) (e 2) w) → (thenE (W17 k17_2 Q) Q) .normal e w := fun e w h => then_N (s17_2 (R := R) (Q := Q) hR e w h)
  exact rgA 1 (fun e w => m17_2 R (e 1) (e 2) w) h hN
theorem s17_0 {R : VP} {Q : EQ} (hR : ∀ e w, (R (e 0) w) → Q .ret e w) (e : Env) (w : World) (h : m17_0 R w) : W17 k17_0 Q e w := by
  unfold m17_0 at h
  refine seA ?_
  have hN : ∀ e w, (m17_1 R w) → (thenE (W17 k17_1 Q) Q) .normal e w := fun e w h => then_N (s17_1 (R := R) (Q := Q) hR e w h)
  exact rgA 0 (fun e w => m17_1 R w) h hN
abbrev m17 (R : VP) (w : World) : Prop := m17_0 R w
theorem s17  {R : VP} {w : World} (h : m17 R  w) :
    Calls Tryd.prog 17 #[] w fun e w' => ∃ v, e = .returned v ∧ R v w' :=
  calls_of_cwp (st := (fun i => 0)) (c := k17_0) (by kernel_rfl) Tryd.func17 (by kernel_rfl) (Nat.le_of_ble_eq_true (by kernel_rfl)) (by kernel_rfl)
    (s17_0 (R := R) (Q := endE Tryd.prog Tryd.f17 R) (fun e w h => kcast (by kernel_rfl) h) (argsE #[]) w (kcast (by kernel_rfl) h))
/-! ### headgate/headgatelaw04.made -/
def m18_13 (R : VP) (t4 : Value) (w : World) : Prop :=
  R t4 w
def m18_10 (R : VP) (K1 : VP) (l1 d5 i7 : Value) (w : World) : Prop :=
  valP Tryd.prog (binS BinOp.add 3 (Operand.tmp 21) (Operand.const (Value.int IntKind.i64 1)) i7 (Value.int IntKind.i64 1)) w fun t22 w =>
  K1 t22 w
def m18_9 (R : VP) (K1 : VP) (l1 d5 i7 : Value) (w : World) : Prop :=
  valP Tryd.prog (Instr.indexAt 35 l1 i7) w fun t26 w =>
  valP Tryd.prog (Instr.loadAt 54 t26) w fun t27 w =>
  callP Tryd.prog (fnV 27) #[d5, t27] w fun t28 w =>
  m18_10 R K1 l1 d5 i7 w
def m18_6 (R : VP) (t4 : Value) (w : World) : Prop :=
  R t4 w
def m18_5 (R : VP) (d5 : Value) (w : World) : Prop :=
  m18_6 R d5 w
def m18_11 (R : VP) (K1 : VP) (l1 d5 i7 t20 : Value) (w : World) : Prop :=
  condP t20
  (m18_9 R K1 l1 d5 i7 w)
  (m18_5 R d5 w)
def m18_8 (R : VP) (K1 : VP) (l1 d5 i7 : Value) (w : World) : Prop :=
  builtinP Tryd.prog Builtin.len #[35] 3 #[false] #[l1] w fun t19 w =>
  valP Tryd.prog (binS BinOp.lss 3 (Operand.tmp 17) (Operand.tmp 19) i7 t19) w fun t20 w =>
  m18_11 R K1 l1 d5 i7 t20 w
def m18_7 (R : VP) (l1 d5 i7 : Value) (w : World) : Prop :=
  loopP (fun (K1 : VP) (s : Value) w => m18_8 R K1 l1 d5 s w) i7 w
def m18_4 (R : VP) (l1 d5 : Value) (w : World) : Prop :=
  m18_7 R l1 d5 (Value.int IntKind.i64 0) w
def m18_3 (R : VP) (l1 d5 : Value) (w : World) : Prop :=
  callP Tryd.prog (fnV 26) #[l1] w fun t16 w =>
  m18_4 R t16 d5 w
def m18_12 (R : VP) (l1 d5 t14 : Value) (w : World) : Prop :=
  condP t14
  (m18_13 R (Value.pointer none) w)
  (m18_3 R l1 d5 w)
def m18_2 (R : VP) (l1 d5 e6 : Value) (w : World) : Prop :=
  valP Tryd.prog (binS BinOp.neq 24 (Operand.tmp 13) (Operand.const (Value.int IntKind.i64 0)) e6 (Value.int IntKind.i64 0)) w fun t14 w =>
  m18_12 R l1 d5 t14 w
def m18_1 (R : VP) (size0 l1 : Value) (w : World) : Prop :=
  callP Tryd.prog (fnV 10) #[size0] w fun t10 w =>
  valP Tryd.prog (Instr.extract t10 0) w fun t11 w =>
  valP Tryd.prog (Instr.extract t10 1) w fun t12 w =>
  m18_2 R l1 t11 t12 w
def m18_0 (R : VP) (size0 l1 : Value) (w : World) : Prop :=
  m18_1 R size0 l1 w
abbrev W18 := cwp Tryd.prog (fun i => 0)
noncomputable def k18_0 : Code := (bodyOf Tryd.f18)
noncomputable def k18_1 : Code := (c2 k18_0)
noncomputable def k18_2 : Code := (c2 k18_1)
noncomputable def k18_3 : Code := (c2 k18_2)
noncomputable def k18_4 : Code := (c2 k18_3)
noncomputable def k18_5 : Code := (c2 k18_4)
noncomputable def k18_6 : Code := (c2 k18_5)
noncomputable def k18_7 : Code := (c2 (c1 k18_4))
noncomputable def k18_8 : Code := (c1 (c1 k18_7))
noncomputable def k18_9 : Code := (c2 k18_8)
noncomputable def k18_10 : Code := (c2 k18_9)
noncomputable def k18_11 : Code := (c2 (c1 k18_8))
noncomputable def k18_12 : Code := (c2 (c1 k18_2))
noncomputable def k18_13 : Code := (c2 (c1 k18_12))
theorem s18_13 {R : VP} {Q : EQ} (hR : ∀ e w, (R (e 4) w) → Q .ret e w) (e : Env) (w : World) (h : m18_13 R (e 4) w) : W18 k18_13 Q e w := by
  unfold m18_13 at h
  exact reA (hR _ _ h)
theorem s18_10 {R : VP} {K1 : VP} {Q : EQ} (hN : ∀ e w, (K1 (e 7) w) → Q .normal e w) (e : Env) (w : World) (h : m18_10 R K1 (e 1) (e 5) (e 7) w) : W18 k18_10 Q e w := by
  unfold m18_10 at h
  exact rgA 7 (fun e w => K1 (e 7) w) h hN
theorem s18_9 {R : VP} {K1 : VP} {Q : EQ} (hN : ∀ e w, (K1 (e 7) w) → Q .normal e w) (e : Env) (w : World) (h : m18_9 R K1 (e 1) (e 5) (e 7) w) : W18 k18_9 Q e w := by
  unfold m18_9 at h
  refine seA ?_
  have hN : ∀ e w, (m18_10 R K1 (e 1) (e 5) (e 7) w) → (thenE (W18 k18_10 Q) Q) .normal e w := fun e w h => then_N (s18_10 (R := R) (Q := Q) (K1 := K1) hN e w h)
  refine block_ok 1 (by kernel_rfl) ?_
  have hN : ∀ e w, (m18_10 R K1 (e 1) (e 5) (e 7) w) → (inBlockE 1 (thenE (W18 k18_10 Q) Q)) .normal e w := fun e w h => block_N (hN e w h)
  exact rgA 8 (fun e w => m18_10 R K1 (e 1) (e 5) (e 7) w) h hN
theorem s18_6 {R : VP} {Q : EQ} (hR : ∀ e w, (R (e 4) w) → Q .ret e w) (e : Env) (w : World) (h : m18_6 R (e 4) w) : W18 k18_6 Q e w := by
  unfold m18_6 at h
  exact reA (hR _ _ h)
theorem s18_5 {R : VP} {Q : EQ} (hR : ∀ e w, (R (e 4) w) → Q .ret e w) (e : Env) (w : World) (h : m18_5 R (e 5) w) : W18 k18_5 Q e w := by
  unfold m18_5 at h
  refine seA ?_
  have hN : ∀ e w, (m18_6 R (e 4) w) → (thenE (W18 k18_6 Q) Q) .normal e w := fun e w h => then_N (s18_6 (R := R) (Q := Q) hR e w h)
  exact rgA 9 (fun e w => m18_6 R (e 4) w) h hN
theorem s18_11 {R : VP} {K1 : VP} {Q : EQ} (hN : ∀ e w, (m18_9 R K1 (e 1) (e 5) (e 7) w) → Q .normal e w) (hX0 : ∀ e w, (m18_5 R (e 5) w) → Q (.exit 0) e w) (e : Env) (w : World) (h : m18_11 R K1 (e 1) (e 5) (e 7) (e 20) w) : W18 k18_11 Q e w := by
  unfold m18_11 at h
  refine coA (Operand.tmp 20) h (fun h1 => ?_) (fun h1 => ?_)
  · exact skA (hN _ _ h1)
  · exact exA 0 (hX0 _ _ h1)
theorem s18_8 {R : VP} {K1 : VP} {Q : EQ} (hN : ∀ e w, (K1 (e 7) w) → Q .normal e w) (hX0 : ∀ e w, (m18_5 R (e 5) w) → Q (.exit 0) e w) (e : Env) (w : World) (h : m18_8 R K1 (e 1) (e 5) (e 7) w) : W18 k18_8 Q e w := by
  unfold m18_8 at h
  refine seA ?_
  have hN : ∀ e w, (m18_9 R K1 (e 1) (e 5) (e 7) w) → (thenE (W18 k18_9 Q) Q) .normal e w := fun e w h => then_N (s18_9 (R := R) (Q := Q) (K1 := K1) hN e w h)
  have hX0 : ∀ e w, (m18_5 R (e 5) w) → (thenE (W18 k18_9 Q) Q) (.exit 0) e w := fun e w h => then_X (hX0 e w h)
  refine seA ?_
  have hN : ∀ e w, (m18_11 R K1 (e 1) (e 5) (e 7) (e 20) w) → (thenE (W18 k18_11 (thenE (W18 k18_9 Q) Q)) (thenE (W18 k18_9 Q) Q)) .normal e w := fun e w h => then_N (s18_11 (R := R) (Q := (thenE (W18 k18_9 Q) Q)) (K1 := K1) hN hX0 e w h)
  exact rgA 6 (fun e w => m18_11 R K1 (e 1) (e 5) (e 7) (e 20) w) h hN
theorem s18_7 {R : VP} {Q : EQ} (hN : ∀ e w, (m18_5 R (e 5) w) → Q .normal e w) (e : Env) (w : World) (h : m18_7 R (e 1) (e 5) (e 7) w) : W18 k18_7 Q e w := by
  unfold m18_7 at h
  refine block_ok 0 (by kernel_rfl) ?_
  have hX0 : ∀ e w, (m18_5 R (e 5) w) → (inBlockE 0 Q) (.exit 0) e w := fun e w h => inBlock_same (Q := Q) 0 (hN e w h)
  refine loop_ok' (fun (e : Env) => e 7) [1, 5] (by kernel_rfl) (by kernel_rfl) h (fun K e' w' hk h' => ?_)
  have r1 : e' 1 = e 1 := hk 1 (by decide)
  have r5 : e' 5 = e 5 := hk 5 (by decide)
  have hX0 : ∀ e w, (m18_5 R (e 5) w) → (thenE (fun (e : Env) w => K (e 7) w) (inBlockE 0 Q)) (.exit 0) e w := fun e w h => then_X (hX0 e w h)
  exact s18_8 (R := R) (Q := (thenE (fun (e : Env) w => K (e 7) w) (inBlockE 0 Q))) (K1 := K) (fun _ _ h => then_N h) hX0 e' w' (by rw [r1, r5]; exact h')
theorem s18_4 {R : VP} {Q : EQ} (hR : ∀ e w, (R (e 4) w) → Q .ret e w) (e : Env) (w : World) (h : m18_4 R (e 1) (e 5) w) : W18 k18_4 Q e w := by
  unfold m18_4 at h
  refine seA ?_
  have hN : ∀ e w, (m18_5 R (e 5) w) → (thenE (W18 k18_5 Q) Q) .normal e w := fun e w h => then_N (s18_5 (R := R) (Q := Q) hR e w h)
  refine seA ?_
  have hN : ∀ e w, (m18_7 R (e 1) (e 5) (e 7) w) → (thenE (W18 k18_7 (thenE (W18 k18_5 Q) Q)) (thenE (W18 k18_5 Q) Q)) .normal e w := fun e w h => then_N (s18_7 (R := R) (Q := (thenE (W18 k18_5 Q) Q)) hN e w h)
  exact rgA 5 (fun e w => m18_7 R (e 1) (e 5) (e 7) w) h hN
theorem s18_3 {R : VP} {Q : EQ} (hR : ∀ e w, (R (e 4) w) → Q .ret e w) (e : Env) (w : World) (h : m18_3 R (e 1) (e 5) w) : W18 k18_3 Q e w := by
  unfold m18_3 at h
  refine seA ?_
  have hN : ∀ e w, (m18_4 R (e 1) (e 5) w) → (thenE (W18 k18_4 Q) Q) .normal e w := fun e w h => then_N (s18_4 (R := R) (Q := Q) hR e w h)
  exact rgA 4 (fun e w => m18_4 R (e 1) (e 5) w) h hN
theorem s18_12 {R : VP} {Q : EQ} (hN : ∀ e w, (m18_3 R (e 1) (e 5) w) → Q .normal e w) (hR : ∀ e w, (R (e 4) w) → Q .ret e w) (e : Env) (w : World) (h : m18_12 R (e 1) (e 5) (e 14) w) : W18 k18_12 Q e w := by
  unfold m18_12 at h
  refine coA (Operand.tmp 14) h (fun h1 => ?_) (fun h1 => ?_)
  · refine seA ?_
    have hN : ∀ e w, (m18_13 R (e 4) w) → (thenE (W18 k18_13 Q) Q) .normal e w := fun e w h => then_N (s18_13 (R := R) (Q := Q) hR e w h)
    exact rgA 3 (fun e w => m18_13 R (e 4) w) h1 hN
  · exact skA (hN _ _ h1)
theorem s18_2 {R : VP} {Q : EQ} (hR : ∀ e w, (R (e 4) w) → Q .ret e w) (e : Env) (w : World) (h : m18_2 R (e 1) (e 5) (e 6) w) : W18 k18_2 Q e w := by
  unfold m18_2 at h
  refine seA ?_
  have hN : ∀ e w, (m18_3 R (e 1) (e 5) w) → (thenE (W18 k18_3 Q) Q) .normal e w := fun e w h => then_N (s18_3 (R := R) (Q := Q) hR e w h)
  have hR : ∀ e w, (R (e 4) w) → (thenE (W18 k18_3 Q) Q) .ret e w := fun e w h => then_R (hR e w h)
  refine seA ?_
  have hN : ∀ e w, (m18_12 R (e 1) (e 5) (e 14) w) → (thenE (W18 k18_12 (thenE (W18 k18_3 Q) Q)) (thenE (W18 k18_3 Q) Q)) .normal e w := fun e w h => then_N (s18_12 (R := R) (Q := (thenE (W18 k18_3 Q) Q)) hN hR e w h)
  exact rgA 2 (fun e w => m18_12 R (e 1) (e 5) (e 14) w) h hN
theorem s18_1 {R : VP} {Q : EQ} (hR : ∀ e w, (R (e 4) w) → Q .ret e w) (e : Env) (w : World) (h : m18_1 R (e 0) (e 1) w) : W18 k18_1 Q e w := by
  unfold m18_1 at h
  refine seA ?_
  have hN : ∀ e w, (m18_2 R (e 1) (e 5) (e 6) w) → (thenE (W18 k18_2 Q) Q) .normal e w := fun e w h => then_N (s18_2 (R := R) (Q := Q) hR e w h)
  exact rgA 1 (fun e w => m18_2 R (e 1) (e 5) (e 6) w) h hN
theorem s18_0 {R : VP} {Q : EQ} (hR : ∀ e w, (R (e 4) w) → Q .ret e w) (e : Env) (w : World) (h : m18_0 R (e 0) (e 1) w) : W18 k18_0 Q e w := by
  unfold m18_0 at h
  refine seA ?_
  have hN : ∀ e w, (m18_1 R (e 0) (e 1) w) → (thenE (W18 k18_1 Q) Q) .normal e w := fun e w h => then_N (s18_1 (R := R) (Q := Q) hR e w h)
  exact rgA 0 (fun e w => m18_1 R (e 0) (e 1) w) h hN
abbrev m18 (R : VP) (size0 l1 : Value) (w : World) : Prop := m18_0 R size0 l1 w
theorem s18 (size0 l1 : Value) {R : VP} {w : World} (h : m18 R size0 l1 w) :
    Calls Tryd.prog 18 #[size0, l1] w fun e w' => ∃ v, e = .returned v ∧ R v w' :=
  calls_of_cwp (st := (fun i => 0)) (c := k18_0) (by kernel_rfl) Tryd.func18 (by kernel_rfl) (Nat.le_of_ble_eq_true (by kernel_rfl)) (by kernel_rfl)
    (s18_0 (R := R) (Q := endE Tryd.prog Tryd.f18 R) (fun e w h => kcast (by kernel_rfl) h) (argsE #[size0, l1]) w (kcast (by kernel_rfl) h))
/-! ### headgate/headgateref04.Blocks -/
def m21_6 (R : VP) (K1 : VP) (n0 k3 : Value) (w : World) : Prop :=
  valP Tryd.prog (binS BinOp.add 3 (Operand.tmp 8) (Operand.const (Value.int IntKind.i64 1)) k3 (Value.int IntKind.i64 1)) w fun t9 w =>
  K1 t9 w
def m21_4 (R : VP) (t2 : Value) (w : World) : Prop :=
  R t2 w
def m21_3 (R : VP) (k3 : Value) (w : World) : Prop :=
  m21_4 R k3 w
def m21_7 (R : VP) (K1 : VP) (n0 k3 t7 : Value) (w : World) : Prop :=
  condP t7
  (m21_6 R K1 n0 k3 w)
  (m21_3 R k3 w)
def m21_5 (R : VP) (K1 : VP) (n0 k3 : Value) (w : World) : Prop :=
  valP Tryd.prog (binS BinOp.mul 3 (Operand.tmp 4) (Operand.const (Value.int IntKind.i64 64)) k3 (Value.int IntKind.i64 64)) w fun t5 w =>
  valP Tryd.prog (binS BinOp.lss 3 (Operand.tmp 5) (Operand.tmp 6) t5 n0) w fun t7 w =>
  m21_7 R K1 n0 k3 t7 w
def m21_2 (R : VP) (n0 k3 : Value) (w : World) : Prop :=
  loopP (fun (K1 : VP) (s : Value) w => m21_5 R K1 n0 s w) k3 w
def m21_1 (R : VP) (n0 : Value) (w : World) : Prop :=
  m21_2 R n0 (Value.int IntKind.i64 1) w
def m21_0 (R : VP) (n0 : Value) (w : World) : Prop :=
  m21_1 R n0 w
abbrev W21 := cwp Tryd.prog (fun i => 0)
noncomputable def k21_0 : Code := (bodyOf Tryd.f21)
noncomputable def k21_1 : Code := (c2 k21_0)
noncomputable def k21_2 : Code := (c2 k21_1)
noncomputable def k21_3 : Code := (c2 k21_2)
noncomputable def k21_4 : Code := (c2 k21_3)
noncomputable def k21_5 : Code := (c1 (c1 (c1 k21_2)))
noncomputable def k21_6 : Code := (c2 k21_5)
noncomputable def k21_7 : Code := (c2 (c1 k21_5))
theorem s21_6 {R : VP} {K1 : VP} {Q : EQ} (hN : ∀ e w, (K1 (e 3) w) → Q .normal e w) (e : Env) (w : World) (h : m21_6 R K1 (e 0) (e 3) w) : W21 k21_6 Q e w := by
  unfold m21_6 at h
  refine block_ok 1 (by kernel_rfl) ?_
  have hN : ∀ e w, (K1 (e 3) w) → (inBlockE 1 Q) .normal e w := fun e w h => block_N (hN e w h)
  exact rgA 3 (fun e w => K1 (e 3) w) h hN
theorem s21_4 {R : VP} {Q : EQ} (hR : ∀ e w, (R (e 2) w) → Q .ret e w) (e : Env) (w : World) (h : m21_4 R (e 2) w) : W21 k21_4 Q e w := by
  unfold m21_4 at h
  exact reA (hR _ _ h)
theorem s21_3 {R : VP} {Q : EQ} (hR : ∀ e w, (R (e 2) w) → Q .ret e w) (e : Env) (w : World) (h : m21_3 R (e 3) w) : W21 k21_3 Q e w := by
  unfold m21_3 at h
  refine seA ?_
  have hN : ∀ e w, (m21_4 R (e 2) w) → (thenE (W21 k21_4 Q) Q) .normal e w := fun e w h => then_N (s21_4 (R := R) (Q := Q) hR e w h)
  exact rgA 4 (fun e w => m21_4 R (e 2) w) h hN
theorem s21_7 {R : VP} {K1 : VP} {Q : EQ} (hN : ∀ e w, (m21_6 R K1 (e 0) (e 3) w) → Q .normal e w) (hX0 : ∀ e w, (m21_3 R (e 3) w) → Q (.exit 0) e w) (e : Env) (w : World) (h : m21_7 R K1 (e 0) (e 3) (e 7) w) : W21 k21_7 Q e w := by
  unfold m21_7 at h
  refine coA (Operand.tmp 7) h (fun h1 => ?_) (fun h1 => ?_)
  · exact skA (hN _ _ h1)
  · exact exA 0 (hX0 _ _ h1)
theorem s21_5 {R : VP} {K1 : VP} {Q : EQ} (hN : ∀ e w, (K1 (e 3) w) → Q .normal e w) (hX0 : ∀ e w, (m21_3 R (e 3) w) → Q (.exit 0) e w) (e : Env) (w : World) (h : m21_5 R K1 (e 0) (e 3) w) : W21 k21_5 Q e w := by
  unfold m21_5 at h
  refine seA ?_
  have hN : ∀ e w, (m21_6 R K1 (e 0) (e 3) w) → (thenE (W21 k21_6 Q) Q) .normal e w := fun e w h => then_N (s21_6 (R := R) (Q := Q) (K1 := K1) hN e w h)
  have hX0 : ∀ e w, (m21_3 R (e 3) w) → (thenE (W21 k21_6 Q) Q) (.exit 0) e w := fun e w h => then_X (hX0 e w h)
  refine seA ?_
  have hN : ∀ e w, (m21_7 R K1 (e 0) (e 3) (e 7) w) → (thenE (W21 k21_7 (thenE (W21 k21_6 Q) Q)) (thenE (W21 k21_6 Q) Q)) .normal e w := fun e w h => then_N (s21_7 (R := R) (Q := (thenE (W21 k21_6 Q) Q)) (K1 := K1) hN hX0 e w h)
  exact rgA 2 (fun e w => m21_7 R K1 (e 0) (e 3) (e 7) w) h hN
theorem s21_2 {R : VP} {Q : EQ} (hR : ∀ e w, (R (e 2) w) → Q .ret e w) (e : Env) (w : World) (h : m21_2 R (e 0) (e 3) w) : W21 k21_2 Q e w := by
  unfold m21_2 at h
  refine seA ?_
  have hN : ∀ e w, (m21_3 R (e 3) w) → (thenE (W21 k21_3 Q) Q) .normal e w := fun e w h => then_N (s21_3 (R := R) (Q := Q) hR e w h)
  refine block_ok 0 (by kernel_rfl) ?_
  have hX0 : ∀ e w, (m21_3 R (e 3) w) → (inBlockE 0 (thenE (W21 k21_3 Q) Q)) (.exit 0) e w := fun e w h => inBlock_same (Q := (thenE (W21 k21_3 Q) Q)) 0 (hN e w h)
  refine loop_ok' (fun (e : Env) => e 3) [0] (by kernel_rfl) (by kernel_rfl) h (fun K e' w' hk h' => ?_)
  have r0 : e' 0 = e 0 := hk 0 (by decide)
  have hX0 : ∀ e w, (m21_3 R (e 3) w) → (thenE (fun (e : Env) w => K (e 3) w) (inBlockE 0 (thenE (W21 k21_3 Q) Q))) (.exit 0) e w := fun e w h => then_X (hX0 e w h)
  exact s21_5 (R := R) (Q := (thenE (fun (e : Env) w => K (e 3) w) (inBlockE 0 (thenE (W21 k21_3 Q) Q)))) (K1 := K) (fun _ _ h => then_N h) hX0 e' w' (by rw [r0]; exact h')
theorem s21_1 {R : VP} {Q : EQ} (hR : ∀ e w, (R (e 2) w) → Q .ret e w) (e : Env) (w : World) (h : m21_1 R (e 0) w) : W21 k21_1 Q e w := by
  unfold m21_1 at h
  refine seA ?_
  have hN : ∀ e w, (m21_2 R (e 0) (e 3) w) → (thenE (W21 k21_2 Q) Q) .normal e w := fun e w h => then_N (s21_2 (R := R) (Q := Q) hR e w h)
  exact rgA 1 (fun e w => m21_2 R (e 0) (e 3) w) h hN
theorem s21_0 {R : VP} {Q : EQ} (hR : ∀ e w, (R (e 2) w) → Q .ret e w) (e : Env) (w : World) (h : m21_0 R (e 0) w) : W21 k21_0 Q e w := by
  unfold m21_0 at h
  refine seA ?_
  have hN : ∀ e w, (m21_1 R (e 0) w) → (thenE (W21 k21_1 Q) Q) .normal e w := fun e w h => then_N (s21_1 (R := R) (Q := Q) hR e w h)
  exact rgA 0 (fun e w => m21_1 R (e 0) w) h hN
abbrev m21 (R : VP) (n0 : Value) (w : World) : Prop := m21_0 R n0 w
theorem s21 (n0 : Value) {R : VP} {w : World} (h : m21 R n0 w) :
    Calls Tryd.prog 21 #[n0] w fun e w' => ∃ v, e = .returned v ∧ R v w' :=
  calls_of_cwp (st := (fun i => 0)) (c := k21_0) (by kernel_rfl) Tryd.func21 (by kernel_rfl) (Nat.le_of_ble_eq_true (by kernel_rfl)) (by kernel_rfl)
    (s21_0 (R := R) (Q := endE Tryd.prog Tryd.f21 R) (fun e w h => kcast (by kernel_rfl) h) (argsE #[n0]) w (kcast (by kernel_rfl) h))
/-! ### headgate/headgateref04.Same -/
def m23_13 (R : VP) (t4 : Value) (w : World) : Prop :=
  R t4 w
def m23_10 (R : VP) (K1 : VP) (t4 : Value) (w : World) : Prop :=
  R t4 w
def m23_8 (R : VP) (K1 : VP) (a0 b1 i5 : Value) (w : World) : Prop :=
  valP Tryd.prog (binS BinOp.add 3 (Operand.tmp 15) (Operand.const (Value.int IntKind.i64 1)) i5 (Value.int IntKind.i64 1)) w fun t16 w =>
  K1 t16 w
def m23_9 (R : VP) (K1 : VP) (a0 b1 i5 t25 : Value) (w : World) : Prop :=
  condP t25
  (m23_10 R K1 (Value.bool false) w)
  (m23_8 R K1 a0 b1 i5 w)
def m23_7 (R : VP) (K1 : VP) (a0 b1 i5 : Value) (w : World) : Prop :=
  valQ Tryd.prog (Instr.indexAt 38 a0 i5) w fun t19 =>
  valQ Tryd.prog (Instr.loadAt 42 t19) w fun t20 =>
  valQ Tryd.prog (Instr.indexAt 38 b1 i5) w fun t23 =>
  valQ Tryd.prog (Instr.loadAt 42 t23) w fun t24 =>
  valQ Tryd.prog (binS BinOp.neq 42 (Operand.tmp 20) (Operand.tmp 24) t20 t24) w fun t25 =>
  anyDraw w fun w =>
  m23_9 R K1 a0 b1 i5 t25 w
def m23_4 (R : VP) (t4 : Value) (w : World) : Prop :=
  R t4 w
def m23_3 (R : VP) (w : World) : Prop :=
  m23_4 R (Value.bool true) w
def m23_11 (R : VP) (K1 : VP) (a0 b1 i5 t14 : Value) (w : World) : Prop :=
  condP t14
  (m23_7 R K1 a0 b1 i5 w)
  (m23_3 R w)
def m23_6 (R : VP) (K1 : VP) (a0 b1 i5 : Value) (w : World) : Prop :=
  builtinP Tryd.prog Builtin.len #[38] 3 #[false] #[a0] w fun t13 w =>
  valP Tryd.prog (binS BinOp.lss 3 (Operand.tmp 11) (Operand.tmp 13) i5 t13) w fun t14 w =>
  m23_11 R K1 a0 b1 i5 t14 w
def m23_5 (R : VP) (a0 b1 i5 : Value) (w : World) : Prop :=
  loopP (fun (K1 : VP) (s : Value) w => m23_6 R K1 a0 b1 s w) i5 w
def m23_2 (R : VP) (a0 b1 : Value) (w : World) : Prop :=
  m23_5 R a0 b1 (Value.int IntKind.i64 0) w
def m23_12 (R : VP) (a0 b1 t10 : Value) (w : World) : Prop :=
  condP t10
  (m23_13 R (Value.bool false) w)
  (m23_2 R a0 b1 w)
def m23_1 (R : VP) (a0 b1 : Value) (w : World) : Prop :=
  builtinP Tryd.prog Builtin.len #[38] 3 #[false] #[a0] w fun t7 w =>
  builtinP Tryd.prog Builtin.len #[38] 3 #[false] #[b1] w fun t9 w =>
  valP Tryd.prog (binS BinOp.neq 3 (Operand.tmp 7) (Operand.tmp 9) t7 t9) w fun t10 w =>
  m23_12 R a0 b1 t10 w
def m23_0 (R : VP) (a0 b1 : Value) (w : World) : Prop :=
  m23_1 R a0 b1 w
abbrev W23 := cwp Tryd.prog (fun i => cond (Nat.beq i 6) 1 (0))
noncomputable def k23_0 : Code := (bodyOf Tryd.f23)
noncomputable def k23_1 : Code := (c2 k23_0)
noncomputable def k23_2 : Code := (c2 k23_1)
noncomputable def k23_3 : Code := (c2 k23_2)
noncomputable def k23_4 : Code := (c2 k23_3)
noncomputable def k23_5 : Code := (c2 (c1 k23_2))
noncomputable def k23_6 : Code := (c1 (c1 k23_5))
noncomputable def k23_7 : Code := (c2 k23_6)
noncomputable def k23_8 : Code := (c2 k23_7)
noncomputable def k23_9 : Code := (c2 (c1 (c1 k23_7)))
noncomputable def k23_10 : Code := (c2 (c1 k23_9))
noncomputable def k23_11 : Code := (c2 (c1 k23_6))
noncomputable def k23_12 : Code := (c2 (c1 k23_1))
noncomputable def k23_13 : Code := (c2 (c1 k23_12))
theorem s23_13 {R : VP} {Q : EQ} (hR : ∀ e w, (R (e 4) w) → Q .ret e w) (e : Env) (w : World) (h : m23_13 R (e 4) w) : W23 k23_13 Q e w := by
  unfold m23_13 at h
  exact reA (hR _ _ h)
theorem s23_10 {R : VP} {K1 : VP} {Q : EQ} (hR : ∀ e w, (R (e 4) w) → Q .ret e w) (e : Env) (w : World) (h : m23_10 R K1 (e 4) w) : W23 k23_10 Q e w := by
  unfold m23_10 at h
  exact reA (hR _ _ h)
theorem s23_8 {R : VP} {K1 : VP} {Q : EQ} (hN : ∀ e w, (K1 (e 5) w) → Q .normal e w) (e : Env) (w : World) (h : m23_8 R K1 (e 0) (e 1) (e 5) w) : W23 k23_8 Q e w := by
  unfold m23_8 at h
  exact rgA 5 (fun e w => K1 (e 5) w) h hN
theorem s23_9 {R : VP} {K1 : VP} {Q : EQ} (hN : ∀ e w, (m23_8 R K1 (e 0) (e 1) (e 5) w) → Q .normal e w) (hR : ∀ e w, (R (e 4) w) → Q .ret e w) (e : Env) (w : World) (h : m23_9 R K1 (e 0) (e 1) (e 5) (e 25) w) : W23 k23_9 Q e w := by
  unfold m23_9 at h
  refine coA (Operand.tmp 25) h (fun h1 => ?_) (fun h1 => ?_)
  · refine seA ?_
    have hN : ∀ e w, (m23_10 R K1 (e 4) w) → (thenE (W23 k23_10 Q) Q) .normal e w := fun e w h => then_N (s23_10 (R := R) (Q := Q) (K1 := K1) hR e w h)
    exact rgA 7 (fun e w => m23_10 R K1 (e 4) w) h1 hN
  · exact skA (hN _ _ h1)
theorem s23_7 {R : VP} {K1 : VP} {Q : EQ} (hN : ∀ e w, (K1 (e 5) w) → Q .normal e w) (hR : ∀ e w, (R (e 4) w) → Q .ret e w) (e : Env) (w : World) (h : m23_7 R K1 (e 0) (e 1) (e 5) w) : W23 k23_7 Q e w := by
  unfold m23_7 at h
  refine seA ?_
  have hN : ∀ e w, (m23_8 R K1 (e 0) (e 1) (e 5) w) → (thenE (W23 k23_8 Q) Q) .normal e w := fun e w h => then_N (s23_8 (R := R) (Q := Q) (K1 := K1) hN e w h)
  have hR : ∀ e w, (R (e 4) w) → (thenE (W23 k23_8 Q) Q) .ret e w := fun e w h => then_R (hR e w h)
  refine block_ok 1 (by kernel_rfl) ?_
  have hN : ∀ e w, (m23_8 R K1 (e 0) (e 1) (e 5) w) → (inBlockE 1 (thenE (W23 k23_8 Q) Q)) .normal e w := fun e w h => block_N (hN e w h)
  have hR : ∀ e w, (R (e 4) w) → (inBlockE 1 (thenE (W23 k23_8 Q) Q)) .ret e w := fun e w h => block_R (hR e w h)
  refine seA ?_
  have hN : ∀ e w, (m23_9 R K1 (e 0) (e 1) (e 5) (e 25) w) → (thenE (W23 k23_9 (inBlockE 1 (thenE (W23 k23_8 Q) Q))) (inBlockE 1 (thenE (W23 k23_8 Q) Q))) .normal e w := fun e w h => then_N (s23_9 (R := R) (Q := (inBlockE 1 (thenE (W23 k23_8 Q) Q))) (K1 := K1) hN hR e w h)
  exact quA 6 (fun e w => m23_9 R K1 (e 0) (e 1) (e 5) (e 25) w) h hN
theorem s23_4 {R : VP} {Q : EQ} (hR : ∀ e w, (R (e 4) w) → Q .ret e w) (e : Env) (w : World) (h : m23_4 R (e 4) w) : W23 k23_4 Q e w := by
  unfold m23_4 at h
  exact reA (hR _ _ h)
theorem s23_3 {R : VP} {Q : EQ} (hR : ∀ e w, (R (e 4) w) → Q .ret e w) (e : Env) (w : World) (h : m23_3 R w) : W23 k23_3 Q e w := by
  unfold m23_3 at h
  refine seA ?_
  have hN : ∀ e w, (m23_4 R (e 4) w) → (thenE (W23 k23_4 Q) Q) .normal e w := fun e w h => then_N (s23_4 (R := R) (Q := Q) hR e w h)
  exact rgA 8 (fun e w => m23_4 R (e 4) w) h hN
theorem s23_11 {R : VP} {K1 : VP} {Q : EQ} (hN : ∀ e w, (m23_7 R K1 (e 0) (e 1) (e 5) w) → Q .normal e w) (hX0 : ∀ e w, (m23_3 R w) → Q (.exit 0) e w) (e : Env) (w : World) (h : m23_11 R K1 (e 0) (e 1) (e 5) (e 14) w) : W23 k23_11 Q e w := by
  unfold m23_11 at h
  refine coA (Operand.tmp 14) h (fun h1 => ?_) (fun h1 => ?_)
  · exact skA (hN _ _ h1)
  · exact exA 0 (hX0 _ _ h1)
theorem s23_6 {R : VP} {K1 : VP} {Q : EQ} (hN : ∀ e w, (K1 (e 5) w) → Q .normal e w) (hR : ∀ e w, (R (e 4) w) → Q .ret e w) (hX0 : ∀ e w, (m23_3 R w) → Q (.exit 0) e w) (e : Env) (w : World) (h : m23_6 R K1 (e 0) (e 1) (e 5) w) : W23 k23_6 Q e w := by
  unfold m23_6 at h
  refine seA ?_
  have hN : ∀ e w, (m23_7 R K1 (e 0) (e 1) (e 5) w) → (thenE (W23 k23_7 Q) Q) .normal e w := fun e w h => then_N (s23_7 (R := R) (Q := Q) (K1 := K1) hN hR e w h)
  have hX0 : ∀ e w, (m23_3 R w) → (thenE (W23 k23_7 Q) Q) (.exit 0) e w := fun e w h => then_X (hX0 e w h)
  refine seA ?_
  have hN : ∀ e w, (m23_11 R K1 (e 0) (e 1) (e 5) (e 14) w) → (thenE (W23 k23_11 (thenE (W23 k23_7 Q) Q)) (thenE (W23 k23_7 Q) Q)) .normal e w := fun e w h => then_N (s23_11 (R := R) (Q := (thenE (W23 k23_7 Q) Q)) (K1 := K1) hN hX0 e w h)
  exact rgA 4 (fun e w => m23_11 R K1 (e 0) (e 1) (e 5) (e 14) w) h hN
theorem s23_5 {R : VP} {Q : EQ} (hN : ∀ e w, (m23_3 R w) → Q .normal e w) (hR : ∀ e w, (R (e 4) w) → Q .ret e w) (e : Env) (w : World) (h : m23_5 R (e 0) (e 1) (e 5) w) : W23 k23_5 Q e w := by
  unfold m23_5 at h
  refine block_ok 0 (by kernel_rfl) ?_
  have hX0 : ∀ e w, (m23_3 R w) → (inBlockE 0 Q) (.exit 0) e w := fun e w h => inBlock_same (Q := Q) 0 (hN e w h)
  have hR : ∀ e w, (R (e 4) w) → (inBlockE 0 Q) .ret e w := fun e w h => block_R (hR e w h)
  refine loop_ok' (fun (e : Env) => e 5) [0, 1] (by kernel_rfl) (by kernel_rfl) h (fun K e' w' hk h' => ?_)
  have r0 : e' 0 = e 0 := hk 0 (by decide)
  have r1 : e' 1 = e 1 := hk 1 (by decide)
  have hR : ∀ e w, (R (e 4) w) → (thenE (fun (e : Env) w => K (e 5) w) (inBlockE 0 Q)) .ret e w := fun e w h => then_R (hR e w h)
  have hX0 : ∀ e w, (m23_3 R w) → (thenE (fun (e : Env) w => K (e 5) w) (inBlockE 0 Q)) (.exit 0) e w := fun e w h => then_X (hX0 e w h)
  exact s23_6 (R := R) (Q := (thenE (fun (e : Env) w => K (e 5) w) (inBlockE 0 Q))) (K1 := K) (fun _ _ h => then_N h) hR hX0 e' w' (by rw [r0, r1]; exact h')
theorem s23_2 {R : VP} {Q : EQ} (hR : ∀ e w, (R (e 4) w) → Q .ret e w) (e : Env) (w : World) (h : m23_2 R (e 0) (e 1) w) : W23 k23_2 Q e w := by
  unfold m23_2 at h
  refine seA ?_
  have hN : ∀ e w, (m23_3 R w) → (thenE (W23 k23_3 Q) Q) .normal e w := fun e w h => then_N (s23_3 (R := R) (Q := Q) hR e w h)
  have hR : ∀ e w, (R (e 4) w) → (thenE (W23 k23_3 Q) Q) .ret e w := fun e w h => then_R (hR e w h)
  refine seA ?_
  have hN : ∀ e w, (m23_5 R (e 0) (e 1) (e 5) w) → (thenE (W23 k23_5 (thenE (W23 k23_3 Q) Q)) (thenE (W23 k23_3 Q) Q)) .normal e w := fun e w h => then_N (s23_5 (R := R) (Q := (thenE (W23 k23_3 Q) Q)) hN hR e w h)
  exact rgA 3 (fun e w => m23_5 R (e 0) (e 1) (e 5) w) h hN
theorem s23_12 {R : VP} {Q : EQ} (hN : ∀ e w, (m23_2 R (e 0) (e 1) w) → Q .normal e w) (hR : ∀ e w, (R (e 4) w) → Q .ret e w) (e : Env) (w : World) (h : m23_12 R (e 0) (e 1) (e 10) w) : W23 k23_12 Q e w := by
  unfold m23_12 at h
  refine coA (Operand.tmp 10) h (fun h1 => ?_) (fun h1 => ?_)
  · refine seA ?_
    have hN : ∀ e w, (m23_13 R (e 4) w) → (thenE (W23 k23_13 Q) Q) .normal e w := fun e w h => then_N (s23_13 (R := R) (Q := Q) hR e w h)
    exact rgA 2 (fun e w => m23_13 R (e 4) w) h1 hN
  · exact skA (hN _ _ h1)
theorem s23_1 {R : VP} {Q : EQ} (hR : ∀ e w, (R (e 4) w) → Q .ret e w) (e : Env) (w : World) (h : m23_1 R (e 0) (e 1) w) : W23 k23_1 Q e w := by
  unfold m23_1 at h
  refine seA ?_
  have hN : ∀ e w, (m23_2 R (e 0) (e 1) w) → (thenE (W23 k23_2 Q) Q) .normal e w := fun e w h => then_N (s23_2 (R := R) (Q := Q) hR e w h)
  have hR : ∀ e w, (R (e 4) w) → (thenE (W23 k23_2 Q) Q) .ret e w := fun e w h => then_R (hR e w h)
  refine seA ?_
  have hN : ∀ e w, (m23_12 R (e 0) (e 1) (e 10) w) → (thenE (W23 k23_12 (thenE (W23 k23_2 Q) Q)) (thenE (W23 k23_2 Q) Q)) .normal e w := fun e w h => then_N (s23_12 (R := R) (Q := (thenE (W23 k23_2 Q) Q)) hN hR e w h)
  exact rgA 1 (fun e w => m23_12 R (e 0) (e 1) (e 10) w) h hN
theorem s23_0 {R : VP} {Q : EQ} (hR : ∀ e w, (R (e 4) w) → Q .ret e w) (e : Env) (w : World) (h : m23_0 R (e 0) (e 1) w) : W23 k23_0 Q e w := by
  unfold m23_0 at h
  refine seA ?_
  have hN : ∀ e w, (m23_1 R (e 0) (e 1) w) → (thenE (W23 k23_1 Q) Q) .normal e w := fun e w h => then_N (s23_1 (R := R) (Q := Q) hR e w h)
  exact rgA 0 (fun e w => m23_1 R (e 0) (e 1) w) h hN
abbrev m23 (R : VP) (a0 b1 : Value) (w : World) : Prop := m23_0 R a0 b1 w
theorem s23 (a0 b1 : Value) {R : VP} {w : World} (h : m23 R a0 b1 w) :
    Calls Tryd.prog 23 #[a0, b1] w fun e w' => ∃ v, e = .returned v ∧ R v w' :=
  calls_of_cwp (st := (fun i => cond (Nat.beq i 6) 1 (0))) (c := k23_0) (by kernel_rfl) Tryd.func23 (by kernel_rfl) (Nat.le_of_ble_eq_true (by kernel_rfl)) (by kernel_rfl)
    (s23_0 (R := R) (Q := endE Tryd.prog Tryd.f23 R) (fun e w h => kcast (by kernel_rfl) h) (argsE #[a0, b1]) w (kcast (by kernel_rfl) h))
/-! ### headgate/headgateref04.Named -/
def m24_14 (R : VP) (t2 : Value) (w : World) : Prop :=
  R t2 w
def m24_11 (R : VP) (K1 : VP) (t2 : Value) (w : World) : Prop :=
  R t2 w
def m24_8 (R : VP) (K1 : VP) (s0 i3 : Value) (w : World) : Prop :=
  valP Tryd.prog (binS BinOp.add 3 (Operand.tmp 17) (Operand.const (Value.int IntKind.i64 1)) i3 (Value.int IntKind.i64 1)) w fun t18 w =>
  K1 t18 w
def m24_10 (R : VP) (K1 : VP) (s0 i3 t44 : Value) (w : World) : Prop :=
  condP t44
  (m24_11 R K1 (Value.bool false) w)
  (m24_8 R K1 s0 i3 w)
def m24_9 (R : VP) (K1 : VP) (s0 i3 b4 : Value) (w : World) : Prop :=
  valP Tryd.prog (binS BinOp.geq 5 (Operand.tmp 22) (Operand.const (Value.int IntKind.u8 97)) b4 (Value.int IntKind.u8 97)) w fun t23 w =>
  condP t23
  (valP Tryd.prog (binS BinOp.leq 5 (Operand.tmp 25) (Operand.const (Value.int IntKind.u8 122)) b4 (Value.int IntKind.u8 122)) w fun t26 w =>
  pickP t23 t26 (Value.bool false) fun t27 =>
  condP t27
  (pickP t27 (Value.bool true) undef fun t35 =>
  pickP t35 (Value.bool true) undef fun t39 =>
  pickP t39 (Value.bool true) undef fun t43 =>
  valP Tryd.prog (Op.unary UnOp.not t43) w fun t44 w =>
  m24_10 R K1 s0 i3 t44 w)
  (valP Tryd.prog (binS BinOp.geq 5 (Operand.tmp 29) (Operand.const (Value.int IntKind.u8 48)) b4 (Value.int IntKind.u8 48)) w fun t30 w =>
  condP t30
  (valP Tryd.prog (binS BinOp.leq 5 (Operand.tmp 32) (Operand.const (Value.int IntKind.u8 57)) b4 (Value.int IntKind.u8 57)) w fun t33 w =>
  pickP t30 t33 (Value.bool false) fun t34 =>
  pickP t27 (Value.bool true) t34 fun t35 =>
  condP t35
  (pickP t35 (Value.bool true) undef fun t39 =>
  pickP t39 (Value.bool true) undef fun t43 =>
  valP Tryd.prog (Op.unary UnOp.not t43) w fun t44 w =>
  m24_10 R K1 s0 i3 t44 w)
  (valP Tryd.prog (binS BinOp.eql 5 (Operand.tmp 37) (Operand.const (Value.int IntKind.u8 46)) b4 (Value.int IntKind.u8 46)) w fun t38 w =>
  pickP t35 (Value.bool true) t38 fun t39 =>
  condP t39
  (pickP t39 (Value.bool true) undef fun t43 =>
  valP Tryd.prog (Op.unary UnOp.not t43) w fun t44 w =>
  m24_10 R K1 s0 i3 t44 w)
  (valP Tryd.prog (binS BinOp.eql 5 (Operand.tmp 41) (Operand.const (Value.int IntKind.u8 45)) b4 (Value.int IntKind.u8 45)) w fun t42 w =>
  pickP t39 (Value.bool true) t42 fun t43 =>
  valP Tryd.prog (Op.unary UnOp.not t43) w fun t44 w =>
  m24_10 R K1 s0 i3 t44 w)))
  (pickP t30 undef (Value.bool false) fun t34 =>
  pickP t27 (Value.bool true) t34 fun t35 =>
  valP Tryd.prog (binS BinOp.eql 5 (Operand.tmp 37) (Operand.const (Value.int IntKind.u8 46)) b4 (Value.int IntKind.u8 46)) w fun t38 w =>
  pickP t35 (Value.bool true) t38 fun t39 =>
  condP t39
  (pickP t39 (Value.bool true) undef fun t43 =>
  valP Tryd.prog (Op.unary UnOp.not t43) w fun t44 w =>
  m24_10 R K1 s0 i3 t44 w)
  (valP Tryd.prog (binS BinOp.eql 5 (Operand.tmp 41) (Operand.const (Value.int IntKind.u8 45)) b4 (Value.int IntKind.u8 45)) w fun t42 w =>
  pickP t39 (Value.bool true) t42 fun t43 =>
  valP Tryd.prog (Op.unary UnOp.not t43) w fun t44 w =>
  m24_10 R K1 s0 i3 t44 w))))
  (pickP t23 undef (Value.bool false) fun t27 =>
  valP Tryd.prog (binS BinOp.geq 5 (Operand.tmp 29) (Operand.const (Value.int IntKind.u8 48)) b4 (Value.int IntKind.u8 48)) w fun t30 w =>
  condP t30
  (valP Tryd.prog (binS BinOp.leq 5 (Operand.tmp 32) (Operand.const (Value.int IntKind.u8 57)) b4 (Value.int IntKind.u8 57)) w fun t33 w =>
  pickP t30 t33 (Value.bool false) fun t34 =>
  pickP t27 (Value.bool true) t34 fun t35 =>
  condP t35
  (pickP t35 (Value.bool true) undef fun t39 =>
  pickP t39 (Value.bool true) undef fun t43 =>
  valP Tryd.prog (Op.unary UnOp.not t43) w fun t44 w =>
  m24_10 R K1 s0 i3 t44 w)
  (valP Tryd.prog (binS BinOp.eql 5 (Operand.tmp 37) (Operand.const (Value.int IntKind.u8 46)) b4 (Value.int IntKind.u8 46)) w fun t38 w =>
  pickP t35 (Value.bool true) t38 fun t39 =>
  condP t39
  (pickP t39 (Value.bool true) undef fun t43 =>
  valP Tryd.prog (Op.unary UnOp.not t43) w fun t44 w =>
  m24_10 R K1 s0 i3 t44 w)
  (valP Tryd.prog (binS BinOp.eql 5 (Operand.tmp 41) (Operand.const (Value.int IntKind.u8 45)) b4 (Value.int IntKind.u8 45)) w fun t42 w =>
  pickP t39 (Value.bool true) t42 fun t43 =>
  valP Tryd.prog (Op.unary UnOp.not t43) w fun t44 w =>
  m24_10 R K1 s0 i3 t44 w)))
  (pickP t30 undef (Value.bool false) fun t34 =>
  pickP t27 (Value.bool true) t34 fun t35 =>
  valP Tryd.prog (binS BinOp.eql 5 (Operand.tmp 37) (Operand.const (Value.int IntKind.u8 46)) b4 (Value.int IntKind.u8 46)) w fun t38 w =>
  pickP t35 (Value.bool true) t38 fun t39 =>
  condP t39
  (pickP t39 (Value.bool true) undef fun t43 =>
  valP Tryd.prog (Op.unary UnOp.not t43) w fun t44 w =>
  m24_10 R K1 s0 i3 t44 w)
  (valP Tryd.prog (binS BinOp.eql 5 (Operand.tmp 41) (Operand.const (Value.int IntKind.u8 45)) b4 (Value.int IntKind.u8 45)) w fun t42 w =>
  pickP t39 (Value.bool true) t42 fun t43 =>
  valP Tryd.prog (Op.unary UnOp.not t43) w fun t44 w =>
  m24_10 R K1 s0 i3 t44 w)))
def m24_7 (R : VP) (K1 : VP) (s0 i3 : Value) (w : World) : Prop :=
  valP Tryd.prog (Instr.index 9 s0 i3) w fun t21 w =>
  m24_9 R K1 s0 i3 t21 w
def m24_4 (R : VP) (t2 : Value) (w : World) : Prop :=
  R t2 w
def m24_3 (R : VP) (w : World) : Prop :=
  m24_4 R (Value.bool true) w
def m24_12 (R : VP) (K1 : VP) (s0 i3 t16 : Value) (w : World) : Prop :=
  condP t16
  (m24_7 R K1 s0 i3 w)
  (m24_3 R w)
def m24_6 (R : VP) (K1 : VP) (s0 i3 : Value) (w : World) : Prop :=
  builtinP Tryd.prog Builtin.len #[9] 3 #[false] #[s0] w fun t15 w =>
  valP Tryd.prog (binS BinOp.lss 3 (Operand.tmp 13) (Operand.tmp 15) i3 t15) w fun t16 w =>
  m24_12 R K1 s0 i3 t16 w
def m24_5 (R : VP) (s0 i3 : Value) (w : World) : Prop :=
  loopP (fun (K1 : VP) (s : Value) w => m24_6 R K1 s0 s w) i3 w
def m24_2 (R : VP) (s0 : Value) (w : World) : Prop :=
  m24_5 R s0 (Value.int IntKind.i64 0) w
def m24_13 (R : VP) (s0 t12 : Value) (w : World) : Prop :=
  condP t12
  (m24_14 R (Value.bool false) w)
  (m24_2 R s0 w)
def m24_1 (R : VP) (s0 : Value) (w : World) : Prop :=
  builtinP Tryd.prog Builtin.len #[9] 3 #[false] #[s0] w fun t6 w =>
  valP Tryd.prog (binS BinOp.eql 3 (Operand.tmp 6) (Operand.const (Value.int IntKind.i64 0)) t6 (Value.int IntKind.i64 0)) w fun t7 w =>
  condP t7
  (pickP t7 (Value.bool true) undef fun t12 =>
  m24_13 R s0 t12 w)
  (builtinP Tryd.prog Builtin.len #[9] 3 #[false] #[s0] w fun t10 w =>
  valP Tryd.prog (binS BinOp.gtr 3 (Operand.tmp 10) (Operand.const (Value.int IntKind.i64 24)) t10 (Value.int IntKind.i64 24)) w fun t11 w =>
  pickP t7 (Value.bool true) t11 fun t12 =>
  m24_13 R s0 t12 w)
def m24_0 (R : VP) (s0 : Value) (w : World) : Prop :=
  m24_1 R s0 w
abbrev W24 := cwp Tryd.prog (fun i => 0)
noncomputable def k24_0 : Code := (bodyOf Tryd.f24)
noncomputable def k24_1 : Code := (c2 k24_0)
noncomputable def k24_2 : Code := (c2 k24_1)
noncomputable def k24_3 : Code := (c2 k24_2)
noncomputable def k24_4 : Code := (c2 k24_3)
noncomputable def k24_5 : Code := (c2 (c1 k24_2))
noncomputable def k24_6 : Code := (c1 (c1 k24_5))
noncomputable def k24_7 : Code := (c2 k24_6)
noncomputable def k24_8 : Code := (c2 k24_7)
noncomputable def k24_9 : Code := (c2 (c1 (c1 k24_7)))
noncomputable def k24_10 : Code := (c2 k24_9)
noncomputable def k24_11 : Code := (c2 (c1 k24_10))
noncomputable def k24_12 : Code := (c2 (c1 k24_6))
noncomputable def k24_13 : Code := (c2 (c1 k24_1))
noncomputable def k24_14 : Code := (c2 (c1 k24_13))
theorem s24_14 {R : VP} {Q : EQ} (hR : ∀ e w, (R (e 2) w) → Q .ret e w) (e : Env) (w : World) (h : m24_14 R (e 2) w) : W24 k24_14 Q e w := by
  unfold m24_14 at h
  exact reA (hR _ _ h)
theorem s24_11 {R : VP} {K1 : VP} {Q : EQ} (hR : ∀ e w, (R (e 2) w) → Q .ret e w) (e : Env) (w : World) (h : m24_11 R K1 (e 2) w) : W24 k24_11 Q e w := by
  unfold m24_11 at h
  exact reA (hR _ _ h)
theorem s24_8 {R : VP} {K1 : VP} {Q : EQ} (hN : ∀ e w, (K1 (e 3) w) → Q .normal e w) (e : Env) (w : World) (h : m24_8 R K1 (e 0) (e 3) w) : W24 k24_8 Q e w := by
  unfold m24_8 at h
  exact rgA 5 (fun e w => K1 (e 3) w) h hN
theorem s24_10 {R : VP} {K1 : VP} {Q : EQ} (hN : ∀ e w, (m24_8 R K1 (e 0) (e 3) w) → Q .normal e w) (hR : ∀ e w, (R (e 2) w) → Q .ret e w) (e : Env) (w : World) (h : m24_10 R K1 (e 0) (e 3) (e 44) w) : W24 k24_10 Q e w := by
  unfold m24_10 at h
  refine coA (Operand.tmp 44) h (fun h1 => ?_) (fun h1 => ?_)
  · refine seA ?_
    have hN : ∀ e w, (m24_11 R K1 (e 2) w) → (thenE (W24 k24_11 Q) Q) .normal e w := fun e w h => then_N (s24_11 (R := R) (Q := Q) (K1 := K1) hR e w h)
    exact rgA 8 (fun e w => m24_11 R K1 (e 2) w) h1 hN
  · exact skA (hN _ _ h1)
theorem s24_9 {R : VP} {K1 : VP} {Q : EQ} (hN : ∀ e w, (m24_8 R K1 (e 0) (e 3) w) → Q .normal e w) (hR : ∀ e w, (R (e 2) w) → Q .ret e w) (e : Env) (w : World) (h : m24_9 R K1 (e 0) (e 3) (e 4) w) : W24 k24_9 Q e w := by
  unfold m24_9 at h
  refine seA ?_
  have hN : ∀ e w, (m24_10 R K1 (e 0) (e 3) (e 44) w) → (thenE (W24 k24_10 Q) Q) .normal e w := fun e w h => then_N (s24_10 (R := R) (Q := Q) (K1 := K1) hN hR e w h)
  exact rgK 7 (fun e w => m24_10 R K1 (e 0) (e 3) (e 44) w) h hN
theorem s24_7 {R : VP} {K1 : VP} {Q : EQ} (hN : ∀ e w, (K1 (e 3) w) → Q .normal e w) (hR : ∀ e w, (R (e 2) w) → Q .ret e w) (e : Env) (w : World) (h : m24_7 R K1 (e 0) (e 3) w) : W24 k24_7 Q e w := by
  unfold m24_7 at h
  refine seA ?_
  have hN : ∀ e w, (m24_8 R K1 (e 0) (e 3) w) → (thenE (W24 k24_8 Q) Q) .normal e w := fun e w h => then_N (s24_8 (R := R) (Q := Q) (K1 := K1) hN e w h)
  have hR : ∀ e w, (R (e 2) w) → (thenE (W24 k24_8 Q) Q) .ret e w := fun e w h => then_R (hR e w h)
  refine block_ok 1 (by kernel_rfl) ?_
  have hN : ∀ e w, (m24_8 R K1 (e 0) (e 3) w) → (inBlockE 1 (thenE (W24 k24_8 Q) Q)) .normal e w := fun e w h => block_N (hN e w h)
  have hR : ∀ e w, (R (e 2) w) → (inBlockE 1 (thenE (W24 k24_8 Q) Q)) .ret e w := fun e w h => block_R (hR e w h)
  refine seA ?_
  have hN : ∀ e w, (m24_9 R K1 (e 0) (e 3) (e 4) w) → (thenE (W24 k24_9 (inBlockE 1 (thenE (W24 k24_8 Q) Q))) (inBlockE 1 (thenE (W24 k24_8 Q) Q))) .normal e w := fun e w h => then_N (s24_9 (R := R) (Q := (inBlockE 1 (thenE (W24 k24_8 Q) Q))) (K1 := K1) hN hR e w h)
  exact rgA 6 (fun e w => m24_9 R K1 (e 0) (e 3) (e 4) w) h hN
theorem s24_4 {R : VP} {Q : EQ} (hR : ∀ e w, (R (e 2) w) → Q .ret e w) (e : Env) (w : World) (h : m24_4 R (e 2) w) : W24 k24_4 Q e w := by
  unfold m24_4 at h
  exact reA (hR _ _ h)
theorem s24_3 {R : VP} {Q : EQ} (hR : ∀ e w, (R (e 2) w) → Q .ret e w) (e : Env) (w : World) (h : m24_3 R w) : W24 k24_3 Q e w := by
  unfold m24_3 at h
  refine seA ?_
  have hN : ∀ e w, (m24_4 R (e 2) w) → (thenE (W24 k24_4 Q) Q) .normal e w := fun e w h => then_N (s24_4 (R := R) (Q := Q) hR e w h)
  exact rgA 9 (fun e w => m24_4 R (e 2) w) h hN
theorem s24_12 {R : VP} {K1 : VP} {Q : EQ} (hN : ∀ e w, (m24_7 R K1 (e 0) (e 3) w) → Q .normal e w) (hX0 : ∀ e w, (m24_3 R w) → Q (.exit 0) e w) (e : Env) (w : World) (h : m24_12 R K1 (e 0) (e 3) (e 16) w) : W24 k24_12 Q e w := by
  unfold m24_12 at h
  refine coA (Operand.tmp 16) h (fun h1 => ?_) (fun h1 => ?_)
  · exact skA (hN _ _ h1)
  · exact exA 0 (hX0 _ _ h1)
theorem s24_6 {R : VP} {K1 : VP} {Q : EQ} (hN : ∀ e w, (K1 (e 3) w) → Q .normal e w) (hR : ∀ e w, (R (e 2) w) → Q .ret e w) (hX0 : ∀ e w, (m24_3 R w) → Q (.exit 0) e w) (e : Env) (w : World) (h : m24_6 R K1 (e 0) (e 3) w) : W24 k24_6 Q e w := by
  unfold m24_6 at h
  refine seA ?_
  have hN : ∀ e w, (m24_7 R K1 (e 0) (e 3) w) → (thenE (W24 k24_7 Q) Q) .normal e w := fun e w h => then_N (s24_7 (R := R) (Q := Q) (K1 := K1) hN hR e w h)
  have hX0 : ∀ e w, (m24_3 R w) → (thenE (W24 k24_7 Q) Q) (.exit 0) e w := fun e w h => then_X (hX0 e w h)
  refine seA ?_
  have hN : ∀ e w, (m24_12 R K1 (e 0) (e 3) (e 16) w) → (thenE (W24 k24_12 (thenE (W24 k24_7 Q) Q)) (thenE (W24 k24_7 Q) Q)) .normal e w := fun e w h => then_N (s24_12 (R := R) (Q := (thenE (W24 k24_7 Q) Q)) (K1 := K1) hN hX0 e w h)
  exact rgA 4 (fun e w => m24_12 R K1 (e 0) (e 3) (e 16) w) h hN
theorem s24_5 {R : VP} {Q : EQ} (hN : ∀ e w, (m24_3 R w) → Q .normal e w) (hR : ∀ e w, (R (e 2) w) → Q .ret e w) (e : Env) (w : World) (h : m24_5 R (e 0) (e 3) w) : W24 k24_5 Q e w := by
  unfold m24_5 at h
  refine block_ok 0 (by kernel_rfl) ?_
  have hX0 : ∀ e w, (m24_3 R w) → (inBlockE 0 Q) (.exit 0) e w := fun e w h => inBlock_same (Q := Q) 0 (hN e w h)
  have hR : ∀ e w, (R (e 2) w) → (inBlockE 0 Q) .ret e w := fun e w h => block_R (hR e w h)
  refine loop_ok' (fun (e : Env) => e 3) [0] (by kernel_rfl) (by kernel_rfl) h (fun K e' w' hk h' => ?_)
  have r0 : e' 0 = e 0 := hk 0 (by decide)
  have hR : ∀ e w, (R (e 2) w) → (thenE (fun (e : Env) w => K (e 3) w) (inBlockE 0 Q)) .ret e w := fun e w h => then_R (hR e w h)
  have hX0 : ∀ e w, (m24_3 R w) → (thenE (fun (e : Env) w => K (e 3) w) (inBlockE 0 Q)) (.exit 0) e w := fun e w h => then_X (hX0 e w h)
  exact s24_6 (R := R) (Q := (thenE (fun (e : Env) w => K (e 3) w) (inBlockE 0 Q))) (K1 := K) (fun _ _ h => then_N h) hR hX0 e' w' (by rw [r0]; exact h')
theorem s24_2 {R : VP} {Q : EQ} (hR : ∀ e w, (R (e 2) w) → Q .ret e w) (e : Env) (w : World) (h : m24_2 R (e 0) w) : W24 k24_2 Q e w := by
  unfold m24_2 at h
  refine seA ?_
  have hN : ∀ e w, (m24_3 R w) → (thenE (W24 k24_3 Q) Q) .normal e w := fun e w h => then_N (s24_3 (R := R) (Q := Q) hR e w h)
  have hR : ∀ e w, (R (e 2) w) → (thenE (W24 k24_3 Q) Q) .ret e w := fun e w h => then_R (hR e w h)
  refine seA ?_
  have hN : ∀ e w, (m24_5 R (e 0) (e 3) w) → (thenE (W24 k24_5 (thenE (W24 k24_3 Q) Q)) (thenE (W24 k24_3 Q) Q)) .normal e w := fun e w h => then_N (s24_5 (R := R) (Q := (thenE (W24 k24_3 Q) Q)) hN hR e w h)
  exact rgA 3 (fun e w => m24_5 R (e 0) (e 3) w) h hN
theorem s24_13 {R : VP} {Q : EQ} (hN : ∀ e w, (m24_2 R (e 0) w) → Q .normal e w) (hR : ∀ e w, (R (e 2) w) → Q .ret e w) (e : Env) (w : World) (h : m24_13 R (e 0) (e 12) w) : W24 k24_13 Q e w := by
  unfold m24_13 at h
  refine coA (Operand.tmp 12) h (fun h1 => ?_) (fun h1 => ?_)
  · refine seA ?_
    have hN : ∀ e w, (m24_14 R (e 2) w) → (thenE (W24 k24_14 Q) Q) .normal e w := fun e w h => then_N (s24_14 (R := R) (Q := Q) hR e w h)
    exact rgA 2 (fun e w => m24_14 R (e 2) w) h1 hN
  · exact skA (hN _ _ h1)
theorem s24_1 {R : VP} {Q : EQ} (hR : ∀ e w, (R (e 2) w) → Q .ret e w) (e : Env) (w : World) (h : m24_1 R (e 0) w) : W24 k24_1 Q e w := by
  unfold m24_1 at h
  refine seA ?_
  have hN : ∀ e w, (m24_2 R (e 0) w) → (thenE (W24 k24_2 Q) Q) .normal e w := fun e w h => then_N (s24_2 (R := R) (Q := Q) hR e w h)
  have hR : ∀ e w, (R (e 2) w) → (thenE (W24 k24_2 Q) Q) .ret e w := fun e w h => then_R (hR e w h)
  refine seA ?_
  have hN : ∀ e w, (m24_13 R (e 0) (e 12) w) → (thenE (W24 k24_13 (thenE (W24 k24_2 Q) Q)) (thenE (W24 k24_2 Q) Q)) .normal e w := fun e w h => then_N (s24_13 (R := R) (Q := (thenE (W24 k24_2 Q) Q)) hN hR e w h)
  exact rgA 1 (fun e w => m24_13 R (e 0) (e 12) w) h hN
theorem s24_0 {R : VP} {Q : EQ} (hR : ∀ e w, (R (e 2) w) → Q .ret e w) (e : Env) (w : World) (h : m24_0 R (e 0) w) : W24 k24_0 Q e w := by
  unfold m24_0 at h
  refine seA ?_
  have hN : ∀ e w, (m24_1 R (e 0) w) → (thenE (W24 k24_1 Q) Q) .normal e w := fun e w h => then_N (s24_1 (R := R) (Q := Q) hR e w h)
  exact rgA 0 (fun e w => m24_1 R (e 0) w) h hN
abbrev m24 (R : VP) (s0 : Value) (w : World) : Prop := m24_0 R s0 w
theorem s24 (s0 : Value) {R : VP} {w : World} (h : m24 R s0 w) :
    Calls Tryd.prog 24 #[s0] w fun e w' => ∃ v, e = .returned v ∧ R v w' :=
  calls_of_cwp (st := (fun i => 0)) (c := k24_0) (by kernel_rfl) Tryd.func24 (by kernel_rfl) (Nat.le_of_ble_eq_true (by kernel_rfl)) (by kernel_rfl)
    (s24_0 (R := R) (Q := endE Tryd.prog Tryd.f24 R) (fun e w h => kcast (by kernel_rfl) h) (argsE #[s0]) w (kcast (by kernel_rfl) h))
/-! ### headgate/headgatelaw04.Few -/
def m26_9 (R : VP) (K1 : (Value × Value) → World → Prop) (l0 out3 i4 : Value) (w : World) : Prop :=
  valP Tryd.prog (binS BinOp.add 3 (Operand.tmp 15) (Operand.const (Value.int IntKind.i64 1)) i4 (Value.int IntKind.i64 1)) w fun t16 w =>
  K1 (out3, t16) w
def m26_12 (R : VP) (K1 : (Value × Value) → World → Prop) (l0 out3 i4 x5 : Value) (w : World) : Prop :=
  valP Tryd.prog (Instr.loadAt 54 x5) w fun t38 w =>
  valP Tryd.prog (Instr.buildSlice 35 1 #[(0, t38)]) w fun t39 w =>
  builtinP Tryd.prog Builtin.append #[35, 35] 35 #[false, false] #[out3, t39] w fun t40 w =>
  m26_9 R K1 l0 t40 i4 w
def m26_13 (R : VP) (K1 : (Value × Value) → World → Prop) (l0 out3 i4 x5 t32 : Value) (w : World) : Prop :=
  condP t32
  (valP Tryd.prog (Instr.fieldAt 54 x5 5) w fun t33 w =>
  valP Tryd.prog (Instr.loadAt 46 t33) w fun t34 w =>
  valP Tryd.prog (Instr.sliceAt 46 t34 none (some (Value.int IntKind.i64 100)) none) w fun t35 w =>
  valP Tryd.prog (Instr.fieldAt 54 x5 5) w fun t36 w =>
  unitP Tryd.prog (Instr.storeAt 46 t36 t35) w fun _ w =>
  m26_12 R K1 l0 out3 i4 x5 w)
  (m26_12 R K1 l0 out3 i4 x5 w)
def m26_11 (R : VP) (K1 : (Value × Value) → World → Prop) (l0 out3 i4 x5 : Value) (w : World) : Prop :=
  valP Tryd.prog (Instr.fieldAt 54 x5 5) w fun t29 w =>
  valP Tryd.prog (Instr.loadAt 46 t29) w fun t30 w =>
  builtinP Tryd.prog Builtin.len #[46] 3 #[false] #[t30] w fun t31 w =>
  valP Tryd.prog (binS BinOp.gtr 3 (Operand.tmp 31) (Operand.const (Value.int IntKind.i64 100)) t31 (Value.int IntKind.i64 100)) w fun t32 w =>
  m26_13 R K1 l0 out3 i4 x5 t32 w
def m26_14 (R : VP) (K1 : (Value × Value) → World → Prop) (l0 out3 i4 x5 t24 : Value) (w : World) : Prop :=
  condP t24
  (valP Tryd.prog (Instr.fieldAt 54 x5 4) w fun t25 w =>
  valP Tryd.prog (Instr.loadAt 9 t25) w fun t26 w =>
  valP Tryd.prog (Instr.sliceAt 9 t26 none (some (Value.int IntKind.i64 3000)) none) w fun t27 w =>
  valP Tryd.prog (Instr.fieldAt 54 x5 4) w fun t28 w =>
  unitP Tryd.prog (Instr.storeAt 9 t28 t27) w fun _ w =>
  m26_11 R K1 l0 out3 i4 x5 w)
  (m26_11 R K1 l0 out3 i4 x5 w)
def m26_10 (R : VP) (K1 : (Value × Value) → World → Prop) (l0 out3 i4 x5 : Value) (w : World) : Prop :=
  valP Tryd.prog (Instr.fieldAt 54 x5 4) w fun t21 w =>
  valP Tryd.prog (Instr.loadAt 9 t21) w fun t22 w =>
  builtinP Tryd.prog Builtin.len #[9] 3 #[false] #[t22] w fun t23 w =>
  valP Tryd.prog (binS BinOp.gtr 3 (Operand.tmp 23) (Operand.const (Value.int IntKind.i64 3000)) t23 (Value.int IntKind.i64 3000)) w fun t24 w =>
  m26_14 R K1 l0 out3 i4 x5 t24 w
def m26_8 (R : VP) (K1 : (Value × Value) → World → Prop) (l0 out3 i4 : Value) (w : World) : Prop :=
  valP Tryd.prog (Instr.indexAt 35 l0 i4) w fun t19 w =>
  valP Tryd.prog (Instr.loadAt 54 t19) w fun t20 w =>
  valP Tryd.prog (Instr.alloc 54 true (.tuple #[])) w fun x5 w =>
  unitP Tryd.prog (Instr.storeAt 54 x5 t20) w fun _ w =>
  m26_10 R K1 l0 out3 i4 x5 w
def m26_5 (R : VP) (t2 : Value) (w : World) : Prop :=
  R t2 w
def m26_4 (R : VP) (out3 : Value) (w : World) : Prop :=
  m26_5 R out3 w
def m26_15 (R : VP) (K1 : (Value × Value) → World → Prop) (l0 out3 i4 t14 : Value) (w : World) : Prop :=
  condP t14
  (m26_8 R K1 l0 out3 i4 w)
  (m26_4 R out3 w)
def m26_7 (R : VP) (K1 : (Value × Value) → World → Prop) (l0 out3 i4 : Value) (w : World) : Prop :=
  builtinP Tryd.prog Builtin.len #[35] 3 #[false] #[l0] w fun t13 w =>
  valP Tryd.prog (binS BinOp.lss 3 (Operand.tmp 11) (Operand.tmp 13) i4 t13) w fun t14 w =>
  m26_15 R K1 l0 out3 i4 t14 w
def m26_6 (R : VP) (l0 out3 i4 : Value) (w : World) : Prop :=
  loopP (fun (K1 : (Value × Value) → World → Prop) (s : Value × Value) w => m26_7 R K1 l0 s.1 s.2 w) (out3, i4) w
def m26_3 (R : VP) (l0 out3 : Value) (w : World) : Prop :=
  m26_6 R l0 out3 (Value.int IntKind.i64 0) w
def m26_2 (R : VP) (l0 : Value) (w : World) : Prop :=
  m26_3 R l0 (Value.slice none 0 0) w
def m26_16 (R : VP) (l0 t8 : Value) (w : World) : Prop :=
  condP t8
  (valP Tryd.prog (Instr.sliceAt 35 l0 none (some (Value.int IntKind.i64 80)) none) w fun t10 w =>
  m26_2 R t10 w)
  (m26_2 R l0 w)
def m26_1 (R : VP) (l0 : Value) (w : World) : Prop :=
  builtinP Tryd.prog Builtin.len #[35] 3 #[false] #[l0] w fun t7 w =>
  valP Tryd.prog (binS BinOp.gtr 3 (Operand.tmp 7) (Operand.const (Value.int IntKind.i64 80)) t7 (Value.int IntKind.i64 80)) w fun t8 w =>
  m26_16 R l0 t8 w
def m26_0 (R : VP) (l0 : Value) (w : World) : Prop :=
  m26_1 R l0 w
abbrev W26 := cwp Tryd.prog (fun i => 0)
noncomputable def k26_0 : Code := (bodyOf Tryd.f26)
noncomputable def k26_1 : Code := (c2 k26_0)
noncomputable def k26_2 : Code := (c2 k26_1)
noncomputable def k26_3 : Code := (c2 k26_2)
noncomputable def k26_4 : Code := (c2 k26_3)
noncomputable def k26_5 : Code := (c2 k26_4)
noncomputable def k26_6 : Code := (c2 (c1 k26_3))
noncomputable def k26_7 : Code := (c1 (c1 k26_6))
noncomputable def k26_8 : Code := (c2 k26_7)
noncomputable def k26_9 : Code := (c2 k26_8)
noncomputable def k26_10 : Code := (c2 (c1 (c1 k26_8)))
noncomputable def k26_11 : Code := (c2 k26_10)
noncomputable def k26_12 : Code := (c2 k26_11)
noncomputable def k26_13 : Code := (c2 (c1 k26_11))
noncomputable def k26_14 : Code := (c2 (c1 k26_10))
noncomputable def k26_15 : Code := (c2 (c1 k26_7))
noncomputable def k26_16 : Code := (c2 (c1 k26_1))
theorem s26_9 {R : VP} {K1 : (Value × Value) → World → Prop} {Q : EQ} (hN : ∀ e w, (K1 ((e 3), (e 4)) w) → Q .normal e w) (e : Env) (w : World) (h : m26_9 R K1 (e 0) (e 3) (e 4) w) : W26 k26_9 Q e w := by
  unfold m26_9 at h
  exact rgA 6 (fun e w => K1 ((e 3), (e 4)) w) h hN
theorem s26_12 {R : VP} {K1 : (Value × Value) → World → Prop} {Q : EQ} (hN : ∀ e w, (m26_9 R K1 (e 0) (e 3) (e 4) w) → Q .normal e w) (e : Env) (w : World) (h : m26_12 R K1 (e 0) (e 3) (e 4) (e 5) w) : W26 k26_12 Q e w := by
  unfold m26_12 at h
  exact rgA 12 (fun e w => m26_9 R K1 (e 0) (e 3) (e 4) w) h hN
theorem s26_13 {R : VP} {K1 : (Value × Value) → World → Prop} {Q : EQ} (hN : ∀ e w, (m26_12 R K1 (e 0) (e 3) (e 4) (e 5) w) → Q .normal e w) (e : Env) (w : World) (h : m26_13 R K1 (e 0) (e 3) (e 4) (e 5) (e 32) w) : W26 k26_13 Q e w := by
  unfold m26_13 at h
  refine coA (Operand.tmp 32) h (fun h1 => ?_) (fun h1 => ?_)
  · exact rgA 11 (fun e w => m26_12 R K1 (e 0) (e 3) (e 4) (e 5) w) h1 hN
  · exact skA (hN _ _ h1)
theorem s26_11 {R : VP} {K1 : (Value × Value) → World → Prop} {Q : EQ} (hN : ∀ e w, (m26_9 R K1 (e 0) (e 3) (e 4) w) → Q .normal e w) (e : Env) (w : World) (h : m26_11 R K1 (e 0) (e 3) (e 4) (e 5) w) : W26 k26_11 Q e w := by
  unfold m26_11 at h
  refine seA ?_
  have hN : ∀ e w, (m26_12 R K1 (e 0) (e 3) (e 4) (e 5) w) → (thenE (W26 k26_12 Q) Q) .normal e w := fun e w h => then_N (s26_12 (R := R) (Q := Q) (K1 := K1) hN e w h)
  refine seA ?_
  have hN : ∀ e w, (m26_13 R K1 (e 0) (e 3) (e 4) (e 5) (e 32) w) → (thenE (W26 k26_13 (thenE (W26 k26_12 Q) Q)) (thenE (W26 k26_12 Q) Q)) .normal e w := fun e w h => then_N (s26_13 (R := R) (Q := (thenE (W26 k26_12 Q) Q)) (K1 := K1) hN e w h)
  exact rgA 10 (fun e w => m26_13 R K1 (e 0) (e 3) (e 4) (e 5) (e 32) w) h hN
theorem s26_14 {R : VP} {K1 : (Value × Value) → World → Prop} {Q : EQ} (hN : ∀ e w, (m26_11 R K1 (e 0) (e 3) (e 4) (e 5) w) → Q .normal e w) (e : Env) (w : World) (h : m26_14 R K1 (e 0) (e 3) (e 4) (e 5) (e 24) w) : W26 k26_14 Q e w := by
  unfold m26_14 at h
  refine coA (Operand.tmp 24) h (fun h1 => ?_) (fun h1 => ?_)
  · exact rgA 9 (fun e w => m26_11 R K1 (e 0) (e 3) (e 4) (e 5) w) h1 hN
  · exact skA (hN _ _ h1)
theorem s26_10 {R : VP} {K1 : (Value × Value) → World → Prop} {Q : EQ} (hN : ∀ e w, (m26_9 R K1 (e 0) (e 3) (e 4) w) → Q .normal e w) (e : Env) (w : World) (h : m26_10 R K1 (e 0) (e 3) (e 4) (e 5) w) : W26 k26_10 Q e w := by
  unfold m26_10 at h
  refine seA ?_
  have hN : ∀ e w, (m26_11 R K1 (e 0) (e 3) (e 4) (e 5) w) → (thenE (W26 k26_11 Q) Q) .normal e w := fun e w h => then_N (s26_11 (R := R) (Q := Q) (K1 := K1) hN e w h)
  refine seA ?_
  have hN : ∀ e w, (m26_14 R K1 (e 0) (e 3) (e 4) (e 5) (e 24) w) → (thenE (W26 k26_14 (thenE (W26 k26_11 Q) Q)) (thenE (W26 k26_11 Q) Q)) .normal e w := fun e w h => then_N (s26_14 (R := R) (Q := (thenE (W26 k26_11 Q) Q)) (K1 := K1) hN e w h)
  exact rgA 8 (fun e w => m26_14 R K1 (e 0) (e 3) (e 4) (e 5) (e 24) w) h hN
theorem s26_8 {R : VP} {K1 : (Value × Value) → World → Prop} {Q : EQ} (hN : ∀ e w, (K1 ((e 3), (e 4)) w) → Q .normal e w) (e : Env) (w : World) (h : m26_8 R K1 (e 0) (e 3) (e 4) w) : W26 k26_8 Q e w := by
  unfold m26_8 at h
  refine seA ?_
  have hN : ∀ e w, (m26_9 R K1 (e 0) (e 3) (e 4) w) → (thenE (W26 k26_9 Q) Q) .normal e w := fun e w h => then_N (s26_9 (R := R) (Q := Q) (K1 := K1) hN e w h)
  refine block_ok 1 (by kernel_rfl) ?_
  have hN : ∀ e w, (m26_9 R K1 (e 0) (e 3) (e 4) w) → (inBlockE 1 (thenE (W26 k26_9 Q) Q)) .normal e w := fun e w h => block_N (hN e w h)
  refine seA ?_
  have hN : ∀ e w, (m26_10 R K1 (e 0) (e 3) (e 4) (e 5) w) → (thenE (W26 k26_10 (inBlockE 1 (thenE (W26 k26_9 Q) Q))) (inBlockE 1 (thenE (W26 k26_9 Q) Q))) .normal e w := fun e w h => then_N (s26_10 (R := R) (Q := (inBlockE 1 (thenE (W26 k26_9 Q) Q))) (K1 := K1) hN e w h)
  exact rgA 7 (fun e w => m26_10 R K1 (e 0) (e 3) (e 4) (e 5) w) h hN
theorem s26_5 {R : VP} {Q : EQ} (hR : ∀ e w, (R (e 2) w) → Q .ret e w) (e : Env) (w : World) (h : m26_5 R (e 2) w) : W26 k26_5 Q e w := by
  unfold m26_5 at h
  exact reA (hR _ _ h)
theorem s26_4 {R : VP} {Q : EQ} (hR : ∀ e w, (R (e 2) w) → Q .ret e w) (e : Env) (w : World) (h : m26_4 R (e 3) w) : W26 k26_4 Q e w := by
  unfold m26_4 at h
  refine seA ?_
  have hN : ∀ e w, (m26_5 R (e 2) w) → (thenE (W26 k26_5 Q) Q) .normal e w := fun e w h => then_N (s26_5 (R := R) (Q := Q) hR e w h)
  exact rgA 13 (fun e w => m26_5 R (e 2) w) h hN
theorem s26_15 {R : VP} {K1 : (Value × Value) → World → Prop} {Q : EQ} (hN : ∀ e w, (m26_8 R K1 (e 0) (e 3) (e 4) w) → Q .normal e w) (hX0 : ∀ e w, (m26_4 R (e 3) w) → Q (.exit 0) e w) (e : Env) (w : World) (h : m26_15 R K1 (e 0) (e 3) (e 4) (e 14) w) : W26 k26_15 Q e w := by
  unfold m26_15 at h
  refine coA (Operand.tmp 14) h (fun h1 => ?_) (fun h1 => ?_)
  · exact skA (hN _ _ h1)
  · exact exA 0 (hX0 _ _ h1)
theorem s26_7 {R : VP} {K1 : (Value × Value) → World → Prop} {Q : EQ} (hN : ∀ e w, (K1 ((e 3), (e 4)) w) → Q .normal e w) (hX0 : ∀ e w, (m26_4 R (e 3) w) → Q (.exit 0) e w) (e : Env) (w : World) (h : m26_7 R K1 (e 0) (e 3) (e 4) w) : W26 k26_7 Q e w := by
  unfold m26_7 at h
  refine seA ?_
  have hN : ∀ e w, (m26_8 R K1 (e 0) (e 3) (e 4) w) → (thenE (W26 k26_8 Q) Q) .normal e w := fun e w h => then_N (s26_8 (R := R) (Q := Q) (K1 := K1) hN e w h)
  have hX0 : ∀ e w, (m26_4 R (e 3) w) → (thenE (W26 k26_8 Q) Q) (.exit 0) e w := fun e w h => then_X (hX0 e w h)
  refine seA ?_
  have hN : ∀ e w, (m26_15 R K1 (e 0) (e 3) (e 4) (e 14) w) → (thenE (W26 k26_15 (thenE (W26 k26_8 Q) Q)) (thenE (W26 k26_8 Q) Q)) .normal e w := fun e w h => then_N (s26_15 (R := R) (Q := (thenE (W26 k26_8 Q) Q)) (K1 := K1) hN hX0 e w h)
  exact rgA 5 (fun e w => m26_15 R K1 (e 0) (e 3) (e 4) (e 14) w) h hN
theorem s26_6 {R : VP} {Q : EQ} (hN : ∀ e w, (m26_4 R (e 3) w) → Q .normal e w) (e : Env) (w : World) (h : m26_6 R (e 0) (e 3) (e 4) w) : W26 k26_6 Q e w := by
  unfold m26_6 at h
  refine block_ok 0 (by kernel_rfl) ?_
  have hX0 : ∀ e w, (m26_4 R (e 3) w) → (inBlockE 0 Q) (.exit 0) e w := fun e w h => inBlock_same (Q := Q) 0 (hN e w h)
  refine loop_ok' (fun (e : Env) => (e 3, e 4)) [0] (by kernel_rfl) (by kernel_rfl) h (fun K e' w' hk h' => ?_)
  have r0 : e' 0 = e 0 := hk 0 (by decide)
  have hX0 : ∀ e w, (m26_4 R (e 3) w) → (thenE (fun (e : Env) w => K ((e 3), (e 4)) w) (inBlockE 0 Q)) (.exit 0) e w := fun e w h => then_X (hX0 e w h)
  exact s26_7 (R := R) (Q := (thenE (fun (e : Env) w => K ((e 3), (e 4)) w) (inBlockE 0 Q))) (K1 := K) (fun _ _ h => then_N h) hX0 e' w' (by rw [r0]; exact h')
theorem s26_3 {R : VP} {Q : EQ} (hR : ∀ e w, (R (e 2) w) → Q .ret e w) (e : Env) (w : World) (h : m26_3 R (e 0) (e 3) w) : W26 k26_3 Q e w := by
  unfold m26_3 at h
  refine seA ?_
  have hN : ∀ e w, (m26_4 R (e 3) w) → (thenE (W26 k26_4 Q) Q) .normal e w := fun e w h => then_N (s26_4 (R := R) (Q := Q) hR e w h)
  refine seA ?_
  have hN : ∀ e w, (m26_6 R (e 0) (e 3) (e 4) w) → (thenE (W26 k26_6 (thenE (W26 k26_4 Q) Q)) (thenE (W26 k26_4 Q) Q)) .normal e w := fun e w h => then_N (s26_6 (R := R) (Q := (thenE (W26 k26_4 Q) Q)) hN e w h)
  exact rgA 4 (fun e w => m26_6 R (e 0) (e 3) (e 4) w) h hN
theorem s26_2 {R : VP} {Q : EQ} (hR : ∀ e w, (R (e 2) w) → Q .ret e w) (e : Env) (w : World) (h : m26_2 R (e 0) w) : W26 k26_2 Q e w := by
  unfold m26_2 at h
  refine seA ?_
  have hN : ∀ e w, (m26_3 R (e 0) (e 3) w) → (thenE (W26 k26_3 Q) Q) .normal e w := fun e w h => then_N (s26_3 (R := R) (Q := Q) hR e w h)
  exact rgA 3 (fun e w => m26_3 R (e 0) (e 3) w) h hN
theorem s26_16 {R : VP} {Q : EQ} (hN : ∀ e w, (m26_2 R (e 0) w) → Q .normal e w) (e : Env) (w : World) (h : m26_16 R (e 0) (e 8) w) : W26 k26_16 Q e w := by
  unfold m26_16 at h
  refine coA (Operand.tmp 8) h (fun h1 => ?_) (fun h1 => ?_)
  · exact rgA 2 (fun e w => m26_2 R (e 0) w) h1 hN
  · exact skA (hN _ _ h1)
theorem s26_1 {R : VP} {Q : EQ} (hR : ∀ e w, (R (e 2) w) → Q .ret e w) (e : Env) (w : World) (h : m26_1 R (e 0) w) : W26 k26_1 Q e w := by
  unfold m26_1 at h
  refine seA ?_
  have hN : ∀ e w, (m26_2 R (e 0) w) → (thenE (W26 k26_2 Q) Q) .normal e w := fun e w h => then_N (s26_2 (R := R) (Q := Q) hR e w h)
  refine seA ?_
  have hN : ∀ e w, (m26_16 R (e 0) (e 8) w) → (thenE (W26 k26_16 (thenE (W26 k26_2 Q) Q)) (thenE (W26 k26_2 Q) Q)) .normal e w := fun e w h => then_N (s26_16 (R := R) (Q := (thenE (W26 k26_2 Q) Q)) hN e w h)
  exact rgA 1 (fun e w => m26_16 R (e 0) (e 8) w) h hN
theorem s26_0 {R : VP} {Q : EQ} (hR : ∀ e w, (R (e 2) w) → Q .ret e w) (e : Env) (w : World) (h : m26_0 R (e 0) w) : W26 k26_0 Q e w := by
  unfold m26_0 at h
  refine seA ?_
  have hN : ∀ e w, (m26_1 R (e 0) w) → (thenE (W26 k26_1 Q) Q) .normal e w := fun e w h => then_N (s26_1 (R := R) (Q := Q) hR e w h)
  exact rgA 0 (fun e w => m26_1 R (e 0) w) h hN
abbrev m26 (R : VP) (l0 : Value) (w : World) : Prop := m26_0 R l0 w
theorem s26 (l0 : Value) {R : VP} {w : World} (h : m26 R l0 w) :
    Calls Tryd.prog 26 #[l0] w fun e w' => ∃ v, e = .returned v ∧ R v w' :=
  calls_of_cwp (st := (fun i => 0)) (c := k26_0) (by kernel_rfl) Tryd.func26 (by kernel_rfl) (Nat.le_of_ble_eq_true (by kernel_rfl)) (by kernel_rfl)
    (s26_0 (R := R) (Q := endE Tryd.prog Tryd.f26 R) (fun e w h => kcast (by kernel_rfl) h) (argsE #[l0]) w (kcast (by kernel_rfl) h))
/-! ### headgate/headgatelaw04.do -/
def m27_7 (R : VP) (t4 t5 : Value) (w : World) : Prop :=
  R (Value.tuple #[t4, t5]) w
def m27_9 (R : VP) (t4 t5 : Value) (w : World) : Prop :=
  R (Value.tuple #[t4, t5]) w
def m27_11 (R : VP) (t4 t5 : Value) (w : World) : Prop :=
  R (Value.tuple #[t4, t5]) w
def m27_13 (R : VP) (t4 t5 : Value) (w : World) : Prop :=
  R (Value.tuple #[t4, t5]) w
def m27_15 (R : VP) (t4 t5 : Value) (w : World) : Prop :=
  R (Value.tuple #[t4, t5]) w
def m27_18 (R : VP) (t4 t5 : Value) (w : World) : Prop :=
  R (Value.tuple #[t4, t5]) w
def m27_17 (R : VP) (w : World) : Prop :=
  m27_18 R (Value.int IntKind.i64 0) (Value.string ⟨#[]⟩) w
def m27_21 (R : VP) (t4 t5 : Value) (w : World) : Prop :=
  R (Value.tuple #[t4, t5]) w
def m27_20 (R : VP) (w : World) : Prop :=
  m27_21 R (Value.int IntKind.i64 0) (Value.string ⟨#[]⟩) w
def m27_4 (R : VP) (t4 t5 : Value) (w : World) : Prop :=
  R (Value.tuple #[t4, t5]) w
def m27_3 (R : VP) (s6 e7 : Value) (w : World) : Prop :=
  m27_4 R e7 s6 w
def m27_2 (R : VP) (d0 x3 : Value) (w : World) : Prop :=
  valP Tryd.prog (Instr.fieldAt 54 x3 2) w fun t63 w =>
  valP Tryd.prog (Instr.loadAt 9 t63) w fun t64 w =>
  callP Tryd.prog (fnV 15) #[d0, t64] w fun t65 w =>
  valP Tryd.prog (Instr.extract t65 0) w fun t66 w =>
  valP Tryd.prog (Instr.extract t65 1) w fun t67 w =>
  m27_3 R t66 t67 w
def m27_19 (R : VP) (d0 x3 t55 : Value) (w : World) : Prop :=
  condP t55
  (valP Tryd.prog (Instr.fieldAt 54 x3 5) w fun t58 w =>
  valP Tryd.prog (Instr.loadAt 46 t58) w fun t59 w =>
  callP Tryd.prog (fnV 14) #[d0, t59] w fun t60 w =>
  m27_20 R w)
  (m27_2 R d0 x3 w)
def m27_16 (R : VP) (d0 x3 t9 t49 : Value) (w : World) : Prop :=
  condP t49
  (valP Tryd.prog (Instr.fieldAt 54 x3 1) w fun t52 w =>
  valP Tryd.prog (Instr.loadAt 3 t52) w fun t53 w =>
  callP Tryd.prog (fnV 11) #[d0, t53] w fun t54 w =>
  m27_17 R w)
  (valP Tryd.prog (binS BinOp.eql 3 (Operand.tmp 9) (Operand.const (Value.int IntKind.i64 9)) t9 (Value.int IntKind.i64 9)) w fun t56 w =>
  m27_19 R d0 x3 t56 w)
def m27_14 (R : VP) (d0 x3 t9 t43 : Value) (w : World) : Prop :=
  condP t43
  (valP Tryd.prog (Instr.fieldAt 54 x3 2) w fun t46 w =>
  valP Tryd.prog (Instr.loadAt 9 t46) w fun t47 w =>
  callP Tryd.prog (fnV 30) #[d0, t47] w fun t48 w =>
  m27_15 R t48 (Value.string ⟨#[]⟩) w)
  (valP Tryd.prog (binS BinOp.eql 3 (Operand.tmp 9) (Operand.const (Value.int IntKind.i64 8)) t9 (Value.int IntKind.i64 8)) w fun t50 w =>
  m27_16 R d0 x3 t9 t50 w)
def m27_12 (R : VP) (d0 x3 t9 t35 : Value) (w : World) : Prop :=
  condP t35
  (valP Tryd.prog (Instr.fieldAt 54 x3 2) w fun t38 w =>
  valP Tryd.prog (Instr.loadAt 9 t38) w fun t39 w =>
  valP Tryd.prog (Instr.fieldAt 54 x3 3) w fun t40 w =>
  valP Tryd.prog (Instr.loadAt 9 t40) w fun t41 w =>
  callP Tryd.prog (fnV 22) #[d0, t39, t41] w fun t42 w =>
  m27_13 R t42 (Value.string ⟨#[]⟩) w)
  (valP Tryd.prog (binS BinOp.eql 3 (Operand.tmp 9) (Operand.const (Value.int IntKind.i64 7)) t9 (Value.int IntKind.i64 7)) w fun t44 w =>
  m27_14 R d0 x3 t9 t44 w)
def m27_10 (R : VP) (d0 x3 t9 t27 : Value) (w : World) : Prop :=
  condP t27
  (valP Tryd.prog (Instr.fieldAt 54 x3 2) w fun t30 w =>
  valP Tryd.prog (Instr.loadAt 9 t30) w fun t31 w =>
  valP Tryd.prog (Instr.fieldAt 54 x3 1) w fun t32 w =>
  valP Tryd.prog (Instr.loadAt 3 t32) w fun t33 w =>
  callP Tryd.prog (fnV 29) #[d0, t31, t33] w fun t34 w =>
  m27_11 R t34 (Value.string ⟨#[]⟩) w)
  (valP Tryd.prog (binS BinOp.eql 3 (Operand.tmp 9) (Operand.const (Value.int IntKind.i64 6)) t9 (Value.int IntKind.i64 6)) w fun t36 w =>
  m27_12 R d0 x3 t9 t36 w)
def m27_8 (R : VP) (d0 x3 t9 t20 : Value) (w : World) : Prop :=
  condP t20
  (valP Tryd.prog (Instr.fieldAt 54 x3 2) w fun t24 w =>
  valP Tryd.prog (Instr.loadAt 9 t24) w fun t25 w =>
  callP Tryd.prog (fnV 28) #[d0, t25] w fun t26 w =>
  m27_9 R t26 (Value.string ⟨#[]⟩) w)
  (valP Tryd.prog (binS BinOp.eql 3 (Operand.tmp 9) (Operand.const (Value.int IntKind.i64 5)) t9 (Value.int IntKind.i64 5)) w fun t28 w =>
  m27_10 R d0 x3 t9 t28 w)
def m27_22 (R : VP) (d0 x3 t9 t20 : Value) (w : World) : Prop :=
  condP t20
  (m27_8 R d0 x3 t9 t20 w)
  (valP Tryd.prog (binS BinOp.eql 3 (Operand.tmp 9) (Operand.const (Value.int IntKind.i64 4)) t9 (Value.int IntKind.i64 4)) w fun t22 w =>
  m27_8 R d0 x3 t9 t22 w)
def m27_6 (R : VP) (d0 x3 t9 t10 : Value) (w : World) : Prop :=
  condP t10
  (valP Tryd.prog (Instr.fieldAt 54 x3 2) w fun t15 w =>
  valP Tryd.prog (Instr.loadAt 9 t15) w fun t16 w =>
  valP Tryd.prog (Instr.fieldAt 54 x3 4) w fun t17 w =>
  valP Tryd.prog (Instr.loadAt 9 t17) w fun t18 w =>
  callP Tryd.prog (fnV 12) #[d0, t16, t18] w fun t19 w =>
  m27_7 R t19 (Value.string ⟨#[]⟩) w)
  (valP Tryd.prog (binS BinOp.eql 3 (Operand.tmp 9) (Operand.const (Value.int IntKind.i64 3)) t9 (Value.int IntKind.i64 3)) w fun t21 w =>
  m27_22 R d0 x3 t9 t21 w)
def m27_24 (R : VP) (d0 x3 t9 t10 : Value) (w : World) : Prop :=
  condP t10
  (m27_6 R d0 x3 t9 t10 w)
  (valP Tryd.prog (binS BinOp.eql 3 (Operand.tmp 9) (Operand.const (Value.int IntKind.i64 2)) t9 (Value.int IntKind.i64 2)) w fun t13 w =>
  m27_6 R d0 x3 t9 t13 w)
def m27_23 (R : VP) (d0 x3 t9 t10 : Value) (w : World) : Prop :=
  condP t10
  (m27_6 R d0 x3 t9 t10 w)
  (valP Tryd.prog (binS BinOp.eql 3 (Operand.tmp 9) (Operand.const (Value.int IntKind.i64 1)) t9 (Value.int IntKind.i64 1)) w fun t12 w =>
  m27_24 R d0 x3 t9 t12 w)
def m27_5 (R : VP) (d0 x3 t9 : Value) (w : World) : Prop :=
  valP Tryd.prog (binS BinOp.eql 3 (Operand.tmp 9) (Operand.const (Value.int IntKind.i64 0)) t9 (Value.int IntKind.i64 0)) w fun t11 w =>
  m27_23 R d0 x3 t9 t11 w
def m27_1 (R : VP) (d0 x3 : Value) (w : World) : Prop :=
  valP Tryd.prog (Instr.fieldAt 54 x3 0) w fun t8 w =>
  valP Tryd.prog (Instr.loadAt 3 t8) w fun t9 w =>
  m27_5 R d0 x3 t9 w
def m27_0 (R : VP) (d0 x1 : Value) (w : World) : Prop :=
  valP Tryd.prog (Instr.box 54 x1) w fun x3 w =>
  m27_1 R d0 x3 w
abbrev W27 := cwp Tryd.prog (fun i => 0)
noncomputable def k27_0 : Code := (bodyOf Tryd.f27)
noncomputable def k27_1 : Code := (c2 k27_0)
noncomputable def k27_2 : Code := (c2 k27_1)
noncomputable def k27_3 : Code := (c2 k27_2)
noncomputable def k27_4 : Code := (c2 k27_3)
noncomputable def k27_5 : Code := (c2 (c1 k27_1))
noncomputable def k27_6 : Code := (c2 (c1 k27_5))
noncomputable def k27_7 : Code := (c2 (c1 k27_6))
noncomputable def k27_8 : Code := (c2 (c2 k27_6))
noncomputable def k27_9 : Code := (c2 (c1 k27_8))
noncomputable def k27_10 : Code := (c2 (c2 k27_8))
noncomputable def k27_11 : Code := (c2 (c1 k27_10))
noncomputable def k27_12 : Code := (c2 (c2 k27_10))
noncomputable def k27_13 : Code := (c2 (c1 k27_12))
noncomputable def k27_14 : Code := (c2 (c2 k27_12))
noncomputable def k27_15 : Code := (c2 (c1 k27_14))
noncomputable def k27_16 : Code := (c2 (c2 k27_14))
noncomputable def k27_17 : Code := (c2 (c1 k27_16))
noncomputable def k27_18 : Code := (c2 k27_17)
noncomputable def k27_19 : Code := (c2 (c2 k27_16))
noncomputable def k27_20 : Code := (c2 (c1 k27_19))
noncomputable def k27_21 : Code := (c2 k27_20)
noncomputable def k27_22 : Code := (c2 (c1 (c2 k27_6)))
noncomputable def k27_23 : Code := (c2 (c1 (c1 k27_5)))
noncomputable def k27_24 : Code := (c2 (c2 k27_23))
theorem s27_7 {R : VP} {Q : EQ} (hR : ∀ e w, (R (Value.tuple #[(e 4), (e 5)]) w) → Q .ret e w) (e : Env) (w : World) (h : m27_7 R (e 4) (e 5) w) : W27 k27_7 Q e w := by
  unfold m27_7 at h
  exact reA (hR _ _ h)
theorem s27_9 {R : VP} {Q : EQ} (hR : ∀ e w, (R (Value.tuple #[(e 4), (e 5)]) w) → Q .ret e w) (e : Env) (w : World) (h : m27_9 R (e 4) (e 5) w) : W27 k27_9 Q e w := by
  unfold m27_9 at h
  exact reA (hR _ _ h)
theorem s27_11 {R : VP} {Q : EQ} (hR : ∀ e w, (R (Value.tuple #[(e 4), (e 5)]) w) → Q .ret e w) (e : Env) (w : World) (h : m27_11 R (e 4) (e 5) w) : W27 k27_11 Q e w := by
  unfold m27_11 at h
  exact reA (hR _ _ h)
theorem s27_13 {R : VP} {Q : EQ} (hR : ∀ e w, (R (Value.tuple #[(e 4), (e 5)]) w) → Q .ret e w) (e : Env) (w : World) (h : m27_13 R (e 4) (e 5) w) : W27 k27_13 Q e w := by
  unfold m27_13 at h
  exact reA (hR _ _ h)
theorem s27_15 {R : VP} {Q : EQ} (hR : ∀ e w, (R (Value.tuple #[(e 4), (e 5)]) w) → Q .ret e w) (e : Env) (w : World) (h : m27_15 R (e 4) (e 5) w) : W27 k27_15 Q e w := by
  unfold m27_15 at h
  exact reA (hR _ _ h)
theorem s27_18 {R : VP} {Q : EQ} (hR : ∀ e w, (R (Value.tuple #[(e 4), (e 5)]) w) → Q .ret e w) (e : Env) (w : World) (h : m27_18 R (e 4) (e 5) w) : W27 k27_18 Q e w := by
  unfold m27_18 at h
  exact reA (hR _ _ h)
theorem s27_17 {R : VP} {Q : EQ} (hR : ∀ e w, (R (Value.tuple #[(e 4), (e 5)]) w) → Q .ret e w) (e : Env) (w : World) (h : m27_17 R w) : W27 k27_17 Q e w := by
  unfold m27_17 at h
  refine seA ?_
  have hN : ∀ e w, (m27_18 R (e 4) (e 5) w) → (thenE (W27 k27_18 Q) Q) .normal e w := fun e w h => then_N (s27_18 (R := R) (Q := Q) hR e w h)
  exact rgA 17 (fun e w => m27_18 R (e 4) (e 5) w) h hN
theorem s27_21 {R : VP} {Q : EQ} (hR : ∀ e w, (R (Value.tuple #[(e 4), (e 5)]) w) → Q .ret e w) (e : Env) (w : World) (h : m27_21 R (e 4) (e 5) w) : W27 k27_21 Q e w := by
  unfold m27_21 at h
  exact reA (hR _ _ h)
theorem s27_20 {R : VP} {Q : EQ} (hR : ∀ e w, (R (Value.tuple #[(e 4), (e 5)]) w) → Q .ret e w) (e : Env) (w : World) (h : m27_20 R w) : W27 k27_20 Q e w := by
  unfold m27_20 at h
  refine seA ?_
  have hN : ∀ e w, (m27_21 R (e 4) (e 5) w) → (thenE (W27 k27_21 Q) Q) .normal e w := fun e w h => then_N (s27_21 (R := R) (Q := Q) hR e w h)
  exact rgA 20 (fun e w => m27_21 R (e 4) (e 5) w) h hN
theorem s27_4 {R : VP} {Q : EQ} (hR : ∀ e w, (R (Value.tuple #[(e 4), (e 5)]) w) → Q .ret e w) (e : Env) (w : World) (h : m27_4 R (e 4) (e 5) w) : W27 k27_4 Q e w := by
  unfold m27_4 at h
  exact reA (hR _ _ h)
theorem s27_3 {R : VP} {Q : EQ} (hR : ∀ e w, (R (Value.tuple #[(e 4), (e 5)]) w) → Q .ret e w) (e : Env) (w : World) (h : m27_3 R (e 6) (e 7) w) : W27 k27_3 Q e w := by
  unfold m27_3 at h
  refine seA ?_
  have hN : ∀ e w, (m27_4 R (e 4) (e 5) w) → (thenE (W27 k27_4 Q) Q) .normal e w := fun e w h => then_N (s27_4 (R := R) (Q := Q) hR e w h)
  exact rgA 22 (fun e w => m27_4 R (e 4) (e 5) w) h hN
theorem s27_2 {R : VP} {Q : EQ} (hR : ∀ e w, (R (Value.tuple #[(e 4), (e 5)]) w) → Q .ret e w) (e : Env) (w : World) (h : m27_2 R (e 0) (e 3) w) : W27 k27_2 Q e w := by
  unfold m27_2 at h
  refine seA ?_
  have hN : ∀ e w, (m27_3 R (e 6) (e 7) w) → (thenE (W27 k27_3 Q) Q) .normal e w := fun e w h => then_N (s27_3 (R := R) (Q := Q) hR e w h)
  exact rgA 21 (fun e w => m27_3 R (e 6) (e 7) w) h hN
theorem s27_19 {R : VP} {Q : EQ} (hN : ∀ e w, (m27_2 R (e 0) (e 3) w) → Q .normal e w) (hR : ∀ e w, (R (Value.tuple #[(e 4), (e 5)]) w) → Q .ret e w) (e : Env) (w : World) (h : m27_19 R (e 0) (e 3) (e 55) w) : W27 k27_19 Q e w := by
  unfold m27_19 at h
  refine coA (Operand.tmp 55) h (fun h1 => ?_) (fun h1 => ?_)
  · refine seA ?_
    have hN : ∀ e w, (m27_20 R w) → (thenE (W27 k27_20 Q) Q) .normal e w := fun e w h => then_N (s27_20 (R := R) (Q := Q) hR e w h)
    exact rgA 19 (fun e w => m27_20 R w) h1 hN
  · exact skA (hN _ _ h1)
theorem s27_16 {R : VP} {Q : EQ} (hN : ∀ e w, (m27_2 R (e 0) (e 3) w) → Q .normal e w) (hR : ∀ e w, (R (Value.tuple #[(e 4), (e 5)]) w) → Q .ret e w) (e : Env) (w : World) (h : m27_16 R (e 0) (e 3) (e 9) (e 49) w) : W27 k27_16 Q e w := by
  unfold m27_16 at h
  refine coA (Operand.tmp 49) h (fun h1 => ?_) (fun h1 => ?_)
  · refine seA ?_
    have hN : ∀ e w, (m27_17 R w) → (thenE (W27 k27_17 Q) Q) .normal e w := fun e w h => then_N (s27_17 (R := R) (Q := Q) hR e w h)
    exact rgA 16 (fun e w => m27_17 R w) h1 hN
  · refine seA ?_
    have hN : ∀ e w, (m27_19 R (e 0) (e 3) (e 55) w) → (thenE (W27 k27_19 Q) Q) .normal e w := fun e w h => then_N (s27_19 (R := R) (Q := Q) hN hR e w h)
    exact rgA 18 (fun e w => m27_19 R (e 0) (e 3) (e 55) w) h1 hN
theorem s27_14 {R : VP} {Q : EQ} (hN : ∀ e w, (m27_2 R (e 0) (e 3) w) → Q .normal e w) (hR : ∀ e w, (R (Value.tuple #[(e 4), (e 5)]) w) → Q .ret e w) (e : Env) (w : World) (h : m27_14 R (e 0) (e 3) (e 9) (e 43) w) : W27 k27_14 Q e w := by
  unfold m27_14 at h
  refine coA (Operand.tmp 43) h (fun h1 => ?_) (fun h1 => ?_)
  · refine seA ?_
    have hN : ∀ e w, (m27_15 R (e 4) (e 5) w) → (thenE (W27 k27_15 Q) Q) .normal e w := fun e w h => then_N (s27_15 (R := R) (Q := Q) hR e w h)
    exact rgA 14 (fun e w => m27_15 R (e 4) (e 5) w) h1 hN
  · refine seA ?_
    have hN : ∀ e w, (m27_16 R (e 0) (e 3) (e 9) (e 49) w) → (thenE (W27 k27_16 Q) Q) .normal e w := fun e w h => then_N (s27_16 (R := R) (Q := Q) hN hR e w h)
    exact rgA 15 (fun e w => m27_16 R (e 0) (e 3) (e 9) (e 49) w) h1 hN
theorem s27_12 {R : VP} {Q : EQ} (hN : ∀ e w, (m27_2 R (e 0) (e 3) w) → Q .normal e w) (hR : ∀ e w, (R (Value.tuple #[(e 4), (e 5)]) w) → Q .ret e w) (e : Env) (w : World) (h : m27_12 R (e 0) (e 3) (e 9) (e 35) w) : W27 k27_12 Q e w := by
  unfold m27_12 at h
  refine coA (Operand.tmp 35) h (fun h1 => ?_) (fun h1 => ?_)
  · refine seA ?_
    have hN : ∀ e w, (m27_13 R (e 4) (e 5) w) → (thenE (W27 k27_13 Q) Q) .normal e w := fun e w h => then_N (s27_13 (R := R) (Q := Q) hR e w h)
    exact rgA 12 (fun e w => m27_13 R (e 4) (e 5) w) h1 hN
  · refine seA ?_
    have hN : ∀ e w, (m27_14 R (e 0) (e 3) (e 9) (e 43) w) → (thenE (W27 k27_14 Q) Q) .normal e w := fun e w h => then_N (s27_14 (R := R) (Q := Q) hN hR e w h)
    exact rgA 13 (fun e w => m27_14 R (e 0) (e 3) (e 9) (e 43) w) h1 hN
theorem s27_10 {R : VP} {Q : EQ} (hN : ∀ e w, (m27_2 R (e 0) (e 3) w) → Q .normal e w) (hR : ∀ e w, (R (Value.tuple #[(e 4), (e 5)]) w) → Q .ret e w) (e : Env) (w : World) (h : m27_10 R (e 0) (e 3) (e 9) (e 27) w) : W27 k27_10 Q e w := by
  unfold m27_10 at h
  refine coA (Operand.tmp 27) h (fun h1 => ?_) (fun h1 => ?_)
  · refine seA ?_
    have hN : ∀ e w, (m27_11 R (e 4) (e 5) w) → (thenE (W27 k27_11 Q) Q) .normal e w := fun e w h => then_N (s27_11 (R := R) (Q := Q) hR e w h)
    exact rgA 10 (fun e w => m27_11 R (e 4) (e 5) w) h1 hN
  · refine seA ?_
    have hN : ∀ e w, (m27_12 R (e 0) (e 3) (e 9) (e 35) w) → (thenE (W27 k27_12 Q) Q) .normal e w := fun e w h => then_N (s27_12 (R := R) (Q := Q) hN hR e w h)
    exact rgA 11 (fun e w => m27_12 R (e 0) (e 3) (e 9) (e 35) w) h1 hN
theorem s27_8 {R : VP} {Q : EQ} (hN : ∀ e w, (m27_2 R (e 0) (e 3) w) → Q .normal e w) (hR : ∀ e w, (R (Value.tuple #[(e 4), (e 5)]) w) → Q .ret e w) (e : Env) (w : World) (h : m27_8 R (e 0) (e 3) (e 9) (e 20) w) : W27 k27_8 Q e w := by
  unfold m27_8 at h
  refine coA (Operand.tmp 20) h (fun h1 => ?_) (fun h1 => ?_)
  · refine seA ?_
    have hN : ∀ e w, (m27_9 R (e 4) (e 5) w) → (thenE (W27 k27_9 Q) Q) .normal e w := fun e w h => then_N (s27_9 (R := R) (Q := Q) hR e w h)
    exact rgA 8 (fun e w => m27_9 R (e 4) (e 5) w) h1 hN
  · refine seA ?_
    have hN : ∀ e w, (m27_10 R (e 0) (e 3) (e 9) (e 27) w) → (thenE (W27 k27_10 Q) Q) .normal e w := fun e w h => then_N (s27_10 (R := R) (Q := Q) hN hR e w h)
    exact rgA 9 (fun e w => m27_10 R (e 0) (e 3) (e 9) (e 27) w) h1 hN
theorem s27_22 {R : VP} {Q : EQ} (hN : ∀ e w, (m27_8 R (e 0) (e 3) (e 9) (e 20) w) → Q .normal e w) (e : Env) (w : World) (h : m27_22 R (e 0) (e 3) (e 9) (e 20) w) : W27 k27_22 Q e w := by
  unfold m27_22 at h
  refine coA (Operand.tmp 20) h (fun h1 => ?_) (fun h1 => ?_)
  · exact skA (hN _ _ h1)
  · exact rgA 7 (fun e w => m27_8 R (e 0) (e 3) (e 9) (e 20) w) h1 hN
theorem s27_6 {R : VP} {Q : EQ} (hN : ∀ e w, (m27_2 R (e 0) (e 3) w) → Q .normal e w) (hR : ∀ e w, (R (Value.tuple #[(e 4), (e 5)]) w) → Q .ret e w) (e : Env) (w : World) (h : m27_6 R (e 0) (e 3) (e 9) (e 10) w) : W27 k27_6 Q e w := by
  unfold m27_6 at h
  refine coA (Operand.tmp 10) h (fun h1 => ?_) (fun h1 => ?_)
  · refine seA ?_
    have hN : ∀ e w, (m27_7 R (e 4) (e 5) w) → (thenE (W27 k27_7 Q) Q) .normal e w := fun e w h => then_N (s27_7 (R := R) (Q := Q) hR e w h)
    exact rgA 5 (fun e w => m27_7 R (e 4) (e 5) w) h1 hN
  · refine seA ?_
    have hN : ∀ e w, (m27_8 R (e 0) (e 3) (e 9) (e 20) w) → (thenE (W27 k27_8 Q) Q) .normal e w := fun e w h => then_N (s27_8 (R := R) (Q := Q) hN hR e w h)
    refine seA ?_
    have hN : ∀ e w, (m27_22 R (e 0) (e 3) (e 9) (e 20) w) → (thenE (W27 k27_22 (thenE (W27 k27_8 Q) Q)) (thenE (W27 k27_8 Q) Q)) .normal e w := fun e w h => then_N (s27_22 (R := R) (Q := (thenE (W27 k27_8 Q) Q)) hN e w h)
    exact rgA 6 (fun e w => m27_22 R (e 0) (e 3) (e 9) (e 20) w) h1 hN
theorem s27_24 {R : VP} {Q : EQ} (hN : ∀ e w, (m27_6 R (e 0) (e 3) (e 9) (e 10) w) → Q .normal e w) (e : Env) (w : World) (h : m27_24 R (e 0) (e 3) (e 9) (e 10) w) : W27 k27_24 Q e w := by
  unfold m27_24 at h
  refine coA (Operand.tmp 10) h (fun h1 => ?_) (fun h1 => ?_)
  · exact skA (hN _ _ h1)
  · exact rgA 4 (fun e w => m27_6 R (e 0) (e 3) (e 9) (e 10) w) h1 hN
theorem s27_23 {R : VP} {Q : EQ} (hN : ∀ e w, (m27_6 R (e 0) (e 3) (e 9) (e 10) w) → Q .normal e w) (e : Env) (w : World) (h : m27_23 R (e 0) (e 3) (e 9) (e 10) w) : W27 k27_23 Q e w := by
  unfold m27_23 at h
  refine coA (Operand.tmp 10) h (fun h1 => ?_) (fun h1 => ?_)
  · exact skA (hN _ _ h1)
  · refine seA ?_
    have hN : ∀ e w, (m27_24 R (e 0) (e 3) (e 9) (e 10) w) → (thenE (W27 k27_24 Q) Q) .normal e w := fun e w h => then_N (s27_24 (R := R) (Q := Q) hN e w h)
    exact rgA 3 (fun e w => m27_24 R (e 0) (e 3) (e 9) (e 10) w) h1 hN
theorem s27_5 {R : VP} {Q : EQ} (hN : ∀ e w, (m27_2 R (e 0) (e 3) w) → Q .normal e w) (hR : ∀ e w, (R (Value.tuple #[(e 4), (e 5)]) w) → Q .ret e w) (e : Env) (w : World) (h : m27_5 R (e 0) (e 3) (e 9) w) : W27 k27_5 Q e w := by
  unfold m27_5 at h
  refine block_ok 0 (by kernel_rfl) ?_
  have hN : ∀ e w, (m27_2 R (e 0) (e 3) w) → (inBlockE 0 Q) .normal e w := fun e w h => block_N (hN e w h)
  have hR : ∀ e w, (R (Value.tuple #[(e 4), (e 5)]) w) → (inBlockE 0 Q) .ret e w := fun e w h => block_R (hR e w h)
  refine seA ?_
  have hN : ∀ e w, (m27_6 R (e 0) (e 3) (e 9) (e 10) w) → (thenE (W27 k27_6 (inBlockE 0 Q)) (inBlockE 0 Q)) .normal e w := fun e w h => then_N (s27_6 (R := R) (Q := (inBlockE 0 Q)) hN hR e w h)
  refine seA ?_
  have hN : ∀ e w, (m27_23 R (e 0) (e 3) (e 9) (e 10) w) → (thenE (W27 k27_23 (thenE (W27 k27_6 (inBlockE 0 Q)) (inBlockE 0 Q))) (thenE (W27 k27_6 (inBlockE 0 Q)) (inBlockE 0 Q))) .normal e w := fun e w h => then_N (s27_23 (R := R) (Q := (thenE (W27 k27_6 (inBlockE 0 Q)) (inBlockE 0 Q))) hN e w h)
  exact rgA 2 (fun e w => m27_23 R (e 0) (e 3) (e 9) (e 10) w) h hN
theorem s27_1 {R : VP} {Q : EQ} (hR : ∀ e w, (R (Value.tuple #[(e 4), (e 5)]) w) → Q .ret e w) (e : Env) (w : World) (h : m27_1 R (e 0) (e 3) w) : W27 k27_1 Q e w := by
  unfold m27_1 at h
  refine seA ?_
  have hN : ∀ e w, (m27_2 R (e 0) (e 3) w) → (thenE (W27 k27_2 Q) Q) .normal e w := fun e w h => then_N (s27_2 (R := R) (Q := Q) hR e w h)
  have hR : ∀ e w, (R (Value.tuple #[(e 4), (e 5)]) w) → (thenE (W27 k27_2 Q) Q) .ret e w := fun e w h => then_R (hR e w h)
  refine seA ?_
  have hN : ∀ e w, (m27_5 R (e 0) (e 3) (e 9) w) → (thenE (W27 k27_5 (thenE (W27 k27_2 Q) Q)) (thenE (W27 k27_2 Q) Q)) .normal e w := fun e w h => then_N (s27_5 (R := R) (Q := (thenE (W27 k27_2 Q) Q)) hN hR e w h)
  exact rgA 1 (fun e w => m27_5 R (e 0) (e 3) (e 9) w) h hN
theorem s27_0 {R : VP} {Q : EQ} (hR : ∀ e w, (R (Value.tuple #[(e 4), (e 5)]) w) → Q .ret e w) (e : Env) (w : World) (h : m27_0 R (e 0) (e 1) w) : W27 k27_0 Q e w := by
  unfold m27_0 at h
  refine seA ?_
  have hN : ∀ e w, (m27_1 R (e 0) (e 3) w) → (thenE (W27 k27_1 Q) Q) .normal e w := fun e w h => then_N (s27_1 (R := R) (Q := Q) hR e w h)
  exact rgA 0 (fun e w => m27_1 R (e 0) (e 3) w) h hN
abbrev m27 (R : VP) (d0 x1 : Value) (w : World) : Prop := m27_0 R d0 x1 w
theorem s27 (d0 x1 : Value) {R : VP} {w : World} (h : m27 R d0 x1 w) :
    Calls Tryd.prog 27 #[d0, x1] w fun e w' => ∃ v, e = .returned v ∧ R v w' :=
  calls_of_cwp (st := (fun i => 0)) (c := k27_0) (by kernel_rfl) Tryd.func27 (by kernel_rfl) (Nat.le_of_ble_eq_true (by kernel_rfl)) (by kernel_rfl)
    (s27_0 (R := R) (Q := endE Tryd.prog Tryd.f27 R) (fun e w h => kcast (by kernel_rfl) h) (argsE #[d0, x1]) w (kcast (by kernel_rfl) h))
end Go.Proofs.YtcldjjmfpmkldaaDoor.M
