/- Parts of a proof, in one text: what it needs of Msave0, E1, FwM, Mdisk0, D2, D3, Mmore0. -/
import Derived.Test.YtcldjjmfpmkldaaGreatDoorJCleanerSaves5
import Derived.Test.YtcldjjmfpmkldaaGreatDoorProg
import Derived.Sort.KeysCollected
namespace Go.Proofs.YtcldjjmfpmkldaaGreatDoor.M
open Go.Proofs.YtcldjjmfpmkldaaGreatDoor.F
set_option linter.unusedVariables false
set_option maxRecDepth 100000
variable {R : VP} {Q : EQ}
def m7_19 (R : VP) (t6 : Value) (w : World) : Prop :=
  R t6 w
def m7_17 (R : VP) (t6 : Value) (w : World) : Prop :=
  R t6 w
def m7_13 (R : VP) (t6 : Value) (w : World) : Prop :=
  R t6 w
def m7_10 (R : VP) (t6 : Value) (w : World) : Prop :=
  R t6 w
def m7_7 (R : VP) (t6 : Value) (w : World) : Prop :=
  R t6 w
def m7_6 (R : VP) (d0 name4 : Value) (w : World) : Prop :=
  valP Tryz.prog (Instr.loadAt 9 name4) w fun t55 w =>
  valP Tryz.prog (binS BinOp.add 9 (tm 55) (Operand.const (Value.string ⟨#[46, 110, 101, 119]⟩)) t55 (Value.string ⟨#[46, 110, 101, 119]⟩)) w fun t56 w =>
  valP Tryz.prog (Instr.loadAt 9 name4) w fun t57 w =>
  callP Tryz.prog (fnV 28) #[d0, t56, t57] w fun t58 w =>
  m7_7 R t58 w
def m7_9 (R : VP) (d0 name4 e11 t52 : Value) (w : World) : Prop :=
  condP t52
  (m7_10 R e11 w)
  (m7_6 R d0 name4 w)
def m7_8 (R : VP) (d0 name4 e11 : Value) (w : World) : Prop :=
  valP Tryz.prog (binS BinOp.neq 26 (tm 51) (ci 0) e11 (vi 0)) w fun t52 w =>
  m7_9 R d0 name4 e11 t52 w
def m7_5 (R : VP) (d0 name4 : Value) (w : World) : Prop :=
  valP Tryz.prog (Instr.loadAt 9 name4) w fun t48 w =>
  valP Tryz.prog (binS BinOp.add 9 (tm 48) (Operand.const (Value.string ⟨#[46, 110, 101, 119]⟩)) t48 (Value.string ⟨#[46, 110, 101, 119]⟩)) w fun t49 w =>
  callP Tryz.prog (fnV 27) #[d0, t49] w fun t50 w =>
  m7_8 R d0 name4 t50 w
def m7_12 (R : VP) (d0 name4 e10 t45 : Value) (w : World) : Prop :=
  condP t45
  (m7_13 R e10 w)
  (m7_5 R d0 name4 w)
def m7_11 (R : VP) (d0 name4 e10 : Value) (w : World) : Prop :=
  valP Tryz.prog (binS BinOp.neq 26 (tm 44) (ci 0) e10 (vi 0)) w fun t45 w =>
  m7_12 R d0 name4 e10 t45 w
def m7_4 (R : VP) (d0 name4 s7 : Value) (w : World) : Prop :=
  valP Tryz.prog (Instr.loadAt 9 name4) w fun t40 w =>
  valP Tryz.prog (binS BinOp.add 9 (tm 40) (Operand.const (Value.string ⟨#[46, 110, 101, 119]⟩)) t40 (Value.string ⟨#[46, 110, 101, 119]⟩)) w fun t41 w =>
  callP Tryz.prog (fnV 17) #[d0, t41, s7] w fun t43 w =>
  m7_11 R d0 name4 t43 w
def m7_16 (R : VP) (d0 name4 s7 e9 t37 : Value) (w : World) : Prop :=
  condP t37
  (m7_17 R e9 w)
  (m7_4 R d0 name4 s7 w)
def m7_15 (R : VP) (d0 name4 s7 e9 : Value) (w : World) : Prop :=
  valP Tryz.prog (binS BinOp.neq 26 (tm 36) (ci 0) e9 (vi 0)) w fun t37 w =>
  m7_16 R d0 name4 s7 e9 t37 w
def m7_14 (R : VP) (d0 name4 s7 t31 : Value) (w : World) : Prop :=
  condP t31
  (valP Tryz.prog (Instr.loadAt 9 name4) w fun t33 w =>
  valP Tryz.prog (binS BinOp.add 9 (tm 33) (Operand.const (Value.string ⟨#[46, 110, 101, 119]⟩)) t33 (Value.string ⟨#[46, 110, 101, 119]⟩)) w fun t34 w =>
  callP Tryz.prog (fnV 26) #[d0, t34] w fun t35 w =>
  m7_15 R d0 name4 s7 t35 w)
  (m7_4 R d0 name4 s7 w)
def m7_3 (R : VP) (d0 name4 s7 : Value) (w : World) : Prop :=
  callP Tryz.prog (fnV 24) #[d0] w fun t29 w =>
  valP Tryz.prog (Instr.makeFunc (Fn.func 25) #[] #[name4]) w fun t30 w =>
  callP Tryz.prog (fnV 23) #[t29, t30] w fun t31 w =>
  m7_14 R d0 name4 s7 t31 w
def m7_18 (R : VP) (d0 name4 s7 t27 : Value) (w : World) : Prop :=
  condP t27
  (m7_19 R (vi 1) w)
  (m7_3 R d0 name4 s7 w)
def m7_2 (R : VP) (d0 name4 s7 e8 : Value) (w : World) : Prop :=
  valP Tryz.prog (binS BinOp.neq 26 (tm 17) (ci 0) e8 (vi 0)) w fun t18 w =>
  condP t18
  (pickP t18 (Value.bool true) undef fun t22 =>
  condP t22
  (pickP t22 (Value.bool true) undef fun t27 =>
  m7_18 R d0 name4 s7 t27 w)
  (valP Tryz.prog (Instr.loadAt 9 name4) w fun t24 w =>
  callP Tryz.prog (fnV 22) #[t24] w fun t25 w =>
  valP Tryz.prog (Op.unary UnOp.not t25) w fun t26 w =>
  pickP t22 (Value.bool true) t26 fun t27 =>
  m7_18 R d0 name4 s7 t27 w))
  (valP Tryz.prog (binS BinOp.eql 25 (tm 20) (Operand.const (Value.pointer none)) d0 (Value.pointer none)) w fun t21 w =>
  pickP t18 (Value.bool true) t21 fun t22 =>
  condP t22
  (pickP t22 (Value.bool true) undef fun t27 =>
  m7_18 R d0 name4 s7 t27 w)
  (valP Tryz.prog (Instr.loadAt 9 name4) w fun t24 w =>
  callP Tryz.prog (fnV 22) #[t24] w fun t25 w =>
  valP Tryz.prog (Op.unary UnOp.not t25) w fun t26 w =>
  pickP t22 (Value.bool true) t26 fun t27 =>
  m7_18 R d0 name4 s7 t27 w))
def m7_1 (R : VP) (d0 l2 name4 : Value) (w : World) : Prop :=
  callP Tryz.prog (fnV 21) #[l2] w fun t14 w =>
  valP Tryz.prog (Instr.extract t14 0) w fun t15 w =>
  valP Tryz.prog (Instr.extract t14 1) w fun t16 w =>
  m7_2 R d0 name4 t15 t16 w
def m7_0 (R : VP) (d0 name1 l2 : Value) (w : World) : Prop :=
  valP Tryz.prog (Instr.box 9 name1) w fun name4 w =>
  m7_1 R d0 l2 name4 w
abbrev W7 := cwp Tryz.prog (fun i => 0)
noncomputable def k7_0 := bodyOf Tryz.f7
noncomputable def k7_1 := c2 k7_0
noncomputable def k7_2 := c2 k7_1
noncomputable def k7_3 := c2 k7_2
noncomputable def k7_4 := c2 k7_3
noncomputable def k7_5 := c2 k7_4
noncomputable def k7_6 := c2 k7_5
noncomputable def k7_7 := c2 k7_6
noncomputable def k7_8 := c2 (c1 k7_5)
noncomputable def k7_9 := c2 k7_8
noncomputable def k7_10 := c2 (c1 k7_9)
noncomputable def k7_11 := c2 (c1 k7_4)
noncomputable def k7_12 := c2 k7_11
noncomputable def k7_13 := c2 (c1 k7_12)
noncomputable def k7_14 := c2 (c1 k7_3)
noncomputable def k7_15 := c2 (c1 k7_14)
noncomputable def k7_16 := c2 k7_15
noncomputable def k7_17 := c2 (c1 k7_16)
noncomputable def k7_18 := c2 (c1 k7_2)
noncomputable def k7_19 := c2 (c1 k7_18)
abbrev hR7 (R : VP) (Q : EQ) : Prop := ∀ e w, (R (e 6) w) → Q .ret e w
theorem s7_19 (hR : hR7 R Q) (e : Env) (w : World) (h : m7_19 R (e 6) w) : W7 k7_19 Q e w := by
  exact reA (hR _ _ h)
theorem s7_17 (hR : hR7 R Q) (e : Env) (w : World) (h : m7_17 R (e 6) w) : W7 k7_17 Q e w := by
  exact reA (hR _ _ h)
theorem s7_13 (hR : hR7 R Q) (e : Env) (w : World) (h : m7_13 R (e 6) w) : W7 k7_13 Q e w := by
  exact reA (hR _ _ h)
theorem s7_10 (hR : hR7 R Q) (e : Env) (w : World) (h : m7_10 R (e 6) w) : W7 k7_10 Q e w := by
  exact reA (hR _ _ h)
theorem s7_7 (hR : hR7 R Q) (e : Env) (w : World) (h : m7_7 R (e 6) w) : W7 k7_7 Q e w := by
  exact reA (hR _ _ h)
theorem s7_6 (hR : hR7 R Q) (e : Env) (w : World) (h : m7_6 R (e 0) (e 4) w) : W7 k7_6 Q e w := by
  refine seA ?_
  exact rgA 14 (fun e w => m7_7 R (e 6) w) h fun e w h => then_N (s7_7 hR e w h)
theorem s7_9 (hN : ∀ e w, (m7_6 R (e 0) (e 4) w) → Q .normal e w) (hR : hR7 R Q) (e : Env) (w : World) (h : m7_9 R (e 0) (e 4) (e 11) (e 52) w) : W7 k7_9 Q e w := by
  refine coA (Operand.tmp 52) h (fun h1 => ?_) (fun h1 => ?_)
  · refine seA ?_
    exact rgA 13 (fun e w => m7_10 R (e 6) w) h1 fun e w h => then_N (s7_10 hR e w h)
  · exact skA (hN _ _ h1)
theorem s7_8 (hN : ∀ e w, (m7_6 R (e 0) (e 4) w) → Q .normal e w) (hR : hR7 R Q) (e : Env) (w : World) (h : m7_8 R (e 0) (e 4) (e 11) w) : W7 k7_8 Q e w := by
  refine seA ?_
  exact rgA 12 (fun e w => m7_9 R (e 0) (e 4) (e 11) (e 52) w) h fun e w h => then_N (s7_9 hN hR e w h)
theorem s7_5 (hR : hR7 R Q) (e : Env) (w : World) (h : m7_5 R (e 0) (e 4) w) : W7 k7_5 Q e w := by
  refine seA ?_
  have hN : ∀ e w, (m7_6 R (e 0) (e 4) w) → (thenE (W7 k7_6 Q) Q) .normal e w := fun e w h => then_N (s7_6 hR e w h)
  have hR : hR7 R (thenE (W7 k7_6 Q) Q) := fun e w h => then_R (hR e w h)
  refine seA ?_
  exact rgA 11 (fun e w => m7_8 R (e 0) (e 4) (e 11) w) h fun e w h => then_N (s7_8 hN hR e w h)
theorem s7_12 (hN : ∀ e w, (m7_5 R (e 0) (e 4) w) → Q .normal e w) (hR : hR7 R Q) (e : Env) (w : World) (h : m7_12 R (e 0) (e 4) (e 10) (e 45) w) : W7 k7_12 Q e w := by
  refine coA (Operand.tmp 45) h (fun h1 => ?_) (fun h1 => ?_)
  · refine seA ?_
    exact rgA 10 (fun e w => m7_13 R (e 6) w) h1 fun e w h => then_N (s7_13 hR e w h)
  · exact skA (hN _ _ h1)
theorem s7_11 (hN : ∀ e w, (m7_5 R (e 0) (e 4) w) → Q .normal e w) (hR : hR7 R Q) (e : Env) (w : World) (h : m7_11 R (e 0) (e 4) (e 10) w) : W7 k7_11 Q e w := by
  refine seA ?_
  exact rgA 9 (fun e w => m7_12 R (e 0) (e 4) (e 10) (e 45) w) h fun e w h => then_N (s7_12 hN hR e w h)
theorem s7_4 (hR : hR7 R Q) (e : Env) (w : World) (h : m7_4 R (e 0) (e 4) (e 7) w) : W7 k7_4 Q e w := by
  refine seA ?_
  have hN : ∀ e w, (m7_5 R (e 0) (e 4) w) → (thenE (W7 k7_5 Q) Q) .normal e w := fun e w h => then_N (s7_5 hR e w h)
  have hR : hR7 R (thenE (W7 k7_5 Q) Q) := fun e w h => then_R (hR e w h)
  refine seA ?_
  exact rgA 8 (fun e w => m7_11 R (e 0) (e 4) (e 10) w) h fun e w h => then_N (s7_11 hN hR e w h)
theorem s7_16 (hN : ∀ e w, (m7_4 R (e 0) (e 4) (e 7) w) → Q .normal e w) (hR : hR7 R Q) (e : Env) (w : World) (h : m7_16 R (e 0) (e 4) (e 7) (e 9) (e 37) w) : W7 k7_16 Q e w := by
  refine coA (Operand.tmp 37) h (fun h1 => ?_) (fun h1 => ?_)
  · refine seA ?_
    exact rgA 7 (fun e w => m7_17 R (e 6) w) h1 fun e w h => then_N (s7_17 hR e w h)
  · exact skA (hN _ _ h1)
theorem s7_15 (hN : ∀ e w, (m7_4 R (e 0) (e 4) (e 7) w) → Q .normal e w) (hR : hR7 R Q) (e : Env) (w : World) (h : m7_15 R (e 0) (e 4) (e 7) (e 9) w) : W7 k7_15 Q e w := by
  refine seA ?_
  exact rgA 6 (fun e w => m7_16 R (e 0) (e 4) (e 7) (e 9) (e 37) w) h fun e w h => then_N (s7_16 hN hR e w h)
theorem s7_14 (hN : ∀ e w, (m7_4 R (e 0) (e 4) (e 7) w) → Q .normal e w) (hR : hR7 R Q) (e : Env) (w : World) (h : m7_14 R (e 0) (e 4) (e 7) (e 31) w) : W7 k7_14 Q e w := by
  refine coA (Operand.tmp 31) h (fun h1 => ?_) (fun h1 => ?_)
  · refine seA ?_
    exact rgA 5 (fun e w => m7_15 R (e 0) (e 4) (e 7) (e 9) w) h1 fun e w h => then_N (s7_15 hN hR e w h)
  · exact skA (hN _ _ h1)
theorem s7_3 (hR : hR7 R Q) (e : Env) (w : World) (h : m7_3 R (e 0) (e 4) (e 7) w) : W7 k7_3 Q e w := by
  refine seA ?_
  have hN : ∀ e w, (m7_4 R (e 0) (e 4) (e 7) w) → (thenE (W7 k7_4 Q) Q) .normal e w := fun e w h => then_N (s7_4 hR e w h)
  have hR : hR7 R (thenE (W7 k7_4 Q) Q) := fun e w h => then_R (hR e w h)
  refine seA ?_
  exact rgA 4 (fun e w => m7_14 R (e 0) (e 4) (e 7) (e 31) w) h fun e w h => then_N (s7_14 hN hR e w h)
theorem s7_18 (hN : ∀ e w, (m7_3 R (e 0) (e 4) (e 7) w) → Q .normal e w) (hR : hR7 R Q) (e : Env) (w : World) (h : m7_18 R (e 0) (e 4) (e 7) (e 27) w) : W7 k7_18 Q e w := by
  refine coA (Operand.tmp 27) h (fun h1 => ?_) (fun h1 => ?_)
  · refine seA ?_
    exact rgA 3 (fun e w => m7_19 R (e 6) w) h1 fun e w h => then_N (s7_19 hR e w h)
  · exact skA (hN _ _ h1)
theorem s7_2 (hR : hR7 R Q) (e : Env) (w : World) (h : m7_2 R (e 0) (e 4) (e 7) (e 8) w) : W7 k7_2 Q e w := by
  refine seA ?_
  have hN : ∀ e w, (m7_3 R (e 0) (e 4) (e 7) w) → (thenE (W7 k7_3 Q) Q) .normal e w := fun e w h => then_N (s7_3 hR e w h)
  have hR : hR7 R (thenE (W7 k7_3 Q) Q) := fun e w h => then_R (hR e w h)
  refine seA ?_
  exact rgA 2 (fun e w => m7_18 R (e 0) (e 4) (e 7) (e 27) w) h fun e w h => then_N (s7_18 hN hR e w h)
theorem s7_1 (hR : hR7 R Q) (e : Env) (w : World) (h : m7_1 R (e 0) (e 2) (e 4) w) : W7 k7_1 Q e w := by
  refine seA ?_
  exact rgA 1 (fun e w => m7_2 R (e 0) (e 4) (e 7) (e 8) w) h fun e w h => then_N (s7_2 hR e w h)
theorem s7_0 (hR : hR7 R Q) (e : Env) (w : World) (h : m7_0 R (e 0) (e 1) (e 2) w) : W7 k7_0 Q e w := by
  refine seA ?_
  exact rgA 0 (fun e w => m7_1 R (e 0) (e 2) (e 4) w) h fun e w h => then_N (s7_1 hR e w h)
abbrev m7 (R : VP) (d0 name1 l2 : Value) (w : World) : Prop := m7_0 R d0 name1 l2 w
theorem s7 (d0 name1 l2 : Value) {R : VP} {w : World} (h : m7 R d0 name1 l2 w) :
    Calls Tryz.prog 7 #[d0, name1, l2] w fun e w' => ∃ v, e = .returned v ∧ R v w' :=
  calls_of_cwp (st := (fun i => 0)) (c := k7_0) (by kernel_rfl) Tryz.func7 (by kernel_rfl) (Nat.le_of_ble_eq_true (by kernel_rfl)) (by kernel_rfl)
    (s7_0 (R := R) (Q := endE Tryz.prog Tryz.f7 R) (fun e w h => kcast (by kernel_rfl) h) (argsE #[d0, name1, l2]) w (kcast (by kernel_rfl) h))
def m25_2 (R : VP) (t3 : Value) (w : World) : Prop :=
  R t3 w
def m25_1 (R : VP) (t1 f2 : Value) (w : World) : Prop :=
  valP Tryz.prog (Instr.fieldAt 67 f2 0) w fun t4 w =>
  valP Tryz.prog (Instr.loadAt 9 t4) w fun t5 w =>
  valP Tryz.prog (Instr.loadAt 9 t1) w fun t6 w =>
  valP Tryz.prog (binS BinOp.add 9 (tm 6) (Operand.const (Value.string ⟨#[46, 110, 101, 119]⟩)) t6 (Value.string ⟨#[46, 110, 101, 119]⟩)) w fun t7 w =>
  valP Tryz.prog (binS BinOp.eql 9 (tm 5) (tm 7) t5 t7) w fun t8 w =>
  m25_2 R t8 w
def m25_0 (R : VP) (f0 t1 : Value) (w : World) : Prop :=
  valP Tryz.prog (Instr.box 67 f0) w fun f2 w =>
  m25_1 R t1 f2 w
abbrev W25 := cwp Tryz.prog (fun i => 0)
noncomputable def k25_0 := bodyOf Tryz.f25
noncomputable def k25_1 := c2 k25_0
noncomputable def k25_2 := c2 k25_1
abbrev hR25 (R : VP) (Q : EQ) : Prop := ∀ e w, (R (e 3) w) → Q .ret e w
theorem s25_2 (hR : hR25 R Q) (e : Env) (w : World) (h : m25_2 R (e 3) w) : W25 k25_2 Q e w := by
  exact reA (hR _ _ h)
theorem s25_1 (hR : hR25 R Q) (e : Env) (w : World) (h : m25_1 R (e 1) (e 2) w) : W25 k25_1 Q e w := by
  refine seA ?_
  exact rgA 1 (fun e w => m25_2 R (e 3) w) h fun e w h => then_N (s25_2 hR e w h)
theorem s25_0 (hR : hR25 R Q) (e : Env) (w : World) (h : m25_0 R (e 0) (e 1) w) : W25 k25_0 Q e w := by
  refine seA ?_
  exact rgA 0 (fun e w => m25_1 R (e 1) (e 2) w) h fun e w h => then_N (s25_1 hR e w h)
abbrev m25 (R : VP) (f0 t1 : Value) (w : World) : Prop := m25_0 R f0 t1 w
theorem s25 (f0 t1 : Value) {R : VP} {w : World} (h : m25 R f0 t1 w) :
    Calls Tryz.prog 25 #[f0, t1] w fun e w' => ∃ v, e = .returned v ∧ R v w' :=
  calls_of_cwp (st := (fun i => 0)) (c := k25_0) (by kernel_rfl) Tryz.func25 (by kernel_rfl) (Nat.le_of_ble_eq_true (by kernel_rfl)) (by kernel_rfl)
    (s25_0 (R := R) (Q := endE Tryz.prog Tryz.f25 R) (fun e w h => kcast (by kernel_rfl) h) (argsE #[f0, t1]) w (kcast (by kernel_rfl) h))
def m22_2 (R : VP) (t2 : Value) (w : World) : Prop :=
  R t2 w
def m22_1 (R : VP) (name0 : Value) (w : World) : Prop :=
  valP Tryz.prog (binS BinOp.neq 9 (tm 3) (Operand.const (Value.string ⟨#[]⟩)) name0 (Value.string ⟨#[]⟩)) w fun t4 w =>
  condP t4
  (builtinP Tryz.prog Builtin.len #[9] 3 #[false] #[name0] w fun t7 w =>
  valP Tryz.prog (binS BinOp.leq 3 (tm 7) (ci 16) t7 (vi 16)) w fun t8 w =>
  pickP t4 t8 (Value.bool false) fun t9 =>
  condP t9
  (callP Tryz.prog (fnV 63) #[name0, (Value.string ⟨#[97, 98, 99, 100, 101, 102, 103, 104, 105, 106, 107, 108, 109, 110, 111, 112, 113, 114, 115, 116, 117, 118, 119, 120, 121, 122, 48, 49, 50, 51, 52, 53, 54, 55, 56, 57, 45]⟩)] w fun t12 w =>
  valP Tryz.prog (binS BinOp.eql 9 (tm 12) (Operand.const (Value.string ⟨#[]⟩)) t12 (Value.string ⟨#[]⟩)) w fun t13 w =>
  pickP t9 t13 (Value.bool false) fun t14 =>
  m22_2 R t14 w)
  (pickP t9 undef (Value.bool false) fun t14 =>
  m22_2 R t14 w))
  (pickP t4 undef (Value.bool false) fun t9 =>
  condP t9
  (callP Tryz.prog (fnV 63) #[name0, (Value.string ⟨#[97, 98, 99, 100, 101, 102, 103, 104, 105, 106, 107, 108, 109, 110, 111, 112, 113, 114, 115, 116, 117, 118, 119, 120, 121, 122, 48, 49, 50, 51, 52, 53, 54, 55, 56, 57, 45]⟩)] w fun t12 w =>
  valP Tryz.prog (binS BinOp.eql 9 (tm 12) (Operand.const (Value.string ⟨#[]⟩)) t12 (Value.string ⟨#[]⟩)) w fun t13 w =>
  pickP t9 t13 (Value.bool false) fun t14 =>
  m22_2 R t14 w)
  (pickP t9 undef (Value.bool false) fun t14 =>
  m22_2 R t14 w))
def m22_0 (R : VP) (name0 : Value) (w : World) : Prop :=
  m22_1 R name0 w
abbrev W22 := cwp Tryz.prog (fun i => 0)
noncomputable def k22_0 := bodyOf Tryz.f22
noncomputable def k22_1 := c2 k22_0
noncomputable def k22_2 := c2 k22_1
abbrev hR22 (R : VP) (Q : EQ) : Prop := ∀ e w, (R (e 2) w) → Q .ret e w
theorem s22_2 (hR : hR22 R Q) (e : Env) (w : World) (h : m22_2 R (e 2) w) : W22 k22_2 Q e w := by
  exact reA (hR _ _ h)
theorem s22_1 (hR : hR22 R Q) (e : Env) (w : World) (h : m22_1 R (e 0) w) : W22 k22_1 Q e w := by
  refine seA ?_
  exact rgA 1 (fun e w => m22_2 R (e 2) w) h fun e w h => then_N (s22_2 hR e w h)
theorem s22_0 (hR : hR22 R Q) (e : Env) (w : World) (h : m22_0 R (e 0) w) : W22 k22_0 Q e w := by
  refine seA ?_
  exact rgA 0 (fun e w => m22_1 R (e 0) w) h fun e w h => then_N (s22_1 hR e w h)
abbrev m22 (R : VP) (name0 : Value) (w : World) : Prop := m22_0 R name0 w
theorem s22 (name0 : Value) {R : VP} {w : World} (h : m22 R name0 w) :
    Calls Tryz.prog 22 #[name0] w fun e w' => ∃ v, e = .returned v ∧ R v w' :=
  calls_of_cwp (st := (fun i => 0)) (c := k22_0) (by kernel_rfl) Tryz.func22 (by kernel_rfl) (Nat.le_of_ble_eq_true (by kernel_rfl)) (by kernel_rfl)
    (s22_0 (R := R) (Q := endE Tryz.prog Tryz.f22 R) (fun e w h => kcast (by kernel_rfl) h) (argsE #[name0]) w (kcast (by kernel_rfl) h))
def m10_9 (R : VP) (t4 t5 : Value) (w : World) : Prop :=
  R (Value.tuple #[t4, t5]) w
def m10_7 (R : VP) (t4 t5 : Value) (w : World) : Prop :=
  R (Value.tuple #[t4, t5]) w
def m10_5 (R : VP) (t4 t5 : Value) (w : World) : Prop :=
  R (Value.tuple #[t4, t5]) w
def m10_4 (R : VP) (s6 : Value) (w : World) : Prop :=
  callP Tryz.prog (fnV 34) #[s6] w fun t25 w =>
  valP Tryz.prog (Instr.extract t25 0) w fun t26 w =>
  valP Tryz.prog (Instr.extract t25 1) w fun t27 w =>
  m10_5 R t26 t27 w
def m10_6 (R : VP) (s6 e7 t22 : Value) (w : World) : Prop :=
  condP t22
  (m10_7 R (Value.slice none 0 0) e7 w)
  (m10_4 R s6 w)
def m10_3 (R : VP) (s6 e7 : Value) (w : World) : Prop :=
  valP Tryz.prog (binS BinOp.neq 26 (tm 21) (ci 0) e7 (vi 0)) w fun t22 w =>
  m10_6 R s6 e7 t22 w
def m10_2 (R : VP) (d0 name1 : Value) (w : World) : Prop :=
  callP Tryz.prog (fnV 33) #[d0, name1] w fun t18 w =>
  valP Tryz.prog (Instr.extract t18 0) w fun t19 w =>
  valP Tryz.prog (Instr.extract t18 1) w fun t20 w =>
  m10_3 R t19 t20 w
def m10_8 (R : VP) (d0 name1 t14 : Value) (w : World) : Prop :=
  condP t14
  (m10_9 R (Value.slice none 0 0) (vi 1) w)
  (m10_2 R d0 name1 w)
def m10_1 (R : VP) (d0 name1 : Value) (w : World) : Prop :=
  valP Tryz.prog (binS BinOp.eql 25 (tm 8) (Operand.const (Value.pointer none)) d0 (Value.pointer none)) w fun t9 w =>
  condP t9
  (pickP t9 (Value.bool true) undef fun t14 =>
  m10_8 R d0 name1 t14 w)
  (callP Tryz.prog (fnV 22) #[name1] w fun t12 w =>
  valP Tryz.prog (Op.unary UnOp.not t12) w fun t13 w =>
  pickP t9 (Value.bool true) t13 fun t14 =>
  m10_8 R d0 name1 t14 w)
def m10_0 (R : VP) (d0 name1 : Value) (w : World) : Prop :=
  m10_1 R d0 name1 w
abbrev W10 := cwp Tryz.prog (fun i => 0)
noncomputable def k10_0 := bodyOf Tryz.f10
noncomputable def k10_1 := c2 k10_0
noncomputable def k10_2 := c2 k10_1
noncomputable def k10_3 := c2 k10_2
noncomputable def k10_4 := c2 k10_3
noncomputable def k10_5 := c2 k10_4
noncomputable def k10_6 := c2 (c1 k10_3)
noncomputable def k10_7 := c2 (c1 k10_6)
noncomputable def k10_8 := c2 (c1 k10_1)
noncomputable def k10_9 := c2 (c1 k10_8)
abbrev hR10 (R : VP) (Q : EQ) : Prop := ∀ e w, (R (Value.tuple #[(e 4), (e 5)]) w) → Q .ret e w
theorem s10_9 (hR : hR10 R Q) (e : Env) (w : World) (h : m10_9 R (e 4) (e 5) w) : W10 k10_9 Q e w := by
  exact reA (hR _ _ h)
theorem s10_7 (hR : hR10 R Q) (e : Env) (w : World) (h : m10_7 R (e 4) (e 5) w) : W10 k10_7 Q e w := by
  exact reA (hR _ _ h)
theorem s10_5 (hR : hR10 R Q) (e : Env) (w : World) (h : m10_5 R (e 4) (e 5) w) : W10 k10_5 Q e w := by
  exact reA (hR _ _ h)
theorem s10_4 (hR : hR10 R Q) (e : Env) (w : World) (h : m10_4 R (e 6) w) : W10 k10_4 Q e w := by
  refine seA ?_
  exact rgA 6 (fun e w => m10_5 R (e 4) (e 5) w) h fun e w h => then_N (s10_5 hR e w h)
theorem s10_6 (hN : ∀ e w, (m10_4 R (e 6) w) → Q .normal e w) (hR : hR10 R Q) (e : Env) (w : World) (h : m10_6 R (e 6) (e 7) (e 22) w) : W10 k10_6 Q e w := by
  refine coA (Operand.tmp 22) h (fun h1 => ?_) (fun h1 => ?_)
  · refine seA ?_
    exact rgA 5 (fun e w => m10_7 R (e 4) (e 5) w) h1 fun e w h => then_N (s10_7 hR e w h)
  · exact skA (hN _ _ h1)
theorem s10_3 (hR : hR10 R Q) (e : Env) (w : World) (h : m10_3 R (e 6) (e 7) w) : W10 k10_3 Q e w := by
  refine seA ?_
  have hN : ∀ e w, (m10_4 R (e 6) w) → (thenE (W10 k10_4 Q) Q) .normal e w := fun e w h => then_N (s10_4 hR e w h)
  have hR : hR10 R (thenE (W10 k10_4 Q) Q) := fun e w h => then_R (hR e w h)
  refine seA ?_
  exact rgA 4 (fun e w => m10_6 R (e 6) (e 7) (e 22) w) h fun e w h => then_N (s10_6 hN hR e w h)
theorem s10_2 (hR : hR10 R Q) (e : Env) (w : World) (h : m10_2 R (e 0) (e 1) w) : W10 k10_2 Q e w := by
  refine seA ?_
  exact rgA 3 (fun e w => m10_3 R (e 6) (e 7) w) h fun e w h => then_N (s10_3 hR e w h)
theorem s10_8 (hN : ∀ e w, (m10_2 R (e 0) (e 1) w) → Q .normal e w) (hR : hR10 R Q) (e : Env) (w : World) (h : m10_8 R (e 0) (e 1) (e 14) w) : W10 k10_8 Q e w := by
  refine coA (Operand.tmp 14) h (fun h1 => ?_) (fun h1 => ?_)
  · refine seA ?_
    exact rgA 2 (fun e w => m10_9 R (e 4) (e 5) w) h1 fun e w h => then_N (s10_9 hR e w h)
  · exact skA (hN _ _ h1)
theorem s10_1 (hR : hR10 R Q) (e : Env) (w : World) (h : m10_1 R (e 0) (e 1) w) : W10 k10_1 Q e w := by
  refine seA ?_
  have hN : ∀ e w, (m10_2 R (e 0) (e 1) w) → (thenE (W10 k10_2 Q) Q) .normal e w := fun e w h => then_N (s10_2 hR e w h)
  have hR : hR10 R (thenE (W10 k10_2 Q) Q) := fun e w h => then_R (hR e w h)
  refine seA ?_
  exact rgA 1 (fun e w => m10_8 R (e 0) (e 1) (e 14) w) h fun e w h => then_N (s10_8 hN hR e w h)
theorem s10_0 (hR : hR10 R Q) (e : Env) (w : World) (h : m10_0 R (e 0) (e 1) w) : W10 k10_0 Q e w := by
  refine seA ?_
  exact rgA 0 (fun e w => m10_1 R (e 0) (e 1) w) h fun e w h => then_N (s10_1 hR e w h)
abbrev m10 (R : VP) (d0 name1 : Value) (w : World) : Prop := m10_0 R d0 name1 w
theorem s10 (d0 name1 : Value) {R : VP} {w : World} (h : m10 R d0 name1 w) :
    Calls Tryz.prog 10 #[d0, name1] w fun e w' => ∃ v, e = .returned v ∧ R v w' :=
  calls_of_cwp (st := (fun i => 0)) (c := k10_0) (by kernel_rfl) Tryz.func10 (by kernel_rfl) (Nat.le_of_ble_eq_true (by kernel_rfl)) (by kernel_rfl)
    (s10_0 (R := R) (Q := endE Tryz.prog Tryz.f10 R) (fun e w h => kcast (by kernel_rfl) h) (argsE #[d0, name1]) w (kcast (by kernel_rfl) h))
def m23_2 (R : VP) (t4 : Value) (w : World) : Prop :=
  R t4 w
def m23_1 (R : VP) (s0 f1 : Value) (w : World) : Prop :=
  callP Tryz.prog (fnV 64) #[s0, f1] w fun t7 w =>
  valP Tryz.prog (binS BinOp.geq 3 (tm 7) (ci 0) t7 (vi 0)) w fun t8 w =>
  m23_2 R t8 w
def m23_0 (R : VP) (s0 f1 : Value) (w : World) : Prop :=
  m23_1 R s0 f1 w
abbrev W23 := cwp Tryz.prog (fun i => 0)
noncomputable def k23_0 := bodyOf Tryz.f23
noncomputable def k23_1 := c2 k23_0
noncomputable def k23_2 := c2 k23_1
abbrev hR23 (R : VP) (Q : EQ) : Prop := ∀ e w, (R (e 4) w) → Q .ret e w
theorem s23_2 (hR : hR23 R Q) (e : Env) (w : World) (h : m23_2 R (e 4) w) : W23 k23_2 Q e w := by
  exact reA (hR _ _ h)
theorem s23_1 (hR : hR23 R Q) (e : Env) (w : World) (h : m23_1 R (e 0) (e 1) w) : W23 k23_1 Q e w := by
  refine seA ?_
  exact rgA 1 (fun e w => m23_2 R (e 4) w) h fun e w h => then_N (s23_2 hR e w h)
theorem s23_0 (hR : hR23 R Q) (e : Env) (w : World) (h : m23_0 R (e 0) (e 1) w) : W23 k23_0 Q e w := by
  refine seA ?_
  exact rgA 0 (fun e w => m23_1 R (e 0) (e 1) w) h fun e w h => then_N (s23_1 hR e w h)
abbrev m23 (R : VP) (s0 f1 : Value) (w : World) : Prop := m23_0 R s0 f1 w
theorem s23 (s0 f1 : Value) {R : VP} {w : World} (h : m23 R s0 f1 w) :
    Calls Tryz.prog 23 #[s0, f1] w fun e w' => ∃ v, e = .returned v ∧ R v w' :=
  calls_of_cwp (st := (fun i => 0)) (c := k23_0) (by kernel_rfl) Tryz.func23 (by kernel_rfl) (Nat.le_of_ble_eq_true (by kernel_rfl)) (by kernel_rfl)
    (s23_0 (R := R) (Q := endE Tryz.prog Tryz.f23 R) (fun e w h => kcast (by kernel_rfl) h) (argsE #[s0, f1]) w (kcast (by kernel_rfl) h))
def m64_11 (R : VP) (K1 : VP) (t4 : Value) (w : World) : Prop :=
  R t4 w
def m64_8 (R : VP) (K1 : VP) (s0 f1 t7 t8 : Value) (w : World) : Prop :=
  valP Tryz.prog (binS BinOp.add 3 (tm 8) (ci 1) t8 (vi 1)) w fun t18 w =>
  K1 t18 w
def m64_10 (R : VP) (K1 : VP) (s0 f1 i5 t7 t8 t16 : Value) (w : World) : Prop :=
  condP t16
  (m64_11 R K1 i5 w)
  (m64_8 R K1 s0 f1 t7 t8 w)
def m64_9 (R : VP) (K1 : VP) (s0 f1 i5 t7 t8 : Value) (w : World) : Prop :=
  valP Tryz.prog (Instr.indexAt 39 s0 i5) w fun t14 w =>
  valP Tryz.prog (Instr.loadAt 67 t14) w fun t15 w =>
  callP Tryz.prog f1 #[t15] w fun t16 w =>
  m64_10 R K1 s0 f1 i5 t7 t8 t16 w
def m64_7 (R : VP) (K1 : VP) (s0 f1 t7 t8 : Value) (w : World) : Prop :=
  m64_9 R K1 s0 f1 t8 t7 t8 w
def m64_3 (R : VP) (t4 : Value) (w : World) : Prop :=
  R t4 w
def m64_2 (R : VP) (w : World) : Prop :=
  m64_3 R (vi (-1)) w
def m64_6 (R : VP) (K1 : VP) (s0 f1 t7 t8 t9 : Value) (w : World) : Prop :=
  condP t9
  (m64_7 R K1 s0 f1 t7 t8 w)
  (m64_2 R w)
def m64_5 (R : VP) (K1 : VP) (s0 f1 t7 t8 : Value) (w : World) : Prop :=
  valP Tryz.prog (binS BinOp.lss 3 (tm 8) (tm 7) t8 t7) w fun t9 w =>
  m64_6 R K1 s0 f1 t7 t8 t9 w
def m64_4 (R : VP) (s0 f1 t7 t8 : Value) (w : World) : Prop :=
  loopP (fun (K1 : VP) (s : Value) w => m64_5 R K1 s0 f1 t7 s w) t8 w
def m64_1 (R : VP) (s0 f1 : Value) (w : World) : Prop :=
  builtinP Tryz.prog Builtin.len #[39] 3 #[false] #[s0] w fun t7 w =>
  m64_4 R s0 f1 t7 (vi 0) w
def m64_0 (R : VP) (s0 f1 : Value) (w : World) : Prop :=
  m64_1 R s0 f1 w
abbrev W64 := cwp Tryz.prog (fun i => 0)
noncomputable def k64_0 := bodyOf Tryz.f64
noncomputable def k64_1 := c2 k64_0
noncomputable def k64_2 := c2 k64_1
noncomputable def k64_3 := c2 k64_2
noncomputable def k64_4 := c2 (c1 k64_1)
noncomputable def k64_5 := c1 (c1 k64_4)
noncomputable def k64_6 := c2 k64_5
noncomputable def k64_7 := c2 k64_6
noncomputable def k64_8 := c2 k64_7
noncomputable def k64_9 := c2 (c1 (c1 k64_7))
noncomputable def k64_10 := c2 k64_9
noncomputable def k64_11 := c2 (c1 k64_10)
abbrev hR64 (R : VP) (Q : EQ) : Prop := ∀ e w, (R (e 4) w) → Q .ret e w
theorem s64_11 {K1 : VP} (hR : hR64 R Q) (e : Env) (w : World) (h : m64_11 R K1 (e 4) w) : W64 k64_11 Q e w := by
  exact reA (hR _ _ h)
theorem s64_8 {K1 : VP} (hN : ∀ e w, (K1 (e 8) w) → Q .normal e w) (e : Env) (w : World) (h : m64_8 R K1 (e 0) (e 1) (e 7) (e 8) w) : W64 k64_8 Q e w := by
  exact rgA 6 (fun e w => K1 (e 8) w) h hN
theorem s64_10 {K1 : VP} (hN : ∀ e w, (m64_8 R K1 (e 0) (e 1) (e 7) (e 8) w) → Q .normal e w) (hR : hR64 R Q) (e : Env) (w : World) (h : m64_10 R K1 (e 0) (e 1) (e 5) (e 7) (e 8) (e 16) w) : W64 k64_10 Q e w := by
  refine coA (Operand.tmp 16) h (fun h1 => ?_) (fun h1 => ?_)
  · refine seA ?_
    exact rgA 5 (fun e w => m64_11 R K1 (e 4) w) h1 fun e w h => then_N (s64_11 hR e w h)
  · exact skA (hN _ _ h1)
theorem s64_9 {K1 : VP} (hN : ∀ e w, (m64_8 R K1 (e 0) (e 1) (e 7) (e 8) w) → Q .normal e w) (hR : hR64 R Q) (e : Env) (w : World) (h : m64_9 R K1 (e 0) (e 1) (e 5) (e 7) (e 8) w) : W64 k64_9 Q e w := by
  refine seA ?_
  exact rgA 4 (fun e w => m64_10 R K1 (e 0) (e 1) (e 5) (e 7) (e 8) (e 16) w) h fun e w h => then_N (s64_10 hN hR e w h)
theorem s64_7 {K1 : VP} (hN : ∀ e w, (K1 (e 8) w) → Q .normal e w) (hR : hR64 R Q) (e : Env) (w : World) (h : m64_7 R K1 (e 0) (e 1) (e 7) (e 8) w) : W64 k64_7 Q e w := by
  refine seA ?_
  have hN : ∀ e w, (m64_8 R K1 (e 0) (e 1) (e 7) (e 8) w) → (thenE (W64 k64_8 Q) Q) .normal e w := fun e w h => then_N (s64_8 hN e w h)
  have hR : hR64 R (thenE (W64 k64_8 Q) Q) := fun e w h => then_R (hR e w h)
  refine block_ok 1 (by kernel_rfl) ?_
  have hN : ∀ e w, (m64_8 R K1 (e 0) (e 1) (e 7) (e 8) w) → (inBlockE 1 (thenE (W64 k64_8 Q) Q)) .normal e w := fun e w h => block_N (hN e w h)
  have hR : hR64 R (inBlockE 1 (thenE (W64 k64_8 Q) Q)) := fun e w h => block_R (hR e w h)
  refine seA ?_
  exact rgA 3 (fun e w => m64_9 R K1 (e 0) (e 1) (e 5) (e 7) (e 8) w) h fun e w h => then_N (s64_9 (R := R) (Q := (inBlockE 1 (thenE (W64 k64_8 Q) Q))) hN hR e w h)
theorem s64_3 (hR : hR64 R Q) (e : Env) (w : World) (h : m64_3 R (e 4) w) : W64 k64_3 Q e w := by
  exact reA (hR _ _ h)
theorem s64_2 (hR : hR64 R Q) (e : Env) (w : World) (h : m64_2 R w) : W64 k64_2 Q e w := by
  refine seA ?_
  exact rgA 7 (fun e w => m64_3 R (e 4) w) h fun e w h => then_N (s64_3 hR e w h)
theorem s64_6 {K1 : VP} (hN : ∀ e w, (K1 (e 8) w) → Q .normal e w) (hR : hR64 R Q) (hX0 : ∀ e w, (m64_2 R w) → Q (.exit 0) e w) (e : Env) (w : World) (h : m64_6 R K1 (e 0) (e 1) (e 7) (e 8) (e 9) w) : W64 k64_6 Q e w := by
  refine seA ?_
  have hN : ∀ e w, (m64_7 R K1 (e 0) (e 1) (e 7) (e 8) w) → (thenE (W64 k64_7 Q) Q) .normal e w := fun e w h => then_N (s64_7 hN hR e w h)
  have hX0 : ∀ e w, (m64_2 R w) → (thenE (W64 k64_7 Q) Q) (.exit 0) e w := fun e w h => then_X (hX0 e w h)
  refine coA (Operand.tmp 9) h (fun h1 => ?_) (fun h1 => ?_)
  · exact skA (hN _ _ h1)
  · exact exA 0 (hX0 _ _ h1)
theorem s64_5 {K1 : VP} (hN : ∀ e w, (K1 (e 8) w) → Q .normal e w) (hR : hR64 R Q) (hX0 : ∀ e w, (m64_2 R w) → Q (.exit 0) e w) (e : Env) (w : World) (h : m64_5 R K1 (e 0) (e 1) (e 7) (e 8) w) : W64 k64_5 Q e w := by
  refine seA ?_
  exact rgA 2 (fun e w => m64_6 R K1 (e 0) (e 1) (e 7) (e 8) (e 9) w) h fun e w h => then_N (s64_6 hN hR hX0 e w h)
theorem s64_4 (hN : ∀ e w, (m64_2 R w) → Q .normal e w) (hR : hR64 R Q) (e : Env) (w : World) (h : m64_4 R (e 0) (e 1) (e 7) (e 8) w) : W64 k64_4 Q e w := by
  refine block_ok 0 (by kernel_rfl) ?_
  have hX0 : ∀ e w, (m64_2 R w) → (inBlockE 0 Q) (.exit 0) e w := fun e w h => inBlock_same (Q := Q) 0 (hN e w h)
  have hR : hR64 R (inBlockE 0 Q) := fun e w h => block_R (hR e w h)
  refine loop_ok' (fun (e : Env) => e 8) [0, 1, 7] (by kernel_rfl) (by kernel_rfl) h (fun K e' w' hk h' => ?_)
  have r0 : e' 0 = e 0 := hk 0 (by decide)
  have r1 : e' 1 = e 1 := hk 1 (by decide)
  have r7 : e' 7 = e 7 := hk 7 (by decide)
  have hR : hR64 R (thenE (fun (e : Env) w => K (e 8) w) (inBlockE 0 Q)) := fun e w h => then_R (hR e w h)
  have hX0 : ∀ e w, (m64_2 R w) → (thenE (fun (e : Env) w => K (e 8) w) (inBlockE 0 Q)) (.exit 0) e w := fun e w h => then_X (hX0 e w h)
  exact s64_5 (K1 := K) (fun _ _ h => then_N h) hR hX0 e' w' (by rw [r0, r1, r7]; exact h')
theorem s64_1 (hR : hR64 R Q) (e : Env) (w : World) (h : m64_1 R (e 0) (e 1) w) : W64 k64_1 Q e w := by
  refine seA ?_
  have hN : ∀ e w, (m64_2 R w) → (thenE (W64 k64_2 Q) Q) .normal e w := fun e w h => then_N (s64_2 hR e w h)
  have hR : hR64 R (thenE (W64 k64_2 Q) Q) := fun e w h => then_R (hR e w h)
  refine seA ?_
  exact rgA 1 (fun e w => m64_4 R (e 0) (e 1) (e 7) (e 8) w) h fun e w h => then_N (s64_4 hN hR e w h)
theorem s64_0 (hR : hR64 R Q) (e : Env) (w : World) (h : m64_0 R (e 0) (e 1) w) : W64 k64_0 Q e w := by
  refine seA ?_
  exact rgA 0 (fun e w => m64_1 R (e 0) (e 1) w) h fun e w h => then_N (s64_1 hR e w h)
abbrev m64 (R : VP) (s0 f1 : Value) (w : World) : Prop := m64_0 R s0 f1 w
theorem s64 (s0 f1 : Value) {R : VP} {w : World} (h : m64 R s0 f1 w) :
    Calls Tryz.prog 64 #[s0, f1] w fun e w' => ∃ v, e = .returned v ∧ R v w' :=
  calls_of_cwp (st := (fun i => 0)) (c := k64_0) (by kernel_rfl) Tryz.func64 (by kernel_rfl) (Nat.le_of_ble_eq_true (by kernel_rfl)) (by kernel_rfl)
    (s64_0 (R := R) (Q := endE Tryz.prog Tryz.f64 R) (fun e w h => kcast (by kernel_rfl) h) (argsE #[s0, f1]) w (kcast (by kernel_rfl) h))
end Go.Proofs.YtcldjjmfpmkldaaGreatDoor.M
namespace Go.Proofs.YtcldjjmfpmkldaaGreatDoor.M
open Go.Proofs.YtcldjjmfpmkldaaGreatDoor.F Go.RowKit
set_option linter.unusedVariables false
set_option linter.unusedSimpArgs false
set_option maxRecDepth 100000
set_option maxHeartbeats 2000000
attribute [local irreducible] Res.cells Res.row Res.map Res.any World.cell? World.frozen? Instr.fieldAt Instr.loadAt Instr.storeAt Instr.indexAt Instr.lookup Instr.mapUpdate Instr.box Instr.build Instr.buildSlice Instr.extract Instr.alloc Instr.field Instr.index Instr.sliceAt Instr.makeSlice Instr.makeMap Instr.makeFunc binS Op.unary Sem.run
def NamedB (s : ByteArray) : Prop := 0 < s.size ∧ s.size ≤ 16 ∧ AllLB s
instance (s : ByteArray) : Decidable (AllLB s) := by unfold AllLB; infer_instance
instance (s : ByteArray) : Decidable (NamedB s) := by unfold NamedB; infer_instance
section
variable {w0 w : World} {F : List Nat} {L : List Res} {s : ByteArray}
theorem named22_ret (hS : St w0 F w L) : Ret Tryz.prog 22 #[.string s] w fun v w' => v = .bool (decide (NamedB s)) ∧ St w0 F w' L := by
  refine s22 _ ?_
  unfold m22
  unfold m22_0
  have leaf : ∀ t : Bool, (t = true ↔ NamedB s) → ∀ w, St w0 F w L → m22_2 (fun v w' => v = .bool (decide (NamedB s)) ∧ St w0 F w' L) (.bool t) w := fun t ht w hS => by
    unfold m22_2
    refine ⟨congrArg Value.bool ?_, hS⟩
    cases t with
    | true => exact (decide_eq_true (ht.1 rfl)).symm
    | false => exact (decide_eq_false fun h => by have := ht.2 h; cases this).symm
  unfold m22_1
  refine valP_ok (ne9 _ _ _ _ _) ?_
  refine cond_split (fun h => ?_) (fun h => ?_)
  · refine builtin_ok (len9 _) ?_
    refine valP_ok (leq_ok _ _ _ _ _ _ _) ?_
    refine pick_dt (by first | assumption | omega) ?_
    refine cond_split (fun h1 => ?_) (fun h1 => ?_)
    · have h0 : 0 < s.size := by
        rcases Nat.eq_zero_or_pos s.size with g | g
        · exact absurd ((empty_iff s).2 g) h
        · exact g
      refine callR (by kernel_rfl) (trim_retB h0 (by omega) hS) ?_
      rintro _ w ⟨⟨t, rfl, ht⟩, hS⟩
      refine valP_ok (eq9 _ _ _ _ _) ?_
      refine pick_dt (by first | assumption | omega) ?_
      refine leaf _ ?_ _ hS
      rw [decide_eq_true_eq, ht]
      unfold NamedB
      exact ⟨fun h => ⟨h0, by omega, h⟩, fun h => h.2.2⟩
    · refine pick_df (by first | assumption | omega) ?_
      exact leaf _ (by unfold NamedB; exact ⟨fun h => (by cases h), fun h => by omega⟩) _ hS
  · refine pick_df (by first | assumption | omega) ?_
    refine cond_f rfl ?_
    refine pick_f (by first | rfl | assumption) ?_
    refine leaf _ ⟨fun h => (by cases h), fun h1 => ?_⟩ _ hS
    exact absurd h1.1 (by rw [(empty_iff s).1 (Classical.not_not.1 h)]; omega)
end
end Go.Proofs.YtcldjjmfpmkldaaGreatDoor.M
namespace Go.Proofs.YtcldjjmfpmkldaaGreatDoor.F
set_option linter.unusedVariables false
set_option linter.unusedSimpArgs false
open Go Go.RowKit
def PtrE : Elem := fun v => match v with
  | .pointer none => some (.lit (.int .i64 (-1)), [])
  | .pointer (some ⟨b, 0, none⟩) => some (.lit (.int .i64 b), [])
  | _ => none
abbrev ptr (b : Nat) : Value := .pointer (some ⟨b, 0, none⟩)
theorem ptrE_some (b : Nat) : PtrE (ptr b) = some (.lit (.int .i64 b), []) := rfl
theorem ptrE_nil : PtrE (.pointer none) = some (.lit (.int .i64 (-1)), []) := rfl
theorem ptrE_inv {v : Value} {d : DataW Unit} {p : List MemPlace} (h : PtrE v = some (d, p)) : (v = .pointer none ∧ d = .lit (.int .i64 (-1))) ∨ ∃ b : Nat, v = ptr b ∧ d = .lit (.int .i64 b) := by
  unfold PtrE at h
  split at h
  · exact .inl ⟨rfl, ((Prod.mk.inj (Option.some.inj h)).1).symm⟩
  · exact .inr ⟨_, rfl, ((Prod.mk.inj (Option.some.inj h)).1).symm⟩
  · cases h
theorem ptrE_apart : Elem.apart PtrE := fun u v d p q h1 h2 => by
  rcases ptrE_inv h1 with ⟨rfl, e1⟩ | ⟨a, rfl, e1⟩ <;> rcases ptrE_inv h2 with ⟨rfl, e2⟩ | ⟨b, rfl, e2⟩
  · rfl
  · rw [e1] at e2
    simp only [DataW.lit.injEq, Lit.int.injEq, true_and] at e2
    omega
  · rw [e1] at e2
    simp only [DataW.lit.injEq, Lit.int.injEq, true_and] at e2
    omega
  · rw [e1] at e2
    simp only [DataW.lit.injEq, Lit.int.injEq, true_and] at e2
    obtain rfl : a = b := by omega
    rfl
abbrev Assoc := List (ByteArray × Nat)
def lst (s : ByteArray) : List UInt8 := s.data.toList
theorem lst_inj {a b : ByteArray} (h : lst a = lst b) : a = b := ByteArray.ext (Array.toList_inj.mp h)
abbrev ent (p : ByteArray × Nat) : Lit × DataW Unit := (.string (lst p.1), .lit (.int .i64 p.2))
def Assoc.find (A : Assoc) (s : ByteArray) : Option Nat := (A.find? (fun p => decide (p.1 = s))).map Prod.snd
def Assoc.Nd (A : Assoc) : Prop := A.Pairwise (fun p q => p.1 ≠ q.1)
theorem Assoc.find_mem {A : Assoc} (hn : A.Nd) {q : ByteArray × Nat} (hq : q ∈ A) : A.find q.1 = some q.2 := by
  induction A with
  | nil => cases hq
  | cons p A ih =>
    have hp := List.pairwise_cons.1 hn
    unfold Assoc.find
    rcases List.mem_cons.1 hq with rfl | h
    · simp
    · have hne : ¬ p.1 = q.1 := hp.1 q h
      rw [List.find?_cons_of_neg (by simp [hne])]
      exact ih hp.2 h
theorem Assoc.find_none {A : Assoc} {s : ByteArray} (h : A.find s = none) : ∀ p ∈ A, p.1 ≠ s := fun p hp e => by
  unfold Assoc.find at h
  rw [Option.map_eq_none_iff] at h
  have := List.find?_eq_none.1 h p hp
  simp [e] at this
theorem Assoc.find_some {A : Assoc} {s : ByteArray} {b : Nat} (h : A.find s = some b) : (s, b) ∈ A := by
  unfold Assoc.find at h
  obtain ⟨p, h1, h2⟩ := Option.map_eq_some_iff.1 h
  have h3 := List.find?_some h1
  have h4 := List.mem_of_find?_eq_some h1
  obtain ⟨k, v⟩ := p
  simp only [decide_eq_true_eq] at h3 h2
  rw [← h3, ← h2]
  exact h4
theorem Assoc.Nd.perm {A B : Assoc} (h : A.Nd) (hp : A.Perm B) : B.Nd := (hp.pairwise_iff (fun hab e => hab e.symm)).1 h
theorem Assoc.Nd.cons {A : Assoc} (h : A.Nd) (s : ByteArray) (b : Nat) : Assoc.Nd ((s, b) :: A.filter (fun p => decide (p.1 ≠ s))) := by
  refine List.pairwise_cons.2 ⟨fun q hq => ?_, h.filter _⟩
  have := (List.mem_filter.1 hq).2
  exact fun e => of_decide_eq_true this e.symm
def MapT (P : Program) (k : TypeId) (b : Nat) (A : Assoc) (w : World) : Prop := ∃ es, w.ownsMap P k PtrE b A.length (.map es) ∧ es.Perm (A.map ent) ∧ A.Nd ∧ ∀ p ∈ A, p.1.size ≤ maxLen
section
variable {P : Program} {k e t : TypeId} {b : Nat} {A : Assoc} {w w' : World}
theorem MapT.loc (h : w'.heap[b]? = w.heap[b]?) (hM : MapT P k b A w) : MapT P k b A w' := by
  obtain ⟨es', ⟨es, c, hb, hr⟩, h2⟩ := hM
  exact ⟨es', ⟨es, c, h.trans hb, hr⟩, h2⟩
def Res.mapT (P : Program) (k : TypeId) (b : Nat) (A : Assoc) : Res := ⟨[b], MapT P k b A, fun w w' h hM => hM.loc (h b (.head _))⟩
theorem MapT.made (w : World) : MapT P k w.heap.size [] (w.alloc (.map #[] 0)) := ⟨[], World.ownsMap_made _ _ _ _, .refl _, .nil, by simp⟩
theorem own_size {n m : Nat} {es : List (Lit × DataW Unit)} (h : w.ownsMap P k PtrE b n (.map es)) (hm : es.length = m) : w.ownsMap P k PtrE b m (.map es) := by
  obtain ⟨xs, c, hb, hF, hs, hD⟩ := h
  refine ⟨xs, c, hb, hF, ?_, hD⟩
  have := congrArg (Go.Maps.size) hD
  simp only [Go.Maps.size_eq, length_sorted, List.length_map, Array.length_toList] at this
  omega
theorem MapT.perm {B : Assoc} (h : MapT P k b A w) (hp : A.Perm B) : MapT P k b B w := by
  obtain ⟨es, h1, h2, h3, h4⟩ := h
  exact ⟨es, hp.length_eq ▸ h1, h2.trans (hp.map _), h3.perm hp, fun p hp' => h4 p (hp.mem_iff.2 hp')⟩
theorem atKey_ent {es : List (Lit × DataW Unit)} (hp : es.Perm (A.map ent)) (hn : A.Nd) (s : ByteArray) (z : DataW Unit) : (DataW.map es).atKey (.string (lst s)) z = (match A.find s with | some p => .lit (.int .i64 p) | none => z) := by
  unfold DataW.atKey
  simp only
  cases hf : es.find? (fun p => p.1.sameKey (.string (lst s))) with
  | none =>
    cases hA : A.find s with
    | none => rfl
    | some p =>
      have h1 := Assoc.find_some hA
      have h2 : ent (s, p) ∈ es := hp.mem_iff.2 (List.mem_map.2 ⟨_, h1, rfl⟩)
      have h3 := List.find?_eq_none.1 hf _ h2
      simp [Lit.sameKey] at h3
  | some x =>
    have h1 := List.mem_of_find?_eq_some hf
    have h2 := List.find?_some hf
    obtain ⟨q, hq, rfl⟩ := List.mem_map.1 (hp.mem_iff.1 h1)
    simp only [ent, Lit.sameKey, beq_iff_eq] at h2
    have h3 := lst_inj h2
    subst h3
    rw [Assoc.find_mem hn hq]
theorem keyS (hk : P.underlying k = some .string) {s : ByteArray} (hs : s.size ≤ maxLen) : keyOf P k (.string s) = some (.string (lst s)) := WideMaps.keyOf_string_mk hk hs
def found (o : Option Nat) : Value := .pointer (o.map fun b => ⟨b, 0, none⟩)
theorem MapT.lookup (h : MapT P k b A w) (hk : P.underlying k = some .string) (ht : P.underlying t = some (.map k e)) (hz : (zeroValue e).run P w = .ok (.pointer none) w) {s : ByteArray} (hs : s.size ≤ maxLen) :
    (Instr.lookup t (.map (some b)) (.string s) false).run P w = .ok (found (A.find s)) w := by
  obtain ⟨es, h1, h2, h3, _⟩ := h
  obtain ⟨v, ps, hr, hv⟩ := h1.lookup (Go.Maps.string_keyed hk) ht hz (zd := .lit (.int .i64 (-1))) (zp := []) rfl (keyS hk hs)
  rw [hr]
  rw [atKey_ent h2 h3] at hv
  congr 1
  cases hA : A.find s with
  | none =>
    rw [hA] at hv
    exact ptrE_apart _ _ _ _ _ hv ptrE_nil
  | some p =>
    rw [hA] at hv
    exact ptrE_apart _ _ _ _ _ hv (ptrE_some p)
theorem insert_perm (x : Lit × DataW Unit) : ∀ l : List (Lit × DataW Unit), (DataW.insert x l).Perm (x :: l)
  | [] => .refl _
  | y :: l => by
    unfold DataW.insert
    split
    · exact .refl _
    · exact ((insert_perm x l).cons y).trans (.swap _ _ _)
theorem filter_ent (s : ByteArray) : ∀ A : Assoc, (A.map ent).filter (fun p => !p.1.sameKey (.string (lst s))) = (A.filter (fun p => decide (p.1 ≠ s))).map ent
  | [] => rfl
  | p :: A => by
    have ih := filter_ent s A
    by_cases h : p.1 = s
    · rw [List.map_cons, List.filter_cons_of_neg (by simp [Lit.sameKey, h]), List.filter_cons_of_neg (by simp [h]), ih]
    · have h' : ¬ lst p.1 = lst s := fun e => h (lst_inj e)
      rw [List.map_cons, List.filter_cons_of_pos (by simp [Lit.sameKey, h']), List.filter_cons_of_pos (by simp [h]), ih, List.map_cons]
theorem MapT.update {B : Assoc} {v : Nat} (h : MapT P k b A w) (hk : P.underlying k = some .string) (ht : P.underlying t = some (.map k e)) (hl : A.length < maxLen) {s : ByteArray} (hs : s.size ≤ maxLen) (hB : B.Perm ((s, v) :: A.filter (fun p => decide (p.1 ≠ s)))) :
    ∃ w', (Instr.mapUpdate t (.map (some b)) (.string s) (ptr v)).run P w = .ok () w' ∧ MapT P k b B w' ∧ w.grownBy w' (some b) := by
  obtain ⟨es, h1, h2, h3, h4⟩ := h
  obtain ⟨w', hr, h5, h6⟩ := h1.update (Go.Maps.string_keyed hk) ht hl (keyS hk hs) (d := .lit (.int .i64 v)) (ps := []) (ptrE_some v)
  have h7 : ((DataW.map es).put (.string (lst s)) (.lit (.int .i64 v))) = .map (DataW.insert (ent (s, v)) (es.filter (fun p => !p.1.sameKey (.string (lst s))))) := rfl
  rw [h7] at h5
  have h8 : (DataW.insert (ent (s, v)) (es.filter (fun p => !p.1.sameKey (.string (lst s))))).Perm (((s, v) :: A.filter (fun p => decide (p.1 ≠ s))).map ent) := by
    refine (insert_perm _ _).trans ?_
    rw [List.map_cons]
    refine List.Perm.cons _ ?_
    rw [← filter_ent]
    exact h2.filter _
  refine ⟨w', hr, (MapT.perm (A := (s, v) :: A.filter (fun p => decide (p.1 ≠ s))) ⟨_, own_size h5 (by rw [h8.length_eq, List.length_map]), h8, h3.cons s v, fun p hp => ?_⟩ hB.symm), h6⟩
  rcases List.mem_cons.1 hp with rfl | hp
  · exact hs
  · exact h4 p (List.mem_filter.1 hp).1
theorem MapT.delete {B : Assoc} {ty : TypeId} (h : MapT P k b A w) (hk : P.underlying k = some .string) (ht : P.underlying t = some (.map k e)) {s : ByteArray} (hs : s.size ≤ maxLen) (hB : B.Perm (A.filter (fun p => decide (p.1 ≠ s)))) :
    ∃ w', (Builtin.delete_ #[t, k] ty #[.map (some b), .string s]).run P w = .ok (.tuple #[]) w' ∧ MapT P k b B w' ∧ w.grownBy w' (some b) := by
  obtain ⟨es, h1, h2, h3, h4⟩ := h
  obtain ⟨w', hr, h5, h6⟩ := h1.drop (Go.Maps.string_keyed hk) ht (keyS hk hs) ty
  have h7 : ((DataW.map es).del (.string (lst s))) = .map (es.filter (fun p => !p.1.sameKey (.string (lst s)))) := rfl
  rw [h7] at h5
  have h8 : (es.filter (fun p => !p.1.sameKey (.string (lst s)))).Perm ((A.filter (fun p => decide (p.1 ≠ s))).map ent) := by
    rw [← filter_ent]
    exact h2.filter _
  exact ⟨w', hr, MapT.perm (A := A.filter (fun p => decide (p.1 ≠ s))) ⟨_, own_size h5 (by rw [h8.length_eq, List.length_map]), h8, h3.filter _, fun p hp => h4 p (List.mem_filter.1 hp).1⟩ hB.symm, h6.grown⟩
theorem MapT.len {ty : TypeId} (h : MapT P k b A w) (ht : P.underlying t = some (.map k e)) : (Builtin.len_ #[t] ty #[.map (some b)]).run P w = .ok (.int .i64 (A.length : Int)) w := by
  obtain ⟨es, h1, h2, h3, _⟩ := h
  have := h1.len ht ty
  rw [Go.Maps.size_eq, h2.length_eq, List.length_map] at this
  exact this
def Up (A : Assoc) : Prop := A.Pairwise (fun p q => lst p.1 < lst q.1)
theorem Up.nd (h : Up A) : A.Nd := h.imp fun hab e => by rw [e] at hab; exact absurd hab (List.lt_irrefl _)
theorem sorted_keys (h : Up A) {ss : List (List UInt8)} (hp : ss.Perm (A.map fun p => lst p.1)) : ss.mergeSort (fun x y => decide (x ≤ y)) = A.map fun p => lst p.1 := by
  have h1 : (ss.mergeSort (fun x y => decide (x ≤ y))).Pairwise (fun x y => decide (x ≤ y) = true) := List.pairwise_mergeSort (fun a b c h1 h2 => by simp only [decide_eq_true_eq] at *; exact List.le_trans h1 h2) (fun a b => by simpa using List.le_total a b) ss
  have h2 : (A.map fun p => lst p.1).Pairwise (fun x y => decide (x ≤ y) = true) := by
    rw [List.pairwise_map]
    exact h.imp fun hab => by simpa using List.le_of_lt hab
  refine List.Perm.eq_of_pairwise (le := fun x y => decide (x ≤ y) = true) (fun a b _ _ h1 h2 => ?_) h1 h2 ((List.mergeSort_perm ss _).trans hp)
  simp only [decide_eq_true_eq] at h1 h2
  exact List.le_antisymm h1 h2
end
section
variable {P : Program} {k e t : TypeId} {b : Nat} {A B : Assoc} {w w0 : World} {F : List Nat} {L : List Res} {K : Value → World → Prop}
theorem St.mapT (j : Nat) (hS : St w0 F w L) (hj : L[j]? = some (Res.mapT P k b A)) : MapT P k b A w := hS.get j hj
theorem makeMapT_ok (k : TypeId) (hS : St w0 F w L) (h : ∀ b w', St w0 F w' (Res.mapT P k b [] :: L) → K (.map (some b)) w') : valP P (Instr.makeMap t none) w K := by
  refine valP_ok (run_makeMap t w) (h _ _ (hS.add (Chg.alloc _ _ _) (MapT.made w) (fun g hg => ?_) (fun g hg => ?_)))
  all_goals
    obtain rfl : g = w.heap.size := List.mem_singleton.1 hg
    simp
theorem putT_at (j : Nat) {v : Nat} {s : ByteArray} (B : Assoc) (hS : St w0 F w L) (hj : L[j]? = some (Res.mapT P k b A)) (hk : P.underlying k = some .string) (ht : P.underlying t = some (.map k e)) (hl : A.length < maxLen) (hs : s.size ≤ maxLen) (hB : B.Perm ((s, v) :: A.filter (fun p => decide (p.1 ≠ s))))
    (h : ∀ w', St w0 F w' (L.set j (Res.mapT P k b B)) → K undef w') : unitP P (Instr.mapUpdate t (.map (some b)) (.string s) (ptr v)) w K := by
  obtain ⟨w', hr, hm', hg⟩ := (hS.mapT j hj).update hk ht hl hs hB
  have hlt : b < w.heap.size := hS.lt _ (List.mem_of_getElem? hj) b (.head _)
  exact unitP_ok hr (h _ (hS.updk j hj ((Chg.of_grown hg).mono (by simp [Res.mapT])) hm' (fun g hg => .inl hg) (fun g' hg' => by
    obtain rfl : g' = b := List.mem_singleton.1 hg'
    exact Nat.lt_of_lt_of_le hlt hg.size)))
theorem delT_at (j : Nat) {ty : TypeId} {cs : Array Bool} {s : ByteArray} (B : Assoc) (hS : St w0 F w L) (hj : L[j]? = some (Res.mapT P k b A)) (hk : P.underlying k = some .string) (ht : P.underlying t = some (.map k e)) (hs : s.size ≤ maxLen) (hB : B.Perm (A.filter (fun p => decide (p.1 ≠ s))))
    (h : ∀ w', St w0 F w' (L.set j (Res.mapT P k b B)) → K (.tuple #[]) w') : builtinP P .delete #[t, k] ty cs #[.map (some b), .string s] w K := by
  obtain ⟨w', hr, hm', hg⟩ := (hS.mapT j hj).delete (ty := ty) hk ht hs hB
  have hlt : b < w.heap.size := hS.lt _ (List.mem_of_getElem? hj) b (.head _)
  exact builtin_ok (by simp [builtin, hr]) (h _ (hS.updk j hj ((Chg.of_grown hg).mono (by simp [Res.mapT])) hm' (fun g hg => .inl hg) (fun g' hg' => by
    obtain rfl : g' = b := List.mem_singleton.1 hg'
    exact Nat.lt_of_lt_of_le hlt hg.size)))
theorem lenT_ok (j : Nat) {ty : TypeId} {cs : Array Bool} (hS : St w0 F w L) (hj : L[j]? = some (Res.mapT P k b A)) (ht : P.underlying t = some (.map k e)) (h : K (.int .i64 (A.length : Int)) w) : builtinP P .len #[t] ty cs #[.map (some b)] w K :=
  builtin_ok (by simp [builtin, (hS.mapT j hj).len ht]) h
end
end Go.Proofs.YtcldjjmfpmkldaaGreatDoor.F
namespace Go.Proofs.YtcldjjmfpmkldaaGreatDoor.M
open Go.Proofs.YtcldjjmfpmkldaaGreatDoor.F
set_option linter.unusedVariables false
set_option maxRecDepth 100000
variable {R : VP} {Q : EQ}
def m6_5 (R : VP) (t2 t3 : Value) (w : World) : Prop :=
  R (Value.tuple #[t2, t3]) w
def m6_3 (R : VP) (t2 t3 : Value) (w : World) : Prop :=
  R (Value.tuple #[t2, t3]) w
def m6_2 (R : VP) (n0 : Value) (w : World) : Prop :=
  valP Tryz.prog (Instr.makeMap 59 none) w fun t10 w =>
  valP Tryz.prog (Instr.build 61 #[(0, t10), (1, n0), (2, (vi (-1)))]) w fun t12 w =>
  valP Tryz.prog (Instr.box 61 t12) w fun t13 w =>
  m6_3 R t13 (vi 0) w
def m6_4 (R : VP) (n0 t9 : Value) (w : World) : Prop :=
  condP t9
  (m6_5 R (Value.pointer none) (vi 1) w)
  (m6_2 R n0 w)
def m6_1 (R : VP) (n0 : Value) (w : World) : Prop :=
  valP Tryz.prog (binS BinOp.lss 3 (tm 4) (ci 1) n0 (vi 1)) w fun t5 w =>
  condP t5
  (pickP t5 (Value.bool true) undef fun t9 =>
  m6_4 R n0 t9 w)
  (valP Tryz.prog (binS BinOp.gtr 3 (tm 7) (ci 16384) n0 (vi 16384)) w fun t8 w =>
  pickP t5 (Value.bool true) t8 fun t9 =>
  m6_4 R n0 t9 w)
def m6_0 (R : VP) (n0 : Value) (w : World) : Prop :=
  m6_1 R n0 w
abbrev W6 := cwp Tryz.prog (fun i => 0)
noncomputable def k6_0 := bodyOf Tryz.f6
noncomputable def k6_1 := c2 k6_0
noncomputable def k6_2 := c2 k6_1
noncomputable def k6_3 := c2 k6_2
noncomputable def k6_4 := c2 (c1 k6_1)
noncomputable def k6_5 := c2 (c1 k6_4)
abbrev hR6 (R : VP) (Q : EQ) : Prop := ∀ e w, (R (Value.tuple #[(e 2), (e 3)]) w) → Q .ret e w
theorem s6_5 (hR : hR6 R Q) (e : Env) (w : World) (h : m6_5 R (e 2) (e 3) w) : W6 k6_5 Q e w := by
  exact reA (hR _ _ h)
theorem s6_3 (hR : hR6 R Q) (e : Env) (w : World) (h : m6_3 R (e 2) (e 3) w) : W6 k6_3 Q e w := by
  exact reA (hR _ _ h)
theorem s6_2 (hR : hR6 R Q) (e : Env) (w : World) (h : m6_2 R (e 0) w) : W6 k6_2 Q e w := by
  refine seA ?_
  exact rgA 3 (fun e w => m6_3 R (e 2) (e 3) w) h fun e w h => then_N (s6_3 hR e w h)
theorem s6_4 (hN : ∀ e w, (m6_2 R (e 0) w) → Q .normal e w) (hR : hR6 R Q) (e : Env) (w : World) (h : m6_4 R (e 0) (e 9) w) : W6 k6_4 Q e w := by
  refine coA (Operand.tmp 9) h (fun h1 => ?_) (fun h1 => ?_)
  · refine seA ?_
    exact rgA 2 (fun e w => m6_5 R (e 2) (e 3) w) h1 fun e w h => then_N (s6_5 hR e w h)
  · exact skA (hN _ _ h1)
theorem s6_1 (hR : hR6 R Q) (e : Env) (w : World) (h : m6_1 R (e 0) w) : W6 k6_1 Q e w := by
  refine seA ?_
  have hN : ∀ e w, (m6_2 R (e 0) w) → (thenE (W6 k6_2 Q) Q) .normal e w := fun e w h => then_N (s6_2 hR e w h)
  have hR : hR6 R (thenE (W6 k6_2 Q) Q) := fun e w h => then_R (hR e w h)
  refine seA ?_
  exact rgA 1 (fun e w => m6_4 R (e 0) (e 9) w) h fun e w h => then_N (s6_4 hN hR e w h)
theorem s6_0 (hR : hR6 R Q) (e : Env) (w : World) (h : m6_0 R (e 0) w) : W6 k6_0 Q e w := by
  refine seA ?_
  exact rgA 0 (fun e w => m6_1 R (e 0) w) h fun e w h => then_N (s6_1 hR e w h)
abbrev m6 (R : VP) (n0 : Value) (w : World) : Prop := m6_0 R n0 w
theorem s6 (n0 : Value) {R : VP} {w : World} (h : m6 R n0 w) :
    Calls Tryz.prog 6 #[n0] w fun e w' => ∃ v, e = .returned v ∧ R v w' :=
  calls_of_cwp (st := (fun i => 0)) (c := k6_0) (by kernel_rfl) Tryz.func6 (by kernel_rfl) (Nat.le_of_ble_eq_true (by kernel_rfl)) (by kernel_rfl)
    (s6_0 (R := R) (Q := endE Tryz.prog Tryz.f6 R) (fun e w h => kcast (by kernel_rfl) h) (argsE #[n0]) w (kcast (by kernel_rfl) h))
def m8_1 (R : VP) (d0 n1 t5 : Value) (w : World) : Prop :=
  condP t5
  (builtinP Tryz.prog Builtin.max #[3, 3] 3 #[false, true] #[n1, (vi (-1))] w fun t8 w =>
  nilCheckP d0 fun t9 =>
  valP Tryz.prog (Instr.fieldAt 61 t9 2) w fun t10 w =>
  unitP Tryz.prog (Instr.storeAt 3 t10 t8) w fun _ w =>
  R (Value.tuple #[]) w)
  (R (Value.tuple #[]) w)
def m8_0 (R : VP) (d0 n1 : Value) (w : World) : Prop :=
  valP Tryz.prog (binS BinOp.neq 25 (tm 4) (Operand.const (Value.pointer none)) d0 (Value.pointer none)) w fun t5 w =>
  m8_1 R d0 n1 t5 w
abbrev W8 := cwp Tryz.prog (fun i => 0)
noncomputable def k8_0 := bodyOf Tryz.f8
noncomputable def k8_1 := c2 k8_0
theorem s8_1 (hN : ∀ e w, (R (Value.tuple #[]) w) → Q .normal e w) (e : Env) (w : World) (h : m8_1 R (e 0) (e 1) (e 5) w) : W8 k8_1 Q e w := by
  refine coA (Operand.tmp 5) h (fun h1 => ?_) (fun h1 => ?_)
  · exact rgA 1 (fun e w => R (Value.tuple #[]) w) h1 hN
  · exact skA (hN _ _ h1)
theorem s8_0 (hN : ∀ e w, (R (Value.tuple #[]) w) → Q .normal e w) (e : Env) (w : World) (h : m8_0 R (e 0) (e 1) w) : W8 k8_0 Q e w := by
  refine seA ?_
  exact rgA 0 (fun e w => m8_1 R (e 0) (e 1) (e 5) w) h fun e w h => then_N (s8_1 hN e w h)
abbrev m8 (R : VP) (d0 n1 : Value) (w : World) : Prop := m8_0 R d0 n1 w
theorem s8 (d0 n1 : Value) {R : VP} {w : World} (h : m8 R d0 n1 w) :
    Calls Tryz.prog 8 #[d0, n1] w fun e w' => ∃ v, e = .returned v ∧ R v w' :=
  calls_of_cwp (st := (fun i => 0)) (c := k8_0) (by kernel_rfl) Tryz.func8 (by kernel_rfl) (Nat.le_of_ble_eq_true (by kernel_rfl)) (by kernel_rfl)
    (s8_0 (R := R) (Q := endE Tryz.prog Tryz.f8 R) (fun e w h => kcast (by kernel_rfl) h) (argsE #[d0, n1]) w (kcast (by kernel_rfl) h))
def m56_2 (R : VP) (t2 : Value) (w : World) : Prop :=
  R t2 w
def m56_1 (R : VP) (d0 : Value) (w : World) : Prop :=
  valP Tryz.prog (binS BinOp.eql 25 (tm 3) (Operand.const (Value.pointer none)) d0 (Value.pointer none)) w fun t4 w =>
  condP t4
  (pickP t4 (Value.bool true) undef fun t10 =>
  m56_2 R t10 w)
  (nilCheckP d0 fun t7 =>
  valP Tryz.prog (Instr.fieldAt 61 t7 3) w fun t8 w =>
  valP Tryz.prog (Instr.loadAt 4 t8) w fun t9 w =>
  pickP t4 (Value.bool true) t9 fun t10 =>
  m56_2 R t10 w)
def m56_0 (R : VP) (d0 : Value) (w : World) : Prop :=
  m56_1 R d0 w
abbrev W56 := cwp Tryz.prog (fun i => 0)
noncomputable def k56_0 := bodyOf Tryz.f56
noncomputable def k56_1 := c2 k56_0
noncomputable def k56_2 := c2 k56_1
abbrev hR56 (R : VP) (Q : EQ) : Prop := ∀ e w, (R (e 2) w) → Q .ret e w
theorem s56_2 (hR : hR56 R Q) (e : Env) (w : World) (h : m56_2 R (e 2) w) : W56 k56_2 Q e w := by
  exact reA (hR _ _ h)
theorem s56_1 (hR : hR56 R Q) (e : Env) (w : World) (h : m56_1 R (e 0) w) : W56 k56_1 Q e w := by
  refine seA ?_
  exact rgA 1 (fun e w => m56_2 R (e 2) w) h fun e w h => then_N (s56_2 hR e w h)
theorem s56_0 (hR : hR56 R Q) (e : Env) (w : World) (h : m56_0 R (e 0) w) : W56 k56_0 Q e w := by
  refine seA ?_
  exact rgA 0 (fun e w => m56_1 R (e 0) w) h fun e w h => then_N (s56_1 hR e w h)
abbrev m56 (R : VP) (d0 : Value) (w : World) : Prop := m56_0 R d0 w
theorem s56 (d0 : Value) {R : VP} {w : World} (h : m56 R d0 w) :
    Calls Tryz.prog 56 #[d0] w fun e w' => ∃ v, e = .returned v ∧ R v w' :=
  calls_of_cwp (st := (fun i => 0)) (c := k56_0) (by kernel_rfl) Tryz.func56 (by kernel_rfl) (Nat.le_of_ble_eq_true (by kernel_rfl)) (by kernel_rfl)
    (s56_0 (R := R) (Q := endE Tryz.prog Tryz.f56 R) (fun e w h => kcast (by kernel_rfl) h) (argsE #[d0]) w (kcast (by kernel_rfl) h))
def m55_5 (R : VP) (t2 : Value) (w : World) : Prop :=
  R t2 w
def m55_3 (R : VP) (t2 : Value) (w : World) : Prop :=
  R t2 w
def m55_2 (R : VP) (d0 : Value) (w : World) : Prop :=
  nilCheckP d0 fun t6 =>
  valP Tryz.prog (Instr.fieldAt 61 t6 1) w fun t7 w =>
  valP Tryz.prog (Instr.loadAt 3 t7) w fun t8 w =>
  m55_3 R t8 w
def m55_4 (R : VP) (d0 t4 : Value) (w : World) : Prop :=
  condP t4
  (m55_5 R (vi 0) w)
  (m55_2 R d0 w)
def m55_1 (R : VP) (d0 : Value) (w : World) : Prop :=
  valP Tryz.prog (binS BinOp.eql 25 (tm 3) (Operand.const (Value.pointer none)) d0 (Value.pointer none)) w fun t4 w =>
  m55_4 R d0 t4 w
def m55_0 (R : VP) (d0 : Value) (w : World) : Prop :=
  m55_1 R d0 w
abbrev W55 := cwp Tryz.prog (fun i => 0)
noncomputable def k55_0 := bodyOf Tryz.f55
noncomputable def k55_1 := c2 k55_0
noncomputable def k55_2 := c2 k55_1
noncomputable def k55_3 := c2 k55_2
noncomputable def k55_4 := c2 (c1 k55_1)
noncomputable def k55_5 := c2 (c1 k55_4)
abbrev hR55 (R : VP) (Q : EQ) : Prop := ∀ e w, (R (e 2) w) → Q .ret e w
theorem s55_5 (hR : hR55 R Q) (e : Env) (w : World) (h : m55_5 R (e 2) w) : W55 k55_5 Q e w := by
  exact reA (hR _ _ h)
theorem s55_3 (hR : hR55 R Q) (e : Env) (w : World) (h : m55_3 R (e 2) w) : W55 k55_3 Q e w := by
  exact reA (hR _ _ h)
theorem s55_2 (hR : hR55 R Q) (e : Env) (w : World) (h : m55_2 R (e 0) w) : W55 k55_2 Q e w := by
  refine seA ?_
  exact rgA 3 (fun e w => m55_3 R (e 2) w) h fun e w h => then_N (s55_3 hR e w h)
theorem s55_4 (hN : ∀ e w, (m55_2 R (e 0) w) → Q .normal e w) (hR : hR55 R Q) (e : Env) (w : World) (h : m55_4 R (e 0) (e 4) w) : W55 k55_4 Q e w := by
  refine coA (Operand.tmp 4) h (fun h1 => ?_) (fun h1 => ?_)
  · refine seA ?_
    exact rgA 2 (fun e w => m55_5 R (e 2) w) h1 fun e w h => then_N (s55_5 hR e w h)
  · exact skA (hN _ _ h1)
theorem s55_1 (hR : hR55 R Q) (e : Env) (w : World) (h : m55_1 R (e 0) w) : W55 k55_1 Q e w := by
  refine seA ?_
  have hN : ∀ e w, (m55_2 R (e 0) w) → (thenE (W55 k55_2 Q) Q) .normal e w := fun e w h => then_N (s55_2 hR e w h)
  have hR : hR55 R (thenE (W55 k55_2 Q) Q) := fun e w h => then_R (hR e w h)
  refine seA ?_
  exact rgA 1 (fun e w => m55_4 R (e 0) (e 4) w) h fun e w h => then_N (s55_4 hN hR e w h)
theorem s55_0 (hR : hR55 R Q) (e : Env) (w : World) (h : m55_0 R (e 0) w) : W55 k55_0 Q e w := by
  refine seA ?_
  exact rgA 0 (fun e w => m55_1 R (e 0) w) h fun e w h => then_N (s55_1 hR e w h)
abbrev m55 (R : VP) (d0 : Value) (w : World) : Prop := m55_0 R d0 w
theorem s55 (d0 : Value) {R : VP} {w : World} (h : m55 R d0 w) :
    Calls Tryz.prog 55 #[d0] w fun e w' => ∃ v, e = .returned v ∧ R v w' :=
  calls_of_cwp (st := (fun i => 0)) (c := k55_0) (by kernel_rfl) Tryz.func55 (by kernel_rfl) (Nat.le_of_ble_eq_true (by kernel_rfl)) (by kernel_rfl)
    (s55_0 (R := R) (Q := endE Tryz.prog Tryz.f55 R) (fun e w h => kcast (by kernel_rfl) h) (argsE #[d0]) w (kcast (by kernel_rfl) h))
def m44_14 (R : VP) (K1 : VP) (t4 : Value) (w : World) : Prop :=
  R t4 w
def m44_11 (R : VP) (K1 : VP) (d0 t7 t8 t9 : Value) (w : World) : Prop :=
  valP Tryz.prog (binS BinOp.add 3 (tm 9) (ci 1) t9 (vi 1)) w fun t20 w =>
  K1 t20 w
def m44_13 (R : VP) (K1 : VP) (d0 t7 t8 t9 t19 : Value) (w : World) : Prop :=
  condP t19
  (m44_14 R K1 (vi 1) w)
  (m44_11 R K1 d0 t7 t8 t9 w)
def m44_12 (R : VP) (K1 : VP) (d0 name6 t7 t8 t9 : Value) (w : World) : Prop :=
  valP Tryz.prog (binS BinOp.eql 25 (tm 13) (Operand.const (Value.pointer none)) d0 (Value.pointer none)) w fun t14 w =>
  condP t14
  (pickP t14 (Value.bool true) undef fun t19 =>
  m44_13 R K1 d0 t7 t8 t9 t19 w)
  (callP Tryz.prog (fnV 82) #[name6] w fun t17 w =>
  valP Tryz.prog (Op.unary UnOp.not t17) w fun t18 w =>
  pickP t14 (Value.bool true) t18 fun t19 =>
  m44_13 R K1 d0 t7 t8 t9 t19 w)
def m44_10 (R : VP) (K1 : VP) (d0 t7 t8 t9 : Value) (w : World) : Prop :=
  valP Tryz.prog (Instr.indexAt 71 t7 t9) w fun t11 w =>
  valP Tryz.prog (Instr.loadAt 9 t11) w fun t12 w =>
  m44_12 R K1 d0 t12 t7 t8 t9 w
def m44_6 (R : VP) (t4 : Value) (w : World) : Prop :=
  R t4 w
def m44_4 (R : VP) (t4 : Value) (w : World) : Prop :=
  R t4 w
def m44_3 (R : VP) (w : World) : Prop :=
  m44_4 R (vi 0) w
def m44_5 (R : VP) (t24 : Value) (w : World) : Prop :=
  condP t24
  (m44_6 R (vi 4) w)
  (m44_3 R w)
def m44_2 (R : VP) (d0 : Value) (w : World) : Prop :=
  nilCheckP d0 fun t22 =>
  valP Tryz.prog (Instr.fieldAt 61 t22 3) w fun t23 w =>
  valP Tryz.prog (Instr.loadAt 4 t23) w fun t24 w =>
  m44_5 R t24 w
def m44_9 (R : VP) (K1 : VP) (d0 t7 t8 t9 t10 : Value) (w : World) : Prop :=
  condP t10
  (m44_10 R K1 d0 t7 t8 t9 w)
  (m44_2 R d0 w)
def m44_8 (R : VP) (K1 : VP) (d0 t7 t8 t9 : Value) (w : World) : Prop :=
  valP Tryz.prog (binS BinOp.lss 3 (tm 9) (tm 8) t9 t8) w fun t10 w =>
  m44_9 R K1 d0 t7 t8 t9 t10 w
def m44_7 (R : VP) (d0 t7 t8 t9 : Value) (w : World) : Prop :=
  loopP (fun (K1 : VP) (s : Value) w => m44_8 R K1 d0 t7 t8 s w) t9 w
def m44_1 (R : VP) (d0 names1 : Value) (w : World) : Prop :=
  builtinP Tryz.prog Builtin.len #[71] 3 #[false] #[names1] w fun t8 w =>
  m44_7 R d0 names1 t8 (vi 0) w
def m44_0 (R : VP) (d0 names1 : Value) (w : World) : Prop :=
  m44_1 R d0 names1 w
abbrev W44 := cwp Tryz.prog (fun i => 0)
noncomputable def k44_0 := bodyOf Tryz.f44
noncomputable def k44_1 := c2 k44_0
noncomputable def k44_2 := c2 k44_1
noncomputable def k44_3 := c2 k44_2
noncomputable def k44_4 := c2 k44_3
noncomputable def k44_5 := c2 (c1 k44_2)
noncomputable def k44_6 := c2 (c1 k44_5)
noncomputable def k44_7 := c2 (c1 k44_1)
noncomputable def k44_8 := c1 (c1 k44_7)
noncomputable def k44_9 := c2 k44_8
noncomputable def k44_10 := c2 k44_9
noncomputable def k44_11 := c2 k44_10
noncomputable def k44_12 := c2 (c1 (c1 k44_10))
noncomputable def k44_13 := c2 k44_12
noncomputable def k44_14 := c2 (c1 k44_13)
abbrev hR44 (R : VP) (Q : EQ) : Prop := ∀ e w, (R (e 4) w) → Q .ret e w
theorem s44_14 {K1 : VP} (hR : hR44 R Q) (e : Env) (w : World) (h : m44_14 R K1 (e 4) w) : W44 k44_14 Q e w := by
  exact reA (hR _ _ h)
theorem s44_11 {K1 : VP} (hN : ∀ e w, (K1 (e 9) w) → Q .normal e w) (e : Env) (w : World) (h : m44_11 R K1 (e 0) (e 7) (e 8) (e 9) w) : W44 k44_11 Q e w := by
  exact rgA 6 (fun e w => K1 (e 9) w) h hN
theorem s44_13 {K1 : VP} (hN : ∀ e w, (m44_11 R K1 (e 0) (e 7) (e 8) (e 9) w) → Q .normal e w) (hR : hR44 R Q) (e : Env) (w : World) (h : m44_13 R K1 (e 0) (e 7) (e 8) (e 9) (e 19) w) : W44 k44_13 Q e w := by
  refine coA (Operand.tmp 19) h (fun h1 => ?_) (fun h1 => ?_)
  · refine seA ?_
    exact rgA 5 (fun e w => m44_14 R K1 (e 4) w) h1 fun e w h => then_N (s44_14 hR e w h)
  · exact skA (hN _ _ h1)
theorem s44_12 {K1 : VP} (hN : ∀ e w, (m44_11 R K1 (e 0) (e 7) (e 8) (e 9) w) → Q .normal e w) (hR : hR44 R Q) (e : Env) (w : World) (h : m44_12 R K1 (e 0) (e 6) (e 7) (e 8) (e 9) w) : W44 k44_12 Q e w := by
  refine seA ?_
  exact rgA 4 (fun e w => m44_13 R K1 (e 0) (e 7) (e 8) (e 9) (e 19) w) h fun e w h => then_N (s44_13 hN hR e w h)
theorem s44_10 {K1 : VP} (hN : ∀ e w, (K1 (e 9) w) → Q .normal e w) (hR : hR44 R Q) (e : Env) (w : World) (h : m44_10 R K1 (e 0) (e 7) (e 8) (e 9) w) : W44 k44_10 Q e w := by
  refine seA ?_
  have hN : ∀ e w, (m44_11 R K1 (e 0) (e 7) (e 8) (e 9) w) → (thenE (W44 k44_11 Q) Q) .normal e w := fun e w h => then_N (s44_11 hN e w h)
  have hR : hR44 R (thenE (W44 k44_11 Q) Q) := fun e w h => then_R (hR e w h)
  refine block_ok 1 (by kernel_rfl) ?_
  have hN : ∀ e w, (m44_11 R K1 (e 0) (e 7) (e 8) (e 9) w) → (inBlockE 1 (thenE (W44 k44_11 Q) Q)) .normal e w := fun e w h => block_N (hN e w h)
  have hR : hR44 R (inBlockE 1 (thenE (W44 k44_11 Q) Q)) := fun e w h => block_R (hR e w h)
  refine seA ?_
  exact rgA 3 (fun e w => m44_12 R K1 (e 0) (e 6) (e 7) (e 8) (e 9) w) h fun e w h => then_N (s44_12 (R := R) (Q := (inBlockE 1 (thenE (W44 k44_11 Q) Q))) hN hR e w h)
theorem s44_6 (hR : hR44 R Q) (e : Env) (w : World) (h : m44_6 R (e 4) w) : W44 k44_6 Q e w := by
  exact reA (hR _ _ h)
theorem s44_4 (hR : hR44 R Q) (e : Env) (w : World) (h : m44_4 R (e 4) w) : W44 k44_4 Q e w := by
  exact reA (hR _ _ h)
theorem s44_3 (hR : hR44 R Q) (e : Env) (w : World) (h : m44_3 R w) : W44 k44_3 Q e w := by
  refine seA ?_
  exact rgA 9 (fun e w => m44_4 R (e 4) w) h fun e w h => then_N (s44_4 hR e w h)
theorem s44_5 (hN : ∀ e w, (m44_3 R w) → Q .normal e w) (hR : hR44 R Q) (e : Env) (w : World) (h : m44_5 R (e 24) w) : W44 k44_5 Q e w := by
  refine coA (Operand.tmp 24) h (fun h1 => ?_) (fun h1 => ?_)
  · refine seA ?_
    exact rgA 8 (fun e w => m44_6 R (e 4) w) h1 fun e w h => then_N (s44_6 hR e w h)
  · exact skA (hN _ _ h1)
theorem s44_2 (hR : hR44 R Q) (e : Env) (w : World) (h : m44_2 R (e 0) w) : W44 k44_2 Q e w := by
  refine seA ?_
  have hN : ∀ e w, (m44_3 R w) → (thenE (W44 k44_3 Q) Q) .normal e w := fun e w h => then_N (s44_3 hR e w h)
  have hR : hR44 R (thenE (W44 k44_3 Q) Q) := fun e w h => then_R (hR e w h)
  refine seA ?_
  exact rgA 7 (fun e w => m44_5 R (e 24) w) h fun e w h => then_N (s44_5 hN hR e w h)
theorem s44_9 {K1 : VP} (hN : ∀ e w, (K1 (e 9) w) → Q .normal e w) (hR : hR44 R Q) (hX0 : ∀ e w, (m44_2 R (e 0) w) → Q (.exit 0) e w) (e : Env) (w : World) (h : m44_9 R K1 (e 0) (e 7) (e 8) (e 9) (e 10) w) : W44 k44_9 Q e w := by
  refine seA ?_
  have hN : ∀ e w, (m44_10 R K1 (e 0) (e 7) (e 8) (e 9) w) → (thenE (W44 k44_10 Q) Q) .normal e w := fun e w h => then_N (s44_10 hN hR e w h)
  have hX0 : ∀ e w, (m44_2 R (e 0) w) → (thenE (W44 k44_10 Q) Q) (.exit 0) e w := fun e w h => then_X (hX0 e w h)
  refine coA (Operand.tmp 10) h (fun h1 => ?_) (fun h1 => ?_)
  · exact skA (hN _ _ h1)
  · exact exA 0 (hX0 _ _ h1)
theorem s44_8 {K1 : VP} (hN : ∀ e w, (K1 (e 9) w) → Q .normal e w) (hR : hR44 R Q) (hX0 : ∀ e w, (m44_2 R (e 0) w) → Q (.exit 0) e w) (e : Env) (w : World) (h : m44_8 R K1 (e 0) (e 7) (e 8) (e 9) w) : W44 k44_8 Q e w := by
  refine seA ?_
  exact rgA 2 (fun e w => m44_9 R K1 (e 0) (e 7) (e 8) (e 9) (e 10) w) h fun e w h => then_N (s44_9 hN hR hX0 e w h)
theorem s44_7 (hN : ∀ e w, (m44_2 R (e 0) w) → Q .normal e w) (hR : hR44 R Q) (e : Env) (w : World) (h : m44_7 R (e 0) (e 7) (e 8) (e 9) w) : W44 k44_7 Q e w := by
  refine block_ok 0 (by kernel_rfl) ?_
  have hX0 : ∀ e w, (m44_2 R (e 0) w) → (inBlockE 0 Q) (.exit 0) e w := fun e w h => inBlock_same (Q := Q) 0 (hN e w h)
  have hR : hR44 R (inBlockE 0 Q) := fun e w h => block_R (hR e w h)
  refine loop_ok' (fun (e : Env) => e 9) [0, 7, 8] (by kernel_rfl) (by kernel_rfl) h (fun K e' w' hk h' => ?_)
  have r0 : e' 0 = e 0 := hk 0 (by decide)
  have r7 : e' 7 = e 7 := hk 7 (by decide)
  have r8 : e' 8 = e 8 := hk 8 (by decide)
  have hR : hR44 R (thenE (fun (e : Env) w => K (e 9) w) (inBlockE 0 Q)) := fun e w h => then_R (hR e w h)
  have hX0 : ∀ e w, (m44_2 R (e 0) w) → (thenE (fun (e : Env) w => K (e 9) w) (inBlockE 0 Q)) (.exit 0) e w := fun e w h => then_X (hX0 e w h)
  exact s44_8 (K1 := K) (fun _ _ h => then_N h) hR hX0 e' w' (by rw [r0, r7, r8]; exact h')
theorem s44_1 (hR : hR44 R Q) (e : Env) (w : World) (h : m44_1 R (e 0) (e 1) w) : W44 k44_1 Q e w := by
  refine seA ?_
  have hN : ∀ e w, (m44_2 R (e 0) w) → (thenE (W44 k44_2 Q) Q) .normal e w := fun e w h => then_N (s44_2 hR e w h)
  have hR : hR44 R (thenE (W44 k44_2 Q) Q) := fun e w h => then_R (hR e w h)
  refine seA ?_
  exact rgA 1 (fun e w => m44_7 R (e 0) (e 7) (e 8) (e 9) w) h fun e w h => then_N (s44_7 hN hR e w h)
theorem s44_0 (hR : hR44 R Q) (e : Env) (w : World) (h : m44_0 R (e 0) (e 1) w) : W44 k44_0 Q e w := by
  refine seA ?_
  exact rgA 0 (fun e w => m44_1 R (e 0) (e 1) w) h fun e w h => then_N (s44_1 hR e w h)
abbrev m44 (R : VP) (d0 names1 : Value) (w : World) : Prop := m44_0 R d0 names1 w
theorem s44 (d0 names1 : Value) {R : VP} {w : World} (h : m44 R d0 names1 w) :
    Calls Tryz.prog 44 #[d0, names1] w fun e w' => ∃ v, e = .returned v ∧ R v w' :=
  calls_of_cwp (st := (fun i => 0)) (c := k44_0) (by kernel_rfl) Tryz.func44 (by kernel_rfl) (Nat.le_of_ble_eq_true (by kernel_rfl)) (by kernel_rfl)
    (s44_0 (R := R) (Q := endE Tryz.prog Tryz.f44 R) (fun e w h => kcast (by kernel_rfl) h) (argsE #[d0, names1]) w (kcast (by kernel_rfl) h))
def m31_2 (R : VP) (t2 : Value) (w : World) : Prop :=
  R t2 w
def m31_1 (R : VP) (n0 : Value) (w : World) : Prop :=
  valP Tryz.prog (binS BinOp.add 3 (tm 3) (ci 64) n0 (vi 64)) w fun t4 w =>
  valP Tryz.prog (binS BinOp.sub 3 (tm 4) (ci 1) t4 (vi 1)) w fun t5 w =>
  valP Tryz.prog (binS BinOp.quo 3 (tm 5) (ci 64) t5 (vi 64)) w fun t6 w =>
  builtinP Tryz.prog Builtin.max #[3, 3] 3 #[true, false] #[(vi 1), t6] w fun t7 w =>
  m31_2 R t7 w
def m31_0 (R : VP) (n0 : Value) (w : World) : Prop :=
  m31_1 R n0 w
abbrev W31 := cwp Tryz.prog (fun i => 0)
noncomputable def k31_0 := bodyOf Tryz.f31
noncomputable def k31_1 := c2 k31_0
noncomputable def k31_2 := c2 k31_1
abbrev hR31 (R : VP) (Q : EQ) : Prop := ∀ e w, (R (e 2) w) → Q .ret e w
theorem s31_2 (hR : hR31 R Q) (e : Env) (w : World) (h : m31_2 R (e 2) w) : W31 k31_2 Q e w := by
  exact reA (hR _ _ h)
theorem s31_1 (hR : hR31 R Q) (e : Env) (w : World) (h : m31_1 R (e 0) w) : W31 k31_1 Q e w := by
  refine seA ?_
  exact rgA 1 (fun e w => m31_2 R (e 2) w) h fun e w h => then_N (s31_2 hR e w h)
theorem s31_0 (hR : hR31 R Q) (e : Env) (w : World) (h : m31_0 R (e 0) w) : W31 k31_0 Q e w := by
  refine seA ?_
  exact rgA 0 (fun e w => m31_1 R (e 0) w) h fun e w h => then_N (s31_1 hR e w h)
abbrev m31 (R : VP) (n0 : Value) (w : World) : Prop := m31_0 R n0 w
theorem s31 (n0 : Value) {R : VP} {w : World} (h : m31 R n0 w) :
    Calls Tryz.prog 31 #[n0] w fun e w' => ∃ v, e = .returned v ∧ R v w' :=
  calls_of_cwp (st := (fun i => 0)) (c := k31_0) (by kernel_rfl) Tryz.func31 (by kernel_rfl) (Nat.le_of_ble_eq_true (by kernel_rfl)) (by kernel_rfl)
    (s31_0 (R := R) (Q := endE Tryz.prog Tryz.f31 R) (fun e w h => kcast (by kernel_rfl) h) (argsE #[n0]) w (kcast (by kernel_rfl) h))
def m32_2 (R : VP) (t2 : Value) (w : World) : Prop :=
  R t2 w
def m32_1 (R : VP) (f0 : Value) (w : World) : Prop :=
  nilCheckP f0 fun t4 =>
  valQ Tryz.prog (Instr.fieldAt 78 t4 0) w fun t5 =>
  valQ Tryz.prog (Instr.loadAt 9 t5) w fun t6 =>
  builtinQ Tryz.prog Builtin.len #[9] 3 #[false] #[t6] w fun t7 =>
  nilCheckP f0 fun t9 =>
  valQ Tryz.prog (Instr.fieldAt 78 t9 1) w fun t10 =>
  valQ Tryz.prog (Instr.loadAt 9 t10) w fun t11 =>
  builtinQ Tryz.prog Builtin.len #[9] 3 #[false] #[t11] w fun t12 =>
  valQ Tryz.prog (binS BinOp.add 3 (tm 7) (tm 12) t7 t12) w fun t13 =>
  anyDraw w fun w =>
  m32_2 R t13 w
def m32_0 (R : VP) (f0 : Value) (w : World) : Prop :=
  m32_1 R f0 w
abbrev W32 := cwp Tryz.prog (fun i => cond (Nat.beq i 1) 1 (0))
noncomputable def k32_0 := bodyOf Tryz.f32
noncomputable def k32_1 := c2 k32_0
noncomputable def k32_2 := c2 k32_1
abbrev hR32 (R : VP) (Q : EQ) : Prop := ∀ e w, (R (e 2) w) → Q .ret e w
theorem s32_2 (hR : hR32 R Q) (e : Env) (w : World) (h : m32_2 R (e 2) w) : W32 k32_2 Q e w := by
  exact reA (hR _ _ h)
theorem s32_1 (hR : hR32 R Q) (e : Env) (w : World) (h : m32_1 R (e 0) w) : W32 k32_1 Q e w := by
  refine seA ?_
  have hN : ∀ e w, (m32_2 R (e 2) w) → (thenE (W32 k32_2 Q) Q) .normal e w := fun e w h => then_N (s32_2 hR e w h)
  exact quA 1 (fun e w => m32_2 R (e 2) w) h hN
theorem s32_0 (hR : hR32 R Q) (e : Env) (w : World) (h : m32_0 R (e 0) w) : W32 k32_0 Q e w := by
  refine seA ?_
  exact rgA 0 (fun e w => m32_1 R (e 0) w) h fun e w h => then_N (s32_1 hR e w h)
abbrev m32 (R : VP) (f0 : Value) (w : World) : Prop := m32_0 R f0 w
theorem s32 (f0 : Value) {R : VP} {w : World} (h : m32 R f0 w) :
    Calls Tryz.prog 32 #[f0] w fun e w' => ∃ v, e = .returned v ∧ R v w' :=
  calls_of_cwp (st := (fun i => cond (Nat.beq i 1) 1 (0))) (c := k32_0) (by kernel_rfl) Tryz.func32 (by kernel_rfl) (Nat.le_of_ble_eq_true (by kernel_rfl)) (by kernel_rfl)
    (s32_0 (R := R) (Q := endE Tryz.prog Tryz.f32 R) (fun e w h => kcast (by kernel_rfl) h) (argsE #[f0]) w (kcast (by kernel_rfl) h))
def m45_8 (R : VP) (t2 : Value) (w : World) : Prop :=
  R t2 w
def m45_7 (R : VP) (w : World) : Prop :=
  m45_8 R (Value.bool false) w
def m45_4 (R : VP) (t2 : Value) (w : World) : Prop :=
  R t2 w
def m45_3 (R : VP) (w : World) : Prop :=
  m45_4 R (Value.bool true) w
def m45_5 (R : VP) (d0 t15 : Value) (w : World) : Prop :=
  condP t15
  (nilCheckP d0 fun t17 =>
  valP Tryz.prog (Instr.fieldAt 61 t17 2) w fun t18 w =>
  valP Tryz.prog (Instr.loadAt 3 t18) w fun t19 w =>
  valP Tryz.prog (binS BinOp.sub 3 (tm 19) (ci 1) t19 (vi 1)) w fun t20 w =>
  nilCheckP d0 fun t21 =>
  valP Tryz.prog (Instr.fieldAt 61 t21 2) w fun t22 w =>
  unitP Tryz.prog (Instr.storeAt 3 t22 t20) w fun _ w =>
  m45_3 R w)
  (m45_3 R w)
def m45_2 (R : VP) (d0 : Value) (w : World) : Prop :=
  nilCheckP d0 fun t12 =>
  valP Tryz.prog (Instr.fieldAt 61 t12 2) w fun t13 w =>
  valP Tryz.prog (Instr.loadAt 3 t13) w fun t14 w =>
  valP Tryz.prog (binS BinOp.gtr 3 (tm 14) (ci 0) t14 (vi 0)) w fun t15 w =>
  m45_5 R d0 t15 w
def m45_6 (R : VP) (d0 t7 : Value) (w : World) : Prop :=
  condP t7
  (nilCheckP d0 fun t9 =>
  valP Tryz.prog (Instr.fieldAt 61 t9 3) w fun t10 w =>
  unitP Tryz.prog (Instr.storeAt 4 t10 (Value.bool true)) w fun _ w =>
  m45_7 R w)
  (m45_2 R d0 w)
def m45_1 (R : VP) (d0 : Value) (w : World) : Prop :=
  nilCheckP d0 fun t4 =>
  valP Tryz.prog (Instr.fieldAt 61 t4 2) w fun t5 w =>
  valP Tryz.prog (Instr.loadAt 3 t5) w fun t6 w =>
  valP Tryz.prog (binS BinOp.eql 3 (tm 6) (ci 0) t6 (vi 0)) w fun t7 w =>
  m45_6 R d0 t7 w
def m45_0 (R : VP) (d0 : Value) (w : World) : Prop :=
  m45_1 R d0 w
abbrev W45 := cwp Tryz.prog (fun i => 0)
noncomputable def k45_0 := bodyOf Tryz.f45
noncomputable def k45_1 := c2 k45_0
noncomputable def k45_2 := c2 k45_1
noncomputable def k45_3 := c2 k45_2
noncomputable def k45_4 := c2 k45_3
noncomputable def k45_5 := c2 (c1 k45_2)
noncomputable def k45_6 := c2 (c1 k45_1)
noncomputable def k45_7 := c2 (c1 k45_6)
noncomputable def k45_8 := c2 k45_7
abbrev hR45 (R : VP) (Q : EQ) : Prop := ∀ e w, (R (e 2) w) → Q .ret e w
theorem s45_8 (hR : hR45 R Q) (e : Env) (w : World) (h : m45_8 R (e 2) w) : W45 k45_8 Q e w := by
  exact reA (hR _ _ h)
theorem s45_7 (hR : hR45 R Q) (e : Env) (w : World) (h : m45_7 R w) : W45 k45_7 Q e w := by
  refine seA ?_
  exact rgA 3 (fun e w => m45_8 R (e 2) w) h fun e w h => then_N (s45_8 hR e w h)
theorem s45_4 (hR : hR45 R Q) (e : Env) (w : World) (h : m45_4 R (e 2) w) : W45 k45_4 Q e w := by
  exact reA (hR _ _ h)
theorem s45_3 (hR : hR45 R Q) (e : Env) (w : World) (h : m45_3 R w) : W45 k45_3 Q e w := by
  refine seA ?_
  exact rgA 6 (fun e w => m45_4 R (e 2) w) h fun e w h => then_N (s45_4 hR e w h)
theorem s45_5 (hN : ∀ e w, (m45_3 R w) → Q .normal e w) (e : Env) (w : World) (h : m45_5 R (e 0) (e 15) w) : W45 k45_5 Q e w := by
  refine coA (Operand.tmp 15) h (fun h1 => ?_) (fun h1 => ?_)
  · exact rgA 5 (fun e w => m45_3 R w) h1 hN
  · exact skA (hN _ _ h1)
theorem s45_2 (hR : hR45 R Q) (e : Env) (w : World) (h : m45_2 R (e 0) w) : W45 k45_2 Q e w := by
  refine seA ?_
  have hN : ∀ e w, (m45_3 R w) → (thenE (W45 k45_3 Q) Q) .normal e w := fun e w h => then_N (s45_3 hR e w h)
  refine seA ?_
  exact rgA 4 (fun e w => m45_5 R (e 0) (e 15) w) h fun e w h => then_N (s45_5 hN e w h)
theorem s45_6 (hN : ∀ e w, (m45_2 R (e 0) w) → Q .normal e w) (hR : hR45 R Q) (e : Env) (w : World) (h : m45_6 R (e 0) (e 7) w) : W45 k45_6 Q e w := by
  refine coA (Operand.tmp 7) h (fun h1 => ?_) (fun h1 => ?_)
  · refine seA ?_
    exact rgA 2 (fun e w => m45_7 R w) h1 fun e w h => then_N (s45_7 hR e w h)
  · exact skA (hN _ _ h1)
theorem s45_1 (hR : hR45 R Q) (e : Env) (w : World) (h : m45_1 R (e 0) w) : W45 k45_1 Q e w := by
  refine seA ?_
  have hN : ∀ e w, (m45_2 R (e 0) w) → (thenE (W45 k45_2 Q) Q) .normal e w := fun e w h => then_N (s45_2 hR e w h)
  have hR : hR45 R (thenE (W45 k45_2 Q) Q) := fun e w h => then_R (hR e w h)
  refine seA ?_
  exact rgA 1 (fun e w => m45_6 R (e 0) (e 7) w) h fun e w h => then_N (s45_6 hN hR e w h)
theorem s45_0 (hR : hR45 R Q) (e : Env) (w : World) (h : m45_0 R (e 0) w) : W45 k45_0 Q e w := by
  refine seA ?_
  exact rgA 0 (fun e w => m45_1 R (e 0) w) h fun e w h => then_N (s45_1 hR e w h)
abbrev m45 (R : VP) (d0 : Value) (w : World) : Prop := m45_0 R d0 w
theorem s45 (d0 : Value) {R : VP} {w : World} (h : m45 R d0 w) :
    Calls Tryz.prog 45 #[d0] w fun e w' => ∃ v, e = .returned v ∧ R v w' :=
  calls_of_cwp (st := (fun i => 0)) (c := k45_0) (by kernel_rfl) Tryz.func45 (by kernel_rfl) (Nat.le_of_ble_eq_true (by kernel_rfl)) (by kernel_rfl)
    (s45_0 (R := R) (Q := endE Tryz.prog Tryz.f45 R) (fun e w h => kcast (by kernel_rfl) h) (argsE #[d0]) w (kcast (by kernel_rfl) h))
def m65_12 (R : VP) (t6 : Value) (w : World) : Prop :=
  R t6 w
def m65_7 (R : VP) (t6 : Value) (w : World) : Prop :=
  R t6 w
def m65_9 (R : VP) (t6 : Value) (w : World) : Prop :=
  R t6 w
def m65_5 (R : VP) (t6 : Value) (w : World) : Prop :=
  R t6 w
def m65_4 (R : VP) (do2 f8 : Value) (w : World) : Prop :=
  callP Tryz.prog do2 #[f8] w fun t31 w =>
  m65_5 R t31 w
def m65_8 (R : VP) (do2 f8 t25 : Value) (w : World) : Prop :=
  condP t25
  (m65_9 R (vi 4) w)
  (m65_4 R do2 f8 w)
def m65_6 (R : VP) (d0 do2 f8 t22 : Value) (w : World) : Prop :=
  condP t22
  (m65_7 R (vi 3) w)
  (callP Tryz.prog (fnV 45) #[d0] w fun t27 w =>
  valP Tryz.prog (Op.unary UnOp.not t27) w fun t28 w =>
  m65_8 R do2 f8 t28 w)
def m65_3 (R : VP) (d0 do2 f8 : Value) (w : World) : Prop :=
  valP Tryz.prog (binS BinOp.eql 76 (tm 23) (Operand.const (Value.pointer none)) f8 (Value.pointer none)) w fun t24 w =>
  m65_6 R d0 do2 f8 t24 w
def m65_2 (R : VP) (d0 name1 do2 : Value) (w : World) : Prop :=
  nilCheckP d0 fun t17 =>
  valP Tryz.prog (Instr.fieldAt 61 t17 0) w fun t18 w =>
  valP Tryz.prog (Instr.loadAt 59 t18) w fun t19 w =>
  valP Tryz.prog (Instr.lookup 59 t19 name1 false) w fun t21 w =>
  m65_3 R d0 do2 t21 w
def m65_11 (R : VP) (d0 name1 do2 e7 t14 : Value) (w : World) : Prop :=
  condP t14
  (m65_12 R e7 w)
  (m65_2 R d0 name1 do2 w)
def m65_10 (R : VP) (d0 name1 do2 e7 : Value) (w : World) : Prop :=
  valP Tryz.prog (binS BinOp.neq 26 (tm 13) (ci 0) e7 (vi 0)) w fun t14 w =>
  m65_11 R d0 name1 do2 e7 t14 w
def m65_1 (R : VP) (d0 name1 do2 : Value) (w : World) : Prop :=
  valP Tryz.prog (Instr.buildSlice 71 1 #[(0, name1)]) w fun t11 w =>
  callP Tryz.prog (fnV 44) #[d0, t11] w fun t12 w =>
  m65_10 R d0 name1 do2 t12 w
def m65_0 (R : VP) (d0 name1 do2 : Value) (w : World) : Prop :=
  m65_1 R d0 name1 do2 w
abbrev W65 := cwp Tryz.prog (fun i => 0)
noncomputable def k65_0 := bodyOf Tryz.f65
noncomputable def k65_1 := c2 k65_0
noncomputable def k65_2 := c2 k65_1
noncomputable def k65_3 := c2 k65_2
noncomputable def k65_4 := c2 k65_3
noncomputable def k65_5 := c2 k65_4
noncomputable def k65_6 := c2 (c1 (c1 k65_3))
noncomputable def k65_7 := c2 (c1 k65_6)
noncomputable def k65_8 := c2 (c2 k65_6)
noncomputable def k65_9 := c2 (c1 k65_8)
noncomputable def k65_10 := c2 (c1 k65_1)
noncomputable def k65_11 := c2 k65_10
noncomputable def k65_12 := c2 (c1 k65_11)
abbrev hR65 (R : VP) (Q : EQ) : Prop := ∀ e w, (R (e 6) w) → Q .ret e w
theorem s65_12 (hR : hR65 R Q) (e : Env) (w : World) (h : m65_12 R (e 6) w) : W65 k65_12 Q e w := by
  exact reA (hR _ _ h)
theorem s65_7 (hR : hR65 R Q) (e : Env) (w : World) (h : m65_7 R (e 6) w) : W65 k65_7 Q e w := by
  exact reA (hR _ _ h)
theorem s65_9 (hR : hR65 R Q) (e : Env) (w : World) (h : m65_9 R (e 6) w) : W65 k65_9 Q e w := by
  exact reA (hR _ _ h)
theorem s65_5 (hR : hR65 R Q) (e : Env) (w : World) (h : m65_5 R (e 6) w) : W65 k65_5 Q e w := by
  exact reA (hR _ _ h)
theorem s65_4 (hR : hR65 R Q) (e : Env) (w : World) (h : m65_4 R (e 2) (e 8) w) : W65 k65_4 Q e w := by
  refine seA ?_
  exact rgA 9 (fun e w => m65_5 R (e 6) w) h fun e w h => then_N (s65_5 hR e w h)
theorem s65_8 (hN : ∀ e w, (m65_4 R (e 2) (e 8) w) → Q .normal e w) (hR : hR65 R Q) (e : Env) (w : World) (h : m65_8 R (e 2) (e 8) (e 25) w) : W65 k65_8 Q e w := by
  refine coA (Operand.tmp 25) h (fun h1 => ?_) (fun h1 => ?_)
  · refine seA ?_
    exact rgA 8 (fun e w => m65_9 R (e 6) w) h1 fun e w h => then_N (s65_9 hR e w h)
  · exact skA (hN _ _ h1)
theorem s65_6 (hN : ∀ e w, (m65_4 R (e 2) (e 8) w) → Q .normal e w) (hR : hR65 R Q) (e : Env) (w : World) (h : m65_6 R (e 0) (e 2) (e 8) (e 22) w) : W65 k65_6 Q e w := by
  refine coA (Operand.tmp 22) h (fun h1 => ?_) (fun h1 => ?_)
  · refine seA ?_
    exact rgA 6 (fun e w => m65_7 R (e 6) w) h1 fun e w h => then_N (s65_7 hR e w h)
  · refine seA ?_
    exact rgA 7 (fun e w => m65_8 R (e 2) (e 8) (e 25) w) h1 fun e w h => then_N (s65_8 hN hR e w h)
theorem s65_3 (hR : hR65 R Q) (e : Env) (w : World) (h : m65_3 R (e 0) (e 2) (e 8) w) : W65 k65_3 Q e w := by
  refine seA ?_
  have hN : ∀ e w, (m65_4 R (e 2) (e 8) w) → (thenE (W65 k65_4 Q) Q) .normal e w := fun e w h => then_N (s65_4 hR e w h)
  have hR : hR65 R (thenE (W65 k65_4 Q) Q) := fun e w h => then_R (hR e w h)
  refine block_ok 0 (by kernel_rfl) ?_
  have hN : ∀ e w, (m65_4 R (e 2) (e 8) w) → (inBlockE 0 (thenE (W65 k65_4 Q) Q)) .normal e w := fun e w h => block_N (hN e w h)
  have hR : hR65 R (inBlockE 0 (thenE (W65 k65_4 Q) Q)) := fun e w h => block_R (hR e w h)
  refine seA ?_
  exact rgA 5 (fun e w => m65_6 R (e 0) (e 2) (e 8) (e 22) w) h fun e w h => then_N (s65_6 (R := R) (Q := (inBlockE 0 (thenE (W65 k65_4 Q) Q))) hN hR e w h)
theorem s65_2 (hR : hR65 R Q) (e : Env) (w : World) (h : m65_2 R (e 0) (e 1) (e 2) w) : W65 k65_2 Q e w := by
  refine seA ?_
  exact rgA 4 (fun e w => m65_3 R (e 0) (e 2) (e 8) w) h fun e w h => then_N (s65_3 hR e w h)
theorem s65_11 (hN : ∀ e w, (m65_2 R (e 0) (e 1) (e 2) w) → Q .normal e w) (hR : hR65 R Q) (e : Env) (w : World) (h : m65_11 R (e 0) (e 1) (e 2) (e 7) (e 14) w) : W65 k65_11 Q e w := by
  refine coA (Operand.tmp 14) h (fun h1 => ?_) (fun h1 => ?_)
  · refine seA ?_
    exact rgA 3 (fun e w => m65_12 R (e 6) w) h1 fun e w h => then_N (s65_12 hR e w h)
  · exact skA (hN _ _ h1)
theorem s65_10 (hN : ∀ e w, (m65_2 R (e 0) (e 1) (e 2) w) → Q .normal e w) (hR : hR65 R Q) (e : Env) (w : World) (h : m65_10 R (e 0) (e 1) (e 2) (e 7) w) : W65 k65_10 Q e w := by
  refine seA ?_
  exact rgA 2 (fun e w => m65_11 R (e 0) (e 1) (e 2) (e 7) (e 14) w) h fun e w h => then_N (s65_11 hN hR e w h)
theorem s65_1 (hR : hR65 R Q) (e : Env) (w : World) (h : m65_1 R (e 0) (e 1) (e 2) w) : W65 k65_1 Q e w := by
  refine seA ?_
  have hN : ∀ e w, (m65_2 R (e 0) (e 1) (e 2) w) → (thenE (W65 k65_2 Q) Q) .normal e w := fun e w h => then_N (s65_2 hR e w h)
  have hR : hR65 R (thenE (W65 k65_2 Q) Q) := fun e w h => then_R (hR e w h)
  refine seA ?_
  exact rgA 1 (fun e w => m65_10 R (e 0) (e 1) (e 2) (e 7) w) h fun e w h => then_N (s65_10 hN hR e w h)
theorem s65_0 (hR : hR65 R Q) (e : Env) (w : World) (h : m65_0 R (e 0) (e 1) (e 2) w) : W65 k65_0 Q e w := by
  refine seA ?_
  exact rgA 0 (fun e w => m65_1 R (e 0) (e 1) (e 2) w) h fun e w h => then_N (s65_1 hR e w h)
abbrev m65 (R : VP) (d0 name1 do2 : Value) (w : World) : Prop := m65_0 R d0 name1 do2 w
theorem s65 (d0 name1 do2 : Value) {R : VP} {w : World} (h : m65 R d0 name1 do2 w) :
    Calls Tryz.prog 65 #[d0, name1, do2] w fun e w' => ∃ v, e = .returned v ∧ R v w' :=
  calls_of_cwp (st := (fun i => 0)) (c := k65_0) (by kernel_rfl) Tryz.func65 (by kernel_rfl) (Nat.le_of_ble_eq_true (by kernel_rfl)) (by kernel_rfl)
    (s65_0 (R := R) (Q := endE Tryz.prog Tryz.f65 R) (fun e w h => kcast (by kernel_rfl) h) (argsE #[d0, name1, do2]) w (kcast (by kernel_rfl) h))
def m68_5 (R : VP) (t5 : Value) (w : World) : Prop :=
  R t5 w
def m68_4 (R : VP) (w : World) : Prop :=
  m68_5 R (vi 0) w
def m68_3 (R : VP) (f0 t1 t2 : Value) (w : World) : Prop :=
  anyDraw w fun w =>
  valS Tryz.prog (Instr.loadAt 25 t1) w fun t35 =>
  nilCheckP t35 fun t36 =>
  valS Tryz.prog (Instr.fieldAt 61 t36 0) w fun t37 =>
  valS Tryz.prog (Instr.loadAt 59 t37) w fun t38 =>
  valS Tryz.prog (Instr.loadAt 9 t2) w fun t39 =>
  unitP Tryz.prog (Instr.mapUpdate 59 t38 t39 f0) w fun _ w =>
  m68_4 R w
def m68_2 (R : VP) (f0 t1 t2 t3 : Value) (w : World) : Prop :=
  anyDraw w fun w =>
  valS Tryz.prog (Instr.loadAt 25 t1) w fun t30 =>
  nilCheckP t30 fun t31 =>
  valS Tryz.prog (Instr.fieldAt 61 t31 0) w fun t32 =>
  valS Tryz.prog (Instr.loadAt 59 t32) w fun t33 =>
  valS Tryz.prog (Instr.loadAt 9 t3) w fun t34 =>
  builtinP Tryz.prog Builtin.delete #[59, 9] 0 #[false, false] #[t33, t34] w fun _ w =>
  m68_3 R f0 t1 t2 w
def m68_7 (R : VP) (f0 t1 t2 t3 old6 t19 : Value) (w : World) : Prop :=
  condP t19
  (anyDraw w fun w =>
  heldP w fun J =>
  valJ Tryz.prog J (Instr.loadAt 25 t1) fun t20 =>
  nilCheckP t20 fun t21 =>
  valJ Tryz.prog J (Instr.fieldAt 61 t21 1) fun t22 =>
  (valP Tryz.prog (Instr.loadAt 3 t22) w fun t23 w =>
  stayP J w
  (callP Tryz.prog (fnV 32) #[old6] w fun t25 w =>
  stayP J w
  (callP Tryz.prog (fnV 31) #[t25] w fun t26 w =>
  stayP J w
  (valJ Tryz.prog J (binS BinOp.add 3 (tm 23) (tm 26) t23 t26) fun t27 =>
  nilCheckP t20 fun t28 =>
  valJ Tryz.prog J (Instr.fieldAt 61 t28 1) fun t29 =>
  unitP Tryz.prog (Instr.storeAt 3 t29 t27) w fun _ w =>
  stayP J w
  (m68_2 R f0 t1 t2 t3 w))))) ∧ (callP Tryz.prog (fnV 32) #[old6] w fun t25 w =>
  stayP J w
  ((valP Tryz.prog (Instr.loadAt 3 t22) w fun t23 w =>
  stayP J w
  (callP Tryz.prog (fnV 31) #[t25] w fun t26 w =>
  stayP J w
  (valJ Tryz.prog J (binS BinOp.add 3 (tm 23) (tm 26) t23 t26) fun t27 =>
  nilCheckP t20 fun t28 =>
  valJ Tryz.prog J (Instr.fieldAt 61 t28 1) fun t29 =>
  unitP Tryz.prog (Instr.storeAt 3 t29 t27) w fun _ w =>
  stayP J w
  (m68_2 R f0 t1 t2 t3 w)))) ∧ (callP Tryz.prog (fnV 31) #[t25] w fun t26 w =>
  stayP J w
  (valP Tryz.prog (Instr.loadAt 3 t22) w fun t23 w =>
  stayP J w
  (valJ Tryz.prog J (binS BinOp.add 3 (tm 23) (tm 26) t23 t26) fun t27 =>
  nilCheckP t20 fun t28 =>
  valJ Tryz.prog J (Instr.fieldAt 61 t28 1) fun t29 =>
  unitP Tryz.prog (Instr.storeAt 3 t29 t27) w fun _ w =>
  stayP J w
  (m68_2 R f0 t1 t2 t3 w)))))))
  (m68_2 R f0 t1 t2 t3 w)
def m68_6 (R : VP) (f0 t1 t2 t3 old6 : Value) (w : World) : Prop :=
  valP Tryz.prog (binS BinOp.neq 76 (tm 13) (Operand.const (Value.pointer none)) old6 (Value.pointer none)) w fun t14 w =>
  condP t14
  (valP Tryz.prog (Instr.loadAt 9 t3) w fun t16 w =>
  valP Tryz.prog (Instr.loadAt 9 t2) w fun t17 w =>
  valP Tryz.prog (binS BinOp.neq 9 (tm 16) (tm 17) t16 t17) w fun t18 w =>
  pickP t14 t18 (Value.bool false) fun t19 =>
  m68_7 R f0 t1 t2 t3 old6 t19 w)
  (pickP t14 undef (Value.bool false) fun t19 =>
  m68_7 R f0 t1 t2 t3 old6 t19 w)
def m68_1 (R : VP) (f0 t1 t2 t3 : Value) (w : World) : Prop :=
  valQ Tryz.prog (Instr.loadAt 25 t1) w fun t7 =>
  nilCheckP t7 fun t8 =>
  valQ Tryz.prog (Instr.fieldAt 61 t8 0) w fun t9 =>
  valQ Tryz.prog (Instr.loadAt 59 t9) w fun t10 =>
  valQ Tryz.prog (Instr.loadAt 9 t2) w fun t11 =>
  valQ Tryz.prog (Instr.lookup 59 t10 t11 false) w fun t12 =>
  anyDraw w fun w =>
  m68_6 R f0 t1 t2 t3 t12 w
def m68_0 (R : VP) (f0 t1 t2 t3 : Value) (w : World) : Prop :=
  m68_1 R f0 t1 t2 t3 w
abbrev W68 := cwp Tryz.prog (fun i => cond (Nat.beq i 5) 8 (cond (Nat.beq i 4) 7 (cond (Nat.beq i 1) 1 (0))))
noncomputable def k68_0 := bodyOf Tryz.f68
noncomputable def k68_1 := c2 k68_0
noncomputable def k68_2 := c2 k68_1
noncomputable def k68_3 := c2 k68_2
noncomputable def k68_4 := c2 k68_3
noncomputable def k68_5 := c2 k68_4
noncomputable def k68_6 := c2 (c1 k68_1)
noncomputable def k68_7 := c2 k68_6
abbrev hR68 (R : VP) (Q : EQ) : Prop := ∀ e w, (R (e 5) w) → Q .ret e w
theorem s68_5 (hR : hR68 R Q) (e : Env) (w : World) (h : m68_5 R (e 5) w) : W68 k68_5 Q e w := by
  exact reA (hR _ _ h)
theorem s68_4 (hR : hR68 R Q) (e : Env) (w : World) (h : m68_4 R w) : W68 k68_4 Q e w := by
  refine seA ?_
  exact rgA 6 (fun e w => m68_5 R (e 5) w) h fun e w h => then_N (s68_5 hR e w h)
theorem s68_3 (hR : hR68 R Q) (e : Env) (w : World) (h : m68_3 R (e 0) (e 1) (e 2) w) : W68 k68_3 Q e w := by
  refine seA ?_
  have hN : ∀ e w, (m68_4 R w) → (thenE (W68 k68_4 Q) Q) .normal e w := fun e w h => then_N (s68_4 hR e w h)
  exact taA 5 6 (fun e w => m68_4 R w) h hN
theorem s68_2 (hR : hR68 R Q) (e : Env) (w : World) (h : m68_2 R (e 0) (e 1) (e 2) (e 3) w) : W68 k68_2 Q e w := by
  refine seA ?_
  have hN : ∀ e w, (m68_3 R (e 0) (e 1) (e 2) w) → (thenE (W68 k68_3 Q) Q) .normal e w := fun e w h => then_N (s68_3 hR e w h)
  exact taA 4 5 (fun e w => m68_3 R (e 0) (e 1) (e 2) w) h hN
theorem s68_7 (hN : ∀ e w, (m68_2 R (e 0) (e 1) (e 2) (e 3) w) → Q .normal e w) (e : Env) (w : World) (h : m68_7 R (e 0) (e 1) (e 2) (e 3) (e 6) (e 19) w) : W68 k68_7 Q e w := by
  refine coA (Operand.tmp 19) h (fun h1 => ?_) (fun h1 => ?_)
  · exact treeJ_ok 3 11 (bt 11 0) (.take 0 (bt 11 1) (.take 1 (bt 11 3) (.take 2 (bt 11 7) (.take 4 (bt 11 23) (.alt 3 (bt 11 31) (.alt 5 (bt 11 63) (.alt 6 (bt 11 127) (.take 7 (bt 11 255) (.take 8 (bt 11 511) (.take 9 (bt 11 1023) (.alt 10 (bt 11 2047) .done .stop)))) .stop) .stop) (.alt 5 (bt 11 55) (.alt 3 (bt 11 63) (.alt 6 (bt 11 127) (.take 7 (bt 11 255) (.take 8 (bt 11 511) (.take 9 (bt 11 1023) (.alt 10 (bt 11 2047) .done .stop)))) .stop) (.alt 6 (bt 11 119) (.alt 3 (bt 11 127) (.take 7 (bt 11 255) (.take 8 (bt 11 511) (.take 9 (bt 11 1023) (.alt 10 (bt 11 2047) .done .stop)))) .stop) .stop)) .stop)))))) (fun e w => m68_2 R (e 0) (e 1) (e 2) (e 3) w) (by kernel_rfl) (by kernel_rfl) (by kernel_rfl) (by kernel_rfl) (by kernel_rfl) (by kernel_rfl) (kcast (by kernel_rfl) h1) hN (by kernel_rfl)
  · exact skA (hN _ _ h1)
theorem s68_6 (hN : ∀ e w, (m68_2 R (e 0) (e 1) (e 2) (e 3) w) → Q .normal e w) (e : Env) (w : World) (h : m68_6 R (e 0) (e 1) (e 2) (e 3) (e 6) w) : W68 k68_6 Q e w := by
  refine seA ?_
  exact rgA 2 (fun e w => m68_7 R (e 0) (e 1) (e 2) (e 3) (e 6) (e 19) w) h fun e w h => then_N (s68_7 hN e w h)
theorem s68_1 (hR : hR68 R Q) (e : Env) (w : World) (h : m68_1 R (e 0) (e 1) (e 2) (e 3) w) : W68 k68_1 Q e w := by
  refine seA ?_
  have hN : ∀ e w, (m68_2 R (e 0) (e 1) (e 2) (e 3) w) → (thenE (W68 k68_2 Q) Q) .normal e w := fun e w h => then_N (s68_2 hR e w h)
  refine seA ?_
  have hN : ∀ e w, (m68_6 R (e 0) (e 1) (e 2) (e 3) (e 6) w) → (thenE (W68 k68_6 (thenE (W68 k68_2 Q) Q)) (thenE (W68 k68_2 Q) Q)) .normal e w := fun e w h => then_N (s68_6 hN e w h)
  exact quA 1 (fun e w => m68_6 R (e 0) (e 1) (e 2) (e 3) (e 6) w) h hN
theorem s68_0 (hR : hR68 R Q) (e : Env) (w : World) (h : m68_0 R (e 0) (e 1) (e 2) (e 3) w) : W68 k68_0 Q e w := by
  refine seA ?_
  exact rgA 0 (fun e w => m68_1 R (e 0) (e 1) (e 2) (e 3) w) h fun e w h => then_N (s68_1 hR e w h)
abbrev m68 (R : VP) (f0 t1 t2 t3 : Value) (w : World) : Prop := m68_0 R f0 t1 t2 t3 w
theorem s68 (f0 t1 t2 t3 : Value) {R : VP} {w : World} (h : m68 R f0 t1 t2 t3 w) :
    Calls Tryz.prog 68 #[f0, t1, t2, t3] w fun e w' => ∃ v, e = .returned v ∧ R v w' :=
  calls_of_cwp (st := (fun i => cond (Nat.beq i 5) 8 (cond (Nat.beq i 4) 7 (cond (Nat.beq i 1) 1 (0))))) (c := k68_0) (by kernel_rfl) Tryz.func68 (by kernel_rfl) (Nat.le_of_ble_eq_true (by kernel_rfl)) (by kernel_rfl)
    (s68_0 (R := R) (Q := endE Tryz.prog Tryz.f68 R) (fun e w h => kcast (by kernel_rfl) h) (argsE #[f0, t1, t2, t3]) w (kcast (by kernel_rfl) h))
def m67_3 (R : VP) (t2 : Value) (w : World) : Prop :=
  R t2 w
def m67_2 (R : VP) (w : World) : Prop :=
  m67_3 R (vi 0) w
def m67_1 (R : VP) (f0 : Value) (w : World) : Prop :=
  anyDraw w fun w =>
  nilCheckP f0 fun t6 =>
  pureP Tryz.prog (Instr.fieldAt 78 t6 0) fun t7 =>
  nilCheckP f0 fun t10 =>
  pureP Tryz.prog (Instr.fieldAt 78 t10 1) fun t11 =>
  (valP Tryz.prog (Instr.loadAt 9 t7) w fun t8 w =>
  valP Tryz.prog (Instr.loadAt 9 t11) w fun t12 w =>
  pureP Tryz.prog (binS BinOp.add 9 (tm 8) (tm 12) t8 t12) fun t13 =>
  nilCheckP f0 fun t14 =>
  pureP Tryz.prog (Instr.fieldAt 78 t14 0) fun t15 =>
  unitP Tryz.prog (Instr.storeAt 9 t15 t13) w fun _ w =>
  nilCheckP f0 fun t16 =>
  pureP Tryz.prog (Instr.fieldAt 78 t16 1) fun t17 =>
  unitP Tryz.prog (Instr.storeAt 9 t17 (Value.string ⟨#[]⟩)) w fun _ w =>
  m67_2 R w) ∧ (valP Tryz.prog (Instr.loadAt 9 t11) w fun t12 w =>
  valP Tryz.prog (Instr.loadAt 9 t7) w fun t8 w =>
  pureP Tryz.prog (binS BinOp.add 9 (tm 8) (tm 12) t8 t12) fun t13 =>
  nilCheckP f0 fun t14 =>
  pureP Tryz.prog (Instr.fieldAt 78 t14 0) fun t15 =>
  unitP Tryz.prog (Instr.storeAt 9 t15 t13) w fun _ w =>
  nilCheckP f0 fun t16 =>
  pureP Tryz.prog (Instr.fieldAt 78 t16 1) fun t17 =>
  unitP Tryz.prog (Instr.storeAt 9 t17 (Value.string ⟨#[]⟩)) w fun _ w =>
  m67_2 R w)
def m67_0 (R : VP) (f0 : Value) (w : World) : Prop :=
  m67_1 R f0 w
abbrev W67 := cwp Tryz.prog (fun i => 0)
noncomputable def k67_0 := bodyOf Tryz.f67
noncomputable def k67_1 := c2 k67_0
noncomputable def k67_2 := c2 k67_1
noncomputable def k67_3 := c2 k67_2
abbrev hR67 (R : VP) (Q : EQ) : Prop := ∀ e w, (R (e 2) w) → Q .ret e w
theorem s67_3 (hR : hR67 R Q) (e : Env) (w : World) (h : m67_3 R (e 2) w) : W67 k67_3 Q e w := by
  exact reA (hR _ _ h)
theorem s67_2 (hR : hR67 R Q) (e : Env) (w : World) (h : m67_2 R w) : W67 k67_2 Q e w := by
  refine seA ?_
  exact rgA 2 (fun e w => m67_3 R (e 2) w) h fun e w h => then_N (s67_3 hR e w h)
theorem s67_1 (hR : hR67 R Q) (e : Env) (w : World) (h : m67_1 R (e 0) w) : W67 k67_1 Q e w := by
  refine seA ?_
  have hN : ∀ e w, (m67_2 R w) → (thenE (W67 k67_2 Q) Q) .normal e w := fun e w h => then_N (s67_2 hR e w h)
  exact tree_ok 1 17 (bt 17 0) (.take 0 (bt 17 1) (.take 1 (bt 17 3) (.take 2 (bt 17 7) (.take 3 (bt 17 15) (.take 4 (bt 17 31) (.take 6 (bt 17 95) (.take 7 (bt 17 223) (.take 8 (bt 17 479) (.alt 5 (bt 17 511) (.alt 9 (bt 17 1023) (.take 10 (bt 17 2047) (.take 11 (bt 17 4095) (.take 12 (bt 17 8191) (.alt 13 (bt 17 16383) (.take 14 (bt 17 32767) (.take 15 (bt 17 65535) (.alt 16 (bt 17 131071) .done .stop))) .stop)))) .stop) (.alt 9 (bt 17 991) (.alt 5 (bt 17 1023) (.take 10 (bt 17 2047) (.take 11 (bt 17 4095) (.take 12 (bt 17 8191) (.alt 13 (bt 17 16383) (.take 14 (bt 17 32767) (.take 15 (bt 17 65535) (.alt 16 (bt 17 131071) .done .stop))) .stop)))) .stop) .stop)))))))))) (fun e w => m67_2 R w) (by kernel_rfl) (by kernel_rfl) (by kernel_rfl) (by kernel_rfl) (by kernel_rfl) (by kernel_rfl) (kcast (by kernel_rfl) h) hN (by kernel_rfl)
theorem s67_0 (hR : hR67 R Q) (e : Env) (w : World) (h : m67_0 R (e 0) w) : W67 k67_0 Q e w := by
  refine seA ?_
  exact rgA 0 (fun e w => m67_1 R (e 0) w) h fun e w h => then_N (s67_1 hR e w h)
abbrev m67 (R : VP) (f0 : Value) (w : World) : Prop := m67_0 R f0 w
theorem s67 (f0 : Value) {R : VP} {w : World} (h : m67 R f0 w) :
    Calls Tryz.prog 67 #[f0] w fun e w' => ∃ v, e = .returned v ∧ R v w' :=
  calls_of_cwp (st := (fun i => 0)) (c := k67_0) (by kernel_rfl) Tryz.func67 (by kernel_rfl) (Nat.le_of_ble_eq_true (by kernel_rfl)) (by kernel_rfl)
    (s67_0 (R := R) (Q := endE Tryz.prog Tryz.f67 R) (fun e w h => kcast (by kernel_rfl) h) (argsE #[f0]) w (kcast (by kernel_rfl) h))
def m66_4 (R : VP) (t4 : Value) (w : World) : Prop :=
  R t4 w
def m66_3 (R : VP) (w : World) : Prop :=
  m66_4 R (vi 0) w
def m66_2 (R : VP) (t1 t2 : Value) (w : World) : Prop :=
  anyDraw w fun w =>
  valS Tryz.prog (Instr.loadAt 25 t1) w fun t15 =>
  nilCheckP t15 fun t16 =>
  valS Tryz.prog (Instr.fieldAt 61 t16 0) w fun t17 =>
  valS Tryz.prog (Instr.loadAt 59 t17) w fun t18 =>
  valS Tryz.prog (Instr.loadAt 9 t2) w fun t19 =>
  builtinP Tryz.prog Builtin.delete #[59, 9] 0 #[false, false] #[t18, t19] w fun _ w =>
  m66_3 R w
def m66_1 (R : VP) (f0 t1 t2 : Value) (w : World) : Prop :=
  anyDraw w fun w =>
  heldP w fun J =>
  valJ Tryz.prog J (Instr.loadAt 25 t1) fun t5 =>
  nilCheckP t5 fun t6 =>
  valJ Tryz.prog J (Instr.fieldAt 61 t6 1) fun t7 =>
  (valP Tryz.prog (Instr.loadAt 3 t7) w fun t8 w =>
  stayP J w
  (callP Tryz.prog (fnV 32) #[f0] w fun t10 w =>
  stayP J w
  (callP Tryz.prog (fnV 31) #[t10] w fun t11 w =>
  stayP J w
  (valJ Tryz.prog J (binS BinOp.add 3 (tm 8) (tm 11) t8 t11) fun t12 =>
  nilCheckP t5 fun t13 =>
  valJ Tryz.prog J (Instr.fieldAt 61 t13 1) fun t14 =>
  unitP Tryz.prog (Instr.storeAt 3 t14 t12) w fun _ w =>
  stayP J w
  (m66_2 R t1 t2 w))))) ∧ (callP Tryz.prog (fnV 32) #[f0] w fun t10 w =>
  stayP J w
  ((valP Tryz.prog (Instr.loadAt 3 t7) w fun t8 w =>
  stayP J w
  (callP Tryz.prog (fnV 31) #[t10] w fun t11 w =>
  stayP J w
  (valJ Tryz.prog J (binS BinOp.add 3 (tm 8) (tm 11) t8 t11) fun t12 =>
  nilCheckP t5 fun t13 =>
  valJ Tryz.prog J (Instr.fieldAt 61 t13 1) fun t14 =>
  unitP Tryz.prog (Instr.storeAt 3 t14 t12) w fun _ w =>
  stayP J w
  (m66_2 R t1 t2 w)))) ∧ (callP Tryz.prog (fnV 31) #[t10] w fun t11 w =>
  stayP J w
  (valP Tryz.prog (Instr.loadAt 3 t7) w fun t8 w =>
  stayP J w
  (valJ Tryz.prog J (binS BinOp.add 3 (tm 8) (tm 11) t8 t11) fun t12 =>
  nilCheckP t5 fun t13 =>
  valJ Tryz.prog J (Instr.fieldAt 61 t13 1) fun t14 =>
  unitP Tryz.prog (Instr.storeAt 3 t14 t12) w fun _ w =>
  stayP J w
  (m66_2 R t1 t2 w))))))
def m66_0 (R : VP) (f0 t1 t2 : Value) (w : World) : Prop :=
  m66_1 R f0 t1 t2 w
abbrev W66 := cwp Tryz.prog (fun i => cond (Nat.beq i 2) 7 (0))
noncomputable def k66_0 := bodyOf Tryz.f66
noncomputable def k66_1 := c2 k66_0
noncomputable def k66_2 := c2 k66_1
noncomputable def k66_3 := c2 k66_2
noncomputable def k66_4 := c2 k66_3
abbrev hR66 (R : VP) (Q : EQ) : Prop := ∀ e w, (R (e 4) w) → Q .ret e w
theorem s66_4 (hR : hR66 R Q) (e : Env) (w : World) (h : m66_4 R (e 4) w) : W66 k66_4 Q e w := by
  exact reA (hR _ _ h)
theorem s66_3 (hR : hR66 R Q) (e : Env) (w : World) (h : m66_3 R w) : W66 k66_3 Q e w := by
  refine seA ?_
  exact rgA 3 (fun e w => m66_4 R (e 4) w) h fun e w h => then_N (s66_4 hR e w h)
theorem s66_2 (hR : hR66 R Q) (e : Env) (w : World) (h : m66_2 R (e 1) (e 2) w) : W66 k66_2 Q e w := by
  refine seA ?_
  have hN : ∀ e w, (m66_3 R w) → (thenE (W66 k66_3 Q) Q) .normal e w := fun e w h => then_N (s66_3 hR e w h)
  exact taA 2 5 (fun e w => m66_3 R w) h hN
theorem s66_1 (hR : hR66 R Q) (e : Env) (w : World) (h : m66_1 R (e 0) (e 1) (e 2) w) : W66 k66_1 Q e w := by
  refine seA ?_
  have hN : ∀ e w, (m66_2 R (e 1) (e 2) w) → (thenE (W66 k66_2 Q) Q) .normal e w := fun e w h => then_N (s66_2 hR e w h)
  exact treeJ_ok 1 11 (bt 11 0) (.take 0 (bt 11 1) (.take 1 (bt 11 3) (.take 2 (bt 11 7) (.take 4 (bt 11 23) (.alt 3 (bt 11 31) (.alt 5 (bt 11 63) (.alt 6 (bt 11 127) (.take 7 (bt 11 255) (.take 8 (bt 11 511) (.take 9 (bt 11 1023) (.alt 10 (bt 11 2047) .done .stop)))) .stop) .stop) (.alt 5 (bt 11 55) (.alt 3 (bt 11 63) (.alt 6 (bt 11 127) (.take 7 (bt 11 255) (.take 8 (bt 11 511) (.take 9 (bt 11 1023) (.alt 10 (bt 11 2047) .done .stop)))) .stop) (.alt 6 (bt 11 119) (.alt 3 (bt 11 127) (.take 7 (bt 11 255) (.take 8 (bt 11 511) (.take 9 (bt 11 1023) (.alt 10 (bt 11 2047) .done .stop)))) .stop) .stop)) .stop)))))) (fun e w => m66_2 R (e 1) (e 2) w) (by kernel_rfl) (by kernel_rfl) (by kernel_rfl) (by kernel_rfl) (by kernel_rfl) (by kernel_rfl) (kcast (by kernel_rfl) h) hN (by kernel_rfl)
theorem s66_0 (hR : hR66 R Q) (e : Env) (w : World) (h : m66_0 R (e 0) (e 1) (e 2) w) : W66 k66_0 Q e w := by
  refine seA ?_
  exact rgA 0 (fun e w => m66_1 R (e 0) (e 1) (e 2) w) h fun e w h => then_N (s66_1 hR e w h)
abbrev m66 (R : VP) (f0 t1 t2 : Value) (w : World) : Prop := m66_0 R f0 t1 t2 w
theorem s66 (f0 t1 t2 : Value) {R : VP} {w : World} (h : m66 R f0 t1 t2 w) :
    Calls Tryz.prog 66 #[f0, t1, t2] w fun e w' => ∃ v, e = .returned v ∧ R v w' :=
  calls_of_cwp (st := (fun i => cond (Nat.beq i 2) 7 (0))) (c := k66_0) (by kernel_rfl) Tryz.func66 (by kernel_rfl) (Nat.le_of_ble_eq_true (by kernel_rfl)) (by kernel_rfl)
    (s66_0 (R := R) (Q := endE Tryz.prog Tryz.f66 R) (fun e w h => kcast (by kernel_rfl) h) (argsE #[f0, t1, t2]) w (kcast (by kernel_rfl) h))
def m27_2 (R : VP) (t4 : Value) (w : World) : Prop :=
  R t4 w
def m27_1 (R : VP) (d0 name1 : Value) (w : World) : Prop :=
  callP Tryz.prog (fnV 65) #[d0, name1, (fnV 67)] w fun t7 w =>
  m27_2 R t7 w
def m27_0 (R : VP) (d0 name1 : Value) (w : World) : Prop :=
  m27_1 R d0 name1 w
abbrev W27 := cwp Tryz.prog (fun i => 0)
noncomputable def k27_0 := bodyOf Tryz.f27
noncomputable def k27_1 := c2 k27_0
noncomputable def k27_2 := c2 k27_1
abbrev hR27 (R : VP) (Q : EQ) : Prop := ∀ e w, (R (e 4) w) → Q .ret e w
theorem s27_2 (hR : hR27 R Q) (e : Env) (w : World) (h : m27_2 R (e 4) w) : W27 k27_2 Q e w := by
  exact reA (hR _ _ h)
theorem s27_1 (hR : hR27 R Q) (e : Env) (w : World) (h : m27_1 R (e 0) (e 1) w) : W27 k27_1 Q e w := by
  refine seA ?_
  exact rgA 1 (fun e w => m27_2 R (e 4) w) h fun e w h => then_N (s27_2 hR e w h)
theorem s27_0 (hR : hR27 R Q) (e : Env) (w : World) (h : m27_0 R (e 0) (e 1) w) : W27 k27_0 Q e w := by
  refine seA ?_
  exact rgA 0 (fun e w => m27_1 R (e 0) (e 1) w) h fun e w h => then_N (s27_1 hR e w h)
abbrev m27 (R : VP) (d0 name1 : Value) (w : World) : Prop := m27_0 R d0 name1 w
theorem s27 (d0 name1 : Value) {R : VP} {w : World} (h : m27 R d0 name1 w) :
    Calls Tryz.prog 27 #[d0, name1] w fun e w' => ∃ v, e = .returned v ∧ R v w' :=
  calls_of_cwp (st := (fun i => 0)) (c := k27_0) (by kernel_rfl) Tryz.func27 (by kernel_rfl) (Nat.le_of_ble_eq_true (by kernel_rfl)) (by kernel_rfl)
    (s27_0 (R := R) (Q := endE Tryz.prog Tryz.f27 R) (fun e w h => kcast (by kernel_rfl) h) (argsE #[d0, name1]) w (kcast (by kernel_rfl) h))
def m26_2 (R : VP) (t4 : Value) (w : World) : Prop :=
  R t4 w
def m26_1 (R : VP) (d2 name3 : Value) (w : World) : Prop :=
  valP Tryz.prog (Instr.loadAt 25 d2) w fun t5 w =>
  valP Tryz.prog (Instr.loadAt 9 name3) w fun t6 w =>
  valP Tryz.prog (Instr.makeFunc (Fn.func 66) #[] #[d2, name3]) w fun t7 w =>
  callP Tryz.prog (fnV 65) #[t5, t6, t7] w fun t8 w =>
  m26_2 R t8 w
def m26_0 (R : VP) (d0 name1 : Value) (w : World) : Prop :=
  valP Tryz.prog (Instr.box 25 d0) w fun d2 w =>
  valP Tryz.prog (Instr.box 9 name1) w fun name3 w =>
  m26_1 R d2 name3 w
abbrev W26 := cwp Tryz.prog (fun i => 0)
noncomputable def k26_0 := bodyOf Tryz.f26
noncomputable def k26_1 := c2 k26_0
noncomputable def k26_2 := c2 k26_1
abbrev hR26 (R : VP) (Q : EQ) : Prop := ∀ e w, (R (e 4) w) → Q .ret e w
theorem s26_2 (hR : hR26 R Q) (e : Env) (w : World) (h : m26_2 R (e 4) w) : W26 k26_2 Q e w := by
  exact reA (hR _ _ h)
theorem s26_1 (hR : hR26 R Q) (e : Env) (w : World) (h : m26_1 R (e 2) (e 3) w) : W26 k26_1 Q e w := by
  refine seA ?_
  exact rgA 1 (fun e w => m26_2 R (e 4) w) h fun e w h => then_N (s26_2 hR e w h)
theorem s26_0 (hR : hR26 R Q) (e : Env) (w : World) (h : m26_0 R (e 0) (e 1) w) : W26 k26_0 Q e w := by
  refine seA ?_
  exact rgA 0 (fun e w => m26_1 R (e 2) (e 3) w) h fun e w h => then_N (s26_1 hR e w h)
abbrev m26 (R : VP) (d0 name1 : Value) (w : World) : Prop := m26_0 R d0 name1 w
theorem s26 (d0 name1 : Value) {R : VP} {w : World} (h : m26 R d0 name1 w) :
    Calls Tryz.prog 26 #[d0, name1] w fun e w' => ∃ v, e = .returned v ∧ R v w' :=
  calls_of_cwp (st := (fun i => 0)) (c := k26_0) (by kernel_rfl) Tryz.func26 (by kernel_rfl) (Nat.le_of_ble_eq_true (by kernel_rfl)) (by kernel_rfl)
    (s26_0 (R := R) (Q := endE Tryz.prog Tryz.f26 R) (fun e w h => kcast (by kernel_rfl) h) (argsE #[d0, name1]) w (kcast (by kernel_rfl) h))
end Go.Proofs.YtcldjjmfpmkldaaGreatDoor.M
namespace Go.Proofs.YtcldjjmfpmkldaaGreatDoor.M
open Go.Proofs.YtcldjjmfpmkldaaGreatDoor.F Go.RowKit
set_option linter.unusedVariables false
set_option linter.unusedSimpArgs false
set_option maxRecDepth 100000
set_option maxHeartbeats 2000000
attribute [local irreducible] Res.cells Res.row Res.map Res.any World.cell? World.frozen? Instr.fieldAt Instr.loadAt Instr.storeAt Instr.indexAt Instr.lookup Instr.mapUpdate Instr.box Instr.build Instr.buildSlice Instr.extract Instr.alloc Instr.field Instr.index Instr.sliceAt Instr.makeSlice Instr.makeMap Instr.makeFunc binS Op.unary Sem.run
structure Fl where
  name : ByteArray
  sure : ByteArray
  loose : ByteArray
def Fl.sz (f : Fl) : Nat := f.sure.size + f.loose.size
structure Dk where
  L : List Fl
  room : Int
  fuse : Int
  off : Bool
def blk (n : Nat) : Nat := max 1 ((n + 63) / 64)
abbrev dCell (b : Nat) (m : Value) (r f : Int) (o : Bool) : Res := Res.cells b 61 [m, .int .i64 r, .int .i64 f, .bool o]
abbrev fCell (g : Nat) (a c : ByteArray) : Res := Res.cells g 78 [.string a, .string c]
abbrev fileR (p : Fl × Nat) : Res := fCell p.2 p.1.sure p.1.loose
abbrev nb (p : Fl × Nat) : ByteArray × Nat := (p.1.name, p.2)
abbrev mapD (mb : Nat) (X : List (Fl × Nat)) : Res := Res.mapT Tryz.prog 9 mb (X.map nb)
def Dsk (w0 : World) (F : List Nat) (L : List Res) (b : Nat) (D : Dk) (w : World) : Prop := ∃ mb X, X.map Prod.fst = D.L ∧ St w0 F w (dCell b (.map (some mb)) D.room D.fuse D.off :: mapD mb X :: (X.map fileR ++ L))
def UpL (l : List Fl) : Prop := l.Pairwise (fun a b => lst a.name < lst b.name)
theorem up_nb {X : List (Fl × Nat)} (h : UpL (X.map Prod.fst)) : Up (X.map nb) := by
  unfold Up UpL at *
  rw [List.pairwise_map] at *
  exact h
def burnt (D : Dk) : Dk := if D.fuse = 0 then ⟨D.L, D.room, D.fuse, true⟩ else if 0 < D.fuse then ⟨D.L, D.room, D.fuse - 1, D.off⟩ else D
section
variable {w0 w : World} {F : List Nat} {L : List Res}
theorem blocks_ret {n : Nat} (hn : n ≤ 1000000000000) (hS : St w0 F w L) : Ret Tryz.prog 31 #[.int .i64 (n : Int)] w fun v w' => v = .int .i64 (blk n : Int) ∧ St w0 F w' L := by
  refine s31 _ ?_
  unfold m31
  unfold m31_0
  unfold m31_1
  refine valP_ok (add_ok _ _ _ (by omega) (by omega) _) ?_
  refine valP_ok (sub_ok _ _ _ (by omega) (by omega) _) ?_
  refine valP_ok (quo_ok _ _ _ (by omega) (by omega) (by omega) _) ?_
  refine builtin_ok (max_run _ _ _) ?_
  unfold m31_2
  refine ⟨?_, hS⟩
  unfold blk
  congr 1
  omega
theorem size_ret (k : Nat) {g : Nat} {a c : ByteArray} (hz : a.size + c.size ≤ 1000000000000) (hk : L[k]? = some (fCell g a c)) (hS : St w0 F w L) : Ret Tryz.prog 32 #[ptr g] w fun v w' => v = .int .i64 ((a.size + c.size : Nat) : Int) ∧ St w0 F w' L := by
  have c0 := hS.cell k hk (i := 0) rfl
  have c1 := hS.cell k hk (i := 1) rfl
  refine s32 _ ?_
  unfold m32 m32_0 m32_1
  refine nil_ok ?_
  refine valQ_ok (fun w => fa78_0 _ _) ?_
  refine valQ_load ld9 c0 ?_
  refine builtinQ_ok (len9) ?_
  refine nil_ok ?_
  refine valQ_ok (fa78_1 _) ?_
  refine valQ_load ld9 c1 ?_
  refine builtinQ_ok (len9) ?_
  refine valQ_ok (add_ok _ _ _ (by omega) (by omega)) ?_
  refine drawn_ok hS ?_
  intro w hS
  unfold m32_2
  refine ⟨?_, hS⟩
  congr 1
theorem burn_ret {b : Nat} {m : Value} {r f : Int} {o : Bool} (hf : -9223372036854775808 ≤ f ∧ f ≤ 9223372036854775807) (hS : St w0 F w (dCell b m r f o :: L)) : Ret Tryz.prog 45 #[ptr b] w fun v w' => v = .bool (decide (¬ f = 0)) ∧ St w0 F w' (dCell b m r (if 0 < f then f - 1 else f) (if f = 0 then true else o) :: L) := by
  refine s45 _ ?_
  unfold m45
  unfold m45_0
  unfold m45_1
  refine nil_ok ?_
  refine valP_ok (fa61_2 _ _) ?_
  refine valP_ok (ld3 (hS.cell 0 rfl rfl)) ?_
  refine valP_ok (eq3 _ _ _ _ _) ?_
  unfold m45_6
  refine cond_split (fun h => ?_) (fun h => ?_)
  · refine nil_ok ?_
    refine valP_ok (fa61_3 _ _) ?_
    refine store_at 0 st4 hS rfl (by simp) rfl ?_
    intro w hS
    simp only [List.set_cons_zero, List.set_cons_succ] at hS
    unfold m45_7 m45_8
    rw [if_pos h, if_neg (by omega)]
    exact ⟨congrArg Value.bool (decide_eq_false (not_not_intro h)).symm, hS⟩
  · unfold m45_2
    refine nil_ok ?_
    refine valP_ok (fa61_2 _ _) ?_
    refine valP_ok (ld3 (hS.cell 0 rfl rfl)) ?_
    refine valP_ok (gtr_ok _ _ _ _ _ _ _) ?_
    unfold m45_5
    rw [if_neg h]
    refine cond_split (fun h1 => ?_) (fun h1 => ?_)
    · refine nil_ok ?_
      refine valP_ok (fa61_2 _ _) ?_
      refine valP_ok (ld3 (hS.cell 0 rfl rfl)) ?_
      refine valP_ok (sub_ok _ _ _ (by omega) (by omega) _) ?_
      refine nil_ok ?_
      refine valP_ok (fa61_2 _ _) ?_
      refine store_at 0 st3 hS rfl (by simp) rfl ?_
      intro w hS
      simp only [List.set_cons_zero, List.set_cons_succ] at hS
      unfold m45_3 m45_4
      rw [if_pos h1]
      exact ⟨congrArg Value.bool (decide_eq_true h).symm, hS⟩
    · unfold m45_3 m45_4
      rw [if_neg h1]
      exact ⟨congrArg Value.bool (decide_eq_true h).symm, hS⟩
def readyC (xs : List ByteArray) (o : Bool) : Int := if ∀ x ∈ xs, Named x then (if o then 4 else 0) else 1
theorem ready_ret {xs : List ByteArray} {A : Option Addr} {c b : Nat} {m : Value} {r f : Int} {o : Bool} (k : Nat) (hk : L[k]? = some (dCell b m r f o)) (hm : xs.length ≤ 1000) (hE : Bes w0 F L 1 A xs.length (xs.map Value.string)) (hS : St w0 F w L) : Ret Tryz.prog 44 #[ptr b, .slice A xs.length c] w fun v w' => v = .int .i64 (readyC xs o) ∧ St w0 F w' L := by
  refine s44 _ _ ?_
  unfold m44
  unfold m44_0
  unfold m44_1
  refine builtin_ok (len71 _) ?_
  unfold m44_7
  refine loop_in (fun u w' => ∃ i : Nat, u = .int .i64 (i : Int) ∧ i ≤ xs.length ∧ (∀ j (hj : j < xs.length), j < i → Named xs[j]) ∧ St w0 F w' L) (fun u _ => xs.length - (intOf u).toNat) ⟨0, rfl, by omega, fun j _ h => by omega, hS⟩ ?_
  clear hS
  rintro u w ⟨i, rfl, hi, hno, hS⟩
  unfold m44_8
  refine valP_ok (lss_ok _ _ _ _ _ _ _) ?_
  unfold m44_9
  refine cond_split (fun h => ?_) (fun h => ?_)
  · have hil : i < xs.length := by omega
    have hR := hE.rd hS
    obtain ⟨gb, oo, rfl⟩ := hR.some_ (by omega) (by omega)
    unfold m44_10
    refine valP_ok (ix71 hil _) ?_
    refine valP_ok (ld9 (hR.cell_ (by rw [List.getElem?_map, List.getElem?_eq_getElem hil]; rfl))) ?_
    unfold m44_12
    refine valP_ok (eq25s _ _ _ _) ?_
    refine cond_f rfl ?_
    refine callR (by kernel_rfl) (named_ret hS) ?_
    rintro _ w ⟨rfl, hS⟩
    refine valP_ok (not_ok _ _) ?_
    refine pick_f (by first | rfl | assumption) ?_
    unfold m44_13
    refine cond_split (fun h1 => ?_) (fun h1 => ?_)
    · unfold m44_14 readyC
      rw [if_neg (fun h2 => h1 (h2 _ (List.getElem_mem hil)))]
      exact ⟨rfl, hS⟩
    · unfold m44_11
      refine valP_ok (add_ok _ _ _ (by omega) (by omega) _) ?_
      refine ⟨⟨i + 1, rfl, by omega, fun j hj h3 => ?_, hS⟩, by simp [intOf]; omega⟩
      rcases Nat.lt_or_ge j i with g | g
      · exact hno j hj g
      · obtain rfl : j = i := by omega
        exact Classical.not_not.1 h1
  · have hall : ∀ x ∈ xs, Named x := fun x hx => by
      obtain ⟨j, hj, rfl⟩ := List.mem_iff_getElem.1 hx
      exact hno j hj (by omega)
    unfold m44_2
    refine nil_ok ?_
    refine valP_ok (fa61_3 _ _) ?_
    refine valP_ok (ld4 (hS.cell k hk (i := 3) rfl)) ?_
    unfold m44_5 readyC
    rw [if_pos hall]
    cases o with
    | true =>
      refine cond_t rfl ?_
      unfold m44_6
      exact ⟨rfl, hS⟩
    | false =>
      refine cond_f rfl ?_
      unfold m44_3 m44_4
      exact ⟨rfl, hS⟩
theorem new_ret {n : Int} (hS : St w0 F w L) : Ret Tryz.prog 6 #[.int .i64 n] w fun v w' => if 1 ≤ n ∧ n ≤ 16384 then ∃ b, v = .tuple #[ptr b, .int .i64 0] ∧ Dsk w0 F L b ⟨[], n, -1, false⟩ w' else v = .tuple #[.pointer none, .int .i64 1] ∧ St w0 F w' L := by
  have bad : ¬ (1 ≤ n ∧ n ≤ 16384) → m6_4 (fun v w' => if 1 ≤ n ∧ n ≤ 16384 then ∃ b, v = .tuple #[ptr b, .int .i64 0] ∧ Dsk w0 F L b ⟨[], n, -1, false⟩ w' else v = .tuple #[.pointer none, .int .i64 1] ∧ St w0 F w' L) (.int .i64 n) (.bool true) w := fun h => by
    unfold m6_4
    refine cond_t rfl ?_
    unfold m6_5
    simp only [if_neg h]
    exact ⟨trivial, hS⟩
  refine s6 _ ?_
  unfold m6
  unfold m6_0
  unfold m6_1
  refine valP_ok (lss_ok _ _ _ _ _ _ _) ?_
  refine cond_split (fun h => ?_) (fun h => ?_)
  · refine pick_dt (by first | assumption | omega) ?_
    exact bad (by omega)
  · refine valP_ok (gtr_ok _ _ _ _ _ _ _) ?_
    refine pick_df (by first | assumption | omega) ?_
    by_cases h1 : 16384 < n
    · rw [decide_eq_true h1]
      exact bad (by omega)
    · rw [decide_eq_false h1]
      unfold m6_4
      refine cond_f rfl ?_
      unfold m6_2
      refine makeMapT_ok 9 hS ?_
      intro mb w hS
      refine valP_ok (bd61_0_1_2 rfl rfl rfl _) ?_
      refine new_ok (bx61 _ _ _ _ _) hS ?_
      intro b13 w hS
      unfold m6_3
      simp only [show (1 ≤ n ∧ n ≤ 16384) from by omega, and_self, if_true]
      exact ⟨_, rfl, mb, [], rfl, hS⟩
theorem fuse_ret {b : Nat} {m : Value} {r f n : Int} {o : Bool} (hS : St w0 F w (dCell b m r f o :: L)) : Ret Tryz.prog 8 #[ptr b, .int .i64 n] w fun v w' => St w0 F w' (dCell b m r (max n (-1)) o :: L) := by
  refine s8 _ _ ?_
  unfold m8
  unfold m8_0
  refine valP_ok (ne25s _ _ _ _) ?_
  unfold m8_1
  refine cond_t rfl ?_
  refine builtin_ok (max_run _ _ _) ?_
  refine nil_ok ?_
  refine valP_ok (fa61_2 _ _) ?_
  refine store_at 0 st3 hS rfl (by simp) rfl ?_
  intro w hS
  simp only [List.set_cons_zero, List.set_cons_succ] at hS
  exact hS
theorem off_ret {b : Nat} {m : Value} {r f : Int} {o : Bool} (hS : St w0 F w (dCell b m r f o :: L)) : Ret Tryz.prog 56 #[ptr b] w fun v w' => v = .bool o ∧ St w0 F w' (dCell b m r f o :: L) := by
  refine s56 _ ?_
  unfold m56
  unfold m56_0
  unfold m56_1
  refine valP_ok (eq25s _ _ _ _) ?_
  refine cond_f rfl ?_
  refine nil_ok ?_
  refine valP_ok (fa61_3 _ _) ?_
  refine valP_ok (ld4 (hS.cell 0 rfl rfl)) ?_
  refine pick_f (by first | rfl | assumption) ?_
  unfold m56_2
  exact ⟨rfl, hS⟩
theorem free_ret {b : Nat} {m : Value} {r f : Int} {o : Bool} (hS : St w0 F w (dCell b m r f o :: L)) : Ret Tryz.prog 55 #[ptr b] w fun v w' => v = .int .i64 r ∧ St w0 F w' (dCell b m r f o :: L) := by
  refine s55 _ ?_
  unfold m55
  unfold m55_0
  unfold m55_1
  refine valP_ok (eq25s _ _ _ _) ?_
  unfold m55_4
  refine cond_f rfl ?_
  unfold m55_2
  refine nil_ok ?_
  refine valP_ok (fa61_1 _ _) ?_
  refine valP_ok (ld3 (hS.cell 0 rfl rfl)) ?_
  unfold m55_3
  exact ⟨rfl, hS⟩
end
def getF (l : List Fl) (s : ByteArray) : Option Fl := l.find? (fun f => decide (f.name = s))
def updF (l : List Fl) (f' : Fl) : List Fl := l.map (fun f => if f.name = f'.name then f' else f)
def insX (p : Fl × Nat) : List (Fl × Nat) → List (Fl × Nat)
  | [] => [p]
  | q :: X => if lst p.1.name < lst q.1.name then p :: q :: X else q :: insX p X
def insF (f : Fl) : List Fl → List Fl
  | [] => [f]
  | q :: X => if lst f.name < lst q.name then f :: q :: X else q :: insF f X
theorem insX_map (p : Fl × Nat) : ∀ X, (insX p X).map Prod.fst = insF p.1 (X.map Prod.fst)
  | [] => rfl
  | q :: X => by
    unfold insX
    simp only [List.map_cons, insF]
    split
    · rfl
    · rw [List.map_cons, insX_map p X]
theorem insX_perm (p : Fl × Nat) : ∀ X, (insX p X).Perm (p :: X)
  | [] => .refl _
  | q :: X => by
    unfold insX
    split
    · exact .refl _
    · exact ((insX_perm p X).cons q).trans (.swap _ _ _)
theorem insF_perm (f : Fl) : ∀ l, (insF f l).Perm (f :: l)
  | [] => .refl _
  | q :: l => by
    unfold insF
    split
    · exact .refl _
    · exact ((insF_perm f l).cons q).trans (.swap _ _ _)
theorem lt_of_ne {a b : ByteArray} (h : ¬ lst a < lst b) (hne : a ≠ b) : lst b < lst a := by
  refine Classical.byContradiction fun h1 => hne (lst_inj ?_)
  exact List.le_antisymm (List.not_lt.1 h1) (List.not_lt.1 h)
theorem insF_up {f : Fl} : ∀ {l : List Fl}, UpL l → (∀ g ∈ l, g.name ≠ f.name) → UpL (insF f l)
  | [], _, _ => List.pairwise_singleton _ _
  | q :: l, h, hn => by
    have hq := List.pairwise_cons.1 h
    unfold insF
    split
    · rename_i h1
      refine List.pairwise_cons.2 ⟨fun g hg => ?_, h⟩
      rcases List.mem_cons.1 hg with rfl | hg
      · exact h1
      · exact List.lt_trans h1 (hq.1 g hg)
    · rename_i h1
      refine List.pairwise_cons.2 ⟨fun g hg => ?_, insF_up hq.2 (fun g hg => hn g (.tail _ hg))⟩
      rcases List.mem_cons.1 ((insF_perm f l).mem_iff.1 hg) with rfl | hg
      · exact lt_of_ne h1 (hn q (.head _)).symm
      · exact hq.1 g hg
theorem up_ne {l : List Fl} (h : UpL l) : l.Pairwise (fun a b => a.name ≠ b.name) := h.imp fun hab e => by rw [e] at hab; exact absurd hab (List.lt_irrefl _)
theorem getF_mem {l : List Fl} (h : UpL l) {f : Fl} (hf : f ∈ l) : getF l f.name = some f := by
  induction l with
  | nil => cases hf
  | cons q l ih =>
    have hq := List.pairwise_cons.1 (up_ne h)
    unfold getF
    rcases List.mem_cons.1 hf with rfl | hf
    · simp
    · rw [List.find?_cons_of_neg (by simp [hq.1 f hf])]
      exact ih (List.pairwise_cons.1 h).2 hf
theorem getF_none {l : List Fl} {s : ByteArray} (h : ∀ f ∈ l, f.name ≠ s) : getF l s = none := List.find?_eq_none.2 fun f hf => by simp [h f hf]
theorem getF_some {l : List Fl} {s : ByteArray} {f : Fl} (h : getF l s = some f) : f ∈ l ∧ f.name = s := ⟨List.mem_of_find?_eq_some h, by simpa using List.find?_some h⟩
theorem look_X {X : List (Fl × Nat)} (hU : UpL (X.map Prod.fst)) (s : ByteArray) : (Assoc.find (X.map nb) s = none ∧ getF (X.map Prod.fst) s = none ∧ ∀ p ∈ X, p.1.name ≠ s) ∨ ∃ i, ∃ hi : i < X.length, Assoc.find (X.map nb) s = some X[i].2 ∧ getF (X.map Prod.fst) s = some X[i].1 ∧ X[i].1.name = s := by
  cases hf : Assoc.find (X.map nb) s with
  | none =>
    have h := Assoc.find_none hf
    have h2 : ∀ p ∈ X, p.1.name ≠ s := fun p hp => h (nb p) (List.mem_map.2 ⟨p, hp, rfl⟩)
    exact .inl ⟨rfl, getF_none (fun f hf => by obtain ⟨p, hp, rfl⟩ := List.mem_map.1 hf; exact h2 p hp), h2⟩
  | some g =>
    have h := Assoc.find_some hf
    obtain ⟨p, hp, he⟩ := List.mem_map.1 h
    obtain ⟨i, hi, rfl⟩ := List.mem_iff_getElem.1 hp
    obtain ⟨rfl, rfl⟩ := Prod.mk.inj he
    exact .inr ⟨i, hi, rfl, getF_mem hU (List.mem_map.2 ⟨_, List.getElem_mem hi, rfl⟩), rfl⟩
theorem updF_set : ∀ {l : List Fl} (_ : UpL l) {i : Nat} (hi : i < l.length) {f' : Fl} (_ : l[i].name = f'.name), l.set i f' = updF l f'
  | [], _, i, hi, _, _ => absurd hi (Nat.not_lt_zero _)
  | q :: l, h, 0, hi, f', e => by
    have hq := List.pairwise_cons.1 (up_ne h)
    simp only [List.getElem_cons_zero] at e
    unfold updF
    rw [List.set_cons_zero, List.map_cons, if_pos e]
    congr 1
    exact (Eq.trans (List.map_congr_left (g := id) (fun g hg => if_neg (fun h2 => hq.1 g hg (e.trans h2.symm)))) (List.map_id l)).symm
  | q :: l, h, i + 1, hi, f', e => by
    have hq := List.pairwise_cons.1 (up_ne h)
    simp only [List.getElem_cons_succ] at e
    have hl : i < l.length := by simpa using hi
    have ih := updF_set (List.pairwise_cons.1 h).2 hl e
    unfold updF at ih ⊢
    rw [List.set_cons_succ, List.map_cons, if_neg (fun h2 => hq.1 _ (List.getElem_mem hl) (h2.trans e.symm)), ih]
theorem updX_map {X : List (Fl × Nat)} (hU : UpL (X.map Prod.fst)) {i : Nat} (hi : i < X.length) {f' : Fl} (e : X[i].1.name = f'.name) : (X.set i (f', X[i].2)).map Prod.fst = updF (X.map Prod.fst) f' := by
  rw [List.map_set]
  exact updF_set hU (by simpa using hi) (by simpa using e)
theorem nb_set {X : List (Fl × Nat)} {i : Nat} (hi : i < X.length) {f' : Fl} (e : X[i].1.name = f'.name) : (X.set i (f', X[i].2)).map nb = X.map nb := by
  rw [List.map_set]
  have : nb (f', X[i].2) = (X.map nb)[i]'(by simpa using hi) := by simp [nb, e]
  rw [this, List.set_getElem_self]
theorem fileAt {X : List (Fl × Nat)} {i : Nat} (hi : i < X.length) (L : List Res) (a b : Res) : (a :: b :: (X.map fileR ++ L))[i + 2]? = some (fileR X[i]) := by
  rw [List.getElem?_cons_succ, List.getElem?_cons_succ, List.getElem?_append_left (by simpa using hi)]
  simp [hi]
theorem fileSet {X : List (Fl × Nat)} {i : Nat} (hi : i < X.length) (L : List Res) (a b : Res) (f' : Fl) : (a :: b :: (X.map fileR ++ L)).set (i + 2) (fileR (f', X[i].2)) = a :: b :: ((X.set i (f', X[i].2)).map fileR ++ L) := by
  rw [List.set_cons_succ, List.set_cons_succ, List.set_append_left _ _ (by simpa using hi), List.map_set]
def used (l : List Fl) : Nat := (l.map (fun f => blk f.sz)).sum
structure Ok (size : Nat) (D : Dk) : Prop where
  up : UpL D.L
  len : D.L.length ≤ 256
  room : 0 ≤ D.room
  sum : D.room + used D.L = size
  names : ∀ f ∈ D.L, f.name.size ≤ 24
  fuse : -1 ≤ D.fuse ∧ D.fuse ≤ 9223372036854775807
  size : size ≤ 16384
theorem used_mem {l : List Fl} {f : Fl} (h : f ∈ l) : blk f.sz ≤ used l := by
  unfold used
  induction l with
  | nil => cases h
  | cons q l ih =>
    rw [List.map_cons, List.sum_cons]
    rcases List.mem_cons.1 h with rfl | h
    · omega
    · have := ih h
      omega
theorem Ok.sz {n : Nat} {D : Dk} (h : Ok n D) {f : Fl} (hf : f ∈ D.L) : f.sz ≤ 1048576 := by
  have h1 := used_mem hf
  have h2 := h.sum
  have h3 := h.room
  have h4 := h.size
  unfold blk at h1
  omega
end Go.Proofs.YtcldjjmfpmkldaaGreatDoor.M
namespace Go.Proofs.YtcldjjmfpmkldaaGreatDoor.M
open Go.Proofs.YtcldjjmfpmkldaaGreatDoor.F
set_option linter.unusedVariables false
set_option maxRecDepth 100000
variable {R : VP} {Q : EQ}
def m17_21 (R : VP) (t6 : Value) (w : World) : Prop :=
  R t6 w
def m17_17 (R : VP) (t6 : Value) (w : World) : Prop :=
  R t6 w
def m17_13 (R : VP) (t6 : Value) (w : World) : Prop :=
  R t6 w
def m17_11 (R : VP) (t6 : Value) (w : World) : Prop :=
  R t6 w
def m17_10 (R : VP) (w : World) : Prop :=
  m17_11 R (vi 0) w
def m17_12 (R : VP) (t84 : Value) (w : World) : Prop :=
  condP t84
  (m17_13 R (vi 4) w)
  (m17_10 R w)
def m17_9 (R : VP) (d0 : Value) (w : World) : Prop :=
  callP Tryz.prog (fnV 45) #[d0] w fun t83 w =>
  valP Tryz.prog (Op.unary UnOp.not t83) w fun t84 w =>
  m17_12 R t84 w
def m17_8 (R : VP) (d0 s2 f8 : Value) (w : World) : Prop :=
  nilCheckP f8 fun t75 =>
  valP Tryz.prog (Instr.fieldAt 78 t75 1) w fun t76 w =>
  valP Tryz.prog (Instr.loadAt 9 t76) w fun t77 w =>
  valP Tryz.prog (binS BinOp.add 9 (tm 77) (tm 78) t77 s2) w fun t79 w =>
  nilCheckP f8 fun t80 =>
  valP Tryz.prog (Instr.fieldAt 78 t80 1) w fun t81 w =>
  unitP Tryz.prog (Instr.storeAt 9 t81 t79) w fun _ w =>
  m17_9 R d0 w
def m17_7 (R : VP) (d0 s2 f8 need9 : Value) (w : World) : Prop :=
  nilCheckP d0 fun t67 =>
  valP Tryz.prog (Instr.fieldAt 61 t67 1) w fun t68 w =>
  valP Tryz.prog (Instr.loadAt 3 t68) w fun t69 w =>
  valP Tryz.prog (binS BinOp.sub 3 (tm 69) (tm 70) t69 need9) w fun t71 w =>
  nilCheckP d0 fun t72 =>
  valP Tryz.prog (Instr.fieldAt 61 t72 1) w fun t73 w =>
  unitP Tryz.prog (Instr.storeAt 3 t73 t71) w fun _ w =>
  m17_8 R d0 s2 f8 w
def m17_15 (R : VP) (d0 name1 s2 f8 need9 : Value) (w : World) : Prop :=
  nilCheckP d0 fun t61 =>
  valP Tryz.prog (Instr.fieldAt 61 t61 0) w fun t62 w =>
  valP Tryz.prog (Instr.loadAt 59 t62) w fun t63 w =>
  unitP Tryz.prog (Instr.mapUpdate 59 t63 name1 f8) w fun _ w =>
  m17_7 R d0 s2 f8 need9 w
def m17_14 (R : VP) (d0 name1 s2 f8 need9 t57 : Value) (w : World) : Prop :=
  condP t57
  (valP Tryz.prog (Instr.build 78 #[]) w fun t58 w =>
  valP Tryz.prog (Instr.box 78 t58) w fun t59 w =>
  m17_15 R d0 name1 s2 t59 need9 w)
  (m17_7 R d0 s2 f8 need9 w)
def m17_6 (R : VP) (d0 name1 s2 f8 need9 : Value) (w : World) : Prop :=
  valP Tryz.prog (binS BinOp.eql 76 (tm 56) (Operand.const (Value.pointer none)) f8 (Value.pointer none)) w fun t57 w =>
  m17_14 R d0 name1 s2 f8 need9 t57 w
def m17_16 (R : VP) (d0 name1 s2 f8 need9 t55 : Value) (w : World) : Prop :=
  condP t55
  (m17_17 R (vi 5) w)
  (m17_6 R d0 name1 s2 f8 need9 w)
def m17_5 (R : VP) (d0 name1 s2 f8 need9 : Value) (w : World) : Prop :=
  nilCheckP d0 fun t40 =>
  valP Tryz.prog (Instr.fieldAt 61 t40 1) w fun t41 w =>
  valP Tryz.prog (Instr.loadAt 3 t41) w fun t42 w =>
  valP Tryz.prog (binS BinOp.gtr 3 (tm 38) (tm 42) need9 t42) w fun t43 w =>
  condP t43
  (pickP t43 (Value.bool true) undef fun t55 =>
  m17_16 R d0 name1 s2 f8 need9 t55 w)
  (valP Tryz.prog (binS BinOp.eql 76 (tm 45) (Operand.const (Value.pointer none)) f8 (Value.pointer none)) w fun t46 w =>
  condP t46
  (nilCheckP d0 fun t49 =>
  valP Tryz.prog (Instr.fieldAt 61 t49 0) w fun t50 w =>
  valP Tryz.prog (Instr.loadAt 59 t50) w fun t51 w =>
  builtinP Tryz.prog Builtin.len #[59] 3 #[false] #[t51] w fun t52 w =>
  valP Tryz.prog (binS BinOp.geq 3 (tm 52) (ci 256) t52 (vi 256)) w fun t53 w =>
  pickP t46 t53 (Value.bool false) fun t54 =>
  pickP t43 (Value.bool true) t54 fun t55 =>
  m17_16 R d0 name1 s2 f8 need9 t55 w)
  (pickP t46 undef (Value.bool false) fun t54 =>
  pickP t43 (Value.bool true) t54 fun t55 =>
  m17_16 R d0 name1 s2 f8 need9 t55 w))
def m17_18 (R : VP) (d0 name1 s2 f8 need9 t27 : Value) (w : World) : Prop :=
  condP t27
  (callP Tryz.prog (fnV 32) #[f8] w fun t29 w =>
  builtinP Tryz.prog Builtin.len #[9] 3 #[false] #[s2] w fun t31 w =>
  valP Tryz.prog (binS BinOp.add 3 (tm 29) (tm 31) t29 t31) w fun t32 w =>
  callP Tryz.prog (fnV 31) #[t32] w fun t33 w =>
  callP Tryz.prog (fnV 32) #[f8] w fun t35 w =>
  callP Tryz.prog (fnV 31) #[t35] w fun t36 w =>
  valP Tryz.prog (binS BinOp.sub 3 (tm 33) (tm 36) t33 t36) w fun t37 w =>
  m17_5 R d0 name1 s2 f8 t37 w)
  (m17_5 R d0 name1 s2 f8 need9 w)
def m17_4 (R : VP) (d0 name1 s2 f8 need9 : Value) (w : World) : Prop :=
  valP Tryz.prog (binS BinOp.neq 76 (tm 26) (Operand.const (Value.pointer none)) f8 (Value.pointer none)) w fun t27 w =>
  m17_18 R d0 name1 s2 f8 need9 t27 w
def m17_3 (R : VP) (d0 name1 s2 f8 : Value) (w : World) : Prop :=
  builtinP Tryz.prog Builtin.len #[9] 3 #[false] #[s2] w fun t24 w =>
  callP Tryz.prog (fnV 31) #[t24] w fun t25 w =>
  m17_4 R d0 name1 s2 f8 t25 w
def m17_2 (R : VP) (d0 name1 s2 : Value) (w : World) : Prop :=
  nilCheckP d0 fun t18 =>
  valP Tryz.prog (Instr.fieldAt 61 t18 0) w fun t19 w =>
  valP Tryz.prog (Instr.loadAt 59 t19) w fun t20 w =>
  valP Tryz.prog (Instr.lookup 59 t20 name1 false) w fun t22 w =>
  m17_3 R d0 name1 s2 t22 w
def m17_20 (R : VP) (d0 name1 s2 e7 t15 : Value) (w : World) : Prop :=
  condP t15
  (m17_21 R e7 w)
  (m17_2 R d0 name1 s2 w)
def m17_19 (R : VP) (d0 name1 s2 e7 : Value) (w : World) : Prop :=
  valP Tryz.prog (binS BinOp.neq 26 (tm 14) (ci 0) e7 (vi 0)) w fun t15 w =>
  m17_20 R d0 name1 s2 e7 t15 w
def m17_1 (R : VP) (d0 name1 s2 : Value) (w : World) : Prop :=
  valP Tryz.prog (Instr.buildSlice 71 1 #[(0, name1)]) w fun t12 w =>
  callP Tryz.prog (fnV 44) #[d0, t12] w fun t13 w =>
  m17_19 R d0 name1 s2 t13 w
def m17_0 (R : VP) (d0 name1 s2 : Value) (w : World) : Prop :=
  m17_1 R d0 name1 s2 w
abbrev W17 := cwp Tryz.prog (fun i => 0)
noncomputable def k17_0 := bodyOf Tryz.f17
noncomputable def k17_1 := c2 k17_0
noncomputable def k17_2 := c2 k17_1
noncomputable def k17_3 := c2 k17_2
noncomputable def k17_4 := c2 k17_3
noncomputable def k17_5 := c2 k17_4
noncomputable def k17_6 := c2 k17_5
noncomputable def k17_7 := c2 k17_6
noncomputable def k17_8 := c2 k17_7
noncomputable def k17_9 := c2 k17_8
noncomputable def k17_10 := c2 k17_9
noncomputable def k17_11 := c2 k17_10
noncomputable def k17_12 := c2 (c1 k17_9)
noncomputable def k17_13 := c2 (c1 k17_12)
noncomputable def k17_14 := c2 (c1 k17_6)
noncomputable def k17_15 := c2 (c1 k17_14)
noncomputable def k17_16 := c2 (c1 k17_5)
noncomputable def k17_17 := c2 (c1 k17_16)
noncomputable def k17_18 := c2 (c1 k17_4)
noncomputable def k17_19 := c2 (c1 k17_1)
noncomputable def k17_20 := c2 k17_19
noncomputable def k17_21 := c2 (c1 k17_20)
abbrev hR17 (R : VP) (Q : EQ) : Prop := ∀ e w, (R (e 6) w) → Q .ret e w
theorem s17_21 (hR : hR17 R Q) (e : Env) (w : World) (h : m17_21 R (e 6) w) : W17 k17_21 Q e w := by
  exact reA (hR _ _ h)
theorem s17_17 (hR : hR17 R Q) (e : Env) (w : World) (h : m17_17 R (e 6) w) : W17 k17_17 Q e w := by
  exact reA (hR _ _ h)
theorem s17_13 (hR : hR17 R Q) (e : Env) (w : World) (h : m17_13 R (e 6) w) : W17 k17_13 Q e w := by
  exact reA (hR _ _ h)
theorem s17_11 (hR : hR17 R Q) (e : Env) (w : World) (h : m17_11 R (e 6) w) : W17 k17_11 Q e w := by
  exact reA (hR _ _ h)
theorem s17_10 (hR : hR17 R Q) (e : Env) (w : World) (h : m17_10 R w) : W17 k17_10 Q e w := by
  refine seA ?_
  exact rgA 17 (fun e w => m17_11 R (e 6) w) h fun e w h => then_N (s17_11 hR e w h)
theorem s17_12 (hN : ∀ e w, (m17_10 R w) → Q .normal e w) (hR : hR17 R Q) (e : Env) (w : World) (h : m17_12 R (e 84) w) : W17 k17_12 Q e w := by
  refine coA (Operand.tmp 84) h (fun h1 => ?_) (fun h1 => ?_)
  · refine seA ?_
    exact rgA 16 (fun e w => m17_13 R (e 6) w) h1 fun e w h => then_N (s17_13 hR e w h)
  · exact skA (hN _ _ h1)
theorem s17_9 (hR : hR17 R Q) (e : Env) (w : World) (h : m17_9 R (e 0) w) : W17 k17_9 Q e w := by
  refine seA ?_
  have hN : ∀ e w, (m17_10 R w) → (thenE (W17 k17_10 Q) Q) .normal e w := fun e w h => then_N (s17_10 hR e w h)
  have hR : hR17 R (thenE (W17 k17_10 Q) Q) := fun e w h => then_R (hR e w h)
  refine seA ?_
  exact rgA 15 (fun e w => m17_12 R (e 84) w) h fun e w h => then_N (s17_12 hN hR e w h)
theorem s17_8 (hR : hR17 R Q) (e : Env) (w : World) (h : m17_8 R (e 0) (e 2) (e 8) w) : W17 k17_8 Q e w := by
  refine seA ?_
  exact rgA 14 (fun e w => m17_9 R (e 0) w) h fun e w h => then_N (s17_9 hR e w h)
theorem s17_7 (hR : hR17 R Q) (e : Env) (w : World) (h : m17_7 R (e 0) (e 2) (e 8) (e 9) w) : W17 k17_7 Q e w := by
  refine seA ?_
  exact rgA 13 (fun e w => m17_8 R (e 0) (e 2) (e 8) w) h fun e w h => then_N (s17_8 hR e w h)
theorem s17_15 (hN : ∀ e w, (m17_7 R (e 0) (e 2) (e 8) (e 9) w) → Q .normal e w) (e : Env) (w : World) (h : m17_15 R (e 0) (e 1) (e 2) (e 8) (e 9) w) : W17 k17_15 Q e w := by
  exact rgA 12 (fun e w => m17_7 R (e 0) (e 2) (e 8) (e 9) w) h hN
theorem s17_14 (hN : ∀ e w, (m17_7 R (e 0) (e 2) (e 8) (e 9) w) → Q .normal e w) (e : Env) (w : World) (h : m17_14 R (e 0) (e 1) (e 2) (e 8) (e 9) (e 57) w) : W17 k17_14 Q e w := by
  refine coA (Operand.tmp 57) h (fun h1 => ?_) (fun h1 => ?_)
  · refine seA ?_
    exact rgA 11 (fun e w => m17_15 R (e 0) (e 1) (e 2) (e 8) (e 9) w) h1 fun e w h => then_N (s17_15 hN e w h)
  · exact skA (hN _ _ h1)
theorem s17_6 (hR : hR17 R Q) (e : Env) (w : World) (h : m17_6 R (e 0) (e 1) (e 2) (e 8) (e 9) w) : W17 k17_6 Q e w := by
  refine seA ?_
  have hN : ∀ e w, (m17_7 R (e 0) (e 2) (e 8) (e 9) w) → (thenE (W17 k17_7 Q) Q) .normal e w := fun e w h => then_N (s17_7 hR e w h)
  refine seA ?_
  exact rgA 10 (fun e w => m17_14 R (e 0) (e 1) (e 2) (e 8) (e 9) (e 57) w) h fun e w h => then_N (s17_14 hN e w h)
theorem s17_16 (hN : ∀ e w, (m17_6 R (e 0) (e 1) (e 2) (e 8) (e 9) w) → Q .normal e w) (hR : hR17 R Q) (e : Env) (w : World) (h : m17_16 R (e 0) (e 1) (e 2) (e 8) (e 9) (e 55) w) : W17 k17_16 Q e w := by
  refine coA (Operand.tmp 55) h (fun h1 => ?_) (fun h1 => ?_)
  · refine seA ?_
    exact rgA 9 (fun e w => m17_17 R (e 6) w) h1 fun e w h => then_N (s17_17 hR e w h)
  · exact skA (hN _ _ h1)
theorem s17_5 (hR : hR17 R Q) (e : Env) (w : World) (h : m17_5 R (e 0) (e 1) (e 2) (e 8) (e 9) w) : W17 k17_5 Q e w := by
  refine seA ?_
  have hN : ∀ e w, (m17_6 R (e 0) (e 1) (e 2) (e 8) (e 9) w) → (thenE (W17 k17_6 Q) Q) .normal e w := fun e w h => then_N (s17_6 hR e w h)
  have hR : hR17 R (thenE (W17 k17_6 Q) Q) := fun e w h => then_R (hR e w h)
  refine seA ?_
  exact rgA 8 (fun e w => m17_16 R (e 0) (e 1) (e 2) (e 8) (e 9) (e 55) w) h fun e w h => then_N (s17_16 hN hR e w h)
theorem s17_18 (hN : ∀ e w, (m17_5 R (e 0) (e 1) (e 2) (e 8) (e 9) w) → Q .normal e w) (e : Env) (w : World) (h : m17_18 R (e 0) (e 1) (e 2) (e 8) (e 9) (e 27) w) : W17 k17_18 Q e w := by
  refine coA (Operand.tmp 27) h (fun h1 => ?_) (fun h1 => ?_)
  · exact rgA 7 (fun e w => m17_5 R (e 0) (e 1) (e 2) (e 8) (e 9) w) h1 hN
  · exact skA (hN _ _ h1)
theorem s17_4 (hR : hR17 R Q) (e : Env) (w : World) (h : m17_4 R (e 0) (e 1) (e 2) (e 8) (e 9) w) : W17 k17_4 Q e w := by
  refine seA ?_
  have hN : ∀ e w, (m17_5 R (e 0) (e 1) (e 2) (e 8) (e 9) w) → (thenE (W17 k17_5 Q) Q) .normal e w := fun e w h => then_N (s17_5 hR e w h)
  refine seA ?_
  exact rgA 6 (fun e w => m17_18 R (e 0) (e 1) (e 2) (e 8) (e 9) (e 27) w) h fun e w h => then_N (s17_18 hN e w h)
theorem s17_3 (hR : hR17 R Q) (e : Env) (w : World) (h : m17_3 R (e 0) (e 1) (e 2) (e 8) w) : W17 k17_3 Q e w := by
  refine seA ?_
  exact rgA 5 (fun e w => m17_4 R (e 0) (e 1) (e 2) (e 8) (e 9) w) h fun e w h => then_N (s17_4 hR e w h)
theorem s17_2 (hR : hR17 R Q) (e : Env) (w : World) (h : m17_2 R (e 0) (e 1) (e 2) w) : W17 k17_2 Q e w := by
  refine seA ?_
  exact rgA 4 (fun e w => m17_3 R (e 0) (e 1) (e 2) (e 8) w) h fun e w h => then_N (s17_3 hR e w h)
theorem s17_20 (hN : ∀ e w, (m17_2 R (e 0) (e 1) (e 2) w) → Q .normal e w) (hR : hR17 R Q) (e : Env) (w : World) (h : m17_20 R (e 0) (e 1) (e 2) (e 7) (e 15) w) : W17 k17_20 Q e w := by
  refine coA (Operand.tmp 15) h (fun h1 => ?_) (fun h1 => ?_)
  · refine seA ?_
    exact rgA 3 (fun e w => m17_21 R (e 6) w) h1 fun e w h => then_N (s17_21 hR e w h)
  · exact skA (hN _ _ h1)
theorem s17_19 (hN : ∀ e w, (m17_2 R (e 0) (e 1) (e 2) w) → Q .normal e w) (hR : hR17 R Q) (e : Env) (w : World) (h : m17_19 R (e 0) (e 1) (e 2) (e 7) w) : W17 k17_19 Q e w := by
  refine seA ?_
  exact rgA 2 (fun e w => m17_20 R (e 0) (e 1) (e 2) (e 7) (e 15) w) h fun e w h => then_N (s17_20 hN hR e w h)
theorem s17_1 (hR : hR17 R Q) (e : Env) (w : World) (h : m17_1 R (e 0) (e 1) (e 2) w) : W17 k17_1 Q e w := by
  refine seA ?_
  have hN : ∀ e w, (m17_2 R (e 0) (e 1) (e 2) w) → (thenE (W17 k17_2 Q) Q) .normal e w := fun e w h => then_N (s17_2 hR e w h)
  have hR : hR17 R (thenE (W17 k17_2 Q) Q) := fun e w h => then_R (hR e w h)
  refine seA ?_
  exact rgA 1 (fun e w => m17_19 R (e 0) (e 1) (e 2) (e 7) w) h fun e w h => then_N (s17_19 hN hR e w h)
theorem s17_0 (hR : hR17 R Q) (e : Env) (w : World) (h : m17_0 R (e 0) (e 1) (e 2) w) : W17 k17_0 Q e w := by
  refine seA ?_
  exact rgA 0 (fun e w => m17_1 R (e 0) (e 1) (e 2) w) h fun e w h => then_N (s17_1 hR e w h)
abbrev m17 (R : VP) (d0 name1 s2 : Value) (w : World) : Prop := m17_0 R d0 name1 s2 w
theorem s17 (d0 name1 s2 : Value) {R : VP} {w : World} (h : m17 R d0 name1 s2 w) :
    Calls Tryz.prog 17 #[d0, name1, s2] w fun e w' => ∃ v, e = .returned v ∧ R v w' :=
  calls_of_cwp (st := (fun i => 0)) (c := k17_0) (by kernel_rfl) Tryz.func17 (by kernel_rfl) (Nat.le_of_ble_eq_true (by kernel_rfl)) (by kernel_rfl)
    (s17_0 (R := R) (Q := endE Tryz.prog Tryz.f17 R) (fun e w h => kcast (by kernel_rfl) h) (argsE #[d0, name1, s2]) w (kcast (by kernel_rfl) h))
def m9_7 (R : VP) (K1 : VP) (d0 keep1 t15 t16 t17 : Value) (w : World) : Prop :=
  valP Tryz.prog (binS BinOp.add 3 (tm 17) (ci 1) t17 (vi 1)) w fun t80 w =>
  K1 t80 w
def m9_13 (R : VP) (K1 : VP) (d0 keep1 f6 t15 t16 t17 : Value) (w : World) : Prop :=
  anyDraw w fun w =>
  nilCheckP d0 fun t71 =>
  pureP Tryz.prog (Instr.fieldAt 61 t71 1) fun t72 =>
  (valP Tryz.prog (Instr.loadAt 3 t72) w fun t73 w =>
  callP Tryz.prog (fnV 32) #[f6] w fun t75 w =>
  callP Tryz.prog (fnV 31) #[t75] w fun t76 w =>
  pureP Tryz.prog (binS BinOp.sub 3 (tm 73) (tm 76) t73 t76) fun t77 =>
  nilCheckP d0 fun t78 =>
  pureP Tryz.prog (Instr.fieldAt 61 t78 1) fun t79 =>
  unitP Tryz.prog (Instr.storeAt 3 t79 t77) w fun _ w =>
  m9_7 R K1 d0 keep1 t15 t16 t17 w) ∧ (callP Tryz.prog (fnV 32) #[f6] w fun t75 w =>
  (valP Tryz.prog (Instr.loadAt 3 t72) w fun t73 w =>
  callP Tryz.prog (fnV 31) #[t75] w fun t76 w =>
  pureP Tryz.prog (binS BinOp.sub 3 (tm 73) (tm 76) t73 t76) fun t77 =>
  nilCheckP d0 fun t78 =>
  pureP Tryz.prog (Instr.fieldAt 61 t78 1) fun t79 =>
  unitP Tryz.prog (Instr.storeAt 3 t79 t77) w fun _ w =>
  m9_7 R K1 d0 keep1 t15 t16 t17 w) ∧ (callP Tryz.prog (fnV 31) #[t75] w fun t76 w =>
  valP Tryz.prog (Instr.loadAt 3 t72) w fun t73 w =>
  pureP Tryz.prog (binS BinOp.sub 3 (tm 73) (tm 76) t73 t76) fun t77 =>
  nilCheckP d0 fun t78 =>
  pureP Tryz.prog (Instr.fieldAt 61 t78 1) fun t79 =>
  unitP Tryz.prog (Instr.storeAt 3 t79 t77) w fun _ w =>
  m9_7 R K1 d0 keep1 t15 t16 t17 w))
def m9_12 (R : VP) (K1 : VP) (d0 keep1 f6 k7 t15 t16 t17 : Value) (w : World) : Prop :=
  anyDraw w fun w =>
  nilCheckP f6 fun t56 =>
  pureP Tryz.prog (Instr.fieldAt 78 t56 0) fun t57 =>
  nilCheckP f6 fun t60 =>
  pureP Tryz.prog (Instr.fieldAt 78 t60 1) fun t61 =>
  (valP Tryz.prog (Instr.loadAt 9 t57) w fun t58 w =>
  valP Tryz.prog (Instr.loadAt 9 t61) w fun t62 w =>
  pureP Tryz.prog (Instr.sliceAt 9 t62 none (some k7) none) fun t64 =>
  pureP Tryz.prog (binS BinOp.add 9 (tm 58) (tm 64) t58 t64) fun t65 =>
  nilCheckP f6 fun t66 =>
  pureP Tryz.prog (Instr.fieldAt 78 t66 0) fun t67 =>
  unitP Tryz.prog (Instr.storeAt 9 t67 t65) w fun _ w =>
  nilCheckP f6 fun t68 =>
  pureP Tryz.prog (Instr.fieldAt 78 t68 1) fun t69 =>
  unitP Tryz.prog (Instr.storeAt 9 t69 (Value.string ⟨#[]⟩)) w fun _ w =>
  m9_13 R K1 d0 keep1 f6 t15 t16 t17 w) ∧ (valP Tryz.prog (Instr.loadAt 9 t61) w fun t62 w =>
  pureP Tryz.prog (Instr.sliceAt 9 t62 none (some k7) none) fun t64 =>
  valP Tryz.prog (Instr.loadAt 9 t57) w fun t58 w =>
  pureP Tryz.prog (binS BinOp.add 9 (tm 58) (tm 64) t58 t64) fun t65 =>
  nilCheckP f6 fun t66 =>
  pureP Tryz.prog (Instr.fieldAt 78 t66 0) fun t67 =>
  unitP Tryz.prog (Instr.storeAt 9 t67 t65) w fun _ w =>
  nilCheckP f6 fun t68 =>
  pureP Tryz.prog (Instr.fieldAt 78 t68 1) fun t69 =>
  unitP Tryz.prog (Instr.storeAt 9 t69 (Value.string ⟨#[]⟩)) w fun _ w =>
  m9_13 R K1 d0 keep1 f6 t15 t16 t17 w)
def m9_11 (R : VP) (K1 : VP) (d0 keep1 f6 k7 t15 t16 t17 : Value) (w : World) : Prop :=
  anyDraw w fun w =>
  nilCheckP d0 fun t44 =>
  pureP Tryz.prog (Instr.fieldAt 61 t44 1) fun t45 =>
  (valP Tryz.prog (Instr.loadAt 3 t45) w fun t46 w =>
  callP Tryz.prog (fnV 32) #[f6] w fun t48 w =>
  callP Tryz.prog (fnV 31) #[t48] w fun t49 w =>
  pureP Tryz.prog (binS BinOp.add 3 (tm 46) (tm 49) t46 t49) fun t50 =>
  nilCheckP d0 fun t51 =>
  pureP Tryz.prog (Instr.fieldAt 61 t51 1) fun t52 =>
  unitP Tryz.prog (Instr.storeAt 3 t52 t50) w fun _ w =>
  m9_12 R K1 d0 keep1 f6 k7 t15 t16 t17 w) ∧ (callP Tryz.prog (fnV 32) #[f6] w fun t48 w =>
  (valP Tryz.prog (Instr.loadAt 3 t45) w fun t46 w =>
  callP Tryz.prog (fnV 31) #[t48] w fun t49 w =>
  pureP Tryz.prog (binS BinOp.add 3 (tm 46) (tm 49) t46 t49) fun t50 =>
  nilCheckP d0 fun t51 =>
  pureP Tryz.prog (Instr.fieldAt 61 t51 1) fun t52 =>
  unitP Tryz.prog (Instr.storeAt 3 t52 t50) w fun _ w =>
  m9_12 R K1 d0 keep1 f6 k7 t15 t16 t17 w) ∧ (callP Tryz.prog (fnV 31) #[t48] w fun t49 w =>
  valP Tryz.prog (Instr.loadAt 3 t45) w fun t46 w =>
  pureP Tryz.prog (binS BinOp.add 3 (tm 46) (tm 49) t46 t49) fun t50 =>
  nilCheckP d0 fun t51 =>
  pureP Tryz.prog (Instr.fieldAt 61 t51 1) fun t52 =>
  unitP Tryz.prog (Instr.storeAt 3 t52 t50) w fun _ w =>
  m9_12 R K1 d0 keep1 f6 k7 t15 t16 t17 w))
def m9_14 (R : VP) (K1 : VP) (d0 keep1 i4 f6 k7 t15 t16 t17 t31 : Value) (w : World) : Prop :=
  condP t31
  (valQ Tryz.prog (Instr.indexAt 23 keep1 i4) w fun t34 =>
  valQ Tryz.prog (Instr.loadAt 3 t34) w fun t35 =>
  nilCheckP f6 fun t37 =>
  valQ Tryz.prog (Instr.fieldAt 78 t37 1) w fun t38 =>
  valQ Tryz.prog (Instr.loadAt 9 t38) w fun t39 =>
  builtinQ Tryz.prog Builtin.len #[9] 3 #[false] #[t39] w fun t40 =>
  builtinQ Tryz.prog Builtin.min #[3, 3] 3 #[false, false] #[t35, t40] w fun t41 =>
  builtinQ Tryz.prog Builtin.max #[3, 3] 3 #[true, false] #[(vi 0), t41] w fun t42 =>
  anyDraw w fun w =>
  m9_11 R K1 d0 keep1 f6 t42 t15 t16 t17 w)
  (m9_11 R K1 d0 keep1 f6 k7 t15 t16 t17 w)
def m9_10 (R : VP) (K1 : VP) (d0 keep1 i4 f6 k7 t15 t16 t17 : Value) (w : World) : Prop :=
  builtinP Tryz.prog Builtin.len #[23] 3 #[false] #[keep1] w fun t30 w =>
  valP Tryz.prog (binS BinOp.lss 3 (tm 28) (tm 30) i4 t30) w fun t31 w =>
  m9_14 R K1 d0 keep1 i4 f6 k7 t15 t16 t17 t31 w
def m9_9 (R : VP) (K1 : VP) (d0 keep1 i4 f6 t15 t16 t17 : Value) (w : World) : Prop :=
  m9_10 R K1 d0 keep1 i4 f6 (vi 0) t15 t16 t17 w
def m9_8 (R : VP) (K1 : VP) (d0 keep1 i4 name5 t15 t16 t17 : Value) (w : World) : Prop :=
  nilCheckP d0 fun t23 =>
  valP Tryz.prog (Instr.fieldAt 61 t23 0) w fun t24 w =>
  valP Tryz.prog (Instr.loadAt 59 t24) w fun t25 w =>
  valP Tryz.prog (Instr.lookup 59 t25 name5 false) w fun t27 w =>
  m9_9 R K1 d0 keep1 i4 t27 t15 t16 t17 w
def m9_6 (R : VP) (K1 : VP) (d0 keep1 t15 t16 t17 : Value) (w : World) : Prop :=
  valP Tryz.prog (Instr.indexAt 71 t15 t17) w fun t20 w =>
  valP Tryz.prog (Instr.loadAt 9 t20) w fun t21 w =>
  m9_8 R K1 d0 keep1 t17 t21 t15 t16 t17 w
def m9_2 (R : VP) (d0 : Value) (w : World) : Prop :=
  nilCheckP d0 fun t83 =>
  valP Tryz.prog (Instr.fieldAt 61 t83 3) w fun t84 w =>
  unitP Tryz.prog (Instr.storeAt 4 t84 (Value.bool false)) w fun _ w =>
  nilCheckP d0 fun t85 =>
  valP Tryz.prog (Instr.fieldAt 61 t85 2) w fun t86 w =>
  unitP Tryz.prog (Instr.storeAt 3 t86 (vi (-1))) w fun _ w =>
  R (Value.tuple #[]) w
def m9_5 (R : VP) (K1 : VP) (d0 keep1 t15 t16 t17 t18 : Value) (w : World) : Prop :=
  condP t18
  (m9_6 R K1 d0 keep1 t15 t16 t17 w)
  (m9_2 R d0 w)
def m9_4 (R : VP) (K1 : VP) (d0 keep1 t15 t16 t17 : Value) (w : World) : Prop :=
  valP Tryz.prog (binS BinOp.lss 3 (tm 17) (tm 16) t17 t16) w fun t18 w =>
  m9_5 R K1 d0 keep1 t15 t16 t17 t18 w
def m9_3 (R : VP) (d0 keep1 t15 t16 t17 : Value) (w : World) : Prop :=
  loopP (fun (K1 : VP) (s : Value) w => m9_4 R K1 d0 keep1 t15 t16 s w) t17 w
def m9_1 (R : VP) (d0 keep1 : Value) (w : World) : Prop :=
  nilCheckP d0 fun t11 =>
  valP Tryz.prog (Instr.fieldAt 61 t11 0) w fun t12 w =>
  valP Tryz.prog (Instr.loadAt 59 t12) w fun t13 w =>
  callP Tryz.prog (fnV 30) #[t13] w fun t14 w =>
  callP Tryz.prog (fnV 29) #[t14] w fun t15 w =>
  builtinP Tryz.prog Builtin.len #[71] 3 #[false] #[t15] w fun t16 w =>
  m9_3 R d0 keep1 t15 t16 (vi 0) w
def m9_15 (R : VP) (d0 keep1 t9 : Value) (w : World) : Prop :=
  condP t9
  (R (Value.tuple #[]) w)
  (m9_1 R d0 keep1 w)
def m9_0 (R : VP) (d0 keep1 : Value) (w : World) : Prop :=
  valP Tryz.prog (binS BinOp.eql 25 (tm 8) (Operand.const (Value.pointer none)) d0 (Value.pointer none)) w fun t9 w =>
  m9_15 R d0 keep1 t9 w
abbrev W9 := cwp Tryz.prog (fun i => cond (Nat.beq i 7) 1 (0))
noncomputable def k9_0 := bodyOf Tryz.f9
noncomputable def k9_1 := c2 k9_0
noncomputable def k9_2 := c2 k9_1
noncomputable def k9_3 := c2 (c1 k9_1)
noncomputable def k9_4 := c1 (c1 k9_3)
noncomputable def k9_5 := c2 k9_4
noncomputable def k9_6 := c2 k9_5
noncomputable def k9_7 := c2 k9_6
noncomputable def k9_8 := c2 (c1 (c1 k9_6))
noncomputable def k9_9 := c2 k9_8
noncomputable def k9_10 := c2 k9_9
noncomputable def k9_11 := c2 k9_10
noncomputable def k9_12 := c2 k9_11
noncomputable def k9_13 := c2 k9_12
noncomputable def k9_14 := c2 (c1 k9_10)
noncomputable def k9_15 := c2 (c1 k9_0)
theorem s9_7 {K1 : VP} (hN : ∀ e w, (K1 (e 17) w) → Q .normal e w) (e : Env) (w : World) (h : m9_7 R K1 (e 0) (e 1) (e 15) (e 16) (e 17) w) : W9 k9_7 Q e w := by
  exact rgA 11 (fun e w => K1 (e 17) w) h hN
theorem s9_13 {K1 : VP} (hN : ∀ e w, (m9_7 R K1 (e 0) (e 1) (e 15) (e 16) (e 17) w) → Q .normal e w) (e : Env) (w : World) (h : m9_13 R K1 (e 0) (e 1) (e 6) (e 15) (e 16) (e 17) w) : W9 k9_13 Q e w := by
  exact tree_ok 10 11 (bt 11 0) (.take 0 (bt 11 1) (.take 1 (bt 11 3) (.take 2 (bt 11 7) (.take 4 (bt 11 23) (.alt 3 (bt 11 31) (.alt 5 (bt 11 63) (.alt 6 (bt 11 127) (.take 7 (bt 11 255) (.take 8 (bt 11 511) (.take 9 (bt 11 1023) (.alt 10 (bt 11 2047) .done .stop)))) .stop) .stop) (.alt 5 (bt 11 55) (.alt 3 (bt 11 63) (.alt 6 (bt 11 127) (.take 7 (bt 11 255) (.take 8 (bt 11 511) (.take 9 (bt 11 1023) (.alt 10 (bt 11 2047) .done .stop)))) .stop) (.alt 6 (bt 11 119) (.alt 3 (bt 11 127) (.take 7 (bt 11 255) (.take 8 (bt 11 511) (.take 9 (bt 11 1023) (.alt 10 (bt 11 2047) .done .stop)))) .stop) .stop)) .stop)))))) (fun e w => m9_7 R K1 (e 0) (e 1) (e 15) (e 16) (e 17) w) (by kernel_rfl) (by kernel_rfl) (by kernel_rfl) (by kernel_rfl) (by kernel_rfl) (by kernel_rfl) (kcast (by kernel_rfl) h) hN (by kernel_rfl)
theorem s9_12 {K1 : VP} (hN : ∀ e w, (m9_7 R K1 (e 0) (e 1) (e 15) (e 16) (e 17) w) → Q .normal e w) (e : Env) (w : World) (h : m9_12 R K1 (e 0) (e 1) (e 6) (e 7) (e 15) (e 16) (e 17) w) : W9 k9_12 Q e w := by
  refine seA ?_
  have hN : ∀ e w, (m9_13 R K1 (e 0) (e 1) (e 6) (e 15) (e 16) (e 17) w) → (thenE (W9 k9_13 Q) Q) .normal e w := fun e w h => then_N (s9_13 hN e w h)
  exact tree_ok 9 19 (bt 19 0) (.take 0 (bt 19 1) (.take 1 (bt 19 3) (.take 2 (bt 19 7) (.take 3 (bt 19 15) (.take 4 (bt 19 31) (.take 6 (bt 19 95) (.take 7 (bt 19 223) (.take 8 (bt 19 479) (.take 10 (bt 19 1503) (.alt 5 (bt 19 1535) (.alt 9 (bt 19 2047) (.take 11 (bt 19 4095) (.take 12 (bt 19 8191) (.take 13 (bt 19 16383) (.take 14 (bt 19 32767) (.alt 15 (bt 19 65535) (.take 16 (bt 19 131071) (.take 17 (bt 19 262143) (.alt 18 (bt 19 524287) .done .stop))) .stop))))) .stop) (.alt 9 (bt 19 2015) (.take 11 (bt 19 4063) (.alt 5 (bt 19 4095) (.take 12 (bt 19 8191) (.take 13 (bt 19 16383) (.take 14 (bt 19 32767) (.alt 15 (bt 19 65535) (.take 16 (bt 19 131071) (.take 17 (bt 19 262143) (.alt 18 (bt 19 524287) .done .stop))) .stop)))) .stop)) .stop))))))))))) (fun e w => m9_13 R K1 (e 0) (e 1) (e 6) (e 15) (e 16) (e 17) w) (by kernel_rfl) (by kernel_rfl) (by kernel_rfl) (by kernel_rfl) (by kernel_rfl) (by kernel_rfl) (kcast (by kernel_rfl) h) hN (by kernel_rfl)
theorem s9_11 {K1 : VP} (hN : ∀ e w, (m9_7 R K1 (e 0) (e 1) (e 15) (e 16) (e 17) w) → Q .normal e w) (e : Env) (w : World) (h : m9_11 R K1 (e 0) (e 1) (e 6) (e 7) (e 15) (e 16) (e 17) w) : W9 k9_11 Q e w := by
  refine seA ?_
  have hN : ∀ e w, (m9_12 R K1 (e 0) (e 1) (e 6) (e 7) (e 15) (e 16) (e 17) w) → (thenE (W9 k9_12 Q) Q) .normal e w := fun e w h => then_N (s9_12 hN e w h)
  exact tree_ok 8 11 (bt 11 0) (.take 0 (bt 11 1) (.take 1 (bt 11 3) (.take 2 (bt 11 7) (.take 4 (bt 11 23) (.alt 3 (bt 11 31) (.alt 5 (bt 11 63) (.alt 6 (bt 11 127) (.take 7 (bt 11 255) (.take 8 (bt 11 511) (.take 9 (bt 11 1023) (.alt 10 (bt 11 2047) .done .stop)))) .stop) .stop) (.alt 5 (bt 11 55) (.alt 3 (bt 11 63) (.alt 6 (bt 11 127) (.take 7 (bt 11 255) (.take 8 (bt 11 511) (.take 9 (bt 11 1023) (.alt 10 (bt 11 2047) .done .stop)))) .stop) (.alt 6 (bt 11 119) (.alt 3 (bt 11 127) (.take 7 (bt 11 255) (.take 8 (bt 11 511) (.take 9 (bt 11 1023) (.alt 10 (bt 11 2047) .done .stop)))) .stop) .stop)) .stop)))))) (fun e w => m9_12 R K1 (e 0) (e 1) (e 6) (e 7) (e 15) (e 16) (e 17) w) (by kernel_rfl) (by kernel_rfl) (by kernel_rfl) (by kernel_rfl) (by kernel_rfl) (by kernel_rfl) (kcast (by kernel_rfl) h) hN (by kernel_rfl)
theorem s9_14 {K1 : VP} (hN : ∀ e w, (m9_11 R K1 (e 0) (e 1) (e 6) (e 7) (e 15) (e 16) (e 17) w) → Q .normal e w) (e : Env) (w : World) (h : m9_14 R K1 (e 0) (e 1) (e 4) (e 6) (e 7) (e 15) (e 16) (e 17) (e 31) w) : W9 k9_14 Q e w := by
  refine coA (Operand.tmp 31) h (fun h1 => ?_) (fun h1 => ?_)
  · exact quA 7 (fun e w => m9_11 R K1 (e 0) (e 1) (e 6) (e 7) (e 15) (e 16) (e 17) w) h1 hN
  · exact skA (hN _ _ h1)
theorem s9_10 {K1 : VP} (hN : ∀ e w, (m9_7 R K1 (e 0) (e 1) (e 15) (e 16) (e 17) w) → Q .normal e w) (e : Env) (w : World) (h : m9_10 R K1 (e 0) (e 1) (e 4) (e 6) (e 7) (e 15) (e 16) (e 17) w) : W9 k9_10 Q e w := by
  refine seA ?_
  have hN : ∀ e w, (m9_11 R K1 (e 0) (e 1) (e 6) (e 7) (e 15) (e 16) (e 17) w) → (thenE (W9 k9_11 Q) Q) .normal e w := fun e w h => then_N (s9_11 hN e w h)
  refine seA ?_
  exact rgA 6 (fun e w => m9_14 R K1 (e 0) (e 1) (e 4) (e 6) (e 7) (e 15) (e 16) (e 17) (e 31) w) h fun e w h => then_N (s9_14 hN e w h)
theorem s9_9 {K1 : VP} (hN : ∀ e w, (m9_7 R K1 (e 0) (e 1) (e 15) (e 16) (e 17) w) → Q .normal e w) (e : Env) (w : World) (h : m9_9 R K1 (e 0) (e 1) (e 4) (e 6) (e 15) (e 16) (e 17) w) : W9 k9_9 Q e w := by
  refine seA ?_
  exact rgA 5 (fun e w => m9_10 R K1 (e 0) (e 1) (e 4) (e 6) (e 7) (e 15) (e 16) (e 17) w) h fun e w h => then_N (s9_10 hN e w h)
theorem s9_8 {K1 : VP} (hN : ∀ e w, (m9_7 R K1 (e 0) (e 1) (e 15) (e 16) (e 17) w) → Q .normal e w) (e : Env) (w : World) (h : m9_8 R K1 (e 0) (e 1) (e 4) (e 5) (e 15) (e 16) (e 17) w) : W9 k9_8 Q e w := by
  refine seA ?_
  exact rgA 4 (fun e w => m9_9 R K1 (e 0) (e 1) (e 4) (e 6) (e 15) (e 16) (e 17) w) h fun e w h => then_N (s9_9 hN e w h)
theorem s9_6 {K1 : VP} (hN : ∀ e w, (K1 (e 17) w) → Q .normal e w) (e : Env) (w : World) (h : m9_6 R K1 (e 0) (e 1) (e 15) (e 16) (e 17) w) : W9 k9_6 Q e w := by
  refine seA ?_
  have hN : ∀ e w, (m9_7 R K1 (e 0) (e 1) (e 15) (e 16) (e 17) w) → (thenE (W9 k9_7 Q) Q) .normal e w := fun e w h => then_N (s9_7 hN e w h)
  refine block_ok 1 (by kernel_rfl) ?_
  have hN : ∀ e w, (m9_7 R K1 (e 0) (e 1) (e 15) (e 16) (e 17) w) → (inBlockE 1 (thenE (W9 k9_7 Q) Q)) .normal e w := fun e w h => block_N (hN e w h)
  refine seA ?_
  exact rgA 3 (fun e w => m9_8 R K1 (e 0) (e 1) (e 4) (e 5) (e 15) (e 16) (e 17) w) h fun e w h => then_N (s9_8 (R := R) (Q := (inBlockE 1 (thenE (W9 k9_7 Q) Q))) hN e w h)
theorem s9_2 (hN : ∀ e w, (R (Value.tuple #[]) w) → Q .normal e w) (e : Env) (w : World) (h : m9_2 R (e 0) w) : W9 k9_2 Q e w := by
  exact rgA 12 (fun e w => R (Value.tuple #[]) w) h hN
theorem s9_5 {K1 : VP} (hN : ∀ e w, (K1 (e 17) w) → Q .normal e w) (hX0 : ∀ e w, (m9_2 R (e 0) w) → Q (.exit 0) e w) (e : Env) (w : World) (h : m9_5 R K1 (e 0) (e 1) (e 15) (e 16) (e 17) (e 18) w) : W9 k9_5 Q e w := by
  refine seA ?_
  have hN : ∀ e w, (m9_6 R K1 (e 0) (e 1) (e 15) (e 16) (e 17) w) → (thenE (W9 k9_6 Q) Q) .normal e w := fun e w h => then_N (s9_6 hN e w h)
  have hX0 : ∀ e w, (m9_2 R (e 0) w) → (thenE (W9 k9_6 Q) Q) (.exit 0) e w := fun e w h => then_X (hX0 e w h)
  refine coA (Operand.tmp 18) h (fun h1 => ?_) (fun h1 => ?_)
  · exact skA (hN _ _ h1)
  · exact exA 0 (hX0 _ _ h1)
theorem s9_4 {K1 : VP} (hN : ∀ e w, (K1 (e 17) w) → Q .normal e w) (hX0 : ∀ e w, (m9_2 R (e 0) w) → Q (.exit 0) e w) (e : Env) (w : World) (h : m9_4 R K1 (e 0) (e 1) (e 15) (e 16) (e 17) w) : W9 k9_4 Q e w := by
  refine seA ?_
  exact rgA 2 (fun e w => m9_5 R K1 (e 0) (e 1) (e 15) (e 16) (e 17) (e 18) w) h fun e w h => then_N (s9_5 hN hX0 e w h)
theorem s9_3 (hN : ∀ e w, (m9_2 R (e 0) w) → Q .normal e w) (e : Env) (w : World) (h : m9_3 R (e 0) (e 1) (e 15) (e 16) (e 17) w) : W9 k9_3 Q e w := by
  refine block_ok 0 (by kernel_rfl) ?_
  have hX0 : ∀ e w, (m9_2 R (e 0) w) → (inBlockE 0 Q) (.exit 0) e w := fun e w h => inBlock_same (Q := Q) 0 (hN e w h)
  refine loop_ok' (fun (e : Env) => e 17) [0, 1, 15, 16] (by kernel_rfl) (by kernel_rfl) h (fun K e' w' hk h' => ?_)
  have r0 : e' 0 = e 0 := hk 0 (by decide)
  have r1 : e' 1 = e 1 := hk 1 (by decide)
  have r15 : e' 15 = e 15 := hk 15 (by decide)
  have r16 : e' 16 = e 16 := hk 16 (by decide)
  have hX0 : ∀ e w, (m9_2 R (e 0) w) → (thenE (fun (e : Env) w => K (e 17) w) (inBlockE 0 Q)) (.exit 0) e w := fun e w h => then_X (hX0 e w h)
  exact s9_4 (K1 := K) (fun _ _ h => then_N h) hX0 e' w' (by rw [r0, r1, r15, r16]; exact h')
theorem s9_1 (hN : ∀ e w, (R (Value.tuple #[]) w) → Q .normal e w) (e : Env) (w : World) (h : m9_1 R (e 0) (e 1) w) : W9 k9_1 Q e w := by
  refine seA ?_
  have hN : ∀ e w, (m9_2 R (e 0) w) → (thenE (W9 k9_2 Q) Q) .normal e w := fun e w h => then_N (s9_2 hN e w h)
  refine seA ?_
  exact rgA 1 (fun e w => m9_3 R (e 0) (e 1) (e 15) (e 16) (e 17) w) h fun e w h => then_N (s9_3 hN e w h)
abbrev hR9 (R : VP) (Q : EQ) : Prop := ∀ e w, (R (Value.tuple #[]) w) → Q .ret e w
theorem s9_15 (hN : ∀ e w, (m9_1 R (e 0) (e 1) w) → Q .normal e w) (hR : hR9 R Q) (e : Env) (w : World) (h : m9_15 R (e 0) (e 1) (e 9) w) : W9 k9_15 Q e w := by
  refine coA (Operand.tmp 9) h (fun h1 => ?_) (fun h1 => ?_)
  · exact reA (hR _ _ h1)
  · exact skA (hN _ _ h1)
theorem s9_0 (hN : ∀ e w, (R (Value.tuple #[]) w) → Q .normal e w) (hR : hR9 R Q) (e : Env) (w : World) (h : m9_0 R (e 0) (e 1) w) : W9 k9_0 Q e w := by
  refine seA ?_
  have hN : ∀ e w, (m9_1 R (e 0) (e 1) w) → (thenE (W9 k9_1 Q) Q) .normal e w := fun e w h => then_N (s9_1 hN e w h)
  have hR : hR9 R (thenE (W9 k9_1 Q) Q) := fun e w h => then_R (hR e w h)
  refine seA ?_
  exact rgA 0 (fun e w => m9_15 R (e 0) (e 1) (e 9) w) h fun e w h => then_N (s9_15 hN hR e w h)
abbrev m9 (R : VP) (d0 keep1 : Value) (w : World) : Prop := m9_0 R d0 keep1 w
theorem s9 (d0 keep1 : Value) {R : VP} {w : World} (h : m9 R d0 keep1 w) :
    Calls Tryz.prog 9 #[d0, keep1] w fun e w' => ∃ v, e = .returned v ∧ R v w' :=
  calls_of_cwp (st := (fun i => cond (Nat.beq i 7) 1 (0))) (c := k9_0) (by kernel_rfl) Tryz.func9 (by kernel_rfl) (Nat.le_of_ble_eq_true (by kernel_rfl)) (by kernel_rfl)
    (s9_0 (R := R) (Q := endE Tryz.prog Tryz.f9 R) (fun e w h => kcast (by kernel_rfl) h) (fun e w h => kcast (by kernel_rfl) h) (argsE #[d0, keep1]) w (kcast (by kernel_rfl) h))
def m33_10 (R : VP) (t4 t5 : Value) (w : World) : Prop :=
  R (Value.tuple #[t4, t5]) w
def m33_7 (R : VP) (t4 t5 : Value) (w : World) : Prop :=
  R (Value.tuple #[t4, t5]) w
def m33_5 (R : VP) (t4 t5 : Value) (w : World) : Prop :=
  R (Value.tuple #[t4, t5]) w
def m33_4 (R : VP) (f7 : Value) (w : World) : Prop :=
  nilCheckP f7 fun t24 =>
  valQ Tryz.prog (Instr.fieldAt 78 t24 0) w fun t25 =>
  valQ Tryz.prog (Instr.loadAt 9 t25) w fun t26 =>
  nilCheckP f7 fun t28 =>
  valQ Tryz.prog (Instr.fieldAt 78 t28 1) w fun t29 =>
  valQ Tryz.prog (Instr.loadAt 9 t29) w fun t30 =>
  valQ Tryz.prog (binS BinOp.add 9 (tm 26) (tm 30) t26 t30) w fun t31 =>
  anyDraw w fun w =>
  m33_5 R t31 (vi 0) w
def m33_6 (R : VP) (f7 t22 : Value) (w : World) : Prop :=
  condP t22
  (m33_7 R (Value.string ⟨#[]⟩) (vi 3) w)
  (m33_4 R f7 w)
def m33_3 (R : VP) (f7 : Value) (w : World) : Prop :=
  valP Tryz.prog (binS BinOp.eql 76 (tm 21) (Operand.const (Value.pointer none)) f7 (Value.pointer none)) w fun t22 w =>
  m33_6 R f7 t22 w
def m33_2 (R : VP) (d0 name1 : Value) (w : World) : Prop :=
  nilCheckP d0 fun t16 =>
  valP Tryz.prog (Instr.fieldAt 61 t16 0) w fun t17 w =>
  valP Tryz.prog (Instr.loadAt 59 t17) w fun t18 w =>
  valP Tryz.prog (Instr.lookup 59 t18 name1 false) w fun t20 w =>
  m33_3 R t20 w
def m33_9 (R : VP) (d0 name1 e6 t13 : Value) (w : World) : Prop :=
  condP t13
  (m33_10 R (Value.string ⟨#[]⟩) e6 w)
  (m33_2 R d0 name1 w)
def m33_8 (R : VP) (d0 name1 e6 : Value) (w : World) : Prop :=
  valP Tryz.prog (binS BinOp.neq 26 (tm 12) (ci 0) e6 (vi 0)) w fun t13 w =>
  m33_9 R d0 name1 e6 t13 w
def m33_1 (R : VP) (d0 name1 : Value) (w : World) : Prop :=
  valP Tryz.prog (Instr.buildSlice 71 1 #[(0, name1)]) w fun t10 w =>
  callP Tryz.prog (fnV 44) #[d0, t10] w fun t11 w =>
  m33_8 R d0 name1 t11 w
def m33_0 (R : VP) (d0 name1 : Value) (w : World) : Prop :=
  m33_1 R d0 name1 w
abbrev W33 := cwp Tryz.prog (fun i => cond (Nat.beq i 7) 1 (0))
noncomputable def k33_0 := bodyOf Tryz.f33
noncomputable def k33_1 := c2 k33_0
noncomputable def k33_2 := c2 k33_1
noncomputable def k33_3 := c2 k33_2
noncomputable def k33_4 := c2 k33_3
noncomputable def k33_5 := c2 k33_4
noncomputable def k33_6 := c2 (c1 k33_3)
noncomputable def k33_7 := c2 (c1 k33_6)
noncomputable def k33_8 := c2 (c1 k33_1)
noncomputable def k33_9 := c2 k33_8
noncomputable def k33_10 := c2 (c1 k33_9)
abbrev hR33 (R : VP) (Q : EQ) : Prop := ∀ e w, (R (Value.tuple #[(e 4), (e 5)]) w) → Q .ret e w
theorem s33_10 (hR : hR33 R Q) (e : Env) (w : World) (h : m33_10 R (e 4) (e 5) w) : W33 k33_10 Q e w := by
  exact reA (hR _ _ h)
theorem s33_7 (hR : hR33 R Q) (e : Env) (w : World) (h : m33_7 R (e 4) (e 5) w) : W33 k33_7 Q e w := by
  exact reA (hR _ _ h)
theorem s33_5 (hR : hR33 R Q) (e : Env) (w : World) (h : m33_5 R (e 4) (e 5) w) : W33 k33_5 Q e w := by
  exact reA (hR _ _ h)
theorem s33_4 (hR : hR33 R Q) (e : Env) (w : World) (h : m33_4 R (e 7) w) : W33 k33_4 Q e w := by
  refine seA ?_
  have hN : ∀ e w, (m33_5 R (e 4) (e 5) w) → (thenE (W33 k33_5 Q) Q) .normal e w := fun e w h => then_N (s33_5 hR e w h)
  exact quA 7 (fun e w => m33_5 R (e 4) (e 5) w) h hN
theorem s33_6 (hN : ∀ e w, (m33_4 R (e 7) w) → Q .normal e w) (hR : hR33 R Q) (e : Env) (w : World) (h : m33_6 R (e 7) (e 22) w) : W33 k33_6 Q e w := by
  refine coA (Operand.tmp 22) h (fun h1 => ?_) (fun h1 => ?_)
  · refine seA ?_
    exact rgA 6 (fun e w => m33_7 R (e 4) (e 5) w) h1 fun e w h => then_N (s33_7 hR e w h)
  · exact skA (hN _ _ h1)
theorem s33_3 (hR : hR33 R Q) (e : Env) (w : World) (h : m33_3 R (e 7) w) : W33 k33_3 Q e w := by
  refine seA ?_
  have hN : ∀ e w, (m33_4 R (e 7) w) → (thenE (W33 k33_4 Q) Q) .normal e w := fun e w h => then_N (s33_4 hR e w h)
  have hR : hR33 R (thenE (W33 k33_4 Q) Q) := fun e w h => then_R (hR e w h)
  refine seA ?_
  exact rgA 5 (fun e w => m33_6 R (e 7) (e 22) w) h fun e w h => then_N (s33_6 hN hR e w h)
theorem s33_2 (hR : hR33 R Q) (e : Env) (w : World) (h : m33_2 R (e 0) (e 1) w) : W33 k33_2 Q e w := by
  refine seA ?_
  exact rgA 4 (fun e w => m33_3 R (e 7) w) h fun e w h => then_N (s33_3 hR e w h)
theorem s33_9 (hN : ∀ e w, (m33_2 R (e 0) (e 1) w) → Q .normal e w) (hR : hR33 R Q) (e : Env) (w : World) (h : m33_9 R (e 0) (e 1) (e 6) (e 13) w) : W33 k33_9 Q e w := by
  refine coA (Operand.tmp 13) h (fun h1 => ?_) (fun h1 => ?_)
  · refine seA ?_
    exact rgA 3 (fun e w => m33_10 R (e 4) (e 5) w) h1 fun e w h => then_N (s33_10 hR e w h)
  · exact skA (hN _ _ h1)
theorem s33_8 (hN : ∀ e w, (m33_2 R (e 0) (e 1) w) → Q .normal e w) (hR : hR33 R Q) (e : Env) (w : World) (h : m33_8 R (e 0) (e 1) (e 6) w) : W33 k33_8 Q e w := by
  refine seA ?_
  exact rgA 2 (fun e w => m33_9 R (e 0) (e 1) (e 6) (e 13) w) h fun e w h => then_N (s33_9 hN hR e w h)
theorem s33_1 (hR : hR33 R Q) (e : Env) (w : World) (h : m33_1 R (e 0) (e 1) w) : W33 k33_1 Q e w := by
  refine seA ?_
  have hN : ∀ e w, (m33_2 R (e 0) (e 1) w) → (thenE (W33 k33_2 Q) Q) .normal e w := fun e w h => then_N (s33_2 hR e w h)
  have hR : hR33 R (thenE (W33 k33_2 Q) Q) := fun e w h => then_R (hR e w h)
  refine seA ?_
  exact rgA 1 (fun e w => m33_8 R (e 0) (e 1) (e 6) w) h fun e w h => then_N (s33_8 hN hR e w h)
theorem s33_0 (hR : hR33 R Q) (e : Env) (w : World) (h : m33_0 R (e 0) (e 1) w) : W33 k33_0 Q e w := by
  refine seA ?_
  exact rgA 0 (fun e w => m33_1 R (e 0) (e 1) w) h fun e w h => then_N (s33_1 hR e w h)
abbrev m33 (R : VP) (d0 name1 : Value) (w : World) : Prop := m33_0 R d0 name1 w
theorem s33 (d0 name1 : Value) {R : VP} {w : World} (h : m33 R d0 name1 w) :
    Calls Tryz.prog 33 #[d0, name1] w fun e w' => ∃ v, e = .returned v ∧ R v w' :=
  calls_of_cwp (st := (fun i => cond (Nat.beq i 7) 1 (0))) (c := k33_0) (by kernel_rfl) Tryz.func33 (by kernel_rfl) (Nat.le_of_ble_eq_true (by kernel_rfl)) (by kernel_rfl)
    (s33_0 (R := R) (Q := endE Tryz.prog Tryz.f33 R) (fun e w h => kcast (by kernel_rfl) h) (argsE #[d0, name1]) w (kcast (by kernel_rfl) h))
def m24_14 (R : VP) (t2 : Value) (w : World) : Prop :=
  R t2 w
def m24_10 (R : VP) (K1 : (Value × Value) → World → Prop) (d0 l3 t15 t16 t17 : Value) (w : World) : Prop :=
  valP Tryz.prog (binS BinOp.add 3 (tm 17) (ci 1) t17 (vi 1)) w fun t40 w =>
  K1 (l3, t40) w
def m24_12 (R : VP) (K1 : (Value × Value) → World → Prop) (d0 l3 name5 f6 t15 t16 t17 : Value) (w : World) : Prop :=
  anyDraw w fun w =>
  heldP w fun J =>
  nilCheckP f6 fun t30 =>
  valJ Tryz.prog J (Instr.fieldAt 78 t30 0) fun t31 =>
  valJ Tryz.prog J (Instr.loadAt 9 t31) fun t32 =>
  nilCheckP f6 fun t34 =>
  valJ Tryz.prog J (Instr.fieldAt 78 t34 1) fun t35 =>
  valJ Tryz.prog J (Instr.loadAt 9 t35) fun t36 =>
  valJ Tryz.prog J (Instr.build 67 #[(0, name5), (1, t32), (2, t36)]) fun t37 =>
  valP Tryz.prog (Instr.buildSlice 39 1 #[(0, t37)]) w fun t38 w =>
  stayP J w
  (builtinP Tryz.prog Builtin.append #[39, 39] 39 #[false, false] #[l3, t38] w fun t39 w =>
  stayP J w
  (m24_10 R K1 d0 t39 t15 t16 t17 w))
def m24_11 (R : VP) (K1 : (Value × Value) → World → Prop) (d0 l3 name5 t15 t16 t17 : Value) (w : World) : Prop :=
  nilCheckP d0 fun t22 =>
  valP Tryz.prog (Instr.fieldAt 61 t22 0) w fun t23 w =>
  valP Tryz.prog (Instr.loadAt 59 t23) w fun t24 w =>
  valP Tryz.prog (Instr.lookup 59 t24 name5 false) w fun t26 w =>
  m24_12 R K1 d0 l3 name5 t26 t15 t16 t17 w
def m24_9 (R : VP) (K1 : (Value × Value) → World → Prop) (d0 l3 t15 t16 t17 : Value) (w : World) : Prop :=
  valP Tryz.prog (Instr.indexAt 71 t15 t17) w fun t19 w =>
  valP Tryz.prog (Instr.loadAt 9 t19) w fun t20 w =>
  m24_11 R K1 d0 l3 t20 t15 t16 t17 w
def m24_5 (R : VP) (t2 : Value) (w : World) : Prop :=
  R t2 w
def m24_4 (R : VP) (l3 : Value) (w : World) : Prop :=
  m24_5 R l3 w
def m24_8 (R : VP) (K1 : (Value × Value) → World → Prop) (d0 l3 t15 t16 t17 t18 : Value) (w : World) : Prop :=
  condP t18
  (m24_9 R K1 d0 l3 t15 t16 t17 w)
  (m24_4 R l3 w)
def m24_7 (R : VP) (K1 : (Value × Value) → World → Prop) (d0 l3 t15 t16 t17 : Value) (w : World) : Prop :=
  valP Tryz.prog (binS BinOp.lss 3 (tm 17) (tm 16) t17 t16) w fun t18 w =>
  m24_8 R K1 d0 l3 t15 t16 t17 t18 w
def m24_6 (R : VP) (d0 l3 t15 t16 t17 : Value) (w : World) : Prop :=
  loopP (fun (K1 : (Value × Value) → World → Prop) (s : Value × Value) w => m24_7 R K1 d0 s.1 t15 t16 s.2 w) (l3, t17) w
def m24_3 (R : VP) (d0 l3 : Value) (w : World) : Prop :=
  nilCheckP d0 fun t11 =>
  valP Tryz.prog (Instr.fieldAt 61 t11 0) w fun t12 w =>
  valP Tryz.prog (Instr.loadAt 59 t12) w fun t13 w =>
  callP Tryz.prog (fnV 30) #[t13] w fun t14 w =>
  callP Tryz.prog (fnV 29) #[t14] w fun t15 w =>
  builtinP Tryz.prog Builtin.len #[71] 3 #[false] #[t15] w fun t16 w =>
  m24_6 R d0 l3 t15 t16 (vi 0) w
def m24_13 (R : VP) (d0 l3 t8 : Value) (w : World) : Prop :=
  condP t8
  (m24_14 R l3 w)
  (m24_3 R d0 l3 w)
def m24_2 (R : VP) (d0 l3 : Value) (w : World) : Prop :=
  valP Tryz.prog (binS BinOp.eql 25 (tm 7) (Operand.const (Value.pointer none)) d0 (Value.pointer none)) w fun t8 w =>
  m24_13 R d0 l3 t8 w
def m24_1 (R : VP) (d0 : Value) (w : World) : Prop :=
  m24_2 R d0 (Value.slice none 0 0) w
def m24_0 (R : VP) (d0 : Value) (w : World) : Prop :=
  m24_1 R d0 w
abbrev W24 := cwp Tryz.prog (fun i => 0)
noncomputable def k24_0 := bodyOf Tryz.f24
noncomputable def k24_1 := c2 k24_0
noncomputable def k24_2 := c2 k24_1
noncomputable def k24_3 := c2 k24_2
noncomputable def k24_4 := c2 k24_3
noncomputable def k24_5 := c2 k24_4
noncomputable def k24_6 := c2 (c1 k24_3)
noncomputable def k24_7 := c1 (c1 k24_6)
noncomputable def k24_8 := c2 k24_7
noncomputable def k24_9 := c2 k24_8
noncomputable def k24_10 := c2 k24_9
noncomputable def k24_11 := c2 (c1 (c1 k24_9))
noncomputable def k24_12 := c2 k24_11
noncomputable def k24_13 := c2 (c1 k24_2)
noncomputable def k24_14 := c2 (c1 k24_13)
abbrev hR24 (R : VP) (Q : EQ) : Prop := ∀ e w, (R (e 2) w) → Q .ret e w
theorem s24_14 (hR : hR24 R Q) (e : Env) (w : World) (h : m24_14 R (e 2) w) : W24 k24_14 Q e w := by
  exact reA (hR _ _ h)
theorem s24_10 {K1 : (Value × Value) → World → Prop} (hN : ∀ e w, (K1 ((e 3), (e 17)) w) → Q .normal e w) (e : Env) (w : World) (h : m24_10 R K1 (e 0) (e 3) (e 15) (e 16) (e 17) w) : W24 k24_10 Q e w := by
  exact rgA 9 (fun e w => K1 ((e 3), (e 17)) w) h hN
theorem s24_12 {K1 : (Value × Value) → World → Prop} (hN : ∀ e w, (m24_10 R K1 (e 0) (e 3) (e 15) (e 16) (e 17) w) → Q .normal e w) (e : Env) (w : World) (h : m24_12 R K1 (e 0) (e 3) (e 5) (e 6) (e 15) (e 16) (e 17) w) : W24 k24_12 Q e w := by
  exact treeJ_ok 8 14 (bt 14 0) (.take 0 (bt 14 1) (.take 1 (bt 14 3) (.take 2 (bt 14 7) (.take 3 (bt 14 15) (.take 4 (bt 14 31) (.take 5 (bt 14 63) (.take 6 (bt 14 127) (.take 7 (bt 14 255) (.take 8 (bt 14 511) (.take 9 (bt 14 1023) (.take 10 (bt 14 2047) (.alt 11 (bt 14 4095) (.alt 12 (bt 14 8191) (.take 13 (bt 14 16383) .done) .stop) .stop)))))))))))) (fun e w => m24_10 R K1 (e 0) (e 3) (e 15) (e 16) (e 17) w) (by kernel_rfl) (by kernel_rfl) (by kernel_rfl) (by kernel_rfl) (by kernel_rfl) (by kernel_rfl) (kcast (by kernel_rfl) h) hN (by kernel_rfl)
theorem s24_11 {K1 : (Value × Value) → World → Prop} (hN : ∀ e w, (m24_10 R K1 (e 0) (e 3) (e 15) (e 16) (e 17) w) → Q .normal e w) (e : Env) (w : World) (h : m24_11 R K1 (e 0) (e 3) (e 5) (e 15) (e 16) (e 17) w) : W24 k24_11 Q e w := by
  refine seA ?_
  exact rgA 7 (fun e w => m24_12 R K1 (e 0) (e 3) (e 5) (e 6) (e 15) (e 16) (e 17) w) h fun e w h => then_N (s24_12 hN e w h)
theorem s24_9 {K1 : (Value × Value) → World → Prop} (hN : ∀ e w, (K1 ((e 3), (e 17)) w) → Q .normal e w) (e : Env) (w : World) (h : m24_9 R K1 (e 0) (e 3) (e 15) (e 16) (e 17) w) : W24 k24_9 Q e w := by
  refine seA ?_
  have hN : ∀ e w, (m24_10 R K1 (e 0) (e 3) (e 15) (e 16) (e 17) w) → (thenE (W24 k24_10 Q) Q) .normal e w := fun e w h => then_N (s24_10 hN e w h)
  refine block_ok 1 (by kernel_rfl) ?_
  have hN : ∀ e w, (m24_10 R K1 (e 0) (e 3) (e 15) (e 16) (e 17) w) → (inBlockE 1 (thenE (W24 k24_10 Q) Q)) .normal e w := fun e w h => block_N (hN e w h)
  refine seA ?_
  exact rgA 6 (fun e w => m24_11 R K1 (e 0) (e 3) (e 5) (e 15) (e 16) (e 17) w) h fun e w h => then_N (s24_11 (R := R) (Q := (inBlockE 1 (thenE (W24 k24_10 Q) Q))) hN e w h)
theorem s24_5 (hR : hR24 R Q) (e : Env) (w : World) (h : m24_5 R (e 2) w) : W24 k24_5 Q e w := by
  exact reA (hR _ _ h)
theorem s24_4 (hR : hR24 R Q) (e : Env) (w : World) (h : m24_4 R (e 3) w) : W24 k24_4 Q e w := by
  refine seA ?_
  exact rgA 10 (fun e w => m24_5 R (e 2) w) h fun e w h => then_N (s24_5 hR e w h)
theorem s24_8 {K1 : (Value × Value) → World → Prop} (hN : ∀ e w, (K1 ((e 3), (e 17)) w) → Q .normal e w) (hX0 : ∀ e w, (m24_4 R (e 3) w) → Q (.exit 0) e w) (e : Env) (w : World) (h : m24_8 R K1 (e 0) (e 3) (e 15) (e 16) (e 17) (e 18) w) : W24 k24_8 Q e w := by
  refine seA ?_
  have hN : ∀ e w, (m24_9 R K1 (e 0) (e 3) (e 15) (e 16) (e 17) w) → (thenE (W24 k24_9 Q) Q) .normal e w := fun e w h => then_N (s24_9 hN e w h)
  have hX0 : ∀ e w, (m24_4 R (e 3) w) → (thenE (W24 k24_9 Q) Q) (.exit 0) e w := fun e w h => then_X (hX0 e w h)
  refine coA (Operand.tmp 18) h (fun h1 => ?_) (fun h1 => ?_)
  · exact skA (hN _ _ h1)
  · exact exA 0 (hX0 _ _ h1)
theorem s24_7 {K1 : (Value × Value) → World → Prop} (hN : ∀ e w, (K1 ((e 3), (e 17)) w) → Q .normal e w) (hX0 : ∀ e w, (m24_4 R (e 3) w) → Q (.exit 0) e w) (e : Env) (w : World) (h : m24_7 R K1 (e 0) (e 3) (e 15) (e 16) (e 17) w) : W24 k24_7 Q e w := by
  refine seA ?_
  exact rgA 5 (fun e w => m24_8 R K1 (e 0) (e 3) (e 15) (e 16) (e 17) (e 18) w) h fun e w h => then_N (s24_8 hN hX0 e w h)
theorem s24_6 (hN : ∀ e w, (m24_4 R (e 3) w) → Q .normal e w) (e : Env) (w : World) (h : m24_6 R (e 0) (e 3) (e 15) (e 16) (e 17) w) : W24 k24_6 Q e w := by
  refine block_ok 0 (by kernel_rfl) ?_
  have hX0 : ∀ e w, (m24_4 R (e 3) w) → (inBlockE 0 Q) (.exit 0) e w := fun e w h => inBlock_same (Q := Q) 0 (hN e w h)
  refine loop_ok' (fun (e : Env) => (e 3, e 17)) [0, 15, 16] (by kernel_rfl) (by kernel_rfl) h (fun K e' w' hk h' => ?_)
  have r0 : e' 0 = e 0 := hk 0 (by decide)
  have r15 : e' 15 = e 15 := hk 15 (by decide)
  have r16 : e' 16 = e 16 := hk 16 (by decide)
  have hX0 : ∀ e w, (m24_4 R (e 3) w) → (thenE (fun (e : Env) w => K ((e 3), (e 17)) w) (inBlockE 0 Q)) (.exit 0) e w := fun e w h => then_X (hX0 e w h)
  exact s24_7 (K1 := K) (fun _ _ h => then_N h) hX0 e' w' (by rw [r0, r15, r16]; exact h')
theorem s24_3 (hR : hR24 R Q) (e : Env) (w : World) (h : m24_3 R (e 0) (e 3) w) : W24 k24_3 Q e w := by
  refine seA ?_
  have hN : ∀ e w, (m24_4 R (e 3) w) → (thenE (W24 k24_4 Q) Q) .normal e w := fun e w h => then_N (s24_4 hR e w h)
  refine seA ?_
  exact rgA 4 (fun e w => m24_6 R (e 0) (e 3) (e 15) (e 16) (e 17) w) h fun e w h => then_N (s24_6 hN e w h)
theorem s24_13 (hN : ∀ e w, (m24_3 R (e 0) (e 3) w) → Q .normal e w) (hR : hR24 R Q) (e : Env) (w : World) (h : m24_13 R (e 0) (e 3) (e 8) w) : W24 k24_13 Q e w := by
  refine coA (Operand.tmp 8) h (fun h1 => ?_) (fun h1 => ?_)
  · refine seA ?_
    exact rgA 3 (fun e w => m24_14 R (e 2) w) h1 fun e w h => then_N (s24_14 hR e w h)
  · exact skA (hN _ _ h1)
theorem s24_2 (hR : hR24 R Q) (e : Env) (w : World) (h : m24_2 R (e 0) (e 3) w) : W24 k24_2 Q e w := by
  refine seA ?_
  have hN : ∀ e w, (m24_3 R (e 0) (e 3) w) → (thenE (W24 k24_3 Q) Q) .normal e w := fun e w h => then_N (s24_3 hR e w h)
  have hR : hR24 R (thenE (W24 k24_3 Q) Q) := fun e w h => then_R (hR e w h)
  refine seA ?_
  exact rgA 2 (fun e w => m24_13 R (e 0) (e 3) (e 8) w) h fun e w h => then_N (s24_13 hN hR e w h)
theorem s24_1 (hR : hR24 R Q) (e : Env) (w : World) (h : m24_1 R (e 0) w) : W24 k24_1 Q e w := by
  refine seA ?_
  exact rgA 1 (fun e w => m24_2 R (e 0) (e 3) w) h fun e w h => then_N (s24_2 hR e w h)
theorem s24_0 (hR : hR24 R Q) (e : Env) (w : World) (h : m24_0 R (e 0) w) : W24 k24_0 Q e w := by
  refine seA ?_
  exact rgA 0 (fun e w => m24_1 R (e 0) w) h fun e w h => then_N (s24_1 hR e w h)
abbrev m24 (R : VP) (d0 : Value) (w : World) : Prop := m24_0 R d0 w
theorem s24 (d0 : Value) {R : VP} {w : World} (h : m24 R d0 w) :
    Calls Tryz.prog 24 #[d0] w fun e w' => ∃ v, e = .returned v ∧ R v w' :=
  calls_of_cwp (st := (fun i => 0)) (c := k24_0) (by kernel_rfl) Tryz.func24 (by kernel_rfl) (Nat.le_of_ble_eq_true (by kernel_rfl)) (by kernel_rfl)
    (s24_0 (R := R) (Q := endE Tryz.prog Tryz.f24 R) (fun e w h => kcast (by kernel_rfl) h) (argsE #[d0]) w (kcast (by kernel_rfl) h))
def m28_6 (R : VP) (t6 : Value) (w : World) : Prop :=
  R t6 w
def m28_3 (R : VP) (t6 : Value) (w : World) : Prop :=
  R t6 w
def m28_2 (R : VP) (d3 from4 to5 : Value) (w : World) : Prop :=
  valP Tryz.prog (Instr.loadAt 25 d3) w fun t16 w =>
  valP Tryz.prog (Instr.loadAt 9 from4) w fun t17 w =>
  valP Tryz.prog (Instr.makeFunc (Fn.func 68) #[] #[d3, to5, from4]) w fun t18 w =>
  callP Tryz.prog (fnV 65) #[t16, t17, t18] w fun t19 w =>
  m28_3 R t19 w
def m28_5 (R : VP) (d3 from4 to5 e7 t14 : Value) (w : World) : Prop :=
  condP t14
  (m28_6 R e7 w)
  (m28_2 R d3 from4 to5 w)
def m28_4 (R : VP) (d3 from4 to5 e7 : Value) (w : World) : Prop :=
  valP Tryz.prog (binS BinOp.neq 26 (tm 13) (ci 0) e7 (vi 0)) w fun t14 w =>
  m28_5 R d3 from4 to5 e7 t14 w
def m28_1 (R : VP) (d3 from4 to5 : Value) (w : World) : Prop :=
  valP Tryz.prog (Instr.loadAt 25 d3) w fun t8 w =>
  valP Tryz.prog (Instr.loadAt 9 from4) w fun t9 w =>
  valP Tryz.prog (Instr.loadAt 9 to5) w fun t10 w =>
  valP Tryz.prog (Instr.buildSlice 71 2 #[(0, t9), (1, t10)]) w fun t11 w =>
  callP Tryz.prog (fnV 44) #[t8, t11] w fun t12 w =>
  m28_4 R d3 from4 to5 t12 w
def m28_0 (R : VP) (d0 from1 to2 : Value) (w : World) : Prop :=
  valP Tryz.prog (Instr.box 25 d0) w fun d3 w =>
  valP Tryz.prog (Instr.box 9 from1) w fun from4 w =>
  valP Tryz.prog (Instr.box 9 to2) w fun to5 w =>
  m28_1 R d3 from4 to5 w
abbrev W28 := cwp Tryz.prog (fun i => 0)
noncomputable def k28_0 := bodyOf Tryz.f28
noncomputable def k28_1 := c2 k28_0
noncomputable def k28_2 := c2 k28_1
noncomputable def k28_3 := c2 k28_2
noncomputable def k28_4 := c2 (c1 k28_1)
noncomputable def k28_5 := c2 k28_4
noncomputable def k28_6 := c2 (c1 k28_5)
abbrev hR28 (R : VP) (Q : EQ) : Prop := ∀ e w, (R (e 6) w) → Q .ret e w
theorem s28_6 (hR : hR28 R Q) (e : Env) (w : World) (h : m28_6 R (e 6) w) : W28 k28_6 Q e w := by
  exact reA (hR _ _ h)
theorem s28_3 (hR : hR28 R Q) (e : Env) (w : World) (h : m28_3 R (e 6) w) : W28 k28_3 Q e w := by
  exact reA (hR _ _ h)
theorem s28_2 (hR : hR28 R Q) (e : Env) (w : World) (h : m28_2 R (e 3) (e 4) (e 5) w) : W28 k28_2 Q e w := by
  refine seA ?_
  exact rgA 4 (fun e w => m28_3 R (e 6) w) h fun e w h => then_N (s28_3 hR e w h)
theorem s28_5 (hN : ∀ e w, (m28_2 R (e 3) (e 4) (e 5) w) → Q .normal e w) (hR : hR28 R Q) (e : Env) (w : World) (h : m28_5 R (e 3) (e 4) (e 5) (e 7) (e 14) w) : W28 k28_5 Q e w := by
  refine coA (Operand.tmp 14) h (fun h1 => ?_) (fun h1 => ?_)
  · refine seA ?_
    exact rgA 3 (fun e w => m28_6 R (e 6) w) h1 fun e w h => then_N (s28_6 hR e w h)
  · exact skA (hN _ _ h1)
theorem s28_4 (hN : ∀ e w, (m28_2 R (e 3) (e 4) (e 5) w) → Q .normal e w) (hR : hR28 R Q) (e : Env) (w : World) (h : m28_4 R (e 3) (e 4) (e 5) (e 7) w) : W28 k28_4 Q e w := by
  refine seA ?_
  exact rgA 2 (fun e w => m28_5 R (e 3) (e 4) (e 5) (e 7) (e 14) w) h fun e w h => then_N (s28_5 hN hR e w h)
theorem s28_1 (hR : hR28 R Q) (e : Env) (w : World) (h : m28_1 R (e 3) (e 4) (e 5) w) : W28 k28_1 Q e w := by
  refine seA ?_
  have hN : ∀ e w, (m28_2 R (e 3) (e 4) (e 5) w) → (thenE (W28 k28_2 Q) Q) .normal e w := fun e w h => then_N (s28_2 hR e w h)
  have hR : hR28 R (thenE (W28 k28_2 Q) Q) := fun e w h => then_R (hR e w h)
  refine seA ?_
  exact rgA 1 (fun e w => m28_4 R (e 3) (e 4) (e 5) (e 7) w) h fun e w h => then_N (s28_4 hN hR e w h)
theorem s28_0 (hR : hR28 R Q) (e : Env) (w : World) (h : m28_0 R (e 0) (e 1) (e 2) w) : W28 k28_0 Q e w := by
  refine seA ?_
  exact rgA 0 (fun e w => m28_1 R (e 3) (e 4) (e 5) w) h fun e w h => then_N (s28_1 hR e w h)
abbrev m28 (R : VP) (d0 from1 to2 : Value) (w : World) : Prop := m28_0 R d0 from1 to2 w
theorem s28 (d0 from1 to2 : Value) {R : VP} {w : World} (h : m28 R d0 from1 to2 w) :
    Calls Tryz.prog 28 #[d0, from1, to2] w fun e w' => ∃ v, e = .returned v ∧ R v w' :=
  calls_of_cwp (st := (fun i => 0)) (c := k28_0) (by kernel_rfl) Tryz.func28 (by kernel_rfl) (Nat.le_of_ble_eq_true (by kernel_rfl)) (by kernel_rfl)
    (s28_0 (R := R) (Q := endE Tryz.prog Tryz.f28 R) (fun e w h => kcast (by kernel_rfl) h) (argsE #[d0, from1, to2]) w (kcast (by kernel_rfl) h))
end Go.Proofs.YtcldjjmfpmkldaaGreatDoor.M
