/- Parts of a proof, in one text: what it needs of Mfold0, K3. -/
import Derived.Test.YtnhgdngbdoifnaaJCleanerKeeps3
import Derived.Test.YtnhgdngbdoifnaaProg
namespace Go.Proofs.Ytnhgdngbdoifnaa.M
open Go.Proofs.Ytnhgdngbdoifnaa.F
set_option linter.unusedVariables false
set_option maxRecDepth 100000
variable {R : VP} {Q : EQ}
def m60_8 (R : VP) (t4 : Value) (w : World) : Prop :=
  R t4 w
def m60_6 (R : VP) (t4 : Value) (w : World) : Prop :=
  R t4 w
def m60_4 (R : VP) (t4 : Value) (w : World) : Prop :=
  R t4 w
def m60_3 (R : VP) (a0 b1 : Value) (w : World) : Prop :=
  valP Try.prog (binS BinOp.add 3 (tm 21) (tm 22) a0 b1) w fun t23 w =>
  m60_4 R t23 w
def m60_5 (R : VP) (a0 b1 t20 : Value) (w : World) : Prop :=
  condP t20
  (m60_6 R (vi (-9223372036854775808)) w)
  (m60_3 R a0 b1 w)
def m60_2 (R : VP) (a0 b1 : Value) (w : World) : Prop :=
  valP Try.prog (binS BinOp.lss 3 (tm 13) (ci 0) b1 (vi 0)) w fun t14 w =>
  condP t14
  (valP Try.prog (binS BinOp.sub 3 (ci (-9223372036854775808)) (tm 17) (vi (-9223372036854775808)) b1) w fun t18 w =>
  valP Try.prog (binS BinOp.lss 3 (tm 16) (tm 18) a0 t18) w fun t19 w =>
  pickP t14 t19 (Value.bool false) fun t20 =>
  m60_5 R a0 b1 t20 w)
  (pickP t14 undef (Value.bool false) fun t20 =>
  m60_5 R a0 b1 t20 w)
def m60_7 (R : VP) (a0 b1 t12 : Value) (w : World) : Prop :=
  condP t12
  (m60_8 R (vi 9223372036854775807) w)
  (m60_2 R a0 b1 w)
def m60_1 (R : VP) (a0 b1 : Value) (w : World) : Prop :=
  valP Try.prog (binS BinOp.gtr 3 (tm 5) (ci 0) b1 (vi 0)) w fun t6 w =>
  condP t6
  (valP Try.prog (binS BinOp.sub 3 (ci 9223372036854775807) (tm 9) (vi 9223372036854775807) b1) w fun t10 w =>
  valP Try.prog (binS BinOp.gtr 3 (tm 8) (tm 10) a0 t10) w fun t11 w =>
  pickP t6 t11 (Value.bool false) fun t12 =>
  m60_7 R a0 b1 t12 w)
  (pickP t6 undef (Value.bool false) fun t12 =>
  m60_7 R a0 b1 t12 w)
def m60_0 (R : VP) (a0 b1 : Value) (w : World) : Prop :=
  m60_1 R a0 b1 w
abbrev W60 := cwp Try.prog (fun i => 0)
noncomputable def k60_0 := bodyOf Try.f60
noncomputable def k60_1 := c2 k60_0
noncomputable def k60_2 := c2 k60_1
noncomputable def k60_3 := c2 k60_2
noncomputable def k60_4 := c2 k60_3
noncomputable def k60_5 := c2 (c1 k60_2)
noncomputable def k60_6 := c2 (c1 k60_5)
noncomputable def k60_7 := c2 (c1 k60_1)
noncomputable def k60_8 := c2 (c1 k60_7)
abbrev hR60 (R : VP) (Q : EQ) : Prop := ∀ e w, (R (e 4) w) → Q .ret e w
theorem s60_8 (hR : hR60 R Q) (e : Env) (w : World) (h : m60_8 R (e 4) w) : W60 k60_8 Q e w := by
  exact reA (hR _ _ h)
theorem s60_6 (hR : hR60 R Q) (e : Env) (w : World) (h : m60_6 R (e 4) w) : W60 k60_6 Q e w := by
  exact reA (hR _ _ h)
theorem s60_4 (hR : hR60 R Q) (e : Env) (w : World) (h : m60_4 R (e 4) w) : W60 k60_4 Q e w := by
  exact reA (hR _ _ h)
theorem s60_3 (hR : hR60 R Q) (e : Env) (w : World) (h : m60_3 R (e 0) (e 1) w) : W60 k60_3 Q e w := by
  refine seA ?_
  exact rgA 5 (fun e w => m60_4 R (e 4) w) h fun e w h => then_N (s60_4 hR e w h)
theorem s60_5 (hN : ∀ e w, (m60_3 R (e 0) (e 1) w) → Q .normal e w) (hR : hR60 R Q) (e : Env) (w : World) (h : m60_5 R (e 0) (e 1) (e 20) w) : W60 k60_5 Q e w := by
  refine coA (Operand.tmp 20) h (fun h1 => ?_) (fun h1 => ?_)
  · refine seA ?_
    exact rgA 4 (fun e w => m60_6 R (e 4) w) h1 fun e w h => then_N (s60_6 hR e w h)
  · exact skA (hN _ _ h1)
theorem s60_2 (hR : hR60 R Q) (e : Env) (w : World) (h : m60_2 R (e 0) (e 1) w) : W60 k60_2 Q e w := by
  refine seA ?_
  have hN : ∀ e w, (m60_3 R (e 0) (e 1) w) → (thenE (W60 k60_3 Q) Q) .normal e w := fun e w h => then_N (s60_3 hR e w h)
  have hR : hR60 R (thenE (W60 k60_3 Q) Q) := fun e w h => then_R (hR e w h)
  refine seA ?_
  exact rgA 3 (fun e w => m60_5 R (e 0) (e 1) (e 20) w) h fun e w h => then_N (s60_5 hN hR e w h)
theorem s60_7 (hN : ∀ e w, (m60_2 R (e 0) (e 1) w) → Q .normal e w) (hR : hR60 R Q) (e : Env) (w : World) (h : m60_7 R (e 0) (e 1) (e 12) w) : W60 k60_7 Q e w := by
  refine coA (Operand.tmp 12) h (fun h1 => ?_) (fun h1 => ?_)
  · refine seA ?_
    exact rgA 2 (fun e w => m60_8 R (e 4) w) h1 fun e w h => then_N (s60_8 hR e w h)
  · exact skA (hN _ _ h1)
theorem s60_1 (hR : hR60 R Q) (e : Env) (w : World) (h : m60_1 R (e 0) (e 1) w) : W60 k60_1 Q e w := by
  refine seA ?_
  have hN : ∀ e w, (m60_2 R (e 0) (e 1) w) → (thenE (W60 k60_2 Q) Q) .normal e w := fun e w h => then_N (s60_2 hR e w h)
  have hR : hR60 R (thenE (W60 k60_2 Q) Q) := fun e w h => then_R (hR e w h)
  refine seA ?_
  exact rgA 1 (fun e w => m60_7 R (e 0) (e 1) (e 12) w) h fun e w h => then_N (s60_7 hN hR e w h)
theorem s60_0 (hR : hR60 R Q) (e : Env) (w : World) (h : m60_0 R (e 0) (e 1) w) : W60 k60_0 Q e w := by
  refine seA ?_
  exact rgA 0 (fun e w => m60_1 R (e 0) (e 1) w) h fun e w h => then_N (s60_1 hR e w h)
abbrev m60 (R : VP) (a0 b1 : Value) (w : World) : Prop := m60_0 R a0 b1 w
theorem s60 (a0 b1 : Value) {R : VP} {w : World} (h : m60 R a0 b1 w) :
    Calls Try.prog 60 #[a0, b1] w fun e w' => ∃ v, e = .returned v ∧ R v w' :=
  calls_of_cwp (st := (fun i => 0)) (c := k60_0) (by kernel_rfl) Try.func60 (by kernel_rfl) (Nat.le_of_ble_eq_true (by kernel_rfl)) (by kernel_rfl)
    (s60_0 (R := R) (Q := endE Try.prog Try.f60 R) (fun e w h => kcast (by kernel_rfl) h) (argsE #[a0, b1]) w (kcast (by kernel_rfl) h))
def m61_11 (R : VP) (t2 : Value) (w : World) : Prop :=
  R t2 w
def m61_9 (R : VP) (t2 : Value) (w : World) : Prop :=
  R t2 w
def m61_7 (R : VP) (t2 : Value) (w : World) : Prop :=
  R t2 w
def m61_5 (R : VP) (t2 : Value) (w : World) : Prop :=
  R t2 w
def m61_4 (R : VP) (w : World) : Prop :=
  m61_5 R (vi 0) w
def m61_6 (R : VP) (t8 : Value) (w : World) : Prop :=
  condP t8
  (m61_7 R (vi 1) w)
  (m61_4 R w)
def m61_3 (R : VP) (v0 : Value) (w : World) : Prop :=
  valP Try.prog (binS BinOp.geq 3 (tm 7) (ci 0) v0 (vi 0)) w fun t8 w =>
  m61_6 R t8 w
def m61_8 (R : VP) (v0 t6 : Value) (w : World) : Prop :=
  condP t6
  (m61_9 R (vi 2) w)
  (m61_3 R v0 w)
def m61_2 (R : VP) (v0 : Value) (w : World) : Prop :=
  valP Try.prog (binS BinOp.geq 3 (tm 5) (ci 10) v0 (vi 10)) w fun t6 w =>
  m61_8 R v0 t6 w
def m61_10 (R : VP) (v0 t4 : Value) (w : World) : Prop :=
  condP t4
  (m61_11 R (vi 3) w)
  (m61_2 R v0 w)
def m61_1 (R : VP) (v0 : Value) (w : World) : Prop :=
  valP Try.prog (binS BinOp.geq 3 (tm 3) (ci 100) v0 (vi 100)) w fun t4 w =>
  m61_10 R v0 t4 w
def m61_0 (R : VP) (v0 : Value) (w : World) : Prop :=
  m61_1 R v0 w
abbrev W61 := cwp Try.prog (fun i => 0)
noncomputable def k61_0 := bodyOf Try.f61
noncomputable def k61_1 := c2 k61_0
noncomputable def k61_2 := c2 k61_1
noncomputable def k61_3 := c2 k61_2
noncomputable def k61_4 := c2 k61_3
noncomputable def k61_5 := c2 k61_4
noncomputable def k61_6 := c2 (c1 k61_3)
noncomputable def k61_7 := c2 (c1 k61_6)
noncomputable def k61_8 := c2 (c1 k61_2)
noncomputable def k61_9 := c2 (c1 k61_8)
noncomputable def k61_10 := c2 (c1 k61_1)
noncomputable def k61_11 := c2 (c1 k61_10)
abbrev hR61 (R : VP) (Q : EQ) : Prop := ∀ e w, (R (e 2) w) → Q .ret e w
theorem s61_11 (hR : hR61 R Q) (e : Env) (w : World) (h : m61_11 R (e 2) w) : W61 k61_11 Q e w := by
  exact reA (hR _ _ h)
theorem s61_9 (hR : hR61 R Q) (e : Env) (w : World) (h : m61_9 R (e 2) w) : W61 k61_9 Q e w := by
  exact reA (hR _ _ h)
theorem s61_7 (hR : hR61 R Q) (e : Env) (w : World) (h : m61_7 R (e 2) w) : W61 k61_7 Q e w := by
  exact reA (hR _ _ h)
theorem s61_5 (hR : hR61 R Q) (e : Env) (w : World) (h : m61_5 R (e 2) w) : W61 k61_5 Q e w := by
  exact reA (hR _ _ h)
theorem s61_4 (hR : hR61 R Q) (e : Env) (w : World) (h : m61_4 R w) : W61 k61_4 Q e w := by
  refine seA ?_
  exact rgA 7 (fun e w => m61_5 R (e 2) w) h fun e w h => then_N (s61_5 hR e w h)
theorem s61_6 (hN : ∀ e w, (m61_4 R w) → Q .normal e w) (hR : hR61 R Q) (e : Env) (w : World) (h : m61_6 R (e 8) w) : W61 k61_6 Q e w := by
  refine coA (Operand.tmp 8) h (fun h1 => ?_) (fun h1 => ?_)
  · refine seA ?_
    exact rgA 6 (fun e w => m61_7 R (e 2) w) h1 fun e w h => then_N (s61_7 hR e w h)
  · exact skA (hN _ _ h1)
theorem s61_3 (hR : hR61 R Q) (e : Env) (w : World) (h : m61_3 R (e 0) w) : W61 k61_3 Q e w := by
  refine seA ?_
  have hN : ∀ e w, (m61_4 R w) → (thenE (W61 k61_4 Q) Q) .normal e w := fun e w h => then_N (s61_4 hR e w h)
  have hR : hR61 R (thenE (W61 k61_4 Q) Q) := fun e w h => then_R (hR e w h)
  refine seA ?_
  exact rgA 5 (fun e w => m61_6 R (e 8) w) h fun e w h => then_N (s61_6 hN hR e w h)
theorem s61_8 (hN : ∀ e w, (m61_3 R (e 0) w) → Q .normal e w) (hR : hR61 R Q) (e : Env) (w : World) (h : m61_8 R (e 0) (e 6) w) : W61 k61_8 Q e w := by
  refine coA (Operand.tmp 6) h (fun h1 => ?_) (fun h1 => ?_)
  · refine seA ?_
    exact rgA 4 (fun e w => m61_9 R (e 2) w) h1 fun e w h => then_N (s61_9 hR e w h)
  · exact skA (hN _ _ h1)
theorem s61_2 (hR : hR61 R Q) (e : Env) (w : World) (h : m61_2 R (e 0) w) : W61 k61_2 Q e w := by
  refine seA ?_
  have hN : ∀ e w, (m61_3 R (e 0) w) → (thenE (W61 k61_3 Q) Q) .normal e w := fun e w h => then_N (s61_3 hR e w h)
  have hR : hR61 R (thenE (W61 k61_3 Q) Q) := fun e w h => then_R (hR e w h)
  refine seA ?_
  exact rgA 3 (fun e w => m61_8 R (e 0) (e 6) w) h fun e w h => then_N (s61_8 hN hR e w h)
theorem s61_10 (hN : ∀ e w, (m61_2 R (e 0) w) → Q .normal e w) (hR : hR61 R Q) (e : Env) (w : World) (h : m61_10 R (e 0) (e 4) w) : W61 k61_10 Q e w := by
  refine coA (Operand.tmp 4) h (fun h1 => ?_) (fun h1 => ?_)
  · refine seA ?_
    exact rgA 2 (fun e w => m61_11 R (e 2) w) h1 fun e w h => then_N (s61_11 hR e w h)
  · exact skA (hN _ _ h1)
theorem s61_1 (hR : hR61 R Q) (e : Env) (w : World) (h : m61_1 R (e 0) w) : W61 k61_1 Q e w := by
  refine seA ?_
  have hN : ∀ e w, (m61_2 R (e 0) w) → (thenE (W61 k61_2 Q) Q) .normal e w := fun e w h => then_N (s61_2 hR e w h)
  have hR : hR61 R (thenE (W61 k61_2 Q) Q) := fun e w h => then_R (hR e w h)
  refine seA ?_
  exact rgA 1 (fun e w => m61_10 R (e 0) (e 4) w) h fun e w h => then_N (s61_10 hN hR e w h)
theorem s61_0 (hR : hR61 R Q) (e : Env) (w : World) (h : m61_0 R (e 0) w) : W61 k61_0 Q e w := by
  refine seA ?_
  exact rgA 0 (fun e w => m61_1 R (e 0) w) h fun e w h => then_N (s61_1 hR e w h)
abbrev m61 (R : VP) (v0 : Value) (w : World) : Prop := m61_0 R v0 w
theorem s61 (v0 : Value) {R : VP} {w : World} (h : m61 R v0 w) :
    Calls Try.prog 61 #[v0] w fun e w' => ∃ v, e = .returned v ∧ R v w' :=
  calls_of_cwp (st := (fun i => 0)) (c := k61_0) (by kernel_rfl) Try.func61 (by kernel_rfl) (Nat.le_of_ble_eq_true (by kernel_rfl)) (by kernel_rfl)
    (s61_0 (R := R) (Q := endE Try.prog Try.f61 R) (fun e w h => kcast (by kernel_rfl) h) (argsE #[v0]) w (kcast (by kernel_rfl) h))
def m56_14 (R : VP) (t4 : Value) (w : World) : Prop :=
  valS Try.prog (loadC 65 t4) w fun r0 =>
  R r0 w
def m56_13 (R : VP) (t4 b5 : Value) (w : World) : Prop :=
  valP Try.prog (Instr.loadAt 65 b5) w fun t78 w =>
  unitP Try.prog (Instr.storeAt 65 t4 t78) w fun _ w =>
  m56_14 R t4 w
def m56_15 (R : VP) (a2 t4 b5 t73 : Value) (w : World) : Prop :=
  condP t73
  (valP Try.prog (Instr.fieldAt 65 a2 6) w fun t74 w =>
  valP Try.prog (Instr.loadAt 3 t74) w fun t75 w =>
  callP Try.prog (fnV 60) #[t75, (vi (-1))] w fun t76 w =>
  valP Try.prog (Instr.fieldAt 65 b5 6) w fun t77 w =>
  unitP Try.prog (Instr.storeAt 3 t77 t76) w fun _ w =>
  m56_13 R t4 b5 w)
  (m56_13 R t4 b5 w)
def m56_12 (R : VP) (a2 t4 b5 quarter7 : Value) (w : World) : Prop :=
  valP Try.prog (binS BinOp.eql 3 (tm 72) (ci 3) quarter7 (vi 3)) w fun t73 w =>
  m56_15 R a2 t4 b5 t73 w
def m56_16 (R : VP) (a2 t4 b5 quarter7 t67 : Value) (w : World) : Prop :=
  condP t67
  (valP Try.prog (Instr.fieldAt 65 a2 5) w fun t68 w =>
  valP Try.prog (Instr.loadAt 3 t68) w fun t69 w =>
  callP Try.prog (fnV 60) #[t69, (vi (-1))] w fun t70 w =>
  valP Try.prog (Instr.fieldAt 65 b5 5) w fun t71 w =>
  unitP Try.prog (Instr.storeAt 3 t71 t70) w fun _ w =>
  m56_12 R a2 t4 b5 quarter7 w)
  (m56_12 R a2 t4 b5 quarter7 w)
def m56_11 (R : VP) (a2 t4 b5 quarter7 : Value) (w : World) : Prop :=
  valP Try.prog (binS BinOp.eql 3 (tm 66) (ci 2) quarter7 (vi 2)) w fun t67 w =>
  m56_16 R a2 t4 b5 quarter7 t67 w
def m56_17 (R : VP) (a2 t4 b5 quarter7 t61 : Value) (w : World) : Prop :=
  condP t61
  (valP Try.prog (Instr.fieldAt 65 a2 6) w fun t62 w =>
  valP Try.prog (Instr.loadAt 3 t62) w fun t63 w =>
  callP Try.prog (fnV 60) #[t63, (vi 1)] w fun t64 w =>
  valP Try.prog (Instr.fieldAt 65 b5 6) w fun t65 w =>
  unitP Try.prog (Instr.storeAt 3 t65 t64) w fun _ w =>
  m56_11 R a2 t4 b5 quarter7 w)
  (m56_11 R a2 t4 b5 quarter7 w)
def m56_10 (R : VP) (a2 t4 b5 quarter7 : Value) (w : World) : Prop :=
  valP Try.prog (binS BinOp.eql 3 (tm 60) (ci 1) quarter7 (vi 1)) w fun t61 w =>
  m56_17 R a2 t4 b5 quarter7 t61 w
def m56_18 (R : VP) (a2 t4 b5 quarter7 t55 : Value) (w : World) : Prop :=
  condP t55
  (valP Try.prog (Instr.fieldAt 65 a2 5) w fun t56 w =>
  valP Try.prog (Instr.loadAt 3 t56) w fun t57 w =>
  callP Try.prog (fnV 60) #[t57, (vi 1)] w fun t58 w =>
  valP Try.prog (Instr.fieldAt 65 b5 5) w fun t59 w =>
  unitP Try.prog (Instr.storeAt 3 t59 t58) w fun _ w =>
  m56_10 R a2 t4 b5 quarter7 w)
  (m56_10 R a2 t4 b5 quarter7 w)
def m56_9 (R : VP) (a2 t4 b5 quarter7 : Value) (w : World) : Prop :=
  valP Try.prog (binS BinOp.eql 3 (tm 54) (ci 0) quarter7 (vi 0)) w fun t55 w =>
  m56_18 R a2 t4 b5 quarter7 t55 w
def m56_8 (R : VP) (v1 a2 t4 b5 : Value) (w : World) : Prop :=
  valP Try.prog (binS BinOp.rem 3 (tm 50) (ci 4) v1 (vi 4)) w fun t51 w =>
  valP Try.prog (binS BinOp.add 3 (tm 51) (ci 4) t51 (vi 4)) w fun t52 w =>
  valP Try.prog (binS BinOp.rem 3 (tm 52) (ci 4) t52 (vi 4)) w fun t53 w =>
  m56_9 R a2 t4 b5 t53 w
def m56_7 (R : VP) (v1 a2 t4 b5 k6 : Value) (w : World) : Prop :=
  valP Try.prog (Instr.fieldAt 65 a2 4) w fun t44 w =>
  valP Try.prog (Instr.indexAt 63 t44 k6) w fun t45 w =>
  valP Try.prog (Instr.loadAt 3 t45) w fun t46 w =>
  callP Try.prog (fnV 60) #[t46, (vi 1)] w fun t47 w =>
  valP Try.prog (Instr.fieldAt 65 b5 4) w fun t48 w =>
  valP Try.prog (Instr.indexAt 63 t48 k6) w fun t49 w =>
  unitP Try.prog (Instr.storeAt 3 t49 t47) w fun _ w =>
  m56_8 R v1 a2 t4 b5 w
def m56_6 (R : VP) (v1 a2 t4 b5 : Value) (w : World) : Prop :=
  callP Try.prog (fnV 61) #[v1] w fun t41 w =>
  m56_7 R v1 a2 t4 b5 t41 w
def m56_5 (R : VP) (v1 a2 t4 b5 : Value) (w : World) : Prop :=
  valP Try.prog (Instr.fieldAt 65 a2 1) w fun t35 w =>
  valP Try.prog (Instr.loadAt 3 t35) w fun t36 w =>
  callP Try.prog (fnV 60) #[t36, v1] w fun t38 w =>
  valP Try.prog (Instr.fieldAt 65 b5 1) w fun t39 w =>
  unitP Try.prog (Instr.storeAt 3 t39 t38) w fun _ w =>
  m56_6 R v1 a2 t4 b5 w
def m56_4 (R : VP) (v1 a2 t4 b5 : Value) (w : World) : Prop :=
  valP Try.prog (Instr.fieldAt 65 a2 0) w fun t31 w =>
  valP Try.prog (Instr.loadAt 3 t31) w fun t32 w =>
  callP Try.prog (fnV 60) #[t32, (vi 1)] w fun t33 w =>
  valP Try.prog (Instr.fieldAt 65 b5 0) w fun t34 w =>
  unitP Try.prog (Instr.storeAt 3 t34 t33) w fun _ w =>
  m56_5 R v1 a2 t4 b5 w
def m56_19 (R : VP) (v1 a2 t4 b5 t28 : Value) (w : World) : Prop :=
  condP t28
  (valP Try.prog (Instr.fieldAt 65 b5 3) w fun t30 w =>
  unitP Try.prog (Instr.storeAt 3 t30 v1) w fun _ w =>
  m56_4 R v1 a2 t4 b5 w)
  (m56_4 R v1 a2 t4 b5 w)
def m56_3 (R : VP) (v1 a2 t4 b5 : Value) (w : World) : Prop :=
  valP Try.prog (Instr.fieldAt 65 a2 0) w fun t20 w =>
  valP Try.prog (Instr.loadAt 3 t20) w fun t21 w =>
  valP Try.prog (binS BinOp.eql 3 (tm 21) (ci 0) t21 (vi 0)) w fun t22 w =>
  condP t22
  (pickP t22 (Value.bool true) undef fun t28 =>
  m56_19 R v1 a2 t4 b5 t28 w)
  (valP Try.prog (Instr.fieldAt 65 a2 3) w fun t25 w =>
  valP Try.prog (Instr.loadAt 3 t25) w fun t26 w =>
  valP Try.prog (binS BinOp.gtr 3 (tm 24) (tm 26) v1 t26) w fun t27 w =>
  pickP t22 (Value.bool true) t27 fun t28 =>
  m56_19 R v1 a2 t4 b5 t28 w)
def m56_20 (R : VP) (v1 a2 t4 b5 t17 : Value) (w : World) : Prop :=
  condP t17
  (valP Try.prog (Instr.fieldAt 65 b5 2) w fun t19 w =>
  unitP Try.prog (Instr.storeAt 3 t19 v1) w fun _ w =>
  m56_3 R v1 a2 t4 b5 w)
  (m56_3 R v1 a2 t4 b5 w)
def m56_2 (R : VP) (v1 a2 t4 b5 : Value) (w : World) : Prop :=
  valP Try.prog (Instr.fieldAt 65 a2 0) w fun t9 w =>
  valP Try.prog (Instr.loadAt 3 t9) w fun t10 w =>
  valP Try.prog (binS BinOp.eql 3 (tm 10) (ci 0) t10 (vi 0)) w fun t11 w =>
  condP t11
  (pickP t11 (Value.bool true) undef fun t17 =>
  m56_20 R v1 a2 t4 b5 t17 w)
  (valP Try.prog (Instr.fieldAt 65 a2 2) w fun t14 w =>
  valP Try.prog (Instr.loadAt 3 t14) w fun t15 w =>
  valP Try.prog (binS BinOp.lss 3 (tm 13) (tm 15) v1 t15) w fun t16 w =>
  pickP t11 (Value.bool true) t16 fun t17 =>
  m56_20 R v1 a2 t4 b5 t17 w)
def m56_1 (R : VP) (v1 a2 t4 : Value) (w : World) : Prop :=
  valP Try.prog (Instr.loadAt 65 a2) w fun t8 w =>
  valP Try.prog (Instr.alloc 65 true (.tuple #[])) w fun b5 w =>
  unitP Try.prog (Instr.storeAt 65 b5 t8) w fun _ w =>
  m56_2 R v1 a2 t4 b5 w
def m56_0 (R : VP) (a0 v1 : Value) (w : World) : Prop :=
  valP Try.prog (Instr.box 65 a0) w fun a2 w =>
  valP Try.prog (Instr.alloc 65 true (.tuple #[])) w fun t4 w =>
  m56_1 R v1 a2 t4 w
abbrev W56 := cwp Try.prog (fun i => 0)
noncomputable def k56_0 := bodyOf Try.f56
noncomputable def k56_1 := c2 k56_0
noncomputable def k56_2 := c2 k56_1
noncomputable def k56_3 := c2 k56_2
noncomputable def k56_4 := c2 k56_3
noncomputable def k56_5 := c2 k56_4
noncomputable def k56_6 := c2 k56_5
noncomputable def k56_7 := c2 k56_6
noncomputable def k56_8 := c2 k56_7
noncomputable def k56_9 := c2 k56_8
noncomputable def k56_10 := c2 k56_9
noncomputable def k56_11 := c2 k56_10
noncomputable def k56_12 := c2 k56_11
noncomputable def k56_13 := c2 k56_12
noncomputable def k56_14 := c2 k56_13
noncomputable def k56_15 := c2 (c1 k56_12)
noncomputable def k56_16 := c2 (c1 k56_11)
noncomputable def k56_17 := c2 (c1 k56_10)
noncomputable def k56_18 := c2 (c1 k56_9)
noncomputable def k56_19 := c2 (c1 k56_3)
noncomputable def k56_20 := c2 (c1 k56_2)
abbrev hR56 (R : VP) (Q : EQ) : Prop := ∀ e w, (valS Try.prog (loadC 65 (e 4)) w fun r0 =>
R r0 w) → Q .ret e w
theorem s56_14 (hR : hR56 R Q) (e : Env) (w : World) (h : m56_14 R (e 4) w) : W56 k56_14 Q e w := by
  exact reA (hR _ _ h)
theorem s56_13 (hR : hR56 R Q) (e : Env) (w : World) (h : m56_13 R (e 4) (e 5) w) : W56 k56_13 Q e w := by
  refine seA ?_
  exact rgA 19 (fun e w => m56_14 R (e 4) w) h fun e w h => then_N (s56_14 hR e w h)
theorem s56_15 (hN : ∀ e w, (m56_13 R (e 4) (e 5) w) → Q .normal e w) (e : Env) (w : World) (h : m56_15 R (e 2) (e 4) (e 5) (e 73) w) : W56 k56_15 Q e w := by
  refine coA (Operand.tmp 73) h (fun h1 => ?_) (fun h1 => ?_)
  · exact rgA 18 (fun e w => m56_13 R (e 4) (e 5) w) h1 hN
  · exact skA (hN _ _ h1)
theorem s56_12 (hR : hR56 R Q) (e : Env) (w : World) (h : m56_12 R (e 2) (e 4) (e 5) (e 7) w) : W56 k56_12 Q e w := by
  refine seA ?_
  have hN : ∀ e w, (m56_13 R (e 4) (e 5) w) → (thenE (W56 k56_13 Q) Q) .normal e w := fun e w h => then_N (s56_13 hR e w h)
  refine seA ?_
  exact rgA 17 (fun e w => m56_15 R (e 2) (e 4) (e 5) (e 73) w) h fun e w h => then_N (s56_15 hN e w h)
theorem s56_16 (hN : ∀ e w, (m56_12 R (e 2) (e 4) (e 5) (e 7) w) → Q .normal e w) (e : Env) (w : World) (h : m56_16 R (e 2) (e 4) (e 5) (e 7) (e 67) w) : W56 k56_16 Q e w := by
  refine coA (Operand.tmp 67) h (fun h1 => ?_) (fun h1 => ?_)
  · exact rgA 16 (fun e w => m56_12 R (e 2) (e 4) (e 5) (e 7) w) h1 hN
  · exact skA (hN _ _ h1)
theorem s56_11 (hR : hR56 R Q) (e : Env) (w : World) (h : m56_11 R (e 2) (e 4) (e 5) (e 7) w) : W56 k56_11 Q e w := by
  refine seA ?_
  have hN : ∀ e w, (m56_12 R (e 2) (e 4) (e 5) (e 7) w) → (thenE (W56 k56_12 Q) Q) .normal e w := fun e w h => then_N (s56_12 hR e w h)
  refine seA ?_
  exact rgA 15 (fun e w => m56_16 R (e 2) (e 4) (e 5) (e 7) (e 67) w) h fun e w h => then_N (s56_16 hN e w h)
theorem s56_17 (hN : ∀ e w, (m56_11 R (e 2) (e 4) (e 5) (e 7) w) → Q .normal e w) (e : Env) (w : World) (h : m56_17 R (e 2) (e 4) (e 5) (e 7) (e 61) w) : W56 k56_17 Q e w := by
  refine coA (Operand.tmp 61) h (fun h1 => ?_) (fun h1 => ?_)
  · exact rgA 14 (fun e w => m56_11 R (e 2) (e 4) (e 5) (e 7) w) h1 hN
  · exact skA (hN _ _ h1)
theorem s56_10 (hR : hR56 R Q) (e : Env) (w : World) (h : m56_10 R (e 2) (e 4) (e 5) (e 7) w) : W56 k56_10 Q e w := by
  refine seA ?_
  have hN : ∀ e w, (m56_11 R (e 2) (e 4) (e 5) (e 7) w) → (thenE (W56 k56_11 Q) Q) .normal e w := fun e w h => then_N (s56_11 hR e w h)
  refine seA ?_
  exact rgA 13 (fun e w => m56_17 R (e 2) (e 4) (e 5) (e 7) (e 61) w) h fun e w h => then_N (s56_17 hN e w h)
theorem s56_18 (hN : ∀ e w, (m56_10 R (e 2) (e 4) (e 5) (e 7) w) → Q .normal e w) (e : Env) (w : World) (h : m56_18 R (e 2) (e 4) (e 5) (e 7) (e 55) w) : W56 k56_18 Q e w := by
  refine coA (Operand.tmp 55) h (fun h1 => ?_) (fun h1 => ?_)
  · exact rgA 12 (fun e w => m56_10 R (e 2) (e 4) (e 5) (e 7) w) h1 hN
  · exact skA (hN _ _ h1)
theorem s56_9 (hR : hR56 R Q) (e : Env) (w : World) (h : m56_9 R (e 2) (e 4) (e 5) (e 7) w) : W56 k56_9 Q e w := by
  refine seA ?_
  have hN : ∀ e w, (m56_10 R (e 2) (e 4) (e 5) (e 7) w) → (thenE (W56 k56_10 Q) Q) .normal e w := fun e w h => then_N (s56_10 hR e w h)
  refine seA ?_
  exact rgA 11 (fun e w => m56_18 R (e 2) (e 4) (e 5) (e 7) (e 55) w) h fun e w h => then_N (s56_18 hN e w h)
theorem s56_8 (hR : hR56 R Q) (e : Env) (w : World) (h : m56_8 R (e 1) (e 2) (e 4) (e 5) w) : W56 k56_8 Q e w := by
  refine seA ?_
  exact rgA 10 (fun e w => m56_9 R (e 2) (e 4) (e 5) (e 7) w) h fun e w h => then_N (s56_9 hR e w h)
theorem s56_7 (hR : hR56 R Q) (e : Env) (w : World) (h : m56_7 R (e 1) (e 2) (e 4) (e 5) (e 6) w) : W56 k56_7 Q e w := by
  refine seA ?_
  exact rgA 9 (fun e w => m56_8 R (e 1) (e 2) (e 4) (e 5) w) h fun e w h => then_N (s56_8 hR e w h)
theorem s56_6 (hR : hR56 R Q) (e : Env) (w : World) (h : m56_6 R (e 1) (e 2) (e 4) (e 5) w) : W56 k56_6 Q e w := by
  refine seA ?_
  exact rgA 8 (fun e w => m56_7 R (e 1) (e 2) (e 4) (e 5) (e 6) w) h fun e w h => then_N (s56_7 hR e w h)
theorem s56_5 (hR : hR56 R Q) (e : Env) (w : World) (h : m56_5 R (e 1) (e 2) (e 4) (e 5) w) : W56 k56_5 Q e w := by
  refine seA ?_
  exact rgA 7 (fun e w => m56_6 R (e 1) (e 2) (e 4) (e 5) w) h fun e w h => then_N (s56_6 hR e w h)
theorem s56_4 (hR : hR56 R Q) (e : Env) (w : World) (h : m56_4 R (e 1) (e 2) (e 4) (e 5) w) : W56 k56_4 Q e w := by
  refine seA ?_
  exact rgA 6 (fun e w => m56_5 R (e 1) (e 2) (e 4) (e 5) w) h fun e w h => then_N (s56_5 hR e w h)
theorem s56_19 (hN : ∀ e w, (m56_4 R (e 1) (e 2) (e 4) (e 5) w) → Q .normal e w) (e : Env) (w : World) (h : m56_19 R (e 1) (e 2) (e 4) (e 5) (e 28) w) : W56 k56_19 Q e w := by
  refine coA (Operand.tmp 28) h (fun h1 => ?_) (fun h1 => ?_)
  · exact rgA 5 (fun e w => m56_4 R (e 1) (e 2) (e 4) (e 5) w) h1 hN
  · exact skA (hN _ _ h1)
theorem s56_3 (hR : hR56 R Q) (e : Env) (w : World) (h : m56_3 R (e 1) (e 2) (e 4) (e 5) w) : W56 k56_3 Q e w := by
  refine seA ?_
  have hN : ∀ e w, (m56_4 R (e 1) (e 2) (e 4) (e 5) w) → (thenE (W56 k56_4 Q) Q) .normal e w := fun e w h => then_N (s56_4 hR e w h)
  refine seA ?_
  exact rgA 4 (fun e w => m56_19 R (e 1) (e 2) (e 4) (e 5) (e 28) w) h fun e w h => then_N (s56_19 hN e w h)
theorem s56_20 (hN : ∀ e w, (m56_3 R (e 1) (e 2) (e 4) (e 5) w) → Q .normal e w) (e : Env) (w : World) (h : m56_20 R (e 1) (e 2) (e 4) (e 5) (e 17) w) : W56 k56_20 Q e w := by
  refine coA (Operand.tmp 17) h (fun h1 => ?_) (fun h1 => ?_)
  · exact rgA 3 (fun e w => m56_3 R (e 1) (e 2) (e 4) (e 5) w) h1 hN
  · exact skA (hN _ _ h1)
theorem s56_2 (hR : hR56 R Q) (e : Env) (w : World) (h : m56_2 R (e 1) (e 2) (e 4) (e 5) w) : W56 k56_2 Q e w := by
  refine seA ?_
  have hN : ∀ e w, (m56_3 R (e 1) (e 2) (e 4) (e 5) w) → (thenE (W56 k56_3 Q) Q) .normal e w := fun e w h => then_N (s56_3 hR e w h)
  refine seA ?_
  exact rgA 2 (fun e w => m56_20 R (e 1) (e 2) (e 4) (e 5) (e 17) w) h fun e w h => then_N (s56_20 hN e w h)
theorem s56_1 (hR : hR56 R Q) (e : Env) (w : World) (h : m56_1 R (e 1) (e 2) (e 4) w) : W56 k56_1 Q e w := by
  refine seA ?_
  exact rgA 1 (fun e w => m56_2 R (e 1) (e 2) (e 4) (e 5) w) h fun e w h => then_N (s56_2 hR e w h)
theorem s56_0 (hR : hR56 R Q) (e : Env) (w : World) (h : m56_0 R (e 0) (e 1) w) : W56 k56_0 Q e w := by
  refine seA ?_
  exact rgA 0 (fun e w => m56_1 R (e 1) (e 2) (e 4) w) h fun e w h => then_N (s56_1 hR e w h)
abbrev m56 (R : VP) (a0 v1 : Value) (w : World) : Prop := m56_0 R a0 v1 w
theorem s56 (a0 v1 : Value) {R : VP} {w : World} (h : m56 R a0 v1 w) :
    Calls Try.prog 56 #[a0, v1] w fun e w' => ∃ v, e = .returned v ∧ R v w' :=
  calls_of_cwp (st := (fun i => 0)) (c := k56_0) (by kernel_rfl) Try.func56 (by kernel_rfl) (Nat.le_of_ble_eq_true (by kernel_rfl)) (by kernel_rfl)
    (s56_0 (R := R) (Q := endE Try.prog Try.f56 R) (fun e w h => kcast (by kernel_rfl) h) (argsE #[a0, v1]) w (kcast (by kernel_rfl) h))
def m30_23 (R : VP) (t2 : Value) (w : World) : Prop :=
  R t2 w
def m30_20 (R : VP) (K1 : (Value × Value) → World → Prop) (t2 : Value) (w : World) : Prop :=
  R t2 w
def m30_17 (R : VP) (K1 : (Value × Value) → World → Prop) (a1 n3 k4 : Value) (w : World) : Prop :=
  valP Try.prog (binS BinOp.add 3 (tm 24) (ci 1) k4 (vi 1)) w fun t25 w =>
  K1 (n3, t25) w
def m30_18 (R : VP) (K1 : (Value × Value) → World → Prop) (a1 n3 k4 : Value) (w : World) : Prop :=
  valP Try.prog (Instr.fieldAt 65 a1 4) w fun t40 w =>
  valP Try.prog (Instr.indexAt 63 t40 k4) w fun t41 w =>
  valP Try.prog (Instr.loadAt 3 t41) w fun t42 w =>
  valP Try.prog (binS BinOp.add 3 (tm 38) (tm 42) n3 t42) w fun t43 w =>
  m30_17 R K1 a1 t43 k4 w
def m30_19 (R : VP) (K1 : (Value × Value) → World → Prop) (a1 n3 k4 t37 : Value) (w : World) : Prop :=
  condP t37
  (m30_20 R K1 (Value.bool false) w)
  (m30_18 R K1 a1 n3 k4 w)
def m30_16 (R : VP) (K1 : (Value × Value) → World → Prop) (a1 n3 k4 : Value) (w : World) : Prop :=
  valP Try.prog (Instr.fieldAt 65 a1 4) w fun t27 w =>
  valP Try.prog (Instr.indexAt 63 t27 k4) w fun t28 w =>
  valP Try.prog (Instr.loadAt 3 t28) w fun t29 w =>
  valP Try.prog (binS BinOp.lss 3 (tm 29) (ci 0) t29 (vi 0)) w fun t30 w =>
  condP t30
  (pickP t30 (Value.bool true) undef fun t37 =>
  m30_19 R K1 a1 n3 k4 t37 w)
  (valP Try.prog (Instr.fieldAt 65 a1 4) w fun t33 w =>
  valP Try.prog (Instr.indexAt 63 t33 k4) w fun t34 w =>
  valP Try.prog (Instr.loadAt 3 t34) w fun t35 w =>
  valP Try.prog (binS BinOp.gtr 3 (tm 35) (ci 1099511627776) t35 (vi 1099511627776)) w fun t36 w =>
  pickP t30 (Value.bool true) t36 fun t37 =>
  m30_19 R K1 a1 n3 k4 t37 w)
def m30_13 (R : VP) (t2 : Value) (w : World) : Prop :=
  R t2 w
def m30_9 (R : VP) (t2 : Value) (w : World) : Prop :=
  R t2 w
def m30_8 (R : VP) (a1 x5 y6 : Value) (w : World) : Prop :=
  valP Try.prog (binS BinOp.add 3 (tm 80) (tm 81) x5 y6) w fun t82 w =>
  valP Try.prog (Instr.fieldAt 65 a1 0) w fun t83 w =>
  valP Try.prog (Instr.loadAt 3 t83) w fun t84 w =>
  valP Try.prog (binS BinOp.leq 3 (tm 82) (tm 84) t82 t84) w fun t85 w =>
  m30_9 R t85 w
def m30_10 (R : VP) (a1 x5 y6 t77 : Value) (w : World) : Prop :=
  condP t77
  (valP Try.prog (Op.unary UnOp.neg y6) w fun t79 w =>
  m30_8 R a1 x5 t79 w)
  (m30_8 R a1 x5 y6 w)
def m30_7 (R : VP) (a1 x5 y6 : Value) (w : World) : Prop :=
  valP Try.prog (binS BinOp.lss 3 (tm 76) (ci 0) y6 (vi 0)) w fun t77 w =>
  m30_10 R a1 x5 y6 t77 w
def m30_11 (R : VP) (a1 x5 y6 t73 : Value) (w : World) : Prop :=
  condP t73
  (valP Try.prog (Op.unary UnOp.neg x5) w fun t75 w =>
  m30_7 R a1 t75 y6 w)
  (m30_7 R a1 x5 y6 w)
def m30_6 (R : VP) (a1 x5 y6 : Value) (w : World) : Prop :=
  valP Try.prog (binS BinOp.lss 3 (tm 72) (ci 0) x5 (vi 0)) w fun t73 w =>
  m30_11 R a1 x5 y6 t73 w
def m30_5 (R : VP) (a1 : Value) (w : World) : Prop :=
  valQ Try.prog (Instr.fieldAt 65 a1 5) w fun t68 =>
  valQ Try.prog (Instr.loadAt 3 t68) w fun t69 =>
  valQ Try.prog (Instr.fieldAt 65 a1 6) w fun t70 =>
  valQ Try.prog (Instr.loadAt 3 t70) w fun t71 =>
  anyDraw w fun w =>
  m30_6 R a1 t69 t71 w
def m30_12 (R : VP) (a1 t67 : Value) (w : World) : Prop :=
  condP t67
  (m30_13 R (Value.bool false) w)
  (m30_5 R a1 w)
def m30_4 (R : VP) (a1 n3 : Value) (w : World) : Prop :=
  valP Try.prog (Instr.fieldAt 65 a1 0) w fun t45 w =>
  valP Try.prog (Instr.loadAt 3 t45) w fun t46 w =>
  valP Try.prog (binS BinOp.neq 3 (tm 44) (tm 46) n3 t46) w fun t47 w =>
  condP t47
  (pickP t47 (Value.bool true) undef fun t52 =>
  pickP t52 (Value.bool true) undef fun t57 =>
  pickP t57 (Value.bool true) undef fun t62 =>
  pickP t62 (Value.bool true) undef fun t67 =>
  m30_12 R a1 t67 w)
  (valP Try.prog (Instr.fieldAt 65 a1 5) w fun t49 w =>
  valP Try.prog (Instr.loadAt 3 t49) w fun t50 w =>
  valP Try.prog (binS BinOp.lss 3 (tm 50) (ci (-1099511627776)) t50 (vi (-1099511627776))) w fun t51 w =>
  pickP t47 (Value.bool true) t51 fun t52 =>
  condP t52
  (pickP t52 (Value.bool true) undef fun t57 =>
  pickP t57 (Value.bool true) undef fun t62 =>
  pickP t62 (Value.bool true) undef fun t67 =>
  m30_12 R a1 t67 w)
  (valP Try.prog (Instr.fieldAt 65 a1 5) w fun t54 w =>
  valP Try.prog (Instr.loadAt 3 t54) w fun t55 w =>
  valP Try.prog (binS BinOp.gtr 3 (tm 55) (ci 1099511627776) t55 (vi 1099511627776)) w fun t56 w =>
  pickP t52 (Value.bool true) t56 fun t57 =>
  condP t57
  (pickP t57 (Value.bool true) undef fun t62 =>
  pickP t62 (Value.bool true) undef fun t67 =>
  m30_12 R a1 t67 w)
  (valP Try.prog (Instr.fieldAt 65 a1 6) w fun t59 w =>
  valP Try.prog (Instr.loadAt 3 t59) w fun t60 w =>
  valP Try.prog (binS BinOp.lss 3 (tm 60) (ci (-1099511627776)) t60 (vi (-1099511627776))) w fun t61 w =>
  pickP t57 (Value.bool true) t61 fun t62 =>
  condP t62
  (pickP t62 (Value.bool true) undef fun t67 =>
  m30_12 R a1 t67 w)
  (valP Try.prog (Instr.fieldAt 65 a1 6) w fun t64 w =>
  valP Try.prog (Instr.loadAt 3 t64) w fun t65 w =>
  valP Try.prog (binS BinOp.gtr 3 (tm 65) (ci 1099511627776) t65 (vi 1099511627776)) w fun t66 w =>
  pickP t62 (Value.bool true) t66 fun t67 =>
  m30_12 R a1 t67 w))))
def m30_21 (R : VP) (K1 : (Value × Value) → World → Prop) (a1 n3 k4 t23 : Value) (w : World) : Prop :=
  condP t23
  (m30_16 R K1 a1 n3 k4 w)
  (m30_4 R a1 n3 w)
def m30_15 (R : VP) (K1 : (Value × Value) → World → Prop) (a1 n3 k4 : Value) (w : World) : Prop :=
  valP Try.prog (binS BinOp.lss 3 (tm 22) (ci 4) k4 (vi 4)) w fun t23 w =>
  m30_21 R K1 a1 n3 k4 t23 w
def m30_14 (R : VP) (a1 n3 k4 : Value) (w : World) : Prop :=
  loopP (fun (K1 : (Value × Value) → World → Prop) (s : Value × Value) w => m30_15 R K1 a1 s.1 s.2 w) (n3, k4) w
def m30_3 (R : VP) (a1 n3 : Value) (w : World) : Prop :=
  m30_14 R a1 n3 (vi 0) w
def m30_2 (R : VP) (a1 : Value) (w : World) : Prop :=
  m30_3 R a1 (vi 0) w
def m30_22 (R : VP) (a1 t21 : Value) (w : World) : Prop :=
  condP t21
  (m30_23 R (Value.bool false) w)
  (m30_2 R a1 w)
def m30_1 (R : VP) (a1 : Value) (w : World) : Prop :=
  valP Try.prog (Instr.fieldAt 65 a1 0) w fun t7 w =>
  valP Try.prog (Instr.loadAt 3 t7) w fun t8 w =>
  valP Try.prog (binS BinOp.lss 3 (tm 8) (ci 1) t8 (vi 1)) w fun t9 w =>
  condP t9
  (pickP t9 (Value.bool true) undef fun t14 =>
  condP t14
  (pickP t14 (Value.bool true) undef fun t21 =>
  m30_22 R a1 t21 w)
  (valP Try.prog (Instr.fieldAt 65 a1 2) w fun t16 w =>
  valP Try.prog (Instr.loadAt 3 t16) w fun t17 w =>
  valP Try.prog (Instr.fieldAt 65 a1 3) w fun t18 w =>
  valP Try.prog (Instr.loadAt 3 t18) w fun t19 w =>
  valP Try.prog (binS BinOp.gtr 3 (tm 17) (tm 19) t17 t19) w fun t20 w =>
  pickP t14 (Value.bool true) t20 fun t21 =>
  m30_22 R a1 t21 w))
  (valP Try.prog (Instr.fieldAt 65 a1 0) w fun t11 w =>
  valP Try.prog (Instr.loadAt 3 t11) w fun t12 w =>
  valP Try.prog (binS BinOp.gtr 3 (tm 12) (ci 1099511627776) t12 (vi 1099511627776)) w fun t13 w =>
  pickP t9 (Value.bool true) t13 fun t14 =>
  condP t14
  (pickP t14 (Value.bool true) undef fun t21 =>
  m30_22 R a1 t21 w)
  (valP Try.prog (Instr.fieldAt 65 a1 2) w fun t16 w =>
  valP Try.prog (Instr.loadAt 3 t16) w fun t17 w =>
  valP Try.prog (Instr.fieldAt 65 a1 3) w fun t18 w =>
  valP Try.prog (Instr.loadAt 3 t18) w fun t19 w =>
  valP Try.prog (binS BinOp.gtr 3 (tm 17) (tm 19) t17 t19) w fun t20 w =>
  pickP t14 (Value.bool true) t20 fun t21 =>
  m30_22 R a1 t21 w))
def m30_0 (R : VP) (a0 : Value) (w : World) : Prop :=
  valP Try.prog (Instr.box 65 a0) w fun a1 w =>
  m30_1 R a1 w
abbrev W30 := cwp Try.prog (fun i => cond (Nat.beq i 12) 1 (0))
noncomputable def k30_0 := bodyOf Try.f30
noncomputable def k30_1 := c2 k30_0
noncomputable def k30_2 := c2 k30_1
noncomputable def k30_3 := c2 k30_2
noncomputable def k30_4 := c2 k30_3
noncomputable def k30_5 := c2 k30_4
noncomputable def k30_6 := c2 k30_5
noncomputable def k30_7 := c2 k30_6
noncomputable def k30_8 := c2 k30_7
noncomputable def k30_9 := c2 k30_8
noncomputable def k30_10 := c2 (c1 k30_7)
noncomputable def k30_11 := c2 (c1 k30_6)
noncomputable def k30_12 := c2 (c1 k30_4)
noncomputable def k30_13 := c2 (c1 k30_12)
noncomputable def k30_14 := c2 (c1 k30_3)
noncomputable def k30_15 := c1 (c1 k30_14)
noncomputable def k30_16 := c2 k30_15
noncomputable def k30_17 := c2 k30_16
noncomputable def k30_18 := c2 (c1 (c1 k30_16))
noncomputable def k30_19 := c2 (c1 (c1 (c1 k30_16)))
noncomputable def k30_20 := c2 (c1 k30_19)
noncomputable def k30_21 := c2 (c1 k30_15)
noncomputable def k30_22 := c2 (c1 k30_1)
noncomputable def k30_23 := c2 (c1 k30_22)
abbrev hR30 (R : VP) (Q : EQ) : Prop := ∀ e w, (R (e 2) w) → Q .ret e w
theorem s30_23 (hR : hR30 R Q) (e : Env) (w : World) (h : m30_23 R (e 2) w) : W30 k30_23 Q e w := by
  exact reA (hR _ _ h)
theorem s30_20 {K1 : (Value × Value) → World → Prop} (hR : hR30 R Q) (e : Env) (w : World) (h : m30_20 R K1 (e 2) w) : W30 k30_20 Q e w := by
  exact reA (hR _ _ h)
theorem s30_17 {K1 : (Value × Value) → World → Prop} (hN : ∀ e w, (K1 ((e 3), (e 4)) w) → Q .normal e w) (e : Env) (w : World) (h : m30_17 R K1 (e 1) (e 3) (e 4) w) : W30 k30_17 Q e w := by
  exact rgA 6 (fun e w => K1 ((e 3), (e 4)) w) h hN
theorem s30_18 {K1 : (Value × Value) → World → Prop} (hN : ∀ e w, (m30_17 R K1 (e 1) (e 3) (e 4) w) → Q .normal e w) (e : Env) (w : World) (h : m30_18 R K1 (e 1) (e 3) (e 4) w) : W30 k30_18 Q e w := by
  exact rgA 9 (fun e w => m30_17 R K1 (e 1) (e 3) (e 4) w) h hN
theorem s30_19 {K1 : (Value × Value) → World → Prop} (hN : ∀ e w, (m30_18 R K1 (e 1) (e 3) (e 4) w) → Q .normal e w) (hR : hR30 R Q) (e : Env) (w : World) (h : m30_19 R K1 (e 1) (e 3) (e 4) (e 37) w) : W30 k30_19 Q e w := by
  refine coA (Operand.tmp 37) h (fun h1 => ?_) (fun h1 => ?_)
  · refine seA ?_
    exact rgA 8 (fun e w => m30_20 R K1 (e 2) w) h1 fun e w h => then_N (s30_20 hR e w h)
  · exact skA (hN _ _ h1)
theorem s30_16 {K1 : (Value × Value) → World → Prop} (hN : ∀ e w, (K1 ((e 3), (e 4)) w) → Q .normal e w) (hR : hR30 R Q) (e : Env) (w : World) (h : m30_16 R K1 (e 1) (e 3) (e 4) w) : W30 k30_16 Q e w := by
  refine seA ?_
  have hN : ∀ e w, (m30_17 R K1 (e 1) (e 3) (e 4) w) → (thenE (W30 k30_17 Q) Q) .normal e w := fun e w h => then_N (s30_17 hN e w h)
  have hR : hR30 R (thenE (W30 k30_17 Q) Q) := fun e w h => then_R (hR e w h)
  refine block_ok 1 (by kernel_rfl) ?_
  have hN : ∀ e w, (m30_17 R K1 (e 1) (e 3) (e 4) w) → (inBlockE 1 (thenE (W30 k30_17 Q) Q)) .normal e w := fun e w h => block_N (hN e w h)
  have hR : hR30 R (inBlockE 1 (thenE (W30 k30_17 Q) Q)) := fun e w h => block_R (hR e w h)
  refine seA ?_
  have hN : ∀ e w, (m30_18 R K1 (e 1) (e 3) (e 4) w) → (thenE (W30 k30_18 (inBlockE 1 (thenE (W30 k30_17 Q) Q))) (inBlockE 1 (thenE (W30 k30_17 Q) Q))) .normal e w := fun e w h => then_N (s30_18 (R := R) (Q := (inBlockE 1 (thenE (W30 k30_17 Q) Q))) hN e w h)
  have hR : hR30 R (thenE (W30 k30_18 (inBlockE 1 (thenE (W30 k30_17 Q) Q))) (inBlockE 1 (thenE (W30 k30_17 Q) Q))) := fun e w h => then_R (hR e w h)
  refine seA ?_
  exact rgA 7 (fun e w => m30_19 R K1 (e 1) (e 3) (e 4) (e 37) w) h fun e w h => then_N (s30_19 hN hR e w h)
theorem s30_13 (hR : hR30 R Q) (e : Env) (w : World) (h : m30_13 R (e 2) w) : W30 k30_13 Q e w := by
  exact reA (hR _ _ h)
theorem s30_9 (hR : hR30 R Q) (e : Env) (w : World) (h : m30_9 R (e 2) w) : W30 k30_9 Q e w := by
  exact reA (hR _ _ h)
theorem s30_8 (hR : hR30 R Q) (e : Env) (w : World) (h : m30_8 R (e 1) (e 5) (e 6) w) : W30 k30_8 Q e w := by
  refine seA ?_
  exact rgA 17 (fun e w => m30_9 R (e 2) w) h fun e w h => then_N (s30_9 hR e w h)
theorem s30_10 (hN : ∀ e w, (m30_8 R (e 1) (e 5) (e 6) w) → Q .normal e w) (e : Env) (w : World) (h : m30_10 R (e 1) (e 5) (e 6) (e 77) w) : W30 k30_10 Q e w := by
  refine coA (Operand.tmp 77) h (fun h1 => ?_) (fun h1 => ?_)
  · exact rgA 16 (fun e w => m30_8 R (e 1) (e 5) (e 6) w) h1 hN
  · exact skA (hN _ _ h1)
theorem s30_7 (hR : hR30 R Q) (e : Env) (w : World) (h : m30_7 R (e 1) (e 5) (e 6) w) : W30 k30_7 Q e w := by
  refine seA ?_
  have hN : ∀ e w, (m30_8 R (e 1) (e 5) (e 6) w) → (thenE (W30 k30_8 Q) Q) .normal e w := fun e w h => then_N (s30_8 hR e w h)
  refine seA ?_
  exact rgA 15 (fun e w => m30_10 R (e 1) (e 5) (e 6) (e 77) w) h fun e w h => then_N (s30_10 hN e w h)
theorem s30_11 (hN : ∀ e w, (m30_7 R (e 1) (e 5) (e 6) w) → Q .normal e w) (e : Env) (w : World) (h : m30_11 R (e 1) (e 5) (e 6) (e 73) w) : W30 k30_11 Q e w := by
  refine coA (Operand.tmp 73) h (fun h1 => ?_) (fun h1 => ?_)
  · exact rgA 14 (fun e w => m30_7 R (e 1) (e 5) (e 6) w) h1 hN
  · exact skA (hN _ _ h1)
theorem s30_6 (hR : hR30 R Q) (e : Env) (w : World) (h : m30_6 R (e 1) (e 5) (e 6) w) : W30 k30_6 Q e w := by
  refine seA ?_
  have hN : ∀ e w, (m30_7 R (e 1) (e 5) (e 6) w) → (thenE (W30 k30_7 Q) Q) .normal e w := fun e w h => then_N (s30_7 hR e w h)
  refine seA ?_
  exact rgA 13 (fun e w => m30_11 R (e 1) (e 5) (e 6) (e 73) w) h fun e w h => then_N (s30_11 hN e w h)
theorem s30_5 (hR : hR30 R Q) (e : Env) (w : World) (h : m30_5 R (e 1) w) : W30 k30_5 Q e w := by
  refine seA ?_
  have hN : ∀ e w, (m30_6 R (e 1) (e 5) (e 6) w) → (thenE (W30 k30_6 Q) Q) .normal e w := fun e w h => then_N (s30_6 hR e w h)
  exact quA 12 (fun e w => m30_6 R (e 1) (e 5) (e 6) w) h hN
theorem s30_12 (hN : ∀ e w, (m30_5 R (e 1) w) → Q .normal e w) (hR : hR30 R Q) (e : Env) (w : World) (h : m30_12 R (e 1) (e 67) w) : W30 k30_12 Q e w := by
  refine coA (Operand.tmp 67) h (fun h1 => ?_) (fun h1 => ?_)
  · refine seA ?_
    exact rgA 11 (fun e w => m30_13 R (e 2) w) h1 fun e w h => then_N (s30_13 hR e w h)
  · exact skA (hN _ _ h1)
theorem s30_4 (hR : hR30 R Q) (e : Env) (w : World) (h : m30_4 R (e 1) (e 3) w) : W30 k30_4 Q e w := by
  refine seA ?_
  have hN : ∀ e w, (m30_5 R (e 1) w) → (thenE (W30 k30_5 Q) Q) .normal e w := fun e w h => then_N (s30_5 hR e w h)
  have hR : hR30 R (thenE (W30 k30_5 Q) Q) := fun e w h => then_R (hR e w h)
  refine seA ?_
  have hN : ∀ e w, (m30_12 R (e 1) (e 67) w) → (thenE (W30 k30_12 (thenE (W30 k30_5 Q) Q)) (thenE (W30 k30_5 Q) Q)) .normal e w := fun e w h => then_N (s30_12 hN hR e w h)
  exact rgK 10 (fun e w => m30_12 R (e 1) (e 67) w) h hN
theorem s30_21 {K1 : (Value × Value) → World → Prop} (hN : ∀ e w, (m30_16 R K1 (e 1) (e 3) (e 4) w) → Q .normal e w) (hX0 : ∀ e w, (m30_4 R (e 1) (e 3) w) → Q (.exit 0) e w) (e : Env) (w : World) (h : m30_21 R K1 (e 1) (e 3) (e 4) (e 23) w) : W30 k30_21 Q e w := by
  refine coA (Operand.tmp 23) h (fun h1 => ?_) (fun h1 => ?_)
  · exact skA (hN _ _ h1)
  · exact exA 0 (hX0 _ _ h1)
theorem s30_15 {K1 : (Value × Value) → World → Prop} (hN : ∀ e w, (K1 ((e 3), (e 4)) w) → Q .normal e w) (hR : hR30 R Q) (hX0 : ∀ e w, (m30_4 R (e 1) (e 3) w) → Q (.exit 0) e w) (e : Env) (w : World) (h : m30_15 R K1 (e 1) (e 3) (e 4) w) : W30 k30_15 Q e w := by
  refine seA ?_
  have hN : ∀ e w, (m30_16 R K1 (e 1) (e 3) (e 4) w) → (thenE (W30 k30_16 Q) Q) .normal e w := fun e w h => then_N (s30_16 hN hR e w h)
  have hX0 : ∀ e w, (m30_4 R (e 1) (e 3) w) → (thenE (W30 k30_16 Q) Q) (.exit 0) e w := fun e w h => then_X (hX0 e w h)
  refine seA ?_
  exact rgA 5 (fun e w => m30_21 R K1 (e 1) (e 3) (e 4) (e 23) w) h fun e w h => then_N (s30_21 hN hX0 e w h)
theorem s30_14 (hN : ∀ e w, (m30_4 R (e 1) (e 3) w) → Q .normal e w) (hR : hR30 R Q) (e : Env) (w : World) (h : m30_14 R (e 1) (e 3) (e 4) w) : W30 k30_14 Q e w := by
  refine block_ok 0 (by kernel_rfl) ?_
  have hX0 : ∀ e w, (m30_4 R (e 1) (e 3) w) → (inBlockE 0 Q) (.exit 0) e w := fun e w h => inBlock_same (Q := Q) 0 (hN e w h)
  have hR : hR30 R (inBlockE 0 Q) := fun e w h => block_R (hR e w h)
  refine loop_ok' (fun (e : Env) => (e 3, e 4)) [1] (by kernel_rfl) (by kernel_rfl) h (fun K e' w' hk h' => ?_)
  have r1 : e' 1 = e 1 := hk 1 (by decide)
  have hR : hR30 R (thenE (fun (e : Env) w => K ((e 3), (e 4)) w) (inBlockE 0 Q)) := fun e w h => then_R (hR e w h)
  have hX0 : ∀ e w, (m30_4 R (e 1) (e 3) w) → (thenE (fun (e : Env) w => K ((e 3), (e 4)) w) (inBlockE 0 Q)) (.exit 0) e w := fun e w h => then_X (hX0 e w h)
  exact s30_15 (K1 := K) (fun _ _ h => then_N h) hR hX0 e' w' (by rw [r1]; exact h')
theorem s30_3 (hR : hR30 R Q) (e : Env) (w : World) (h : m30_3 R (e 1) (e 3) w) : W30 k30_3 Q e w := by
  refine seA ?_
  have hN : ∀ e w, (m30_4 R (e 1) (e 3) w) → (thenE (W30 k30_4 Q) Q) .normal e w := fun e w h => then_N (s30_4 hR e w h)
  have hR : hR30 R (thenE (W30 k30_4 Q) Q) := fun e w h => then_R (hR e w h)
  refine seA ?_
  exact rgA 4 (fun e w => m30_14 R (e 1) (e 3) (e 4) w) h fun e w h => then_N (s30_14 hN hR e w h)
theorem s30_2 (hR : hR30 R Q) (e : Env) (w : World) (h : m30_2 R (e 1) w) : W30 k30_2 Q e w := by
  refine seA ?_
  exact rgA 3 (fun e w => m30_3 R (e 1) (e 3) w) h fun e w h => then_N (s30_3 hR e w h)
theorem s30_22 (hN : ∀ e w, (m30_2 R (e 1) w) → Q .normal e w) (hR : hR30 R Q) (e : Env) (w : World) (h : m30_22 R (e 1) (e 21) w) : W30 k30_22 Q e w := by
  refine coA (Operand.tmp 21) h (fun h1 => ?_) (fun h1 => ?_)
  · refine seA ?_
    exact rgA 2 (fun e w => m30_23 R (e 2) w) h1 fun e w h => then_N (s30_23 hR e w h)
  · exact skA (hN _ _ h1)
theorem s30_1 (hR : hR30 R Q) (e : Env) (w : World) (h : m30_1 R (e 1) w) : W30 k30_1 Q e w := by
  refine seA ?_
  have hN : ∀ e w, (m30_2 R (e 1) w) → (thenE (W30 k30_2 Q) Q) .normal e w := fun e w h => then_N (s30_2 hR e w h)
  have hR : hR30 R (thenE (W30 k30_2 Q) Q) := fun e w h => then_R (hR e w h)
  refine seA ?_
  exact rgA 1 (fun e w => m30_22 R (e 1) (e 21) w) h fun e w h => then_N (s30_22 hN hR e w h)
theorem s30_0 (hR : hR30 R Q) (e : Env) (w : World) (h : m30_0 R (e 0) w) : W30 k30_0 Q e w := by
  refine seA ?_
  exact rgA 0 (fun e w => m30_1 R (e 1) w) h fun e w h => then_N (s30_1 hR e w h)
abbrev m30 (R : VP) (a0 : Value) (w : World) : Prop := m30_0 R a0 w
theorem s30 (a0 : Value) {R : VP} {w : World} (h : m30 R a0 w) :
    Calls Try.prog 30 #[a0] w fun e w' => ∃ v, e = .returned v ∧ R v w' :=
  calls_of_cwp (st := (fun i => cond (Nat.beq i 12) 1 (0))) (c := k30_0) (by kernel_rfl) Try.func30 (by kernel_rfl) (Nat.le_of_ble_eq_true (by kernel_rfl)) (by kernel_rfl)
    (s30_0 (R := R) (Q := endE Try.prog Try.f30 R) (fun e w h => kcast (by kernel_rfl) h) (argsE #[a0]) w (kcast (by kernel_rfl) h))
def m47_5 (R : VP) (t2 t3 : Value) (w : World) : Prop :=
  R (Value.tuple #[t2, t3]) w
def m47_3 (R : VP) (t2 t3 : Value) (w : World) : Prop :=
  R (Value.tuple #[t2, t3]) w
def m47_2 (R : VP) (a1 : Value) (w : World) : Prop :=
  valP Try.prog (Instr.fieldAt 65 a1 0) w fun t7 w =>
  valP Try.prog (Instr.loadAt 3 t7) w fun t8 w =>
  valP Try.prog (Instr.fieldAt 65 a1 1) w fun t9 w =>
  valP Try.prog (Instr.loadAt 3 t9) w fun t10 w =>
  valP Try.prog (Instr.fieldAt 65 a1 2) w fun t11 w =>
  valP Try.prog (Instr.loadAt 3 t11) w fun t12 w =>
  valP Try.prog (Instr.fieldAt 65 a1 3) w fun t13 w =>
  valP Try.prog (Instr.loadAt 3 t13) w fun t14 w =>
  valP Try.prog (Instr.fieldAt 65 a1 4) w fun t15 w =>
  valP Try.prog (Instr.indexAt 63 t15 (vi 0)) w fun t16 w =>
  valP Try.prog (Instr.loadAt 3 t16) w fun t17 w =>
  valP Try.prog (Instr.fieldAt 65 a1 4) w fun t18 w =>
  valP Try.prog (Instr.indexAt 63 t18 (vi 1)) w fun t19 w =>
  valP Try.prog (Instr.loadAt 3 t19) w fun t20 w =>
  valP Try.prog (Instr.fieldAt 65 a1 4) w fun t21 w =>
  valP Try.prog (Instr.indexAt 63 t21 (vi 2)) w fun t22 w =>
  valP Try.prog (Instr.loadAt 3 t22) w fun t23 w =>
  valP Try.prog (Instr.fieldAt 65 a1 4) w fun t24 w =>
  valP Try.prog (Instr.indexAt 63 t24 (vi 3)) w fun t25 w =>
  valP Try.prog (Instr.loadAt 3 t25) w fun t26 w =>
  valP Try.prog (Instr.fieldAt 65 a1 5) w fun t27 w =>
  valP Try.prog (Instr.loadAt 3 t27) w fun t28 w =>
  valP Try.prog (Instr.fieldAt 65 a1 6) w fun t29 w =>
  valP Try.prog (Instr.loadAt 3 t29) w fun t30 w =>
  valP Try.prog (Instr.buildSlice 51 10 #[(0, t8), (1, t10), (2, t12), (3, t14), (4, t17), (5, t20), (6, t23), (7, t26), (8, t28), (9, t30)]) w fun t31 w =>
  callP Try.prog (fnV 16) #[t31] w fun t32 w =>
  m47_3 R t32 (vi 0) w
def m47_4 (R : VP) (a1 t6 : Value) (w : World) : Prop :=
  condP t6
  (m47_5 R (Value.string ⟨#[]⟩) (vi 1) w)
  (m47_2 R a1 w)
def m47_1 (R : VP) (a1 : Value) (w : World) : Prop :=
  valP Try.prog (Instr.loadAt 65 a1) w fun t4 w =>
  callP Try.prog (fnV 30) #[t4] w fun t5 w =>
  valP Try.prog (Op.unary UnOp.not t5) w fun t6 w =>
  m47_4 R a1 t6 w
def m47_0 (R : VP) (a0 : Value) (w : World) : Prop :=
  valP Try.prog (Instr.box 65 a0) w fun a1 w =>
  m47_1 R a1 w
abbrev W47 := cwp Try.prog (fun i => 0)
noncomputable def k47_0 := bodyOf Try.f47
noncomputable def k47_1 := c2 k47_0
noncomputable def k47_2 := c2 k47_1
noncomputable def k47_3 := c2 k47_2
noncomputable def k47_4 := c2 (c1 k47_1)
noncomputable def k47_5 := c2 (c1 k47_4)
abbrev hR47 (R : VP) (Q : EQ) : Prop := ∀ e w, (R (Value.tuple #[(e 2), (e 3)]) w) → Q .ret e w
theorem s47_5 (hR : hR47 R Q) (e : Env) (w : World) (h : m47_5 R (e 2) (e 3) w) : W47 k47_5 Q e w := by
  exact reA (hR _ _ h)
theorem s47_3 (hR : hR47 R Q) (e : Env) (w : World) (h : m47_3 R (e 2) (e 3) w) : W47 k47_3 Q e w := by
  exact reA (hR _ _ h)
theorem s47_2 (hR : hR47 R Q) (e : Env) (w : World) (h : m47_2 R (e 1) w) : W47 k47_2 Q e w := by
  refine seA ?_
  exact rgA 3 (fun e w => m47_3 R (e 2) (e 3) w) h fun e w h => then_N (s47_3 hR e w h)
theorem s47_4 (hN : ∀ e w, (m47_2 R (e 1) w) → Q .normal e w) (hR : hR47 R Q) (e : Env) (w : World) (h : m47_4 R (e 1) (e 6) w) : W47 k47_4 Q e w := by
  refine coA (Operand.tmp 6) h (fun h1 => ?_) (fun h1 => ?_)
  · refine seA ?_
    exact rgA 2 (fun e w => m47_5 R (e 2) (e 3) w) h1 fun e w h => then_N (s47_5 hR e w h)
  · exact skA (hN _ _ h1)
theorem s47_1 (hR : hR47 R Q) (e : Env) (w : World) (h : m47_1 R (e 1) w) : W47 k47_1 Q e w := by
  refine seA ?_
  have hN : ∀ e w, (m47_2 R (e 1) w) → (thenE (W47 k47_2 Q) Q) .normal e w := fun e w h => then_N (s47_2 hR e w h)
  have hR : hR47 R (thenE (W47 k47_2 Q) Q) := fun e w h => then_R (hR e w h)
  refine seA ?_
  exact rgA 1 (fun e w => m47_4 R (e 1) (e 6) w) h fun e w h => then_N (s47_4 hN hR e w h)
theorem s47_0 (hR : hR47 R Q) (e : Env) (w : World) (h : m47_0 R (e 0) w) : W47 k47_0 Q e w := by
  refine seA ?_
  exact rgA 0 (fun e w => m47_1 R (e 1) w) h fun e w h => then_N (s47_1 hR e w h)
abbrev m47 (R : VP) (a0 : Value) (w : World) : Prop := m47_0 R a0 w
theorem s47 (a0 : Value) {R : VP} {w : World} (h : m47 R a0 w) :
    Calls Try.prog 47 #[a0] w fun e w' => ∃ v, e = .returned v ∧ R v w' :=
  calls_of_cwp (st := (fun i => 0)) (c := k47_0) (by kernel_rfl) Try.func47 (by kernel_rfl) (Nat.le_of_ble_eq_true (by kernel_rfl)) (by kernel_rfl)
    (s47_0 (R := R) (Q := endE Try.prog Try.f47 R) (fun e w h => kcast (by kernel_rfl) h) (argsE #[a0]) w (kcast (by kernel_rfl) h))
end Go.Proofs.Ytnhgdngbdoifnaa.M
namespace Go.Proofs.Ytnhgdngbdoifnaa.M
open Go.Proofs.Ytnhgdngbdoifnaa.F Go.RowKit
set_option linter.unusedVariables false
set_option linter.unusedSimpArgs false
set_option maxRecDepth 100000
set_option maxHeartbeats 2000000
attribute [local irreducible] Res.cells Res.row Res.map Res.any World.cell? World.frozen? Instr.fieldAt Instr.loadAt Instr.storeAt Instr.indexAt Instr.lookup Instr.mapUpdate Instr.box Instr.build Instr.buildSlice Instr.extract Instr.alloc Instr.field Instr.index Instr.sliceAt Instr.makeSlice Instr.makeMap Instr.makeFunc binS Op.unary Sem.run
abbrev encAg (a : Ag) : List Value := [.int .i64 a.count, .int .i64 a.sum, .int .i64 a.mn, .int .i64 a.mx, .int .i64 a.h0, .int .i64 a.h1, .int .i64 a.h2, .int .i64 a.h3, .int .i64 a.re, .int .i64 a.im]
abbrev agv (a : Ag) : Value := .agg #[.int .i64 a.count, .int .i64 a.sum, .int .i64 a.mn, .int .i64 a.mx, .int .i64 a.h0, .int .i64 a.h1, .int .i64 a.h2, .int .i64 a.h3, .int .i64 a.re, .int .i64 a.im]
def zeroAg : Ag := ⟨0, 0, 0, 0, 0, 0, 0, 0, 0, 0⟩
theorem zeroAg_ok : AgOk zeroAg := fun x hx => by
  simp only [agI, zeroAg, List.mem_cons, List.not_mem_nil, or_false, or_self] at hx
  subst hx
  omega
theorem AgOk.upd {a b : Ag} (i : Nat) {v : Int} (h : AgOk a) (hv : I64 v) (e : agI b = (agI a).set i v) : AgOk b := fun x hx => by
  rw [e] at hx
  rcases List.mem_or_eq_of_mem_set hx with hx | rfl
  · exact h x hx
  · exact hv
def hk (a : Ag) : Nat → Int
  | 0 => a.h0
  | 1 => a.h1
  | 2 => a.h2
  | _ => a.h3
def hs (a : Ag) : Nat → Int
  | 0 => 0
  | n + 1 => hs a n + hk a n
def setH (a : Ag) (k : Nat) (y : Int) : Ag := match k with
  | 0 => { a with h0 := y }
  | 1 => { a with h1 := y }
  | 2 => { a with h2 := y }
  | _ => { a with h3 := y }
theorem four {k : Nat} (h : k < 4) : k = 0 ∨ k = 1 ∨ k = 2 ∨ k = 3 := by omega
theorem ag_at (a : Ag) {k : Nat} (h : k < 4) : (encAg a)[4 + k]? = some (.int .i64 (hk a k)) := by
  rcases four h with rfl | rfl | rfl | rfl <;> rfl
theorem ag_set (a : Ag) {k : Nat} (h : k < 4) (y : Int) : (encAg a).set (4 + k) (.int .i64 y) = encAg (setH a k y) := by
  rcases four h with rfl | rfl | rfl | rfl <;> rfl
theorem setH_ok {a : Ag} {k : Nat} (h : k < 4) {y : Int} (ha : AgOk a) (hy : I64 y) : AgOk (setH a k y) := by
  refine ha.upd (4 + k) hy ?_
  rcases four h with rfl | rfl | rfl | rfl <;> rfl
theorem hk_ok {a : Ag} (ha : AgOk a) {k : Nat} (h : k < 4) : I64 (hk a k) := by
  refine ha _ ?_
  rcases four h with rfl | rfl | rfl | rfl <;> simp [agI, hk]
section
variable {w0 w : World} {F : List Nat} {L : List Res}
theorem plus_ret {a b : Int} (ha : I64 a) (hb : I64 b) (hS : St w0 F w L) : Ret Try.prog 60 #[.int .i64 a, .int .i64 b] w fun v w' => (∃ x, v = .int .i64 x ∧ I64 x) ∧ St w0 F w' L := by
  refine s60 _ _ ?_
  unfold m60
  unfold m60_0
  have sum : ¬ (0 < b ∧ 9223372036854775807 - b < a) → ¬ (b < 0 ∧ a < -9223372036854775808 - b) → m60_3 (fun v w' => (∃ x, v = .int .i64 x ∧ I64 x) ∧ St w0 F w' L) (.int .i64 a) (.int .i64 b) w := fun h1 h2 => by
    unfold m60_3
    refine valP_ok (add_ok _ _ _ (by omega) (by omega) _) ?_
    unfold m60_4
    exact ⟨⟨_, rfl, by omega⟩, hS⟩
  have low : ¬ (0 < b ∧ 9223372036854775807 - b < a) → m60_2 (fun v w' => (∃ x, v = .int .i64 x ∧ I64 x) ∧ St w0 F w' L) (.int .i64 a) (.int .i64 b) w := fun h1 => by
    unfold m60_2
    refine valP_ok (lss_ok _ _ _ _ _ _ _) ?_
    refine cond_split (fun h => ?_) (fun h => ?_)
    · refine valP_ok (sub_ok _ _ _ (by omega) (by omega) _) ?_
      refine valP_ok (lss_ok _ _ _ _ _ _ _) ?_
      first | refine pick_dt (by first | assumption | omega) ?_ | refine pick_df (by first | assumption | omega) ?_ | refine pick_t (by first | rfl | assumption) ?_ | refine pick_f (by first | rfl | assumption) ?_ | refine pick_dt rfl ?_ | refine pick_df (not_not_intro rfl) ?_
      unfold m60_5
      refine cond_split (fun h2 => ?_) (fun h2 => ?_)
      · unfold m60_6
        exact ⟨⟨_, rfl, by omega⟩, hS⟩
      · exact sum h1 (fun h3 => h2 h3.2)
    · first | refine pick_dt (by first | assumption | omega) ?_ | refine pick_df (by first | assumption | omega) ?_ | refine pick_t (by first | rfl | assumption) ?_ | refine pick_f (by first | rfl | assumption) ?_ | refine pick_dt rfl ?_ | refine pick_df (not_not_intro rfl) ?_
      unfold m60_5
      refine cond_f rfl ?_
      exact sum h1 (fun h3 => h h3.1)
  unfold m60_1
  refine valP_ok (gtr_ok _ _ _ _ _ _ _) ?_
  refine cond_split (fun h => ?_) (fun h => ?_)
  · refine valP_ok (sub_ok _ _ _ (by omega) (by omega) _) ?_
    refine valP_ok (gtr_ok _ _ _ _ _ _ _) ?_
    first | refine pick_dt (by first | assumption | omega) ?_ | refine pick_df (by first | assumption | omega) ?_ | refine pick_t (by first | rfl | assumption) ?_ | refine pick_f (by first | rfl | assumption) ?_ | refine pick_dt rfl ?_ | refine pick_df (not_not_intro rfl) ?_
    unfold m60_7
    refine cond_split (fun h2 => ?_) (fun h2 => ?_)
    · unfold m60_8
      exact ⟨⟨_, rfl, by omega⟩, hS⟩
    · exact low (fun h3 => h2 h3.2)
  · first | refine pick_dt (by first | assumption | omega) ?_ | refine pick_df (by first | assumption | omega) ?_ | refine pick_t (by first | rfl | assumption) ?_ | refine pick_f (by first | rfl | assumption) ?_ | refine pick_dt rfl ?_ | refine pick_df (not_not_intro rfl) ?_
    unfold m60_7
    refine cond_f rfl ?_
    exact low (fun h3 => h h3.1)
theorem sort5_ret {v : Int} (hS : St w0 F w L) : Ret Try.prog 61 #[.int .i64 v] w fun u w' => (∃ k : Nat, u = .int .i64 (k : Int) ∧ k < 4) ∧ St w0 F w' L := by
  refine s61 _ ?_
  unfold m61
  unfold m61_0
  unfold m61_1
  refine valP_ok (geq_ok _ _ _ _ _ _ _) ?_
  unfold m61_10
  refine cond_split (fun h => ?_) (fun h => ?_)
  · unfold m61_11
    exact ⟨⟨3, rfl, by omega⟩, hS⟩
  · unfold m61_2
    refine valP_ok (geq_ok _ _ _ _ _ _ _) ?_
    unfold m61_8
    refine cond_split (fun h => ?_) (fun h => ?_)
    · unfold m61_9
      exact ⟨⟨2, rfl, by omega⟩, hS⟩
    · unfold m61_3
      refine valP_ok (geq_ok _ _ _ _ _ _ _) ?_
      unfold m61_6
      refine cond_split (fun h => ?_) (fun h => ?_)
      · unfold m61_7
        exact ⟨⟨1, rfl, by omega⟩, hS⟩
      · unfold m61_4 m61_5
        exact ⟨⟨0, rfl, by omega⟩, hS⟩
def AddSt (w0 : World) (F : List Nat) (L : List Res) (a : Ag) (b2 b4 b5 : Nat) (w : World) : Prop := ∃ bb : Ag, AgOk bb ∧ St w0 F w (Res.cells b5 65 (encAg bb) :: Res.cells b4 65 (encAg zeroAg) :: Res.cells b2 65 (encAg a) :: L)
def AddR (w0 : World) (F : List Nat) (L : List Res) (v : Value) (w : World) : Prop := (∃ b : Ag, v = agv b ∧ AgOk b) ∧ St w0 F w L
section
variable {a : Ag} {b2 b4 b5 : Nat} {x : Int}
theorem add_13 (h : AddSt w0 F L a b2 b4 b5 w) : m56_13 (AddR w0 F L) (.pointer (some ⟨b4, 0, none⟩)) (.pointer (some ⟨b5, 0, none⟩)) w := by
  obtain ⟨bb, hb, hS⟩ := h
  unfold m56_13
  first | refine ls65 0 hS rfl ?_ | refine ls65 1 hS rfl ?_ | refine ls65 2 hS rfl ?_ | refine ls65 3 hS rfl ?_ | refine ls65 4 hS rfl ?_ | refine ls65 5 hS rfl ?_ | refine ls65 6 hS rfl ?_ | refine ls65 7 hS rfl ?_ | refine valP_ok (ld65 (by assumption) (by assumption) (by assumption) (by assumption) (by assumption) (by assumption) (by assumption) (by assumption) (by assumption) (by assumption)) ?_
  first | refine ss65 0 hS rfl rfl rfl rfl rfl rfl rfl rfl rfl rfl rfl ?_ | refine ss65 1 hS rfl rfl rfl rfl rfl rfl rfl rfl rfl rfl rfl ?_ | refine ss65 2 hS rfl rfl rfl rfl rfl rfl rfl rfl rfl rfl rfl ?_ | refine ss65 3 hS rfl rfl rfl rfl rfl rfl rfl rfl rfl rfl rfl ?_ | refine ss65 4 hS rfl rfl rfl rfl rfl rfl rfl rfl rfl rfl rfl ?_ | refine ss65 5 hS rfl rfl rfl rfl rfl rfl rfl rfl rfl rfl rfl ?_ | refine ss65 6 hS rfl rfl rfl rfl rfl rfl rfl rfl rfl rfl rfl ?_ | refine ss65 7 hS rfl rfl rfl rfl rfl rfl rfl rfl rfl rfl rfl ?_
  intro w hS
  simp only [List.set_cons_zero, List.set_cons_succ] at hS
  unfold m56_14
  refine valS_ok (lc65 (hS.cell 1 rfl rfl) (hS.cell 1 rfl rfl) (hS.cell 1 rfl rfl) (hS.cell 1 rfl rfl) (hS.cell 1 rfl rfl) (hS.cell 1 rfl rfl) (hS.cell 1 rfl rfl) (hS.cell 1 rfl rfl) (hS.cell 1 rfl rfl) (hS.cell 1 rfl rfl)) ?_
  exact ⟨⟨bb, rfl, hb⟩, hS.tail.tail.tail⟩
theorem re_ok {a : Ag} (h : AgOk a) : I64 a.re := h _ (by simp [agI])
theorem im_ok {a : Ag} (h : AgOk a) : I64 a.im := h _ (by simp [agI])
theorem add_12 {q : Int} (ha : AgOk a) (h : AddSt w0 F L a b2 b4 b5 w) : m56_12 (AddR w0 F L) (.pointer (some ⟨b2, 0, none⟩)) (.pointer (some ⟨b4, 0, none⟩)) (.pointer (some ⟨b5, 0, none⟩)) (.int .i64 q) w := by
  obtain ⟨bb, hb, hS⟩ := h
  unfold m56_12
  refine valP_ok (eq3 _ _ _ _ _) ?_
  unfold m56_15
  refine cond_split (fun h => ?_) (fun h => ?_)
  · first | refine valP_ok (fa65_6 _ _) ?_ | refine valP_ok (fao65_6 _ _ _) ?_
    first | refine valP_ok (ld3 (hS.cell 0 rfl rfl)) ?_ | refine valP_ok (ld3 (hS.cell 1 rfl rfl)) ?_ | refine valP_ok (ld3 (hS.cell 2 rfl rfl)) ?_ | refine valP_ok (ld3 (hS.cell 3 rfl rfl)) ?_ | refine valP_ok (ld3 (hS.cell 4 rfl rfl)) ?_ | refine valP_ok (ld3 (hS.cell 5 rfl rfl)) ?_ | refine valP_ok (ld3 (hS.cell 6 rfl rfl)) ?_ | refine valP_ok (ld3 (hS.cell 7 rfl rfl)) ?_ | refine valP_ok (ld3 (by assumption)) ?_
    refine callR (by kernel_rfl) (plus_ret (im_ok ha) (by omega) hS) ?_
    rintro _ w ⟨⟨y, rfl, hy⟩, hS⟩
    first | refine valP_ok (fa65_6 _ _) ?_ | refine valP_ok (fao65_6 _ _ _) ?_
    first | refine store_at 0 st3 hS rfl (by simp) rfl ?_ | refine store_at 1 st3 hS rfl (by simp) rfl ?_ | refine store_at 2 st3 hS rfl (by simp) rfl ?_ | refine store_at 3 st3 hS rfl (by simp) rfl ?_ | refine store_at 4 st3 hS rfl (by simp) rfl ?_ | refine store_at 5 st3 hS rfl (by simp) rfl ?_ | refine store_at 6 st3 hS rfl (by simp) rfl ?_ | refine store_at 7 st3 hS rfl (by simp) rfl ?_
    intro w hS
    simp only [List.set_cons_zero, List.set_cons_succ] at hS
    exact add_13 ⟨{ bb with im := y }, hb.upd 9 hy rfl, hS⟩
  · exact add_13 ⟨bb, hb, hS⟩
theorem add_11 {q : Int} (ha : AgOk a) (h : AddSt w0 F L a b2 b4 b5 w) : m56_11 (AddR w0 F L) (.pointer (some ⟨b2, 0, none⟩)) (.pointer (some ⟨b4, 0, none⟩)) (.pointer (some ⟨b5, 0, none⟩)) (.int .i64 q) w := by
  obtain ⟨bb, hb, hS⟩ := h
  unfold m56_11
  refine valP_ok (eq3 _ _ _ _ _) ?_
  unfold m56_16
  refine cond_split (fun h => ?_) (fun h => ?_)
  · first | refine valP_ok (fa65_5 _ _) ?_ | refine valP_ok (fao65_5 _ _ _) ?_
    first | refine valP_ok (ld3 (hS.cell 0 rfl rfl)) ?_ | refine valP_ok (ld3 (hS.cell 1 rfl rfl)) ?_ | refine valP_ok (ld3 (hS.cell 2 rfl rfl)) ?_ | refine valP_ok (ld3 (hS.cell 3 rfl rfl)) ?_ | refine valP_ok (ld3 (hS.cell 4 rfl rfl)) ?_ | refine valP_ok (ld3 (hS.cell 5 rfl rfl)) ?_ | refine valP_ok (ld3 (hS.cell 6 rfl rfl)) ?_ | refine valP_ok (ld3 (hS.cell 7 rfl rfl)) ?_ | refine valP_ok (ld3 (by assumption)) ?_
    refine callR (by kernel_rfl) (plus_ret (re_ok ha) (by omega) hS) ?_
    rintro _ w ⟨⟨y, rfl, hy⟩, hS⟩
    first | refine valP_ok (fa65_5 _ _) ?_ | refine valP_ok (fao65_5 _ _ _) ?_
    first | refine store_at 0 st3 hS rfl (by simp) rfl ?_ | refine store_at 1 st3 hS rfl (by simp) rfl ?_ | refine store_at 2 st3 hS rfl (by simp) rfl ?_ | refine store_at 3 st3 hS rfl (by simp) rfl ?_ | refine store_at 4 st3 hS rfl (by simp) rfl ?_ | refine store_at 5 st3 hS rfl (by simp) rfl ?_ | refine store_at 6 st3 hS rfl (by simp) rfl ?_ | refine store_at 7 st3 hS rfl (by simp) rfl ?_
    intro w hS
    simp only [List.set_cons_zero, List.set_cons_succ] at hS
    exact add_12 ha ⟨{ bb with re := y }, hb.upd 8 hy rfl, hS⟩
  · exact add_12 ha ⟨bb, hb, hS⟩
theorem add_10 {q : Int} (ha : AgOk a) (h : AddSt w0 F L a b2 b4 b5 w) : m56_10 (AddR w0 F L) (.pointer (some ⟨b2, 0, none⟩)) (.pointer (some ⟨b4, 0, none⟩)) (.pointer (some ⟨b5, 0, none⟩)) (.int .i64 q) w := by
  obtain ⟨bb, hb, hS⟩ := h
  unfold m56_10
  refine valP_ok (eq3 _ _ _ _ _) ?_
  unfold m56_17
  refine cond_split (fun h => ?_) (fun h => ?_)
  · first | refine valP_ok (fa65_6 _ _) ?_ | refine valP_ok (fao65_6 _ _ _) ?_
    first | refine valP_ok (ld3 (hS.cell 0 rfl rfl)) ?_ | refine valP_ok (ld3 (hS.cell 1 rfl rfl)) ?_ | refine valP_ok (ld3 (hS.cell 2 rfl rfl)) ?_ | refine valP_ok (ld3 (hS.cell 3 rfl rfl)) ?_ | refine valP_ok (ld3 (hS.cell 4 rfl rfl)) ?_ | refine valP_ok (ld3 (hS.cell 5 rfl rfl)) ?_ | refine valP_ok (ld3 (hS.cell 6 rfl rfl)) ?_ | refine valP_ok (ld3 (hS.cell 7 rfl rfl)) ?_ | refine valP_ok (ld3 (by assumption)) ?_
    refine callR (by kernel_rfl) (plus_ret (im_ok ha) (by omega) hS) ?_
    rintro _ w ⟨⟨y, rfl, hy⟩, hS⟩
    first | refine valP_ok (fa65_6 _ _) ?_ | refine valP_ok (fao65_6 _ _ _) ?_
    first | refine store_at 0 st3 hS rfl (by simp) rfl ?_ | refine store_at 1 st3 hS rfl (by simp) rfl ?_ | refine store_at 2 st3 hS rfl (by simp) rfl ?_ | refine store_at 3 st3 hS rfl (by simp) rfl ?_ | refine store_at 4 st3 hS rfl (by simp) rfl ?_ | refine store_at 5 st3 hS rfl (by simp) rfl ?_ | refine store_at 6 st3 hS rfl (by simp) rfl ?_ | refine store_at 7 st3 hS rfl (by simp) rfl ?_
    intro w hS
    simp only [List.set_cons_zero, List.set_cons_succ] at hS
    exact add_11 ha ⟨{ bb with im := y }, hb.upd 9 hy rfl, hS⟩
  · exact add_11 ha ⟨bb, hb, hS⟩
theorem add_8 (ha : AgOk a) (hx : I64 x) (h : AddSt w0 F L a b2 b4 b5 w) : m56_8 (AddR w0 F L) (.int .i64 x) (.pointer (some ⟨b2, 0, none⟩)) (.pointer (some ⟨b4, 0, none⟩)) (.pointer (some ⟨b5, 0, none⟩)) w := by
  obtain ⟨bb, hb, hS⟩ := h
  have t1 := tmod_bounds x (b := 4) (by omega)
  unfold m56_8
  refine valP_ok (rem_any _ _ _ (by omega) (by omega) (by omega) (by omega) _) ?_
  refine valP_ok (add_ok _ _ _ (by omega) (by omega) _) ?_
  refine valP_ok (rem_ok _ _ _ (by omega) (by omega) (by omega) _) ?_
  unfold m56_9
  refine valP_ok (eq3 _ _ _ _ _) ?_
  unfold m56_18
  refine cond_split (fun h => ?_) (fun h => ?_)
  · first | refine valP_ok (fa65_5 _ _) ?_ | refine valP_ok (fao65_5 _ _ _) ?_
    first | refine valP_ok (ld3 (hS.cell 0 rfl rfl)) ?_ | refine valP_ok (ld3 (hS.cell 1 rfl rfl)) ?_ | refine valP_ok (ld3 (hS.cell 2 rfl rfl)) ?_ | refine valP_ok (ld3 (hS.cell 3 rfl rfl)) ?_ | refine valP_ok (ld3 (hS.cell 4 rfl rfl)) ?_ | refine valP_ok (ld3 (hS.cell 5 rfl rfl)) ?_ | refine valP_ok (ld3 (hS.cell 6 rfl rfl)) ?_ | refine valP_ok (ld3 (hS.cell 7 rfl rfl)) ?_ | refine valP_ok (ld3 (by assumption)) ?_
    refine callR (by kernel_rfl) (plus_ret (re_ok ha) (by omega) hS) ?_
    rintro _ w ⟨⟨y, rfl, hy⟩, hS⟩
    first | refine valP_ok (fa65_5 _ _) ?_ | refine valP_ok (fao65_5 _ _ _) ?_
    first | refine store_at 0 st3 hS rfl (by simp) rfl ?_ | refine store_at 1 st3 hS rfl (by simp) rfl ?_ | refine store_at 2 st3 hS rfl (by simp) rfl ?_ | refine store_at 3 st3 hS rfl (by simp) rfl ?_ | refine store_at 4 st3 hS rfl (by simp) rfl ?_ | refine store_at 5 st3 hS rfl (by simp) rfl ?_ | refine store_at 6 st3 hS rfl (by simp) rfl ?_ | refine store_at 7 st3 hS rfl (by simp) rfl ?_
    intro w hS
    simp only [List.set_cons_zero, List.set_cons_succ] at hS
    exact add_10 ha ⟨{ bb with re := y }, hb.upd 8 hy rfl, hS⟩
  · exact add_10 ha ⟨bb, hb, hS⟩
theorem add_6 (ha : AgOk a) (hx : I64 x) (h : AddSt w0 F L a b2 b4 b5 w) : m56_6 (AddR w0 F L) (.int .i64 x) (.pointer (some ⟨b2, 0, none⟩)) (.pointer (some ⟨b4, 0, none⟩)) (.pointer (some ⟨b5, 0, none⟩)) w := by
  obtain ⟨bb, hb, hS⟩ := h
  unfold m56_6
  refine callR (by kernel_rfl) (sort5_ret hS) ?_
  rintro _ w ⟨⟨k, rfl, hk4⟩, hS⟩
  unfold m56_7
  first | refine valP_ok (fa65_4 _ _) ?_ | refine valP_ok (fao65_4 _ _ _) ?_
  refine valP_ok (ixa63 hk4 _) ?_
  refine valP_ok (ld3 (hS.cell 2 rfl (ag_at a hk4))) ?_
  refine callR (by kernel_rfl) (plus_ret (hk_ok ha hk4) (by omega) hS) ?_
  rintro _ w ⟨⟨y, rfl, hy⟩, hS⟩
  first | refine valP_ok (fa65_4 _ _) ?_ | refine valP_ok (fao65_4 _ _ _) ?_
  refine valP_ok (ixa63 hk4 _) ?_
  refine store_at (i := 4 + k) 0 st3 hS rfl (by simp; omega) rfl ?_
  intro w hS
  rw [ag_set bb hk4] at hS
  simp only [List.set_cons_zero] at hS
  exact add_8 ha hx ⟨setH bb k y, setH_ok hk4 hb hy, hS⟩
theorem add_4 (ha : AgOk a) (hx : I64 x) (h : AddSt w0 F L a b2 b4 b5 w) : m56_4 (AddR w0 F L) (.int .i64 x) (.pointer (some ⟨b2, 0, none⟩)) (.pointer (some ⟨b4, 0, none⟩)) (.pointer (some ⟨b5, 0, none⟩)) w := by
  obtain ⟨bb, hb, hS⟩ := h
  unfold m56_4
  first | refine valP_ok (fa65_0 _ _) ?_ | refine valP_ok (fao65_0 _ _ _) ?_
  first | refine valP_ok (ld3 (hS.cell 0 rfl rfl)) ?_ | refine valP_ok (ld3 (hS.cell 1 rfl rfl)) ?_ | refine valP_ok (ld3 (hS.cell 2 rfl rfl)) ?_ | refine valP_ok (ld3 (hS.cell 3 rfl rfl)) ?_ | refine valP_ok (ld3 (hS.cell 4 rfl rfl)) ?_ | refine valP_ok (ld3 (hS.cell 5 rfl rfl)) ?_ | refine valP_ok (ld3 (hS.cell 6 rfl rfl)) ?_ | refine valP_ok (ld3 (hS.cell 7 rfl rfl)) ?_ | refine valP_ok (ld3 (by assumption)) ?_
  refine callR (by kernel_rfl) (plus_ret (ha _ (by simp [agI])) (by omega) hS) ?_
  rintro _ w ⟨⟨y, rfl, hy⟩, hS⟩
  first | refine valP_ok (fa65_0 _ _) ?_ | refine valP_ok (fao65_0 _ _ _) ?_
  first | refine store_at 0 st3 hS rfl (by simp) rfl ?_ | refine store_at 1 st3 hS rfl (by simp) rfl ?_ | refine store_at 2 st3 hS rfl (by simp) rfl ?_ | refine store_at 3 st3 hS rfl (by simp) rfl ?_ | refine store_at 4 st3 hS rfl (by simp) rfl ?_ | refine store_at 5 st3 hS rfl (by simp) rfl ?_ | refine store_at 6 st3 hS rfl (by simp) rfl ?_ | refine store_at 7 st3 hS rfl (by simp) rfl ?_
  intro w hS
  simp only [List.set_cons_zero, List.set_cons_succ] at hS
  have hb2 : AgOk { bb with count := y } := hb.upd 0 hy rfl
  unfold m56_5
  first | refine valP_ok (fa65_1 _ _) ?_ | refine valP_ok (fao65_1 _ _ _) ?_
  first | refine valP_ok (ld3 (hS.cell 0 rfl rfl)) ?_ | refine valP_ok (ld3 (hS.cell 1 rfl rfl)) ?_ | refine valP_ok (ld3 (hS.cell 2 rfl rfl)) ?_ | refine valP_ok (ld3 (hS.cell 3 rfl rfl)) ?_ | refine valP_ok (ld3 (hS.cell 4 rfl rfl)) ?_ | refine valP_ok (ld3 (hS.cell 5 rfl rfl)) ?_ | refine valP_ok (ld3 (hS.cell 6 rfl rfl)) ?_ | refine valP_ok (ld3 (hS.cell 7 rfl rfl)) ?_ | refine valP_ok (ld3 (by assumption)) ?_
  refine callR (by kernel_rfl) (plus_ret (ha _ (by simp [agI])) hx hS) ?_
  rintro _ w ⟨⟨z, rfl, hz⟩, hS⟩
  first | refine valP_ok (fa65_1 _ _) ?_ | refine valP_ok (fao65_1 _ _ _) ?_
  first | refine store_at 0 st3 hS rfl (by simp) rfl ?_ | refine store_at 1 st3 hS rfl (by simp) rfl ?_ | refine store_at 2 st3 hS rfl (by simp) rfl ?_ | refine store_at 3 st3 hS rfl (by simp) rfl ?_ | refine store_at 4 st3 hS rfl (by simp) rfl ?_ | refine store_at 5 st3 hS rfl (by simp) rfl ?_ | refine store_at 6 st3 hS rfl (by simp) rfl ?_ | refine store_at 7 st3 hS rfl (by simp) rfl ?_
  intro w hS
  simp only [List.set_cons_zero, List.set_cons_succ] at hS
  exact add_6 ha hx ⟨{ bb with count := y, sum := z }, hb2.upd 1 hz rfl, hS⟩
theorem add_3 (ha : AgOk a) (hx : I64 x) (h : AddSt w0 F L a b2 b4 b5 w) : m56_3 (AddR w0 F L) (.int .i64 x) (.pointer (some ⟨b2, 0, none⟩)) (.pointer (some ⟨b4, 0, none⟩)) (.pointer (some ⟨b5, 0, none⟩)) w := by
  obtain ⟨bb, hb, hS⟩ := h
  have leaf : ∀ t : Bool, m56_19 (AddR w0 F L) (.int .i64 x) (.pointer (some ⟨b2, 0, none⟩)) (.pointer (some ⟨b4, 0, none⟩)) (.pointer (some ⟨b5, 0, none⟩)) (.bool t) w := fun t => by
    unfold m56_19
    cases t with
    | true =>
      refine cond_t rfl ?_
      first | refine valP_ok (fa65_3 _ _) ?_ | refine valP_ok (fao65_3 _ _ _) ?_
      first | refine store_at 0 st3 hS rfl (by simp) rfl ?_ | refine store_at 1 st3 hS rfl (by simp) rfl ?_ | refine store_at 2 st3 hS rfl (by simp) rfl ?_ | refine store_at 3 st3 hS rfl (by simp) rfl ?_ | refine store_at 4 st3 hS rfl (by simp) rfl ?_ | refine store_at 5 st3 hS rfl (by simp) rfl ?_ | refine store_at 6 st3 hS rfl (by simp) rfl ?_ | refine store_at 7 st3 hS rfl (by simp) rfl ?_
      intro w hS
      simp only [List.set_cons_zero, List.set_cons_succ] at hS
      exact add_4 ha hx ⟨{ bb with mx := x }, hb.upd 3 hx rfl, hS⟩
    | false =>
      refine cond_f rfl ?_
      exact add_4 ha hx ⟨bb, hb, hS⟩
  unfold m56_3
  first | refine valP_ok (fa65_0 _ _) ?_ | refine valP_ok (fao65_0 _ _ _) ?_
  first | refine valP_ok (ld3 (hS.cell 0 rfl rfl)) ?_ | refine valP_ok (ld3 (hS.cell 1 rfl rfl)) ?_ | refine valP_ok (ld3 (hS.cell 2 rfl rfl)) ?_ | refine valP_ok (ld3 (hS.cell 3 rfl rfl)) ?_ | refine valP_ok (ld3 (hS.cell 4 rfl rfl)) ?_ | refine valP_ok (ld3 (hS.cell 5 rfl rfl)) ?_ | refine valP_ok (ld3 (hS.cell 6 rfl rfl)) ?_ | refine valP_ok (ld3 (hS.cell 7 rfl rfl)) ?_ | refine valP_ok (ld3 (by assumption)) ?_
  refine valP_ok (eq3 _ _ _ _ _) ?_
  first | refine cond_split (fun hc0 => ?_) (fun hc0 => ?_) | refine cond_bsplit (fun hc0 => ?_) (fun hc0 => ?_)
  · first | refine pick_dt (by first | assumption | omega) ?_ | refine pick_df (by first | assumption | omega) ?_ | refine pick_t (by first | rfl | assumption) ?_ | refine pick_f (by first | rfl | assumption) ?_ | refine pick_dt rfl ?_ | refine pick_df (not_not_intro rfl) ?_
    exact leaf _
  · first | refine valP_ok (fa65_3 _ _) ?_ | refine valP_ok (fao65_3 _ _ _) ?_
    first | refine valP_ok (ld3 (hS.cell 0 rfl rfl)) ?_ | refine valP_ok (ld3 (hS.cell 1 rfl rfl)) ?_ | refine valP_ok (ld3 (hS.cell 2 rfl rfl)) ?_ | refine valP_ok (ld3 (hS.cell 3 rfl rfl)) ?_ | refine valP_ok (ld3 (hS.cell 4 rfl rfl)) ?_ | refine valP_ok (ld3 (hS.cell 5 rfl rfl)) ?_ | refine valP_ok (ld3 (hS.cell 6 rfl rfl)) ?_ | refine valP_ok (ld3 (hS.cell 7 rfl rfl)) ?_ | refine valP_ok (ld3 (by assumption)) ?_
    refine valP_ok (gtr_ok _ _ _ _ _ _ _) ?_
    first | refine pick_dt (by first | assumption | omega) ?_ | refine pick_df (by first | assumption | omega) ?_ | refine pick_t (by first | rfl | assumption) ?_ | refine pick_f (by first | rfl | assumption) ?_ | refine pick_dt rfl ?_ | refine pick_df (not_not_intro rfl) ?_
    exact leaf _
theorem add5_ret (ha : AgOk a) (hx : I64 x) (hS : St w0 F w L) : Ret Try.prog 56 #[agv a, .int .i64 x] w (AddR w0 F L) := by
  refine s56 _ _ ?_
  unfold m56
  unfold m56_0
  refine new_ok (bx65 _ _ _ _ _ _ _ _ _ _ _) hS ?_
  intro b2 w hS
  refine new_ok (al65 _) hS ?_
  intro b4 w hS
  unfold m56_1
  first | refine ls65 0 hS rfl ?_ | refine ls65 1 hS rfl ?_ | refine ls65 2 hS rfl ?_ | refine ls65 3 hS rfl ?_ | refine ls65 4 hS rfl ?_ | refine ls65 5 hS rfl ?_ | refine ls65 6 hS rfl ?_ | refine ls65 7 hS rfl ?_ | refine valP_ok (ld65 (by assumption) (by assumption) (by assumption) (by assumption) (by assumption) (by assumption) (by assumption) (by assumption) (by assumption) (by assumption)) ?_
  refine new_ok (al65 _) hS ?_
  intro b5 w hS
  first | refine ss65 0 hS rfl rfl rfl rfl rfl rfl rfl rfl rfl rfl rfl ?_ | refine ss65 1 hS rfl rfl rfl rfl rfl rfl rfl rfl rfl rfl rfl ?_ | refine ss65 2 hS rfl rfl rfl rfl rfl rfl rfl rfl rfl rfl rfl ?_ | refine ss65 3 hS rfl rfl rfl rfl rfl rfl rfl rfl rfl rfl rfl ?_ | refine ss65 4 hS rfl rfl rfl rfl rfl rfl rfl rfl rfl rfl rfl ?_ | refine ss65 5 hS rfl rfl rfl rfl rfl rfl rfl rfl rfl rfl rfl ?_ | refine ss65 6 hS rfl rfl rfl rfl rfl rfl rfl rfl rfl rfl rfl ?_ | refine ss65 7 hS rfl rfl rfl rfl rfl rfl rfl rfl rfl rfl rfl ?_
  intro w hS
  simp only [List.set_cons_zero, List.set_cons_succ] at hS
  have leaf : ∀ t : Bool, m56_20 (AddR w0 F L) (.int .i64 x) (.pointer (some ⟨b2, 0, none⟩)) (.pointer (some ⟨b4, 0, none⟩)) (.pointer (some ⟨b5, 0, none⟩)) (.bool t) w := fun t => by
    unfold m56_20
    cases t with
    | true =>
      refine cond_t rfl ?_
      first | refine valP_ok (fa65_2 _ _) ?_ | refine valP_ok (fao65_2 _ _ _) ?_
      first | refine store_at 0 st3 hS rfl (by simp) rfl ?_ | refine store_at 1 st3 hS rfl (by simp) rfl ?_ | refine store_at 2 st3 hS rfl (by simp) rfl ?_ | refine store_at 3 st3 hS rfl (by simp) rfl ?_ | refine store_at 4 st3 hS rfl (by simp) rfl ?_ | refine store_at 5 st3 hS rfl (by simp) rfl ?_ | refine store_at 6 st3 hS rfl (by simp) rfl ?_ | refine store_at 7 st3 hS rfl (by simp) rfl ?_
      intro w hS
      simp only [List.set_cons_zero, List.set_cons_succ] at hS
      exact add_3 ha hx ⟨{ a with mn := x }, ha.upd 2 hx rfl, hS⟩
    | false =>
      refine cond_f rfl ?_
      exact add_3 ha hx ⟨a, ha, hS⟩
  unfold m56_2
  first | refine valP_ok (fa65_0 _ _) ?_ | refine valP_ok (fao65_0 _ _ _) ?_
  first | refine valP_ok (ld3 (hS.cell 0 rfl rfl)) ?_ | refine valP_ok (ld3 (hS.cell 1 rfl rfl)) ?_ | refine valP_ok (ld3 (hS.cell 2 rfl rfl)) ?_ | refine valP_ok (ld3 (hS.cell 3 rfl rfl)) ?_ | refine valP_ok (ld3 (hS.cell 4 rfl rfl)) ?_ | refine valP_ok (ld3 (hS.cell 5 rfl rfl)) ?_ | refine valP_ok (ld3 (hS.cell 6 rfl rfl)) ?_ | refine valP_ok (ld3 (hS.cell 7 rfl rfl)) ?_ | refine valP_ok (ld3 (by assumption)) ?_
  refine valP_ok (eq3 _ _ _ _ _) ?_
  first | refine cond_split (fun hc0 => ?_) (fun hc0 => ?_) | refine cond_bsplit (fun hc0 => ?_) (fun hc0 => ?_)
  · first | refine pick_dt (by first | assumption | omega) ?_ | refine pick_df (by first | assumption | omega) ?_ | refine pick_t (by first | rfl | assumption) ?_ | refine pick_f (by first | rfl | assumption) ?_ | refine pick_dt rfl ?_ | refine pick_df (not_not_intro rfl) ?_
    exact leaf _
  · first | refine valP_ok (fa65_2 _ _) ?_ | refine valP_ok (fao65_2 _ _ _) ?_
    first | refine valP_ok (ld3 (hS.cell 0 rfl rfl)) ?_ | refine valP_ok (ld3 (hS.cell 1 rfl rfl)) ?_ | refine valP_ok (ld3 (hS.cell 2 rfl rfl)) ?_ | refine valP_ok (ld3 (hS.cell 3 rfl rfl)) ?_ | refine valP_ok (ld3 (hS.cell 4 rfl rfl)) ?_ | refine valP_ok (ld3 (hS.cell 5 rfl rfl)) ?_ | refine valP_ok (ld3 (hS.cell 6 rfl rfl)) ?_ | refine valP_ok (ld3 (hS.cell 7 rfl rfl)) ?_ | refine valP_ok (ld3 (by assumption)) ?_
    refine valP_ok (lss_ok _ _ _ _ _ _ _) ?_
    first | refine pick_dt (by first | assumption | omega) ?_ | refine pick_df (by first | assumption | omega) ?_ | refine pick_t (by first | rfl | assumption) ?_ | refine pick_f (by first | rfl | assumption) ?_ | refine pick_dt rfl ?_ | refine pick_df (not_not_intro rfl) ?_
    exact leaf _
end
def Hd1 (a : Ag) : Prop := 1 ≤ a.count ∧ a.count ≤ 1099511627776 ∧ a.mn ≤ a.mx
def Hd2 (a : Ag) : Prop := hs a 4 = a.count ∧ (-1099511627776 ≤ a.re ∧ a.re ≤ 1099511627776) ∧ (-1099511627776 ≤ a.im ∧ a.im ≤ 1099511627776)
theorem mayA_iff (a : Ag) : MayA a ↔ Hd1 a ∧ (∀ j, j < 4 → 0 ≤ hk a j ∧ hk a j ≤ 1099511627776) ∧ Hd2 a ∧ absI a.re + absI a.im ≤ a.count := by
  unfold MayA Hd1 Hd2
  have e : hs a 4 = a.h0 + a.h1 + a.h2 + a.h3 := by simp only [hs, hk]; omega
  rw [e]
  constructor
  · rintro ⟨h1, ⟨p0, p1, p2, p3⟩, h3, h4, h5, h6⟩
    refine ⟨h1, fun j hj => ?_, ⟨h3, h4, h5⟩, h6⟩
    rcases four hj with rfl | rfl | rfl | rfl
    · exact p0
    · exact p1
    · exact p2
    · exact p3
  · rintro ⟨h1, h2, ⟨h3, h4, h5⟩, h6⟩
    exact ⟨h1, ⟨h2 0 (by omega), h2 1 (by omega), h2 2 (by omega), h2 3 (by omega)⟩, h3, h4, h5, h6⟩
theorem maya_ret {a : Ag} (hS : St w0 F w L) : Ret Try.prog 30 #[agv a] w fun v w' => (∃ t, v = .bool t ∧ (t = true ↔ MayA a)) ∧ St w0 F w' L := by
  have hA := mayA_iff a
  generalize MayA a = M at hA
  refine s30 _ ?_
  unfold m30
  unfold m30_0
  refine new_ok (bx65 _ _ _ _ _ _ _ _ _ _ _) hS ?_
  intro b1 w hS
  have tail : Hd1 a → (∀ j, j < 4 → 0 ≤ hk a j ∧ hk a j ≤ 1099511627776) → ∀ w, St w0 F w (Res.cells b1 65 (encAg a) :: L) → m30_4 (fun v w' => (∃ t, v = .bool t ∧ (t = true ↔ M)) ∧ St w0 F w' L) (.pointer (some ⟨b1, 0, none⟩)) (.int .i64 (hs a 4)) w := fun h1 h2 w hS => by
    have leaf : ∀ t : Bool, (t = true ↔ ¬ Hd2 a) → m30_12 (fun v w' => (∃ t, v = .bool t ∧ (t = true ↔ M)) ∧ St w0 F w' L) (.pointer (some ⟨b1, 0, none⟩)) (.bool t) w := fun t ht => by
      unfold m30_12
      cases t with
      | true =>
        refine cond_t rfl ?_
        unfold m30_13
        exact ⟨⟨_, rfl, ⟨fun h => (by cases h), fun h => absurd (hA.1 h).2.2.1 (ht.1 rfl)⟩⟩, hS.tail⟩
      | false =>
        have h3 : Hd2 a := Classical.byContradiction fun h => by have := ht.2 h; cases this
        have h3' := h3
        unfold Hd2 at h3'
        refine cond_f rfl ?_
        unfold m30_5
        first | refine valQ_ok (fa65_5 _) ?_ | refine valQ_ok (fao65_5 _ _) ?_
        first | refine valQ_load ld3 (hS.cell 0 rfl rfl) ?_ | refine valQ_load ld3 (hS.cell 1 rfl rfl) ?_ | refine valQ_load ld3 (hS.cell 2 rfl rfl) ?_ | refine valQ_load ld3 (hS.cell 3 rfl rfl) ?_ | refine valQ_load ld3 (hS.cell 4 rfl rfl) ?_ | refine valQ_load ld3 (hS.cell 5 rfl rfl) ?_ | refine valQ_load ld3 (hS.cell 6 rfl rfl) ?_ | refine valQ_load ld3 (hS.cell 7 rfl rfl) ?_ | refine valQ_load ld3 (by assumption) ?_
        first | refine valQ_ok (fa65_6 _) ?_ | refine valQ_ok (fao65_6 _ _) ?_
        first | refine valQ_load ld3 (hS.cell 0 rfl rfl) ?_ | refine valQ_load ld3 (hS.cell 1 rfl rfl) ?_ | refine valQ_load ld3 (hS.cell 2 rfl rfl) ?_ | refine valQ_load ld3 (hS.cell 3 rfl rfl) ?_ | refine valQ_load ld3 (hS.cell 4 rfl rfl) ?_ | refine valQ_load ld3 (hS.cell 5 rfl rfl) ?_ | refine valQ_load ld3 (hS.cell 6 rfl rfl) ?_ | refine valQ_load ld3 (hS.cell 7 rfl rfl) ?_ | refine valQ_load ld3 (by assumption) ?_
        refine drawn_ok hS ?_
        intro w hS
        have y2 : ∀ (p q : Int) w, St w0 F w (Res.cells b1 65 (encAg a) :: L) → p = absI a.re → q = absI a.im → m30_8 (fun v w' => (∃ t, v = .bool t ∧ (t = true ↔ M)) ∧ St w0 F w' L) (.pointer (some ⟨b1, 0, none⟩)) (.int .i64 p) (.int .i64 q) w := fun p q w hS hp hq => by
          have b1 : 0 ≤ p ∧ p ≤ 1099511627776 := by rw [hp]; unfold absI; split <;> omega
          have b2 : 0 ≤ q ∧ q ≤ 1099511627776 := by rw [hq]; unfold absI; split <;> omega
          unfold m30_8
          refine valP_ok (add_ok _ _ _ (by omega) (by omega) _) ?_
          first | refine valP_ok (fa65_0 _ _) ?_ | refine valP_ok (fao65_0 _ _ _) ?_
          first | refine valP_ok (ld3 (hS.cell 0 rfl rfl)) ?_ | refine valP_ok (ld3 (hS.cell 1 rfl rfl)) ?_ | refine valP_ok (ld3 (hS.cell 2 rfl rfl)) ?_ | refine valP_ok (ld3 (hS.cell 3 rfl rfl)) ?_ | refine valP_ok (ld3 (hS.cell 4 rfl rfl)) ?_ | refine valP_ok (ld3 (hS.cell 5 rfl rfl)) ?_ | refine valP_ok (ld3 (hS.cell 6 rfl rfl)) ?_ | refine valP_ok (ld3 (hS.cell 7 rfl rfl)) ?_ | refine valP_ok (ld3 (by assumption)) ?_
          refine valP_ok (leq_ok _ _ _ _ _ _ _) ?_
          unfold m30_9
          refine ⟨⟨_, rfl, ?_⟩, hS.tail⟩
          rw [decide_eq_true_eq, hA, hp, hq]
          exact ⟨fun h => ⟨h1, h2, h3, h⟩, fun h => h.2.2.2⟩
        have y1 : ∀ (p : Int) w, St w0 F w (Res.cells b1 65 (encAg a) :: L) → p = absI a.re → m30_7 (fun v w' => (∃ t, v = .bool t ∧ (t = true ↔ M)) ∧ St w0 F w' L) (.pointer (some ⟨b1, 0, none⟩)) (.int .i64 p) (.int .i64 a.im) w := fun p w hS hp => by
          unfold m30_7
          refine valP_ok (lss_ok _ _ _ _ _ _ _) ?_
          unfold m30_10
          refine cond_split (fun h => ?_) (fun h => ?_)
          · refine valP_ok (neg_run (by omega) (by omega) _) ?_
            exact y2 _ _ _ hS hp (by unfold absI; rw [if_pos h])
          · exact y2 _ _ _ hS hp (by unfold absI; rw [if_neg h])
        unfold m30_6
        refine valP_ok (lss_ok _ _ _ _ _ _ _) ?_
        unfold m30_11
        refine cond_split (fun h => ?_) (fun h => ?_)
        · refine valP_ok (neg_run (by omega) (by omega) _) ?_
          exact y1 _ _ hS (by unfold absI; rw [if_pos h])
        · exact y1 _ _ hS (by unfold absI; rw [if_neg h])
    unfold Hd2 at leaf
    unfold m30_4
    first | refine valP_ok (fa65_0 _ _) ?_ | refine valP_ok (fao65_0 _ _ _) ?_
    first | refine valP_ok (ld3 (hS.cell 0 rfl rfl)) ?_ | refine valP_ok (ld3 (hS.cell 1 rfl rfl)) ?_ | refine valP_ok (ld3 (hS.cell 2 rfl rfl)) ?_ | refine valP_ok (ld3 (hS.cell 3 rfl rfl)) ?_ | refine valP_ok (ld3 (hS.cell 4 rfl rfl)) ?_ | refine valP_ok (ld3 (hS.cell 5 rfl rfl)) ?_ | refine valP_ok (ld3 (hS.cell 6 rfl rfl)) ?_ | refine valP_ok (ld3 (hS.cell 7 rfl rfl)) ?_ | refine valP_ok (ld3 (by assumption)) ?_
    refine valP_ok (ne3 _ _ _ _ _) ?_
    first | refine cond_split (fun hc0 => ?_) (fun hc0 => ?_) | refine cond_bsplit (fun hc0 => ?_) (fun hc0 => ?_)
    · first | refine pick_dt (by first | assumption | omega) ?_ | refine pick_df (by first | assumption | omega) ?_ | refine pick_t (by first | rfl | assumption) ?_ | refine pick_f (by first | rfl | assumption) ?_ | refine pick_dt rfl ?_ | refine pick_df (not_not_intro rfl) ?_
      first | refine pick_dt (by first | assumption | omega) ?_ | refine pick_df (by first | assumption | omega) ?_ | refine pick_t (by first | rfl | assumption) ?_ | refine pick_f (by first | rfl | assumption) ?_ | refine pick_dt rfl ?_ | refine pick_df (not_not_intro rfl) ?_
      first | refine pick_dt (by first | assumption | omega) ?_ | refine pick_df (by first | assumption | omega) ?_ | refine pick_t (by first | rfl | assumption) ?_ | refine pick_f (by first | rfl | assumption) ?_ | refine pick_dt rfl ?_ | refine pick_df (not_not_intro rfl) ?_
      first | refine pick_dt (by first | assumption | omega) ?_ | refine pick_df (by first | assumption | omega) ?_ | refine pick_t (by first | rfl | assumption) ?_ | refine pick_f (by first | rfl | assumption) ?_ | refine pick_dt rfl ?_ | refine pick_df (not_not_intro rfl) ?_
      exact leaf _ (by simp only [decide_eq_true_eq, Bool.false_eq_true, false_iff, true_iff] <;> first | contradiction | omega)
    · first | refine valP_ok (fa65_5 _ _) ?_ | refine valP_ok (fao65_5 _ _ _) ?_
      first | refine valP_ok (ld3 (hS.cell 0 rfl rfl)) ?_ | refine valP_ok (ld3 (hS.cell 1 rfl rfl)) ?_ | refine valP_ok (ld3 (hS.cell 2 rfl rfl)) ?_ | refine valP_ok (ld3 (hS.cell 3 rfl rfl)) ?_ | refine valP_ok (ld3 (hS.cell 4 rfl rfl)) ?_ | refine valP_ok (ld3 (hS.cell 5 rfl rfl)) ?_ | refine valP_ok (ld3 (hS.cell 6 rfl rfl)) ?_ | refine valP_ok (ld3 (hS.cell 7 rfl rfl)) ?_ | refine valP_ok (ld3 (by assumption)) ?_
      refine valP_ok (lss_ok _ _ _ _ _ _ _) ?_
      first | refine pick_dt (by first | assumption | omega) ?_ | refine pick_df (by first | assumption | omega) ?_ | refine pick_t (by first | rfl | assumption) ?_ | refine pick_f (by first | rfl | assumption) ?_ | refine pick_dt rfl ?_ | refine pick_df (not_not_intro rfl) ?_
      first | refine cond_split (fun hc1 => ?_) (fun hc1 => ?_) | refine cond_bsplit (fun hc1 => ?_) (fun hc1 => ?_)
      · first | refine pick_dt (by first | assumption | omega) ?_ | refine pick_df (by first | assumption | omega) ?_ | refine pick_t (by first | rfl | assumption) ?_ | refine pick_f (by first | rfl | assumption) ?_ | refine pick_dt rfl ?_ | refine pick_df (not_not_intro rfl) ?_
        first | refine pick_dt (by first | assumption | omega) ?_ | refine pick_df (by first | assumption | omega) ?_ | refine pick_t (by first | rfl | assumption) ?_ | refine pick_f (by first | rfl | assumption) ?_ | refine pick_dt rfl ?_ | refine pick_df (not_not_intro rfl) ?_
        first | refine pick_dt (by first | assumption | omega) ?_ | refine pick_df (by first | assumption | omega) ?_ | refine pick_t (by first | rfl | assumption) ?_ | refine pick_f (by first | rfl | assumption) ?_ | refine pick_dt rfl ?_ | refine pick_df (not_not_intro rfl) ?_
        exact leaf _ (by simp only [decide_eq_true_eq, Bool.false_eq_true, false_iff, true_iff] <;> first | contradiction | omega)
      · first | refine valP_ok (fa65_5 _ _) ?_ | refine valP_ok (fao65_5 _ _ _) ?_
        first | refine valP_ok (ld3 (hS.cell 0 rfl rfl)) ?_ | refine valP_ok (ld3 (hS.cell 1 rfl rfl)) ?_ | refine valP_ok (ld3 (hS.cell 2 rfl rfl)) ?_ | refine valP_ok (ld3 (hS.cell 3 rfl rfl)) ?_ | refine valP_ok (ld3 (hS.cell 4 rfl rfl)) ?_ | refine valP_ok (ld3 (hS.cell 5 rfl rfl)) ?_ | refine valP_ok (ld3 (hS.cell 6 rfl rfl)) ?_ | refine valP_ok (ld3 (hS.cell 7 rfl rfl)) ?_ | refine valP_ok (ld3 (by assumption)) ?_
        refine valP_ok (gtr_ok _ _ _ _ _ _ _) ?_
        first | refine pick_dt (by first | assumption | omega) ?_ | refine pick_df (by first | assumption | omega) ?_ | refine pick_t (by first | rfl | assumption) ?_ | refine pick_f (by first | rfl | assumption) ?_ | refine pick_dt rfl ?_ | refine pick_df (not_not_intro rfl) ?_
        first | refine cond_split (fun hc2 => ?_) (fun hc2 => ?_) | refine cond_bsplit (fun hc2 => ?_) (fun hc2 => ?_)
        · first | refine pick_dt (by first | assumption | omega) ?_ | refine pick_df (by first | assumption | omega) ?_ | refine pick_t (by first | rfl | assumption) ?_ | refine pick_f (by first | rfl | assumption) ?_ | refine pick_dt rfl ?_ | refine pick_df (not_not_intro rfl) ?_
          first | refine pick_dt (by first | assumption | omega) ?_ | refine pick_df (by first | assumption | omega) ?_ | refine pick_t (by first | rfl | assumption) ?_ | refine pick_f (by first | rfl | assumption) ?_ | refine pick_dt rfl ?_ | refine pick_df (not_not_intro rfl) ?_
          exact leaf _ (by simp only [decide_eq_true_eq, Bool.false_eq_true, false_iff, true_iff] <;> first | contradiction | omega)
        · first | refine valP_ok (fa65_6 _ _) ?_ | refine valP_ok (fao65_6 _ _ _) ?_
          first | refine valP_ok (ld3 (hS.cell 0 rfl rfl)) ?_ | refine valP_ok (ld3 (hS.cell 1 rfl rfl)) ?_ | refine valP_ok (ld3 (hS.cell 2 rfl rfl)) ?_ | refine valP_ok (ld3 (hS.cell 3 rfl rfl)) ?_ | refine valP_ok (ld3 (hS.cell 4 rfl rfl)) ?_ | refine valP_ok (ld3 (hS.cell 5 rfl rfl)) ?_ | refine valP_ok (ld3 (hS.cell 6 rfl rfl)) ?_ | refine valP_ok (ld3 (hS.cell 7 rfl rfl)) ?_ | refine valP_ok (ld3 (by assumption)) ?_
          refine valP_ok (lss_ok _ _ _ _ _ _ _) ?_
          first | refine pick_dt (by first | assumption | omega) ?_ | refine pick_df (by first | assumption | omega) ?_ | refine pick_t (by first | rfl | assumption) ?_ | refine pick_f (by first | rfl | assumption) ?_ | refine pick_dt rfl ?_ | refine pick_df (not_not_intro rfl) ?_
          first | refine cond_split (fun hc3 => ?_) (fun hc3 => ?_) | refine cond_bsplit (fun hc3 => ?_) (fun hc3 => ?_)
          · first | refine pick_dt (by first | assumption | omega) ?_ | refine pick_df (by first | assumption | omega) ?_ | refine pick_t (by first | rfl | assumption) ?_ | refine pick_f (by first | rfl | assumption) ?_ | refine pick_dt rfl ?_ | refine pick_df (not_not_intro rfl) ?_
            exact leaf _ (by simp only [decide_eq_true_eq, Bool.false_eq_true, false_iff, true_iff] <;> first | contradiction | omega)
          · first | refine valP_ok (fa65_6 _ _) ?_ | refine valP_ok (fao65_6 _ _ _) ?_
            first | refine valP_ok (ld3 (hS.cell 0 rfl rfl)) ?_ | refine valP_ok (ld3 (hS.cell 1 rfl rfl)) ?_ | refine valP_ok (ld3 (hS.cell 2 rfl rfl)) ?_ | refine valP_ok (ld3 (hS.cell 3 rfl rfl)) ?_ | refine valP_ok (ld3 (hS.cell 4 rfl rfl)) ?_ | refine valP_ok (ld3 (hS.cell 5 rfl rfl)) ?_ | refine valP_ok (ld3 (hS.cell 6 rfl rfl)) ?_ | refine valP_ok (ld3 (hS.cell 7 rfl rfl)) ?_ | refine valP_ok (ld3 (by assumption)) ?_
            refine valP_ok (gtr_ok _ _ _ _ _ _ _) ?_
            first | refine pick_dt (by first | assumption | omega) ?_ | refine pick_df (by first | assumption | omega) ?_ | refine pick_t (by first | rfl | assumption) ?_ | refine pick_f (by first | rfl | assumption) ?_ | refine pick_dt rfl ?_ | refine pick_df (not_not_intro rfl) ?_
            exact leaf _ (by simp only [decide_eq_true_eq, Bool.false_eq_true, false_iff, true_iff] <;> first | contradiction | omega)
  have leaf : ∀ t : Bool, (t = true ↔ ¬ (1 ≤ a.count ∧ a.count ≤ 1099511627776 ∧ a.mn ≤ a.mx)) → m30_22 (fun v w' => (∃ t, v = .bool t ∧ (t = true ↔ M)) ∧ St w0 F w' L) (.pointer (some ⟨b1, 0, none⟩)) (.bool t) w := fun t ht => by
    unfold m30_22
    cases t with
    | true =>
      refine cond_t rfl ?_
      unfold m30_23
      exact ⟨⟨_, rfl, ⟨fun h => (by cases h), fun h => absurd (hA.1 h).1 (ht.1 rfl)⟩⟩, hS.tail⟩
    | false =>
      have h1 : Hd1 a := Classical.byContradiction fun h => by have := ht.2 h; cases this
      refine cond_f rfl ?_
      unfold m30_2 m30_3 m30_14
      refine loop_in (fun u w' => ∃ k : Nat, u = (.int .i64 (hs a k), .int .i64 (k : Int)) ∧ k ≤ 4 ∧ (∀ j, j < k → 0 ≤ hk a j ∧ hk a j ≤ 1099511627776) ∧ (0 ≤ hs a k ∧ hs a k ≤ k * 1099511627776) ∧ St w0 F w' (Res.cells b1 65 (encAg a) :: L)) (fun u _ => 4 - (intOf u.2).toNat) ⟨0, rfl, by omega, fun j h => by omega, by simp [hs], hS⟩ ?_
      clear hS
      rintro u w ⟨k, rfl, hk4, hno, hb, hS⟩
      simp only
      unfold m30_15
      refine valP_ok (lss_ok _ _ _ _ _ _ _) ?_
      unfold m30_21
      refine cond_split (fun h => ?_) (fun h => ?_)
      · have hkl : k < 4 := by omega
        have bad : ¬ (0 ≤ hk a k ∧ hk a k ≤ 1099511627776) → ∀ (K1 : Value × Value → World → Prop) (t : Value), t = .bool true → m30_19 (fun v w' => (∃ t, v = .bool t ∧ (t = true ↔ M)) ∧ St w0 F w' L) K1 (.pointer (some ⟨b1, 0, none⟩)) (.int .i64 (hs a k)) (.int .i64 (k : Int)) t w := fun hn K1 t ht => by
          subst ht
          unfold m30_19
          refine cond_t rfl ?_
          unfold m30_20
          exact ⟨⟨_, rfl, ⟨fun h => (by cases h), fun h => absurd ((hA.1 h).2.1 k hkl) hn⟩⟩, hS.tail⟩
        unfold m30_16
        first | refine valP_ok (fa65_4 _ _) ?_ | refine valP_ok (fao65_4 _ _ _) ?_
        refine valP_ok (ixa63 hkl _) ?_
        refine valP_ok (ld3 (hS.cell 0 rfl (ag_at a hkl))) ?_
        refine valP_ok (lss_ok _ _ _ _ _ _ _) ?_
        refine cond_split (fun h2 => ?_) (fun h2 => ?_)
        · first | refine pick_dt (by first | assumption | omega) ?_ | refine pick_df (by first | assumption | omega) ?_ | refine pick_t (by first | rfl | assumption) ?_ | refine pick_f (by first | rfl | assumption) ?_ | refine pick_dt rfl ?_ | refine pick_df (not_not_intro rfl) ?_
          exact bad (by omega) _ _ rfl
        · first | refine valP_ok (fa65_4 _ _) ?_ | refine valP_ok (fao65_4 _ _ _) ?_
          refine valP_ok (ixa63 hkl _) ?_
          refine valP_ok (ld3 (hS.cell 0 rfl (ag_at a hkl))) ?_
          refine valP_ok (gtr_ok _ _ _ _ _ _ _) ?_
          first | refine pick_dt (by first | assumption | omega) ?_ | refine pick_df (by first | assumption | omega) ?_ | refine pick_t (by first | rfl | assumption) ?_ | refine pick_f (by first | rfl | assumption) ?_ | refine pick_dt rfl ?_ | refine pick_df (not_not_intro rfl) ?_
          by_cases h3 : 1099511627776 < hk a k
          · rw [decide_eq_true h3]
            exact bad (by omega) _ _ rfl
          · rw [decide_eq_false h3]
            unfold m30_19
            refine cond_f rfl ?_
            unfold m30_18
            first | refine valP_ok (fa65_4 _ _) ?_ | refine valP_ok (fao65_4 _ _ _) ?_
            refine valP_ok (ixa63 hkl _) ?_
            refine valP_ok (ld3 (hS.cell 0 rfl (ag_at a hkl))) ?_
            refine valP_ok (add_ok _ _ _ (by omega) (by omega) _) ?_
            unfold m30_17
            refine valP_ok (add_ok _ _ _ (by omega) (by omega) _) ?_
            have e : hs a (k + 1) = hs a k + hk a k := rfl
            refine ⟨⟨k + 1, by rw [e]; rfl, by omega, fun j hj => ?_, by rw [e]; omega, hS⟩, by simp [intOf]; omega⟩
            rcases Nat.lt_or_ge j k with g1 | g1
            · exact hno j g1
            · obtain rfl : j = k := by omega
              exact ⟨by omega, by omega⟩
      · obtain rfl : k = 4 := by omega
        exact tail h1 hno w hS
  unfold m30_1
  first | refine valP_ok (fa65_0 _ _) ?_ | refine valP_ok (fao65_0 _ _ _) ?_
  first | refine valP_ok (ld3 (hS.cell 0 rfl rfl)) ?_ | refine valP_ok (ld3 (hS.cell 1 rfl rfl)) ?_ | refine valP_ok (ld3 (hS.cell 2 rfl rfl)) ?_ | refine valP_ok (ld3 (hS.cell 3 rfl rfl)) ?_ | refine valP_ok (ld3 (hS.cell 4 rfl rfl)) ?_ | refine valP_ok (ld3 (hS.cell 5 rfl rfl)) ?_ | refine valP_ok (ld3 (hS.cell 6 rfl rfl)) ?_ | refine valP_ok (ld3 (hS.cell 7 rfl rfl)) ?_ | refine valP_ok (ld3 (by assumption)) ?_
  refine valP_ok (lss_ok _ _ _ _ _ _ _) ?_
  first | refine cond_split (fun hc0 => ?_) (fun hc0 => ?_) | refine cond_bsplit (fun hc0 => ?_) (fun hc0 => ?_)
  · first | refine pick_dt (by first | assumption | omega) ?_ | refine pick_df (by first | assumption | omega) ?_ | refine pick_t (by first | rfl | assumption) ?_ | refine pick_f (by first | rfl | assumption) ?_ | refine pick_dt rfl ?_ | refine pick_df (not_not_intro rfl) ?_
    first | refine cond_split (fun hc1 => ?_) (fun hc1 => ?_) | refine cond_bsplit (fun hc1 => ?_) (fun hc1 => ?_)
    · first | refine pick_dt (by first | assumption | omega) ?_ | refine pick_df (by first | assumption | omega) ?_ | refine pick_t (by first | rfl | assumption) ?_ | refine pick_f (by first | rfl | assumption) ?_ | refine pick_dt rfl ?_ | refine pick_df (not_not_intro rfl) ?_
      exact leaf _ (by simp only [decide_eq_true_eq, Bool.false_eq_true, false_iff, true_iff] <;> first | contradiction | omega)
    · first | refine valP_ok (fa65_2 _ _) ?_ | refine valP_ok (fao65_2 _ _ _) ?_
      first | refine valP_ok (ld3 (hS.cell 0 rfl rfl)) ?_ | refine valP_ok (ld3 (hS.cell 1 rfl rfl)) ?_ | refine valP_ok (ld3 (hS.cell 2 rfl rfl)) ?_ | refine valP_ok (ld3 (hS.cell 3 rfl rfl)) ?_ | refine valP_ok (ld3 (hS.cell 4 rfl rfl)) ?_ | refine valP_ok (ld3 (hS.cell 5 rfl rfl)) ?_ | refine valP_ok (ld3 (hS.cell 6 rfl rfl)) ?_ | refine valP_ok (ld3 (hS.cell 7 rfl rfl)) ?_ | refine valP_ok (ld3 (by assumption)) ?_
      first | refine valP_ok (fa65_3 _ _) ?_ | refine valP_ok (fao65_3 _ _ _) ?_
      first | refine valP_ok (ld3 (hS.cell 0 rfl rfl)) ?_ | refine valP_ok (ld3 (hS.cell 1 rfl rfl)) ?_ | refine valP_ok (ld3 (hS.cell 2 rfl rfl)) ?_ | refine valP_ok (ld3 (hS.cell 3 rfl rfl)) ?_ | refine valP_ok (ld3 (hS.cell 4 rfl rfl)) ?_ | refine valP_ok (ld3 (hS.cell 5 rfl rfl)) ?_ | refine valP_ok (ld3 (hS.cell 6 rfl rfl)) ?_ | refine valP_ok (ld3 (hS.cell 7 rfl rfl)) ?_ | refine valP_ok (ld3 (by assumption)) ?_
      refine valP_ok (gtr_ok _ _ _ _ _ _ _) ?_
      first | refine pick_dt (by first | assumption | omega) ?_ | refine pick_df (by first | assumption | omega) ?_ | refine pick_t (by first | rfl | assumption) ?_ | refine pick_f (by first | rfl | assumption) ?_ | refine pick_dt rfl ?_ | refine pick_df (not_not_intro rfl) ?_
      exact leaf _ (by simp only [decide_eq_true_eq, Bool.false_eq_true, false_iff, true_iff] <;> first | contradiction | omega)
  · first | refine valP_ok (fa65_0 _ _) ?_ | refine valP_ok (fao65_0 _ _ _) ?_
    first | refine valP_ok (ld3 (hS.cell 0 rfl rfl)) ?_ | refine valP_ok (ld3 (hS.cell 1 rfl rfl)) ?_ | refine valP_ok (ld3 (hS.cell 2 rfl rfl)) ?_ | refine valP_ok (ld3 (hS.cell 3 rfl rfl)) ?_ | refine valP_ok (ld3 (hS.cell 4 rfl rfl)) ?_ | refine valP_ok (ld3 (hS.cell 5 rfl rfl)) ?_ | refine valP_ok (ld3 (hS.cell 6 rfl rfl)) ?_ | refine valP_ok (ld3 (hS.cell 7 rfl rfl)) ?_ | refine valP_ok (ld3 (by assumption)) ?_
    refine valP_ok (gtr_ok _ _ _ _ _ _ _) ?_
    first | refine pick_dt (by first | assumption | omega) ?_ | refine pick_df (by first | assumption | omega) ?_ | refine pick_t (by first | rfl | assumption) ?_ | refine pick_f (by first | rfl | assumption) ?_ | refine pick_dt rfl ?_ | refine pick_df (not_not_intro rfl) ?_
    first | refine cond_split (fun hc1 => ?_) (fun hc1 => ?_) | refine cond_bsplit (fun hc1 => ?_) (fun hc1 => ?_)
    · first | refine pick_dt (by first | assumption | omega) ?_ | refine pick_df (by first | assumption | omega) ?_ | refine pick_t (by first | rfl | assumption) ?_ | refine pick_f (by first | rfl | assumption) ?_ | refine pick_dt rfl ?_ | refine pick_df (not_not_intro rfl) ?_
      exact leaf _ (by simp only [decide_eq_true_eq, Bool.false_eq_true, false_iff, true_iff] <;> first | contradiction | omega)
    · first | refine valP_ok (fa65_2 _ _) ?_ | refine valP_ok (fao65_2 _ _ _) ?_
      first | refine valP_ok (ld3 (hS.cell 0 rfl rfl)) ?_ | refine valP_ok (ld3 (hS.cell 1 rfl rfl)) ?_ | refine valP_ok (ld3 (hS.cell 2 rfl rfl)) ?_ | refine valP_ok (ld3 (hS.cell 3 rfl rfl)) ?_ | refine valP_ok (ld3 (hS.cell 4 rfl rfl)) ?_ | refine valP_ok (ld3 (hS.cell 5 rfl rfl)) ?_ | refine valP_ok (ld3 (hS.cell 6 rfl rfl)) ?_ | refine valP_ok (ld3 (hS.cell 7 rfl rfl)) ?_ | refine valP_ok (ld3 (by assumption)) ?_
      first | refine valP_ok (fa65_3 _ _) ?_ | refine valP_ok (fao65_3 _ _ _) ?_
      first | refine valP_ok (ld3 (hS.cell 0 rfl rfl)) ?_ | refine valP_ok (ld3 (hS.cell 1 rfl rfl)) ?_ | refine valP_ok (ld3 (hS.cell 2 rfl rfl)) ?_ | refine valP_ok (ld3 (hS.cell 3 rfl rfl)) ?_ | refine valP_ok (ld3 (hS.cell 4 rfl rfl)) ?_ | refine valP_ok (ld3 (hS.cell 5 rfl rfl)) ?_ | refine valP_ok (ld3 (hS.cell 6 rfl rfl)) ?_ | refine valP_ok (ld3 (hS.cell 7 rfl rfl)) ?_ | refine valP_ok (ld3 (by assumption)) ?_
      refine valP_ok (gtr_ok _ _ _ _ _ _ _) ?_
      first | refine pick_dt (by first | assumption | omega) ?_ | refine pick_df (by first | assumption | omega) ?_ | refine pick_t (by first | rfl | assumption) ?_ | refine pick_f (by first | rfl | assumption) ?_ | refine pick_dt rfl ?_ | refine pick_df (not_not_intro rfl) ?_
      exact leaf _ (by simp only [decide_eq_true_eq, Bool.false_eq_true, false_iff, true_iff] <;> first | contradiction | omega)
theorem encA_size {a : Ag} (ha : AgOk a) : (encA a).size ≤ 100 := by
  unfold encA
  split
  · have := fold_size (xs := agI a) ha ⟨#[]⟩
    have e : (⟨#[]⟩ : ByteArray).size = 0 := rfl
    unfold allS
    have e2 : (agI a).length = 10 := rfl
    omega
  · exact Nat.zero_le _
theorem encode_ret {a : Ag} (ha : AgOk a) (hS : St w0 F w L) : Ret Try.prog 47 #[agv a] w fun v w' => (∃ e, v = .tuple #[.string (encA a), .int .i64 e]) ∧ St w0 F w' L := by
  refine s47 _ ?_
  unfold m47
  unfold m47_0
  refine new_ok (bx65 _ _ _ _ _ _ _ _ _ _ _) hS ?_
  intro b1 w hS
  unfold m47_1
  first | refine ls65 0 hS rfl ?_ | refine ls65 1 hS rfl ?_ | refine ls65 2 hS rfl ?_ | refine ls65 3 hS rfl ?_ | refine ls65 4 hS rfl ?_ | refine ls65 5 hS rfl ?_ | refine ls65 6 hS rfl ?_ | refine ls65 7 hS rfl ?_ | refine valP_ok (ld65 (by assumption) (by assumption) (by assumption) (by assumption) (by assumption) (by assumption) (by assumption) (by assumption) (by assumption) (by assumption)) ?_
  refine callR (by kernel_rfl) (maya_ret hS) ?_
  rintro _ w ⟨⟨t, rfl, ht⟩, hS⟩
  first | refine valP_ok (not_ok _ _) ?_ | refine valP_ok (notb_ok _ _) ?_
  unfold m47_4
  cases t with
  | false =>
    refine cond_t rfl ?_
    unfold m47_5
    exact ⟨⟨1, by unfold encA; rw [if_neg (fun h => by have := ht.2 h; cases this)]⟩, hS.tail⟩
  | true =>
    refine cond_f rfl ?_
    unfold m47_2
    first | refine valP_ok (fa65_0 _ _) ?_ | refine valP_ok (fao65_0 _ _ _) ?_
    first | refine valP_ok (ld3 (hS.cell 0 rfl rfl)) ?_ | refine valP_ok (ld3 (hS.cell 1 rfl rfl)) ?_ | refine valP_ok (ld3 (hS.cell 2 rfl rfl)) ?_ | refine valP_ok (ld3 (hS.cell 3 rfl rfl)) ?_ | refine valP_ok (ld3 (hS.cell 4 rfl rfl)) ?_ | refine valP_ok (ld3 (hS.cell 5 rfl rfl)) ?_ | refine valP_ok (ld3 (hS.cell 6 rfl rfl)) ?_ | refine valP_ok (ld3 (hS.cell 7 rfl rfl)) ?_ | refine valP_ok (ld3 (by assumption)) ?_
    first | refine valP_ok (fa65_1 _ _) ?_ | refine valP_ok (fao65_1 _ _ _) ?_
    first | refine valP_ok (ld3 (hS.cell 0 rfl rfl)) ?_ | refine valP_ok (ld3 (hS.cell 1 rfl rfl)) ?_ | refine valP_ok (ld3 (hS.cell 2 rfl rfl)) ?_ | refine valP_ok (ld3 (hS.cell 3 rfl rfl)) ?_ | refine valP_ok (ld3 (hS.cell 4 rfl rfl)) ?_ | refine valP_ok (ld3 (hS.cell 5 rfl rfl)) ?_ | refine valP_ok (ld3 (hS.cell 6 rfl rfl)) ?_ | refine valP_ok (ld3 (hS.cell 7 rfl rfl)) ?_ | refine valP_ok (ld3 (by assumption)) ?_
    first | refine valP_ok (fa65_2 _ _) ?_ | refine valP_ok (fao65_2 _ _ _) ?_
    first | refine valP_ok (ld3 (hS.cell 0 rfl rfl)) ?_ | refine valP_ok (ld3 (hS.cell 1 rfl rfl)) ?_ | refine valP_ok (ld3 (hS.cell 2 rfl rfl)) ?_ | refine valP_ok (ld3 (hS.cell 3 rfl rfl)) ?_ | refine valP_ok (ld3 (hS.cell 4 rfl rfl)) ?_ | refine valP_ok (ld3 (hS.cell 5 rfl rfl)) ?_ | refine valP_ok (ld3 (hS.cell 6 rfl rfl)) ?_ | refine valP_ok (ld3 (hS.cell 7 rfl rfl)) ?_ | refine valP_ok (ld3 (by assumption)) ?_
    first | refine valP_ok (fa65_3 _ _) ?_ | refine valP_ok (fao65_3 _ _ _) ?_
    first | refine valP_ok (ld3 (hS.cell 0 rfl rfl)) ?_ | refine valP_ok (ld3 (hS.cell 1 rfl rfl)) ?_ | refine valP_ok (ld3 (hS.cell 2 rfl rfl)) ?_ | refine valP_ok (ld3 (hS.cell 3 rfl rfl)) ?_ | refine valP_ok (ld3 (hS.cell 4 rfl rfl)) ?_ | refine valP_ok (ld3 (hS.cell 5 rfl rfl)) ?_ | refine valP_ok (ld3 (hS.cell 6 rfl rfl)) ?_ | refine valP_ok (ld3 (hS.cell 7 rfl rfl)) ?_ | refine valP_ok (ld3 (by assumption)) ?_
    first | refine valP_ok (fa65_4 _ _) ?_ | refine valP_ok (fao65_4 _ _ _) ?_
    refine valP_ok (ixa63 (k := 0) (by omega) _) ?_
    first | refine valP_ok (ld3 (hS.cell 0 rfl rfl)) ?_ | refine valP_ok (ld3 (hS.cell 1 rfl rfl)) ?_ | refine valP_ok (ld3 (hS.cell 2 rfl rfl)) ?_ | refine valP_ok (ld3 (hS.cell 3 rfl rfl)) ?_ | refine valP_ok (ld3 (hS.cell 4 rfl rfl)) ?_ | refine valP_ok (ld3 (hS.cell 5 rfl rfl)) ?_ | refine valP_ok (ld3 (hS.cell 6 rfl rfl)) ?_ | refine valP_ok (ld3 (hS.cell 7 rfl rfl)) ?_ | refine valP_ok (ld3 (by assumption)) ?_
    first | refine valP_ok (fa65_4 _ _) ?_ | refine valP_ok (fao65_4 _ _ _) ?_
    refine valP_ok (ixa63 (k := 1) (by omega) _) ?_
    first | refine valP_ok (ld3 (hS.cell 0 rfl rfl)) ?_ | refine valP_ok (ld3 (hS.cell 1 rfl rfl)) ?_ | refine valP_ok (ld3 (hS.cell 2 rfl rfl)) ?_ | refine valP_ok (ld3 (hS.cell 3 rfl rfl)) ?_ | refine valP_ok (ld3 (hS.cell 4 rfl rfl)) ?_ | refine valP_ok (ld3 (hS.cell 5 rfl rfl)) ?_ | refine valP_ok (ld3 (hS.cell 6 rfl rfl)) ?_ | refine valP_ok (ld3 (hS.cell 7 rfl rfl)) ?_ | refine valP_ok (ld3 (by assumption)) ?_
    first | refine valP_ok (fa65_4 _ _) ?_ | refine valP_ok (fao65_4 _ _ _) ?_
    refine valP_ok (ixa63 (k := 2) (by omega) _) ?_
    first | refine valP_ok (ld3 (hS.cell 0 rfl rfl)) ?_ | refine valP_ok (ld3 (hS.cell 1 rfl rfl)) ?_ | refine valP_ok (ld3 (hS.cell 2 rfl rfl)) ?_ | refine valP_ok (ld3 (hS.cell 3 rfl rfl)) ?_ | refine valP_ok (ld3 (hS.cell 4 rfl rfl)) ?_ | refine valP_ok (ld3 (hS.cell 5 rfl rfl)) ?_ | refine valP_ok (ld3 (hS.cell 6 rfl rfl)) ?_ | refine valP_ok (ld3 (hS.cell 7 rfl rfl)) ?_ | refine valP_ok (ld3 (by assumption)) ?_
    first | refine valP_ok (fa65_4 _ _) ?_ | refine valP_ok (fao65_4 _ _ _) ?_
    refine valP_ok (ixa63 (k := 3) (by omega) _) ?_
    first | refine valP_ok (ld3 (hS.cell 0 rfl rfl)) ?_ | refine valP_ok (ld3 (hS.cell 1 rfl rfl)) ?_ | refine valP_ok (ld3 (hS.cell 2 rfl rfl)) ?_ | refine valP_ok (ld3 (hS.cell 3 rfl rfl)) ?_ | refine valP_ok (ld3 (hS.cell 4 rfl rfl)) ?_ | refine valP_ok (ld3 (hS.cell 5 rfl rfl)) ?_ | refine valP_ok (ld3 (hS.cell 6 rfl rfl)) ?_ | refine valP_ok (ld3 (hS.cell 7 rfl rfl)) ?_ | refine valP_ok (ld3 (by assumption)) ?_
    first | refine valP_ok (fa65_5 _ _) ?_ | refine valP_ok (fao65_5 _ _ _) ?_
    first | refine valP_ok (ld3 (hS.cell 0 rfl rfl)) ?_ | refine valP_ok (ld3 (hS.cell 1 rfl rfl)) ?_ | refine valP_ok (ld3 (hS.cell 2 rfl rfl)) ?_ | refine valP_ok (ld3 (hS.cell 3 rfl rfl)) ?_ | refine valP_ok (ld3 (hS.cell 4 rfl rfl)) ?_ | refine valP_ok (ld3 (hS.cell 5 rfl rfl)) ?_ | refine valP_ok (ld3 (hS.cell 6 rfl rfl)) ?_ | refine valP_ok (ld3 (hS.cell 7 rfl rfl)) ?_ | refine valP_ok (ld3 (by assumption)) ?_
    first | refine valP_ok (fa65_6 _ _) ?_ | refine valP_ok (fao65_6 _ _ _) ?_
    first | refine valP_ok (ld3 (hS.cell 0 rfl rfl)) ?_ | refine valP_ok (ld3 (hS.cell 1 rfl rfl)) ?_ | refine valP_ok (ld3 (hS.cell 2 rfl rfl)) ?_ | refine valP_ok (ld3 (hS.cell 3 rfl rfl)) ?_ | refine valP_ok (ld3 (hS.cell 4 rfl rfl)) ?_ | refine valP_ok (ld3 (hS.cell 5 rfl rfl)) ?_ | refine valP_ok (ld3 (hS.cell 6 rfl rfl)) ?_ | refine valP_ok (ld3 (hS.cell 7 rfl rfl)) ?_ | refine valP_ok (ld3 (by assumption)) ?_
    refine newslice_ok (bs51_10 rfl rfl rfl rfl rfl rfl rfl rfl rfl rfl _) hS ?_
    intro b31 w hS
    refine callR (by kernel_rfl) (all_ret (xs := agI a) ha (by simp) (Bes.of_cells 0 rfl rfl) hS) ?_
    rintro _ w ⟨rfl, hS⟩
    unfold m47_3
    exact ⟨⟨0, by unfold encA; rw [if_pos (ht.1 rfl)]⟩, hS.tail.tail⟩
end
end Go.Proofs.Ytnhgdngbdoifnaa.M
