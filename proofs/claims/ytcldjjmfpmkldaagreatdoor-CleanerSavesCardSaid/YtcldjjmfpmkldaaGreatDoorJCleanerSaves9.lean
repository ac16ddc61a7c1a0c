/- Parts of a proof, in one text: what it needs of H1, Mqs0, H2, H3, H4, E4, E5, H5, H6. -/
import Derived.Test.YtcldjjmfpmkldaaGreatDoorJCleanerSaves8
import Derived.Sort.Walk0
import Derived.Test.YtcldjjmfpmkldaaGreatDoorProg
namespace Go.Proofs.YtcldjjmfpmkldaaGreatDoor.M
open Go.Proofs.YtcldjjmfpmkldaaGreatDoor.F Go.RowKit
set_option linter.unusedVariables false
set_option linter.unusedSimpArgs false
set_option maxRecDepth 100000
set_option maxHeartbeats 2000000
attribute [local irreducible] Res.cells Res.row Res.map Res.any World.cell? World.frozen? Instr.fieldAt Instr.loadAt Instr.storeAt Instr.indexAt Instr.lookup Instr.mapUpdate Instr.box Instr.build Instr.buildSlice Instr.extract Instr.alloc Instr.field Instr.index Instr.sliceAt Instr.makeSlice Instr.makeMap Instr.makeFunc binS Op.unary Sem.run
theorem letter_iff (b : UInt8) : inL b = true ↔ ((97 ≤ (b.toNat : Int) ∧ (b.toNat : Int) ≤ 122) ∨ (48 ≤ (b.toNat : Int) ∧ (b.toNat : Int) ≤ 57) ∨ (b.toNat : Int) = 46 ∨ (b.toNat : Int) = 45) := by
  have h : (List.range 256).all (fun n => inL (UInt8.ofNat n) == (decide (97 ≤ n ∧ n ≤ 122) || decide (48 ≤ n ∧ n ≤ 57) || decide (n = 46) || decide (n = 45))) = true := by kernel_rfl
  have h1 := List.all_eq_true.1 h b.toNat (List.mem_range.2 (UInt8.toNat_lt b))
  rw [UInt8.ofNat_toNat] at h1
  rw [beq_iff_eq] at h1
  rw [h1]
  simp only [Bool.or_eq_true, decide_eq_true_eq]
  omega
theorem letterB_iff (b : UInt8) : inLB b = true ↔ ((97 ≤ (b.toNat : Int) ∧ (b.toNat : Int) ≤ 122) ∨ (48 ≤ (b.toNat : Int) ∧ (b.toNat : Int) ≤ 57) ∨ (b.toNat : Int) = 45) := by
  have h : (List.range 256).all (fun n => inLB (UInt8.ofNat n) == (decide (97 ≤ n ∧ n ≤ 122) || decide (48 ≤ n ∧ n ≤ 57) || decide (n = 45))) = true := by kernel_rfl
  have h1 := List.all_eq_true.1 h b.toNat (List.mem_range.2 (UInt8.toNat_lt b))
  rw [UInt8.ofNat_toNat] at h1
  rw [beq_iff_eq] at h1
  rw [h1]
  simp only [Bool.or_eq_true, decide_eq_true_eq]
  omega
theorem slt (x y : Operand) (a b : ByteArray) (w : World) : (binS .lss 9 x y (.string a) (.string b)).run Tryz.prog w = .ok (.bool (decide (lst a < lst b))) w := by
  rw [binS_run _ _ _ _ _ _ (by kernel_rfl), binOp_string_lss, bytesLess_eq, ByteArray.toList_eq, ByteArray.toList_eq]
  simp [lst]
section
variable {w0 w : World} {F : List Nat} {L : List Res} {s : ByteArray}
theorem named46_ret (hS : St w0 F w L) : Ret Tryz.prog 46 #[.string s] w fun v w' => v = .bool (decide (Named s)) ∧ St w0 F w' L := by
  refine s46 _ ?_
  unfold m46
  unfold m46_0
  have bad : ¬ Named s → ∀ w, St w0 F w L → (.bool false = Value.bool (decide (Named s)) ∧ St w0 F w L) := fun h w hS => ⟨by rw [decide_eq_false h], hS⟩
  have leaf : ∀ t : Bool, (t = true ↔ ¬ (0 < s.size ∧ s.size ≤ 24)) → m46_13 (fun v w' => v = .bool (decide (Named s)) ∧ St w0 F w' L) (.string s) (.bool t) w := fun t ht => by
    unfold m46_13
    cases t with
    | true =>
      refine cond_t rfl ?_
      unfold m46_14
      exact bad (fun h => ht.1 rfl ⟨h.1, h.2.1⟩) w hS
    | false =>
      have hz : 0 < s.size ∧ s.size ≤ 24 := Classical.byContradiction fun h => by have := ht.2 h; cases this
      refine cond_f rfl ?_
      unfold m46_2 m46_5
      refine loop_in (fun u w' => ∃ i : Nat, u = .int .i64 (i : Int) ∧ i ≤ s.size ∧ (∀ j (h : j < s.size), j < i → inL s[j] = true) ∧ St w0 F w' L) (fun u _ => s.size - (intOf u).toNat) ⟨0, rfl, by omega, fun j _ h => by omega, hS⟩ ?_
      clear hS
      rintro u w ⟨i, rfl, hi, hno, hS⟩
      unfold m46_6
      refine builtin_ok (len9 _) ?_
      refine valP_ok (lss_ok _ _ _ _ _ _ _) ?_
      unfold m46_12
      refine cond_split (fun h => ?_) (fun h => ?_)
      · have hil : i < s.size := by omega
        have hl := letter_iff s[i]
        unfold m46_7
        refine valP_ok (sidx _ hil) ?_
        generalize (s[i].toNat : Int) = x at hl
        have last : ∀ (K1 : Value → World → Prop), (inL s[i] = true → K1 (.int .i64 ((i + 1 : Nat) : Int)) w) → ∀ t : Bool, (t = true ↔ ¬ inL s[i] = true) → m46_10 (fun v w' => v = .bool (decide (Named s)) ∧ St w0 F w' L) K1 (.string s) (.int .i64 (i : Int)) (.bool t) w := fun K1 hK t ht => by
          unfold m46_10
          cases t with
          | true =>
            refine cond_t rfl ?_
            unfold m46_11
            exact bad (fun h => ht.1 rfl (h.2.2 i hil)) w hS
          | false =>
            refine cond_f rfl ?_
            unfold m46_8
            refine valP_ok (add_ok _ _ _ (by omega) (by omega) _) ?_
            exact hK (Classical.byContradiction fun h => by have := ht.2 h; cases this)
        have go : inL s[i] = true → ∀ j (h : j < s.size), j < i + 1 → inL s[j] = true := fun h1 j hj hlt => by
          rcases Nat.lt_or_ge j i with g | g
          · exact hno j hj g
          · obtain rfl : j = i := by omega
            exact h1
        rw [hl] at last
        unfold m46_9
        refine valP_ok (geq_ok _ _ _ _ _ _ _) ?_
        refine cond_split (fun hc0 => ?_) (fun hc0 => ?_)
        · refine valP_ok (leq_ok _ _ _ _ _ _ _) ?_
          refine pick_dt (by first | assumption | omega) ?_
          refine cond_split (fun hc1 => ?_) (fun hc1 => ?_)
          · refine pick_dt (by first | assumption | omega) ?_
            refine pick_t (by first | rfl | assumption) ?_
            refine pick_t (by first | rfl | assumption) ?_
            refine valP_ok (notb_ok _ _) ?_
            exact last _ (fun h1 => ⟨⟨i + 1, rfl, by omega, go (hl.2 h1), hS⟩, by simp [intOf]; omega⟩) _ (by simp only [decide_eq_true_eq, Bool.false_eq_true, Bool.not_true, Bool.not_false, false_iff, true_iff, Classical.not_not] <;> first | contradiction | omega)
          · refine valP_ok (geq_ok _ _ _ _ _ _ _) ?_
            refine cond_split (fun hc2 => ?_) (fun hc2 => ?_)
            · refine valP_ok (leq_ok _ _ _ _ _ _ _) ?_
              refine pick_dt (by first | assumption | omega) ?_
              refine pick_df (by first | assumption | omega) ?_
              refine cond_split (fun hc3 => ?_) (fun hc3 => ?_)
              · refine pick_dt (by first | assumption | omega) ?_
                refine pick_t (by first | rfl | assumption) ?_
                refine valP_ok (notb_ok _ _) ?_
                exact last _ (fun h1 => ⟨⟨i + 1, rfl, by omega, go (hl.2 h1), hS⟩, by simp [intOf]; omega⟩) _ (by simp only [decide_eq_true_eq, Bool.false_eq_true, Bool.not_true, Bool.not_false, false_iff, true_iff, Classical.not_not] <;> first | contradiction | omega)
              · refine valP_ok (eq5 _ _ _ _ _) ?_
                refine pick_df (by first | assumption | omega) ?_
                refine cond_split (fun hc4 => ?_) (fun hc4 => ?_)
                · refine pick_dt (by first | assumption | omega) ?_
                  refine valP_ok (notb_ok _ _) ?_
                  exact last _ (fun h1 => ⟨⟨i + 1, rfl, by omega, go (hl.2 h1), hS⟩, by simp [intOf]; omega⟩) _ (by simp only [decide_eq_true_eq, Bool.false_eq_true, Bool.not_true, Bool.not_false, false_iff, true_iff, Classical.not_not] <;> first | contradiction | omega)
                · refine valP_ok (eq5 _ _ _ _ _) ?_
                  refine pick_df (by first | assumption | omega) ?_
                  refine valP_ok (not_ok _ _) ?_
                  exact last _ (fun h1 => ⟨⟨i + 1, rfl, by omega, go (hl.2 h1), hS⟩, by simp [intOf]; omega⟩) _ (by simp only [decide_eq_true_eq, Bool.false_eq_true, Bool.not_true, Bool.not_false, false_iff, true_iff, Classical.not_not] <;> first | contradiction | omega)
            · refine pick_dt (by first | assumption | omega) ?_
              refine pick_dt (by first | assumption | omega) ?_
              refine valP_ok (eq5 _ _ _ _ _) ?_
              refine pick_t (by first | rfl | assumption) ?_
              refine cond_bsplit (fun hc3 => ?_) (fun hc3 => ?_)
              · refine pick_dt (by first | assumption | omega) ?_
                refine valP_ok (notb_ok _ _) ?_
                exact last _ (fun h1 => ⟨⟨i + 1, rfl, by omega, go (hl.2 h1), hS⟩, by simp [intOf]; omega⟩) _ (by simp only [decide_eq_true_eq, Bool.false_eq_true, Bool.not_true, Bool.not_false, false_iff, true_iff, Classical.not_not] <;> first | contradiction | omega)
              · refine valP_ok (eq5 _ _ _ _ _) ?_
                refine pick_t (by first | rfl | assumption) ?_
                refine valP_ok (notb_ok _ _) ?_
                exact last _ (fun h1 => ⟨⟨i + 1, rfl, by omega, go (hl.2 h1), hS⟩, by simp [intOf]; omega⟩) _ (by simp only [decide_eq_true_eq, Bool.false_eq_true, Bool.not_true, Bool.not_false, false_iff, true_iff, Classical.not_not] <;> first | contradiction | omega)
        · refine pick_df (by first | assumption | omega) ?_
          refine valP_ok (geq_ok _ _ _ _ _ _ _) ?_
          refine cond_split (fun hc1 => ?_) (fun hc1 => ?_)
          · refine valP_ok (leq_ok _ _ _ _ _ _ _) ?_
            refine pick_dt (by first | assumption | omega) ?_
            refine pick_f (by first | rfl | assumption) ?_
            refine cond_split (fun hc2 => ?_) (fun hc2 => ?_)
            · refine pick_dt (by first | assumption | omega) ?_
              refine pick_t (by first | rfl | assumption) ?_
              refine valP_ok (notb_ok _ _) ?_
              exact last _ (fun h1 => ⟨⟨i + 1, rfl, by omega, go (hl.2 h1), hS⟩, by simp [intOf]; omega⟩) _ (by simp only [decide_eq_true_eq, Bool.false_eq_true, Bool.not_true, Bool.not_false, false_iff, true_iff, Classical.not_not] <;> first | contradiction | omega)
            · refine valP_ok (eq5 _ _ _ _ _) ?_
              refine pick_df (by first | assumption | omega) ?_
              refine cond_split (fun hc3 => ?_) (fun hc3 => ?_)
              · refine pick_dt (by first | assumption | omega) ?_
                refine valP_ok (notb_ok _ _) ?_
                exact last _ (fun h1 => ⟨⟨i + 1, rfl, by omega, go (hl.2 h1), hS⟩, by simp [intOf]; omega⟩) _ (by simp only [decide_eq_true_eq, Bool.false_eq_true, Bool.not_true, Bool.not_false, false_iff, true_iff, Classical.not_not] <;> first | contradiction | omega)
              · refine valP_ok (eq5 _ _ _ _ _) ?_
                refine pick_df (by first | assumption | omega) ?_
                refine valP_ok (not_ok _ _) ?_
                exact last _ (fun h1 => ⟨⟨i + 1, rfl, by omega, go (hl.2 h1), hS⟩, by simp [intOf]; omega⟩) _ (by simp only [decide_eq_true_eq, Bool.false_eq_true, Bool.not_true, Bool.not_false, false_iff, true_iff, Classical.not_not] <;> first | contradiction | omega)
          · refine pick_df (by first | assumption | omega) ?_
            refine pick_f (by first | rfl | assumption) ?_
            refine valP_ok (eq5 _ _ _ _ _) ?_
            refine pick_f (by first | rfl | assumption) ?_
            refine cond_split (fun hc2 => ?_) (fun hc2 => ?_)
            · refine pick_dt (by first | assumption | omega) ?_
              refine valP_ok (notb_ok _ _) ?_
              exact last _ (fun h1 => ⟨⟨i + 1, rfl, by omega, go (hl.2 h1), hS⟩, by simp [intOf]; omega⟩) _ (by simp only [decide_eq_true_eq, Bool.false_eq_true, Bool.not_true, Bool.not_false, false_iff, true_iff, Classical.not_not] <;> first | contradiction | omega)
            · refine valP_ok (eq5 _ _ _ _ _) ?_
              refine pick_df (by first | assumption | omega) ?_
              refine valP_ok (not_ok _ _) ?_
              exact last _ (fun h1 => ⟨⟨i + 1, rfl, by omega, go (hl.2 h1), hS⟩, by simp [intOf]; omega⟩) _ (by simp only [decide_eq_true_eq, Bool.false_eq_true, Bool.not_true, Bool.not_false, false_iff, true_iff, Classical.not_not] <;> first | contradiction | omega)
      · unfold m46_3 m46_4
        refine ⟨?_, hS⟩
        rw [decide_eq_true ⟨hz.1, hz.2, fun j hj => hno j hj (by omega)⟩]
  unfold m46_1
  refine builtin_ok (len9 _) ?_
  refine valP_ok (eq3 _ _ _ _ _) ?_
  refine cond_split (fun hc0 => ?_) (fun hc0 => ?_)
  · refine pick_dt (by first | assumption | omega) ?_
    exact leaf _ (by simp only [decide_eq_true_eq, Bool.false_eq_true, false_iff, true_iff] <;> first | contradiction | omega)
  · refine builtin_ok (len9 _) ?_
    refine valP_ok (gtr_ok _ _ _ _ _ _ _) ?_
    refine pick_df (by first | assumption | omega) ?_
    exact leaf _ (by simp only [decide_eq_true_eq, Bool.false_eq_true, false_iff, true_iff] <;> first | contradiction | omega)
end
end Go.Proofs.YtcldjjmfpmkldaaGreatDoor.M
namespace Go.Proofs.YtcldjjmfpmkldaaGreatDoor.M
open Go.Proofs.YtcldjjmfpmkldaaGreatDoor.F
set_option linter.unusedVariables false
set_option maxRecDepth 100000
variable {R : VP} {Q : EQ}
def m40_13 (R : VP) (t2 : Value) (w : World) : Prop :=
  R t2 w
def m40_10 (R : VP) (K1 : VP) (t2 : Value) (w : World) : Prop :=
  R t2 w
def m40_8 (R : VP) (K1 : VP) (s0 i3 : Value) (w : World) : Prop :=
  valP Tryz.prog (binS BinOp.add 3 (tm 16) (ci 1) i3 (vi 1)) w fun t17 w =>
  K1 t17 w
def m40_9 (R : VP) (K1 : VP) (s0 i3 t46 : Value) (w : World) : Prop :=
  condP t46
  (m40_10 R K1 (Value.bool false) w)
  (m40_8 R K1 s0 i3 w)
def m40_7 (R : VP) (K1 : VP) (s0 i3 : Value) (w : World) : Prop :=
  valP Tryz.prog (Instr.index 9 s0 i3) w fun t20 w =>
  valP Tryz.prog (binS BinOp.geq 5 (tm 20) (Operand.const (Value.int IntKind.u8 97)) t20 (Value.int IntKind.u8 97)) w fun t21 w =>
  condP t21
  (valP Tryz.prog (Instr.index 9 s0 i3) w fun t25 w =>
  valP Tryz.prog (binS BinOp.leq 5 (tm 25) (Operand.const (Value.int IntKind.u8 122)) t25 (Value.int IntKind.u8 122)) w fun t26 w =>
  pickP t21 t26 (Value.bool false) fun t27 =>
  condP t27
  (pickP t27 (Value.bool true) undef fun t39 =>
  pickP t39 (Value.bool true) undef fun t45 =>
  valP Tryz.prog (Op.unary UnOp.not t45) w fun t46 w =>
  m40_9 R K1 s0 i3 t46 w)
  (valP Tryz.prog (Instr.index 9 s0 i3) w fun t31 w =>
  valP Tryz.prog (binS BinOp.geq 5 (tm 31) (Operand.const (Value.int IntKind.u8 48)) t31 (Value.int IntKind.u8 48)) w fun t32 w =>
  condP t32
  (valP Tryz.prog (Instr.index 9 s0 i3) w fun t36 w =>
  valP Tryz.prog (binS BinOp.leq 5 (tm 36) (Operand.const (Value.int IntKind.u8 57)) t36 (Value.int IntKind.u8 57)) w fun t37 w =>
  pickP t32 t37 (Value.bool false) fun t38 =>
  pickP t27 (Value.bool true) t38 fun t39 =>
  condP t39
  (pickP t39 (Value.bool true) undef fun t45 =>
  valP Tryz.prog (Op.unary UnOp.not t45) w fun t46 w =>
  m40_9 R K1 s0 i3 t46 w)
  (valP Tryz.prog (Instr.index 9 s0 i3) w fun t43 w =>
  valP Tryz.prog (binS BinOp.eql 5 (tm 43) (Operand.const (Value.int IntKind.u8 45)) t43 (Value.int IntKind.u8 45)) w fun t44 w =>
  pickP t39 (Value.bool true) t44 fun t45 =>
  valP Tryz.prog (Op.unary UnOp.not t45) w fun t46 w =>
  m40_9 R K1 s0 i3 t46 w))
  (pickP t32 undef (Value.bool false) fun t38 =>
  pickP t27 (Value.bool true) t38 fun t39 =>
  valP Tryz.prog (Instr.index 9 s0 i3) w fun t43 w =>
  valP Tryz.prog (binS BinOp.eql 5 (tm 43) (Operand.const (Value.int IntKind.u8 45)) t43 (Value.int IntKind.u8 45)) w fun t44 w =>
  pickP t39 (Value.bool true) t44 fun t45 =>
  valP Tryz.prog (Op.unary UnOp.not t45) w fun t46 w =>
  m40_9 R K1 s0 i3 t46 w)))
  (pickP t21 undef (Value.bool false) fun t27 =>
  valP Tryz.prog (Instr.index 9 s0 i3) w fun t31 w =>
  valP Tryz.prog (binS BinOp.geq 5 (tm 31) (Operand.const (Value.int IntKind.u8 48)) t31 (Value.int IntKind.u8 48)) w fun t32 w =>
  condP t32
  (valP Tryz.prog (Instr.index 9 s0 i3) w fun t36 w =>
  valP Tryz.prog (binS BinOp.leq 5 (tm 36) (Operand.const (Value.int IntKind.u8 57)) t36 (Value.int IntKind.u8 57)) w fun t37 w =>
  pickP t32 t37 (Value.bool false) fun t38 =>
  pickP t27 (Value.bool true) t38 fun t39 =>
  condP t39
  (pickP t39 (Value.bool true) undef fun t45 =>
  valP Tryz.prog (Op.unary UnOp.not t45) w fun t46 w =>
  m40_9 R K1 s0 i3 t46 w)
  (valP Tryz.prog (Instr.index 9 s0 i3) w fun t43 w =>
  valP Tryz.prog (binS BinOp.eql 5 (tm 43) (Operand.const (Value.int IntKind.u8 45)) t43 (Value.int IntKind.u8 45)) w fun t44 w =>
  pickP t39 (Value.bool true) t44 fun t45 =>
  valP Tryz.prog (Op.unary UnOp.not t45) w fun t46 w =>
  m40_9 R K1 s0 i3 t46 w))
  (pickP t32 undef (Value.bool false) fun t38 =>
  pickP t27 (Value.bool true) t38 fun t39 =>
  valP Tryz.prog (Instr.index 9 s0 i3) w fun t43 w =>
  valP Tryz.prog (binS BinOp.eql 5 (tm 43) (Operand.const (Value.int IntKind.u8 45)) t43 (Value.int IntKind.u8 45)) w fun t44 w =>
  pickP t39 (Value.bool true) t44 fun t45 =>
  valP Tryz.prog (Op.unary UnOp.not t45) w fun t46 w =>
  m40_9 R K1 s0 i3 t46 w))
def m40_4 (R : VP) (t2 : Value) (w : World) : Prop :=
  R t2 w
def m40_3 (R : VP) (w : World) : Prop :=
  m40_4 R (Value.bool true) w
def m40_11 (R : VP) (K1 : VP) (s0 i3 t15 : Value) (w : World) : Prop :=
  condP t15
  (m40_7 R K1 s0 i3 w)
  (m40_3 R w)
def m40_6 (R : VP) (K1 : VP) (s0 i3 : Value) (w : World) : Prop :=
  builtinP Tryz.prog Builtin.len #[9] 3 #[false] #[s0] w fun t14 w =>
  valP Tryz.prog (binS BinOp.lss 3 (tm 12) (tm 14) i3 t14) w fun t15 w =>
  m40_11 R K1 s0 i3 t15 w
def m40_5 (R : VP) (s0 i3 : Value) (w : World) : Prop :=
  loopP (fun (K1 : VP) (s : Value) w => m40_6 R K1 s0 s w) i3 w
def m40_2 (R : VP) (s0 : Value) (w : World) : Prop :=
  m40_5 R s0 (vi 0) w
def m40_12 (R : VP) (s0 t11 : Value) (w : World) : Prop :=
  condP t11
  (m40_13 R (Value.bool false) w)
  (m40_2 R s0 w)
def m40_1 (R : VP) (s0 : Value) (w : World) : Prop :=
  builtinP Tryz.prog Builtin.len #[9] 3 #[false] #[s0] w fun t5 w =>
  valP Tryz.prog (binS BinOp.lss 3 (tm 5) (ci 1) t5 (vi 1)) w fun t6 w =>
  condP t6
  (pickP t6 (Value.bool true) undef fun t11 =>
  m40_12 R s0 t11 w)
  (builtinP Tryz.prog Builtin.len #[9] 3 #[false] #[s0] w fun t9 w =>
  valP Tryz.prog (binS BinOp.gtr 3 (tm 9) (ci 16) t9 (vi 16)) w fun t10 w =>
  pickP t6 (Value.bool true) t10 fun t11 =>
  m40_12 R s0 t11 w)
def m40_0 (R : VP) (s0 : Value) (w : World) : Prop :=
  m40_1 R s0 w
abbrev W40 := cwp Tryz.prog (fun i => 0)
noncomputable def k40_0 := bodyOf Tryz.f40
noncomputable def k40_1 := c2 k40_0
noncomputable def k40_2 := c2 k40_1
noncomputable def k40_3 := c2 k40_2
noncomputable def k40_4 := c2 k40_3
noncomputable def k40_5 := c2 (c1 k40_2)
noncomputable def k40_6 := c1 (c1 k40_5)
noncomputable def k40_7 := c2 k40_6
noncomputable def k40_8 := c2 k40_7
noncomputable def k40_9 := c2 (c1 (c1 k40_7))
noncomputable def k40_10 := c2 (c1 k40_9)
noncomputable def k40_11 := c2 (c1 k40_6)
noncomputable def k40_12 := c2 (c1 k40_1)
noncomputable def k40_13 := c2 (c1 k40_12)
abbrev hR40 (R : VP) (Q : EQ) : Prop := ∀ e w, (R (e 2) w) → Q .ret e w
theorem s40_13 (hR : hR40 R Q) (e : Env) (w : World) (h : m40_13 R (e 2) w) : W40 k40_13 Q e w := by
  exact reA (hR _ _ h)
theorem s40_10 {K1 : VP} (hR : hR40 R Q) (e : Env) (w : World) (h : m40_10 R K1 (e 2) w) : W40 k40_10 Q e w := by
  exact reA (hR _ _ h)
theorem s40_8 {K1 : VP} (hN : ∀ e w, (K1 (e 3) w) → Q .normal e w) (e : Env) (w : World) (h : m40_8 R K1 (e 0) (e 3) w) : W40 k40_8 Q e w := by
  exact rgA 5 (fun e w => K1 (e 3) w) h hN
theorem s40_9 {K1 : VP} (hN : ∀ e w, (m40_8 R K1 (e 0) (e 3) w) → Q .normal e w) (hR : hR40 R Q) (e : Env) (w : World) (h : m40_9 R K1 (e 0) (e 3) (e 46) w) : W40 k40_9 Q e w := by
  refine coA (Operand.tmp 46) h (fun h1 => ?_) (fun h1 => ?_)
  · refine seA ?_
    exact rgA 7 (fun e w => m40_10 R K1 (e 2) w) h1 fun e w h => then_N (s40_10 hR e w h)
  · exact skA (hN _ _ h1)
theorem s40_7 {K1 : VP} (hN : ∀ e w, (K1 (e 3) w) → Q .normal e w) (hR : hR40 R Q) (e : Env) (w : World) (h : m40_7 R K1 (e 0) (e 3) w) : W40 k40_7 Q e w := by
  refine seA ?_
  have hN : ∀ e w, (m40_8 R K1 (e 0) (e 3) w) → (thenE (W40 k40_8 Q) Q) .normal e w := fun e w h => then_N (s40_8 hN e w h)
  have hR : hR40 R (thenE (W40 k40_8 Q) Q) := fun e w h => then_R (hR e w h)
  refine block_ok 1 (by kernel_rfl) ?_
  have hN : ∀ e w, (m40_8 R K1 (e 0) (e 3) w) → (inBlockE 1 (thenE (W40 k40_8 Q) Q)) .normal e w := fun e w h => block_N (hN e w h)
  have hR : hR40 R (inBlockE 1 (thenE (W40 k40_8 Q) Q)) := fun e w h => block_R (hR e w h)
  refine seA ?_
  have hN : ∀ e w, (m40_9 R K1 (e 0) (e 3) (e 46) w) → (thenE (W40 k40_9 (inBlockE 1 (thenE (W40 k40_8 Q) Q))) (inBlockE 1 (thenE (W40 k40_8 Q) Q))) .normal e w := fun e w h => then_N (s40_9 (R := R) (Q := (inBlockE 1 (thenE (W40 k40_8 Q) Q))) hN hR e w h)
  exact rgK 6 (fun e w => m40_9 R K1 (e 0) (e 3) (e 46) w) h hN
theorem s40_4 (hR : hR40 R Q) (e : Env) (w : World) (h : m40_4 R (e 2) w) : W40 k40_4 Q e w := by
  exact reA (hR _ _ h)
theorem s40_3 (hR : hR40 R Q) (e : Env) (w : World) (h : m40_3 R w) : W40 k40_3 Q e w := by
  refine seA ?_
  exact rgA 8 (fun e w => m40_4 R (e 2) w) h fun e w h => then_N (s40_4 hR e w h)
theorem s40_11 {K1 : VP} (hN : ∀ e w, (m40_7 R K1 (e 0) (e 3) w) → Q .normal e w) (hX0 : ∀ e w, (m40_3 R w) → Q (.exit 0) e w) (e : Env) (w : World) (h : m40_11 R K1 (e 0) (e 3) (e 15) w) : W40 k40_11 Q e w := by
  refine coA (Operand.tmp 15) h (fun h1 => ?_) (fun h1 => ?_)
  · exact skA (hN _ _ h1)
  · exact exA 0 (hX0 _ _ h1)
theorem s40_6 {K1 : VP} (hN : ∀ e w, (K1 (e 3) w) → Q .normal e w) (hR : hR40 R Q) (hX0 : ∀ e w, (m40_3 R w) → Q (.exit 0) e w) (e : Env) (w : World) (h : m40_6 R K1 (e 0) (e 3) w) : W40 k40_6 Q e w := by
  refine seA ?_
  have hN : ∀ e w, (m40_7 R K1 (e 0) (e 3) w) → (thenE (W40 k40_7 Q) Q) .normal e w := fun e w h => then_N (s40_7 hN hR e w h)
  have hX0 : ∀ e w, (m40_3 R w) → (thenE (W40 k40_7 Q) Q) (.exit 0) e w := fun e w h => then_X (hX0 e w h)
  refine seA ?_
  exact rgA 4 (fun e w => m40_11 R K1 (e 0) (e 3) (e 15) w) h fun e w h => then_N (s40_11 hN hX0 e w h)
theorem s40_5 (hN : ∀ e w, (m40_3 R w) → Q .normal e w) (hR : hR40 R Q) (e : Env) (w : World) (h : m40_5 R (e 0) (e 3) w) : W40 k40_5 Q e w := by
  refine block_ok 0 (by kernel_rfl) ?_
  have hX0 : ∀ e w, (m40_3 R w) → (inBlockE 0 Q) (.exit 0) e w := fun e w h => inBlock_same (Q := Q) 0 (hN e w h)
  have hR : hR40 R (inBlockE 0 Q) := fun e w h => block_R (hR e w h)
  refine loop_ok' (fun (e : Env) => e 3) [0] (by kernel_rfl) (by kernel_rfl) h (fun K e' w' hk h' => ?_)
  have r0 : e' 0 = e 0 := hk 0 (by decide)
  have hR : hR40 R (thenE (fun (e : Env) w => K (e 3) w) (inBlockE 0 Q)) := fun e w h => then_R (hR e w h)
  have hX0 : ∀ e w, (m40_3 R w) → (thenE (fun (e : Env) w => K (e 3) w) (inBlockE 0 Q)) (.exit 0) e w := fun e w h => then_X (hX0 e w h)
  exact s40_6 (K1 := K) (fun _ _ h => then_N h) hR hX0 e' w' (by rw [r0]; exact h')
theorem s40_2 (hR : hR40 R Q) (e : Env) (w : World) (h : m40_2 R (e 0) w) : W40 k40_2 Q e w := by
  refine seA ?_
  have hN : ∀ e w, (m40_3 R w) → (thenE (W40 k40_3 Q) Q) .normal e w := fun e w h => then_N (s40_3 hR e w h)
  have hR : hR40 R (thenE (W40 k40_3 Q) Q) := fun e w h => then_R (hR e w h)
  refine seA ?_
  exact rgA 3 (fun e w => m40_5 R (e 0) (e 3) w) h fun e w h => then_N (s40_5 hN hR e w h)
theorem s40_12 (hN : ∀ e w, (m40_2 R (e 0) w) → Q .normal e w) (hR : hR40 R Q) (e : Env) (w : World) (h : m40_12 R (e 0) (e 11) w) : W40 k40_12 Q e w := by
  refine coA (Operand.tmp 11) h (fun h1 => ?_) (fun h1 => ?_)
  · refine seA ?_
    exact rgA 2 (fun e w => m40_13 R (e 2) w) h1 fun e w h => then_N (s40_13 hR e w h)
  · exact skA (hN _ _ h1)
theorem s40_1 (hR : hR40 R Q) (e : Env) (w : World) (h : m40_1 R (e 0) w) : W40 k40_1 Q e w := by
  refine seA ?_
  have hN : ∀ e w, (m40_2 R (e 0) w) → (thenE (W40 k40_2 Q) Q) .normal e w := fun e w h => then_N (s40_2 hR e w h)
  have hR : hR40 R (thenE (W40 k40_2 Q) Q) := fun e w h => then_R (hR e w h)
  refine seA ?_
  exact rgA 1 (fun e w => m40_12 R (e 0) (e 11) w) h fun e w h => then_N (s40_12 hN hR e w h)
theorem s40_0 (hR : hR40 R Q) (e : Env) (w : World) (h : m40_0 R (e 0) w) : W40 k40_0 Q e w := by
  refine seA ?_
  exact rgA 0 (fun e w => m40_1 R (e 0) w) h fun e w h => then_N (s40_1 hR e w h)
abbrev m40 (R : VP) (s0 : Value) (w : World) : Prop := m40_0 R s0 w
theorem s40 (s0 : Value) {R : VP} {w : World} (h : m40 R s0 w) :
    Calls Tryz.prog 40 #[s0] w fun e w' => ∃ v, e = .returned v ∧ R v w' :=
  calls_of_cwp (st := (fun i => 0)) (c := k40_0) (by kernel_rfl) Tryz.func40 (by kernel_rfl) (Nat.le_of_ble_eq_true (by kernel_rfl)) (by kernel_rfl)
    (s40_0 (R := R) (Q := endE Tryz.prog Tryz.f40 R) (fun e w h => kcast (by kernel_rfl) h) (argsE #[s0]) w (kcast (by kernel_rfl) h))
def m15_21 (R : VP) (t6 : Value) (w : World) : Prop :=
  R t6 w
def m15_18 (R : VP) (K1 : (Value × Value) → World → Prop) (d0 name1 s7 e8 old9 i10 : Value) (w : World) : Prop :=
  valP Tryz.prog (binS BinOp.add 3 (tm 30) (ci 1) i10 (vi 1)) w fun t31 w =>
  K1 (old9, t31) w
def m15_17 (R : VP) (K1 : (Value × Value) → World → Prop) (d0 name1 s7 e8 old9 i10 : Value) (w : World) : Prop :=
  condP old9
  (pickP old9 (Value.bool true) undef fun t45 =>
  m15_18 R K1 d0 name1 s7 e8 t45 i10 w)
  (nilCheckP d0 fun t35 =>
  valP Tryz.prog (Instr.fieldAt 41 t35 0) w fun t36 w =>
  valP Tryz.prog (Instr.loadAt 39 t36) w fun t37 w =>
  valP Tryz.prog (Instr.indexAt 39 t37 i10) w fun t39 w =>
  valP Tryz.prog (Instr.fieldAt 67 t39 0) w fun t40 w =>
  valP Tryz.prog (Instr.loadAt 9 t40) w fun t41 w =>
  valP Tryz.prog (binS BinOp.add 9 (tm 42) (Operand.const (Value.string ⟨#[46, 110, 101, 119]⟩)) name1 (Value.string ⟨#[46, 110, 101, 119]⟩)) w fun t43 w =>
  valP Tryz.prog (binS BinOp.eql 9 (tm 41) (tm 43) t41 t43) w fun t44 w =>
  pickP old9 (Value.bool true) t44 fun t45 =>
  m15_18 R K1 d0 name1 s7 e8 t45 i10 w)
def m15_10 (R : VP) (t6 : Value) (w : World) : Prop :=
  R t6 w
def m15_9 (R : VP) (e8 : Value) (w : World) : Prop :=
  m15_10 R e8 w
def m15_11 (R : VP) (d0 name1 e8 t65 : Value) (w : World) : Prop :=
  condP t65
  (valP Tryz.prog (binS BinOp.add 9 (tm 67) (Operand.const (Value.string ⟨#[46, 110, 101, 119]⟩)) name1 (Value.string ⟨#[46, 110, 101, 119]⟩)) w fun t68 w =>
  callP Tryz.prog (fnV 43) #[d0, t68, name1] w fun t70 w =>
  m15_9 R t70 w)
  (m15_9 R e8 w)
def m15_8 (R : VP) (d0 name1 e8 : Value) (w : World) : Prop :=
  valP Tryz.prog (binS BinOp.eql 3 (tm 64) (ci 0) e8 (vi 0)) w fun t65 w =>
  m15_11 R d0 name1 e8 t65 w
def m15_12 (R : VP) (d0 name1 e8 t59 : Value) (w : World) : Prop :=
  condP t59
  (valP Tryz.prog (binS BinOp.add 9 (tm 61) (Operand.const (Value.string ⟨#[46, 110, 101, 119]⟩)) name1 (Value.string ⟨#[46, 110, 101, 119]⟩)) w fun t62 w =>
  callP Tryz.prog (fnV 42) #[d0, t62] w fun t63 w =>
  m15_8 R d0 name1 t63 w)
  (m15_8 R d0 name1 e8 w)
def m15_7 (R : VP) (d0 name1 e8 : Value) (w : World) : Prop :=
  valP Tryz.prog (binS BinOp.eql 3 (tm 58) (ci 0) e8 (vi 0)) w fun t59 w =>
  m15_12 R d0 name1 e8 t59 w
def m15_13 (R : VP) (d0 name1 s7 e8 t52 : Value) (w : World) : Prop :=
  condP t52
  (valP Tryz.prog (binS BinOp.add 9 (tm 54) (Operand.const (Value.string ⟨#[46, 110, 101, 119]⟩)) name1 (Value.string ⟨#[46, 110, 101, 119]⟩)) w fun t55 w =>
  callP Tryz.prog (fnV 18) #[d0, t55, s7] w fun t57 w =>
  m15_7 R d0 name1 t57 w)
  (m15_7 R d0 name1 e8 w)
def m15_6 (R : VP) (d0 name1 s7 e8 : Value) (w : World) : Prop :=
  valP Tryz.prog (binS BinOp.eql 3 (tm 51) (ci 0) e8 (vi 0)) w fun t52 w =>
  m15_13 R d0 name1 s7 e8 t52 w
def m15_14 (R : VP) (d0 name1 s7 e8 t46 : Value) (w : World) : Prop :=
  condP t46
  (valP Tryz.prog (binS BinOp.add 9 (tm 48) (Operand.const (Value.string ⟨#[46, 110, 101, 119]⟩)) name1 (Value.string ⟨#[46, 110, 101, 119]⟩)) w fun t49 w =>
  callP Tryz.prog (fnV 41) #[d0, t49] w fun t50 w =>
  m15_6 R d0 name1 s7 t50 w)
  (m15_6 R d0 name1 s7 e8 w)
def m15_5 (R : VP) (d0 name1 s7 e8 old9 : Value) (w : World) : Prop :=
  m15_14 R d0 name1 s7 e8 old9 w
def m15_19 (R : VP) (K1 : (Value × Value) → World → Prop) (d0 name1 s7 e8 old9 i10 t29 : Value) (w : World) : Prop :=
  condP t29
  (m15_17 R K1 d0 name1 s7 e8 old9 i10 w)
  (m15_5 R d0 name1 s7 e8 old9 w)
def m15_16 (R : VP) (K1 : (Value × Value) → World → Prop) (d0 name1 s7 e8 old9 i10 : Value) (w : World) : Prop :=
  nilCheckP d0 fun t25 =>
  valP Tryz.prog (Instr.fieldAt 41 t25 0) w fun t26 w =>
  valP Tryz.prog (Instr.loadAt 39 t26) w fun t27 w =>
  builtinP Tryz.prog Builtin.len #[39] 3 #[false] #[t27] w fun t28 w =>
  valP Tryz.prog (binS BinOp.lss 3 (tm 23) (tm 28) i10 t28) w fun t29 w =>
  m15_19 R K1 d0 name1 s7 e8 old9 i10 t29 w
def m15_15 (R : VP) (d0 name1 s7 e8 old9 i10 : Value) (w : World) : Prop :=
  loopP (fun (K1 : (Value × Value) → World → Prop) (s : Value × Value) w => m15_16 R K1 d0 name1 s7 e8 s.1 s.2 w) (old9, i10) w
def m15_4 (R : VP) (d0 name1 s7 e8 old9 : Value) (w : World) : Prop :=
  m15_15 R d0 name1 s7 e8 old9 (vi 0) w
def m15_3 (R : VP) (d0 name1 s7 e8 : Value) (w : World) : Prop :=
  m15_4 R d0 name1 s7 e8 (Value.bool false) w
def m15_20 (R : VP) (d0 name1 s7 e8 t22 : Value) (w : World) : Prop :=
  condP t22
  (m15_21 R (vi 1) w)
  (m15_3 R d0 name1 s7 e8 w)
def m15_2 (R : VP) (d0 name1 s7 e8 : Value) (w : World) : Prop :=
  valP Tryz.prog (binS BinOp.neq 3 (tm 16) (ci 0) e8 (vi 0)) w fun t17 w =>
  condP t17
  (pickP t17 (Value.bool true) undef fun t22 =>
  m15_20 R d0 name1 s7 e8 t22 w)
  (callP Tryz.prog (fnV 40) #[name1] w fun t20 w =>
  valP Tryz.prog (Op.unary UnOp.not t20) w fun t21 w =>
  pickP t17 (Value.bool true) t21 fun t22 =>
  m15_20 R d0 name1 s7 e8 t22 w)
def m15_1 (R : VP) (d0 name1 l2 : Value) (w : World) : Prop :=
  callP Tryz.prog (fnV 39) #[l2] w fun t13 w =>
  valP Tryz.prog (Instr.extract t13 0) w fun t14 w =>
  valP Tryz.prog (Instr.extract t13 1) w fun t15 w =>
  m15_2 R d0 name1 t14 t15 w
def m15_0 (R : VP) (d0 name1 l2 : Value) (w : World) : Prop :=
  m15_1 R d0 name1 l2 w
abbrev W15 := cwp Tryz.prog (fun i => 0)
noncomputable def k15_0 := bodyOf Tryz.f15
noncomputable def k15_1 := c2 k15_0
noncomputable def k15_2 := c2 k15_1
noncomputable def k15_3 := c2 k15_2
noncomputable def k15_4 := c2 k15_3
noncomputable def k15_5 := c2 k15_4
noncomputable def k15_6 := c2 k15_5
noncomputable def k15_7 := c2 k15_6
noncomputable def k15_8 := c2 k15_7
noncomputable def k15_9 := c2 k15_8
noncomputable def k15_10 := c2 k15_9
noncomputable def k15_11 := c2 (c1 k15_8)
noncomputable def k15_12 := c2 (c1 k15_7)
noncomputable def k15_13 := c2 (c1 k15_6)
noncomputable def k15_14 := c2 (c1 k15_5)
noncomputable def k15_15 := c2 (c1 k15_4)
noncomputable def k15_16 := c1 (c1 k15_15)
noncomputable def k15_17 := c2 k15_16
noncomputable def k15_18 := c2 k15_17
noncomputable def k15_19 := c2 (c1 k15_16)
noncomputable def k15_20 := c2 (c1 k15_2)
noncomputable def k15_21 := c2 (c1 k15_20)
abbrev hR15 (R : VP) (Q : EQ) : Prop := ∀ e w, (R (e 6) w) → Q .ret e w
theorem s15_21 (hR : hR15 R Q) (e : Env) (w : World) (h : m15_21 R (e 6) w) : W15 k15_21 Q e w := by
  exact reA (hR _ _ h)
theorem s15_18 {K1 : (Value × Value) → World → Prop} (hN : ∀ e w, (K1 ((e 9), (e 10)) w) → Q .normal e w) (e : Env) (w : World) (h : m15_18 R K1 (e 0) (e 1) (e 7) (e 8) (e 9) (e 10) w) : W15 k15_18 Q e w := by
  exact rgA 7 (fun e w => K1 ((e 9), (e 10)) w) h hN
theorem s15_17 {K1 : (Value × Value) → World → Prop} (hN : ∀ e w, (K1 ((e 9), (e 10)) w) → Q .normal e w) (e : Env) (w : World) (h : m15_17 R K1 (e 0) (e 1) (e 7) (e 8) (e 9) (e 10) w) : W15 k15_17 Q e w := by
  refine seA ?_
  have hN : ∀ e w, (m15_18 R K1 (e 0) (e 1) (e 7) (e 8) (e 9) (e 10) w) → (thenE (W15 k15_18 Q) Q) .normal e w := fun e w h => then_N (s15_18 hN e w h)
  refine block_ok 1 (by kernel_rfl) ?_
  exact rgA 8 (fun e w => m15_18 R K1 (e 0) (e 1) (e 7) (e 8) (e 9) (e 10) w) h fun e w h => block_N (hN e w h)
theorem s15_10 (hR : hR15 R Q) (e : Env) (w : World) (h : m15_10 R (e 6) w) : W15 k15_10 Q e w := by
  exact reA (hR _ _ h)
theorem s15_9 (hR : hR15 R Q) (e : Env) (w : World) (h : m15_9 R (e 8) w) : W15 k15_9 Q e w := by
  refine seA ?_
  exact rgA 17 (fun e w => m15_10 R (e 6) w) h fun e w h => then_N (s15_10 hR e w h)
theorem s15_11 (hN : ∀ e w, (m15_9 R (e 8) w) → Q .normal e w) (e : Env) (w : World) (h : m15_11 R (e 0) (e 1) (e 8) (e 65) w) : W15 k15_11 Q e w := by
  refine coA (Operand.tmp 65) h (fun h1 => ?_) (fun h1 => ?_)
  · exact rgA 16 (fun e w => m15_9 R (e 8) w) h1 hN
  · exact skA (hN _ _ h1)
theorem s15_8 (hR : hR15 R Q) (e : Env) (w : World) (h : m15_8 R (e 0) (e 1) (e 8) w) : W15 k15_8 Q e w := by
  refine seA ?_
  have hN : ∀ e w, (m15_9 R (e 8) w) → (thenE (W15 k15_9 Q) Q) .normal e w := fun e w h => then_N (s15_9 hR e w h)
  refine seA ?_
  exact rgA 15 (fun e w => m15_11 R (e 0) (e 1) (e 8) (e 65) w) h fun e w h => then_N (s15_11 hN e w h)
theorem s15_12 (hN : ∀ e w, (m15_8 R (e 0) (e 1) (e 8) w) → Q .normal e w) (e : Env) (w : World) (h : m15_12 R (e 0) (e 1) (e 8) (e 59) w) : W15 k15_12 Q e w := by
  refine coA (Operand.tmp 59) h (fun h1 => ?_) (fun h1 => ?_)
  · exact rgA 14 (fun e w => m15_8 R (e 0) (e 1) (e 8) w) h1 hN
  · exact skA (hN _ _ h1)
theorem s15_7 (hR : hR15 R Q) (e : Env) (w : World) (h : m15_7 R (e 0) (e 1) (e 8) w) : W15 k15_7 Q e w := by
  refine seA ?_
  have hN : ∀ e w, (m15_8 R (e 0) (e 1) (e 8) w) → (thenE (W15 k15_8 Q) Q) .normal e w := fun e w h => then_N (s15_8 hR e w h)
  refine seA ?_
  exact rgA 13 (fun e w => m15_12 R (e 0) (e 1) (e 8) (e 59) w) h fun e w h => then_N (s15_12 hN e w h)
theorem s15_13 (hN : ∀ e w, (m15_7 R (e 0) (e 1) (e 8) w) → Q .normal e w) (e : Env) (w : World) (h : m15_13 R (e 0) (e 1) (e 7) (e 8) (e 52) w) : W15 k15_13 Q e w := by
  refine coA (Operand.tmp 52) h (fun h1 => ?_) (fun h1 => ?_)
  · exact rgA 12 (fun e w => m15_7 R (e 0) (e 1) (e 8) w) h1 hN
  · exact skA (hN _ _ h1)
theorem s15_6 (hR : hR15 R Q) (e : Env) (w : World) (h : m15_6 R (e 0) (e 1) (e 7) (e 8) w) : W15 k15_6 Q e w := by
  refine seA ?_
  have hN : ∀ e w, (m15_7 R (e 0) (e 1) (e 8) w) → (thenE (W15 k15_7 Q) Q) .normal e w := fun e w h => then_N (s15_7 hR e w h)
  refine seA ?_
  exact rgA 11 (fun e w => m15_13 R (e 0) (e 1) (e 7) (e 8) (e 52) w) h fun e w h => then_N (s15_13 hN e w h)
theorem s15_14 (hN : ∀ e w, (m15_6 R (e 0) (e 1) (e 7) (e 8) w) → Q .normal e w) (e : Env) (w : World) (h : m15_14 R (e 0) (e 1) (e 7) (e 8) (e 46) w) : W15 k15_14 Q e w := by
  refine coA (Operand.tmp 46) h (fun h1 => ?_) (fun h1 => ?_)
  · exact rgA 10 (fun e w => m15_6 R (e 0) (e 1) (e 7) (e 8) w) h1 hN
  · exact skA (hN _ _ h1)
theorem s15_5 (hR : hR15 R Q) (e : Env) (w : World) (h : m15_5 R (e 0) (e 1) (e 7) (e 8) (e 9) w) : W15 k15_5 Q e w := by
  refine seA ?_
  have hN : ∀ e w, (m15_6 R (e 0) (e 1) (e 7) (e 8) w) → (thenE (W15 k15_6 Q) Q) .normal e w := fun e w h => then_N (s15_6 hR e w h)
  refine seA ?_
  exact rgA 9 (fun e w => m15_14 R (e 0) (e 1) (e 7) (e 8) (e 46) w) h fun e w h => then_N (s15_14 hN e w h)
theorem s15_19 {K1 : (Value × Value) → World → Prop} (hN : ∀ e w, (m15_17 R K1 (e 0) (e 1) (e 7) (e 8) (e 9) (e 10) w) → Q .normal e w) (hX0 : ∀ e w, (m15_5 R (e 0) (e 1) (e 7) (e 8) (e 9) w) → Q (.exit 0) e w) (e : Env) (w : World) (h : m15_19 R K1 (e 0) (e 1) (e 7) (e 8) (e 9) (e 10) (e 29) w) : W15 k15_19 Q e w := by
  refine coA (Operand.tmp 29) h (fun h1 => ?_) (fun h1 => ?_)
  · exact skA (hN _ _ h1)
  · exact exA 0 (hX0 _ _ h1)
theorem s15_16 {K1 : (Value × Value) → World → Prop} (hN : ∀ e w, (K1 ((e 9), (e 10)) w) → Q .normal e w) (hX0 : ∀ e w, (m15_5 R (e 0) (e 1) (e 7) (e 8) (e 9) w) → Q (.exit 0) e w) (e : Env) (w : World) (h : m15_16 R K1 (e 0) (e 1) (e 7) (e 8) (e 9) (e 10) w) : W15 k15_16 Q e w := by
  refine seA ?_
  have hN : ∀ e w, (m15_17 R K1 (e 0) (e 1) (e 7) (e 8) (e 9) (e 10) w) → (thenE (W15 k15_17 Q) Q) .normal e w := fun e w h => then_N (s15_17 hN e w h)
  have hX0 : ∀ e w, (m15_5 R (e 0) (e 1) (e 7) (e 8) (e 9) w) → (thenE (W15 k15_17 Q) Q) (.exit 0) e w := fun e w h => then_X (hX0 e w h)
  refine seA ?_
  exact rgA 6 (fun e w => m15_19 R K1 (e 0) (e 1) (e 7) (e 8) (e 9) (e 10) (e 29) w) h fun e w h => then_N (s15_19 hN hX0 e w h)
theorem s15_15 (hN : ∀ e w, (m15_5 R (e 0) (e 1) (e 7) (e 8) (e 9) w) → Q .normal e w) (e : Env) (w : World) (h : m15_15 R (e 0) (e 1) (e 7) (e 8) (e 9) (e 10) w) : W15 k15_15 Q e w := by
  refine block_ok 0 (by kernel_rfl) ?_
  have hX0 : ∀ e w, (m15_5 R (e 0) (e 1) (e 7) (e 8) (e 9) w) → (inBlockE 0 Q) (.exit 0) e w := fun e w h => inBlock_same (Q := Q) 0 (hN e w h)
  refine loop_ok' (fun (e : Env) => (e 9, e 10)) [0, 1, 7, 8] (by kernel_rfl) (by kernel_rfl) h (fun K e' w' hk h' => ?_)
  have r0 : e' 0 = e 0 := hk 0 (by decide)
  have r1 : e' 1 = e 1 := hk 1 (by decide)
  have r7 : e' 7 = e 7 := hk 7 (by decide)
  have r8 : e' 8 = e 8 := hk 8 (by decide)
  have hX0 : ∀ e w, (m15_5 R (e 0) (e 1) (e 7) (e 8) (e 9) w) → (thenE (fun (e : Env) w => K ((e 9), (e 10)) w) (inBlockE 0 Q)) (.exit 0) e w := fun e w h => then_X (hX0 e w h)
  exact s15_16 (K1 := K) (fun _ _ h => then_N h) hX0 e' w' (by rw [r0, r1, r7, r8]; exact h')
theorem s15_4 (hR : hR15 R Q) (e : Env) (w : World) (h : m15_4 R (e 0) (e 1) (e 7) (e 8) (e 9) w) : W15 k15_4 Q e w := by
  refine seA ?_
  have hN : ∀ e w, (m15_5 R (e 0) (e 1) (e 7) (e 8) (e 9) w) → (thenE (W15 k15_5 Q) Q) .normal e w := fun e w h => then_N (s15_5 hR e w h)
  refine seA ?_
  exact rgA 5 (fun e w => m15_15 R (e 0) (e 1) (e 7) (e 8) (e 9) (e 10) w) h fun e w h => then_N (s15_15 hN e w h)
theorem s15_3 (hR : hR15 R Q) (e : Env) (w : World) (h : m15_3 R (e 0) (e 1) (e 7) (e 8) w) : W15 k15_3 Q e w := by
  refine seA ?_
  exact rgA 4 (fun e w => m15_4 R (e 0) (e 1) (e 7) (e 8) (e 9) w) h fun e w h => then_N (s15_4 hR e w h)
theorem s15_20 (hN : ∀ e w, (m15_3 R (e 0) (e 1) (e 7) (e 8) w) → Q .normal e w) (hR : hR15 R Q) (e : Env) (w : World) (h : m15_20 R (e 0) (e 1) (e 7) (e 8) (e 22) w) : W15 k15_20 Q e w := by
  refine coA (Operand.tmp 22) h (fun h1 => ?_) (fun h1 => ?_)
  · refine seA ?_
    exact rgA 3 (fun e w => m15_21 R (e 6) w) h1 fun e w h => then_N (s15_21 hR e w h)
  · exact skA (hN _ _ h1)
theorem s15_2 (hR : hR15 R Q) (e : Env) (w : World) (h : m15_2 R (e 0) (e 1) (e 7) (e 8) w) : W15 k15_2 Q e w := by
  refine seA ?_
  have hN : ∀ e w, (m15_3 R (e 0) (e 1) (e 7) (e 8) w) → (thenE (W15 k15_3 Q) Q) .normal e w := fun e w h => then_N (s15_3 hR e w h)
  have hR : hR15 R (thenE (W15 k15_3 Q) Q) := fun e w h => then_R (hR e w h)
  refine seA ?_
  exact rgA 2 (fun e w => m15_20 R (e 0) (e 1) (e 7) (e 8) (e 22) w) h fun e w h => then_N (s15_20 hN hR e w h)
theorem s15_1 (hR : hR15 R Q) (e : Env) (w : World) (h : m15_1 R (e 0) (e 1) (e 2) w) : W15 k15_1 Q e w := by
  refine seA ?_
  exact rgA 1 (fun e w => m15_2 R (e 0) (e 1) (e 7) (e 8) w) h fun e w h => then_N (s15_2 hR e w h)
theorem s15_0 (hR : hR15 R Q) (e : Env) (w : World) (h : m15_0 R (e 0) (e 1) (e 2) w) : W15 k15_0 Q e w := by
  refine seA ?_
  exact rgA 0 (fun e w => m15_1 R (e 0) (e 1) (e 2) w) h fun e w h => then_N (s15_1 hR e w h)
abbrev m15 (R : VP) (d0 name1 l2 : Value) (w : World) : Prop := m15_0 R d0 name1 l2 w
theorem s15 (d0 name1 l2 : Value) {R : VP} {w : World} (h : m15 R d0 name1 l2 w) :
    Calls Tryz.prog 15 #[d0, name1, l2] w fun e w' => ∃ v, e = .returned v ∧ R v w' :=
  calls_of_cwp (st := (fun i => 0)) (c := k15_0) (by kernel_rfl) Tryz.func15 (by kernel_rfl) (Nat.le_of_ble_eq_true (by kernel_rfl)) (by kernel_rfl)
    (s15_0 (R := R) (Q := endE Tryz.prog Tryz.f15 R) (fun e w h => kcast (by kernel_rfl) h) (argsE #[d0, name1, l2]) w (kcast (by kernel_rfl) h))
def m19_9 (R : VP) (t4 t5 : Value) (w : World) : Prop :=
  R (Value.tuple #[t4, t5]) w
def m19_7 (R : VP) (t4 t5 : Value) (w : World) : Prop :=
  R (Value.tuple #[t4, t5]) w
def m19_5 (R : VP) (t4 t5 : Value) (w : World) : Prop :=
  R (Value.tuple #[t4, t5]) w
def m19_4 (R : VP) (s6 : Value) (w : World) : Prop :=
  callP Tryz.prog (fnV 53) #[s6] w fun t21 w =>
  valP Tryz.prog (Instr.extract t21 0) w fun t22 w =>
  valP Tryz.prog (Instr.extract t21 1) w fun t23 w =>
  m19_5 R t22 t23 w
def m19_6 (R : VP) (s6 e7 t18 : Value) (w : World) : Prop :=
  condP t18
  (m19_7 R (Value.slice none 0 0) e7 w)
  (m19_4 R s6 w)
def m19_3 (R : VP) (s6 e7 : Value) (w : World) : Prop :=
  valP Tryz.prog (binS BinOp.neq 3 (tm 17) (ci 0) e7 (vi 0)) w fun t18 w =>
  m19_6 R s6 e7 t18 w
def m19_2 (R : VP) (d0 name1 : Value) (w : World) : Prop :=
  callP Tryz.prog (fnV 52) #[d0, name1] w fun t14 w =>
  valP Tryz.prog (Instr.extract t14 0) w fun t15 w =>
  valP Tryz.prog (Instr.extract t14 1) w fun t16 w =>
  m19_3 R t15 t16 w
def m19_8 (R : VP) (d0 name1 t10 : Value) (w : World) : Prop :=
  condP t10
  (m19_9 R (Value.slice none 0 0) (vi 1) w)
  (m19_2 R d0 name1 w)
def m19_1 (R : VP) (d0 name1 : Value) (w : World) : Prop :=
  callP Tryz.prog (fnV 40) #[name1] w fun t9 w =>
  valP Tryz.prog (Op.unary UnOp.not t9) w fun t10 w =>
  m19_8 R d0 name1 t10 w
def m19_0 (R : VP) (d0 name1 : Value) (w : World) : Prop :=
  m19_1 R d0 name1 w
abbrev W19 := cwp Tryz.prog (fun i => 0)
noncomputable def k19_0 := bodyOf Tryz.f19
noncomputable def k19_1 := c2 k19_0
noncomputable def k19_2 := c2 k19_1
noncomputable def k19_3 := c2 k19_2
noncomputable def k19_4 := c2 k19_3
noncomputable def k19_5 := c2 k19_4
noncomputable def k19_6 := c2 (c1 k19_3)
noncomputable def k19_7 := c2 (c1 k19_6)
noncomputable def k19_8 := c2 (c1 k19_1)
noncomputable def k19_9 := c2 (c1 k19_8)
abbrev hR19 (R : VP) (Q : EQ) : Prop := ∀ e w, (R (Value.tuple #[(e 4), (e 5)]) w) → Q .ret e w
theorem s19_9 (hR : hR19 R Q) (e : Env) (w : World) (h : m19_9 R (e 4) (e 5) w) : W19 k19_9 Q e w := by
  exact reA (hR _ _ h)
theorem s19_7 (hR : hR19 R Q) (e : Env) (w : World) (h : m19_7 R (e 4) (e 5) w) : W19 k19_7 Q e w := by
  exact reA (hR _ _ h)
theorem s19_5 (hR : hR19 R Q) (e : Env) (w : World) (h : m19_5 R (e 4) (e 5) w) : W19 k19_5 Q e w := by
  exact reA (hR _ _ h)
theorem s19_4 (hR : hR19 R Q) (e : Env) (w : World) (h : m19_4 R (e 6) w) : W19 k19_4 Q e w := by
  refine seA ?_
  exact rgA 6 (fun e w => m19_5 R (e 4) (e 5) w) h fun e w h => then_N (s19_5 hR e w h)
theorem s19_6 (hN : ∀ e w, (m19_4 R (e 6) w) → Q .normal e w) (hR : hR19 R Q) (e : Env) (w : World) (h : m19_6 R (e 6) (e 7) (e 18) w) : W19 k19_6 Q e w := by
  refine coA (Operand.tmp 18) h (fun h1 => ?_) (fun h1 => ?_)
  · refine seA ?_
    exact rgA 5 (fun e w => m19_7 R (e 4) (e 5) w) h1 fun e w h => then_N (s19_7 hR e w h)
  · exact skA (hN _ _ h1)
theorem s19_3 (hR : hR19 R Q) (e : Env) (w : World) (h : m19_3 R (e 6) (e 7) w) : W19 k19_3 Q e w := by
  refine seA ?_
  have hN : ∀ e w, (m19_4 R (e 6) w) → (thenE (W19 k19_4 Q) Q) .normal e w := fun e w h => then_N (s19_4 hR e w h)
  have hR : hR19 R (thenE (W19 k19_4 Q) Q) := fun e w h => then_R (hR e w h)
  refine seA ?_
  exact rgA 4 (fun e w => m19_6 R (e 6) (e 7) (e 18) w) h fun e w h => then_N (s19_6 hN hR e w h)
theorem s19_2 (hR : hR19 R Q) (e : Env) (w : World) (h : m19_2 R (e 0) (e 1) w) : W19 k19_2 Q e w := by
  refine seA ?_
  exact rgA 3 (fun e w => m19_3 R (e 6) (e 7) w) h fun e w h => then_N (s19_3 hR e w h)
theorem s19_8 (hN : ∀ e w, (m19_2 R (e 0) (e 1) w) → Q .normal e w) (hR : hR19 R Q) (e : Env) (w : World) (h : m19_8 R (e 0) (e 1) (e 10) w) : W19 k19_8 Q e w := by
  refine coA (Operand.tmp 10) h (fun h1 => ?_) (fun h1 => ?_)
  · refine seA ?_
    exact rgA 2 (fun e w => m19_9 R (e 4) (e 5) w) h1 fun e w h => then_N (s19_9 hR e w h)
  · exact skA (hN _ _ h1)
theorem s19_1 (hR : hR19 R Q) (e : Env) (w : World) (h : m19_1 R (e 0) (e 1) w) : W19 k19_1 Q e w := by
  refine seA ?_
  have hN : ∀ e w, (m19_2 R (e 0) (e 1) w) → (thenE (W19 k19_2 Q) Q) .normal e w := fun e w h => then_N (s19_2 hR e w h)
  have hR : hR19 R (thenE (W19 k19_2 Q) Q) := fun e w h => then_R (hR e w h)
  refine seA ?_
  exact rgA 1 (fun e w => m19_8 R (e 0) (e 1) (e 10) w) h fun e w h => then_N (s19_8 hN hR e w h)
theorem s19_0 (hR : hR19 R Q) (e : Env) (w : World) (h : m19_0 R (e 0) (e 1) w) : W19 k19_0 Q e w := by
  refine seA ?_
  exact rgA 0 (fun e w => m19_1 R (e 0) (e 1) w) h fun e w h => then_N (s19_1 hR e w h)
abbrev m19 (R : VP) (d0 name1 : Value) (w : World) : Prop := m19_0 R d0 name1 w
theorem s19 (d0 name1 : Value) {R : VP} {w : World} (h : m19 R d0 name1 w) :
    Calls Tryz.prog 19 #[d0, name1] w fun e w' => ∃ v, e = .returned v ∧ R v w' :=
  calls_of_cwp (st := (fun i => 0)) (c := k19_0) (by kernel_rfl) Tryz.func19 (by kernel_rfl) (Nat.le_of_ble_eq_true (by kernel_rfl)) (by kernel_rfl)
    (s19_0 (R := R) (Q := endE Tryz.prog Tryz.f19 R) (fun e w h => kcast (by kernel_rfl) h) (argsE #[d0, name1]) w (kcast (by kernel_rfl) h))
def m20_2 (R : VP) (t4 : Value) (w : World) : Prop :=
  R t4 w
def m20_1 (R : VP) (d0 q1 : Value) (w : World) : Prop :=
  anyDraw w fun w =>
  heldP w fun J =>
  nilCheckP q1 fun t8 =>
  valJ Tryz.prog J (Instr.fieldAt 41 t8 0) fun t9 =>
  valJ Tryz.prog J (Instr.loadAt 39 t9) fun t10 =>
  callP Tryz.prog (fnV 24) #[d0] w fun t6 w =>
  stayP J w
  (callP Tryz.prog (fnV 54) #[t6, t10] w fun t11 w =>
  stayP J w
  (condP t11
  (callP Tryz.prog (fnV 55) #[d0] w fun t14 w =>
  stayP J w
  (callP Tryz.prog (fnV 49) #[q1] w fun t16 w =>
  stayP J w
  (valJ Tryz.prog J (binS BinOp.eql 3 (tm 14) (tm 16) t14 t16) fun t17 =>
  pickP t11 t17 (Value.bool false) fun t18 =>
  condP t18
  (nilCheckP q1 fun t23 =>
  valJ Tryz.prog J (Instr.fieldAt 41 t23 3) fun t24 =>
  valJ Tryz.prog J (Instr.loadAt 4 t24) fun t25 =>
  callP Tryz.prog (fnV 56) #[d0] w fun t21 w =>
  stayP J w
  (valJ Tryz.prog J (binS BinOp.eql 4 (tm 21) (tm 25) t21 t25) fun t26 =>
  pickP t18 t26 (Value.bool false) fun t27 =>
  m20_2 R t27 w))
  (pickP t18 undef (Value.bool false) fun t27 =>
  m20_2 R t27 w))))
  (pickP t11 undef (Value.bool false) fun t18 =>
  pickP t18 undef (Value.bool false) fun t27 =>
  m20_2 R t27 w)))
def m20_0 (R : VP) (d0 q1 : Value) (w : World) : Prop :=
  m20_1 R d0 q1 w
abbrev W20 := cwp Tryz.prog (fun i => 0)
noncomputable def k20_0 := bodyOf Tryz.f20
noncomputable def k20_1 := c2 k20_0
noncomputable def k20_2 := c2 k20_1
abbrev hR20 (R : VP) (Q : EQ) : Prop := ∀ e w, (R (e 4) w) → Q .ret e w
theorem s20_2 (hR : hR20 R Q) (e : Env) (w : World) (h : m20_2 R (e 4) w) : W20 k20_2 Q e w := by
  exact reA (hR _ _ h)
theorem s20_1 (hR : hR20 R Q) (e : Env) (w : World) (h : m20_1 R (e 0) (e 1) w) : W20 k20_1 Q e w := by
  refine seA ?_
  have hN : ∀ e w, (m20_2 R (e 4) w) → (thenE (W20 k20_2 Q) Q) .normal e w := fun e w h => then_N (s20_2 hR e w h)
  exact treeJ_ok 1 24 (bt 24 0) (.take 0 (bt 24 1) (.take 2 (bt 24 5) (.take 3 (bt 24 13) (.take 4 (bt 24 29) (.take 5 (bt 24 61) (.alt 1 (bt 24 63) (.alt 6 (bt 24 127) (.take 7 (bt 24 255) (.take 8 (bt 24 511) (.take 10 (bt 24 1535) (.alt 9 (bt 24 2047) (.alt 11 (bt 24 4095) (.take 12 (bt 24 8191) (.take 13 (bt 24 16383) (.take 14 (bt 24 32767) (.take 15 (bt 24 65535) (.take 17 (bt 24 196607) (.take 18 (bt 24 458751) (.take 19 (bt 24 983039) (.take 20 (bt 24 2031615) (.alt 16 (bt 24 2097151) (.take 21 (bt 24 4194303) (.take 22 (bt 24 8388607) (.take 23 (bt 24 16777215) .done))) .stop))))))))) .stop) .stop)))) .stop) .stop)))))) (fun e w => m20_2 R (e 4) w) (by kernel_rfl) (by kernel_rfl) (by kernel_rfl) (by kernel_rfl) (by kernel_rfl) (by kernel_rfl) (kcast (by kernel_rfl) h) hN (by kernel_rfl)
theorem s20_0 (hR : hR20 R Q) (e : Env) (w : World) (h : m20_0 R (e 0) (e 1) w) : W20 k20_0 Q e w := by
  refine seA ?_
  exact rgA 0 (fun e w => m20_1 R (e 0) (e 1) w) h fun e w h => then_N (s20_1 hR e w h)
abbrev m20 (R : VP) (d0 q1 : Value) (w : World) : Prop := m20_0 R d0 q1 w
theorem s20 (d0 q1 : Value) {R : VP} {w : World} (h : m20 R d0 q1 w) :
    Calls Tryz.prog 20 #[d0, q1] w fun e w' => ∃ v, e = .returned v ∧ R v w' :=
  calls_of_cwp (st := (fun i => 0)) (c := k20_0) (by kernel_rfl) Tryz.func20 (by kernel_rfl) (Nat.le_of_ble_eq_true (by kernel_rfl)) (by kernel_rfl)
    (s20_0 (R := R) (Q := endE Tryz.prog Tryz.f20 R) (fun e w h => kcast (by kernel_rfl) h) (argsE #[d0, q1]) w (kcast (by kernel_rfl) h))
end Go.Proofs.YtcldjjmfpmkldaaGreatDoor.M
namespace Go.Proofs.YtcldjjmfpmkldaaGreatDoor.M
open Go.Proofs.YtcldjjmfpmkldaaGreatDoor.F Go.RowKit
set_option linter.unusedVariables false
set_option linter.unusedSimpArgs false
set_option maxRecDepth 100000
set_option maxHeartbeats 2000000
attribute [local irreducible] Res.cells Res.row Res.map Res.any World.cell? World.frozen? Instr.fieldAt Instr.loadAt Instr.storeAt Instr.indexAt Instr.lookup Instr.mapUpdate Instr.box Instr.build Instr.buildSlice Instr.extract Instr.alloc Instr.field Instr.index Instr.sliceAt Instr.makeSlice Instr.makeMap Instr.makeFunc binS Op.unary Sem.run
structure FSl (w0 : World) (F : List Nat) (L : List Res) (A : Option Addr) (c : Nat) (l : List Fl) : Prop where
  rd : Bes w0 F L 3 A l.length (l.flatMap encFl)
  cap : l.length ≤ c
  nul : A = none → c = 0
abbrev qCell (bq : Nat) (A : Option Addr) (c : Nat) (D : Dk) (size : Nat) : Res := Res.cells bq 41 [.slice A D.L.length c, .int .i64 (size : Int), .int .i64 D.fuse, .bool D.off]
def Qd (w0 : World) (F : List Nat) (L : List Res) (bq size : Nat) (D : Dk) (w : World) : Prop := ∃ A c, St w0 F w (qCell bq A c D size :: flRow A c D.L :: L)
def fileC (D : Dk) (s : ByteArray) : Int := if readyC [s] D.off = 0 then (if (getF D.L s).isSome then 0 else 3) else readyC [s] D.off
theorem readyC_one (s : ByteArray) (o : Bool) : readyC [s] o = if Named s then (if o then 4 else 0) else 1 := by
  unfold readyC
  by_cases h : Named s
  · rw [if_pos h, if_pos fun x hx => by obtain rfl := List.mem_singleton.1 hx; exact h]
  · rw [if_neg h, if_neg fun h2 => h (h2 s (.head _))]
theorem used_take {l : List Fl} {i : Nat} (h : i < l.length) : used (l.take (i + 1)) = used (l.take i) + blk l[i].sz := by
  unfold used
  rw [List.take_succ_eq_append_getElem h, List.map_append, List.sum_append, List.map_singleton, List.sum_singleton]
theorem used_le (l : List Fl) (i : Nat) : used (l.take i) ≤ used l := by
  conv => rhs; rw [← List.take_append_drop i l]
  unfold used
  rw [List.map_append, List.sum_append]
  omega
section
variable {w0 w : World} {F : List Nat} {L : List Res} {s : ByteArray} {bq size : Nat} {D : Dk} {A : Option Addr} {c : Nat}
theorem FSl.row {l : List Fl} (k : Nat) (hS : St w0 F w L) (hk : L[k]? = some (flRow A c l)) : FSl w0 F L A c l := by
  refine ⟨Bes.of_row k hk, (hS.row_max k hk).1, fun h => ?_⟩
  subst h
  have hown := hS.own_row k hk
  rcases hown.2 with ⟨hv, _⟩ | ⟨g, cap, cur, hv, _⟩
  · injection hv
  · injection hv with h1
    cases h1
theorem at47_ret (k : Nat) (hl : D.L.length ≤ 1000) (hq : L[k]? = some (qCell bq A c D size)) (hr : L[k + 1]? = some (flRow A c D.L)) (hS : St w0 F w L) : Ret Tryz.prog 47 #[ptr bq, .string s] w fun v w' => (v = .int .i64 (-1) ∧ getF D.L s = none ∨ ∃ i, ∃ hi : i < D.L.length, v = .int .i64 (i : Int) ∧ D.L[i].name = s ∧ getF D.L s = some D.L[i]) ∧ St w0 F w' L := by
  have hB : Bes w0 F L 3 A D.L.length (D.L.flatMap encFl) := Bes.of_row (k + 1) hr
  refine s47 _ _ ?_
  unfold m47 m47_0 m47_1 m47_4
  refine loop_in (fun u w' => ∃ i : Nat, u = .int .i64 (i : Int) ∧ i ≤ D.L.length ∧ (∀ j (h : j < D.L.length), j < i → ¬ D.L[j].name = s) ∧ St w0 F w' L) (fun u _ => D.L.length - (intOf u).toNat) ⟨0, rfl, by omega, fun j _ h => by omega, hS⟩ ?_
  clear hS
  rintro u w ⟨i, rfl, hi, hno, hS⟩
  unfold m47_5
  refine nil_ok ?_
  refine valP_ok (fa41_0 _ _) ?_
  refine valP_ok (ld39 (hS.cell k hq (i := 0) rfl)) ?_
  refine builtin_ok (len39 _) ?_
  refine valP_ok (lss_ok _ _ _ _ _ _ _) ?_
  unfold m47_10
  refine cond_split (fun h => ?_) (fun h => ?_)
  · have hil : i < D.L.length := by omega
    obtain ⟨gb, o, rfl⟩ := (hB.rd hS).some_ (by omega) (by omega)
    have p := fl_at (hB.rd hS) hil
    unfold m47_6
    refine nil_ok ?_
    refine valP_ok (fa41_0 _ _) ?_
    refine valP_ok (ld39 (hS.cell k hq (i := 0) rfl)) ?_
    refine valP_ok (ix39 hil _) ?_
    refine valP_ok (fao67_0 _ _ _) ?_
    refine valP_ok (ld9 p.1) ?_
    refine valP_ok (eq9 _ _ _ _ _) ?_
    unfold m47_8
    refine cond_split (fun h1 => ?_) (fun h1 => ?_)
    · unfold m47_9
      refine ⟨.inr ⟨i, hil, rfl, h1, ?_⟩, hS⟩
      unfold getF
      rw [List.find?_eq_some_iff_getElem]
      exact ⟨by simpa using h1, i, hil, rfl, fun j hj => by simpa using hno j (by omega) hj⟩
    · unfold m47_7
      refine valP_ok (add_ok _ _ _ (by omega) (by omega) _) ?_
      refine ⟨⟨i + 1, rfl, by omega, fun j hj hlt => ?_, hS⟩, by simp [intOf]; omega⟩
      rcases Nat.lt_or_ge j i with g | g
      · exact hno j hj g
      · obtain rfl : j = i := by omega
        exact h1
  · unfold m47_2 m47_3
    refine ⟨.inl ⟨rfl, getF_none fun f hf e => ?_⟩, hS⟩
    obtain ⟨j, hj, rfl⟩ := List.mem_iff_getElem.1 hf
    exact hno j hj (by omega) e
theorem rblocks_ret {n : Nat} (hn : n ≤ 1000000000000) (hS : St w0 F w L) : Ret Tryz.prog 48 #[.int .i64 (n : Int)] w fun v w' => v = .int .i64 (blk n : Int) ∧ St w0 F w' L := by
  refine s48 _ ?_
  unfold m48 m48_0 m48_1 m48_2
  refine loop_in (fun u w' => ∃ k : Nat, u = .int .i64 (k : Int) ∧ 1 ≤ k ∧ k ≤ blk n ∧ St w0 F w' L) (fun u _ => blk n - (intOf u).toNat) ⟨1, rfl, by omega, by unfold blk; omega, hS⟩ ?_
  clear hS
  rintro u w ⟨k, rfl, hk, hk2, hS⟩
  have hb : blk n ≤ 1000000000000 := by unfold blk; omega
  unfold m48_5
  refine valP_ok (mul_ok _ _ _ (by omega) (by omega) _) ?_
  refine valP_ok (lss_ok _ _ _ _ _ _ _) ?_
  unfold m48_7
  refine cond_split (fun h => ?_) (fun h => ?_)
  · have : k < blk n := by unfold blk; omega
    unfold m48_6
    refine valP_ok (add_ok _ _ _ (by omega) (by omega) _) ?_
    exact ⟨⟨k + 1, rfl, by omega, by omega, hS⟩, by simp [intOf]; omega⟩
  · have : k = blk n := by unfold blk at hk2 ⊢; omega
    unfold m48_3 m48_4
    rw [this]
    exact ⟨rfl, hS⟩
theorem taken_ret (k : Nat) (hO : Ok size D) (hq : L[k]? = some (qCell bq A c D size)) (hr : L[k + 1]? = some (flRow A c D.L)) (hS : St w0 F w L) : Ret Tryz.prog 83 #[ptr bq] w fun v w' => v = .int .i64 (used D.L : Int) ∧ St w0 F w' L := by
  have hl := hO.len
  have hu16 : used D.L ≤ 16384 := by have := hO.sum; have := hO.room; have := hO.size; omega
  have hB : Bes w0 F L 3 A D.L.length (D.L.flatMap encFl) := Bes.of_row (k + 1) hr
  refine s83 _ ?_
  unfold m83 m83_0 m83_1 m83_2 m83_5
  refine loop_in (fun u w' => ∃ i : Nat, u = (.int .i64 (used (D.L.take i) : Int), .int .i64 (i : Int)) ∧ i ≤ D.L.length ∧ St w0 F w' L) (fun u _ => D.L.length - (intOf u.2).toNat) ⟨0, rfl, by omega, hS⟩ ?_
  clear hS
  rintro u w ⟨i, rfl, hi, hS⟩
  simp only
  unfold m83_6
  refine nil_ok ?_
  refine valP_ok (fa41_0 _ _) ?_
  refine valP_ok (ld39 (hS.cell k hq (i := 0) rfl)) ?_
  refine builtin_ok (len39 _) ?_
  refine valP_ok (lss_ok _ _ _ _ _ _ _) ?_
  unfold m83_9
  refine cond_split (fun h => ?_) (fun h => ?_)
  · have hil : i < D.L.length := by omega
    have hut := used_take hil
    have hul := used_le D.L (i + 1)
    have hsz := hO.sz (List.getElem_mem hil)
    have hsz' : D.L[i].sure.size + D.L[i].loose.size = D.L[i].sz := rfl
    obtain ⟨gb, o, rfl⟩ := (hB.rd hS).some_ (by omega) (by omega)
    have p := fun w (hw : Hs w0 F L w) => fl_at (Hs.rd hB w hw) hil
    unfold m83_7
    refine drawn_ok hS ?_
    intro w hS
    refine held_Hs hS ?_
    refine nil_ok ?_
    refine valJ_ok (fa41_0 _) ?_
    refine valJ_at (fun w hw => ld39 (Hs.cell k hq (i := 0) rfl w hw)) ?_
    refine valJ_ok (fun w => ix39 hil w) ?_
    refine valJ_ok (fun w => fao67_1 _ _ w) ?_
    refine valJ_at (fun w hw => ld9 (p w hw).2.1) ?_
    refine builtinJ_ok (len9) ?_
    refine nil_ok ?_
    refine valJ_ok (fa41_0 _) ?_
    refine valJ_at (fun w hw => ld39 (Hs.cell k hq (i := 0) rfl w hw)) ?_
    refine valJ_ok (fun w => ix39 hil w) ?_
    refine valJ_ok (fun w => fao67_2 _ _ w) ?_
    refine valJ_at (fun w hw => ld9 (p w hw).2.2) ?_
    refine builtinJ_ok (len9) ?_
    refine valJ_ok (add_ok _ _ _ (by omega) (by omega)) ?_
    rw [show ((D.L[i].sure.size : Int) + (D.L[i].loose.size : Int)) = ((D.L[i].sz : Nat) : Int) by omega]
    refine callR (by kernel_rfl) (rblocks_ret (n := D.L[i].sz) (by omega) hS) ?_
    rintro _ w ⟨rfl, hS⟩
    refine stay_Hs hS (by first | exact fun _ h => h | exact fun _ h => .tail _ h | exact fun _ h => .tail _ (.tail _ h) | simp) ?_
    refine valJ_ok (add_ok _ _ _ (by omega) (by omega)) ?_
    rw [show (used (D.L.take i) : Int) + (blk D.L[i].sz : Int) = (used (D.L.take (i + 1)) : Int) by omega]
    unfold m83_8
    refine valP_ok (add_ok _ _ _ (by omega) (by omega) _) ?_
    exact ⟨⟨i + 1, rfl, by omega, hS⟩, by simp [intOf]; omega⟩
  · obtain rfl : i = D.L.length := by omega
    rw [List.take_length]
    unfold m83_3 m83_4
    exact ⟨rfl, hS⟩
theorem free49_ret (k : Nat) (hO : Ok size D) (hq : L[k]? = some (qCell bq A c D size)) (hr : L[k + 1]? = some (flRow A c D.L)) (hS : St w0 F w L) : Ret Tryz.prog 49 #[ptr bq] w fun v w' => v = .int .i64 D.room ∧ St w0 F w' L := by
  have hs := hO.sum
  have h0 := hO.room
  have hz := hO.size
  refine s49 _ ?_
  unfold m49 m49_0
  unfold m49_1
  refine drawn_ok hS ?_
  intro w hS
  refine held_Hs hS ?_
  refine nil_ok ?_
  refine valJ_ok (fa41_1 _) ?_
  refine valJ_at (fun w hw => ld3 (Hs.cell k hq (i := 1) rfl w hw)) ?_
  refine callR (by kernel_rfl) (taken_ret k hO hq hr hS) ?_
  rintro _ w ⟨rfl, hS⟩
  refine stay_Hs hS (by first | exact fun _ h => h | exact fun _ h => .tail _ h | exact fun _ h => .tail _ (.tail _ h) | simp) ?_
  refine valJ_ok (sub_ok _ _ _ (by omega) (by omega)) ?_
  unfold m49_2
  refine ⟨?_, hS⟩
  congr 1
  omega
theorem burnt51_ret (hf : -1 ≤ D.fuse ∧ D.fuse ≤ 9223372036854775807) (hS : St w0 F w (qCell bq A c D size :: L)) : Ret Tryz.prog 51 #[ptr bq] w fun v w' => v = .bool (decide (D.fuse = 0)) ∧ St w0 F w' (qCell bq A c (burnt D) size :: L) := by
  refine s51 _ ?_
  unfold m51
  unfold m51_0
  unfold m51_1
  refine nil_ok ?_
  refine valP_ok (fa41_2 _ _) ?_
  refine valP_ok (ld3 (hS.cell 0 rfl rfl)) ?_
  refine valP_ok (eq3 _ _ _ _ _) ?_
  unfold m51_6
  rw [burnt_eq]
  refine cond_split (fun h => ?_) (fun h => ?_)
  · refine nil_ok ?_
    refine valP_ok (fa41_3 _ _) ?_
    refine store_at 0 st4 hS rfl (by simp) rfl ?_
    intro w hS
    simp only [List.set_cons_zero, List.set_cons_succ] at hS
    unfold m51_7 m51_8
    rw [decide_eq_true h, if_neg (by omega), if_pos h]
    exact ⟨rfl, hS⟩
  · unfold m51_2
    refine nil_ok ?_
    refine valP_ok (fa41_2 _ _) ?_
    refine valP_ok (ld3 (hS.cell 0 rfl rfl)) ?_
    refine valP_ok (gtr_ok _ _ _ _ _ _ _) ?_
    unfold m51_5
    rw [decide_eq_false h, if_neg h]
    refine cond_split (fun h1 => ?_) (fun h1 => ?_)
    · refine nil_ok ?_
      refine valP_ok (fa41_2 _ _) ?_
      refine valP_ok (ld3 (hS.cell 0 rfl rfl)) ?_
      refine valP_ok (sub_ok _ _ _ (by omega) (by omega) _) ?_
      refine nil_ok ?_
      refine valP_ok (fa41_2 _ _) ?_
      refine store_at 0 st3 hS rfl (by simp) rfl ?_
      intro w hS
      simp only [List.set_cons_zero, List.set_cons_succ] at hS
      unfold m51_3 m51_4
      rw [if_pos h1]
      exact ⟨rfl, hS⟩
    · unfold m51_3 m51_4
      rw [if_neg h1]
      exact ⟨rfl, hS⟩
theorem file80_ret (hl : D.L.length ≤ 1000) (hS : St w0 F w (qCell bq A c D size :: flRow A c D.L :: L)) : Ret Tryz.prog 80 #[ptr bq, .string s] w fun v w' => v = .int .i64 (fileC D s) ∧ St w0 F w' (qCell bq A c D size :: flRow A c D.L :: L) := by
  unfold fileC
  rw [readyC_one]
  refine s80 _ _ ?_
  unfold m80 m80_0 m80_1
  refine callR (by kernel_rfl) (named46_ret hS) ?_
  rintro _ w ⟨rfl, hS⟩
  refine valP_ok (not_ok _ _) ?_
  unfold m80_10
  refine cond_split (fun h => ?_) (fun h => ?_)
  · unfold m80_11
    rw [if_neg h]
    exact ⟨rfl, hS⟩
  rw [if_pos (Classical.not_not.1 h)]
  unfold m80_2
  refine nil_ok ?_
  refine valP_ok (fa41_3 _ _) ?_
  refine valP_ok (ld4 (hS.cell 0 rfl rfl)) ?_
  unfold m80_8
  refine cond_bsplit (fun ho => ?_) (fun ho => ?_)
  · unfold m80_9
    rw [ho]
    exact ⟨rfl, hS⟩
  rw [ho]
  unfold m80_3
  refine callR (by kernel_rfl) (at47_ret 0 hl rfl rfl hS) ?_
  rintro v w ⟨h1, hS⟩
  rcases h1 with ⟨rfl, h1⟩ | ⟨i, hi, rfl, h1, h2⟩
  · refine valP_ok (lss_ok _ _ _ _ _ _ _) ?_
    unfold m80_6
    refine cond_dt (by omega) ?_
    unfold m80_7
    rw [h1]
    exact ⟨rfl, hS⟩
  · refine valP_ok (lss_ok _ _ _ _ _ _ _) ?_
    unfold m80_6
    refine cond_df (by omega) ?_
    unfold m80_4 m80_5
    rw [h2]
    exact ⟨rfl, hS⟩
theorem named40_ret (hS : St w0 F w L) : Ret Tryz.prog 40 #[.string s] w fun v w' => v = .bool (decide (NamedB s)) ∧ St w0 F w' L := by
  refine s40 _ ?_
  unfold m40
  unfold m40_0
  have bad : ¬ NamedB s → ∀ w, St w0 F w L → (.bool false = Value.bool (decide (NamedB s)) ∧ St w0 F w L) := fun h w hS => ⟨by rw [decide_eq_false h], hS⟩
  have leaf : ∀ t : Bool, (t = true ↔ ¬ (0 < s.size ∧ s.size ≤ 16)) → m40_12 (fun v w' => v = .bool (decide (NamedB s)) ∧ St w0 F w' L) (.string s) (.bool t) w := fun t ht => by
    unfold m40_12
    cases t with
    | true =>
      refine cond_t rfl ?_
      unfold m40_13
      exact bad (fun h => ht.1 rfl ⟨h.1, h.2.1⟩) w hS
    | false =>
      have hz : 0 < s.size ∧ s.size ≤ 16 := Classical.byContradiction fun h => by have := ht.2 h; cases this
      refine cond_f rfl ?_
      unfold m40_2 m40_5
      refine loop_in (fun u w' => ∃ i : Nat, u = .int .i64 (i : Int) ∧ i ≤ s.size ∧ (∀ j (h : j < s.size), j < i → inLB s[j] = true) ∧ St w0 F w' L) (fun u _ => s.size - (intOf u).toNat) ⟨0, rfl, by omega, fun j _ h => by omega, hS⟩ ?_
      clear hS
      rintro u w ⟨i, rfl, hi, hno, hS⟩
      unfold m40_6
      refine builtin_ok (len9 _) ?_
      refine valP_ok (lss_ok _ _ _ _ _ _ _) ?_
      unfold m40_11
      refine cond_split (fun h => ?_) (fun h => ?_)
      · have hil : i < s.size := by omega
        have hl := letterB_iff s[i]
        have last : ∀ (K1 : Value → World → Prop), (inLB s[i] = true → K1 (.int .i64 ((i + 1 : Nat) : Int)) w) → ∀ t : Bool, (t = true ↔ ¬ inLB s[i] = true) → m40_9 (fun v w' => v = .bool (decide (NamedB s)) ∧ St w0 F w' L) K1 (.string s) (.int .i64 (i : Int)) (.bool t) w := fun K1 hK t ht => by
          unfold m40_9
          cases t with
          | true =>
            refine cond_t rfl ?_
            unfold m40_10
            exact bad (fun h => ht.1 rfl (h.2.2 i hil)) w hS
          | false =>
            refine cond_f rfl ?_
            unfold m40_8
            refine valP_ok (add_ok _ _ _ (by omega) (by omega) _) ?_
            exact hK (Classical.byContradiction fun h => by have := ht.2 h; cases this)
        have go : inLB s[i] = true → ∀ j (h : j < s.size), j < i + 1 → inLB s[j] = true := fun h1 j hj hlt => by
          rcases Nat.lt_or_ge j i with g | g
          · exact hno j hj g
          · obtain rfl : j = i := by omega
            exact h1
        rw [hl] at last
        unfold m40_7
        refine valP_ok (sidx _ (by assumption)) ?_
        refine valP_ok (geq_ok _ _ _ _ _ _ _) ?_
        refine cond_split (fun hc0 => ?_) (fun hc0 => ?_)
        · refine valP_ok (sidx _ (by assumption)) ?_
          refine valP_ok (leq_ok _ _ _ _ _ _ _) ?_
          refine pick_dt (by first | assumption | omega) ?_
          refine cond_split (fun hc1 => ?_) (fun hc1 => ?_)
          · refine pick_dt (by first | assumption | omega) ?_
            refine pick_t (by first | rfl | assumption) ?_
            refine valP_ok (notb_ok _ _) ?_
            exact last _ (fun h1 => ⟨⟨i + 1, rfl, by omega, go (hl.2 h1), hS⟩, by simp [intOf]; omega⟩) _ (by simp only [decide_eq_true_eq, Bool.false_eq_true, Bool.not_true, Bool.not_false, false_iff, true_iff, Classical.not_not] <;> first | contradiction | omega)
          · refine valP_ok (sidx _ (by assumption)) ?_
            refine valP_ok (geq_ok _ _ _ _ _ _ _) ?_
            refine cond_split (fun hc2 => ?_) (fun hc2 => ?_)
            · refine valP_ok (sidx _ (by assumption)) ?_
              refine valP_ok (leq_ok _ _ _ _ _ _ _) ?_
              refine pick_dt (by first | assumption | omega) ?_
              refine pick_df (by first | assumption | omega) ?_
              refine cond_split (fun hc3 => ?_) (fun hc3 => ?_)
              · refine pick_dt (by first | assumption | omega) ?_
                refine valP_ok (notb_ok _ _) ?_
                exact last _ (fun h1 => ⟨⟨i + 1, rfl, by omega, go (hl.2 h1), hS⟩, by simp [intOf]; omega⟩) _ (by simp only [decide_eq_true_eq, Bool.false_eq_true, Bool.not_true, Bool.not_false, false_iff, true_iff, Classical.not_not] <;> first | contradiction | omega)
              · refine valP_ok (sidx _ (by assumption)) ?_
                refine valP_ok (eq5 _ _ _ _ _) ?_
                refine pick_df (by first | assumption | omega) ?_
                refine valP_ok (not_ok _ _) ?_
                exact last _ (fun h1 => ⟨⟨i + 1, rfl, by omega, go (hl.2 h1), hS⟩, by simp [intOf]; omega⟩) _ (by simp only [decide_eq_true_eq, Bool.false_eq_true, Bool.not_true, Bool.not_false, false_iff, true_iff, Classical.not_not] <;> first | contradiction | omega)
            · refine pick_dt (by first | assumption | omega) ?_
              refine pick_dt (by first | assumption | omega) ?_
              refine valP_ok (sidx _ (by assumption)) ?_
              refine valP_ok (eq5 _ _ _ _ _) ?_
              refine pick_t (by first | rfl | assumption) ?_
              refine valP_ok (notb_ok _ _) ?_
              exact last _ (fun h1 => ⟨⟨i + 1, rfl, by omega, go (hl.2 h1), hS⟩, by simp [intOf]; omega⟩) _ (by simp only [decide_eq_true_eq, Bool.false_eq_true, Bool.not_true, Bool.not_false, false_iff, true_iff, Classical.not_not] <;> first | contradiction | omega)
        · refine pick_df (by first | assumption | omega) ?_
          refine valP_ok (sidx _ (by assumption)) ?_
          refine valP_ok (geq_ok _ _ _ _ _ _ _) ?_
          refine cond_split (fun hc1 => ?_) (fun hc1 => ?_)
          · refine valP_ok (sidx _ (by assumption)) ?_
            refine valP_ok (leq_ok _ _ _ _ _ _ _) ?_
            refine pick_dt (by first | assumption | omega) ?_
            refine pick_f (by first | rfl | assumption) ?_
            refine cond_split (fun hc2 => ?_) (fun hc2 => ?_)
            · refine pick_dt (by first | assumption | omega) ?_
              refine valP_ok (notb_ok _ _) ?_
              exact last _ (fun h1 => ⟨⟨i + 1, rfl, by omega, go (hl.2 h1), hS⟩, by simp [intOf]; omega⟩) _ (by simp only [decide_eq_true_eq, Bool.false_eq_true, Bool.not_true, Bool.not_false, false_iff, true_iff, Classical.not_not] <;> first | contradiction | omega)
            · refine valP_ok (sidx _ (by assumption)) ?_
              refine valP_ok (eq5 _ _ _ _ _) ?_
              refine pick_df (by first | assumption | omega) ?_
              refine valP_ok (not_ok _ _) ?_
              exact last _ (fun h1 => ⟨⟨i + 1, rfl, by omega, go (hl.2 h1), hS⟩, by simp [intOf]; omega⟩) _ (by simp only [decide_eq_true_eq, Bool.false_eq_true, Bool.not_true, Bool.not_false, false_iff, true_iff, Classical.not_not] <;> first | contradiction | omega)
          · refine pick_df (by first | assumption | omega) ?_
            refine pick_f (by first | rfl | assumption) ?_
            refine valP_ok (sidx _ (by assumption)) ?_
            refine valP_ok (eq5 _ _ _ _ _) ?_
            refine pick_f (by first | rfl | assumption) ?_
            refine valP_ok (not_ok _ _) ?_
            exact last _ (fun h1 => ⟨⟨i + 1, rfl, by omega, go (hl.2 h1), hS⟩, by simp [intOf]; omega⟩) _ (by simp only [decide_eq_true_eq, Bool.false_eq_true, Bool.not_true, Bool.not_false, false_iff, true_iff, Classical.not_not] <;> first | contradiction | omega)
      · unfold m40_3 m40_4
        refine ⟨?_, hS⟩
        rw [decide_eq_true ⟨hz.1, hz.2, fun j hj => hno j hj (by omega)⟩]
  unfold m40_1
  refine builtin_ok (len9 _) ?_
  refine valP_ok (lss_ok _ _ _ _ _ _ _) ?_
  refine cond_split (fun hc0 => ?_) (fun hc0 => ?_)
  · refine pick_dt (by first | assumption | omega) ?_
    exact leaf _ (by simp only [decide_eq_true_eq, Bool.false_eq_true, false_iff, true_iff] <;> first | contradiction | omega)
  · refine builtin_ok (len9 _) ?_
    refine valP_ok (gtr_ok _ _ _ _ _ _ _) ?_
    refine pick_df (by first | assumption | omega) ?_
    exact leaf _ (by simp only [decide_eq_true_eq, Bool.false_eq_true, false_iff, true_iff] <;> first | contradiction | omega)
end
abbrev flv (f : Fl) : Value := .agg #[.string f.name, .string f.sure, .string f.loose]
def putL (f : Fl) : List Fl → List Fl
  | [] => [f]
  | q :: l => if lst q.name < lst f.name then q :: putL f l else if q.name = f.name then f :: l else f :: q :: l
theorem up_gt {q : Fl} {l : List Fl} (h : UpL (q :: l)) : ∀ f ∈ l, f.name ≠ q.name := fun f hf e => (List.pairwise_cons.1 (up_ne h)).1 f hf e.symm
theorem putL_ins {f : Fl} : ∀ {l : List Fl}, UpL l → putL f l = insF f (delF l f.name)
  | [], _ => rfl
  | q :: l, h => by
    have hq := List.pairwise_cons.1 h
    have ih := putL_ins (f := f) hq.2
    unfold putL
    by_cases h1 : lst q.name < lst f.name
    · have hne : q.name ≠ f.name := fun e => by rw [e] at h1; exact absurd h1 (List.lt_irrefl _)
      have e : delF (q :: l) f.name = q :: delF l f.name := by unfold delF; rw [List.filter_cons, if_pos (by simpa using hne)]
      rw [if_pos h1, e, ih]
      rw [insF, if_neg (fun h2 => List.lt_irrefl _ (List.lt_trans h1 h2))]
    · rw [if_neg h1]
      have dl : (∀ g ∈ l, g.name ≠ f.name) → delF l f.name = l := fun hg => List.filter_eq_self.2 fun g hgm => by simpa using hg g hgm
      by_cases h2 : q.name = f.name
      · have hl : ∀ g ∈ l, g.name ≠ f.name := fun g hg e => up_gt h g hg (e.trans h2.symm)
        have e : delF (q :: l) f.name = l := by
          unfold delF at dl ⊢
          rw [List.filter_cons, if_neg (by simpa using h2), dl hl]
        rw [if_pos h2, e]
        cases l with
        | nil => rfl
        | cons r l' =>
          have := hq.1 r (.head _)
          rw [h2] at this
          rw [insF, if_pos this]
      · have h3 : lst f.name < lst q.name := lt_of_ne h1 h2
        have hl : ∀ g ∈ l, g.name ≠ f.name := fun g hg e => by
          have := hq.1 g hg
          rw [e] at this
          exact List.lt_irrefl _ (List.lt_trans h3 this)
        have e : delF (q :: l) f.name = q :: l := by
          have dl := dl hl
          unfold delF at dl ⊢
          rw [List.filter_cons, if_pos (by simpa using h2), dl]
        rw [if_neg h2, e, insF, if_pos h3]
theorem putL_upd {f : Fl} : ∀ {l : List Fl}, UpL l → (∃ g ∈ l, g.name = f.name) → putL f l = updF l f
  | [], _, h => by obtain ⟨g, hg, _⟩ := h; cases hg
  | q :: l, h, ⟨g, hg, e⟩ => by
    have hq := List.pairwise_cons.1 h
    unfold putL
    by_cases h1 : lst q.name < lst f.name
    · have hne : q.name ≠ f.name := fun e => by rw [e] at h1; exact absurd h1 (List.lt_irrefl _)
      have hgl : g ∈ l := by
        rcases List.mem_cons.1 hg with rfl | hg
        · exact absurd e hne
        · exact hg
      rw [if_pos h1, putL_upd hq.2 ⟨g, hgl, e⟩]
      unfold updF
      rw [List.map_cons, if_neg hne]
    · rw [if_neg h1]
      by_cases h2 : q.name = f.name
      · rw [if_pos h2]
        unfold updF
        rw [List.map_cons, if_pos h2]
        congr 1
        exact ((List.map_congr_left (g := id) fun g hg => if_neg fun e => up_gt h g hg (e.trans h2.symm)).trans (List.map_id _)).symm
      · exfalso
        have h3 : lst f.name < lst q.name := lt_of_ne h1 h2
        rcases List.mem_cons.1 hg with rfl | hg
        · exact h2 e
        · have := hq.1 g hg
          rw [e] at this
          exact List.lt_irrefl _ (List.lt_trans h3 this)
section
variable {w0 w : World} {F : List Nat} {L : List Res} {A A2 : Option Addr} {c c2 : Nat} {l l2 out : List Fl} {f : Fl}
def PutR (w0 : World) (F : List Nat) (L : List Res) (l : List Fl) (v : Value) (w : World) : Prop := ∃ A c, v = .slice A l.length c ∧ St w0 F w (flRow A c l :: L)
theorem FSl.cons (h : FSl w0 F L A c l) (r : Res) : FSl w0 F (r :: L) A c l := ⟨h.rd.cons r, h.cap, h.nul⟩
theorem put_6 {i b3 : Nat} (hE : FSl w0 F L A c l) (hl : l.length ≤ 1000) (hi : i ≤ l.length) (hol : out.length ≤ 1001) (ho : out ++ l.drop i = putL f l) (hS : St w0 F w (flRow A2 c2 out :: Res.cells b3 67 (encFl f) :: L)) : m50_6 (PutR w0 F L (putL f l)) (.slice A l.length c) (.slice A2 out.length c2) (.int .i64 (i : Int)) w := by
  have hcap := hE.cap
  have hdl : (l.drop i).length = l.length - i := List.length_drop
  unfold m50_6
  refine valP_ok (so39 (by omega) (by omega) _) ?_
  rw [← hdl]
  refine append_anyS (enc := encFl) (l0 := out) (l := l.drop i) 0 sl39 encFl_len encFl_one (by unfold maxLen; omega) (by omega) hS rfl ((((hE.cons _).cons _).rd.rd hS).dropS encFl_len hi hcap) (fun h => ?_) ?_
  · split at h
    · omega
    · have hA : A = none := by
        cases A with
        | none => rfl
        | some a => cases h
      have := hE.nul hA
      omega
  intro A4 c4 w hS
  simp only [List.set_cons_zero, List.set_cons_succ] at hS
  rw [ho] at hS ⊢
  unfold m50_7 m50_8
  exact ⟨A4, c4, rfl, St.mid (A := [_]) (B := [_]) hS⟩
theorem put_4 {i b3 : Nat} (hE : FSl w0 F L A c l) (hl : l.length ≤ 1000) (hi : i ≤ l.length) (hol : out.length ≤ i) (ho : out ++ putL f (l.drop i) = putL f l) (hn : ∀ h : i < l.length, ¬ lst l[i].name < lst f.name) (hS : St w0 F w (flRow A2 c2 out :: Res.cells b3 67 (encFl f) :: L)) : m50_4 (PutR w0 F L (putL f l)) (.slice A l.length c) (.pointer (some ⟨b3, 0, none⟩)) (.slice A2 out.length c2) (.int .i64 (i : Int)) w := by
  unfold m50_4
  refine ls67 1 hS rfl ?_
  refine newslice_ok (bs39_1 _) hS ?_
  intro b32 w hS
  refine append_one1 (enc := encFl) 0 f sl39 encFl_len encFl_one (by unfold maxLen; omega) (by omega) hS rfl ?_
  intro A3 c3 w hS
  simp only [List.set_cons_zero, List.set_cons_succ] at hS
  have hE2 := (hE.cons (Res.cells b3 67 (encFl f))).cons (flRow A3 c3 (out ++ [f]))
  have hlen : (out ++ [f]).length = out.length + 1 := by simp
  unfold m50_5
  refine builtinQ_ok (len39) ?_
  refine valQ_ok (lss_ok _ _ _ _ _ _) ?_
  refine cond_split (fun h => ?_) (fun h => ?_)
  · have hil : i < l.length := by omega
    obtain ⟨gb, o, rfl⟩ := (hE2.rd.rd hS).some_ (by omega) (by omega)
    have p := fl_at (hE2.rd.rd hS) hil
    have hd : l.drop i = l[i] :: l.drop (i + 1) := List.drop_eq_getElem_cons hil
    rw [hd, putL, if_neg (hn hil)] at ho
    refine valQ_ok (ix39 hil) ?_
    refine valQ_ok (fun w => fao67_0 _ _ w) ?_
    refine valQ_at (fun n => ld9 (cellD p.1 n)) ?_
    refine valQ_ok (fa67_0 _) ?_
    refine valQ_load ld9 (hS.cell 1 rfl rfl) ?_
    refine valQ_ok (eq9 _ _ _ _) ?_
    refine pick_dt (by first | assumption | omega) ?_
    refine drawn_ok hS ?_
    intro w hS
    unfold m50_9
    refine cond_split (fun h1 => ?_) (fun h1 => ?_)
    · rw [if_pos h1] at ho
      refine valP_ok (add_ok _ _ _ (by omega) (by omega) _) ?_
      exact put_6 (i := i + 1) hE hl (by omega) (by omega) (by rw [List.append_assoc]; exact ho) hS
    · rw [if_neg h1] at ho
      exact put_6 hE hl (by omega) (by omega) (by rw [hd, List.append_assoc]; exact ho) hS
  · rw [List.drop_eq_nil_of_le (by omega)] at ho
    refine pick_df (by first | assumption | omega) ?_
    refine drawn_ok hS ?_
    intro w hS
    unfold m50_9
    refine cond_f rfl ?_
    exact put_6 hE hl hi (by omega) (by rw [List.drop_eq_nil_of_le (by omega), List.append_nil]; exact ho) hS
theorem put50_ret (hE : FSl w0 F L A c l) (hl : l.length ≤ 1000) (hS : St w0 F w L) : Ret Tryz.prog 50 #[.slice A l.length c, flv f] w (PutR w0 F L (putL f l)) := by
  refine s50 _ _ ?_
  unfold m50
  unfold m50_0
  refine new_ok (bx67 _ _ _ _) hS ?_
  intro b3 w hS
  unfold m50_1 m50_2 m50_3
  refine loop_in (fun u w' => ∃ (i : Nat) (A2 : Option Addr) (c2 : Nat) (out : List Fl), u = (.slice A2 out.length c2, .int .i64 (i : Int)) ∧ i ≤ l.length ∧ out.length ≤ i ∧ out ++ putL f (l.drop i) = putL f l ∧ St w0 F w' (flRow A2 c2 out :: Res.cells b3 67 (encFl f) :: L)) (fun u _ => l.length - (intOf u.2).toNat) ⟨0, none, 0, [], rfl, by omega, by simp, rfl, hS.row_nil 67 3⟩ ?_
  clear hS
  rintro u w ⟨i, A2, c2, out, rfl, hi, hol, ho, hS⟩
  simp only
  have hE2 := (hE.cons (Res.cells b3 67 (encFl f))).cons (flRow A2 c2 out)
  unfold m50_10
  refine builtinQ_ok (len39) ?_
  refine valQ_ok (lss_ok _ _ _ _ _ _) ?_
  refine cond_split (fun h => ?_) (fun h => ?_)
  · have hil : i < l.length := by omega
    obtain ⟨gb, o, rfl⟩ := (hE2.rd.rd hS).some_ (by omega) (by omega)
    have p := fl_at (hE2.rd.rd hS) hil
    refine valQ_ok (ix39 hil) ?_
    refine valQ_ok (fun w => fao67_0 _ _ w) ?_
    refine valQ_at (fun n => ld9 (cellD p.1 n)) ?_
    refine valQ_ok (fa67_0 _) ?_
    refine valQ_load ld9 (hS.cell 1 rfl rfl) ?_
    refine valQ_ok (fun w => slt _ _ _ _ w) ?_
    refine pick_dt (by first | assumption | omega) ?_
    refine drawn_ok hS ?_
    intro w hS
    unfold m50_13
    refine cond_split (fun h1 => ?_) (fun h1 => ?_)
    · have p := fl_at (hE2.rd.rd hS) hil
      unfold m50_11
      refine valP_ok (ix39 hil _) ?_
      refine valP_ok (ld67 p.1 p.2.1 p.2.2) ?_
      refine newslice_ok (bs39_1 _) hS ?_
      intro b26 w hS
      refine append_one1 (enc := encFl) 0 l[i] sl39 encFl_len encFl_one (by unfold maxLen; omega) (by omega) hS rfl ?_
      intro A3 c3 w hS
      simp only [List.set_cons_zero, List.set_cons_succ] at hS
      unfold m50_12
      refine valP_ok (add_ok _ _ _ (by omega) (by omega) _) ?_
      refine ⟨⟨i + 1, A3, c3, out ++ [l[i]], rfl, by omega, by rw [List.length_append]; simp; omega, ?_, hS⟩, by simp [intOf]; omega⟩
      rw [List.drop_eq_getElem_cons hil, putL, if_pos h1] at ho
      rw [List.append_assoc]
      exact ho
    · exact put_4 hE hl hi hol ho (fun _ => h1) hS
  · refine pick_df (by first | assumption | omega) ?_
    refine drawn_ok hS ?_
    intro w hS
    unfold m50_13
    refine cond_f rfl ?_
    exact put_4 hE hl hi hol ho (fun h2 => absurd h2 (by omega)) hS
theorem without_ret {s : ByteArray} (hE : FSl w0 F L A c l) (hl : l.length ≤ 1000) (hS : St w0 F w L) : Ret Tryz.prog 81 #[.slice A l.length c, .string s] w (PutR w0 F L (delF l s)) := by
  refine s81 _ _ ?_
  unfold m81 m81_0 m81_1 m81_2 m81_5
  refine loop_in (fun u w' => ∃ (i : Nat) (A2 : Option Addr) (c2 : Nat), u = (.slice A2 (delF (l.take i) s).length c2, .int .i64 (i : Int)) ∧ i ≤ l.length ∧ St w0 F w' (flRow A2 c2 (delF (l.take i) s) :: L)) (fun u _ => l.length - (intOf u.2).toNat) ⟨0, none, 0, rfl, by omega, hS.row_nil 67 3⟩ ?_
  clear hS
  rintro u w ⟨i, A2, c2, rfl, hi, hS⟩
  simp only
  have hdl : (delF (l.take i) s).length ≤ i := by
    unfold delF
    exact Nat.le_trans (List.length_filter_le _ _) (by rw [List.length_take]; omega)
  have hE2 := hE.cons (flRow A2 c2 (delF (l.take i) s))
  unfold m81_6
  refine builtin_ok (len39 _) ?_
  refine valP_ok (lss_ok _ _ _ _ _ _ _) ?_
  unfold m81_10
  refine cond_split (fun h => ?_) (fun h => ?_)
  · have hil : i < l.length := by omega
    obtain ⟨gb, o, rfl⟩ := (hE2.rd.rd hS).some_ (by omega) (by omega)
    have p := fl_at (hE2.rd.rd hS) hil
    have e : delF (l.take (i + 1)) s = delF (l.take i) s ++ (if l[i].name ≠ s then [l[i]] else []) := by
      unfold delF
      rw [List.take_succ_eq_append_getElem hil, List.filter_append]
      congr 1
      by_cases h1 : l[i].name = s
      · simp [h1]
      · simp [h1]
    unfold m81_7
    refine valP_ok (ix39 hil _) ?_
    refine valP_ok (fao67_0 _ _ _) ?_
    refine valP_ok (ld9 p.1) ?_
    refine valP_ok (ne9 _ _ _ _ _) ?_
    unfold m81_9
    refine cond_split (fun h1 => ?_) (fun h1 => ?_)
    · rw [if_pos h1] at e
      refine valP_ok (ix39 hil _) ?_
      refine valP_ok (ld67 p.1 p.2.1 p.2.2) ?_
      refine newslice_ok (bs39_1 _) hS ?_
      intro b25 w hS
      refine append_one1 (enc := encFl) 0 l[i] sl39 encFl_len encFl_one (by unfold maxLen; omega) (by omega) hS rfl ?_
      intro A3 c3 w hS
      simp only [List.set_cons_zero, List.set_cons_succ] at hS
      rw [← e] at hS ⊢
      unfold m81_8
      refine valP_ok (add_ok _ _ _ (by omega) (by omega) _) ?_
      exact ⟨⟨i + 1, A3, c3, rfl, by omega, hS⟩, by simp [intOf]; omega⟩
    · rw [if_neg h1, List.append_nil] at e
      rw [← e] at hS ⊢
      unfold m81_8
      refine valP_ok (add_ok _ _ _ (by omega) (by omega) _) ?_
      exact ⟨⟨i + 1, A2, c2, rfl, by omega, hS⟩, by simp [intOf]; omega⟩
  · obtain rfl : i = l.length := by omega
    rw [List.take_length] at hS ⊢
    unfold m81_3 m81_4
    exact ⟨A2, c2, rfl, hS⟩
theorem fl_ext {a b : Fl} : a = b ↔ a.name = b.name ∧ a.sure = b.sure ∧ a.loose = b.loose := by
  obtain ⟨n, s, t⟩ := a
  obtain ⟨n2, s2, t2⟩ := b
  simp
theorem samefl_ret (hm : l.length ≤ 1000000) (hm2 : l2.length ≤ 1000000) (hE : Bes w0 F L 3 A l.length (l.flatMap encFl)) (hE2 : Bes w0 F L 3 A2 l2.length (l2.flatMap encFl)) (hS : St w0 F w L) : Ret Tryz.prog 54 #[.slice A l.length c, .slice A2 l2.length c2] w fun v w' => (∃ t, v = .bool t ∧ (t = true ↔ l = l2)) ∧ St w0 F w' L := by
  refine s54 _ _ ?_
  unfold m54
  unfold m54_0
  unfold m54_1
  refine builtin_ok (len39 _) ?_
  refine builtin_ok (len39 _) ?_
  refine valP_ok (ne3 _ _ _ _ _) ?_
  unfold m54_12
  refine cond_split (fun h => ?_) (fun h => ?_)
  · unfold m54_13
    exact ⟨⟨_, rfl, ⟨fun h => (by cases h), fun h1 => absurd (congrArg (fun l : List Fl => (l.length : Int)) h1) h⟩⟩, hS⟩
  · have hl : l.length = l2.length := by omega
    unfold m54_2 m54_5
    refine loop_in (fun u w' => ∃ i : Nat, u = .int .i64 (i : Int) ∧ i ≤ l.length ∧ (∀ j (h1 : j < l.length) (h2 : j < l2.length), j < i → l[j] = l2[j]) ∧ St w0 F w' L) (fun u _ => l.length - (intOf u).toNat) ⟨0, rfl, by omega, fun j _ _ h => by omega, hS⟩ ?_
    clear hS
    rintro u w ⟨i, rfl, hi, hno, hS⟩
    unfold m54_6
    refine builtin_ok (len39 _) ?_
    refine valP_ok (lss_ok _ _ _ _ _ _ _) ?_
    unfold m54_11
    refine cond_split (fun h1 => ?_) (fun h1 => ?_)
    · have hil : i < l.length := by omega
      have hil2 : i < l2.length := by omega
      obtain ⟨b, o, rfl⟩ := (hE.rd hS).some_ (by omega) (by omega)
      obtain ⟨b2, o2, rfl⟩ := (hE2.rd hS).some_ (by omega) (by omega)
      have p := fl_at (hE.rd hS) hil
      have p2 := fl_at (hE2.rd hS) hil2
      unfold m54_7
      refine valQ_ok (ix39 hil) ?_
      refine valQ_at (fun n => ld67 (cellD p.1 n) (cellD p.2.1 n) (cellD p.2.2 n)) ?_
      refine valQ_ok (ix39 hil2) ?_
      refine valQ_at (fun n => ld67 (cellD p2.1 n) (cellD p2.2.1 n) (cellD p2.2.2 n)) ?_
      refine valQ_ok (ne67 _ _ _ _ _ _ _ _) ?_
      refine drawn_ok hS ?_
      intro w hS
      unfold m54_9
      refine cond_split (fun h2 => ?_) (fun h2 => ?_)
      · unfold m54_10
        refine ⟨⟨_, rfl, ⟨fun h => (by cases h), fun h3 => ?_⟩⟩, hS⟩
        subst h3
        exact absurd ⟨rfl, rfl, rfl⟩ h2
      · unfold m54_8
        refine valP_ok (add_ok _ _ _ (by omega) (by omega) _) ?_
        refine ⟨⟨i + 1, rfl, by omega, fun j h3 h4 h5 => ?_, hS⟩, by simp [intOf]; omega⟩
        rcases Nat.lt_or_ge j i with g | g
        · exact hno j h3 h4 g
        · obtain rfl : j = i := by omega
          exact fl_ext.2 (Classical.not_not.1 h2)
    · unfold m54_3 m54_4
      exact ⟨⟨_, rfl, ⟨fun _ => List.ext_getElem hl fun j h2 h3 => hno j h2 h3 (by omega), fun _ => rfl⟩⟩, hS⟩
end
theorem work_bad {D : Dk} {s : ByteArray} {Rf : Fl → Dk → Dk × Int} (h : ¬ fileC D s = 0) : workD D s Rf = (D, fileC D s) := by
  unfold fileC at h ⊢
  unfold workD
  by_cases h1 : readyC [s] D.off = 0
  · rw [if_pos h1] at h ⊢
    rw [if_pos h1]
    cases hg : getF D.L s with
    | none => rfl
    | some f => rw [hg] at h; exact absurd rfl h
  · rw [if_neg h1, if_neg h1]
theorem file_ok {D : Dk} {s : ByteArray} (h : fileC D s = 0) : readyC [s] D.off = 0 ∧ ∃ f, getF D.L s = some f := by
  unfold fileC at h
  by_cases h1 : readyC [s] D.off = 0
  · rw [if_pos h1] at h
    cases hg : getF D.L s with
    | none => rw [hg] at h; exact absurd h (by decide)
    | some f => exact ⟨h1, f, rfl⟩
  · rw [if_neg h1] at h
    exact absurd h h1
theorem work_good {D : Dk} {s : ByteArray} {f : Fl} {Rf : Fl → Dk → Dk × Int} (h : readyC [s] D.off = 0) (hg : getF D.L s = some f) : workD D s Rf = if D.fuse = 0 then (burnt D, 4) else Rf f (burnt D) := by
  unfold workD
  rw [if_pos h, hg]
section
variable {w0 w : World} {F : List Nat} {L : List Res} {s t : ByteArray} {bq size : Nat} {D : Dk} {A : Option Addr} {c : Nat} {f : Fl}
def QR (w0 : World) (F : List Nat) (L : List Res) (bq size : Nat) (p : Dk × Int) (v : Value) (w : World) : Prop := v = .int .i64 p.2 ∧ Qd w0 F L bq size p.1 w
theorem burntQ (hO : Ok size D) (hS : St w0 F w (qCell bq A c D size :: flRow A c D.L :: L)) : Ret Tryz.prog 51 #[ptr bq] w fun v w' => v = .bool (decide (D.fuse = 0)) ∧ St w0 F w' (qCell bq A c (burnt D) size :: flRow A c (burnt D).L :: L) := by
  refine (burnt51_ret hO.fuse hS).mono fun v w' ⟨h, hS⟩ => ⟨h, ?_⟩
  have e := burnt_L D
  rw [← e] at hS
  rw [e] at hS ⊢
  exact hS
theorem at_some (k : Nat) (hl : D.L.length ≤ 1000) (hg : getF D.L s = some f) (hq : L[k]? = some (qCell bq A c D size)) (hr : L[k + 1]? = some (flRow A c D.L)) (hS : St w0 F w L) : Ret Tryz.prog 47 #[ptr bq, .string s] w fun v w' => (∃ i, ∃ hi : i < D.L.length, v = .int .i64 (i : Int) ∧ D.L[i] = f) ∧ St w0 F w' L := by
  refine (at47_ret k hl hq hr hS).mono fun v w' ⟨h, hS⟩ => ⟨?_, hS⟩
  rcases h with ⟨_, h⟩ | ⟨i, hi, h1, _, h2⟩
  · rw [hg] at h; cases h
  · rw [hg] at h2
    exact ⟨i, hi, h1, (Option.some.inj h2).symm⟩
theorem qsync_5 {b6 : Nat} (hl : D.L.length ≤ 256) (hz : f.sure.size + f.loose.size ≤ 1048576) (hS : St w0 F w (Res.cells b6 67 (encFl f) :: qCell bq A c D size :: flRow A c D.L :: L)) : m42_5 (QR w0 F L bq size (⟨putL ⟨s, f.sure ++ f.loose, ⟨#[]⟩⟩ D.L, D.room, D.fuse, D.off⟩, 0)) (ptr bq) (.string s) (.pointer (some ⟨b6, 0, none⟩)) w := by
  unfold m42_5
  refine drawn_ok hS ?_
  intro w hS
  refine held_Hs (hS.pick 2 [0] (by simp) (by decide)) ?_
  refine nil_ok ?_
  refine valJ_ok (fa41_0 _) ?_
  refine valJ_ok (fa67_1 _) ?_
  refine valJ_load ld9 (Hs.cell 0 rfl rfl) ?_
  refine valJ_ok (fa67_2 _) ?_
  refine valJ_load ld9 (Hs.cell 0 rfl rfl) ?_
  refine valJ_ok (fun w => sadd _ _ (by omega) w) ?_
  refine valJ_ok (bd67_0_1 rfl rfl) ?_
  refine valP_ok (ld39 (hS.cell 1 rfl (i := 0) rfl)) ?_
  refine stay_Hs (hS.pick 2 [0] (by simp) (by decide)) (fun _ h => h) ?_
  refine callR (by kernel_rfl) (put50_ret (f := ⟨s, f.sure ++ f.loose, ⟨#[]⟩⟩) (FSl.row 2 hS rfl) (by omega) hS) ?_
  rintro _ w ⟨A2, c2, rfl, hS⟩
  refine stay_Hs (hS.pick 3 [1] (by simp) (by decide)) (fun _ h => h) ?_
  refine nil_ok ?_
  refine valJ_ok (fa41_0 _) ?_
  refine store_at 2 st39 hS rfl (by simp) rfl ?_
  intro w hS
  simp only [List.set_cons_zero, List.set_cons_succ] at hS
  refine stay_Hs (hS.pick 3 [1] (by simp) (by decide)) (fun _ h => h) ?_
  unfold m42_6 m42_7
  exact ⟨rfl, A2, c2, hS.pick 4 [2, 0] (by simp) (by decide)⟩
theorem qsync_ret (hO : Ok size D) (hQ : Qd w0 F L bq size D w) : Ret Tryz.prog 42 #[ptr bq, .string s] w (QR w0 F L bq size (workD D s syncR)) := by
  obtain ⟨A, c, hS⟩ := hQ
  have hl := hO.len
  refine s42 _ _ ?_
  unfold m42 m42_0 m42_1
  refine callR (by kernel_rfl) (file80_ret (by omega) hS) ?_
  rintro _ w ⟨rfl, hS⟩
  unfold m42_2
  refine valP_ok (ne3 _ _ _ _ _) ?_
  unfold m42_10
  refine cond_split (fun h => ?_) (fun h => ?_)
  · unfold m42_11
    rw [work_bad h]
    exact ⟨rfl, A, c, hS⟩
  obtain ⟨h1, f, hg⟩ := file_ok (Classical.not_not.1 h)
  have hfm := (getF_some hg).1
  have hfz : f.sure.size + f.loose.size ≤ 1048576 := hO.sz hfm
  rw [work_good h1 hg]
  unfold m42_3
  refine callR (by kernel_rfl) (burntQ hO hS) ?_
  rintro _ w ⟨rfl, hS⟩
  unfold m42_8
  refine cond_split (fun h2 => ?_) (fun h2 => ?_)
  · unfold m42_9
    rw [if_pos h2]
    exact ⟨rfl, A, c, hS⟩
  rw [if_neg h2]
  have hO2 := hO.burnt
  have hl2 : (burnt D).L.length ≤ 256 := hO2.len
  have hg2 : getF (burnt D).L s = some f := by rw [burnt_L]; exact hg
  have e : syncR f (burnt D) = (⟨putL ⟨s, f.sure ++ f.loose, ⟨#[]⟩⟩ (burnt D).L, (burnt D).room, (burnt D).fuse, (burnt D).off⟩, 0) := by
    unfold syncR
    rw [(getF_some hg).2, putL_upd hO2.up ⟨f, (getF_some hg2).1, (getF_some hg).2⟩]
  rw [e]
  generalize burnt D = D' at *
  have hB : Bes w0 F (qCell bq A c D' size :: flRow A c D'.L :: L) 3 A D'.L.length (D'.L.flatMap encFl) := Bes.of_row 1 rfl
  unfold m42_4
  refine drawn_ok hS ?_
  intro w hS
  refine held_Hs hS ?_
  refine nil_ok ?_
  refine valJ_ok (fa41_0 _) ?_
  refine valJ_load ld39 (Hs.cell 0 rfl rfl) ?_
  refine ⟨?_, ?_⟩
  · refine callR (by kernel_rfl) (at_some 0 (by omega) hg2 rfl rfl hS) ?_
    rintro _ w ⟨⟨i, hi, rfl, hif⟩, hS⟩
    obtain ⟨gb, o, rfl⟩ := (hB.rd hS).some_ (by omega) (by omega)
    have p := fun w (hw : Hs w0 F (qCell bq (some ⟨gb, o, none⟩) c D' size :: flRow (some ⟨gb, o, none⟩) c D'.L :: L) w) => fl_at (Hs.rd hB w hw) hi
    rw [hif] at p
    refine stay_Hs hS (by first | exact fun _ h => h | exact fun _ h => .tail _ h | exact fun _ h => .tail _ (.tail _ h) | simp) ?_
    refine valJ_ok (fun w => ix39 hi w) ?_
    refine valJ_at (fun w hw => ld67 (p w hw).1 (p w hw).2.1 (p w hw).2.2) ?_
    refine new_ok (al67 _) hS ?_
    intro b6 w hS
    refine stay_Hs hS (by first | exact fun _ h => h | exact fun _ h => .tail _ h | exact fun _ h => .tail _ (.tail _ h) | simp) ?_
    refine ss67 0 hS rfl rfl rfl rfl ?_
    intro w hS
    simp only [List.set_cons_zero, List.set_cons_succ] at hS
    refine stay_Hs hS (by first | exact fun _ h => h | exact fun _ h => .tail _ h | exact fun _ h => .tail _ (.tail _ h) | simp) ?_
    exact qsync_5 hl2 hfz hS
  · refine new_ok (al67 _) hS ?_
    intro b6 w hS
    refine stay_Hs hS (by first | exact fun _ h => h | exact fun _ h => .tail _ h | exact fun _ h => .tail _ (.tail _ h) | simp) ?_
    refine callR (by kernel_rfl) (at_some 1 (by omega) hg2 rfl rfl hS) ?_
    rintro _ w ⟨⟨i, hi, rfl, hif⟩, hS⟩
    obtain ⟨gb, o, rfl⟩ := ((hB.cons _).rd hS).some_ (by omega) (by omega)
    have p := fun w (hw : Hs w0 F (qCell bq (some ⟨gb, o, none⟩) c D' size :: flRow (some ⟨gb, o, none⟩) c D'.L :: L) w) => fl_at (Hs.rd hB w hw) hi
    rw [hif] at p
    refine stay_Hs hS (by first | exact fun _ h => h | exact fun _ h => .tail _ h | exact fun _ h => .tail _ (.tail _ h) | simp) ?_
    refine valJ_ok (fun w => ix39 hi w) ?_
    refine valJ_at (fun w hw => ld67 (p w hw).1 (p w hw).2.1 (p w hw).2.2) ?_
    refine ss67 0 hS rfl rfl rfl rfl ?_
    intro w hS
    simp only [List.set_cons_zero, List.set_cons_succ] at hS
    refine stay_Hs hS (by first | exact fun _ h => h | exact fun _ h => .tail _ h | exact fun _ h => .tail _ (.tail _ h) | simp) ?_
    exact qsync_5 hl2 hfz hS
theorem qremove_ret (hO : Ok size D) (hQ : Qd w0 F L bq size D w) : Ret Tryz.prog 41 #[ptr bq, .string s] w (QR w0 F L bq size (workD D s removeR)) := by
  obtain ⟨A, c, hS⟩ := hQ
  have hl := hO.len
  refine s41 _ _ ?_
  unfold m41 m41_0 m41_1
  refine callR (by kernel_rfl) (file80_ret (by omega) hS) ?_
  rintro _ w ⟨rfl, hS⟩
  unfold m41_2
  refine valP_ok (ne3 _ _ _ _ _) ?_
  unfold m41_9
  refine cond_split (fun h => ?_) (fun h => ?_)
  · unfold m41_10
    rw [work_bad h]
    exact ⟨rfl, A, c, hS⟩
  obtain ⟨h1, f, hg⟩ := file_ok (Classical.not_not.1 h)
  rw [work_good h1 hg]
  unfold m41_3
  refine callR (by kernel_rfl) (burntQ hO hS) ?_
  rintro _ w ⟨rfl, hS⟩
  unfold m41_7
  refine cond_split (fun h2 => ?_) (fun h2 => ?_)
  · unfold m41_8
    rw [if_pos h2]
    exact ⟨rfl, A, c, hS⟩
  rw [if_neg h2]
  have hO2 := hO.burnt
  have hl2 : (burnt D).L.length ≤ 256 := hO2.len
  have e : (removeR f (burnt D)).1.L = delF (burnt D).L s := by unfold removeR; rw [(getF_some hg).2]
  have e2 : (removeR f (burnt D)).1.fuse = (burnt D).fuse ∧ (removeR f (burnt D)).1.off = (burnt D).off ∧ (removeR f (burnt D)).2 = 0 := ⟨rfl, rfl, rfl⟩
  generalize removeR f (burnt D) = p at *
  generalize burnt D = D' at *
  unfold m41_4
  refine nil_ok ?_
  refine valP_ok (fa41_0 _ _) ?_
  refine valP_ok (ld39 (hS.cell 0 rfl rfl)) ?_
  refine callR (by kernel_rfl) (without_ret (s := s) (FSl.row 1 hS rfl) (by omega) hS) ?_
  rintro _ w ⟨A2, c2, rfl, hS⟩
  refine nil_ok ?_
  refine valP_ok (fa41_0 _ _) ?_
  refine store_at 1 st39 hS rfl (by simp) rfl ?_
  intro w hS
  simp only [List.set_cons_zero, List.set_cons_succ] at hS
  unfold m41_5 m41_6
  obtain ⟨⟨PL, Pr, Pf, Po⟩, pe⟩ := p
  simp only at e e2
  obtain ⟨rfl, rfl, rfl⟩ := e2
  subst e
  exact ⟨rfl, A2, c2, hS.pick 3 [1, 0] (by simp) (by decide)⟩
theorem qren_7 {b8 : Nat} (hl : D.L.length ≤ 256) (hS : St w0 F w (Res.cells b8 67 (encFl ⟨t, f.sure, f.loose⟩) :: qCell bq A c D size :: flRow A c D.L :: L)) (r : Int) : m43_7 (QR w0 F L bq size (⟨putL ⟨t, f.sure, f.loose⟩ (delF D.L s), r, D.fuse, D.off⟩, 0)) (ptr bq) (.string s) (.pointer (some ⟨b8, 0, none⟩)) w := by
  have hdl : (delF D.L s).length ≤ D.L.length := List.length_filter_le _ _
  unfold m43_7
  refine drawn_ok hS ?_
  intro w hS
  refine held_Hs (hS.pick 2 [0] (by simp) (by decide)) ?_
  refine nil_ok ?_
  refine valJ_ok (fa41_0 _) ?_
  refine valJ_at (fun w hw => ld67 (Hs.cell 0 rfl rfl w hw) (Hs.cell 0 rfl rfl w hw) (Hs.cell 0 rfl rfl w hw)) ?_
  refine valP_ok (ld39 (hS.cell 1 rfl (i := 0) rfl)) ?_
  refine stay_Hs (hS.pick 2 [0] (by simp) (by decide)) (fun _ h => h) ?_
  refine callR (by kernel_rfl) (without_ret (s := s) (FSl.row 2 hS rfl) (by omega) hS) ?_
  rintro _ w ⟨A2, c2, rfl, hS⟩
  refine stay_Hs (hS.pick 3 [1] (by simp) (by decide)) (fun _ h => h) ?_
  refine callR (by kernel_rfl) (put50_ret (f := ⟨t, f.sure, f.loose⟩) (FSl.row 0 hS rfl) (by omega) hS) ?_
  rintro _ w ⟨A3, c3, rfl, hS⟩
  refine stay_Hs (hS.pick 4 [2] (by simp) (by decide)) (fun _ h => h) ?_
  refine nil_ok ?_
  refine valJ_ok (fa41_0 _) ?_
  refine store_at 3 st39 hS rfl (by simp) rfl ?_
  intro w hS
  simp only [List.set_cons_zero, List.set_cons_succ] at hS
  refine stay_Hs (hS.pick 4 [2] (by simp) (by decide)) (fun _ h => h) ?_
  unfold m43_8 m43_9
  exact ⟨rfl, A3, c3, hS.pick 5 [3, 0] (by simp) (by decide)⟩
theorem readyC_two (s t : ByteArray) (o : Bool) : readyC [s, t] o = if Named t then readyC [s] o else 1 := by
  rw [readyC_one]
  unfold readyC
  by_cases h : Named t
  · rw [if_pos h]
    by_cases h1 : Named s
    · rw [if_pos h1, if_pos fun x hx => ?_]
      rcases List.mem_cons.1 hx with rfl | hx
      · exact h1
      · obtain rfl := List.mem_singleton.1 hx
        exact h
    · rw [if_neg h1, if_neg fun h2 => h1 (h2 s (.head _))]
  · rw [if_neg h, if_neg fun h2 => h (h2 t (.tail _ (.head _)))]
theorem qrename_ret (hO : Ok size D) (hQ : Qd w0 F L bq size D w) : Ret Tryz.prog 43 #[ptr bq, .string s, .string t] w (QR w0 F L bq size (renD D s t)) := by
  obtain ⟨A, c, hS⟩ := hQ
  have hl := hO.len
  unfold renD
  rw [readyC_two]
  refine s43 _ _ _ ?_
  unfold m43 m43_0 m43_1
  refine callR (by kernel_rfl) (named46_ret hS) ?_
  rintro _ w ⟨rfl, hS⟩
  refine valP_ok (not_ok _ _) ?_
  unfold m43_14
  refine cond_split (fun h0 => ?_) (fun h0 => ?_)
  · unfold m43_15
    rw [if_neg h0, if_neg (by decide)]
    exact ⟨rfl, A, c, hS⟩
  rw [if_pos (Classical.not_not.1 h0)]
  unfold m43_2
  refine callR (by kernel_rfl) (file80_ret (by omega) hS) ?_
  rintro _ w ⟨rfl, hS⟩
  unfold m43_3
  refine valP_ok (ne3 _ _ _ _ _) ?_
  unfold m43_12
  refine cond_split (fun h => ?_) (fun h => ?_)
  · unfold m43_13
    by_cases hr : readyC [s] D.off = 0
    · rw [if_pos hr, work_bad h]
      exact ⟨rfl, A, c, hS⟩
    · rw [if_neg hr]
      have e : fileC D s = readyC [s] D.off := by unfold fileC; rw [if_neg hr]
      rw [e]
      exact ⟨rfl, A, c, hS⟩
  obtain ⟨h1, f, hg⟩ := file_ok (Classical.not_not.1 h)
  rw [if_pos h1, work_good h1 hg]
  unfold m43_4
  refine callR (by kernel_rfl) (burntQ hO hS) ?_
  rintro _ w ⟨rfl, hS⟩
  unfold m43_10
  refine cond_split (fun h2 => ?_) (fun h2 => ?_)
  · unfold m43_11
    rw [if_pos h2]
    exact ⟨rfl, A, c, hS⟩
  rw [if_neg h2]
  have hO2 := hO.burnt
  have hl2 : (burnt D).L.length ≤ 256 := hO2.len
  have hg2 : getF (burnt D).L s = some f := by rw [burnt_L]; exact hg
  have e : ∃ r, renR t f (burnt D) = (⟨putL ⟨t, f.sure, f.loose⟩ (delF (burnt D).L s), r, (burnt D).fuse, (burnt D).off⟩, 0) := by
    refine ⟨(renR t f (burnt D)).1.room, ?_⟩
    rw [putL_ins (delF_up hO2.up s)]
    unfold renR
    rw [(getF_some hg).2]
  obtain ⟨r, e⟩ := e
  rw [e]
  clear e
  generalize burnt D = D' at *
  have hB : Bes w0 F (qCell bq A c D' size :: flRow A c D'.L :: L) 3 A D'.L.length (D'.L.flatMap encFl) := Bes.of_row 1 rfl
  unfold m43_5
  refine drawn_ok hS ?_
  intro w hS
  refine held_Hs hS ?_
  refine nil_ok ?_
  refine valJ_ok (fa41_0 _) ?_
  refine valJ_load ld39 (Hs.cell 0 rfl rfl) ?_
  refine ⟨?_, ?_⟩
  · refine callR (by kernel_rfl) (at_some 0 (by omega) hg2 rfl rfl hS) ?_
    rintro _ w ⟨⟨i, hi, rfl, hif⟩, hS⟩
    obtain ⟨gb, o, rfl⟩ := (hB.rd hS).some_ (by omega) (by omega)
    have p := fun w (hw : Hs w0 F (qCell bq (some ⟨gb, o, none⟩) c D' size :: flRow (some ⟨gb, o, none⟩) c D'.L :: L) w) => fl_at (Hs.rd hB w hw) hi
    rw [hif] at p
    refine stay_Hs hS (by first | exact fun _ h => h | exact fun _ h => .tail _ h | exact fun _ h => .tail _ (.tail _ h) | simp) ?_
    refine valJ_ok (fun w => ix39 hi w) ?_
    refine valJ_at (fun w hw => ld67 (p w hw).1 (p w hw).2.1 (p w hw).2.2) ?_
    refine new_ok (al67 _) hS ?_
    intro b8 w hS
    refine stay_Hs hS (by first | exact fun _ h => h | exact fun _ h => .tail _ h | exact fun _ h => .tail _ (.tail _ h) | simp) ?_
    refine ss67 0 hS rfl rfl rfl rfl ?_
    intro w hS
    simp only [List.set_cons_zero, List.set_cons_succ] at hS
    refine stay_Hs hS (by first | exact fun _ h => h | exact fun _ h => .tail _ h | exact fun _ h => .tail _ (.tail _ h) | simp) ?_
    unfold m43_6
    refine valP_ok (fa67_0 _ _) ?_
    refine store_at 0 st9 hS rfl (by simp) rfl ?_
    intro w hS
    simp only [List.set_cons_zero, List.set_cons_succ] at hS
    exact qren_7 hl2 hS r
  · refine new_ok (al67 _) hS ?_
    intro b8 w hS
    refine stay_Hs hS (by first | exact fun _ h => h | exact fun _ h => .tail _ h | exact fun _ h => .tail _ (.tail _ h) | simp) ?_
    refine callR (by kernel_rfl) (at_some 1 (by omega) hg2 rfl rfl hS) ?_
    rintro _ w ⟨⟨i, hi, rfl, hif⟩, hS⟩
    obtain ⟨gb, o, rfl⟩ := ((hB.cons _).rd hS).some_ (by omega) (by omega)
    have p := fun w (hw : Hs w0 F (qCell bq (some ⟨gb, o, none⟩) c D' size :: flRow (some ⟨gb, o, none⟩) c D'.L :: L) w) => fl_at (Hs.rd hB w hw) hi
    rw [hif] at p
    refine stay_Hs hS (by first | exact fun _ h => h | exact fun _ h => .tail _ h | exact fun _ h => .tail _ (.tail _ h) | simp) ?_
    refine valJ_ok (fun w => ix39 hi w) ?_
    refine valJ_at (fun w hw => ld67 (p w hw).1 (p w hw).2.1 (p w hw).2.2) ?_
    refine ss67 0 hS rfl rfl rfl rfl ?_
    intro w hS
    simp only [List.set_cons_zero, List.set_cons_succ] at hS
    refine stay_Hs hS (by first | exact fun _ h => h | exact fun _ h => .tail _ h | exact fun _ h => .tail _ (.tail _ h) | simp) ?_
    unfold m43_6
    refine valP_ok (fa67_0 _ _) ?_
    refine store_at 0 st9 hS rfl (by simp) rfl ?_
    intro w hS
    simp only [List.set_cons_zero, List.set_cons_succ] at hS
    exact qren_7 hl2 hS r
theorem qread_ret (hO : Ok size D) (hQ : Qd w0 F L bq size D w) : Ret Tryz.prog 52 #[ptr bq, .string s] w fun v w' => v = .tuple #[.string (readV D s).1, .int .i64 (readV D s).2] ∧ Qd w0 F L bq size D w' := by
  obtain ⟨A, c, hS⟩ := hQ
  have hl := hO.len
  refine s52 _ _ ?_
  unfold m52 m52_0 m52_1
  refine callR (by kernel_rfl) (file80_ret (by omega) hS) ?_
  rintro _ w ⟨rfl, hS⟩
  unfold m52_2
  refine valP_ok (ne3 _ _ _ _ _) ?_
  unfold m52_6
  refine cond_split (fun h => ?_) (fun h => ?_)
  · unfold m52_7
    have e : readV D s = (⟨#[]⟩, fileC D s) := by
      unfold fileC at h ⊢
      unfold readV
      by_cases hr : readyC [s] D.off = 0
      · rw [if_pos hr] at h ⊢
        rw [if_pos hr]
        cases hg : getF D.L s with
        | none => rfl
        | some f => rw [hg] at h; exact absurd rfl h
      · rw [if_neg hr, if_neg hr]
    rw [e]
    exact ⟨rfl, A, c, hS⟩
  obtain ⟨h1, f, hg⟩ := file_ok (Classical.not_not.1 h)
  have hfz : f.sure.size + f.loose.size ≤ 1048576 := hO.sz (getF_some hg).1
  have e : readV D s = (f.sure ++ f.loose, 0) := by
    unfold readV
    rw [if_pos h1, hg]
  rw [e]
  have last : ∀ b7 w, St w0 F w (Res.cells b7 67 (encFl f) :: qCell bq A c D size :: flRow A c D.L :: L) → m52_4 (fun v w' => v = .tuple #[.string (f.sure ++ f.loose), .int .i64 0] ∧ Qd w0 F L bq size D w') (.pointer (some ⟨b7, 0, none⟩)) w := fun b7 w hS => by
    unfold m52_4
    refine valP_ok (fa67_1 _ _) ?_
    refine valP_ok (ld9 (hS.cell 0 rfl rfl)) ?_
    refine valP_ok (fa67_2 _ _) ?_
    refine valP_ok (ld9 (hS.cell 0 rfl rfl)) ?_
    refine valP_ok (sadd _ _ (by omega) _) ?_
    unfold m52_5
    exact ⟨rfl, A, c, hS.tail⟩
  have hB : Bes w0 F (qCell bq A c D size :: flRow A c D.L :: L) 3 A D.L.length (D.L.flatMap encFl) := Bes.of_row 1 rfl
  unfold m52_3
  refine drawn_ok hS ?_
  intro w hS
  refine held_Hs hS ?_
  refine nil_ok ?_
  refine valJ_ok (fa41_0 _) ?_
  refine valJ_load ld39 (Hs.cell 0 rfl rfl) ?_
  refine ⟨?_, ?_⟩
  · refine callR (by kernel_rfl) (at_some 0 (by omega) hg rfl rfl hS) ?_
    rintro _ w ⟨⟨i, hi, rfl, hif⟩, hS⟩
    obtain ⟨gb, o, rfl⟩ := (hB.rd hS).some_ (by omega) (by omega)
    have p := fun w (hw : Hs w0 F (qCell bq (some ⟨gb, o, none⟩) c D size :: flRow (some ⟨gb, o, none⟩) c D.L :: L) w) => fl_at (Hs.rd hB w hw) hi
    rw [hif] at p
    refine stay_Hs hS (by first | exact fun _ h => h | exact fun _ h => .tail _ h | exact fun _ h => .tail _ (.tail _ h) | simp) ?_
    refine valJ_ok (fun w => ix39 hi w) ?_
    refine valJ_at (fun w hw => ld67 (p w hw).1 (p w hw).2.1 (p w hw).2.2) ?_
    refine new_ok (al67 _) hS ?_
    intro b7 w hS
    refine stay_Hs hS (by first | exact fun _ h => h | exact fun _ h => .tail _ h | exact fun _ h => .tail _ (.tail _ h) | simp) ?_
    refine ss67 0 hS rfl rfl rfl rfl ?_
    intro w hS
    simp only [List.set_cons_zero, List.set_cons_succ] at hS
    refine stay_Hs hS (by first | exact fun _ h => h | exact fun _ h => .tail _ h | exact fun _ h => .tail _ (.tail _ h) | simp) ?_
    exact last _ _ hS
  · refine new_ok (al67 _) hS ?_
    intro b7 w hS
    refine stay_Hs hS (by first | exact fun _ h => h | exact fun _ h => .tail _ h | exact fun _ h => .tail _ (.tail _ h) | simp) ?_
    refine callR (by kernel_rfl) (at_some 1 (by omega) hg rfl rfl hS) ?_
    rintro _ w ⟨⟨i, hi, rfl, hif⟩, hS⟩
    obtain ⟨gb, o, rfl⟩ := ((hB.cons _).rd hS).some_ (by omega) (by omega)
    have p := fun w (hw : Hs w0 F (qCell bq (some ⟨gb, o, none⟩) c D size :: flRow (some ⟨gb, o, none⟩) c D.L :: L) w) => fl_at (Hs.rd hB w hw) hi
    rw [hif] at p
    refine stay_Hs hS (by first | exact fun _ h => h | exact fun _ h => .tail _ h | exact fun _ h => .tail _ (.tail _ h) | simp) ?_
    refine valJ_ok (fun w => ix39 hi w) ?_
    refine valJ_at (fun w hw => ld67 (p w hw).1 (p w hw).2.1 (p w hw).2.2) ?_
    refine ss67 0 hS rfl rfl rfl rfl ?_
    intro w hS
    simp only [List.set_cons_zero, List.set_cons_succ] at hS
    refine stay_Hs hS (by first | exact fun _ h => h | exact fun _ h => .tail _ h | exact fun _ h => .tail _ (.tail _ h) | simp) ?_
    exact last _ _ hS
end
abbrev xS : ByteArray := ⟨#[120]⟩
abbrev nS : ByteArray := ⟨#[120, 46, 110, 101, 119]⟩
abbrev eS : ByteArray := ⟨#[]⟩
abbrev fx (S : ByteArray) : Fl := ⟨xS, S, eS⟩
theorem newN_x : newN xS = nS := by kernel_rfl
theorem named_x : Named xS := of_decide_eq_true (by kernel_rfl)
theorem named_n : Named nS := of_decide_eq_true (by kernel_rfl)
theorem namedB_x : NamedB xS := of_decide_eq_true (by kernel_rfl)
theorem x_ne_n : xS ≠ nS := fun h => by
  have h1 := congrArg ByteArray.size h
  have h2 : (1 : Nat) = 5 := h1
  omega
theorem n_not_lt : ¬ lst nS < lst xS := by
  have h : decide (lst nS < lst xS) = false := by kernel_rfl
  exact of_decide_eq_false h
theorem ready_n : readyC [nS] false = 0 := by
  unfold readyC
  rw [if_pos (fun x hx => by obtain rfl := List.mem_singleton.1 hx; exact named_n)]
  rfl
theorem ready_nx : readyC [nS, xS] false = 0 := by
  unfold readyC
  rw [if_pos (fun x hx => by
    rcases List.mem_cons.1 hx with rfl | hx
    · exact named_n
    · obtain rfl := List.mem_singleton.1 hx
      exact named_x)]
  rfl
def One (P : List Fl) : Prop := P = [] ∨ ∃ S, P = [fx S]
section
variable {P : List Fl} {D : Dk} {B U V S : ByteArray}
theorem one_name (h : One P) : ∀ f ∈ P, f.name = xS := by
  rcases h with rfl | ⟨S, rfl⟩
  · intro f hf; cases hf
  · intro f hf; obtain rfl := List.mem_singleton.1 hf; rfl
theorem one_ins (h : One P) : insF ⟨nS, U, V⟩ P = P ++ [⟨nS, U, V⟩] := by
  rcases h with rfl | ⟨S, rfl⟩
  · rfl
  · show insF ⟨nS, U, V⟩ [fx S] = _
    unfold insF
    rw [if_neg n_not_lt]
    rfl
theorem one_none (h : One P) : getF P nS = none := getF_none fun f hf e => x_ne_n ((one_name h f hf).symm.trans e)
theorem one_get (h : One P) : getF (P ++ [⟨nS, U, V⟩]) nS = some ⟨nS, U, V⟩ := by
  unfold getF
  rw [List.find?_append]
  have := one_none h
  unfold getF at this
  rw [this]
  simp
theorem one_upd (h : One P) {U' V' : ByteArray} : updF (P ++ [⟨nS, U, V⟩]) ⟨nS, U', V'⟩ = P ++ [⟨nS, U', V'⟩] := by
  unfold updF
  have h1 : P.map (fun f => if f.name = nS then (⟨nS, U', V'⟩ : Fl) else f) = P := (List.map_congr_left (g := id) fun f hf => if_neg fun e => x_ne_n ((one_name h f hf).symm.trans e)).trans (List.map_id _)
  rw [List.map_append]
  show P.map (fun f => if f.name = nS then (⟨nS, U', V'⟩ : Fl) else f) ++ _ = _
  rw [h1]
  simp
theorem one_del (h : One P) : delF (P ++ [⟨nS, U, V⟩]) nS = P := by
  unfold delF
  have h1 : P.filter (fun f => decide (f.name ≠ nS)) = P := List.filter_eq_self.2 fun f hf => decide_eq_true fun e => x_ne_n ((one_name h f hf).symm.trans e)
  rw [List.filter_append, h1]
  simp
theorem one_delx (h : One P) : delF P xS = [] := by
  unfold delF
  exact List.filter_eq_nil_iff.2 fun f hf => by simp [one_name h f hf]
theorem app_step (h : One P) (hL : D.L = P) (hoff : D.off = false) (hr : (blk B.size : Int) ≤ D.room) : appD D nS B = burnC ⟨P ++ [⟨nS, eS, B⟩], D.room - blk B.size, D.fuse, false⟩ := by
  have hl : P.length < 256 := by
    rcases h with rfl | ⟨S, rfl⟩ <;> simp
  unfold appD
  rw [hoff, if_pos ready_n, hL, one_none h]
  simp only
  rw [if_neg (by omega), one_ins h]
theorem sync_step (h : One P) (hL : D.L = P ++ [⟨nS, U, V⟩]) (hoff : D.off = false) : workD D nS syncR = if D.fuse = 0 then (burnt D, 4) else (⟨P ++ [⟨nS, U ++ V, eS⟩], D.room, (burnt D).fuse, false⟩, 0) := by
  unfold workD
  rw [hoff, if_pos ready_n, hL, one_get h]
  simp only
  by_cases h0 : D.fuse = 0
  · rw [if_pos h0, if_pos h0]
  · rw [if_neg h0, if_neg h0]
    unfold syncR
    rw [burnt_L, burnt_room, hL, one_upd h, burnt_eq]
    simp only [if_neg h0, hoff]
theorem ren_step (h : One P) (hL : D.L = P ++ [⟨nS, U, eS⟩]) (hoff : D.off = false) : ∃ r, renD D nS xS = if D.fuse = 0 then (burnt D, 4) else (⟨[fx U], r, (burnt D).fuse, false⟩, 0) := by
  unfold renD
  rw [hoff, if_pos ready_nx]
  unfold workD
  rw [hoff, if_pos ready_n, hL, one_get h]
  simp only
  by_cases h0 : D.fuse = 0
  · exact ⟨0, by rw [if_pos h0, if_pos h0]⟩
  · refine ⟨(renR xS ⟨nS, U, eS⟩ (burnt D)).1.room, ?_⟩
    rw [if_neg h0, if_neg h0]
    unfold renR
    have e1 : (burnt D).L = P ++ [⟨nS, U, eS⟩] := by rw [burnt_L, hL]
    have e2 : (burnt D).off = false := by rw [burnt_eq]; simp only [if_neg h0, hoff]
    rw [e1, e2, one_del h, one_delx h]
    rfl
theorem empty_app (s : ByteArray) : eS ++ s = s := by apply ByteArray.ext; rw [ByteArray.data_append]; simp
theorem saveT_out (h : One P) (hL : D.L = P) (hoff : D.off = false) (hf : -1 ≤ D.fuse) (hr : (blk B.size : Int) ≤ D.room) :
    ((saveT D xS B).2 = 0 ∧ (saveT D xS B).1.L = [fx B] ∧ (saveT D xS B).1.off = false ∧ (D.fuse = -1 → (saveT D xS B).1.fuse = -1)) ∨
    (D.fuse ≠ -1 ∧ (saveT D xS B).2 = 4 ∧ ∃ U V, (saveT D xS B).1.L = P ++ [⟨nS, U, V⟩] ∧ U.size + V.size = B.size) := by
  have z0 : (eS : ByteArray).size = 0 := rfl
  unfold saveT
  rw [newN_x, app_step h hL hoff hr]
  unfold burnC
  simp only
  by_cases h0 : D.fuse = 0
  · right
    rw [if_pos h0]
    have e1 : ∀ (D' : Dk) f g, thenD (thenD (D', (4 : Int)) f) g = (D', 4) := fun D' f g => by unfold thenD; simp
    rw [e1]
    refine ⟨by omega, rfl, eS, B, by rw [burnt_L], by omega⟩
  · rw [if_neg h0]
    have e2 : ∀ (D' : Dk) f, thenD (D', (0 : Int)) f = f D' := fun D' f => by unfold thenD; simp
    rw [e2]
    have b1 : burnt ⟨P ++ [⟨nS, eS, B⟩], D.room - blk B.size, D.fuse, false⟩ = ⟨P ++ [⟨nS, eS, B⟩], D.room - blk B.size, if 0 < D.fuse then D.fuse - 1 else D.fuse, false⟩ := by
      rw [burnt_eq]
      simp only [if_neg h0]
    rw [b1, sync_step h rfl rfl]
    simp only
    by_cases h1 : (if 0 < D.fuse then D.fuse - 1 else D.fuse) = 0
    · right
      rw [if_pos h1]
      have e1 : ∀ (D' : Dk) g, thenD (D', (4 : Int)) g = (D', 4) := fun D' g => by unfold thenD; simp
      rw [e1]
      refine ⟨fun e => by rw [if_neg (by omega)] at h1; omega, rfl, eS, B, by rw [burnt_L], by omega⟩
    · rw [if_neg h1, e2, empty_app]
      have b2 : (burnt ⟨P ++ [⟨nS, eS, B⟩], D.room - blk B.size, if 0 < D.fuse then D.fuse - 1 else D.fuse, false⟩).fuse = (if 0 < (if 0 < D.fuse then D.fuse - 1 else D.fuse) then (if 0 < D.fuse then D.fuse - 1 else D.fuse) - 1 else (if 0 < D.fuse then D.fuse - 1 else D.fuse)) := by
        rw [burnt_eq]
      rw [b2]
      obtain ⟨r, hren⟩ := ren_step (D := ⟨P ++ [⟨nS, B, eS⟩], D.room - blk B.size, (if 0 < (if 0 < D.fuse then D.fuse - 1 else D.fuse) then (if 0 < D.fuse then D.fuse - 1 else D.fuse) - 1 else (if 0 < D.fuse then D.fuse - 1 else D.fuse)), false⟩) h rfl rfl
      rw [hren]
      simp only
      by_cases h2 : (if 0 < (if 0 < D.fuse then D.fuse - 1 else D.fuse) then (if 0 < D.fuse then D.fuse - 1 else D.fuse) - 1 else (if 0 < D.fuse then D.fuse - 1 else D.fuse)) = 0
      · right
        rw [if_pos h2]
        refine ⟨fun e => ?_, rfl, B, eS, by rw [burnt_L], by omega⟩
        rw [e] at h2
        simp at h2
      · left
        rw [if_neg h2]
        refine ⟨rfl, rfl, rfl, fun e => ?_⟩
        rw [burnt_eq]
        simp only [e]
        rfl
end
section
variable {P : List Fl} {D : Dk} {B U V S : ByteArray} {l a b : List Gt}
theorem crash_len (D : Dk) (keep : List Int) : (crashD D keep).L.length = D.L.length := crs_len keep D.L _
theorem crash_get (D : Dk) (keep : List Int) (i : Nat) (h : i < (crashD D keep).L.length) (h2 : i < D.L.length) : (crashD D keep).L[i] = crOne keep i D.L[i] := by
  have := crs_get keep D.L D.L.length i h h2
  rw [if_pos h2] at this
  exact this
theorem crash_map (D : Dk) (keep : List Int) : (crashD D keep).L = D.L.mapIdx (crOne keep) := by
  refine List.ext_getElem (by rw [crash_len, List.length_mapIdx]) fun i h1 h2 => ?_
  rw [crash_get D keep i h1 (by rw [crash_len] at h1; exact h1), List.getElem_mapIdx]
theorem enc_small (h : MayL l) (hl : l.length ≤ 150) : (sealS (encL l)).size ≤ 90020 := by
  have h1 := bodyL_size h.1
  have h2 := putS_size (n := (l.length : Int)) (by omega)
  rw [sealS_size]
  unfold encL
  rw [ByteArray.size_append]
  omega
theorem used_one (h : P = [] ∨ ∃ S, P = [fx S] ∧ S.size ≤ 90020) : used P ≤ 1407 := by
  have z : (eS : ByteArray).size = 0 := rfl
  rcases h with rfl | ⟨S, rfl, hS⟩
  · exact Nat.zero_le _
  · unfold used
    simp only [List.map_cons, List.map_nil, List.sum_cons, List.sum_nil, Fl.sz, z]
    unfold blk
    omega
theorem small_one (h : P = [] ∨ ∃ S, P = [fx S] ∧ S.size ≤ 90020) : One P := h.imp id fun ⟨S, e, _⟩ => ⟨S, e⟩
theorem save_out (h : P = [] ∨ ∃ S, P = [fx S] ∧ S.size ≤ 90020) (hO : Ok 16384 D) (hL : D.L = P) (hoff : D.off = false) (hM : MayL l) (hl : l.length ≤ 150) :
    ((saveD D xS l).2 = 0 ∧ (saveD D xS l).1.L = [fx (sealS (encL l))] ∧ (saveD D xS l).1.off = false ∧ (D.fuse = -1 → (saveD D xS l).1.fuse = -1)) ∨
    (D.fuse ≠ -1 ∧ (saveD D xS l).2 = 4 ∧ ∃ U V, (saveD D xS l).1.L = P ++ [⟨nS, U, V⟩]) := by
  have h1 := small_one h
  have hu := used_one h
  have hs := hO.sum
  rw [hL] at hs
  have hz := enc_small hM hl
  have hno : ¬ ∃ f ∈ D.L, f.name = newN xS := by
    rw [newN_x, hL]
    rintro ⟨f, hf, e⟩
    exact x_ne_n ((one_name h1 f hf).symm.trans e)
  have e : saveD D xS l = saveT D xS (sealS (encL l)) := by
    unfold saveD
    rw [if_pos ⟨hM, namedB_x⟩, if_neg hno]
    unfold thenD
    rw [if_pos rfl]
  rw [e]
  refine (saveT_out h1 hL hoff hO.fuse.1 ?_).imp id fun ⟨p, q, U, V, r, _⟩ => ⟨p, q, U, V, r⟩
  unfold blk
  omega
theorem first (hl : l.length ≤ 150) : (saveD ⟨[], 16384, -1, false⟩ xS l).2 = (if MayL l then 0 else 1) ∧ (MayL l → (saveD ⟨[], 16384, -1, false⟩ xS l).1.L = [fx (sealS (encL l))] ∧ (saveD ⟨[], 16384, -1, false⟩ xS l).1.off = false) := by
  have hO : Ok (16384 : Int).toNat ⟨[], 16384, -1, false⟩ := Ok.new (by omega)
  have hO : Ok 16384 ⟨[], 16384, -1, false⟩ := hO
  by_cases h : MayL l
  · rw [if_pos h]
    rcases save_out (P := []) (.inl rfl) hO rfl rfl h hl with ⟨p, q, r, -⟩ | ⟨p, -⟩
    · exact ⟨p, fun _ => ⟨q, r⟩⟩
    · exact absurd rfl p
  · rw [if_neg h]
    refine ⟨?_, fun h2 => absurd h2 h⟩
    unfold saveD
    rw [if_neg fun h2 => h h2.1]
end
section
variable {w0 w : World} {F : List Nat} {L : List Res} {s t : ByteArray} {bq size b8 : Nat} {D : Dk} {A : Option Addr} {c : Nat} {f : Fl}
theorem qapp_9 (hl : D.L.length ≤ 256) (hf : -1 ≤ D.fuse ∧ D.fuse ≤ 9223372036854775807) (hS : St w0 F w (Res.cells b8 67 (encFl f) :: qCell bq A c D size :: flRow A c D.L :: L)) (r : Int) : m18_9 (QR w0 F L bq size (burnC ⟨putL f D.L, r, D.fuse, D.off⟩)) (ptr bq) (.pointer (some ⟨b8, 0, none⟩)) w := by
  unfold m18_9
  refine drawn_ok hS ?_
  intro w hS
  refine held_Hs (hS.pick 2 [0] (by simp) (by decide)) ?_
  refine nil_ok ?_
  refine valJ_ok (fa41_0 _) ?_
  refine valJ_at (fun w hw => ld67 (Hs.cell 0 rfl rfl w hw) (Hs.cell 0 rfl rfl w hw) (Hs.cell 0 rfl rfl w hw)) ?_
  refine valP_ok (ld39 (hS.cell 1 rfl (i := 0) rfl)) ?_
  refine stay_Hs (hS.pick 2 [0] (by simp) (by decide)) (fun _ h => h) ?_
  refine callR (by kernel_rfl) (put50_ret (f := f) (FSl.row 2 hS rfl) (by omega) hS) ?_
  rintro _ w ⟨A2, c2, rfl, hS⟩
  refine stay_Hs (hS.pick 3 [1] (by simp) (by decide)) (fun _ h => h) ?_
  refine nil_ok ?_
  refine valJ_ok (fa41_0 _) ?_
  refine store_at 2 st39 hS rfl (by simp) rfl ?_
  intro w hS
  simp only [List.set_cons_zero, List.set_cons_succ] at hS
  refine stay_Hs (hS.pick 3 [1] (by simp) (by decide)) (fun _ h => h) ?_
  have hS : St w0 F w (qCell bq A2 c2 ⟨putL f D.L, r, D.fuse, D.off⟩ size :: flRow A2 c2 (putL f D.L) :: L) := hS.pick 4 [2, 0] (by simp) (by decide)
  unfold m18_10
  refine callR (by kernel_rfl) (burnt51_ret (D := ⟨putL f D.L, r, D.fuse, D.off⟩) hf hS) ?_
  rintro _ w ⟨rfl, hS⟩
  have e := burnt_L ⟨putL f D.L, r, D.fuse, D.off⟩
  unfold m18_13 burnC
  refine cond_split (fun h => ?_) (fun h => ?_)
  · unfold m18_14
    have h : D.fuse = 0 := h
    refine ⟨by simp only [if_pos h], A2, c2, ?_⟩
    rw [e]
    exact hS
  · unfold m18_11 m18_12
    have h : ¬ D.fuse = 0 := h
    refine ⟨by simp only [if_neg h], A2, c2, ?_⟩
    rw [e]
    exact hS
theorem qapp_8 (hl : D.L.length ≤ 256) (hf : -1 ≤ D.fuse ∧ D.fuse ≤ 9223372036854775807) (hz : f.loose.size + t.size ≤ 9000000000) (hS : St w0 F w (Res.cells b8 67 (encFl f) :: qCell bq A c D size :: flRow A c D.L :: L)) (r : Int) : m18_8 (QR w0 F L bq size (burnC ⟨putL ⟨f.name, f.sure, f.loose ++ t⟩ D.L, r, D.fuse, D.off⟩)) (ptr bq) (.string t) (.pointer (some ⟨b8, 0, none⟩)) w := by
  unfold m18_8
  refine valP_ok (fa67_2 _ _) ?_
  refine valP_ok (ld9 (hS.cell 0 rfl rfl)) ?_
  refine valP_ok (sadd _ _ (by omega) _) ?_
  refine valP_ok (fa67_2 _ _) ?_
  refine store_at 0 st9 hS rfl (by simp) rfl ?_
  intro w hS
  simp only [List.set_cons_zero, List.set_cons_succ] at hS
  exact qapp_9 hl hf hS r
theorem qapp_7 {need i7 : Int} {p : Dk × Int} (hO : Ok size D) (hz : f.loose.size + t.size ≤ 9000000000) (r : Int) (h1 : D.room < need ∨ (i7 < 0 ∧ 256 ≤ D.L.length) → p = (D, 5)) (h2 : ¬ (D.room < need ∨ (i7 < 0 ∧ 256 ≤ D.L.length)) → p = burnC ⟨putL ⟨f.name, f.sure, f.loose ++ t⟩ D.L, r, D.fuse, D.off⟩)
    (hS : St w0 F w (Res.cells b8 67 (encFl f) :: qCell bq A c D size :: flRow A c D.L :: L)) : m18_7 (QR w0 F L bq size p) (ptr bq) (.string t) (.int .i64 i7) (.pointer (some ⟨b8, 0, none⟩)) (.int .i64 need) w := by
  have hl := hO.len
  have leaf : ∀ (q : Bool) w, (q = true ↔ (D.room < need ∨ (i7 < 0 ∧ 256 ≤ D.L.length))) → St w0 F w (Res.cells b8 67 (encFl f) :: qCell bq A c D size :: flRow A c D.L :: L) → m18_15 (QR w0 F L bq size p) (ptr bq) (.string t) (.pointer (some ⟨b8, 0, none⟩)) (.bool q) w := fun q w hq hS => by
    unfold m18_15
    cases q with
    | true =>
      refine cond_t rfl ?_
      unfold m18_16
      rw [h1 (hq.1 rfl)]
      exact ⟨rfl, A, c, hS.tail⟩
    | false =>
      refine cond_f rfl ?_
      rw [h2 (fun h => by have := hq.2 h; cases this)]
      exact qapp_8 hl hO.fuse hz hS r
  clear h1 h2
  unfold m18_7
  refine callR (by kernel_rfl) (free49_ret 1 hO rfl rfl hS) ?_
  rintro _ w ⟨rfl, hS⟩
  refine valP_ok (gtr_ok _ _ _ _ _ _ _) ?_
  refine cond_split (fun h => ?_) (fun h => ?_)
  · refine pick_dt (by first | assumption | omega) ?_
    exact leaf true w ⟨fun _ => .inl h, fun _ => rfl⟩ hS
  · refine valP_ok (lss_ok _ _ _ _ _ _ _) ?_
    refine cond_split (fun h3 => ?_) (fun h3 => ?_)
    · refine nil_ok ?_
      refine valP_ok (fa41_0 _ _) ?_
      refine valP_ok (ld39 (hS.cell 1 rfl rfl)) ?_
      refine builtin_ok (len39 _) ?_
      refine valP_ok (eq3 _ _ _ _ _) ?_
      refine pick_dt (by first | assumption | omega) ?_
      refine pick_df (by first | assumption | omega) ?_
      refine leaf _ w ?_ hS
      rw [decide_eq_true_eq]
      omega
    · refine pick_df (by first | assumption | omega) ?_
      refine pick_df (by first | assumption | omega) ?_
      refine leaf false w ⟨fun h => (by cases h), fun h4 => ?_⟩ hS
      omega
theorem qappend_ret (hO : Ok size D) (ht : t.size ≤ 1000000000) (hQ : Qd w0 F L bq size D w) : Ret Tryz.prog 18 #[ptr bq, .string s, .string t] w (QR w0 F L bq size (appD D s t)) := by
  obtain ⟨A, c, hS⟩ := hQ
  have hl := hO.len
  have hroom := hO.room
  have hsize := hO.size
  have hsum := hO.sum
  unfold appD
  rw [readyC_one]
  refine s18 _ _ _ ?_
  unfold m18 m18_0 m18_1
  refine callR (by kernel_rfl) (named46_ret hS) ?_
  rintro _ w ⟨rfl, hS⟩
  refine valP_ok (not_ok _ _) ?_
  unfold m18_22
  refine cond_split (fun h0 => ?_) (fun h0 => ?_)
  · unfold m18_23
    rw [if_neg h0, if_neg (by decide)]
    exact ⟨rfl, A, c, hS⟩
  rw [if_pos (Classical.not_not.1 h0)]
  unfold m18_2
  refine nil_ok ?_
  refine valP_ok (fa41_3 _ _) ?_
  refine valP_ok (ld4 (hS.cell 0 rfl rfl)) ?_
  unfold m18_20
  refine cond_bsplit (fun ho => ?_) (fun ho => ?_)
  · unfold m18_21
    rw [ho, if_pos rfl, if_neg (by decide)]
    exact ⟨rfl, A, c, hS⟩
  rw [ho, if_neg (show ¬ (false = true) by decide), if_pos rfl, ← ho]
  unfold m18_3
  refine callR (by kernel_rfl) (at47_ret 0 (by omega) rfl rfl hS) ?_
  rintro v w ⟨hat, hS⟩
  have z0 : (⟨#[]⟩ : ByteArray).size = 0 := rfl
  have e0 : ∀ x : ByteArray, (⟨#[]⟩ : ByteArray) ++ x = x := fun x => by apply ByteArray.ext; rw [ByteArray.data_append]; simp
  have hb0 : blk t.size ≤ 1000000000000 := by unfold blk; omega
  rcases hat with ⟨rfl, hg⟩ | ⟨i, hi, rfl, hn, hg⟩
  · rw [hg]
    simp only
    unfold m18_4
    refine valP_ok (bd67_0 rfl _) ?_
    refine new_ok (al67 _) hS ?_
    intro b8 w hS
    refine ss67 0 hS rfl rfl rfl rfl ?_
    intro w hS
    simp only [List.set_cons_zero, List.set_cons_succ] at hS
    unfold m18_5
    refine builtin_ok (len9 _) ?_
    refine callR (by kernel_rfl) (rblocks_ret (n := t.size) (by omega) hS) ?_
    rintro _ w ⟨rfl, hS⟩
    unfold m18_6
    refine valP_ok (geq_ok _ _ _ _ _ _ _) ?_
    unfold m18_17
    refine cond_df (by omega) ?_
    have hS : St w0 F w (Res.cells b8 67 (encFl ⟨s, ⟨#[]⟩, ⟨#[]⟩⟩) :: qCell bq A c D size :: flRow A c D.L :: L) := hS
    refine qapp_7 (f := ⟨s, ⟨#[]⟩, ⟨#[]⟩⟩) hO (by show (⟨#[]⟩ : ByteArray).size + t.size ≤ _; omega) (D.room - blk t.size) (fun h => ?_) (fun h => ?_) hS
    · rw [if_pos (h.imp id And.right)]
    · rw [if_neg (fun h4 => h (h4.imp id fun h5 => ⟨by omega, h5⟩))]
      simp only [e0]
      rw [putL_ins hO.up, delF_none (getF_of hg)]
  · rw [hg]
    simp only
    have hfz : D.L[i].sure.size + D.L[i].loose.size ≤ 1048576 := hO.sz (List.getElem_mem hi)
    have hfz' : D.L[i].sure.size + D.L[i].loose.size = D.L[i].sz := rfl
    have hb1 : blk (D.L[i].sz + t.size) ≤ 1000000000000 := by unfold blk; omega
    have hb2 : blk D.L[i].sz ≤ 1000000000000 := by unfold blk; omega
    unfold m18_4
    refine valP_ok (bd67_0 rfl _) ?_
    refine new_ok (al67 _) hS ?_
    intro b8 w hS
    refine ss67 0 hS rfl rfl rfl rfl ?_
    intro w hS
    simp only [List.set_cons_zero, List.set_cons_succ] at hS
    unfold m18_5
    refine builtin_ok (len9 _) ?_
    refine callR (by kernel_rfl) (rblocks_ret (n := t.size) (by omega) hS) ?_
    rintro _ w ⟨rfl, hS⟩
    unfold m18_6
    refine valP_ok (geq_ok _ _ _ _ _ _ _) ?_
    unfold m18_17
    refine cond_dt (by omega) ?_
    have hB : Bes w0 F (Res.cells b8 67 [.string s, .string ⟨#[]⟩, .string ⟨#[]⟩] :: qCell bq A c D size :: flRow A c D.L :: L) 3 A D.L.length (D.L.flatMap encFl) := Bes.of_row 2 rfl
    obtain ⟨gb, o, rfl⟩ := (hB.rd hS).some_ (by omega) (by omega)
    have p := fl_at (hB.rd hS) hi
    refine nil_ok ?_
    refine valP_ok (fa41_0 _ _) ?_
    refine valP_ok (ld39 (hS.cell 1 rfl rfl)) ?_
    refine valP_ok (ix39 hi _) ?_
    refine valP_ok (ld67 p.1 p.2.1 p.2.2) ?_
    refine ss67 0 hS rfl rfl rfl rfl ?_
    intro w hS
    simp only [List.set_cons_zero, List.set_cons_succ] at hS
    unfold m18_18
    refine valP_ok (fa67_1 _ _) ?_
    refine valP_ok (ld9 (hS.cell 0 rfl rfl)) ?_
    refine builtin_ok (len9 _) ?_
    refine valP_ok (fa67_2 _ _) ?_
    refine valP_ok (ld9 (hS.cell 0 rfl rfl)) ?_
    refine builtin_ok (len9 _) ?_
    refine valP_ok (add_ok _ _ _ (by omega) (by omega) _) ?_
    rw [show ((D.L[i].sure.size : Int) + (D.L[i].loose.size : Int)) = ((D.L[i].sz : Nat) : Int) by omega]
    unfold m18_19
    refine builtin_ok (len9 _) ?_
    refine valP_ok (add_ok _ _ _ (by omega) (by omega) _) ?_
    rw [show ((D.L[i].sz : Nat) : Int) + (t.size : Int) = ((D.L[i].sz + t.size : Nat) : Int) by omega]
    refine callR (by kernel_rfl) (rblocks_ret (n := D.L[i].sz + t.size) (by omega) hS) ?_
    rintro _ w ⟨rfl, hS⟩
    refine callR (by kernel_rfl) (rblocks_ret (n := D.L[i].sz) (by omega) hS) ?_
    rintro _ w ⟨rfl, hS⟩
    refine valP_ok (sub_ok _ _ _ (by omega) (by omega) _) ?_
    refine qapp_7 (f := D.L[i]) hO (by omega) (D.room - ((blk (D.L[i].sz + t.size) : Int) - blk D.L[i].sz)) (fun h => ?_) (fun h => ?_) hS
    · rw [if_pos (h.elim id fun h5 => absurd h5.1 (by omega))]
    · rw [if_neg (fun h4 => h (.inl h4)), hn]
      rw [putL_upd hO.up ⟨_, List.getElem_mem hi, hn⟩]
theorem qnew_ret {n : Int} (hS : St w0 F w L) : Ret Tryz.prog 14 #[.int .i64 n] w fun v w' => v = (if 1 ≤ n ∧ n ≤ 16384 then .tuple #[.agg #[.slice none 0 0, .int .i64 n, .int .i64 (-1), .bool false], .int .i64 0] else .tuple #[.agg #[.slice none 0 0, .int .i64 0, .int .i64 0, .bool false], .int .i64 1]) ∧ St w0 F w' L := by
  refine s14 _ ?_
  unfold m14
  unfold m14_0
  refine new_ok (al41 _) hS ?_
  intro b2 w hS
  have leaf : ∀ q : Bool, (q = true ↔ ¬ (1 ≤ n ∧ n ≤ 16384)) → m14_4 (fun v w' => v = (if 1 ≤ n ∧ n ≤ 16384 then .tuple #[.agg #[.slice none 0 0, .int .i64 n, .int .i64 (-1), .bool false], .int .i64 0] else .tuple #[.agg #[.slice none 0 0, .int .i64 0, .int .i64 0, .bool false], .int .i64 1]) ∧ St w0 F w' L) (.int .i64 n) (.pointer (some ⟨b2, 0, none⟩)) (.bool q) w := fun q hq => by
    unfold m14_4
    cases q with
    | true =>
      refine cond_t rfl ?_
      rw [if_neg (hq.1 rfl)]
      refine valP_ok (bd41 _) ?_
      refine ss41 0 hS rfl rfl rfl rfl rfl ?_
      intro w hS
      simp only [List.set_cons_zero, List.set_cons_succ] at hS
      unfold m14_5
      refine valS_ok (lc41 (hS.cell 0 rfl rfl) (hS.cell 0 rfl rfl) (hS.cell 0 rfl rfl) (hS.cell 0 rfl rfl)) ?_
      exact ⟨rfl, hS.tail⟩
    | false =>
      refine cond_f rfl ?_
      rw [if_pos (Classical.byContradiction fun h => by have := hq.2 h; cases this)]
      unfold m14_2
      refine valP_ok (bd41_1_2 rfl rfl _) ?_
      refine ss41 0 hS rfl rfl rfl rfl rfl ?_
      intro w hS
      simp only [List.set_cons_zero, List.set_cons_succ] at hS
      unfold m14_3
      refine valS_ok (lc41 (hS.cell 0 rfl rfl) (hS.cell 0 rfl rfl) (hS.cell 0 rfl rfl) (hS.cell 0 rfl rfl)) ?_
      exact ⟨rfl, hS.tail⟩
  unfold m14_1
  refine valP_ok (lss_ok _ _ _ _ _ _ _) ?_
  refine cond_split (fun hc0 => ?_) (fun hc0 => ?_)
  · refine pick_dt (by first | assumption | omega) ?_
    exact leaf _ (by simp only [decide_eq_true_eq, Bool.false_eq_true, false_iff, true_iff] <;> first | contradiction | omega)
  · refine valP_ok (gtr_ok _ _ _ _ _ _ _) ?_
    refine pick_df (by first | assumption | omega) ?_
    exact leaf _ (by simp only [decide_eq_true_eq, Bool.false_eq_true, false_iff, true_iff] <;> first | contradiction | omega)
end
section
variable {w0 w : World} {F : List Nat} {L : List Res} {s t name : ByteArray} {b bq size : Nat} {D Q : Dk} {A : Option Addr} {c : Nat} {f : Fl}
theorem ext_zero (s : ByteArray) : s.extract 0 0 = ⟨#[]⟩ := by
  rw [empty_iff, ByteArray.size_extract]
  omega
theorem ext_full (s : ByteArray) : s.extract 0 s.size = s := by
  have h := ext_cat s s.size (Nat.le_refl _)
  have e : s.extract s.size s.size = ⟨#[]⟩ := by
    rw [empty_iff, ByteArray.size_extract]
    omega
  rw [e] at h
  have e2 : ∀ x : ByteArray, x ++ ⟨#[]⟩ = x := fun x => by apply ByteArray.ext; rw [ByteArray.data_append]; simp
  rw [e2] at h
  exact h.symm
theorem qcrash_ret {keep : List Int} {Ak : Option Addr} {ck : Nat} (hk : keep.length ≤ 1000000) (hO : Ok size D) (hE : Bes w0 F L 1 Ak keep.length (keep.map (Value.int .i64))) (hQ : Qd w0 F L bq size D w) : Ret Tryz.prog 16 #[ptr bq, .slice Ak keep.length ck] w fun v w' => Qd w0 F L bq size (crashD D keep) w' := by
  obtain ⟨A, c, hS⟩ := hQ
  have hl := hO.len
  have hml : (D.L.mapIdx (crOne keep)).length = D.L.length := List.length_mapIdx
  refine s16 _ _ ?_
  unfold m16 m16_0 m16_1 m16_5
  refine loop_in (fun u w' => ∃ (i : Nat) (A2 : Option Addr) (c2 : Nat), u = (.slice A2 ((D.L.mapIdx (crOne keep)).take i).length c2, .int .i64 (i : Int)) ∧ i ≤ D.L.length ∧ St w0 F w' (flRow A2 c2 ((D.L.mapIdx (crOne keep)).take i) :: qCell bq A c D size :: flRow A c D.L :: L)) (fun u _ => D.L.length - (intOf u.2).toNat) ⟨0, none, 0, rfl, by omega, hS.row_nil 67 3⟩ ?_
  clear hS
  rintro u w ⟨i, A2, c2, rfl, hi, hS⟩
  simp only
  have htl : ((D.L.mapIdx (crOne keep)).take i).length = i := by rw [List.length_take]; omega
  have hB : Bes w0 F (flRow A2 c2 ((D.L.mapIdx (crOne keep)).take i) :: qCell bq A c D size :: flRow A c D.L :: L) 3 A D.L.length (D.L.flatMap encFl) := Bes.of_row 2 rfl
  unfold m16_6
  refine nil_ok ?_
  refine valP_ok (fa41_0 _ _) ?_
  refine valP_ok (ld39 (hS.cell 1 rfl rfl)) ?_
  refine builtin_ok (len39 _) ?_
  refine valP_ok (lss_ok _ _ _ _ _ _ _) ?_
  unfold m16_14
  refine cond_split (fun h => ?_) (fun h => ?_)
  · have hil : i < D.L.length := by omega
    obtain ⟨gb, o, rfl⟩ := (hB.rd hS).some_ (by omega) (by omega)
    have p := fl_at (hB.rd hS) hil
    have hfz : D.L[i].sure.size + D.L[i].loose.size ≤ 1048576 := hO.sz (List.getElem_mem hil)
    have hnx : (D.L.mapIdx (crOne keep)).take (i + 1) = (D.L.mapIdx (crOne keep)).take i ++ [crOne keep i D.L[i]] := by
      rw [List.take_succ_eq_append_getElem (by omega), List.getElem_mapIdx]
    have hkn := kN_le keep i D.L[i].loose.size
    unfold m16_7
    refine nil_ok ?_
    refine valP_ok (fa41_0 _ _) ?_
    refine valP_ok (ld39 (hS.cell 1 rfl rfl)) ?_
    refine valP_ok (ix39 hil _) ?_
    refine valP_ok (ld67 p.1 p.2.1 p.2.2) ?_
    refine new_ok (al67 _) hS ?_
    intro b6 w hS
    refine ss67 0 hS rfl rfl rfl rfl ?_
    intro w hS
    simp only [List.set_cons_zero, List.set_cons_succ] at hS
    unfold m16_9
    have hkey : kN keep i D.L[i].loose.size = if h : i < keep.length then (max 0 (min keep[i] (D.L[i].loose.size : Int))).toNat else 0 := rfl
    generalize hcr : crOne keep i D.L[i] = g at hnx
    have hge : g = ⟨D.L[i].name, D.L[i].sure ++ D.L[i].loose.extract 0 (kN keep i D.L[i].loose.size), ⟨#[]⟩⟩ := hcr.symm
    have leaf : ∀ (K1 : Value × Value → World → Prop), (∀ w A3 c3, St w0 F w (flRow A3 c3 ((D.L.mapIdx (crOne keep)).take (i + 1)) :: qCell bq (some ⟨gb, o, none⟩) c D size :: flRow (some ⟨gb, o, none⟩) c D.L :: L) → K1 (.slice A3 ((D.L.mapIdx (crOne keep)).take (i + 1)).length c3, .int .i64 ((i + 1 : Nat) : Int)) w) → ∀ s7 w, s7 = D.L[i].loose.extract 0 (kN keep i D.L[i].loose.size) → St w0 F w (Res.cells b6 67 (encFl D.L[i]) :: flRow A2 c2 ((D.L.mapIdx (crOne keep)).take i) :: qCell bq (some ⟨gb, o, none⟩) c D size :: flRow (some ⟨gb, o, none⟩) c D.L :: L) →
        m16_11 (fun v w' => Qd w0 F L bq size (crashD D keep) w') K1 (ptr bq) (.slice Ak keep.length ck) (.slice A2 ((D.L.mapIdx (crOne keep)).take i).length c2) (.int .i64 (i : Int)) (.pointer (some ⟨b6, 0, none⟩)) (.string s7) w := fun K1 hK s7 w hs7 hS => by
      have hsz7 : s7.size ≤ D.L[i].loose.size := by rw [hs7, ext_size _ _ _ hkn]; omega
      unfold m16_11
      refine valP_ok (fa67_0 _ _) ?_
      refine valP_ok (ld9 (hS.cell 0 rfl rfl)) ?_
      refine valP_ok (fa67_1 _ _) ?_
      refine valP_ok (ld9 (hS.cell 0 rfl rfl)) ?_
      refine valP_ok (sadd _ _ (by omega) _) ?_
      rw [hs7]
      refine valP_ok (bd67_0_1 rfl rfl _) ?_
      refine newslice_ok (bs39_1 _) hS ?_
      intro b66 w hS
      refine append_one1 (enc := encFl) 1 ⟨D.L[i].name, D.L[i].sure ++ D.L[i].loose.extract 0 (kN keep i D.L[i].loose.size), ⟨#[]⟩⟩ sl39 encFl_len encFl_one (by unfold maxLen; omega) (by omega) hS rfl ?_
      intro A3 c3 w hS
      simp only [List.set_cons_zero, List.set_cons_succ] at hS
      rw [← hge, ← hnx] at hS ⊢
      unfold m16_8
      refine valP_ok (add_ok _ _ _ (by omega) (by omega) _) ?_
      exact hK _ _ _ hS.tail
    have last : ∀ w A3 c3, St w0 F w (flRow A3 c3 ((D.L.mapIdx (crOne keep)).take (i + 1)) :: qCell bq (some ⟨gb, o, none⟩) c D size :: flRow (some ⟨gb, o, none⟩) c D.L :: L) → (∃ (j : Nat) (A4 : Option Addr) (c4 : Nat), ((Value.slice A3 ((D.L.mapIdx (crOne keep)).take (i + 1)).length c3, Value.int .i64 ((i + 1 : Nat) : Int)) : Value × Value) = (.slice A4 ((D.L.mapIdx (crOne keep)).take j).length c4, .int .i64 (j : Int)) ∧ j ≤ D.L.length ∧ St w0 F w (flRow A4 c4 ((D.L.mapIdx (crOne keep)).take j) :: qCell bq (some ⟨gb, o, none⟩) c D size :: flRow (some ⟨gb, o, none⟩) c D.L :: L)) ∧ D.L.length - (intOf (Value.int .i64 ((i + 1 : Nat) : Int))).toNat < D.L.length - (intOf (Value.int .i64 (i : Int))).toNat := fun w A3 c3 hS => ⟨⟨i + 1, A3, c3, rfl, by omega, hS⟩, by simp [intOf]; omega⟩
    unfold m16_10
    refine builtinQ_ok (len23) ?_
    refine valQ_ok (lss_ok _ _ _ _ _ _) ?_
    refine cond_split (fun h1 => ?_) (fun h1 => ?_)
    · have hik : i < keep.length := by omega
      have hEw : ∀ w, St w0 F w (Res.cells b6 67 (encFl D.L[i]) :: flRow A2 c2 ((D.L.mapIdx (crOne keep)).take i) :: qCell bq (some ⟨gb, o, none⟩) c D size :: flRow (some ⟨gb, o, none⟩) c D.L :: L) → Rd w 1 Ak keep.length (keep.map (Value.int .i64)) := fun w hS => hE w _ hS (fun r hr => .tail _ (.tail _ (.tail _ (.tail _ hr))))
      obtain ⟨gk, ok, rfl⟩ := (hEw _ hS).some_ (by omega) (by omega)
      rw [dif_pos hik] at hkey
      have hkc : (keep.map (Value.int .i64))[i]? = some (.int .i64 keep[i]) := by simp [hik]
      refine valQ_ok (ix23 hik) ?_
      refine valQ_load ld3 ((hEw _ hS).cell_ hkc) ?_
      refine valQ_ok (fa67_2 _) ?_
      refine valQ_load ld9 (hS.cell 0 rfl rfl) ?_
      refine builtinQ_ok (len9) ?_
      refine valQ_ok (geq_ok _ _ _ _ _ _) ?_
      refine pick_dt (by first | assumption | omega) ?_
      refine drawn_ok hS ?_
      intro w hS
      unfold m16_12
      refine cond_split (fun h2 => ?_) (fun h2 => ?_)
      · refine valP_ok (fa67_2 _ _) ?_
        refine valP_ok (ld9 (hS.cell 0 rfl rfl)) ?_
        refine leaf _ last _ _ ?_ hS
        rw [hkey, show (max 0 (min keep[i] (D.L[i].loose.size : Int))).toNat = D.L[i].loose.size by omega]
        exact (ext_full _).symm
      · refine builtin_ok (len23 _) ?_
        refine valP_ok (lss_ok _ _ _ _ _ _ _) ?_
        refine cond_dt (by omega) ?_
        refine valP_ok (ix23 hik _) ?_
        refine valP_ok (ld3 ((hEw _ hS).cell_ hkc)) ?_
        refine valP_ok (gtr_ok _ _ _ _ _ _ _) ?_
        refine pick_dt (by first | assumption | omega) ?_
        unfold m16_13
        refine cond_split (fun h3 => ?_) (fun h3 => ?_)
        · refine valQ_ok (fa67_2 _) ?_
          refine valQ_load ld9 (hS.cell 0 rfl rfl) ?_
          refine valQ_ok (ix23 hik) ?_
          refine valQ_load ld3 ((hEw _ hS).cell_ hkc) ?_
          rw [show keep[i] = ((keep[i].toNat : Nat) : Int) by omega]
          refine valQ_ok (fun w => sto (s := D.L[i].loose) (k := keep[i].toNat) w (by omega)) ?_
          refine drawn_ok hS ?_
          intro w hS
          refine leaf _ last _ _ ?_ hS
          rw [hkey, show (max 0 (min keep[i] (D.L[i].loose.size : Int))).toNat = keep[i].toNat by omega]
        · refine leaf _ last _ _ ?_ hS
          rw [hkey, show (max 0 (min keep[i] (D.L[i].loose.size : Int))).toNat = 0 by omega]
          exact (ext_zero _).symm
    · rw [dif_neg (by omega)] at hkey
      refine pick_df (by first | assumption | omega) ?_
      refine drawn_ok hS ?_
      intro w hS
      unfold m16_12
      refine cond_f rfl ?_
      refine builtin_ok (len23 _) ?_
      refine valP_ok (lss_ok _ _ _ _ _ _ _) ?_
      refine cond_df (by omega) ?_
      refine pick_df (by first | assumption | omega) ?_
      unfold m16_13
      refine cond_f rfl ?_
      refine leaf _ last _ _ ?_ hS
      rw [hkey]
      exact (ext_zero _).symm
  · obtain rfl : i = D.L.length := by omega
    rw [← hml, List.take_length] at hS ⊢
    have e : (crashD D keep).L = D.L.mapIdx (crOne keep) := crash_map D keep
    unfold m16_2
    refine nil_ok ?_
    refine valP_ok (fa41_0 _ _) ?_
    refine store_at 1 st39 hS rfl (by simp) rfl ?_
    intro w hS
    simp only [List.set_cons_zero, List.set_cons_succ] at hS
    unfold m16_3
    refine nil_ok ?_
    refine valP_ok (fa41_3 _ _) ?_
    refine store_at 1 st4 hS rfl (by simp) rfl ?_
    intro w hS
    simp only [List.set_cons_zero, List.set_cons_succ] at hS
    unfold m16_4
    refine nil_ok ?_
    refine valP_ok (fa41_2 _ _) ?_
    refine store_at 1 st3 hS rfl (by simp) rfl ?_
    intro w hS
    simp only [List.set_cons_zero, List.set_cons_succ] at hS
    refine ⟨A2, c2, ?_⟩
    rw [e]
    have hS := hS.pick 3 [1, 0] (by simp) (by decide)
    have e2 : (Value.slice A2 (crashD D keep).L.length c2) = .slice A2 (D.L.mapIdx (crOne keep)).length c2 := by rw [e]
    show St w0 F w (Res.cells bq 41 [.slice A2 (crashD D keep).L.length c2, .int .i64 (size : Int), .int .i64 (-1), .bool false] :: flRow A2 c2 (D.L.mapIdx (crOne keep)) :: L)
    rw [e2]
    exact hS
end
end Go.Proofs.YtcldjjmfpmkldaaGreatDoor.M
