/- A change as a map's key. -/
import Derived.Test.YtnhgdngbdoifnaaV8
import Derived.DeepKeys4
import Derived.WalkArith
import Derived.Maps.Views
namespace Go.Proofs.Ytnhgdngbdoifnaa.M
open Go.Proofs.Ytnhgdngbdoifnaa.F Go.RowKit
set_option linter.unusedVariables false
set_option linter.unusedSimpArgs false
set_option maxRecDepth 100000
set_option maxHeartbeats 2000000
attribute [local irreducible] Res.cells Res.row Res.map Res.any World.cell? World.frozen? Instr.fieldAt Instr.loadAt Instr.storeAt Instr.indexAt Instr.lookup Instr.mapUpdate Instr.box Instr.build Instr.buildSlice Instr.extract Instr.alloc Instr.field Instr.index Instr.sliceAt Instr.makeSlice Instr.makeMap Instr.makeFunc binS Op.unary Sem.run
theorem laidOutP : laidOutB Try.prog = true := by kernel_rfl
theorem wideR : (match Try.prog.underlying 46 with | some (.array _ _) | some (.struct _) => true | _ => false) = true := by rw [Try.underlying46]
theorem lawR : Go.Maps.Keyed Try.prog 46 := Go.Maps.Keyed.of_law (deep_law_laid laidOutP (m := 2) (by omega) (of_decide_eq_true (by kernel_rfl)) (by kernel_rfl) wideR)
theorem cells38 : Try.prog.cellsOf 46 = 3 := by kernel_rfl
theorem cells3 : Try.prog.cellsOf 3 = 1 := by kernel_rfl
theorem cells9 : Try.prog.cellsOf 9 = 1 := by kernel_rfl
theorem keyRB : Try.prog.keyType 46 = true := by kernel_rfl
theorem sizeTypes : ∃ m, Try.prog.types.size = m + 1 := by
  refine ⟨Try.prog.types.size - 1, ?_⟩
  have : decide (1 ≤ Try.prog.types.size) = true := by kernel_rfl
  have := of_decide_eq_true this
  omega
/-- its numbers are numbers. -/
def RcOk (r : Rc) : Prop := (-9223372036854775808 ≤ r.key ∧ r.key ≤ 9223372036854775807) ∧ (-9223372036854775808 ≤ r.time ∧ r.time ≤ 9223372036854775807) ∧ r.text.size ≤ maxLen
theorem wfI {x : Int} (h : -9223372036854775808 ≤ x ∧ x ≤ 9223372036854775807) : (Lit.int .i64 x).wf = true := by
  simp only [Lit.wf, Bool.and_eq_true, decide_eq_true_eq]
  exact h
theorem keyRc {r : Rc} (h : RcOk r) : ∃ l, keyOf Try.prog 46 (rv r) = some l := by
  obtain ⟨m, hm⟩ := sizeTypes
  refine ⟨.string (keyBytes [.int .i64 r.key, .int .i64 r.time, .string r.text.data.toList]), ?_⟩
  unfold keyOf
  rw [Try.underlying46]
  simp only [keyRB, Bool.true_and]
  rw [if_pos (by simp [Value.formed, Try.underlying46, cells38]), hm]
  simp only [Program.keyLits, Try.underlying46, Value.cells, cells38, cells3, cells9, Try.underlying3, Try.underlying9]
  simp [wfI h.1, wfI h.2.1, h.2.2, cells3, cells9]


end Go.Proofs.Ytnhgdngbdoifnaa.M
