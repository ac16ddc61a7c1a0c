/- Windows that are held against each other. -/
import Derived.Test.YtnhgdngbdoifnaaK9
import Derived.Test.YtnhgdngbdoifnaaFwW
import Derived.Test.YtnhgdngbdoifnaaMbase0
import Derived.Test.YtnhgdngbdoifnaaMmid0
import Derived.Test.YtnhgdngbdoifnaaMgrid0
import Derived.Test.YtnhgdngbdoifnaaMfold0
import Derived.Test.YtnhgdngbdoifnaaMeng0
namespace Go.Proofs.Ytnhgdngbdoifnaa.M
open Go.Proofs.Ytnhgdngbdoifnaa.F Go.RowKit
set_option linter.unusedVariables false
set_option linter.unusedSimpArgs false
set_option maxRecDepth 100000
set_option maxHeartbeats 2000000
attribute [local irreducible] Res.cells Res.row Res.map Res.any World.cell? World.frozen? Instr.fieldAt Instr.loadAt Instr.storeAt Instr.indexAt Instr.lookup Instr.mapUpdate Instr.box Instr.build Instr.buildSlice Instr.extract Instr.alloc Instr.field Instr.index Instr.sliceAt Instr.makeSlice Instr.makeMap Instr.makeFunc binS Op.unary Sem.run
theorem kcells67 : Try.prog.cellsOf 67 = 12 := by kernel_rfl
theorem kcells65 : Try.prog.cellsOf 65 = 10 := by kernel_rfl
theorem kcells63 : Try.prog.cellsOf 63 = 4 := by kernel_rfl
theorem keyCe {c : Ce} (h : CeOk c) : Try.prog.keyLits 6 67 (encC c) = some [.int .i64 c.key, .int .i64 c.start, .int .i64 c.a.count, .int .i64 c.a.sum, .int .i64 c.a.mn, .int .i64 c.a.mx, .int .i64 c.a.h0, .int .i64 c.a.h1, .int .i64 c.a.h2, .int .i64 c.a.h3, .int .i64 c.a.re, .int .i64 c.a.im] := by
  have ha : ∀ x ∈ agI c.a, (Lit.int .i64 x).wf = true := fun x hx => wfI (h.2.2 x hx)
  simp only [agI, List.mem_cons, List.not_mem_nil, or_false, forall_eq_or_imp, forall_eq] at ha
  simp only [Program.keyLits, Try.underlying67, Try.underlying65, Try.underlying63, kcells67, kcells65, kcells63, cells3, Try.underlying3]
  simp [wfI h.1, wfI h.2.1, ha, cells3, kcells65, kcells63, List.range, List.range.loop]
  rw [if_pos (by decide)]
  rfl
theorem ne67 (x y : Operand) {a b : Ce} (ha : CeOk a) (hb : CeOk b) : ∃ t : Bool, (t = true ↔ ¬ a = b) ∧ ∀ w, (binS .neq 67 x y (cev a) (cev b)).run Try.prog w = .ok (.bool t) w := by
  have run : ∀ w : World, ∃ r : Bool, (binS .neq 67 x y (cev a) (cev b)).run Try.prog w = .ok (.bool (!r)) w ∧ (r = true ↔ a = b) := fun w => by
    obtain ⟨r, hr, hiff⟩ := run_equalIn_deep (P := Try.prog) 9996 4 67 (by kernel_rfl) w 6 6 (cev a) (cev b) _ _ (by kernel_rfl) (by kernel_rfl) (keyCe ha) (keyCe hb)
    refine ⟨r, ?_, ?_⟩
    · rw [binS_run _ _ _ _ _ _ (by kernel_rfl), run_neq_struct, hr]
      rfl
    · rw [hiff]
      obtain ⟨k, s, ⟨c0, c1, c2, c3, c4, c5, c6, c7, c8, c9⟩⟩ := a
      obtain ⟨k', s', ⟨d0, d1, d2, d3, d4, d5, d6, d7, d8, d9⟩⟩ := b
      simp
  by_cases h : a = b
  · refine ⟨false, by simp [h], fun w => ?_⟩
    obtain ⟨r, hr, hi⟩ := run w
    rw [hr, hi.2 h]
    rfl
  · refine ⟨true, by simp [h], fun w => ?_⟩
    obtain ⟨r, hr, hi⟩ := run w
    rw [hr]
    cases r with
    | true => exact absurd (hi.1 rfl) h
    | false => rfl

end Go.Proofs.Ytnhgdngbdoifnaa.M
