/- Deeds of a group among the arguments. -/
import Derived.Test.YtjjmlopmemmobaaG12
import Derived.Test.YtjjmlopmemmobaaFwL
namespace Go.Proofs.Ytjjmlopmemmobaa.M
open Go.Proofs.Ytjjmlopmemmobaa.F Go.RowKit
set_option linter.unusedVariables false
set_option linter.unusedSimpArgs false
set_option maxRecDepth 100000
set_option maxHeartbeats 2000000
attribute [local irreducible] Res.cells Res.row Res.map Res.any World.cell? World.frozen? Instr.fieldAt Instr.loadAt Instr.storeAt Instr.indexAt Instr.lookup Instr.mapUpdate Instr.box Instr.build Instr.buildSlice Instr.extract Instr.alloc Instr.field Instr.index Instr.sliceAt Instr.makeSlice Instr.makeMap Instr.makeFunc binS Op.unary Sem.run
open Go.Proofs.Ytjjmlopmemmobaa.L Go.Shelf
theorem gcells3 : Try.prog.cellsOf 3 = 1 := by kernel_rfl
theorem gcells4 : Try.prog.cellsOf 4 = 1 := by kernel_rfl
theorem gcells65 : Try.prog.cellsOf 65 = 5 := by kernel_rfl
theorem gI {x : Int} (h : (Lit.int .i64 x).wf = true) : -9223372036854775808 ≤ x ∧ x ≤ 9223372036854775807 := by
  simp only [Lit.wf, Bool.and_eq_true, decide_eq_true_eq] at h
  exact h
theorem openGd {H : Type} {en : TypeId × Value → H} {w : World} {n : Nat} {cs : List Value} {y : DataW H × List MemPlace} (h : DataW.trod en Try.prog w 0 (fun _ => true) true n 65 cs = some y) : ∃ x : Gd, cs = encG x ∧ (encG x).length = 5 ∧ DG x := by
  obtain ⟨hl, hf⟩ := open_structE Try.underlying65 h
  rw [gcells65] at hl
  obtain ⟨c0, c1, c2, c3, c4, rfl⟩ : ∃ c0 c1 c2 c3 c4, cs = [c0, c1, c2, c3, c4] := by
    match cs, hl with
    | [c0, c1, c2, c3, c4], _ => exact ⟨c0, c1, c2, c3, c4, rfl⟩
  obtain ⟨_, _, h0⟩ := hf 0 3 0 1 rfl gcells3
  obtain ⟨_, _, h1⟩ := hf 1 3 1 1 rfl gcells3
  obtain ⟨_, _, h2⟩ := hf 2 3 2 1 rfl gcells3
  obtain ⟨_, _, h3⟩ := hf 3 3 3 1 rfl gcells3
  obtain ⟨_, _, h4⟩ := hf 4 4 4 1 rfl gcells4
  obtain ⟨a0, e0, _, w0⟩ := DataW.trod_int Try.underlying3 h0
  obtain ⟨a1, e1, _, w1⟩ := DataW.trod_int Try.underlying3 h1
  obtain ⟨a2, e2, _, w2⟩ := DataW.trod_int Try.underlying3 h2
  obtain ⟨a3, e3, _, w3⟩ := DataW.trod_int Try.underlying3 h3
  obtain ⟨a4, e4, _⟩ := DataW.trod_bool Try.underlying4 h4
  simp at e0 e1 e2 e3 e4
  subst e0; subst e1; subst e2; subst e3; subst e4
  exact ⟨⟨a0, a1, a2, a3, a4⟩, rfl, rfl, ⟨gI w1⟩⟩
theorem openGds {H : Type} {en : TypeId × Value → H} {w : World} {n : Nat} {cs : List Value} {y : DataW H × List MemPlace} (h : DataW.trod en Try.prog w 0 (fun _ => true) true n 58 cs = some y) :
    ∃ (A : Option Addr) (c : Nat) (l : List Gd), cs = [.slice A l.length c] ∧ l.length ≤ c ∧ (A = none → c = 0) ∧ Rd w 5 A l.length (l.flatMap encG) ∧ ∀ x ∈ l, DG x :=
  open_rowsE encG DG (by omega) Try.underlying58 gcells65 (fun n cs y h => openGd h) h

end Go.Proofs.Ytjjmlopmemmobaa.M
