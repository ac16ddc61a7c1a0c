/- CleanerCleans: any changes are cleaned as the document says; what was handed in stays. -/
import Derived.Test.YtnhgdngbdoifnaaV12
import Derived.Test.YtnhgdngbdoifnaaFwL
import Derived.Test.YtnhgdngbdoifnaaFwW
import Derived.Test.YtnhgdngbdoifnaaMbase0
import Derived.Test.YtnhgdngbdoifnaaMmid0
namespace Go.Proofs.Ytnhgdngbdoifnaa.M
open Go.Proofs.Ytnhgdngbdoifnaa.F Go.RowKit
set_option linter.unusedVariables false
set_option linter.unusedSimpArgs false
set_option maxRecDepth 100000
set_option maxHeartbeats 2000000
attribute [local irreducible] Res.cells Res.row Res.map Res.any World.cell? World.frozen? Instr.fieldAt Instr.loadAt Instr.storeAt Instr.indexAt Instr.lookup Instr.mapUpdate Instr.box Instr.build Instr.buildSlice Instr.extract Instr.alloc Instr.field Instr.index Instr.sliceAt Instr.makeSlice Instr.makeMap Instr.makeFunc binS Op.unary Sem.run


theorem row_none {w0 w : World} {F : List Nat} {L : List Res} {A : Option Addr} {c : Nat} {l : List Gt} (k : Nat) (hS : St w0 F w L) (hk : L[k]? = some (grow A c l)) : A = none → c = 0 := fun h => by
  subst h
  have hown := hS.own_row k hk
  rcases hown.2 with ⟨hv, _⟩ | ⟨g, cap, cur, hv, _⟩
  · injection hv
  · injection hv with h1
    cases h1
section
variable {w0 : World} {l : List Gt} {A : Option Addr} {c : Nat}
end
theorem icells3 : Try.prog.cellsOf 3 = 1 := by kernel_rfl
theorem iI {x : Int} (h : (Lit.int .i64 x).wf = true) : -9223372036854775808 ≤ x ∧ x ≤ 9223372036854775807 := by
  simp only [Lit.wf, Bool.and_eq_true, decide_eq_true_eq] at h
  exact h
section
variable {H : Type} {en : TypeId × Value → H} {w : World}
theorem openRc {n : Nat} {cs : List Value} {y : DataW H × List MemPlace} (h : DataW.trod en Try.prog w 0 (fun _ => true) true n 46 cs = some y) : ∃ r : Rc, cs = encR r ∧ (-9223372036854775808 ≤ r.key ∧ r.key ≤ 9223372036854775807) ∧ -9223372036854775808 ≤ r.time ∧ r.time ≤ 9223372036854775807 := by
  obtain ⟨hl, hf⟩ := open_structE Try.underlying46 h
  rw [show Try.prog.cellsOf 46 = 3 from by kernel_rfl] at hl
  obtain ⟨c0, c1, c2, rfl⟩ : ∃ c0 c1 c2, cs = [c0, c1, c2] := by
    match cs, hl with
    | [c0, c1, c2], _ => exact ⟨c0, c1, c2, rfl⟩
  obtain ⟨_, _, h0⟩ := hf 0 3 0 1 rfl icells3
  obtain ⟨_, _, h1⟩ := hf 1 3 1 1 rfl icells3
  obtain ⟨_, _, h2⟩ := hf 2 9 2 1 rfl (by kernel_rfl)
  obtain ⟨a0, e0, _, w0⟩ := DataW.trod_int Try.underlying3 h0
  obtain ⟨a1, e1, _, w1⟩ := DataW.trod_int Try.underlying3 h1
  obtain ⟨a2, e2, _, w2⟩ := DataW.trod_string Try.underlying9 h2
  simp at e0 e1 e2
  subst e0; subst e1; subst e2
  exact ⟨⟨a0, a1, a2⟩, rfl, iI w0, iI w1⟩

end

end Go.Proofs.Ytnhgdngbdoifnaa.M
