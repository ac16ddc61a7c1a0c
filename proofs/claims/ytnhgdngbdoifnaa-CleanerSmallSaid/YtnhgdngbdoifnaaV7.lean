/- Which are about the same; which are needless, by the document. -/
import Derived.Test.YtnhgdngbdoifnaaV6
import Derived.Test.YtnhgdngbdoifnaaMbase0
namespace Go.Proofs.Ytnhgdngbdoifnaa.M
open Go.Proofs.Ytnhgdngbdoifnaa.F Go.RowKit
set_option linter.unusedVariables false
set_option linter.unusedSimpArgs false
set_option maxRecDepth 100000
set_option maxHeartbeats 2000000
attribute [local irreducible] Res.cells Res.row Res.map Res.any World.cell? World.frozen? Instr.fieldAt Instr.loadAt Instr.storeAt Instr.indexAt Instr.lookup Instr.mapUpdate Instr.box Instr.build Instr.buildSlice Instr.extract Instr.alloc Instr.field Instr.index Instr.sliceAt Instr.makeSlice Instr.makeMap Instr.makeFunc binS Op.unary Sem.run
structure Gt where
  off : Int
  r : Rc
abbrev encG (g : Gt) : List Value := [.int .i64 g.off, .int .i64 g.r.key, .int .i64 g.r.time, .string g.r.text]
abbrev gv (g : Gt) : Value := .agg #[.int .i64 g.off, .int .i64 g.r.key, .int .i64 g.r.time, .string g.r.text]
abbrev BG (w0 : World) (F : List Nat) (L : List Res) (A : Option Addr) (l : List Gt) : Prop := Bes w0 F L 4 A l.length (l.flatMap encG)
abbrev grow (A : Option Addr) (c : Nat) (l : List Gt) : Res := Res.row 48 4 (.slice A l.length c) l.length (l.flatMap encG)
theorem encG_len : ∀ g, (encG g).length = 4 := fun _ => rfl
theorem encG_one : ∀ x, ∀ u ∈ encG x, u.oneCell' = true := fun x u hu => by
  simp only [List.mem_cons, List.not_mem_nil, or_false] at hu
  rcases hu with rfl | rfl | rfl | rfl <;> rfl
/-- what later ones of those ahead of an offset made needless. -/
def Needless (l : List Gt) (i : Nat) (upto : Int) : Prop := ∃ h : i < l.length, l[i].off < upto ∧ (l[i].r.text = putS 2 ∨ ∃ (k : Nat) (hk : k < l.length), i < k ∧ l[k].off < upto ∧ SameR l[i].r l[k].r)
section
variable {w0 w : World} {F : List Nat} {L : List Res} {l : List Gt} {A : Option Addr} {c : Nat}
theorem g_at {o b i : Nat} (hr : Rd w 4 (some ⟨b, o, none⟩) l.length (l.flatMap encG)) (hi : i < l.length) : w.cell? ⟨b, o + i * 4, none⟩ = some (.int .i64 l[i].off) ∧ w.cell? ⟨b, o + i * 4 + 1, none⟩ = some (.int .i64 l[i].r.key) ∧ w.cell? ⟨b, o + i * 4 + 2, none⟩ = some (.int .i64 l[i].r.time) ∧ w.cell? ⟨b, o + i * 4 + 3, none⟩ = some (.string l[i].r.text) :=
  ⟨hr.struct encG_len hi (j := 0) (by omega) rfl, hr.struct encG_len hi (j := 1) (by omega) rfl, hr.struct encG_len hi (j := 2) (by omega) rfl, hr.struct encG_len hi (j := 3) (by omega) rfl⟩
end

end Go.Proofs.Ytnhgdngbdoifnaa.M
