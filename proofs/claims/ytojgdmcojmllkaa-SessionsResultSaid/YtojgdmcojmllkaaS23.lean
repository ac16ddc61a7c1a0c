/- Arguments of the statements, opened. -/
import Derived.Test.YtojgdmcojmllkaaS21
import Derived.Test.YtojgdmcojmllkaaFwW
namespace Go.Proofs.Ytojgdmcojmllkaa.M
open Go.Proofs.Ytojgdmcojmllkaa.F Go.RowKit
set_option linter.unusedVariables false
set_option linter.unusedSimpArgs false
set_option maxRecDepth 100000
set_option maxHeartbeats 2000000
attribute [local irreducible] Res.cells Res.row Res.map Res.any World.cell? World.frozen? Instr.fieldAt Instr.loadAt Instr.storeAt Instr.indexAt Instr.lookup Instr.mapUpdate Instr.box Instr.build Instr.buildSlice Instr.extract Instr.alloc Instr.field Instr.index Instr.sliceAt Instr.makeSlice Instr.makeMap Instr.makeFunc binS Op.unary Sem.run
/-- a state among the arguments. -/
structure FArg (w0 : World) (f : Fq) : Prop where
  row : Rd w0 2 f.A f.l.length (f.l.flatMap encS)
  evs : ∀ s ∈ f.l, Rd w0 2 s.A s.s.l.length (s.s.l.flatMap encE)
  max : f.l.length ≤ 140737488351232
  emax : ∀ s ∈ f.l, s.s.l.length * 16 ≤ 140737488351232
  cap : f.l.length ≤ f.c
  nil : f.A = none → f.c = 0
  enil : ∀ s ∈ f.l, s.A = none → s.c = 0
theorem FArg.sok {w0 : World} {f : Fq} (h : FArg w0 f) (L : List Res) : SOk w0 [] L f.A f.c f.l :=
  ⟨⟨Bes.of_old0 h.row, fun s hs => Bes.of_old0 (h.evs s hs), h.max, fun s hs => by have := h.emax s hs; omega⟩, h.cap, h.nil⟩
theorem icells3 : Try.prog.cellsOf 3 = 1 := by kernel_rfl
theorem iI {x : Int} (h : (Lit.int .i64 x).wf = true) : -9223372036854775808 ≤ x ∧ x ≤ 9223372036854775807 := by
  simp only [Lit.wf, Bool.and_eq_true, decide_eq_true_eq] at h
  exact h
section
variable {H : Type} {en : TypeId × Value → H} {w : World}
theorem openGp {n : Nat} {cs : List Value} {y : DataW H × List MemPlace} (h : DataW.trod en Try.prog w 0 (fun _ => true) true n 23 cs = some y) : ∃ x : Gp, cs = [.int .i64 x.gap, .int .i64 x.late] ∧ True := by
  obtain ⟨hl, hf⟩ := open_structE Try.underlying23 h
  rw [show Try.prog.cellsOf 23 = 2 from by kernel_rfl] at hl
  obtain ⟨c0, c1, rfl⟩ : ∃ c0 c1, cs = [c0, c1] := by
    match cs, hl with
    | [c0, c1], _ => exact ⟨c0, c1, rfl⟩
  obtain ⟨_, _, h0⟩ := hf 0 3 0 1 rfl icells3
  obtain ⟨_, _, h1⟩ := hf 1 3 1 1 rfl icells3
  obtain ⟨a0, e0, _, w0⟩ := DataW.trod_int Try.underlying3 h0
  obtain ⟨a1, e1, _, w1⟩ := DataW.trod_int Try.underlying3 h1
  simp at e0 e1
  subst e0; subst e1
  exact ⟨⟨a0, a1⟩, rfl, trivial⟩
theorem openEv {n : Nat} {cs : List Value} {y : DataW H × List MemPlace} (h : DataW.trod en Try.prog w 0 (fun _ => true) true n 28 cs = some y) : ∃ x : Ev, cs = encE x ∧ -9223372036854775808 ≤ x.v ∧ x.v ≤ 9223372036854775807 := by
  obtain ⟨hl, hf⟩ := open_structE Try.underlying28 h
  rw [show Try.prog.cellsOf 28 = 2 from by kernel_rfl] at hl
  obtain ⟨c0, c1, rfl⟩ : ∃ c0 c1, cs = [c0, c1] := by
    match cs, hl with
    | [c0, c1], _ => exact ⟨c0, c1, rfl⟩
  obtain ⟨_, _, h0⟩ := hf 0 3 0 1 rfl icells3
  obtain ⟨_, _, h1⟩ := hf 1 3 1 1 rfl icells3
  obtain ⟨a0, e0, _, w0⟩ := DataW.trod_int Try.underlying3 h0
  obtain ⟨a1, e1, _, w1⟩ := DataW.trod_int Try.underlying3 h1
  simp at e0 e1
  subst e0; subst e1
  exact ⟨⟨a0, a1⟩, rfl, iI w1⟩
/-- a session among the arguments. -/
structure SArg (w : World) (x : Sq) : Prop where
  evs : Rd w 2 x.A x.s.l.length (x.s.l.flatMap encE)
  emax : x.s.l.length * 16 ≤ 140737488351232
  enil : x.A = none → x.c = 0
  ebnd : ∀ e ∈ x.s.l, -9223372036854775808 ≤ e.v ∧ e.v ≤ 9223372036854775807
theorem openSq {n : Nat} {cs : List Value} {y : DataW H × List MemPlace} (h : DataW.trod en Try.prog w 0 (fun _ => true) true n 33 cs = some y) (hz : Sz Try.prog 33 y.1) : ∃ x : Sq, cs = encS x ∧ (encS x).length = 2 ∧ SArg w x := by
  obtain ⟨hl, hf⟩ := open_structW Try.underlying33 h hz
  rw [show Try.prog.cellsOf 33 = 2 from by kernel_rfl] at hl
  obtain ⟨c0, c1, rfl⟩ : ∃ c0 c1, cs = [c0, c1] := by
    match cs, hl with
    | [c0, c1], _ => exact ⟨c0, c1, rfl⟩
  obtain ⟨_, _, h0, _⟩ := hf 0 3 0 1 rfl icells3
  obtain ⟨_, _, h1, z1⟩ := hf 1 31 1 1 rfl (by kernel_rfl)
  obtain ⟨a0, e0, _, w0⟩ := DataW.trod_int Try.underlying3 h0
  simp at e0
  subst e0
  obtain ⟨A, c, l, e1, hlc, hn, hr, hok, hzz⟩ := open_rowsW encE (fun x => -9223372036854775808 ≤ x.v ∧ x.v ≤ 9223372036854775807) (k := 2) (by omega) Try.underlying31 (by kernel_rfl) (fun n cs y hy _ => by
    obtain ⟨x, e, hv⟩ := openEv hy
    exact ⟨x, e, rfl, hv⟩) h1 z1
  simp at e1
  subst e1
  refine ⟨⟨⟨a0, l⟩, A, c⟩, rfl, rfl, hr, ?_, hn, hok⟩
  rw [show Try.prog.bytesOf 28 = 16 from by kernel_rfl] at hzz
  unfold reachBytes at hzz
  simp only
  omega
theorem openFq {n : Nat} {cs : List Value} {y : DataW H × List MemPlace} (h : DataW.trod en Try.prog w 0 (fun _ => true) true n 26 cs = some y) (hz : Sz Try.prog 26 y.1) : ∃ x : Fq, cs = [.int .i64 x.mark, .int .i64 x.late, .slice x.A x.l.length x.c] ∧ FArg w x := by
  obtain ⟨hl, hf⟩ := open_structW Try.underlying26 h hz
  rw [show Try.prog.cellsOf 26 = 3 from by kernel_rfl] at hl
  obtain ⟨c0, c1, c2, rfl⟩ : ∃ c0 c1 c2, cs = [c0, c1, c2] := by
    match cs, hl with
    | [c0, c1, c2], _ => exact ⟨c0, c1, c2, rfl⟩
  obtain ⟨_, _, h0, _⟩ := hf 0 3 0 1 rfl icells3
  obtain ⟨_, _, h1, _⟩ := hf 1 3 1 1 rfl icells3
  obtain ⟨_, _, h2, z2⟩ := hf 2 24 2 1 rfl (by kernel_rfl)
  obtain ⟨a0, e0, _, w0⟩ := DataW.trod_int Try.underlying3 h0
  obtain ⟨a1, e1, _, w1⟩ := DataW.trod_int Try.underlying3 h1
  simp at e0 e1
  subst e0; subst e1
  obtain ⟨A, c, l, e1, hlc, hn, hr, hok, hzz⟩ := open_rowsW encS (SArg w) (k := 2) (by omega) Try.underlying24 (by kernel_rfl) (fun n cs y hy hz => openSq hy hz) h2 z2
  simp at e1
  subst e1
  rw [show Try.prog.bytesOf 33 = 32 from by kernel_rfl] at hzz
  unfold reachBytes at hzz
  exact ⟨⟨a0, a1, A, c, l⟩, rfl, hr, fun s hs => (hok s hs).evs, by simp only; omega, fun s hs => (hok s hs).emax, hlc, hn, fun s hs => (hok s hs).enil⟩
theorem openIn {n : Nat} {cs : List Value} {y : DataW H × List MemPlace} (h : DataW.trod en Try.prog w 0 (fun _ => true) true n 54 cs = some y) : ∃ x : In, cs = encI x ∧ (encI x).length = 3 ∧ True := by
  obtain ⟨hl, hf⟩ := open_structE Try.underlying54 h
  rw [show Try.prog.cellsOf 54 = 3 from by kernel_rfl] at hl
  obtain ⟨c0, c1, c2, rfl⟩ : ∃ c0 c1 c2, cs = [c0, c1, c2] := by
    match cs, hl with
    | [c0, c1, c2], _ => exact ⟨c0, c1, c2, rfl⟩
  obtain ⟨_, _, h0⟩ := hf 0 3 0 1 rfl icells3
  obtain ⟨_, _, h1⟩ := hf 1 28 1 2 rfl (by kernel_rfl)
  obtain ⟨a0, e0, _, w0⟩ := DataW.trod_int Try.underlying3 h0
  obtain ⟨x, e1, _⟩ := openEv h1
  simp at e0 e1
  obtain ⟨rfl, rfl⟩ := e1
  subst e0
  exact ⟨⟨a0, x⟩, rfl, rfl, trivial⟩
theorem openIns {n : Nat} {cs : List Value} {y : DataW H × List MemPlace} (h : DataW.trod en Try.prog w 0 (fun _ => true) true n 44 cs = some y) :
    ∃ (A : Option Addr) (c : Nat) (l : List In), cs = [.slice A l.length c] ∧ l.length ≤ c ∧ (A = none → c = 0) ∧ Rd w 3 A l.length (l.flatMap encI) ∧ ∀ x ∈ l, True :=
  open_rowsE encI (fun _ => True) (by omega) Try.underlying44 (by kernel_rfl) (fun n cs y h => openIn h) h
end

end Go.Proofs.Ytojgdmcojmllkaa.M
