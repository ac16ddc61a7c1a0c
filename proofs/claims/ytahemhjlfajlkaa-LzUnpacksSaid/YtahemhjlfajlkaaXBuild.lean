/- What a strings.Builder's WriteString comes to. -/
import Derived.Test.YtahemhjlfajlkaaPLx0
import Derived.Test.YtahemhjlfajlkaaShelf
import Derived.Lib.Builder
import Derived.Lib.AppendStr
import Derived.Lib.UnsafeStr
import Derived.Laws.Externs
import Derived.Lib.Hide
namespace Go.Proofs.Ytahemhjlfajlkaa.PL
open Go.RowKit Go.Proofs.YtahemhjlfajlkaaW.PrintWords Go.Proofs.YtahemhjlfajlkaaW.PrintLast Go.Proofs.YtahemhjlfajlkaaW.PrintMore
set_option linter.unusedVariables false
set_option linter.unusedSimpArgs false

/-! ### strings.Builder -/
theorem sizeBuilder : ∃ j, Try.prog.info? 43 = some j ∧ j.size ≠ 0 := by
  obtain ⟨j, h1, h2⟩ := Option.map_eq_some_iff.1 (show (Try.prog.info? 43).map (fun i => decide (i.size ≠ 0)) = some true by kernel_rfl)
  exact ⟨j, h1, of_decide_eq_true h2⟩
theorem liesBuilder : liesAt Try.prog Try.prog.depth 43 (2 / Try.prog.cellsOf 43) 0 43 1 = true := by kernel_rfl
theorem infoByte : (Try.prog.info? 5).map (fun i => (i.zero, i.size, i.bytes)) = some (some (.int .u8 0), 1, 1) := by kernel_rfl
/-- Maps stand as they were. -/
def MapsKept (w w' : World) : Prop := ∀ (k : Nat) (es : Array MapEntry) (c : Nat), w.heap[k]? = some (.map es c) → w'.heap[k]? = some (.map es c)
theorem MapsKept.refl (w : World) : MapsKept w w := fun _ _ _ h => h
theorem MapsKept.trans {a b c : World} (h : MapsKept a b) (g : MapsKept b c) : MapsKept a c := fun k es q x => g k es q (h k es q x)
theorem MapsKept.below {w w' : World} (h : Below w.heap.size w w') : MapsKept w w' := fun k es c x => (h.block k (Array.getElem?_eq_some_iff.1 x).1).trans x
theorem MapsKept.setCell {w : World} {b : Nat} {cs : Array Value} {T : TypeId} {fr : Nat × Nat} (hb : w.heap[b]? = some (.cells cs T fr)) (j : Nat) (u : Value) : MapsKept w (w.setCell ⟨b, j, none⟩ u) := by
  intro k es c x
  have hne : k ≠ b := by rintro rfl; rw [hb] at x; cases x
  rw [Below.heap_setCell w ⟨b, j, none⟩ u k hne]; exact x
theorem MapsKept.grown {w w' : World} {B e size n : Nat} {v : Value} {xs : List Value} (hown : w.ownsRow B e size v n xs) (hg : w.grownBy w' v.ownBlock) : MapsKept w w' := by
  intro k es c x
  refine (hg.block k (Array.getElem?_eq_some_iff.1 x).1 (fun y => ?_)).trans x
  rcases hown.2 with ⟨hv, _⟩ | ⟨g, cap, cur, hv, _, hc, _⟩
  · rw [hv] at y; cases y
  · rw [hv] at y; injection y with y; subst y; rw [hc] at x; cases x
set_option maxHeartbeats 1000000 in
set_option maxRecDepth 100000 in
theorem builder_cc_used (b : Nat) (w : World) (h0 : w.cell? ⟨b, 0, none⟩ = some (.pointer (some ⟨b, 0, none⟩))) :
    Calls Try.prog 28 #[.pointer (some ⟨b, 0, none⟩)] w fun e w' => e = .returned (.tuple #[]) ∧ w = w' := by
  obtain ⟨j, hj, -⟩ := sizeBuilder
  go_enter Try.func28, Try.ntmps28
  go_wp2
  rw [Lib.run_neq_ptr_same w _ Try.underlying41 hj]
  go_wp2
  go_end0
  exact ⟨rfl, rfl⟩
set_option maxHeartbeats 1000000 in
set_option maxRecDepth 100000 in
theorem builder_cc_fresh (b : Nat) (w : World) (h0 : w.cell? ⟨b, 0, none⟩ = some (.pointer none)) (hsh : w.shape? b = some (43, 2)) (hfz : w.frozen? ⟨b, 0, none⟩ = false) :
    Calls Try.prog 28 #[.pointer (some ⟨b, 0, none⟩)] w fun e w' => e = .returned (.tuple #[]) ∧ w.setCell ⟨b, 0, none⟩ (.pointer (some ⟨b, 0, none⟩)) = w' := by
  obtain ⟨j, hj, hjs⟩ := sizeBuilder
  go_enter Try.func28, Try.ntmps28
  go_wp2
  rw [Lib.run_to_unsafe w ⟨b, 0, none⟩ Try.underlying41 Try.underlying62 hj hjs hsh (Nat.zero_lt_succ 1)]
  simp only [Result.andThen]
  rw [Oper.upon_value]
  go_wp2
  rw [run_callFunc_extern Try.func29 (by kernel_rfl) (by kernel_rfl) (by kernel_rfl) (e := Extern.AbiNoEscape.same) (by kernel_rfl)]
  rw [Lib.run_noEscape]
  simp only [Result.andThen]
  rw [Oper.upon_value]
  go_wp2
  rw [Lib.run_from_unsafe w ⟨b, 0, none⟩ Try.underlying62 Try.underlying41 hj hsh liesBuilder]
  simp only [Result.andThen]
  rw [Oper.upon_value]
  go_wp2
  go_end0
  exact ⟨rfl, rfl⟩
theorem builder_cc (B b : Nat) (bs : List Value) (w : World) (h : Lib.IsBuilder 43 5 B b bs w) :
    Calls Try.prog 28 #[.pointer (some ⟨b, 0, none⟩)] w fun e w' => e = .returned (.tuple #[]) ∧ Lib.BuilderAt 43 5 B b (.pointer (some ⟨b, 0, none⟩)) bs w' ∧ Below B w w' ∧ MapsKept w w' := by
  rcases h with h | h
  · refine (builder_cc_fresh b w h.cell0 h.shape h.frozen0).mono ?_
    rintro e w' ⟨rfl, rfl⟩
    obtain ⟨hB, v, hbk, hrest⟩ := id h
    exact ⟨rfl, h.used _, (Below.refl B w).setCell (p := ⟨b, 0, none⟩) h.1 _, MapsKept.setCell hbk 0 _⟩
  · refine (builder_cc_used b w h.cell0).mono ?_
    rintro e w' ⟨rfl, rfl⟩
    exact ⟨rfl, h, Below.refl B _, MapsKept.refl _⟩
set_option maxHeartbeats 1000000 in
set_option maxRecDepth 100000 in
theorem builder_write (B b : Nat) (bs : List Value) (s : ByteArray) (w : World) (h : Lib.IsBuilder 43 5 B b bs w) (hlen : bs.length + s.size ≤ 140737488355328) (hBw : B ≤ w.heap.size) :
    Calls Try.prog 21 #[.pointer (some ⟨b, 0, none⟩), .string s] w fun e w' => e = .returned (.tuple #[.int .i64 s.size, .nilIface]) ∧ Lib.IsBuilder 43 5 B b (bs ++ Lib.strCells s) w' ∧ Below B w w' ∧ B ≤ w'.heap.size ∧ MapsKept w w' := by
  obtain ⟨i0, hi, hz0, hz1, hz2⟩ := info_parts infoByte
  go_enter Try.func21, Try.ntmps21
  go_wp2_with (go_at_call 28; refine (builder_cc B b bs _ h).mono ?_)
  rintro e w1 ⟨rfl, h1, hb1, hmk1⟩
  have HMK1 : Hid (MapsKept w w1) := hmk1
  clear hmk1
  obtain ⟨hB, v, hbk, hown, hne⟩ := h1
  have c1 : w1.cell? ⟨b, 1, none⟩ = some v := by rw [Lib.cell_of_heap hbk]; rfl
  have hs1 := hb1.size
  go_wp2_with (at_builtin; (refine Lib.wpList_append_own_string _ rfl _ _ 32 9 rfl B 5 i0 Try.underlying32 Try.underlying9 hi hz0 hz1 hz2 v bs.length bs rfl hown s rfl (by unfold maxLen; omega) hlen (by omega) ?_))
  intro v' w2 hown' hgrow _
  have hbk2 : w2.heap[b]? = some (.cells #[.pointer (some ⟨b, 0, none⟩), v] 43 (0, 0)) := blk_grown hbk hgrow (fun h => hne h.symm)
  have c2 : w2.cell? ⟨b, 1, none⟩ = some v := by rw [Lib.cell_of_heap hbk2]; rfl
  have f2 : w2.frozen? ⟨b, 1, none⟩ = false := Lib.frozen_of_heap hbk2 1
  have hs2 := hgrow.size
  have HMK2 : Hid (MapsKept w1 w2) := MapsKept.grown hown hgrow
  obtain ⟨ao, n', cap, rfl⟩ : ∃ ao n' cap, v' = .slice ao n' cap := by
    rcases hown'.2 with ⟨hv, _⟩ | ⟨g, cap, cur, hv, _⟩
    · exact ⟨_, _, _, hv⟩
    · exact ⟨_, _, _, hv⟩
  go_wp2
  go_ret2
  have hput := Lib.BuilderAt.put (T := 43) (e := 5) (p := .pointer (some ⟨b, 0, none⟩)) (v := v) (v' := .slice ao n' cap) (bs' := bs ++ Lib.strCells s) hB hbk2 (by rw [List.length_append, Lib.strCells_length]; exact hown') (by decide)
  refine ⟨rfl, .inr hput, ?_, by simp; omega, (HMK1.out.trans HMK2.out).trans (MapsKept.setCell hbk2 1 _)⟩
  exact hb1.trans (((Below.refl B w1).grown hgrow (by omega) (fun j hj => (hown.lt j hj).1)).setCell (p := ⟨b, 1, none⟩) hB _)
end Go.Proofs.Ytahemhjlfajlkaa.PL
