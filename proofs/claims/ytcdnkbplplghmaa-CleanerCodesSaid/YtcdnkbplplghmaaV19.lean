/- strings.Builder: writing, reading. -/
import Derived.Test.YtcdnkbplplghmaaV18
import Derived.Test.YtcdnkbplplghmaaXC
import Derived.Test.YtcdnkbplplghmaaFwW
import Derived.Test.YtcdnkbplplghmaaFwB
import Derived.Test.YtcdnkbplplghmaaMbld0
namespace Go.Proofs.Ytcdnkbplplghmaa.M
open Go.Proofs.Ytcdnkbplplghmaa.F Go.RowKit
set_option linter.unusedVariables false
set_option linter.unusedSimpArgs false
set_option maxRecDepth 100000
set_option maxHeartbeats 2000000
attribute [local irreducible] Res.cells Res.row Res.map Res.any World.cell? World.frozen? Instr.fieldAt Instr.loadAt Instr.storeAt Instr.indexAt Instr.lookup Instr.mapUpdate Instr.box Instr.build Instr.buildSlice Instr.extract Instr.alloc Instr.field Instr.index Instr.sliceAt Instr.makeSlice Instr.makeMap Instr.makeFunc binS Op.unary Sem.run
/-- a builder's cells; what it holds. -/
abbrev bCell (b : Nat) (p : Option Addr) (A : Option Addr) (c : Nat) (s : ByteArray) : Res := Res.cells b 73 [.pointer p, .slice A s.size c]
abbrev bRow (A : Option Addr) (c : Nat) (s : ByteArray) : Res := Res.row 5 1 (.slice A s.size c) s.size (Go.Lib.strCells s)
/-- the builder at b holds s. -/
def Bd (w0 : World) (F : List Nat) (L : List Res) (b : Nat) (s : ByteArray) (w : World) : Prop := ∃ p A c, (p = none ∨ p = some ⟨b, 0, none⟩) ∧ St w0 F w (bCell b p A c s :: bRow A c s :: L)
section
variable {w0 w : World} {F : List Nat} {L : List Res}
theorem Bd.start {b : Nat} (hS : St w0 F w (Res.cells b 73 [.pointer none, .slice none 0 0] :: L)) : Bd w0 F L b ⟨#[]⟩ w :=
  ⟨none, none, 0, .inl rfl, (hS.row_nil 5 1).perm (.swap _ _ _)⟩
theorem cc_ret {b c : Nat} {p A : Option Addr} {s : ByteArray} (hp : p = none ∨ p = some ⟨b, 0, none⟩) (hS : St w0 F w (bCell b p A c s :: L)) : Ret Try.prog 57 #[.pointer (some ⟨b, 0, none⟩)] w fun v w' => St w0 F w' (bCell b (some ⟨b, 0, none⟩) A c s :: L) := by
  rcases hp with rfl | rfl
  · have hh := hS.heap_cells 0 rfl
    refine Calls.mono (builder_cc_fresh b w (hS.cell 0 rfl rfl) (by simp [World.shape?, hh]) (hS.frozen 0 rfl)) ?_
    rintro e w' ⟨rfl, rfl⟩
    exact ⟨_, rfl, hS.set 0 _ rfl⟩
  · refine Calls.mono (builder_cc_used b w (hS.cell 0 rfl rfl)) ?_
    rintro e w' ⟨rfl, rfl⟩
    exact ⟨_, rfl, hS⟩
theorem write_ret {b : Nat} {s t : ByteArray} (hz : s.size + t.size ≤ 1000000000) (hB : Bd w0 F L b s w) : Ret Try.prog 31 #[.pointer (some ⟨b, 0, none⟩), .string t] w fun v w' => Bd w0 F L b (s ++ t) w' := by
  obtain ⟨p, A, c, hp, hS⟩ := hB
  refine s31 _ _ ?_
  unfold m31 m31_0 m31_1
  refine callR (by kernel_rfl) (cc_ret hp hS) ?_
  clear hS
  intro _ w hS
  unfold m31_2
  refine nil_ok ?_
  first | refine valP_ok (fa73_1 _ _) ?_ | refine valP_ok (fao73_1 _ _ _) ?_
  first | refine valP_ok (ld71 (hS.cell 0 rfl rfl)) ?_ | refine valP_ok (ld71 (hS.cell 1 rfl rfl)) ?_ | refine valP_ok (ld71 (hS.cell 2 rfl rfl)) ?_ | refine valP_ok (ld71 (hS.cell 3 rfl rfl)) ?_ | refine valP_ok (ld71 (hS.cell 4 rfl rfl)) ?_ | refine valP_ok (ld71 (hS.cell 5 rfl rfl)) ?_ | refine valP_ok (ld71 (hS.cell 6 rfl rfl)) ?_ | refine valP_ok (ld71 (hS.cell 7 rfl rfl)) ?_ | refine valP_ok (ld71 (by assumption)) ?_
  refine append_str_ok 1 sl71 Try.underlying9 hS rfl (by unfold maxLen; omega) (by omega) ?_
  intro A' c' w hS
  simp only [List.set_cons_zero, List.set_cons_succ] at hS
  rw [strCells_add, ← ByteArray.size_append] at hS
  rw [← ByteArray.size_append]
  refine nil_ok ?_
  first | refine valP_ok (fa73_1 _ _) ?_ | refine valP_ok (fao73_1 _ _ _) ?_
  first | refine store_at 0 st71 hS rfl (by simp) rfl ?_ | refine store_at 1 st71 hS rfl (by simp) rfl ?_ | refine store_at 2 st71 hS rfl (by simp) rfl ?_ | refine store_at 3 st71 hS rfl (by simp) rfl ?_ | refine store_at 4 st71 hS rfl (by simp) rfl ?_ | refine store_at 5 st71 hS rfl (by simp) rfl ?_ | refine store_at 6 st71 hS rfl (by simp) rfl ?_ | refine store_at 7 st71 hS rfl (by simp) rfl ?_
  intro w hS
  simp only [List.set_cons_zero, List.set_cons_succ] at hS
  unfold m31_3
  refine builtin_ok (len9 _) ?_
  unfold m31_4
  exact ⟨_, A', c', .inr rfl, hS⟩
theorem bstring_ret {b : Nat} {s : ByteArray} (h0 : 0 < s.size) (hB : Bd w0 F L b s w) : Ret Try.prog 35 #[.pointer (some ⟨b, 0, none⟩)] w fun v w' => v = .string s ∧ St w0 F w' L := by
  obtain ⟨p, A, c, hp, hS⟩ := hB
  refine s35 _ ?_
  unfold m35 m35_0 m35_1
  refine drawn_ok hS ?_
  clear hS
  intro w hS
  obtain ⟨g, rfl⟩ := hS.row_ptr 1 rfl h0
  have hc := hS.row_max 1 rfl
  have hS2 := hS.perm (.swap _ _ _)
  refine held_Hs hS2.tail ?_
  refine nil_ok ?_
  first | refine valJ_ok (fa73_1 _) ?_ | refine valJ_ok (fao73_1 _ _) ?_
  first | refine valJ_load ld71 (Hs.cell 0 rfl rfl) ?_ | refine valJ_load ld71 (Hs.cell 1 rfl rfl) ?_ | refine valJ_load ld71 (Hs.cell 2 rfl rfl) ?_ | refine valJ_load ld71 (Hs.cell 3 rfl rfl) ?_ | refine valJ_load ld71 (Hs.cell 4 rfl rfl) ?_ | refine valJ_load ld71 (Hs.cell 5 rfl rfl) ?_ | refine valJ_load ld71 (Hs.cell 6 rfl rfl) ?_ | refine valJ_load ld71 (Hs.cell 7 rfl rfl) ?_ | refine valJ_load ld71 (by assumption) ?_
  refine nil_ok ?_
  first | refine valJ_ok (fa73_1 _) ?_ | refine valJ_ok (fao73_1 _ _) ?_
  first | refine valJ_load ld71 (Hs.cell 0 rfl rfl) ?_ | refine valJ_load ld71 (Hs.cell 1 rfl rfl) ?_ | refine valJ_load ld71 (Hs.cell 2 rfl rfl) ?_ | refine valJ_load ld71 (Hs.cell 3 rfl rfl) ?_ | refine valJ_load ld71 (Hs.cell 4 rfl rfl) ?_ | refine valJ_load ld71 (Hs.cell 5 rfl rfl) ?_ | refine valJ_load ld71 (Hs.cell 6 rfl rfl) ?_ | refine valJ_load ld71 (Hs.cell 7 rfl rfl) ?_ | refine valJ_load ld71 (by assumption) ?_
  refine builtinJ_ok (len71) ?_
  refine sliceData_ok (by omega) ?_
  refine stay_Hs hS2.tail (fun _ h => h) ?_
  refine unsafeStr_ok (by kernel_rfl) (by kernel_rfl) h0 hS2 ?_
  intro w hS
  refine stay_Hs hS (fun _ h => h) ?_
  unfold m35_2
  exact ⟨rfl, hS.tail⟩
end

end Go.Proofs.Ytcdnkbplplghmaa.M
