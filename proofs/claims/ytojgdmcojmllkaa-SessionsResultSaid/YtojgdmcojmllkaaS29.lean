/- A number more: fold's Add, and the document's. -/
import Derived.Test.YtojgdmcojmllkaaS28
import Derived.Test.YtojgdmcojmllkaaMres0
namespace Go.Proofs.Ytojgdmcojmllkaa.M
open Go.Proofs.Ytojgdmcojmllkaa.F Go.RowKit
set_option linter.unusedVariables false
set_option linter.unusedSimpArgs false
set_option maxRecDepth 100000
set_option maxHeartbeats 2000000
attribute [local irreducible] Res.cells Res.row Res.map Res.any World.cell? World.frozen? Instr.fieldAt Instr.loadAt Instr.storeAt Instr.indexAt Instr.lookup Instr.mapUpdate Instr.box Instr.build Instr.buildSlice Instr.extract Instr.alloc Instr.field Instr.index Instr.sliceAt Instr.makeSlice Instr.makeMap Instr.makeFunc binS Op.unary Sem.run
theorem hitI_eq (h : Int) (k : Nat) : hitI h k k = plusI h 1 := if_pos rfl
theorem hitI_ne {h : Int} {k j : Nat} (n : k ≠ j) : hitI h k j = h := if_neg n
theorem plusI_0 {a : Int} (h : I64 a) : plusI a 0 = a := by
  unfold plusI I64 at *
  rw [if_neg (by omega), if_neg (by omega)]
  omega
theorem i1 : I64 1 := by unfold I64; omega
theorem in1 : I64 (-1) := by unfold I64; omega
theorem i0 : I64 0 := by unfold I64; omega
def reI (r v : Int) : Int := if v % 4 = 0 then plusI r 1 else if v % 4 = 2 then plusI r (-1) else r
def imI (r v : Int) : Int := if v % 4 = 1 then plusI r 1 else if v % 4 = 3 then plusI r (-1) else r
theorem mod4 (v : Int) : v % 4 = 0 ∨ v % 4 = 1 ∨ v % 4 = 2 ∨ v % 4 = 3 := by omega
abbrev zA : Ag := ⟨0, 0, 0, 0, 0, 0, 0, 0, 0, 0⟩
abbrev pt (b : Nat) : Value := .pointer (some ⟨b, 0, none⟩)
section
variable {w0 w : World} {F : List Nat} {L : List Res} {b2 b4 b5 : Nat} {v x0 x1 x2 x3 x4 x5 x6 x7 x8 x9 : Int} {z : Ag}
theorem srt_cases (v : Int) : srtI v = 0 ∨ srtI v = 1 ∨ srtI v = 2 ∨ srtI v = 3 := by
  unfold srtI
  split
  · exact .inl rfl
  · split
    · exact .inr (.inl rfl)
    · split
      · exact .inr (.inr (.inl rfl))
      · exact .inr (.inr (.inr rfl))
theorem t41_8 (hS : St w0 F w (Res.cells b4 58 (encA zA) :: Res.cells b2 58 (encA ⟨x0, x1, x2, x3, x4, x5, x6, x7, x8, x9⟩) :: L)) : m41_8 (fun u w' => u = agv ⟨x0, x1, x2, x3, x4, x5, x6, x7, x8, x9⟩ ∧ St w0 F w' L) (pt b2) (pt b4) w := by
  unfold m41_8
  first | refine ls58 0 hS rfl ?_ | refine ls58 1 hS rfl ?_ | refine ls58 2 hS rfl ?_ | refine ls58 3 hS rfl ?_ | refine ls58 4 hS rfl ?_ | refine ls58 5 hS rfl ?_ | refine ls58 6 hS rfl ?_ | refine ls58 7 hS rfl ?_ | refine valP_ok (ld58 (by assumption) (by assumption) (by assumption) (by assumption) (by assumption) (by assumption) (by assumption) (by assumption) (by assumption) (by assumption)) ?_
  first | refine ss58 0 hS rfl rfl rfl rfl rfl rfl rfl rfl rfl rfl rfl ?_ | refine ss58 1 hS rfl rfl rfl rfl rfl rfl rfl rfl rfl rfl rfl ?_ | refine ss58 2 hS rfl rfl rfl rfl rfl rfl rfl rfl rfl rfl rfl ?_ | refine ss58 3 hS rfl rfl rfl rfl rfl rfl rfl rfl rfl rfl rfl ?_ | refine ss58 4 hS rfl rfl rfl rfl rfl rfl rfl rfl rfl rfl rfl ?_ | refine ss58 5 hS rfl rfl rfl rfl rfl rfl rfl rfl rfl rfl rfl ?_ | refine ss58 6 hS rfl rfl rfl rfl rfl rfl rfl rfl rfl rfl rfl ?_ | refine ss58 7 hS rfl rfl rfl rfl rfl rfl rfl rfl rfl rfl rfl ?_
  intro w hS
  simp only [List.set_cons_zero, List.set_cons_succ] at hS
  unfold m41_9
  refine valS_ok (lc58 (hS.cell 0 rfl rfl) (hS.cell 0 rfl rfl) (hS.cell 0 rfl rfl) (hS.cell 0 rfl rfl) (hS.cell 0 rfl rfl) (hS.cell 0 rfl rfl) (hS.cell 0 rfl rfl) (hS.cell 0 rfl rfl) (hS.cell 0 rfl rfl) (hS.cell 0 rfl rfl)) ?_
  exact ⟨rfl, hS.tail.tail⟩
theorem t41_7 (h8 : I64 x8) (h9 : I64 x9) (hS : St w0 F w (Res.cells b4 58 (encA zA) :: Res.cells b2 58 (encA ⟨x0, x1, x2, x3, x4, x5, x6, x7, x8, x9⟩) :: L)) : m41_7 (fun u w' => u = agv ⟨x0, x1, x2, x3, x4, x5, x6, x7, reI x8 v, imI x9 v⟩ ∧ St w0 F w' L) (pt b2) (pt b4) (turnV (v % 4)) w := by
  unfold m41_7
  refine drawn_ok hS ?_
  intro w hS
  first | refine valS_ok (fa58_5 _ _) ?_ | refine valS_ok (fao58_5 _ _ _) ?_
  first | refine valS_ok (ld3 (hS.cell 0 rfl rfl)) ?_ | refine valS_ok (ld3 (hS.cell 1 rfl rfl)) ?_ | refine valS_ok (ld3 (hS.cell 2 rfl rfl)) ?_ | refine valS_ok (ld3 (hS.cell 3 rfl rfl)) ?_ | refine valS_ok (ld3 (hS.cell 4 rfl rfl)) ?_ | refine valS_ok (ld3 (hS.cell 5 rfl rfl)) ?_ | refine valS_ok (ld3 (hS.cell 6 rfl rfl)) ?_ | refine valS_ok (ld3 (hS.cell 7 rfl rfl)) ?_ | refine valS_ok (ld3 (by assumption)) ?_
  rcases mod4 v with h | h | h | h
  · rw [h]
    refine builtinS_ok (re_run _ _ _) ?_
    refine valS_ok (fi1 _) ?_
    refine callSR (by kernel_rfl) (plus_ret h8 i1 _) ?_
    first | refine valS_ok (fa58_6 _ _) ?_ | refine valS_ok (fao58_6 _ _ _) ?_
    first | refine valS_ok (ld3 (hS.cell 0 rfl rfl)) ?_ | refine valS_ok (ld3 (hS.cell 1 rfl rfl)) ?_ | refine valS_ok (ld3 (hS.cell 2 rfl rfl)) ?_ | refine valS_ok (ld3 (hS.cell 3 rfl rfl)) ?_ | refine valS_ok (ld3 (hS.cell 4 rfl rfl)) ?_ | refine valS_ok (ld3 (hS.cell 5 rfl rfl)) ?_ | refine valS_ok (ld3 (hS.cell 6 rfl rfl)) ?_ | refine valS_ok (ld3 (hS.cell 7 rfl rfl)) ?_ | refine valS_ok (ld3 (by assumption)) ?_
    refine builtinS_ok (im_run _ _ _) ?_
    refine valS_ok (fi0 _) ?_
    refine callSR (by kernel_rfl) (plus_ret h9 i0 _) ?_
    first | refine valS_ok (fa58_5 _ _) ?_ | refine valS_ok (fao58_5 _ _ _) ?_
    first | refine store_at 0 st3 hS rfl (by simp) rfl ?_ | refine store_at 1 st3 hS rfl (by simp) rfl ?_ | refine store_at 2 st3 hS rfl (by simp) rfl ?_ | refine store_at 3 st3 hS rfl (by simp) rfl ?_ | refine store_at 4 st3 hS rfl (by simp) rfl ?_ | refine store_at 5 st3 hS rfl (by simp) rfl ?_ | refine store_at 6 st3 hS rfl (by simp) rfl ?_ | refine store_at 7 st3 hS rfl (by simp) rfl ?_
    intro w hS
    simp only [List.set_cons_zero, List.set_cons_succ] at hS
    first | refine valP_ok (fa58_6 _ _) ?_ | refine valP_ok (fao58_6 _ _ _) ?_
    first | refine store_at 0 st3 hS rfl (by simp) rfl ?_ | refine store_at 1 st3 hS rfl (by simp) rfl ?_ | refine store_at 2 st3 hS rfl (by simp) rfl ?_ | refine store_at 3 st3 hS rfl (by simp) rfl ?_ | refine store_at 4 st3 hS rfl (by simp) rfl ?_ | refine store_at 5 st3 hS rfl (by simp) rfl ?_ | refine store_at 6 st3 hS rfl (by simp) rfl ?_ | refine store_at 7 st3 hS rfl (by simp) rfl ?_
    intro w hS
    simp only [List.set_cons_zero, List.set_cons_succ] at hS
    rw [plusI_0 h9] at hS
    rw [show imI x9 v = x9 from by unfold imI; rw [if_neg (by omega), if_neg (by omega)], show reI x8 v = plusI x8 1 from if_pos h]
    exact t41_8 hS
  · rw [h]
    refine builtinS_ok (re_run _ _ _) ?_
    refine valS_ok (fi0 _) ?_
    refine callSR (by kernel_rfl) (plus_ret h8 i0 _) ?_
    first | refine valS_ok (fa58_6 _ _) ?_ | refine valS_ok (fao58_6 _ _ _) ?_
    first | refine valS_ok (ld3 (hS.cell 0 rfl rfl)) ?_ | refine valS_ok (ld3 (hS.cell 1 rfl rfl)) ?_ | refine valS_ok (ld3 (hS.cell 2 rfl rfl)) ?_ | refine valS_ok (ld3 (hS.cell 3 rfl rfl)) ?_ | refine valS_ok (ld3 (hS.cell 4 rfl rfl)) ?_ | refine valS_ok (ld3 (hS.cell 5 rfl rfl)) ?_ | refine valS_ok (ld3 (hS.cell 6 rfl rfl)) ?_ | refine valS_ok (ld3 (hS.cell 7 rfl rfl)) ?_ | refine valS_ok (ld3 (by assumption)) ?_
    refine builtinS_ok (im_run _ _ _) ?_
    refine valS_ok (fi1 _) ?_
    refine callSR (by kernel_rfl) (plus_ret h9 i1 _) ?_
    first | refine valS_ok (fa58_5 _ _) ?_ | refine valS_ok (fao58_5 _ _ _) ?_
    first | refine store_at 0 st3 hS rfl (by simp) rfl ?_ | refine store_at 1 st3 hS rfl (by simp) rfl ?_ | refine store_at 2 st3 hS rfl (by simp) rfl ?_ | refine store_at 3 st3 hS rfl (by simp) rfl ?_ | refine store_at 4 st3 hS rfl (by simp) rfl ?_ | refine store_at 5 st3 hS rfl (by simp) rfl ?_ | refine store_at 6 st3 hS rfl (by simp) rfl ?_ | refine store_at 7 st3 hS rfl (by simp) rfl ?_
    intro w hS
    simp only [List.set_cons_zero, List.set_cons_succ] at hS
    first | refine valP_ok (fa58_6 _ _) ?_ | refine valP_ok (fao58_6 _ _ _) ?_
    first | refine store_at 0 st3 hS rfl (by simp) rfl ?_ | refine store_at 1 st3 hS rfl (by simp) rfl ?_ | refine store_at 2 st3 hS rfl (by simp) rfl ?_ | refine store_at 3 st3 hS rfl (by simp) rfl ?_ | refine store_at 4 st3 hS rfl (by simp) rfl ?_ | refine store_at 5 st3 hS rfl (by simp) rfl ?_ | refine store_at 6 st3 hS rfl (by simp) rfl ?_ | refine store_at 7 st3 hS rfl (by simp) rfl ?_
    intro w hS
    simp only [List.set_cons_zero, List.set_cons_succ] at hS
    rw [plusI_0 h8] at hS
    rw [show imI x9 v = plusI x9 1 from if_pos h, show reI x8 v = x8 from by unfold reI; rw [if_neg (by omega), if_neg (by omega)]]
    exact t41_8 hS
  · rw [h]
    refine builtinS_ok (re_run _ _ _) ?_
    refine valS_ok (fi2 _) ?_
    refine callSR (by kernel_rfl) (plus_ret h8 in1 _) ?_
    first | refine valS_ok (fa58_6 _ _) ?_ | refine valS_ok (fao58_6 _ _ _) ?_
    first | refine valS_ok (ld3 (hS.cell 0 rfl rfl)) ?_ | refine valS_ok (ld3 (hS.cell 1 rfl rfl)) ?_ | refine valS_ok (ld3 (hS.cell 2 rfl rfl)) ?_ | refine valS_ok (ld3 (hS.cell 3 rfl rfl)) ?_ | refine valS_ok (ld3 (hS.cell 4 rfl rfl)) ?_ | refine valS_ok (ld3 (hS.cell 5 rfl rfl)) ?_ | refine valS_ok (ld3 (hS.cell 6 rfl rfl)) ?_ | refine valS_ok (ld3 (hS.cell 7 rfl rfl)) ?_ | refine valS_ok (ld3 (by assumption)) ?_
    refine builtinS_ok (im_run _ _ _) ?_
    refine valS_ok (fi0 _) ?_
    refine callSR (by kernel_rfl) (plus_ret h9 i0 _) ?_
    first | refine valS_ok (fa58_5 _ _) ?_ | refine valS_ok (fao58_5 _ _ _) ?_
    first | refine store_at 0 st3 hS rfl (by simp) rfl ?_ | refine store_at 1 st3 hS rfl (by simp) rfl ?_ | refine store_at 2 st3 hS rfl (by simp) rfl ?_ | refine store_at 3 st3 hS rfl (by simp) rfl ?_ | refine store_at 4 st3 hS rfl (by simp) rfl ?_ | refine store_at 5 st3 hS rfl (by simp) rfl ?_ | refine store_at 6 st3 hS rfl (by simp) rfl ?_ | refine store_at 7 st3 hS rfl (by simp) rfl ?_
    intro w hS
    simp only [List.set_cons_zero, List.set_cons_succ] at hS
    first | refine valP_ok (fa58_6 _ _) ?_ | refine valP_ok (fao58_6 _ _ _) ?_
    first | refine store_at 0 st3 hS rfl (by simp) rfl ?_ | refine store_at 1 st3 hS rfl (by simp) rfl ?_ | refine store_at 2 st3 hS rfl (by simp) rfl ?_ | refine store_at 3 st3 hS rfl (by simp) rfl ?_ | refine store_at 4 st3 hS rfl (by simp) rfl ?_ | refine store_at 5 st3 hS rfl (by simp) rfl ?_ | refine store_at 6 st3 hS rfl (by simp) rfl ?_ | refine store_at 7 st3 hS rfl (by simp) rfl ?_
    intro w hS
    simp only [List.set_cons_zero, List.set_cons_succ] at hS
    rw [plusI_0 h9] at hS
    rw [show imI x9 v = x9 from by unfold imI; rw [if_neg (by omega), if_neg (by omega)], show reI x8 v = plusI x8 (-1) from by unfold reI; rw [if_neg (by omega), if_pos h]]
    exact t41_8 hS
  · rw [h]
    refine builtinS_ok (re_run _ _ _) ?_
    refine valS_ok (fi3 _) ?_
    refine callSR (by kernel_rfl) (plus_ret h8 i0 _) ?_
    first | refine valS_ok (fa58_6 _ _) ?_ | refine valS_ok (fao58_6 _ _ _) ?_
    first | refine valS_ok (ld3 (hS.cell 0 rfl rfl)) ?_ | refine valS_ok (ld3 (hS.cell 1 rfl rfl)) ?_ | refine valS_ok (ld3 (hS.cell 2 rfl rfl)) ?_ | refine valS_ok (ld3 (hS.cell 3 rfl rfl)) ?_ | refine valS_ok (ld3 (hS.cell 4 rfl rfl)) ?_ | refine valS_ok (ld3 (hS.cell 5 rfl rfl)) ?_ | refine valS_ok (ld3 (hS.cell 6 rfl rfl)) ?_ | refine valS_ok (ld3 (hS.cell 7 rfl rfl)) ?_ | refine valS_ok (ld3 (by assumption)) ?_
    refine builtinS_ok (im_run _ _ _) ?_
    refine valS_ok (fi2 _) ?_
    refine callSR (by kernel_rfl) (plus_ret h9 in1 _) ?_
    first | refine valS_ok (fa58_5 _ _) ?_ | refine valS_ok (fao58_5 _ _ _) ?_
    first | refine store_at 0 st3 hS rfl (by simp) rfl ?_ | refine store_at 1 st3 hS rfl (by simp) rfl ?_ | refine store_at 2 st3 hS rfl (by simp) rfl ?_ | refine store_at 3 st3 hS rfl (by simp) rfl ?_ | refine store_at 4 st3 hS rfl (by simp) rfl ?_ | refine store_at 5 st3 hS rfl (by simp) rfl ?_ | refine store_at 6 st3 hS rfl (by simp) rfl ?_ | refine store_at 7 st3 hS rfl (by simp) rfl ?_
    intro w hS
    simp only [List.set_cons_zero, List.set_cons_succ] at hS
    first | refine valP_ok (fa58_6 _ _) ?_ | refine valP_ok (fao58_6 _ _ _) ?_
    first | refine store_at 0 st3 hS rfl (by simp) rfl ?_ | refine store_at 1 st3 hS rfl (by simp) rfl ?_ | refine store_at 2 st3 hS rfl (by simp) rfl ?_ | refine store_at 3 st3 hS rfl (by simp) rfl ?_ | refine store_at 4 st3 hS rfl (by simp) rfl ?_ | refine store_at 5 st3 hS rfl (by simp) rfl ?_ | refine store_at 6 st3 hS rfl (by simp) rfl ?_ | refine store_at 7 st3 hS rfl (by simp) rfl ?_
    intro w hS
    simp only [List.set_cons_zero, List.set_cons_succ] at hS
    rw [plusI_0 h8] at hS
    rw [show imI x9 v = plusI x9 (-1) from by unfold imI; rw [if_neg (by omega), if_pos h], show reI x8 v = x8 from by unfold reI; rw [if_neg (by omega), if_neg (by omega)]]
    exact t41_8 hS
theorem t41_6 (hv : I64 v) (h8 : I64 x8) (h9 : I64 x9) (hS : St w0 F w (Res.cells b4 58 (encA zA) :: Res.cells b2 58 (encA ⟨x0, x1, x2, x3, x4, x5, x6, x7, x8, x9⟩) :: L)) : m41_6 (fun u w' => u = agv ⟨x0, x1, x2, x3, x4, x5, x6, x7, reI x8 v, imI x9 v⟩ ∧ St w0 F w' L) (.int .i64 v) (pt b2) (pt b4) w := by
  unfold m41_6
  refine callR (by kernel_rfl) (turn_ret hv _) ?_
  rintro _ w ⟨rfl, rfl⟩
  exact t41_7 h8 h9 hS
theorem t41_5 (hv : I64 v) (h4 : I64 x4) (h5 : I64 x5) (h6 : I64 x6) (h7 : I64 x7) (h8 : I64 x8) (h9 : I64 x9) (hS : St w0 F w (Res.cells b4 58 (encA zA) :: Res.cells b2 58 (encA ⟨x0, x1, x2, x3, x4, x5, x6, x7, x8, x9⟩) :: L)) : m41_5 (fun u w' => u = agv ⟨x0, x1, x2, x3, hitI x4 (srtI v) 0, hitI x5 (srtI v) 1, hitI x6 (srtI v) 2, hitI x7 (srtI v) 3, reI x8 v, imI x9 v⟩ ∧ St w0 F w' L) (.int .i64 v) (pt b2) (pt b4) w := by
  unfold m41_5
  refine callR (by kernel_rfl) (sort_ret _ _) ?_
  rintro _ w ⟨rfl, rfl⟩
  refine callR (by kernel_rfl) (sort_ret _ _) ?_
  rintro _ w ⟨rfl, rfl⟩
  rcases srt_cases v with h | h | h | h
  · rw [h, hitI_eq, hitI_ne (by omega), hitI_ne (by omega), hitI_ne (by omega)]
    first | refine valP_ok (fa58_4 _ _) ?_ | refine valP_ok (fao58_4 _ _ _) ?_
    refine valP_ok (hx0 _ _) ?_
    first | refine valP_ok (ld3 (hS.cell 0 rfl rfl)) ?_ | refine valP_ok (ld3 (hS.cell 1 rfl rfl)) ?_ | refine valP_ok (ld3 (hS.cell 2 rfl rfl)) ?_ | refine valP_ok (ld3 (hS.cell 3 rfl rfl)) ?_ | refine valP_ok (ld3 (hS.cell 4 rfl rfl)) ?_ | refine valP_ok (ld3 (hS.cell 5 rfl rfl)) ?_ | refine valP_ok (ld3 (hS.cell 6 rfl rfl)) ?_ | refine valP_ok (ld3 (hS.cell 7 rfl rfl)) ?_ | refine valP_ok (ld3 (by assumption)) ?_
    refine callR (by kernel_rfl) (plus_ret h4 i1 _) ?_
    rintro _ w ⟨rfl, rfl⟩
    first | refine valP_ok (fa58_4 _ _) ?_ | refine valP_ok (fao58_4 _ _ _) ?_
    refine valP_ok (hx0 _ _) ?_
    first | refine store_at 0 st3 hS rfl (by simp) rfl ?_ | refine store_at 1 st3 hS rfl (by simp) rfl ?_ | refine store_at 2 st3 hS rfl (by simp) rfl ?_ | refine store_at 3 st3 hS rfl (by simp) rfl ?_ | refine store_at 4 st3 hS rfl (by simp) rfl ?_ | refine store_at 5 st3 hS rfl (by simp) rfl ?_ | refine store_at 6 st3 hS rfl (by simp) rfl ?_ | refine store_at 7 st3 hS rfl (by simp) rfl ?_
    intro w hS
    simp only [List.set_cons_zero, List.set_cons_succ] at hS
    exact t41_6 hv h8 h9 hS
  · rw [h, hitI_eq, hitI_ne (by omega), hitI_ne (by omega), hitI_ne (by omega)]
    first | refine valP_ok (fa58_4 _ _) ?_ | refine valP_ok (fao58_4 _ _ _) ?_
    refine valP_ok (hx1 _ _) ?_
    first | refine valP_ok (ld3 (hS.cell 0 rfl rfl)) ?_ | refine valP_ok (ld3 (hS.cell 1 rfl rfl)) ?_ | refine valP_ok (ld3 (hS.cell 2 rfl rfl)) ?_ | refine valP_ok (ld3 (hS.cell 3 rfl rfl)) ?_ | refine valP_ok (ld3 (hS.cell 4 rfl rfl)) ?_ | refine valP_ok (ld3 (hS.cell 5 rfl rfl)) ?_ | refine valP_ok (ld3 (hS.cell 6 rfl rfl)) ?_ | refine valP_ok (ld3 (hS.cell 7 rfl rfl)) ?_ | refine valP_ok (ld3 (by assumption)) ?_
    refine callR (by kernel_rfl) (plus_ret h5 i1 _) ?_
    rintro _ w ⟨rfl, rfl⟩
    first | refine valP_ok (fa58_4 _ _) ?_ | refine valP_ok (fao58_4 _ _ _) ?_
    refine valP_ok (hx1 _ _) ?_
    first | refine store_at 0 st3 hS rfl (by simp) rfl ?_ | refine store_at 1 st3 hS rfl (by simp) rfl ?_ | refine store_at 2 st3 hS rfl (by simp) rfl ?_ | refine store_at 3 st3 hS rfl (by simp) rfl ?_ | refine store_at 4 st3 hS rfl (by simp) rfl ?_ | refine store_at 5 st3 hS rfl (by simp) rfl ?_ | refine store_at 6 st3 hS rfl (by simp) rfl ?_ | refine store_at 7 st3 hS rfl (by simp) rfl ?_
    intro w hS
    simp only [List.set_cons_zero, List.set_cons_succ] at hS
    exact t41_6 hv h8 h9 hS
  · rw [h, hitI_eq, hitI_ne (by omega), hitI_ne (by omega), hitI_ne (by omega)]
    first | refine valP_ok (fa58_4 _ _) ?_ | refine valP_ok (fao58_4 _ _ _) ?_
    refine valP_ok (hx2 _ _) ?_
    first | refine valP_ok (ld3 (hS.cell 0 rfl rfl)) ?_ | refine valP_ok (ld3 (hS.cell 1 rfl rfl)) ?_ | refine valP_ok (ld3 (hS.cell 2 rfl rfl)) ?_ | refine valP_ok (ld3 (hS.cell 3 rfl rfl)) ?_ | refine valP_ok (ld3 (hS.cell 4 rfl rfl)) ?_ | refine valP_ok (ld3 (hS.cell 5 rfl rfl)) ?_ | refine valP_ok (ld3 (hS.cell 6 rfl rfl)) ?_ | refine valP_ok (ld3 (hS.cell 7 rfl rfl)) ?_ | refine valP_ok (ld3 (by assumption)) ?_
    refine callR (by kernel_rfl) (plus_ret h6 i1 _) ?_
    rintro _ w ⟨rfl, rfl⟩
    first | refine valP_ok (fa58_4 _ _) ?_ | refine valP_ok (fao58_4 _ _ _) ?_
    refine valP_ok (hx2 _ _) ?_
    first | refine store_at 0 st3 hS rfl (by simp) rfl ?_ | refine store_at 1 st3 hS rfl (by simp) rfl ?_ | refine store_at 2 st3 hS rfl (by simp) rfl ?_ | refine store_at 3 st3 hS rfl (by simp) rfl ?_ | refine store_at 4 st3 hS rfl (by simp) rfl ?_ | refine store_at 5 st3 hS rfl (by simp) rfl ?_ | refine store_at 6 st3 hS rfl (by simp) rfl ?_ | refine store_at 7 st3 hS rfl (by simp) rfl ?_
    intro w hS
    simp only [List.set_cons_zero, List.set_cons_succ] at hS
    exact t41_6 hv h8 h9 hS
  · rw [h, hitI_eq, hitI_ne (by omega), hitI_ne (by omega), hitI_ne (by omega)]
    first | refine valP_ok (fa58_4 _ _) ?_ | refine valP_ok (fao58_4 _ _ _) ?_
    refine valP_ok (hx3 _ _) ?_
    first | refine valP_ok (ld3 (hS.cell 0 rfl rfl)) ?_ | refine valP_ok (ld3 (hS.cell 1 rfl rfl)) ?_ | refine valP_ok (ld3 (hS.cell 2 rfl rfl)) ?_ | refine valP_ok (ld3 (hS.cell 3 rfl rfl)) ?_ | refine valP_ok (ld3 (hS.cell 4 rfl rfl)) ?_ | refine valP_ok (ld3 (hS.cell 5 rfl rfl)) ?_ | refine valP_ok (ld3 (hS.cell 6 rfl rfl)) ?_ | refine valP_ok (ld3 (hS.cell 7 rfl rfl)) ?_ | refine valP_ok (ld3 (by assumption)) ?_
    refine callR (by kernel_rfl) (plus_ret h7 i1 _) ?_
    rintro _ w ⟨rfl, rfl⟩
    first | refine valP_ok (fa58_4 _ _) ?_ | refine valP_ok (fao58_4 _ _ _) ?_
    refine valP_ok (hx3 _ _) ?_
    first | refine store_at 0 st3 hS rfl (by simp) rfl ?_ | refine store_at 1 st3 hS rfl (by simp) rfl ?_ | refine store_at 2 st3 hS rfl (by simp) rfl ?_ | refine store_at 3 st3 hS rfl (by simp) rfl ?_ | refine store_at 4 st3 hS rfl (by simp) rfl ?_ | refine store_at 5 st3 hS rfl (by simp) rfl ?_ | refine store_at 6 st3 hS rfl (by simp) rfl ?_ | refine store_at 7 st3 hS rfl (by simp) rfl ?_
    intro w hS
    simp only [List.set_cons_zero, List.set_cons_succ] at hS
    exact t41_6 hv h8 h9 hS
theorem t41_2 (hv : I64 v) (h0 : I64 x0) (h1 : I64 x1) (h4 : I64 x4) (h5 : I64 x5) (h6 : I64 x6) (h7 : I64 x7) (h8 : I64 x8) (h9 : I64 x9) (hS : St w0 F w (Res.cells b4 58 (encA zA) :: Res.cells b2 58 (encA ⟨x0, x1, x2, x3, x4, x5, x6, x7, x8, x9⟩) :: L)) : m41_2 (fun u w' => u = agv ⟨plusI x0 1, plusI x1 v, min x2 v, max x3 v, hitI x4 (srtI v) 0, hitI x5 (srtI v) 1, hitI x6 (srtI v) 2, hitI x7 (srtI v) 3, reI x8 v, imI x9 v⟩ ∧ St w0 F w' L) (.int .i64 v) (pt b2) (pt b4) w := by
  unfold m41_2
  first | refine valP_ok (fa58_0 _ _) ?_ | refine valP_ok (fao58_0 _ _ _) ?_
  first | refine valP_ok (ld3 (hS.cell 0 rfl rfl)) ?_ | refine valP_ok (ld3 (hS.cell 1 rfl rfl)) ?_ | refine valP_ok (ld3 (hS.cell 2 rfl rfl)) ?_ | refine valP_ok (ld3 (hS.cell 3 rfl rfl)) ?_ | refine valP_ok (ld3 (hS.cell 4 rfl rfl)) ?_ | refine valP_ok (ld3 (hS.cell 5 rfl rfl)) ?_ | refine valP_ok (ld3 (hS.cell 6 rfl rfl)) ?_ | refine valP_ok (ld3 (hS.cell 7 rfl rfl)) ?_ | refine valP_ok (ld3 (by assumption)) ?_
  refine callR (by kernel_rfl) (plus_ret h0 i1 _) ?_
  rintro _ w ⟨rfl, rfl⟩
  first | refine valP_ok (fa58_0 _ _) ?_ | refine valP_ok (fao58_0 _ _ _) ?_
  first | refine store_at 0 st3 hS rfl (by simp) rfl ?_ | refine store_at 1 st3 hS rfl (by simp) rfl ?_ | refine store_at 2 st3 hS rfl (by simp) rfl ?_ | refine store_at 3 st3 hS rfl (by simp) rfl ?_ | refine store_at 4 st3 hS rfl (by simp) rfl ?_ | refine store_at 5 st3 hS rfl (by simp) rfl ?_ | refine store_at 6 st3 hS rfl (by simp) rfl ?_ | refine store_at 7 st3 hS rfl (by simp) rfl ?_
  intro w hS
  simp only [List.set_cons_zero, List.set_cons_succ] at hS
  unfold m41_3
  first | refine valP_ok (fa58_1 _ _) ?_ | refine valP_ok (fao58_1 _ _ _) ?_
  first | refine valP_ok (ld3 (hS.cell 0 rfl rfl)) ?_ | refine valP_ok (ld3 (hS.cell 1 rfl rfl)) ?_ | refine valP_ok (ld3 (hS.cell 2 rfl rfl)) ?_ | refine valP_ok (ld3 (hS.cell 3 rfl rfl)) ?_ | refine valP_ok (ld3 (hS.cell 4 rfl rfl)) ?_ | refine valP_ok (ld3 (hS.cell 5 rfl rfl)) ?_ | refine valP_ok (ld3 (hS.cell 6 rfl rfl)) ?_ | refine valP_ok (ld3 (hS.cell 7 rfl rfl)) ?_ | refine valP_ok (ld3 (by assumption)) ?_
  refine callR (by kernel_rfl) (plus_ret h1 hv _) ?_
  rintro _ w ⟨rfl, rfl⟩
  first | refine valP_ok (fa58_1 _ _) ?_ | refine valP_ok (fao58_1 _ _ _) ?_
  first | refine store_at 0 st3 hS rfl (by simp) rfl ?_ | refine store_at 1 st3 hS rfl (by simp) rfl ?_ | refine store_at 2 st3 hS rfl (by simp) rfl ?_ | refine store_at 3 st3 hS rfl (by simp) rfl ?_ | refine store_at 4 st3 hS rfl (by simp) rfl ?_ | refine store_at 5 st3 hS rfl (by simp) rfl ?_ | refine store_at 6 st3 hS rfl (by simp) rfl ?_ | refine store_at 7 st3 hS rfl (by simp) rfl ?_
  intro w hS
  simp only [List.set_cons_zero, List.set_cons_succ] at hS
  unfold m41_4
  first | refine valP_ok (fa58_2 _ _) ?_ | refine valP_ok (fao58_2 _ _ _) ?_
  first | refine valP_ok (ld3 (hS.cell 0 rfl rfl)) ?_ | refine valP_ok (ld3 (hS.cell 1 rfl rfl)) ?_ | refine valP_ok (ld3 (hS.cell 2 rfl rfl)) ?_ | refine valP_ok (ld3 (hS.cell 3 rfl rfl)) ?_ | refine valP_ok (ld3 (hS.cell 4 rfl rfl)) ?_ | refine valP_ok (ld3 (hS.cell 5 rfl rfl)) ?_ | refine valP_ok (ld3 (hS.cell 6 rfl rfl)) ?_ | refine valP_ok (ld3 (hS.cell 7 rfl rfl)) ?_ | refine valP_ok (ld3 (by assumption)) ?_
  refine builtin_ok (min_run _ _ _) ?_
  first | refine valP_ok (fa58_3 _ _) ?_ | refine valP_ok (fao58_3 _ _ _) ?_
  first | refine valP_ok (ld3 (hS.cell 0 rfl rfl)) ?_ | refine valP_ok (ld3 (hS.cell 1 rfl rfl)) ?_ | refine valP_ok (ld3 (hS.cell 2 rfl rfl)) ?_ | refine valP_ok (ld3 (hS.cell 3 rfl rfl)) ?_ | refine valP_ok (ld3 (hS.cell 4 rfl rfl)) ?_ | refine valP_ok (ld3 (hS.cell 5 rfl rfl)) ?_ | refine valP_ok (ld3 (hS.cell 6 rfl rfl)) ?_ | refine valP_ok (ld3 (hS.cell 7 rfl rfl)) ?_ | refine valP_ok (ld3 (by assumption)) ?_
  refine builtin_ok (max_run _ _ _) ?_
  first | refine valP_ok (fa58_2 _ _) ?_ | refine valP_ok (fao58_2 _ _ _) ?_
  first | refine store_at 0 st3 hS rfl (by simp) rfl ?_ | refine store_at 1 st3 hS rfl (by simp) rfl ?_ | refine store_at 2 st3 hS rfl (by simp) rfl ?_ | refine store_at 3 st3 hS rfl (by simp) rfl ?_ | refine store_at 4 st3 hS rfl (by simp) rfl ?_ | refine store_at 5 st3 hS rfl (by simp) rfl ?_ | refine store_at 6 st3 hS rfl (by simp) rfl ?_ | refine store_at 7 st3 hS rfl (by simp) rfl ?_
  intro w hS
  simp only [List.set_cons_zero, List.set_cons_succ] at hS
  first | refine valP_ok (fa58_3 _ _) ?_ | refine valP_ok (fao58_3 _ _ _) ?_
  first | refine store_at 0 st3 hS rfl (by simp) rfl ?_ | refine store_at 1 st3 hS rfl (by simp) rfl ?_ | refine store_at 2 st3 hS rfl (by simp) rfl ?_ | refine store_at 3 st3 hS rfl (by simp) rfl ?_ | refine store_at 4 st3 hS rfl (by simp) rfl ?_ | refine store_at 5 st3 hS rfl (by simp) rfl ?_ | refine store_at 6 st3 hS rfl (by simp) rfl ?_ | refine store_at 7 st3 hS rfl (by simp) rfl ?_
  intro w hS
  simp only [List.set_cons_zero, List.set_cons_succ] at hS
  exact t41_5 hv h4 h5 h6 h7 h8 h9 hS
theorem fadd_ret {a : Ag} (ha : AgOk a) (hv : I64 v) (hS : St w0 F w L) : Ret Try.prog 41 #[agv a, .int .i64 v] w fun u w' => u = agv (addAg a v) ∧ St w0 F w' L := by
  obtain ⟨x0, x1, x2, x3, x4, x5, x6, x7, x8, x9⟩ := a
  obtain ⟨h0, h1, h2, h3, h4, h5, h6, h7, h8, h9⟩ := ha
  simp only at h0 h1 h2 h3 h4 h5 h6 h7 h8 h9
  refine s41 _ _ ?_
  unfold m41
  unfold m41_0
  refine new_ok (bx58 _ _ _ _ _ _ _ _ _ _ _) hS ?_
  intro b2 w hS
  refine new_ok (al58 _) hS ?_
  intro b4 w hS
  unfold m41_1
  first | refine valP_ok (fa58_0 _ _) ?_ | refine valP_ok (fao58_0 _ _ _) ?_
  first | refine valP_ok (ld3 (hS.cell 0 rfl rfl)) ?_ | refine valP_ok (ld3 (hS.cell 1 rfl rfl)) ?_ | refine valP_ok (ld3 (hS.cell 2 rfl rfl)) ?_ | refine valP_ok (ld3 (hS.cell 3 rfl rfl)) ?_ | refine valP_ok (ld3 (hS.cell 4 rfl rfl)) ?_ | refine valP_ok (ld3 (hS.cell 5 rfl rfl)) ?_ | refine valP_ok (ld3 (hS.cell 6 rfl rfl)) ?_ | refine valP_ok (ld3 (hS.cell 7 rfl rfl)) ?_ | refine valP_ok (ld3 (by assumption)) ?_
  refine valP_ok (eq3 _ _ _ _ _) ?_
  unfold m41_10
  refine cond_split (fun h => ?_) (fun h => ?_)
  · first | refine valP_ok (fa58_2 _ _) ?_ | refine valP_ok (fao58_2 _ _ _) ?_
    first | refine store_at 0 st3 hS rfl (by simp) rfl ?_ | refine store_at 1 st3 hS rfl (by simp) rfl ?_ | refine store_at 2 st3 hS rfl (by simp) rfl ?_ | refine store_at 3 st3 hS rfl (by simp) rfl ?_ | refine store_at 4 st3 hS rfl (by simp) rfl ?_ | refine store_at 5 st3 hS rfl (by simp) rfl ?_ | refine store_at 6 st3 hS rfl (by simp) rfl ?_ | refine store_at 7 st3 hS rfl (by simp) rfl ?_
    intro w hS
    simp only [List.set_cons_zero, List.set_cons_succ] at hS
    first | refine valP_ok (fa58_3 _ _) ?_ | refine valP_ok (fao58_3 _ _ _) ?_
    first | refine store_at 0 st3 hS rfl (by simp) rfl ?_ | refine store_at 1 st3 hS rfl (by simp) rfl ?_ | refine store_at 2 st3 hS rfl (by simp) rfl ?_ | refine store_at 3 st3 hS rfl (by simp) rfl ?_ | refine store_at 4 st3 hS rfl (by simp) rfl ?_ | refine store_at 5 st3 hS rfl (by simp) rfl ?_ | refine store_at 6 st3 hS rfl (by simp) rfl ?_ | refine store_at 7 st3 hS rfl (by simp) rfl ?_
    intro w hS
    simp only [List.set_cons_zero, List.set_cons_succ] at hS
    have e : addAg ⟨x0, x1, x2, x3, x4, x5, x6, x7, x8, x9⟩ v = ⟨plusI x0 1, plusI x1 v, min v v, max v v, hitI x4 (srtI v) 0, hitI x5 (srtI v) 1, hitI x6 (srtI v) 2, hitI x7 (srtI v) 3, reI x8 v, imI x9 v⟩ := by
      unfold addAg
      simp only [if_pos h, reI, imI]
      congr 1 <;> omega
    rw [e]
    exact t41_2 hv h0 h1 h4 h5 h6 h7 h8 h9 hS
  · have e : addAg ⟨x0, x1, x2, x3, x4, x5, x6, x7, x8, x9⟩ v = ⟨plusI x0 1, plusI x1 v, min x2 v, max x3 v, hitI x4 (srtI v) 0, hitI x5 (srtI v) 1, hitI x6 (srtI v) 2, hitI x7 (srtI v) 3, reI x8 v, imI x9 v⟩ := by
      unfold addAg
      simp only [if_neg h, reI, imI]
    rw [e]
    exact t41_2 hv h0 h1 h4 h5 h6 h7 h8 h9 hS
end

end Go.Proofs.Ytojgdmcojmllkaa.M
