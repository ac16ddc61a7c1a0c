/- The document's Add. -/
import Derived.Test.YtojgdmcojmllkaaS29
import Derived.Test.YtojgdmcojmllkaaMres0
namespace Go.Proofs.Ytojgdmcojmllkaa.M
open Go.Proofs.Ytojgdmcojmllkaa.F Go.RowKit
set_option linter.unusedVariables false
set_option linter.unusedSimpArgs false
set_option maxRecDepth 100000
set_option maxHeartbeats 2000000
attribute [local irreducible] Res.cells Res.row Res.map Res.any World.cell? World.frozen? Instr.fieldAt Instr.loadAt Instr.storeAt Instr.indexAt Instr.lookup Instr.mapUpdate Instr.box Instr.build Instr.buildSlice Instr.extract Instr.alloc Instr.field Instr.index Instr.sliceAt Instr.makeSlice Instr.makeMap Instr.makeFunc binS Op.unary Sem.run
section
variable {w0 w : World} {F : List Nat} {L : List Res} {b2 b4 b5 : Nat} {v x0 x1 x2 x3 x4 x5 x6 x7 x8 x9 y0 y1 y2 y3 y4 y5 y6 y7 y8 y9 : Int} {z : Ag}
theorem t42_13 (hS : St w0 F w (Res.cells b5 58 (encA ⟨y0, y1, y2, y3, y4, y5, y6, y7, y8, y9⟩) :: Res.cells b4 58 (encA zA) :: Res.cells b2 58 (encA ⟨x0, x1, x2, x3, x4, x5, x6, x7, x8, x9⟩) :: L)) : m42_13 (fun u w' => u = agv ⟨y0, y1, y2, y3, y4, y5, y6, y7, y8, y9⟩ ∧ St w0 F w' L) (pt b4) (pt b5) w := by
  unfold m42_13
  first | refine ls58 0 hS rfl ?_ | refine ls58 1 hS rfl ?_ | refine ls58 2 hS rfl ?_ | refine ls58 3 hS rfl ?_ | refine ls58 4 hS rfl ?_ | refine ls58 5 hS rfl ?_ | refine ls58 6 hS rfl ?_ | refine ls58 7 hS rfl ?_ | refine valP_ok (ld58 (by assumption) (by assumption) (by assumption) (by assumption) (by assumption) (by assumption) (by assumption) (by assumption) (by assumption) (by assumption)) ?_
  first | refine ss58 0 hS rfl rfl rfl rfl rfl rfl rfl rfl rfl rfl rfl ?_ | refine ss58 1 hS rfl rfl rfl rfl rfl rfl rfl rfl rfl rfl rfl ?_ | refine ss58 2 hS rfl rfl rfl rfl rfl rfl rfl rfl rfl rfl rfl ?_ | refine ss58 3 hS rfl rfl rfl rfl rfl rfl rfl rfl rfl rfl rfl ?_ | refine ss58 4 hS rfl rfl rfl rfl rfl rfl rfl rfl rfl rfl rfl ?_ | refine ss58 5 hS rfl rfl rfl rfl rfl rfl rfl rfl rfl rfl rfl ?_ | refine ss58 6 hS rfl rfl rfl rfl rfl rfl rfl rfl rfl rfl rfl ?_ | refine ss58 7 hS rfl rfl rfl rfl rfl rfl rfl rfl rfl rfl rfl ?_
  intro w hS
  simp only [List.set_cons_zero, List.set_cons_succ] at hS
  unfold m42_14
  refine valS_ok (lc58 (hS.cell 1 rfl rfl) (hS.cell 1 rfl rfl) (hS.cell 1 rfl rfl) (hS.cell 1 rfl rfl) (hS.cell 1 rfl rfl) (hS.cell 1 rfl rfl) (hS.cell 1 rfl rfl) (hS.cell 1 rfl rfl) (hS.cell 1 rfl rfl) (hS.cell 1 rfl rfl)) ?_
  exact ⟨rfl, hS.tail.tail.tail⟩
theorem t42_9 (h8 : I64 x8) (h9 : I64 x9) (hS : St w0 F w (Res.cells b5 58 (encA ⟨y0, y1, y2, y3, y4, y5, y6, y7, x8, x9⟩) :: Res.cells b4 58 (encA zA) :: Res.cells b2 58 (encA ⟨x0, x1, x2, x3, x4, x5, x6, x7, x8, x9⟩) :: L)) : m42_9 (fun u w' => u = agv ⟨y0, y1, y2, y3, y4, y5, y6, y7, reI x8 v, imI x9 v⟩ ∧ St w0 F w' L) (pt b2) (pt b4) (pt b5) (.int .i64 (v % 4)) w := by
  unfold m42_9
  refine valP_ok (eq3 _ _ _ _ _) ?_
  unfold m42_18
  refine cond_split (fun h => ?_) (fun h => ?_)
  · first | refine valP_ok (fa58_5 _ _) ?_ | refine valP_ok (fao58_5 _ _ _) ?_
    first | refine valP_ok (ld3 (hS.cell 0 rfl rfl)) ?_ | refine valP_ok (ld3 (hS.cell 1 rfl rfl)) ?_ | refine valP_ok (ld3 (hS.cell 2 rfl rfl)) ?_ | refine valP_ok (ld3 (hS.cell 3 rfl rfl)) ?_ | refine valP_ok (ld3 (hS.cell 4 rfl rfl)) ?_ | refine valP_ok (ld3 (hS.cell 5 rfl rfl)) ?_ | refine valP_ok (ld3 (hS.cell 6 rfl rfl)) ?_ | refine valP_ok (ld3 (hS.cell 7 rfl rfl)) ?_ | refine valP_ok (ld3 (by assumption)) ?_
    refine callR (by kernel_rfl) (rplus_ret h8 i1 _) ?_
    rintro _ w ⟨rfl, rfl⟩
    first | refine valP_ok (fa58_5 _ _) ?_ | refine valP_ok (fao58_5 _ _ _) ?_
    first | refine store_at 0 st3 hS rfl (by simp) rfl ?_ | refine store_at 1 st3 hS rfl (by simp) rfl ?_ | refine store_at 2 st3 hS rfl (by simp) rfl ?_ | refine store_at 3 st3 hS rfl (by simp) rfl ?_ | refine store_at 4 st3 hS rfl (by simp) rfl ?_ | refine store_at 5 st3 hS rfl (by simp) rfl ?_ | refine store_at 6 st3 hS rfl (by simp) rfl ?_ | refine store_at 7 st3 hS rfl (by simp) rfl ?_
    intro w hS
    simp only [List.set_cons_zero, List.set_cons_succ] at hS
    unfold m42_10
    refine valP_ok (eq3 _ _ _ _ _) ?_
    unfold m42_17
    refine cond_df (by omega) ?_
    unfold m42_11
    refine valP_ok (eq3 _ _ _ _ _) ?_
    unfold m42_16
    refine cond_df (by omega) ?_
    unfold m42_12
    refine valP_ok (eq3 _ _ _ _ _) ?_
    unfold m42_15
    refine cond_df (by omega) ?_
    rw [show imI x9 v = x9 from by unfold imI; rw [if_neg (by omega), if_neg (by omega)], show reI x8 v = plusI x8 1 from if_pos h]
    exact t42_13 hS
  · unfold m42_10
    refine valP_ok (eq3 _ _ _ _ _) ?_
    unfold m42_17
    refine cond_split (fun h1 => ?_) (fun h1 => ?_)
    · first | refine valP_ok (fa58_6 _ _) ?_ | refine valP_ok (fao58_6 _ _ _) ?_
      first | refine valP_ok (ld3 (hS.cell 0 rfl rfl)) ?_ | refine valP_ok (ld3 (hS.cell 1 rfl rfl)) ?_ | refine valP_ok (ld3 (hS.cell 2 rfl rfl)) ?_ | refine valP_ok (ld3 (hS.cell 3 rfl rfl)) ?_ | refine valP_ok (ld3 (hS.cell 4 rfl rfl)) ?_ | refine valP_ok (ld3 (hS.cell 5 rfl rfl)) ?_ | refine valP_ok (ld3 (hS.cell 6 rfl rfl)) ?_ | refine valP_ok (ld3 (hS.cell 7 rfl rfl)) ?_ | refine valP_ok (ld3 (by assumption)) ?_
      refine callR (by kernel_rfl) (rplus_ret h9 i1 _) ?_
      rintro _ w ⟨rfl, rfl⟩
      first | refine valP_ok (fa58_6 _ _) ?_ | refine valP_ok (fao58_6 _ _ _) ?_
      first | refine store_at 0 st3 hS rfl (by simp) rfl ?_ | refine store_at 1 st3 hS rfl (by simp) rfl ?_ | refine store_at 2 st3 hS rfl (by simp) rfl ?_ | refine store_at 3 st3 hS rfl (by simp) rfl ?_ | refine store_at 4 st3 hS rfl (by simp) rfl ?_ | refine store_at 5 st3 hS rfl (by simp) rfl ?_ | refine store_at 6 st3 hS rfl (by simp) rfl ?_ | refine store_at 7 st3 hS rfl (by simp) rfl ?_
      intro w hS
      simp only [List.set_cons_zero, List.set_cons_succ] at hS
      unfold m42_11
      refine valP_ok (eq3 _ _ _ _ _) ?_
      unfold m42_16
      refine cond_df (by omega) ?_
      unfold m42_12
      refine valP_ok (eq3 _ _ _ _ _) ?_
      unfold m42_15
      refine cond_df (by omega) ?_
      rw [show imI x9 v = plusI x9 1 from if_pos h1, show reI x8 v = x8 from by unfold reI; rw [if_neg (by omega), if_neg (by omega)]]
      exact t42_13 hS
    · unfold m42_11
      refine valP_ok (eq3 _ _ _ _ _) ?_
      unfold m42_16
      refine cond_split (fun h2 => ?_) (fun h2 => ?_)
      · first | refine valP_ok (fa58_5 _ _) ?_ | refine valP_ok (fao58_5 _ _ _) ?_
        first | refine valP_ok (ld3 (hS.cell 0 rfl rfl)) ?_ | refine valP_ok (ld3 (hS.cell 1 rfl rfl)) ?_ | refine valP_ok (ld3 (hS.cell 2 rfl rfl)) ?_ | refine valP_ok (ld3 (hS.cell 3 rfl rfl)) ?_ | refine valP_ok (ld3 (hS.cell 4 rfl rfl)) ?_ | refine valP_ok (ld3 (hS.cell 5 rfl rfl)) ?_ | refine valP_ok (ld3 (hS.cell 6 rfl rfl)) ?_ | refine valP_ok (ld3 (hS.cell 7 rfl rfl)) ?_ | refine valP_ok (ld3 (by assumption)) ?_
        refine callR (by kernel_rfl) (rplus_ret h8 in1 _) ?_
        rintro _ w ⟨rfl, rfl⟩
        first | refine valP_ok (fa58_5 _ _) ?_ | refine valP_ok (fao58_5 _ _ _) ?_
        first | refine store_at 0 st3 hS rfl (by simp) rfl ?_ | refine store_at 1 st3 hS rfl (by simp) rfl ?_ | refine store_at 2 st3 hS rfl (by simp) rfl ?_ | refine store_at 3 st3 hS rfl (by simp) rfl ?_ | refine store_at 4 st3 hS rfl (by simp) rfl ?_ | refine store_at 5 st3 hS rfl (by simp) rfl ?_ | refine store_at 6 st3 hS rfl (by simp) rfl ?_ | refine store_at 7 st3 hS rfl (by simp) rfl ?_
        intro w hS
        simp only [List.set_cons_zero, List.set_cons_succ] at hS
        unfold m42_12
        refine valP_ok (eq3 _ _ _ _ _) ?_
        unfold m42_15
        refine cond_df (by omega) ?_
        rw [show imI x9 v = x9 from by unfold imI; rw [if_neg (by omega), if_neg (by omega)], show reI x8 v = plusI x8 (-1) from by unfold reI; rw [if_neg (by omega), if_pos h2]]
        exact t42_13 hS
      · unfold m42_12
        refine valP_ok (eq3 _ _ _ _ _) ?_
        unfold m42_15
        refine cond_dt (by omega) ?_
        first | refine valP_ok (fa58_6 _ _) ?_ | refine valP_ok (fao58_6 _ _ _) ?_
        first | refine valP_ok (ld3 (hS.cell 0 rfl rfl)) ?_ | refine valP_ok (ld3 (hS.cell 1 rfl rfl)) ?_ | refine valP_ok (ld3 (hS.cell 2 rfl rfl)) ?_ | refine valP_ok (ld3 (hS.cell 3 rfl rfl)) ?_ | refine valP_ok (ld3 (hS.cell 4 rfl rfl)) ?_ | refine valP_ok (ld3 (hS.cell 5 rfl rfl)) ?_ | refine valP_ok (ld3 (hS.cell 6 rfl rfl)) ?_ | refine valP_ok (ld3 (hS.cell 7 rfl rfl)) ?_ | refine valP_ok (ld3 (by assumption)) ?_
        refine callR (by kernel_rfl) (rplus_ret h9 in1 _) ?_
        rintro _ w ⟨rfl, rfl⟩
        first | refine valP_ok (fa58_6 _ _) ?_ | refine valP_ok (fao58_6 _ _ _) ?_
        first | refine store_at 0 st3 hS rfl (by simp) rfl ?_ | refine store_at 1 st3 hS rfl (by simp) rfl ?_ | refine store_at 2 st3 hS rfl (by simp) rfl ?_ | refine store_at 3 st3 hS rfl (by simp) rfl ?_ | refine store_at 4 st3 hS rfl (by simp) rfl ?_ | refine store_at 5 st3 hS rfl (by simp) rfl ?_ | refine store_at 6 st3 hS rfl (by simp) rfl ?_ | refine store_at 7 st3 hS rfl (by simp) rfl ?_
        intro w hS
        simp only [List.set_cons_zero, List.set_cons_succ] at hS
        rw [show imI x9 v = plusI x9 (-1) from by unfold imI; rw [if_neg (by omega), if_pos (by omega)], show reI x8 v = x8 from by unfold reI; rw [if_neg (by omega), if_neg (by omega)]]
        exact t42_13 hS
theorem tmod4 {v : Int} (hv : I64 v) : (v.tmod 4 + 4) % 4 = v % 4 := by
  have h1 := Int.tmod_lt_of_pos v (b := 4) (by omega)
  have h2 : -4 < v.tmod 4 := Int.lt_tmod_of_pos v (by omega)
  have h3 := Int.mul_tdiv_add_tmod v 4
  omega
theorem t42_8 (hv : I64 v) (h8 : I64 x8) (h9 : I64 x9) (hS : St w0 F w (Res.cells b5 58 (encA ⟨y0, y1, y2, y3, y4, y5, y6, y7, x8, x9⟩) :: Res.cells b4 58 (encA zA) :: Res.cells b2 58 (encA ⟨x0, x1, x2, x3, x4, x5, x6, x7, x8, x9⟩) :: L)) : m42_8 (fun u w' => u = agv ⟨y0, y1, y2, y3, y4, y5, y6, y7, reI x8 v, imI x9 v⟩ ∧ St w0 F w' L) (.int .i64 v) (pt b2) (pt b4) (pt b5) w := by
  have hv' := hv
  unfold I64 at hv'
  have h1 := Int.tmod_lt_of_pos v (b := 4) (by omega)
  have h2 : -4 < v.tmod 4 := Int.lt_tmod_of_pos v (by omega)
  unfold m42_8
  refine valP_ok (rem_any _ _ _ (by omega) (by omega) (by omega) (by omega) _) ?_
  refine valP_ok (add_ok _ _ _ (by omega) (by omega) _) ?_
  refine valP_ok (rem_ok _ _ _ (by omega) (by omega) (by omega) _) ?_
  rw [tmod4 hv]
  exact t42_9 h8 h9 hS
theorem t42_6 (hv : I64 v) (h4 : I64 x4) (h5 : I64 x5) (h6 : I64 x6) (h7 : I64 x7) (h8 : I64 x8) (h9 : I64 x9) (hS : St w0 F w (Res.cells b5 58 (encA ⟨y0, y1, y2, y3, x4, x5, x6, x7, x8, x9⟩) :: Res.cells b4 58 (encA zA) :: Res.cells b2 58 (encA ⟨x0, x1, x2, x3, x4, x5, x6, x7, x8, x9⟩) :: L)) : m42_6 (fun u w' => u = agv ⟨y0, y1, y2, y3, hitI x4 (srtI v) 0, hitI x5 (srtI v) 1, hitI x6 (srtI v) 2, hitI x7 (srtI v) 3, reI x8 v, imI x9 v⟩ ∧ St w0 F w' L) (.int .i64 v) (pt b2) (pt b4) (pt b5) w := by
  unfold m42_6
  refine callR (by kernel_rfl) (rsort_ret _ _) ?_
  rintro _ w ⟨rfl, rfl⟩
  rcases srt_cases v with h | h | h | h
  · rw [h, hitI_eq, hitI_ne (by omega), hitI_ne (by omega), hitI_ne (by omega)]
    unfold m42_7
    first | refine valP_ok (fa58_4 _ _) ?_ | refine valP_ok (fao58_4 _ _ _) ?_
    refine valP_ok (hx0 _ _) ?_
    first | refine valP_ok (ld3 (hS.cell 0 rfl rfl)) ?_ | refine valP_ok (ld3 (hS.cell 1 rfl rfl)) ?_ | refine valP_ok (ld3 (hS.cell 2 rfl rfl)) ?_ | refine valP_ok (ld3 (hS.cell 3 rfl rfl)) ?_ | refine valP_ok (ld3 (hS.cell 4 rfl rfl)) ?_ | refine valP_ok (ld3 (hS.cell 5 rfl rfl)) ?_ | refine valP_ok (ld3 (hS.cell 6 rfl rfl)) ?_ | refine valP_ok (ld3 (hS.cell 7 rfl rfl)) ?_ | refine valP_ok (ld3 (by assumption)) ?_
    refine callR (by kernel_rfl) (rplus_ret h4 i1 _) ?_
    rintro _ w ⟨rfl, rfl⟩
    first | refine valP_ok (fa58_4 _ _) ?_ | refine valP_ok (fao58_4 _ _ _) ?_
    refine valP_ok (hx0 _ _) ?_
    first | refine store_at 0 st3 hS rfl (by simp) rfl ?_ | refine store_at 1 st3 hS rfl (by simp) rfl ?_ | refine store_at 2 st3 hS rfl (by simp) rfl ?_ | refine store_at 3 st3 hS rfl (by simp) rfl ?_ | refine store_at 4 st3 hS rfl (by simp) rfl ?_ | refine store_at 5 st3 hS rfl (by simp) rfl ?_ | refine store_at 6 st3 hS rfl (by simp) rfl ?_ | refine store_at 7 st3 hS rfl (by simp) rfl ?_
    intro w hS
    simp only [List.set_cons_zero, List.set_cons_succ] at hS
    exact t42_8 hv h8 h9 hS
  · rw [h, hitI_eq, hitI_ne (by omega), hitI_ne (by omega), hitI_ne (by omega)]
    unfold m42_7
    first | refine valP_ok (fa58_4 _ _) ?_ | refine valP_ok (fao58_4 _ _ _) ?_
    refine valP_ok (hx1 _ _) ?_
    first | refine valP_ok (ld3 (hS.cell 0 rfl rfl)) ?_ | refine valP_ok (ld3 (hS.cell 1 rfl rfl)) ?_ | refine valP_ok (ld3 (hS.cell 2 rfl rfl)) ?_ | refine valP_ok (ld3 (hS.cell 3 rfl rfl)) ?_ | refine valP_ok (ld3 (hS.cell 4 rfl rfl)) ?_ | refine valP_ok (ld3 (hS.cell 5 rfl rfl)) ?_ | refine valP_ok (ld3 (hS.cell 6 rfl rfl)) ?_ | refine valP_ok (ld3 (hS.cell 7 rfl rfl)) ?_ | refine valP_ok (ld3 (by assumption)) ?_
    refine callR (by kernel_rfl) (rplus_ret h5 i1 _) ?_
    rintro _ w ⟨rfl, rfl⟩
    first | refine valP_ok (fa58_4 _ _) ?_ | refine valP_ok (fao58_4 _ _ _) ?_
    refine valP_ok (hx1 _ _) ?_
    first | refine store_at 0 st3 hS rfl (by simp) rfl ?_ | refine store_at 1 st3 hS rfl (by simp) rfl ?_ | refine store_at 2 st3 hS rfl (by simp) rfl ?_ | refine store_at 3 st3 hS rfl (by simp) rfl ?_ | refine store_at 4 st3 hS rfl (by simp) rfl ?_ | refine store_at 5 st3 hS rfl (by simp) rfl ?_ | refine store_at 6 st3 hS rfl (by simp) rfl ?_ | refine store_at 7 st3 hS rfl (by simp) rfl ?_
    intro w hS
    simp only [List.set_cons_zero, List.set_cons_succ] at hS
    exact t42_8 hv h8 h9 hS
  · rw [h, hitI_eq, hitI_ne (by omega), hitI_ne (by omega), hitI_ne (by omega)]
    unfold m42_7
    first | refine valP_ok (fa58_4 _ _) ?_ | refine valP_ok (fao58_4 _ _ _) ?_
    refine valP_ok (hx2 _ _) ?_
    first | refine valP_ok (ld3 (hS.cell 0 rfl rfl)) ?_ | refine valP_ok (ld3 (hS.cell 1 rfl rfl)) ?_ | refine valP_ok (ld3 (hS.cell 2 rfl rfl)) ?_ | refine valP_ok (ld3 (hS.cell 3 rfl rfl)) ?_ | refine valP_ok (ld3 (hS.cell 4 rfl rfl)) ?_ | refine valP_ok (ld3 (hS.cell 5 rfl rfl)) ?_ | refine valP_ok (ld3 (hS.cell 6 rfl rfl)) ?_ | refine valP_ok (ld3 (hS.cell 7 rfl rfl)) ?_ | refine valP_ok (ld3 (by assumption)) ?_
    refine callR (by kernel_rfl) (rplus_ret h6 i1 _) ?_
    rintro _ w ⟨rfl, rfl⟩
    first | refine valP_ok (fa58_4 _ _) ?_ | refine valP_ok (fao58_4 _ _ _) ?_
    refine valP_ok (hx2 _ _) ?_
    first | refine store_at 0 st3 hS rfl (by simp) rfl ?_ | refine store_at 1 st3 hS rfl (by simp) rfl ?_ | refine store_at 2 st3 hS rfl (by simp) rfl ?_ | refine store_at 3 st3 hS rfl (by simp) rfl ?_ | refine store_at 4 st3 hS rfl (by simp) rfl ?_ | refine store_at 5 st3 hS rfl (by simp) rfl ?_ | refine store_at 6 st3 hS rfl (by simp) rfl ?_ | refine store_at 7 st3 hS rfl (by simp) rfl ?_
    intro w hS
    simp only [List.set_cons_zero, List.set_cons_succ] at hS
    exact t42_8 hv h8 h9 hS
  · rw [h, hitI_eq, hitI_ne (by omega), hitI_ne (by omega), hitI_ne (by omega)]
    unfold m42_7
    first | refine valP_ok (fa58_4 _ _) ?_ | refine valP_ok (fao58_4 _ _ _) ?_
    refine valP_ok (hx3 _ _) ?_
    first | refine valP_ok (ld3 (hS.cell 0 rfl rfl)) ?_ | refine valP_ok (ld3 (hS.cell 1 rfl rfl)) ?_ | refine valP_ok (ld3 (hS.cell 2 rfl rfl)) ?_ | refine valP_ok (ld3 (hS.cell 3 rfl rfl)) ?_ | refine valP_ok (ld3 (hS.cell 4 rfl rfl)) ?_ | refine valP_ok (ld3 (hS.cell 5 rfl rfl)) ?_ | refine valP_ok (ld3 (hS.cell 6 rfl rfl)) ?_ | refine valP_ok (ld3 (hS.cell 7 rfl rfl)) ?_ | refine valP_ok (ld3 (by assumption)) ?_
    refine callR (by kernel_rfl) (rplus_ret h7 i1 _) ?_
    rintro _ w ⟨rfl, rfl⟩
    first | refine valP_ok (fa58_4 _ _) ?_ | refine valP_ok (fao58_4 _ _ _) ?_
    refine valP_ok (hx3 _ _) ?_
    first | refine store_at 0 st3 hS rfl (by simp) rfl ?_ | refine store_at 1 st3 hS rfl (by simp) rfl ?_ | refine store_at 2 st3 hS rfl (by simp) rfl ?_ | refine store_at 3 st3 hS rfl (by simp) rfl ?_ | refine store_at 4 st3 hS rfl (by simp) rfl ?_ | refine store_at 5 st3 hS rfl (by simp) rfl ?_ | refine store_at 6 st3 hS rfl (by simp) rfl ?_ | refine store_at 7 st3 hS rfl (by simp) rfl ?_
    intro w hS
    simp only [List.set_cons_zero, List.set_cons_succ] at hS
    exact t42_8 hv h8 h9 hS
theorem t42_4 (hv : I64 v) (h0 : I64 x0) (h1 : I64 x1) (h4 : I64 x4) (h5 : I64 x5) (h6 : I64 x6) (h7 : I64 x7) (h8 : I64 x8) (h9 : I64 x9) (hS : St w0 F w (Res.cells b5 58 (encA ⟨x0, x1, y2, y3, x4, x5, x6, x7, x8, x9⟩) :: Res.cells b4 58 (encA zA) :: Res.cells b2 58 (encA ⟨x0, x1, x2, x3, x4, x5, x6, x7, x8, x9⟩) :: L)) : m42_4 (fun u w' => u = agv ⟨plusI x0 1, plusI x1 v, y2, y3, hitI x4 (srtI v) 0, hitI x5 (srtI v) 1, hitI x6 (srtI v) 2, hitI x7 (srtI v) 3, reI x8 v, imI x9 v⟩ ∧ St w0 F w' L) (.int .i64 v) (pt b2) (pt b4) (pt b5) w := by
  unfold m42_4
  first | refine valP_ok (fa58_0 _ _) ?_ | refine valP_ok (fao58_0 _ _ _) ?_
  first | refine valP_ok (ld3 (hS.cell 0 rfl rfl)) ?_ | refine valP_ok (ld3 (hS.cell 1 rfl rfl)) ?_ | refine valP_ok (ld3 (hS.cell 2 rfl rfl)) ?_ | refine valP_ok (ld3 (hS.cell 3 rfl rfl)) ?_ | refine valP_ok (ld3 (hS.cell 4 rfl rfl)) ?_ | refine valP_ok (ld3 (hS.cell 5 rfl rfl)) ?_ | refine valP_ok (ld3 (hS.cell 6 rfl rfl)) ?_ | refine valP_ok (ld3 (hS.cell 7 rfl rfl)) ?_ | refine valP_ok (ld3 (by assumption)) ?_
  refine callR (by kernel_rfl) (rplus_ret h0 i1 _) ?_
  rintro _ w ⟨rfl, rfl⟩
  first | refine valP_ok (fa58_0 _ _) ?_ | refine valP_ok (fao58_0 _ _ _) ?_
  first | refine store_at 0 st3 hS rfl (by simp) rfl ?_ | refine store_at 1 st3 hS rfl (by simp) rfl ?_ | refine store_at 2 st3 hS rfl (by simp) rfl ?_ | refine store_at 3 st3 hS rfl (by simp) rfl ?_ | refine store_at 4 st3 hS rfl (by simp) rfl ?_ | refine store_at 5 st3 hS rfl (by simp) rfl ?_ | refine store_at 6 st3 hS rfl (by simp) rfl ?_ | refine store_at 7 st3 hS rfl (by simp) rfl ?_
  intro w hS
  simp only [List.set_cons_zero, List.set_cons_succ] at hS
  unfold m42_5
  first | refine valP_ok (fa58_1 _ _) ?_ | refine valP_ok (fao58_1 _ _ _) ?_
  first | refine valP_ok (ld3 (hS.cell 0 rfl rfl)) ?_ | refine valP_ok (ld3 (hS.cell 1 rfl rfl)) ?_ | refine valP_ok (ld3 (hS.cell 2 rfl rfl)) ?_ | refine valP_ok (ld3 (hS.cell 3 rfl rfl)) ?_ | refine valP_ok (ld3 (hS.cell 4 rfl rfl)) ?_ | refine valP_ok (ld3 (hS.cell 5 rfl rfl)) ?_ | refine valP_ok (ld3 (hS.cell 6 rfl rfl)) ?_ | refine valP_ok (ld3 (hS.cell 7 rfl rfl)) ?_ | refine valP_ok (ld3 (by assumption)) ?_
  refine callR (by kernel_rfl) (rplus_ret h1 hv _) ?_
  rintro _ w ⟨rfl, rfl⟩
  first | refine valP_ok (fa58_1 _ _) ?_ | refine valP_ok (fao58_1 _ _ _) ?_
  first | refine store_at 0 st3 hS rfl (by simp) rfl ?_ | refine store_at 1 st3 hS rfl (by simp) rfl ?_ | refine store_at 2 st3 hS rfl (by simp) rfl ?_ | refine store_at 3 st3 hS rfl (by simp) rfl ?_ | refine store_at 4 st3 hS rfl (by simp) rfl ?_ | refine store_at 5 st3 hS rfl (by simp) rfl ?_ | refine store_at 6 st3 hS rfl (by simp) rfl ?_ | refine store_at 7 st3 hS rfl (by simp) rfl ?_
  intro w hS
  simp only [List.set_cons_zero, List.set_cons_succ] at hS
  exact t42_6 hv h4 h5 h6 h7 h8 h9 hS
def mnI (c m v : Int) : Int := if c = 0 then v else min m v
def mxI (c m v : Int) : Int := if c = 0 then v else max m v
theorem t42_3 (hv : I64 v) (h0 : I64 x0) (h1 : I64 x1) (h4 : I64 x4) (h5 : I64 x5) (h6 : I64 x6) (h7 : I64 x7) (h8 : I64 x8) (h9 : I64 x9) (hS : St w0 F w (Res.cells b5 58 (encA ⟨x0, x1, y2, x3, x4, x5, x6, x7, x8, x9⟩) :: Res.cells b4 58 (encA zA) :: Res.cells b2 58 (encA ⟨x0, x1, x2, x3, x4, x5, x6, x7, x8, x9⟩) :: L)) : m42_3 (fun u w' => u = agv ⟨plusI x0 1, plusI x1 v, y2, mxI x0 x3 v, hitI x4 (srtI v) 0, hitI x5 (srtI v) 1, hitI x6 (srtI v) 2, hitI x7 (srtI v) 3, reI x8 v, imI x9 v⟩ ∧ St w0 F w' L) (.int .i64 v) (pt b2) (pt b4) (pt b5) w := by
  have leaf : ∀ t : Bool, (t = true ↔ (x0 = 0 ∨ x3 < v)) → m42_19 (fun u w' => u = agv ⟨plusI x0 1, plusI x1 v, y2, mxI x0 x3 v, hitI x4 (srtI v) 0, hitI x5 (srtI v) 1, hitI x6 (srtI v) 2, hitI x7 (srtI v) 3, reI x8 v, imI x9 v⟩ ∧ St w0 F w' L) (.int .i64 v) (pt b2) (pt b4) (pt b5) (.bool t) w := fun t ht => by
    unfold m42_19
    cases t with
    | true =>
      refine cond_t rfl ?_
      first | refine valP_ok (fa58_3 _ _) ?_ | refine valP_ok (fao58_3 _ _ _) ?_
      first | refine store_at 0 st3 hS rfl (by simp) rfl ?_ | refine store_at 1 st3 hS rfl (by simp) rfl ?_ | refine store_at 2 st3 hS rfl (by simp) rfl ?_ | refine store_at 3 st3 hS rfl (by simp) rfl ?_ | refine store_at 4 st3 hS rfl (by simp) rfl ?_ | refine store_at 5 st3 hS rfl (by simp) rfl ?_ | refine store_at 6 st3 hS rfl (by simp) rfl ?_ | refine store_at 7 st3 hS rfl (by simp) rfl ?_
      intro w hS
      simp only [List.set_cons_zero, List.set_cons_succ] at hS
      rw [show mxI x0 x3 v = v from by have := ht.1 rfl; unfold mxI; split <;> omega]
      exact t42_4 hv h0 h1 h4 h5 h6 h7 h8 h9 hS
    | false =>
      have hn : ¬ (x0 = 0 ∨ x3 < v) := fun h => by have := ht.2 h; cases this
      refine cond_f rfl ?_
      rw [show mxI x0 x3 v = x3 from by unfold mxI; split <;> omega]
      exact t42_4 hv h0 h1 h4 h5 h6 h7 h8 h9 hS
  unfold m42_3
  first | refine valP_ok (fa58_0 _ _) ?_ | refine valP_ok (fao58_0 _ _ _) ?_
  first | refine valP_ok (ld3 (hS.cell 0 rfl rfl)) ?_ | refine valP_ok (ld3 (hS.cell 1 rfl rfl)) ?_ | refine valP_ok (ld3 (hS.cell 2 rfl rfl)) ?_ | refine valP_ok (ld3 (hS.cell 3 rfl rfl)) ?_ | refine valP_ok (ld3 (hS.cell 4 rfl rfl)) ?_ | refine valP_ok (ld3 (hS.cell 5 rfl rfl)) ?_ | refine valP_ok (ld3 (hS.cell 6 rfl rfl)) ?_ | refine valP_ok (ld3 (hS.cell 7 rfl rfl)) ?_ | refine valP_ok (ld3 (by assumption)) ?_
  refine valP_ok (eq3 _ _ _ _ _) ?_
  refine cond_split (fun h => ?_) (fun h => ?_)
  · have h : x0 = 0 := h
    first | refine pick_dt (by first | assumption | omega) ?_ | refine pick_df (by first | assumption | omega) ?_ | refine pick_t (by first | rfl | assumption) ?_ | refine pick_f (by first | rfl | assumption) ?_ | refine pick_dt rfl ?_ | refine pick_df (not_not_intro rfl) ?_
    exact leaf _ (by first | (simp [h]; done) | (simp only [decide_eq_true_eq]; omega))
  · have h : ¬ x0 = 0 := h
    first | refine valP_ok (fa58_3 _ _) ?_ | refine valP_ok (fao58_3 _ _ _) ?_
    first | refine valP_ok (ld3 (hS.cell 0 rfl rfl)) ?_ | refine valP_ok (ld3 (hS.cell 1 rfl rfl)) ?_ | refine valP_ok (ld3 (hS.cell 2 rfl rfl)) ?_ | refine valP_ok (ld3 (hS.cell 3 rfl rfl)) ?_ | refine valP_ok (ld3 (hS.cell 4 rfl rfl)) ?_ | refine valP_ok (ld3 (hS.cell 5 rfl rfl)) ?_ | refine valP_ok (ld3 (hS.cell 6 rfl rfl)) ?_ | refine valP_ok (ld3 (hS.cell 7 rfl rfl)) ?_ | refine valP_ok (ld3 (by assumption)) ?_
    refine valP_ok (gtr_ok _ _ _ _ _ _ _) ?_
    first | refine pick_dt (by first | assumption | omega) ?_ | refine pick_df (by first | assumption | omega) ?_ | refine pick_t (by first | rfl | assumption) ?_ | refine pick_f (by first | rfl | assumption) ?_ | refine pick_dt rfl ?_ | refine pick_df (not_not_intro rfl) ?_
    exact leaf _ (by first | (simp [h]; done) | (simp only [decide_eq_true_eq]; omega))
theorem fradd_ret {a : Ag} (ha : AgOk a) (hv : I64 v) (hS : St w0 F w L) : Ret Try.prog 42 #[agv a, .int .i64 v] w fun u w' => u = agv (addAg a v) ∧ St w0 F w' L := by
  obtain ⟨x0, x1, x2, x3, x4, x5, x6, x7, x8, x9⟩ := a
  obtain ⟨h0, h1, h2, h3, h4, h5, h6, h7, h8, h9⟩ := ha
  simp only at h0 h1 h2 h3 h4 h5 h6 h7 h8 h9
  refine s42 _ _ ?_
  unfold m42
  unfold m42_0
  refine new_ok (bx58 _ _ _ _ _ _ _ _ _ _ _) hS ?_
  intro b2 w hS
  refine new_ok (al58 _) hS ?_
  intro b4 w hS
  unfold m42_1
  first | refine ls58 0 hS rfl ?_ | refine ls58 1 hS rfl ?_ | refine ls58 2 hS rfl ?_ | refine ls58 3 hS rfl ?_ | refine ls58 4 hS rfl ?_ | refine ls58 5 hS rfl ?_ | refine ls58 6 hS rfl ?_ | refine ls58 7 hS rfl ?_ | refine valP_ok (ld58 (by assumption) (by assumption) (by assumption) (by assumption) (by assumption) (by assumption) (by assumption) (by assumption) (by assumption) (by assumption)) ?_
  refine new_ok (al58 _) hS ?_
  intro b5 w hS
  first | refine ss58 0 hS rfl rfl rfl rfl rfl rfl rfl rfl rfl rfl rfl ?_ | refine ss58 1 hS rfl rfl rfl rfl rfl rfl rfl rfl rfl rfl rfl ?_ | refine ss58 2 hS rfl rfl rfl rfl rfl rfl rfl rfl rfl rfl rfl ?_ | refine ss58 3 hS rfl rfl rfl rfl rfl rfl rfl rfl rfl rfl rfl ?_ | refine ss58 4 hS rfl rfl rfl rfl rfl rfl rfl rfl rfl rfl rfl ?_ | refine ss58 5 hS rfl rfl rfl rfl rfl rfl rfl rfl rfl rfl rfl ?_ | refine ss58 6 hS rfl rfl rfl rfl rfl rfl rfl rfl rfl rfl rfl ?_ | refine ss58 7 hS rfl rfl rfl rfl rfl rfl rfl rfl rfl rfl rfl ?_
  intro w hS
  simp only [List.set_cons_zero, List.set_cons_succ] at hS
  have e : addAg ⟨x0, x1, x2, x3, x4, x5, x6, x7, x8, x9⟩ v = ⟨plusI x0 1, plusI x1 v, mnI x0 x2 v, mxI x0 x3 v, hitI x4 (srtI v) 0, hitI x5 (srtI v) 1, hitI x6 (srtI v) 2, hitI x7 (srtI v) 3, reI x8 v, imI x9 v⟩ := rfl
  rw [e]
  have leaf : ∀ t : Bool, (t = true ↔ (x0 = 0 ∨ v < x2)) → m42_20 (fun u w' => u = agv ⟨plusI x0 1, plusI x1 v, mnI x0 x2 v, mxI x0 x3 v, hitI x4 (srtI v) 0, hitI x5 (srtI v) 1, hitI x6 (srtI v) 2, hitI x7 (srtI v) 3, reI x8 v, imI x9 v⟩ ∧ St w0 F w' L) (.int .i64 v) (pt b2) (pt b4) (pt b5) (.bool t) w := fun t ht => by
    unfold m42_20
    cases t with
    | true =>
      refine cond_t rfl ?_
      first | refine valP_ok (fa58_2 _ _) ?_ | refine valP_ok (fao58_2 _ _ _) ?_
      first | refine store_at 0 st3 hS rfl (by simp) rfl ?_ | refine store_at 1 st3 hS rfl (by simp) rfl ?_ | refine store_at 2 st3 hS rfl (by simp) rfl ?_ | refine store_at 3 st3 hS rfl (by simp) rfl ?_ | refine store_at 4 st3 hS rfl (by simp) rfl ?_ | refine store_at 5 st3 hS rfl (by simp) rfl ?_ | refine store_at 6 st3 hS rfl (by simp) rfl ?_ | refine store_at 7 st3 hS rfl (by simp) rfl ?_
      intro w hS
      simp only [List.set_cons_zero, List.set_cons_succ] at hS
      rw [show mnI x0 x2 v = v from by have := ht.1 rfl; unfold mnI; split <;> omega]
      exact t42_3 hv h0 h1 h4 h5 h6 h7 h8 h9 hS
    | false =>
      have hn : ¬ (x0 = 0 ∨ v < x2) := fun h => by have := ht.2 h; cases this
      refine cond_f rfl ?_
      rw [show mnI x0 x2 v = x2 from by unfold mnI; split <;> omega]
      exact t42_3 hv h0 h1 h4 h5 h6 h7 h8 h9 hS
  unfold m42_2
  first | refine valP_ok (fa58_0 _ _) ?_ | refine valP_ok (fao58_0 _ _ _) ?_
  first | refine valP_ok (ld3 (hS.cell 0 rfl rfl)) ?_ | refine valP_ok (ld3 (hS.cell 1 rfl rfl)) ?_ | refine valP_ok (ld3 (hS.cell 2 rfl rfl)) ?_ | refine valP_ok (ld3 (hS.cell 3 rfl rfl)) ?_ | refine valP_ok (ld3 (hS.cell 4 rfl rfl)) ?_ | refine valP_ok (ld3 (hS.cell 5 rfl rfl)) ?_ | refine valP_ok (ld3 (hS.cell 6 rfl rfl)) ?_ | refine valP_ok (ld3 (hS.cell 7 rfl rfl)) ?_ | refine valP_ok (ld3 (by assumption)) ?_
  refine valP_ok (eq3 _ _ _ _ _) ?_
  refine cond_split (fun h => ?_) (fun h => ?_)
  · have h : x0 = 0 := h
    first | refine pick_dt (by first | assumption | omega) ?_ | refine pick_df (by first | assumption | omega) ?_ | refine pick_t (by first | rfl | assumption) ?_ | refine pick_f (by first | rfl | assumption) ?_ | refine pick_dt rfl ?_ | refine pick_df (not_not_intro rfl) ?_
    exact leaf _ (by first | (simp [h]; done) | (simp only [decide_eq_true_eq]; omega))
  · have h : ¬ x0 = 0 := h
    first | refine valP_ok (fa58_2 _ _) ?_ | refine valP_ok (fao58_2 _ _ _) ?_
    first | refine valP_ok (ld3 (hS.cell 0 rfl rfl)) ?_ | refine valP_ok (ld3 (hS.cell 1 rfl rfl)) ?_ | refine valP_ok (ld3 (hS.cell 2 rfl rfl)) ?_ | refine valP_ok (ld3 (hS.cell 3 rfl rfl)) ?_ | refine valP_ok (ld3 (hS.cell 4 rfl rfl)) ?_ | refine valP_ok (ld3 (hS.cell 5 rfl rfl)) ?_ | refine valP_ok (ld3 (hS.cell 6 rfl rfl)) ?_ | refine valP_ok (ld3 (hS.cell 7 rfl rfl)) ?_ | refine valP_ok (ld3 (by assumption)) ?_
    refine valP_ok (lss_ok _ _ _ _ _ _ _) ?_
    first | refine pick_dt (by first | assumption | omega) ?_ | refine pick_df (by first | assumption | omega) ?_ | refine pick_t (by first | rfl | assumption) ?_ | refine pick_f (by first | rfl | assumption) ?_ | refine pick_dt rfl ?_ | refine pick_df (not_not_intro rfl) ?_
    exact leaf _ (by first | (simp [h]; done) | (simp only [decide_eq_true_eq]; omega))
end

end Go.Proofs.Ytojgdmcojmllkaa.M
