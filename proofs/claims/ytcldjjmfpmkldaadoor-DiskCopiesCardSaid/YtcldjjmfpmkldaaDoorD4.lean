/- Append. -/
import Derived.Test.YtcldjjmfpmkldaaDoorD3
import Derived.Test.YtcldjjmfpmkldaaDoorFwW
import Derived.Test.YtcldjjmfpmkldaaDoorFwB
import Derived.Test.YtcldjjmfpmkldaaDoorFwM
import Derived.Test.YtcldjjmfpmkldaaDoorMtrim0
import Derived.Test.YtcldjjmfpmkldaaDoorMdisk0
import Derived.Test.YtcldjjmfpmkldaaDoorMmore0
namespace Go.Proofs.YtcldjjmfpmkldaaDoor.M
open Go.Proofs.YtcldjjmfpmkldaaDoor.F Go.RowKit
set_option linter.unusedVariables false
set_option linter.unusedSimpArgs false
set_option maxRecDepth 100000
set_option maxHeartbeats 2000000
attribute [local irreducible] Res.cells Res.row Res.map Res.any World.cell? World.frozen? Instr.fieldAt Instr.loadAt Instr.storeAt Instr.indexAt Instr.lookup Instr.mapUpdate Instr.box Instr.build Instr.buildSlice Instr.extract Instr.alloc Instr.field Instr.index Instr.sliceAt Instr.makeSlice Instr.makeMap Instr.makeFunc binS Op.unary Sem.run
def burnC (D : Dk) : Dk × Int := (burnt D, if D.fuse = 0 then 4 else 0)
/-- bytes are put behind a file. -/
def appD (D : Dk) (s t : ByteArray) : Dk × Int :=
  if readyC [s] D.off = 0 then
    match getF D.L s with
    | some f => if D.room < (blk (f.sz + t.size) : Int) - blk f.sz then (D, 5) else burnC ⟨updF D.L ⟨s, f.sure, f.loose ++ t⟩, D.room - ((blk (f.sz + t.size) : Int) - blk f.sz), D.fuse, D.off⟩
    | none => if D.room < (blk t.size : Int) ∨ 256 ≤ D.L.length then (D, 5) else burnC ⟨insF ⟨s, ⟨#[]⟩, t⟩ D.L, D.room - blk t.size, D.fuse, D.off⟩
  else (D, readyC [s] D.off)
theorem burnt_eq (D : Dk) : burnt D = ⟨D.L, D.room, if 0 < D.fuse then D.fuse - 1 else D.fuse, if D.fuse = 0 then true else D.off⟩ := by
  unfold burnt
  by_cases h : D.fuse = 0
  · rw [if_pos h, if_pos h, if_neg (by omega)]
  · rw [if_neg h, if_neg h]
    by_cases h1 : 0 < D.fuse
    · rw [if_pos h1, if_pos h1]
    · rw [if_neg h1, if_neg h1]
theorem empty_add (a : ByteArray) : ⟨#[]⟩ ++ a = a := by
  apply ByteArray.ext
  rw [ByteArray.data_append]
  simp
theorem ready_size {s : ByteArray} {o : Bool} (h : readyC [s] o = 0) : s.size ≤ 24 ∧ Named s ∧ o = false := by
  unfold readyC at h
  split at h
  · rename_i h1
    have h2 := h1 s (.head _)
    refine ⟨h2.2.1, h2, ?_⟩
    cases o with
    | true => simp at h
    | false => rfl
  · omega
section
variable {w0 w : World} {F : List Nat} {L : List Res} {b : Nat} {D : Dk} {size : Nat} {s t : ByteArray}
theorem zero63 (w : World) : (zeroValue 63).run Tryd.prog w = .ok (.pointer none) w := by simp [go_sem]
/-- the fuse is burnt, behind all. -/
theorem app_end {mb : Nat} {X : List (Fl × Nat)} {r : Int} (hf : -9223372036854775808 ≤ D.fuse ∧ D.fuse ≤ 9223372036854775807) (hX : X.map Prod.fst = D.L) (hr : r = D.room) (hS : St w0 F w (dCell b (.map (some mb)) r D.fuse D.off :: mapD mb X :: (X.map fileR ++ L))) : m12_9 (fun v w' => v = .int .i64 (burnC D).2 ∧ Dsk w0 F L b (burnC D).1 w') (ptr b) w := by
  subst hr
  unfold m12_9
  refine callR (by kernel_rfl) (burn_ret hf hS) ?_
  rintro _ w ⟨rfl, hS⟩
  first | refine valP_ok (not_ok _ _) ?_ | refine valP_ok (notb_ok _ _) ?_
  unfold m12_12 burnC
  rw [burnt_eq]
  refine cond_split (fun h => ?_) (fun h => ?_)
  · unfold m12_13
    have h0 := Classical.not_not.1 h
    refine ⟨by simp only [if_pos h0], mb, X, hX, ?_⟩
    simp only [if_pos h0] at hS ⊢
    exact hS
  · unfold m12_10 m12_11
    have h0 : ¬ D.fuse = 0 := fun h1 => h (not_not_intro h1)
    refine ⟨by simp only [if_neg h0], mb, X, hX, ?_⟩
    simp only [if_neg h0] at hS ⊢
    exact hS
theorem append_ret (hO : Ok size D) (ht : t.size ≤ 1000000000) (hD : Dsk w0 F L b D w) : Ret Tryd.prog 12 #[ptr b, .string s, .string t] w fun v w' => v = .int .i64 (appD D s t).2 ∧ Dsk w0 F L b (appD D s t).1 w' := by
  obtain ⟨mb, X, hX, hS⟩ := hD
  have hU : UpL (X.map Prod.fst) := hX ▸ hO.up
  have hfu : -9223372036854775808 ≤ D.fuse ∧ D.fuse ≤ 9223372036854775807 := by have := hO.fuse; omega
  have hroom := hO.room
  have hsize := hO.size
  have hsum := hO.sum
  refine s12 _ _ _ ?_
  unfold m12
  unfold m12_0
  unfold m12_1
  refine newslice_ok (bs22_1 rfl _) hS ?_
  intro b12 w hS
  refine callR (by kernel_rfl) (ready_ret (xs := [s]) 1 rfl (by simp) (Bes.of_cells 0 rfl rfl) hS) ?_
  rintro _ w ⟨rfl, hS⟩
  have hS := hS.tail
  unfold m12_19
  refine valP_ok (ne24 _ _ _ _ _) ?_
  unfold m12_20 appD
  refine cond_split (fun h => ?_) (fun h => ?_)
  · unfold m12_21
    rw [if_neg h]
    exact ⟨rfl, mb, X, hX, hS⟩
  rw [if_pos (Classical.not_not.1 h)]
  obtain ⟨hs24, hnm, ho⟩ := ready_size (Classical.not_not.1 h)
  unfold m12_2
  refine nil_ok ?_
  first | refine valP_ok (fa61_0 _ _) ?_ | refine valP_ok (fao61_0 _ _ _) ?_
  first | refine valP_ok (ld59 (hS.cell 0 rfl rfl)) ?_ | refine valP_ok (ld59 (hS.cell 1 rfl rfl)) ?_ | refine valP_ok (ld59 (hS.cell 2 rfl rfl)) ?_ | refine valP_ok (ld59 (hS.cell 3 rfl rfl)) ?_ | refine valP_ok (ld59 (hS.cell 4 rfl rfl)) ?_ | refine valP_ok (ld59 (hS.cell 5 rfl rfl)) ?_ | refine valP_ok (ld59 (hS.cell 6 rfl rfl)) ?_ | refine valP_ok (ld59 (hS.cell 7 rfl rfl)) ?_ | refine valP_ok (ld59 (by assumption)) ?_
  refine valP_ok ((hS.mapT 1 rfl).lookup Tryd.underlying9 Tryd.underlying59 (zero63 _) (by unfold maxLen; omega)) ?_
  unfold m12_3
  refine builtin_ok (len9 _) ?_
  refine callR (by kernel_rfl) (blocks_ret (n := t.size) (by omega) hS) ?_
  rintro _ w ⟨rfl, hS⟩
  rcases look_X hU s with ⟨h1, h2, h3⟩ | ⟨i, hi, h1, h2, h3⟩
  · rw [h1]
    rw [hX] at h2
    rw [h2]
    unfold m12_4
    first | refine valP_ok (ne63n _ _ _) ?_ | refine valP_ok (ne63s _ _ _ _) ?_
    unfold m12_18
    refine cond_f rfl ?_
    unfold m12_5
    refine nil_ok ?_
    first | refine valP_ok (fa61_1 _ _) ?_ | refine valP_ok (fao61_1 _ _ _) ?_
    first | refine valP_ok (ld3 (hS.cell 0 rfl rfl)) ?_ | refine valP_ok (ld3 (hS.cell 1 rfl rfl)) ?_ | refine valP_ok (ld3 (hS.cell 2 rfl rfl)) ?_ | refine valP_ok (ld3 (hS.cell 3 rfl rfl)) ?_ | refine valP_ok (ld3 (hS.cell 4 rfl rfl)) ?_ | refine valP_ok (ld3 (hS.cell 5 rfl rfl)) ?_ | refine valP_ok (ld3 (hS.cell 6 rfl rfl)) ?_ | refine valP_ok (ld3 (hS.cell 7 rfl rfl)) ?_ | refine valP_ok (ld3 (by assumption)) ?_
    refine valP_ok (gtr_ok _ _ _ _ _ _ _) ?_
    have hlen : (X.map nb).length = D.L.length := by rw [← hX, List.length_map, List.length_map]
    have h3f : (X.map nb).filter (fun p => decide (p.1 ≠ s)) = X.map nb := List.filter_eq_self.2 fun p hp => by
      obtain ⟨q, hq, rfl⟩ := List.mem_map.1 hp
      simpa using h3 q hq
    refine cond_split (fun h5 => ?_) (fun h5 => ?_)
    · first | refine pick_dt (by first | assumption | omega) ?_ | refine pick_df (by first | assumption | omega) ?_ | refine pick_t (by first | rfl | assumption) ?_ | refine pick_f (by first | rfl | assumption) ?_ | refine pick_dt rfl ?_ | refine pick_df (not_not_intro rfl) ?_
      unfold m12_16
      refine cond_t rfl ?_
      unfold m12_17
      rw [if_pos (.inl h5)]
      exact ⟨rfl, mb, X, hX, hS⟩
    · first | refine valP_ok (eq63n _ _ _) ?_ | refine valP_ok (eq63s _ _ _ _) ?_
      refine cond_t rfl ?_
      refine nil_ok ?_
      first | refine valP_ok (fa61_0 _ _) ?_ | refine valP_ok (fao61_0 _ _ _) ?_
      first | refine valP_ok (ld59 (hS.cell 0 rfl rfl)) ?_ | refine valP_ok (ld59 (hS.cell 1 rfl rfl)) ?_ | refine valP_ok (ld59 (hS.cell 2 rfl rfl)) ?_ | refine valP_ok (ld59 (hS.cell 3 rfl rfl)) ?_ | refine valP_ok (ld59 (hS.cell 4 rfl rfl)) ?_ | refine valP_ok (ld59 (hS.cell 5 rfl rfl)) ?_ | refine valP_ok (ld59 (hS.cell 6 rfl rfl)) ?_ | refine valP_ok (ld59 (hS.cell 7 rfl rfl)) ?_ | refine valP_ok (ld59 (by assumption)) ?_
      refine lenT_ok 1 hS rfl Tryd.underlying59 ?_
      refine valP_ok (geq_ok _ _ _ _ _ _ _) ?_
      first | refine pick_dt (by first | assumption | omega) ?_ | refine pick_df (by first | assumption | omega) ?_ | refine pick_t (by first | rfl | assumption) ?_ | refine pick_f (by first | rfl | assumption) ?_ | refine pick_dt rfl ?_ | refine pick_df (not_not_intro rfl) ?_
      first | refine pick_dt (by first | assumption | omega) ?_ | refine pick_df (by first | assumption | omega) ?_ | refine pick_t (by first | rfl | assumption) ?_ | refine pick_f (by first | rfl | assumption) ?_ | refine pick_dt rfl ?_ | refine pick_df (not_not_intro rfl) ?_
      unfold m12_16
      refine cond_split (fun h6 => ?_) (fun h6 => ?_)
      · unfold m12_17
        rw [if_pos (.inr (by omega))]
        exact ⟨rfl, mb, X, hX, hS⟩
      · rw [if_neg (show ¬ (D.room < (blk t.size : Int) ∨ 256 ≤ D.L.length) by omega)]
        unfold m12_6
        first | refine valP_ok (eq63n _ _ _) ?_ | refine valP_ok (eq63s _ _ _ _) ?_
        unfold m12_14
        refine cond_t rfl ?_
        refine valP_ok (bd65 _) ?_
        refine new_ok (bx65 _ _ _) hS ?_
        intro b59 w hS
        unfold m12_15
        refine nil_ok ?_
        first | refine valP_ok (fa61_0 _ _) ?_ | refine valP_ok (fao61_0 _ _ _) ?_
        first | refine valP_ok (ld59 (hS.cell 0 rfl rfl)) ?_ | refine valP_ok (ld59 (hS.cell 1 rfl rfl)) ?_ | refine valP_ok (ld59 (hS.cell 2 rfl rfl)) ?_ | refine valP_ok (ld59 (hS.cell 3 rfl rfl)) ?_ | refine valP_ok (ld59 (hS.cell 4 rfl rfl)) ?_ | refine valP_ok (ld59 (hS.cell 5 rfl rfl)) ?_ | refine valP_ok (ld59 (hS.cell 6 rfl rfl)) ?_ | refine valP_ok (ld59 (hS.cell 7 rfl rfl)) ?_ | refine valP_ok (ld59 (by assumption)) ?_
        have hp := insX_perm (⟨s, ⟨#[]⟩, t⟩, b59) X
        refine putT_at 2 ((insX (⟨s, ⟨#[]⟩, t⟩, b59) X).map nb) hS rfl Tryd.underlying9 Tryd.underlying59 (by unfold maxLen; omega) (by unfold maxLen; omega) (by rw [h3f]; exact hp.map nb) ?_
        intro w hS
        simp only [List.set_cons_zero, List.set_cons_succ] at hS
        unfold m12_7
        refine nil_ok ?_
        first | refine valP_ok (fa61_1 _ _) ?_ | refine valP_ok (fao61_1 _ _ _) ?_
        first | refine valP_ok (ld3 (hS.cell 0 rfl rfl)) ?_ | refine valP_ok (ld3 (hS.cell 1 rfl rfl)) ?_ | refine valP_ok (ld3 (hS.cell 2 rfl rfl)) ?_ | refine valP_ok (ld3 (hS.cell 3 rfl rfl)) ?_ | refine valP_ok (ld3 (hS.cell 4 rfl rfl)) ?_ | refine valP_ok (ld3 (hS.cell 5 rfl rfl)) ?_ | refine valP_ok (ld3 (hS.cell 6 rfl rfl)) ?_ | refine valP_ok (ld3 (hS.cell 7 rfl rfl)) ?_ | refine valP_ok (ld3 (by assumption)) ?_
        refine valP_ok (sub_ok _ _ _ (by omega) (by omega) _) ?_
        refine nil_ok ?_
        first | refine valP_ok (fa61_1 _ _) ?_ | refine valP_ok (fao61_1 _ _ _) ?_
        first | refine store_at 0 st3 hS rfl (by simp) rfl ?_ | refine store_at 1 st3 hS rfl (by simp) rfl ?_ | refine store_at 2 st3 hS rfl (by simp) rfl ?_ | refine store_at 3 st3 hS rfl (by simp) rfl ?_ | refine store_at 4 st3 hS rfl (by simp) rfl ?_ | refine store_at 5 st3 hS rfl (by simp) rfl ?_ | refine store_at 6 st3 hS rfl (by simp) rfl ?_ | refine store_at 7 st3 hS rfl (by simp) rfl ?_
        intro w hS
        simp only [List.set_cons_zero, List.set_cons_succ] at hS
        unfold m12_8
        refine nil_ok ?_
        first | refine valP_ok (fa65_1 _ _) ?_ | refine valP_ok (fao65_1 _ _ _) ?_
        first | refine valP_ok (ld9 (hS.cell 0 rfl rfl)) ?_ | refine valP_ok (ld9 (hS.cell 1 rfl rfl)) ?_ | refine valP_ok (ld9 (hS.cell 2 rfl rfl)) ?_ | refine valP_ok (ld9 (hS.cell 3 rfl rfl)) ?_ | refine valP_ok (ld9 (hS.cell 4 rfl rfl)) ?_ | refine valP_ok (ld9 (hS.cell 5 rfl rfl)) ?_ | refine valP_ok (ld9 (hS.cell 6 rfl rfl)) ?_ | refine valP_ok (ld9 (hS.cell 7 rfl rfl)) ?_ | refine valP_ok (ld9 (by assumption)) ?_
        refine valP_ok (sadd _ _ (by have : (⟨#[]⟩ : ByteArray).size = 0 := rfl; omega) _) ?_
        refine nil_ok ?_
        first | refine valP_ok (fa65_1 _ _) ?_ | refine valP_ok (fao65_1 _ _ _) ?_
        first | refine store_at 0 st9 hS rfl (by simp) rfl ?_ | refine store_at 1 st9 hS rfl (by simp) rfl ?_ | refine store_at 2 st9 hS rfl (by simp) rfl ?_ | refine store_at 3 st9 hS rfl (by simp) rfl ?_ | refine store_at 4 st9 hS rfl (by simp) rfl ?_ | refine store_at 5 st9 hS rfl (by simp) rfl ?_ | refine store_at 6 st9 hS rfl (by simp) rfl ?_ | refine store_at 7 st9 hS rfl (by simp) rfl ?_
        intro w hS
        simp only [List.set_cons_zero, List.set_cons_succ] at hS
        rw [empty_add] at hS
        have hS2 := hS.perm (L' := dCell b (.map (some mb)) (D.room - blk t.size) D.fuse D.off :: mapD mb (insX (⟨s, ⟨#[]⟩, t⟩, b59) X) :: ((insX (⟨s, ⟨#[]⟩, t⟩, b59) X).map fileR ++ L)) (by
          refine ((List.Perm.swap _ _ _).trans ((List.Perm.swap _ _ _).cons _)).trans (((?_ : List.Perm _ _).cons _).cons _)
          exact ((hp.map fileR).append_right L).symm)
        exact app_end (D := ⟨insF ⟨s, ⟨#[]⟩, t⟩ D.L, D.room - blk t.size, D.fuse, D.off⟩) hfu (by rw [insX_map, hX]) rfl hS2
  · rw [h1]
    rw [hX] at h2
    rw [h2]
    have hfm : X[i].1 ∈ D.L := (getF_some h2).1
    have hsz := hO.sz hfm
    have hsz' : X[i].1.sure.size + X[i].1.loose.size = X[i].1.sz := rfl
    have hfa := fileAt hi L (dCell b (.map (some mb)) D.room D.fuse D.off) (mapD mb X)
    unfold m12_4
    first | refine valP_ok (ne63n _ _ _) ?_ | refine valP_ok (ne63s _ _ _ _) ?_
    unfold m12_18
    refine cond_t rfl ?_
    refine callR (by kernel_rfl) (size_ret (i + 2) (by omega) hfa hS) ?_
    rintro _ w ⟨rfl, hS⟩
    refine builtin_ok (len9 _) ?_
    refine valP_ok (add_ok _ _ _ (by omega) (by omega) _) ?_
    rw [show (((X[i].1.sure.size + X[i].1.loose.size : Nat) : Int) + (t.size : Int)) = ((X[i].1.sz + t.size : Nat) : Int) by omega]
    refine callR (by kernel_rfl) (blocks_ret (n := X[i].1.sz + t.size) (by omega) hS) ?_
    rintro _ w ⟨rfl, hS⟩
    refine callR (by kernel_rfl) (size_ret (i + 2) (by omega) hfa hS) ?_
    rintro _ w ⟨rfl, hS⟩
    refine callR (by kernel_rfl) (blocks_ret (n := X[i].1.sz) (by omega) hS) ?_
    rintro _ w ⟨rfl, hS⟩
    have hb1 : blk (X[i].1.sz + t.size) ≤ 1000000000000 := by unfold blk; omega
    have hb2 : blk X[i].1.sz ≤ 1000000000000 := by unfold blk; omega
    refine valP_ok (sub_ok _ _ _ (by omega) (by omega) _) ?_
    unfold m12_5
    refine nil_ok ?_
    first | refine valP_ok (fa61_1 _ _) ?_ | refine valP_ok (fao61_1 _ _ _) ?_
    first | refine valP_ok (ld3 (hS.cell 0 rfl rfl)) ?_ | refine valP_ok (ld3 (hS.cell 1 rfl rfl)) ?_ | refine valP_ok (ld3 (hS.cell 2 rfl rfl)) ?_ | refine valP_ok (ld3 (hS.cell 3 rfl rfl)) ?_ | refine valP_ok (ld3 (hS.cell 4 rfl rfl)) ?_ | refine valP_ok (ld3 (hS.cell 5 rfl rfl)) ?_ | refine valP_ok (ld3 (hS.cell 6 rfl rfl)) ?_ | refine valP_ok (ld3 (hS.cell 7 rfl rfl)) ?_ | refine valP_ok (ld3 (by assumption)) ?_
    refine valP_ok (gtr_ok _ _ _ _ _ _ _) ?_
    refine cond_split (fun h5 => ?_) (fun h5 => ?_)
    · first | refine pick_dt (by first | assumption | omega) ?_ | refine pick_df (by first | assumption | omega) ?_ | refine pick_t (by first | rfl | assumption) ?_ | refine pick_f (by first | rfl | assumption) ?_ | refine pick_dt rfl ?_ | refine pick_df (not_not_intro rfl) ?_
      unfold m12_16
      refine cond_t rfl ?_
      unfold m12_17
      simp only [if_pos h5]
      exact ⟨trivial, mb, X, hX, hS⟩
    · simp only [if_neg h5]
      first | refine valP_ok (eq63n _ _ _) ?_ | refine valP_ok (eq63s _ _ _ _) ?_
      refine cond_f rfl ?_
      first | refine pick_dt (by first | assumption | omega) ?_ | refine pick_df (by first | assumption | omega) ?_ | refine pick_t (by first | rfl | assumption) ?_ | refine pick_f (by first | rfl | assumption) ?_ | refine pick_dt rfl ?_ | refine pick_df (not_not_intro rfl) ?_
      first | refine pick_dt (by first | assumption | omega) ?_ | refine pick_df (by first | assumption | omega) ?_ | refine pick_t (by first | rfl | assumption) ?_ | refine pick_f (by first | rfl | assumption) ?_ | refine pick_dt rfl ?_ | refine pick_df (not_not_intro rfl) ?_
      unfold m12_16
      refine cond_f rfl ?_
      unfold m12_6
      first | refine valP_ok (eq63n _ _ _) ?_ | refine valP_ok (eq63s _ _ _ _) ?_
      unfold m12_14
      refine cond_f rfl ?_
      unfold m12_7
      refine nil_ok ?_
      first | refine valP_ok (fa61_1 _ _) ?_ | refine valP_ok (fao61_1 _ _ _) ?_
      first | refine valP_ok (ld3 (hS.cell 0 rfl rfl)) ?_ | refine valP_ok (ld3 (hS.cell 1 rfl rfl)) ?_ | refine valP_ok (ld3 (hS.cell 2 rfl rfl)) ?_ | refine valP_ok (ld3 (hS.cell 3 rfl rfl)) ?_ | refine valP_ok (ld3 (hS.cell 4 rfl rfl)) ?_ | refine valP_ok (ld3 (hS.cell 5 rfl rfl)) ?_ | refine valP_ok (ld3 (hS.cell 6 rfl rfl)) ?_ | refine valP_ok (ld3 (hS.cell 7 rfl rfl)) ?_ | refine valP_ok (ld3 (by assumption)) ?_
      refine valP_ok (sub_ok _ _ _ (by omega) (by omega) _) ?_
      refine nil_ok ?_
      first | refine valP_ok (fa61_1 _ _) ?_ | refine valP_ok (fao61_1 _ _ _) ?_
      first | refine store_at 0 st3 hS rfl (by simp) rfl ?_ | refine store_at 1 st3 hS rfl (by simp) rfl ?_ | refine store_at 2 st3 hS rfl (by simp) rfl ?_ | refine store_at 3 st3 hS rfl (by simp) rfl ?_ | refine store_at 4 st3 hS rfl (by simp) rfl ?_ | refine store_at 5 st3 hS rfl (by simp) rfl ?_ | refine store_at 6 st3 hS rfl (by simp) rfl ?_ | refine store_at 7 st3 hS rfl (by simp) rfl ?_
      intro w hS
      simp only [List.set_cons_zero, List.set_cons_succ] at hS
      have hfa := fileAt hi L (dCell b (.map (some mb)) (D.room - ((blk (X[i].1.sz + t.size) : Int) - blk X[i].1.sz)) D.fuse D.off) (mapD mb X)
      unfold m12_8
      refine nil_ok ?_
      refine valP_ok (fa65_1 _ _) ?_
      refine valP_ok (ld9 (hS.cell (i + 2) hfa (i := 1) rfl)) ?_
      refine valP_ok (sadd _ _ (by omega) _) ?_
      refine nil_ok ?_
      refine valP_ok (fa65_1 _ _) ?_
      refine store_at (i + 2) st9 hS hfa (by simp) rfl ?_
      intro w hS
      have hset := fileSet hi L (dCell b (.map (some mb)) (D.room - ((blk (X[i].1.sz + t.size) : Int) - blk X[i].1.sz)) D.fuse D.off) (mapD mb X) ⟨s, X[i].1.sure, X[i].1.loose ++ t⟩
      have hS2 : St w0 F w ((dCell b (.map (some mb)) (D.room - ((blk (X[i].1.sz + t.size) : Int) - blk X[i].1.sz)) D.fuse D.off :: mapD mb X :: (X.map fileR ++ L)).set (i + 2) (fileR (⟨s, X[i].1.sure, X[i].1.loose ++ t⟩, X[i].2))) := hS
      rw [hset] at hS2
      have hnb := nb_set (f' := ⟨s, X[i].1.sure, X[i].1.loose ++ t⟩) hi h3
      have hmap : mapD mb X = mapD mb (X.set i (⟨s, X[i].1.sure, X[i].1.loose ++ t⟩, X[i].2)) := by unfold mapD; rw [hnb]
      rw [hmap] at hS2
      exact app_end (D := ⟨updF D.L ⟨s, X[i].1.sure, X[i].1.loose ++ t⟩, D.room - ((blk (X[i].1.sz + t.size) : Int) - blk X[i].1.sz), D.fuse, D.off⟩) hfu (by rw [updX_map hU hi h3, hX]) rfl hS2
end

end Go.Proofs.YtcldjjmfpmkldaaDoor.M
