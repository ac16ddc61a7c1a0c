/- Remove, Read. -/
import Derived.Test.YtcldjjmfpmkldaaDoorD5
import Derived.Test.YtcldjjmfpmkldaaDoorFwW
import Derived.Test.YtcldjjmfpmkldaaDoorFwB
import Derived.Test.YtcldjjmfpmkldaaDoorFwM
import Derived.Test.YtcldjjmfpmkldaaDoorMtrim0
import Derived.Test.YtcldjjmfpmkldaaDoorMdisk0
import Derived.Test.YtcldjjmfpmkldaaDoorMmore0
namespace Go.Proofs.YtcldjjmfpmkldaaDoor.M
open Go.Proofs.YtcldjjmfpmkldaaDoor.F Go.RowKit
set_option linter.unusedVariables false
set_option linter.unusedSimpArgs false
set_option maxRecDepth 100000
set_option maxHeartbeats 2000000
attribute [local irreducible] Res.cells Res.row Res.map Res.any World.cell? World.frozen? Instr.fieldAt Instr.loadAt Instr.storeAt Instr.indexAt Instr.lookup Instr.mapUpdate Instr.box Instr.build Instr.buildSlice Instr.extract Instr.alloc Instr.field Instr.index Instr.sliceAt Instr.makeSlice Instr.makeMap Instr.makeFunc binS Op.unary Sem.run
section
variable {w0 w : World} {F : List Nat} {L : List Res} {d m : Res}
theorem St.pushes {R Y : List Res} (hS : St w0 F w (d :: m :: (R ++ (Y ++ L)))) : St w0 F w (d :: m :: (Y ++ (R ++ L))) := hS.perm ((List.perm_append_comm_assoc R Y L).cons m |>.cons d)
theorem St.pulls {f : Res} {R Y : List Res} (hS : St w0 F w (d :: f :: m :: (Y ++ (R ++ L)))) : St w0 F w (d :: f :: m :: (R ++ (Y ++ L))) := hS.perm (((List.perm_append_comm_assoc Y R L).cons m |>.cons f).cons d)
theorem Dsk.drop {b : Nat} {D : Dk} : ∀ {R : List Res}, Dsk w0 F (R ++ L) b D w → Dsk w0 F L b D w
  | [], h => h
  | r :: R, h => Dsk.drop (R := R) (Dsk.pop h)
end
theorem blk_le {n : Nat} (h : n ≤ 1048576) : blk n ≤ 16384 := by unfold blk; omega
def removeR (f : Fl) (D : Dk) : Dk × Int := (⟨delF D.L f.name, D.room + blk f.sz, D.fuse, D.off⟩, 0)
section
variable {w0 w : World} {F : List Nat} {L : List Res} {b : Nat} {D : Dk} {size : Nat} {s : ByteArray}
theorem room_le (hO : Ok size D) : 0 ≤ (burnt D).room ∧ (burnt D).room ≤ 16384 := by
  rw [burnt_room]
  have h1 := hO.room
  have h2 := hO.sum
  have h3 := hO.size
  omega
theorem remove_ret (hO : Ok size D) (hD : Dsk w0 F L b D w) : Ret Tryd.prog 30 #[ptr b, .string s] w fun v w' => v = .int .i64 (workD D s removeR).2 ∧ Dsk w0 F L b (workD D s removeR).1 w' := by
  obtain ⟨mb, X, hX, hS⟩ := hD
  refine s30 _ _ ?_
  unfold m30
  unfold m30_0
  refine new_ok (bx23 rfl _) hS ?_
  intro b2 w hS
  refine new_ok (bx9 rfl _) hS ?_
  intro b3 w hS
  unfold m30_1
  first | refine valP_ok (ld23 (hS.cell 0 rfl rfl)) ?_ | refine valP_ok (ld23 (hS.cell 1 rfl rfl)) ?_ | refine valP_ok (ld23 (hS.cell 2 rfl rfl)) ?_ | refine valP_ok (ld23 (hS.cell 3 rfl rfl)) ?_ | refine valP_ok (ld23 (hS.cell 4 rfl rfl)) ?_ | refine valP_ok (ld23 (hS.cell 5 rfl rfl)) ?_ | refine valP_ok (ld23 (hS.cell 6 rfl rfl)) ?_ | refine valP_ok (ld23 (hS.cell 7 rfl rfl)) ?_ | refine valP_ok (ld23 (by assumption)) ?_
  first | refine valP_ok (ld9 (hS.cell 0 rfl rfl)) ?_ | refine valP_ok (ld9 (hS.cell 1 rfl rfl)) ?_ | refine valP_ok (ld9 (hS.cell 2 rfl rfl)) ?_ | refine valP_ok (ld9 (hS.cell 3 rfl rfl)) ?_ | refine valP_ok (ld9 (hS.cell 4 rfl rfl)) ?_ | refine valP_ok (ld9 (hS.cell 5 rfl rfl)) ?_ | refine valP_ok (ld9 (hS.cell 6 rfl rfl)) ?_ | refine valP_ok (ld9 (hS.cell 7 rfl rfl)) ?_ | refine valP_ok (ld9 (by assumption)) ?_
  refine valP_ok (mf41 _ _ _) ?_
  have hD : Dsk w0 F ([Res.cells b3 9 [.string s], Res.cells b2 23 [ptr b]] ++ L) b D w := ⟨mb, X, hX, St.pushes (R := [Res.cells b3 9 [.string s], Res.cells b2 23 [ptr b]]) (hS.pick 4 [2, 3, 0, 1] (by simp) (by decide))⟩
  clear hS hX
  refine callR (by kernel_rfl) (work_ret (fn := 41) (first := #[]) (cap := #[ptr b2, ptr b3]) (Rf := removeR) (by kernel_rfl) hO ?_ hD) ?_
  · clear hD
    intro w mb X i hi hX hn hS
    have hU : UpL (X.map Prod.fst) := by rw [hX, burnt_L]; exact hO.up
    have hfm : X[i].1 ∈ D.L := by rw [← burnt_L D, ← hX]; exact List.mem_map.2 ⟨_, List.getElem_mem hi, rfl⟩
    have hsz := hO.sz hfm
    have hsz' : X[i].1.sure.size + X[i].1.loose.size = X[i].1.sz := rfl
    have hbl := blk_le hsz
    have hr := room_le hO
    have hnl : s.size ≤ 24 := hn ▸ hO.names _ hfm
    have hS := St.pulls (R := [Res.cells b3 9 [.string s], Res.cells b2 23 [ptr b]]) hS
    refine s41 _ _ _ ?_
    unfold m41
    unfold m41_0
    have fin : ∀ w, St w0 F w (dCell b (.map (some mb)) ((burnt D).room + blk X[i].1.sz) (burnt D).fuse (burnt D).off :: fileR X[i] :: mapD mb X :: Res.cells b3 9 [.string s] :: Res.cells b2 23 [ptr b] :: ((X.eraseIdx i).map fileR ++ L)) → m41_2 (fun v w' => v = .int .i64 (removeR X[i].1 (burnt D)).2 ∧ Dsk w0 F ([Res.cells b3 9 [.string s], Res.cells b2 23 [ptr b]] ++ L) b (removeR X[i].1 (burnt D)).1 w') (ptr b2) (ptr b3) w := fun w hS => by
      unfold m41_2
      refine drawn_ok hS ?_
      intro w hS
      first | refine valS_ok (ld23 (hS.cell 0 rfl rfl)) ?_ | refine valS_ok (ld23 (hS.cell 1 rfl rfl)) ?_ | refine valS_ok (ld23 (hS.cell 2 rfl rfl)) ?_ | refine valS_ok (ld23 (hS.cell 3 rfl rfl)) ?_ | refine valS_ok (ld23 (hS.cell 4 rfl rfl)) ?_ | refine valS_ok (ld23 (hS.cell 5 rfl rfl)) ?_ | refine valS_ok (ld23 (hS.cell 6 rfl rfl)) ?_ | refine valS_ok (ld23 (hS.cell 7 rfl rfl)) ?_ | refine valS_ok (ld23 (by assumption)) ?_
      refine nil_ok ?_
      first | refine valS_ok (fa61_0 _ _) ?_ | refine valS_ok (fao61_0 _ _ _) ?_
      first | refine valS_ok (ld59 (hS.cell 0 rfl rfl)) ?_ | refine valS_ok (ld59 (hS.cell 1 rfl rfl)) ?_ | refine valS_ok (ld59 (hS.cell 2 rfl rfl)) ?_ | refine valS_ok (ld59 (hS.cell 3 rfl rfl)) ?_ | refine valS_ok (ld59 (hS.cell 4 rfl rfl)) ?_ | refine valS_ok (ld59 (hS.cell 5 rfl rfl)) ?_ | refine valS_ok (ld59 (hS.cell 6 rfl rfl)) ?_ | refine valS_ok (ld59 (hS.cell 7 rfl rfl)) ?_ | refine valS_ok (ld59 (by assumption)) ?_
      first | refine valS_ok (ld9 (hS.cell 0 rfl rfl)) ?_ | refine valS_ok (ld9 (hS.cell 1 rfl rfl)) ?_ | refine valS_ok (ld9 (hS.cell 2 rfl rfl)) ?_ | refine valS_ok (ld9 (hS.cell 3 rfl rfl)) ?_ | refine valS_ok (ld9 (hS.cell 4 rfl rfl)) ?_ | refine valS_ok (ld9 (hS.cell 5 rfl rfl)) ?_ | refine valS_ok (ld9 (hS.cell 6 rfl rfl)) ?_ | refine valS_ok (ld9 (hS.cell 7 rfl rfl)) ?_ | refine valS_ok (ld9 (by assumption)) ?_
      refine delT_at 2 ((X.eraseIdx i).map nb) hS rfl Tryd.underlying9 Tryd.underlying59 (by unfold maxLen; omega) (by rw [erase_del hU hi hn, delX_nb]) ?_
      intro w hS
      simp only [List.set_cons_zero, List.set_cons_succ] at hS
      unfold m41_3 m41_4
      refine ⟨rfl, mb, X.eraseIdx i, ?_, ?_⟩
      · rw [erase_del hU hi hn, delX_map, hX, ← hn]
        rfl
      · exact St.pushes (R := [Res.cells b3 9 [.string s], Res.cells b2 23 [ptr b]]) (hS.pick 5 [0, 2, 3, 4] (by simp) (by decide))
    unfold m41_1
    refine drawn_ok hS ?_
    intro w hS
    refine held_Hs (hS.pick 5 [3, 4] (by simp) (by decide)) ?_
    first | refine valJ_load ld23 (Hs.cell 0 rfl rfl) ?_ | refine valJ_load ld23 (Hs.cell 1 rfl rfl) ?_ | refine valJ_load ld23 (Hs.cell 2 rfl rfl) ?_ | refine valJ_load ld23 (Hs.cell 3 rfl rfl) ?_ | refine valJ_load ld23 (Hs.cell 4 rfl rfl) ?_ | refine valJ_load ld23 (Hs.cell 5 rfl rfl) ?_ | refine valJ_load ld23 (Hs.cell 6 rfl rfl) ?_ | refine valJ_load ld23 (Hs.cell 7 rfl rfl) ?_ | refine valJ_load ld23 (by assumption) ?_
    refine nil_ok ?_
    first | refine valJ_ok (fa61_1 _) ?_ | refine valJ_ok (fao61_1 _ _) ?_
    refine ⟨?_, ?_⟩
    · first | refine valP_ok (ld3 (hS.cell 0 rfl rfl)) ?_ | refine valP_ok (ld3 (hS.cell 1 rfl rfl)) ?_ | refine valP_ok (ld3 (hS.cell 2 rfl rfl)) ?_ | refine valP_ok (ld3 (hS.cell 3 rfl rfl)) ?_ | refine valP_ok (ld3 (hS.cell 4 rfl rfl)) ?_ | refine valP_ok (ld3 (hS.cell 5 rfl rfl)) ?_ | refine valP_ok (ld3 (hS.cell 6 rfl rfl)) ?_ | refine valP_ok (ld3 (hS.cell 7 rfl rfl)) ?_ | refine valP_ok (ld3 (by assumption)) ?_
      refine stay_Hs (hS.pick 5 [3, 4] (by simp) (by decide)) (fun _ h => h) ?_
      refine callR (by kernel_rfl) (size_ret 1 (by omega) rfl hS) ?_
      rintro _ w ⟨rfl, hS⟩
      refine stay_Hs (hS.pick 5 [3, 4] (by simp) (by decide)) (fun _ h => h) ?_
      refine callR (by kernel_rfl) (blocks_ret (n := X[i].1.sz) (by omega) hS) ?_
      rintro _ w ⟨rfl, hS⟩
      refine stay_Hs (hS.pick 5 [3, 4] (by simp) (by decide)) (fun _ h => h) ?_
      refine valJ_ok (add_ok _ _ _ (by omega) (by omega)) ?_
      refine nil_ok ?_
      first | refine valJ_ok (fa61_1 _) ?_ | refine valJ_ok (fao61_1 _ _) ?_
      first | refine store_at 0 st3 hS rfl (by simp) rfl ?_ | refine store_at 1 st3 hS rfl (by simp) rfl ?_ | refine store_at 2 st3 hS rfl (by simp) rfl ?_ | refine store_at 3 st3 hS rfl (by simp) rfl ?_ | refine store_at 4 st3 hS rfl (by simp) rfl ?_ | refine store_at 5 st3 hS rfl (by simp) rfl ?_ | refine store_at 6 st3 hS rfl (by simp) rfl ?_ | refine store_at 7 st3 hS rfl (by simp) rfl ?_
      intro w hS
      simp only [List.set_cons_zero, List.set_cons_succ] at hS
      refine stay_Hs (hS.pick 5 [3, 4] (by simp) (by decide)) (fun _ h => h) ?_
      exact fin _ hS
    · refine callR (by kernel_rfl) (size_ret 1 (by omega) rfl hS) ?_
      rintro _ w ⟨rfl, hS⟩
      refine stay_Hs (hS.pick 5 [3, 4] (by simp) (by decide)) (fun _ h => h) ?_
      refine ⟨?_, ?_⟩
      · first | refine valP_ok (ld3 (hS.cell 0 rfl rfl)) ?_ | refine valP_ok (ld3 (hS.cell 1 rfl rfl)) ?_ | refine valP_ok (ld3 (hS.cell 2 rfl rfl)) ?_ | refine valP_ok (ld3 (hS.cell 3 rfl rfl)) ?_ | refine valP_ok (ld3 (hS.cell 4 rfl rfl)) ?_ | refine valP_ok (ld3 (hS.cell 5 rfl rfl)) ?_ | refine valP_ok (ld3 (hS.cell 6 rfl rfl)) ?_ | refine valP_ok (ld3 (hS.cell 7 rfl rfl)) ?_ | refine valP_ok (ld3 (by assumption)) ?_
        refine stay_Hs (hS.pick 5 [3, 4] (by simp) (by decide)) (fun _ h => h) ?_
        refine callR (by kernel_rfl) (blocks_ret (n := X[i].1.sz) (by omega) hS) ?_
        rintro _ w ⟨rfl, hS⟩
        refine stay_Hs (hS.pick 5 [3, 4] (by simp) (by decide)) (fun _ h => h) ?_
        refine valJ_ok (add_ok _ _ _ (by omega) (by omega)) ?_
        refine nil_ok ?_
        first | refine valJ_ok (fa61_1 _) ?_ | refine valJ_ok (fao61_1 _ _) ?_
        first | refine store_at 0 st3 hS rfl (by simp) rfl ?_ | refine store_at 1 st3 hS rfl (by simp) rfl ?_ | refine store_at 2 st3 hS rfl (by simp) rfl ?_ | refine store_at 3 st3 hS rfl (by simp) rfl ?_ | refine store_at 4 st3 hS rfl (by simp) rfl ?_ | refine store_at 5 st3 hS rfl (by simp) rfl ?_ | refine store_at 6 st3 hS rfl (by simp) rfl ?_ | refine store_at 7 st3 hS rfl (by simp) rfl ?_
        intro w hS
        simp only [List.set_cons_zero, List.set_cons_succ] at hS
        refine stay_Hs (hS.pick 5 [3, 4] (by simp) (by decide)) (fun _ h => h) ?_
        exact fin _ hS
      · refine callR (by kernel_rfl) (blocks_ret (n := X[i].1.sz) (by omega) hS) ?_
        rintro _ w ⟨rfl, hS⟩
        refine stay_Hs (hS.pick 5 [3, 4] (by simp) (by decide)) (fun _ h => h) ?_
        first | refine valP_ok (ld3 (hS.cell 0 rfl rfl)) ?_ | refine valP_ok (ld3 (hS.cell 1 rfl rfl)) ?_ | refine valP_ok (ld3 (hS.cell 2 rfl rfl)) ?_ | refine valP_ok (ld3 (hS.cell 3 rfl rfl)) ?_ | refine valP_ok (ld3 (hS.cell 4 rfl rfl)) ?_ | refine valP_ok (ld3 (hS.cell 5 rfl rfl)) ?_ | refine valP_ok (ld3 (hS.cell 6 rfl rfl)) ?_ | refine valP_ok (ld3 (hS.cell 7 rfl rfl)) ?_ | refine valP_ok (ld3 (by assumption)) ?_
        refine stay_Hs (hS.pick 5 [3, 4] (by simp) (by decide)) (fun _ h => h) ?_
        refine valJ_ok (add_ok _ _ _ (by omega) (by omega)) ?_
        refine nil_ok ?_
        first | refine valJ_ok (fa61_1 _) ?_ | refine valJ_ok (fao61_1 _ _) ?_
        first | refine store_at 0 st3 hS rfl (by simp) rfl ?_ | refine store_at 1 st3 hS rfl (by simp) rfl ?_ | refine store_at 2 st3 hS rfl (by simp) rfl ?_ | refine store_at 3 st3 hS rfl (by simp) rfl ?_ | refine store_at 4 st3 hS rfl (by simp) rfl ?_ | refine store_at 5 st3 hS rfl (by simp) rfl ?_ | refine store_at 6 st3 hS rfl (by simp) rfl ?_ | refine store_at 7 st3 hS rfl (by simp) rfl ?_
        intro w hS
        simp only [List.set_cons_zero, List.set_cons_succ] at hS
        refine stay_Hs (hS.pick 5 [3, 4] (by simp) (by decide)) (fun _ h => h) ?_
        exact fin _ hS
  · rintro _ w ⟨rfl, hD⟩
    unfold m30_2
    exact ⟨rfl, Dsk.drop hD⟩
/-- a file's bytes. -/
def readV (D : Dk) (s : ByteArray) : ByteArray × Int :=
  if readyC [s] D.off = 0 then
    match getF D.L s with
    | some f => (f.sure ++ f.loose, 0)
    | none => (⟨#[]⟩, 3)
  else (⟨#[]⟩, readyC [s] D.off)
theorem read_ret (hO : Ok size D) (hD : Dsk w0 F L b D w) : Ret Tryd.prog 15 #[ptr b, .string s] w fun v w' => v = .tuple #[.string (readV D s).1, .int .i64 (readV D s).2] ∧ Dsk w0 F L b D w' := by
  obtain ⟨mb, X, hX, hS⟩ := hD
  have hU : UpL (X.map Prod.fst) := hX ▸ hO.up
  refine s15 _ _ ?_
  unfold m15
  unfold m15_0
  unfold m15_1
  refine newslice_ok (bs22_1 rfl _) hS ?_
  intro b10 w hS
  refine callR (by kernel_rfl) (ready_ret (xs := [s]) 1 rfl (by simp) (Bes.of_cells 0 rfl rfl) hS) ?_
  rintro _ w ⟨rfl, hS⟩
  have hS := hS.tail
  unfold m15_8
  refine valP_ok (ne24 _ _ _ _ _) ?_
  unfold m15_9 readV
  refine cond_split (fun h => ?_) (fun h => ?_)
  · unfold m15_10
    rw [if_neg h]
    exact ⟨rfl, mb, X, hX, hS⟩
  rw [if_pos (Classical.not_not.1 h)]
  obtain ⟨hs24, hnm, ho⟩ := ready_size (Classical.not_not.1 h)
  unfold m15_2
  refine nil_ok ?_
  first | refine valP_ok (fa61_0 _ _) ?_ | refine valP_ok (fao61_0 _ _ _) ?_
  first | refine valP_ok (ld59 (hS.cell 0 rfl rfl)) ?_ | refine valP_ok (ld59 (hS.cell 1 rfl rfl)) ?_ | refine valP_ok (ld59 (hS.cell 2 rfl rfl)) ?_ | refine valP_ok (ld59 (hS.cell 3 rfl rfl)) ?_ | refine valP_ok (ld59 (hS.cell 4 rfl rfl)) ?_ | refine valP_ok (ld59 (hS.cell 5 rfl rfl)) ?_ | refine valP_ok (ld59 (hS.cell 6 rfl rfl)) ?_ | refine valP_ok (ld59 (hS.cell 7 rfl rfl)) ?_ | refine valP_ok (ld59 (by assumption)) ?_
  refine valP_ok ((hS.mapT 1 rfl).lookup Tryd.underlying9 Tryd.underlying59 (zero63 _) (by unfold maxLen; omega)) ?_
  rcases look_X hU s with ⟨h1, h2, h3⟩ | ⟨i, hi, h1, h2, h3⟩
  · rw [h1]
    rw [hX] at h2
    rw [h2]
    unfold m15_3
    first | refine valP_ok (eq63n _ _ _) ?_ | refine valP_ok (eq63s _ _ _ _) ?_
    unfold m15_6
    refine cond_t rfl ?_
    unfold m15_7
    exact ⟨rfl, mb, X, hX, hS⟩
  · rw [h1]
    rw [hX] at h2
    rw [h2]
    unfold m15_3
    first | refine valP_ok (eq63n _ _ _) ?_ | refine valP_ok (eq63s _ _ _ _) ?_
    unfold m15_6
    refine cond_f rfl ?_
    have hsz := hO.sz (getF_some h2).1
    have hsz' : X[i].1.sure.size + X[i].1.loose.size = X[i].1.sz := rfl
    have hfa := fileAt hi L (dCell b (.map (some mb)) D.room D.fuse D.off) (mapD mb X)
    have c0 := hS.cell (i + 2) hfa (i := 0) rfl
    have c1 := hS.cell (i + 2) hfa (i := 1) rfl
    unfold m15_4
    refine nil_ok ?_
    refine valQ_ok (fun w => fa65_0 _ _) ?_
    refine valQ_load ld9 c0 ?_
    refine nil_ok ?_
    refine valQ_ok (fun w => fa65_1 _ _) ?_
    refine valQ_load ld9 c1 ?_
    refine valQ_ok (fun w => sadd _ _ (by omega) w) ?_
    refine drawn_ok hS ?_
    intro w hS
    unfold m15_5
    exact ⟨rfl, mb, X, hX, hS⟩
end

end Go.Proofs.YtcldjjmfpmkldaaDoor.M
