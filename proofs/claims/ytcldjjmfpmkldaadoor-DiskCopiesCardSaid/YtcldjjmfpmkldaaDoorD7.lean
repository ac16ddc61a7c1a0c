/- Truncate, Rename. -/
import Derived.Test.YtcldjjmfpmkldaaDoorD6
import Derived.Test.YtcldjjmfpmkldaaDoorFwW
import Derived.Test.YtcldjjmfpmkldaaDoorFwB
import Derived.Test.YtcldjjmfpmkldaaDoorFwM
import Derived.Test.YtcldjjmfpmkldaaDoorMtrim0
import Derived.Test.YtcldjjmfpmkldaaDoorMdisk0
import Derived.Test.YtcldjjmfpmkldaaDoorMmore0
namespace Go.Proofs.YtcldjjmfpmkldaaDoor.M
open Go.Proofs.YtcldjjmfpmkldaaDoor.F Go.RowKit
set_option linter.unusedVariables false
set_option linter.unusedSimpArgs false
set_option maxRecDepth 100000
set_option maxHeartbeats 2000000
attribute [local irreducible] Res.cells Res.row Res.map Res.any World.cell? World.frozen? Instr.fieldAt Instr.loadAt Instr.storeAt Instr.indexAt Instr.lookup Instr.mapUpdate Instr.box Instr.build Instr.buildSlice Instr.extract Instr.alloc Instr.field Instr.index Instr.sliceAt Instr.makeSlice Instr.makeMap Instr.makeFunc binS Op.unary Sem.run
/-- the first n bytes. -/
def truncR (n : Nat) (f : Fl) (D : Dk) : Dk × Int := (⟨updF D.L ⟨f.name, f.sure.extract 0 (min n f.sure.size), f.loose.extract 0 (n - min n f.sure.size)⟩, D.room + ((blk f.sz : Int) - blk n), D.fuse, D.off⟩, 0)
def truncD (D : Dk) (s : ByteArray) (n : Int) : Dk × Int :=
  match getF D.L s with
  | some f => if readyC [s] D.off = 0 ∧ (n < 0 ∨ (f.sz : Int) < n) then (D, 6) else workD D s (truncR n.toNat)
  | none => workD D s (truncR n.toNat)
section
variable {w0 w : World} {F : List Nat} {L : List Res} {b : Nat} {D : Dk} {size : Nat} {s : ByteArray}
theorem truncate_work {n b3 b5 : Nat} (hO : Ok size D) (hn' : ∀ f, getF D.L s = some f → n ≤ f.sz) (hD : Dsk w0 F ([Res.cells b5 3 [.int .i64 (n : Int)], Res.cells b3 23 [ptr b]] ++ L) b D w) : Ret Tryd.prog 37 #[ptr b, .string s, .func (.func 40) #[] #[ptr b3, ptr b5]] w fun v w' => v = .int .i64 (workD D s (truncR n)).2 ∧ Dsk w0 F ([Res.cells b5 3 [.int .i64 (n : Int)], Res.cells b3 23 [ptr b]] ++ L) b (workD D s (truncR n)).1 w' := by
  refine work_ret (fn := 40) (first := #[]) (cap := #[ptr b3, ptr b5]) (Rf := truncR n) (by kernel_rfl) hO ?_ hD
  clear hD
  intro w mb X i hi hX hn hS
  have hU : UpL (X.map Prod.fst) := by rw [hX, burnt_L]; exact hO.up
  have hfm : X[i].1 ∈ D.L := by rw [← burnt_L D, ← hX]; exact List.mem_map.2 ⟨_, List.getElem_mem hi, rfl⟩
  have hsz := hO.sz hfm
  have hsz' : X[i].1.sure.size + X[i].1.loose.size = X[i].1.sz := rfl
  have hbl := blk_le hsz
  have hr := room_le hO
  have hnn : n ≤ X[i].1.sz := hn' _ (by rw [← hn]; exact getF_mem hO.up hfm)
  have hbn := blk_le (n := n) (by omega)
  have hS := St.pulls (R := [Res.cells b5 3 [.int .i64 (n : Int)], Res.cells b3 23 [ptr b]]) hS
  refine s40 _ _ _ ?_
  unfold m40
  unfold m40_0
  have fin3 : ∀ w, St w0 F w (dCell b (.map (some mb)) ((burnt D).room + ((blk X[i].1.sz : Int) - blk n)) (burnt D).fuse (burnt D).off :: fileR (⟨X[i].1.name, X[i].1.sure.extract 0 (min n X[i].1.sure.size), X[i].1.loose.extract 0 (n - min n X[i].1.sure.size)⟩, X[i].2) :: mapD mb X :: Res.cells b5 3 [.int .i64 (n : Int)] :: Res.cells b3 23 [ptr b] :: ((X.eraseIdx i).map fileR ++ L)) → m40_4 (fun v w' => v = .int .i64 (truncR n X[i].1 (burnt D)).2 ∧ Dsk w0 F ([Res.cells b5 3 [.int .i64 (n : Int)], Res.cells b3 23 [ptr b]] ++ L) b (truncR n X[i].1 (burnt D)).1 w') w := fun w hS => by
    unfold m40_4 m40_5
    refine ⟨rfl, ?_⟩
    have hS2 := hS.perm ((((List.perm_append_comm_assoc [Res.cells b5 3 [.int .i64 (n : Int)], Res.cells b3 23 [ptr b]] ((X.eraseIdx i).map fileR) L).cons (mapD mb X)).cons _).cons _)
    exact Foc.done (f' := ⟨X[i].1.name, X[i].1.sure.extract 0 (min n X[i].1.sure.size), X[i].1.loose.extract 0 (n - min n X[i].1.sure.size)⟩) (D' := (truncR n X[i].1 (burnt D)).1) hU hi rfl (by unfold truncR; rw [hX]) hS2
  have fin2 : ∀ w, St w0 F w (dCell b (.map (some mb)) ((burnt D).room + ((blk X[i].1.sz : Int) - blk n)) (burnt D).fuse (burnt D).off :: fileR X[i] :: mapD mb X :: Res.cells b5 3 [.int .i64 (n : Int)] :: Res.cells b3 23 [ptr b] :: ((X.eraseIdx i).map fileR ++ L)) → m40_2 (fun v w' => v = .int .i64 (truncR n X[i].1 (burnt D)).2 ∧ Dsk w0 F ([Res.cells b5 3 [.int .i64 (n : Int)], Res.cells b3 23 [ptr b]] ++ L) b (truncR n X[i].1 (burnt D)).1 w') (ptr X[i].2) (ptr b5) w := fun w hS => by
    unfold m40_2
    first | refine valQ_load ld3 (hS.cell 0 rfl rfl) ?_ | refine valQ_load ld3 (hS.cell 1 rfl rfl) ?_ | refine valQ_load ld3 (hS.cell 2 rfl rfl) ?_ | refine valQ_load ld3 (hS.cell 3 rfl rfl) ?_ | refine valQ_load ld3 (hS.cell 4 rfl rfl) ?_ | refine valQ_load ld3 (hS.cell 5 rfl rfl) ?_ | refine valQ_load ld3 (hS.cell 6 rfl rfl) ?_ | refine valQ_load ld3 (hS.cell 7 rfl rfl) ?_ | refine valQ_load ld3 (by assumption) ?_
    refine nil_ok ?_
    first | refine valQ_ok (fa65_0 _) ?_ | refine valQ_ok (fao65_0 _ _) ?_
    first | refine valQ_load ld9 (hS.cell 0 rfl rfl) ?_ | refine valQ_load ld9 (hS.cell 1 rfl rfl) ?_ | refine valQ_load ld9 (hS.cell 2 rfl rfl) ?_ | refine valQ_load ld9 (hS.cell 3 rfl rfl) ?_ | refine valQ_load ld9 (hS.cell 4 rfl rfl) ?_ | refine valQ_load ld9 (hS.cell 5 rfl rfl) ?_ | refine valQ_load ld9 (hS.cell 6 rfl rfl) ?_ | refine valQ_load ld9 (hS.cell 7 rfl rfl) ?_ | refine valQ_load ld9 (by assumption) ?_
    refine builtinQ_ok (len9) ?_
    refine builtinQ_ok (min_run _ _) ?_
    refine drawn_ok hS ?_
    intro w hS
    rw [show min (n : Int) (X[i].1.sure.size : Int) = ((min n X[i].1.sure.size : Nat) : Int) by omega]
    have hk1 : min n X[i].1.sure.size ≤ X[i].1.sure.size := Nat.min_le_right _ _
    have hk2 : n - min n X[i].1.sure.size ≤ X[i].1.loose.size := by omega
    have hk3 : min n X[i].1.sure.size ≤ n := Nat.min_le_left _ _
    generalize min n X[i].1.sure.size = k at *
    unfold m40_3
    refine drawn_ok hS ?_
    intro w hS
    refine held_Hs (hS.pick 5 [3, 4] (by simp) (by decide)) ?_
    refine nil_ok ?_
    first | refine valJ_ok (fa65_0 _) ?_ | refine valJ_ok (fao65_0 _ _) ?_
    refine nil_ok ?_
    first | refine valJ_ok (fa65_1 _) ?_ | refine valJ_ok (fao65_1 _ _) ?_
    first | refine valJ_load ld3 (Hs.cell 0 rfl rfl) ?_ | refine valJ_load ld3 (Hs.cell 1 rfl rfl) ?_ | refine valJ_load ld3 (Hs.cell 2 rfl rfl) ?_ | refine valJ_load ld3 (Hs.cell 3 rfl rfl) ?_ | refine valJ_load ld3 (Hs.cell 4 rfl rfl) ?_ | refine valJ_load ld3 (Hs.cell 5 rfl rfl) ?_ | refine valJ_load ld3 (Hs.cell 6 rfl rfl) ?_ | refine valJ_load ld3 (Hs.cell 7 rfl rfl) ?_ | refine valJ_load ld3 (by assumption) ?_
    refine valJ_ok (sub_ok _ _ _ (by omega) (by omega)) ?_
    rw [show (n : Int) - (k : Int) = ((n - k : Nat) : Int) by omega]
    refine ⟨?_, ?_⟩
    · first | refine valP_ok (ld9 (hS.cell 0 rfl rfl)) ?_ | refine valP_ok (ld9 (hS.cell 1 rfl rfl)) ?_ | refine valP_ok (ld9 (hS.cell 2 rfl rfl)) ?_ | refine valP_ok (ld9 (hS.cell 3 rfl rfl)) ?_ | refine valP_ok (ld9 (hS.cell 4 rfl rfl)) ?_ | refine valP_ok (ld9 (hS.cell 5 rfl rfl)) ?_ | refine valP_ok (ld9 (hS.cell 6 rfl rfl)) ?_ | refine valP_ok (ld9 (hS.cell 7 rfl rfl)) ?_ | refine valP_ok (ld9 (by assumption)) ?_
      refine stay_Hs (hS.pick 5 [3, 4] (by simp) (by decide)) (fun _ h => h) ?_
      refine valJ_ok (fun w => sto w hk1) ?_
      first | refine valP_ok (ld9 (hS.cell 0 rfl rfl)) ?_ | refine valP_ok (ld9 (hS.cell 1 rfl rfl)) ?_ | refine valP_ok (ld9 (hS.cell 2 rfl rfl)) ?_ | refine valP_ok (ld9 (hS.cell 3 rfl rfl)) ?_ | refine valP_ok (ld9 (hS.cell 4 rfl rfl)) ?_ | refine valP_ok (ld9 (hS.cell 5 rfl rfl)) ?_ | refine valP_ok (ld9 (hS.cell 6 rfl rfl)) ?_ | refine valP_ok (ld9 (hS.cell 7 rfl rfl)) ?_ | refine valP_ok (ld9 (by assumption)) ?_
      refine stay_Hs (hS.pick 5 [3, 4] (by simp) (by decide)) (fun _ h => h) ?_
      refine valJ_ok (fun w => sto w hk2) ?_
      refine nil_ok ?_
      first | refine valJ_ok (fa65_0 _) ?_ | refine valJ_ok (fao65_0 _ _) ?_
      first | refine store_at 0 st9 hS rfl (by simp) rfl ?_ | refine store_at 1 st9 hS rfl (by simp) rfl ?_ | refine store_at 2 st9 hS rfl (by simp) rfl ?_ | refine store_at 3 st9 hS rfl (by simp) rfl ?_ | refine store_at 4 st9 hS rfl (by simp) rfl ?_ | refine store_at 5 st9 hS rfl (by simp) rfl ?_ | refine store_at 6 st9 hS rfl (by simp) rfl ?_ | refine store_at 7 st9 hS rfl (by simp) rfl ?_
      intro w hS
      simp only [List.set_cons_zero, List.set_cons_succ] at hS
      refine stay_Hs (hS.pick 5 [3, 4] (by simp) (by decide)) (fun _ h => h) ?_
      refine nil_ok ?_
      first | refine valJ_ok (fa65_1 _) ?_ | refine valJ_ok (fao65_1 _ _) ?_
      first | refine store_at 0 st9 hS rfl (by simp) rfl ?_ | refine store_at 1 st9 hS rfl (by simp) rfl ?_ | refine store_at 2 st9 hS rfl (by simp) rfl ?_ | refine store_at 3 st9 hS rfl (by simp) rfl ?_ | refine store_at 4 st9 hS rfl (by simp) rfl ?_ | refine store_at 5 st9 hS rfl (by simp) rfl ?_ | refine store_at 6 st9 hS rfl (by simp) rfl ?_ | refine store_at 7 st9 hS rfl (by simp) rfl ?_
      intro w hS
      simp only [List.set_cons_zero, List.set_cons_succ] at hS
      refine stay_Hs (hS.pick 5 [3, 4] (by simp) (by decide)) (fun _ h => h) ?_
      exact fin3 _ hS
    · first | refine valP_ok (ld9 (hS.cell 0 rfl rfl)) ?_ | refine valP_ok (ld9 (hS.cell 1 rfl rfl)) ?_ | refine valP_ok (ld9 (hS.cell 2 rfl rfl)) ?_ | refine valP_ok (ld9 (hS.cell 3 rfl rfl)) ?_ | refine valP_ok (ld9 (hS.cell 4 rfl rfl)) ?_ | refine valP_ok (ld9 (hS.cell 5 rfl rfl)) ?_ | refine valP_ok (ld9 (hS.cell 6 rfl rfl)) ?_ | refine valP_ok (ld9 (hS.cell 7 rfl rfl)) ?_ | refine valP_ok (ld9 (by assumption)) ?_
      refine stay_Hs (hS.pick 5 [3, 4] (by simp) (by decide)) (fun _ h => h) ?_
      refine valJ_ok (fun w => sto w hk2) ?_
      first | refine valP_ok (ld9 (hS.cell 0 rfl rfl)) ?_ | refine valP_ok (ld9 (hS.cell 1 rfl rfl)) ?_ | refine valP_ok (ld9 (hS.cell 2 rfl rfl)) ?_ | refine valP_ok (ld9 (hS.cell 3 rfl rfl)) ?_ | refine valP_ok (ld9 (hS.cell 4 rfl rfl)) ?_ | refine valP_ok (ld9 (hS.cell 5 rfl rfl)) ?_ | refine valP_ok (ld9 (hS.cell 6 rfl rfl)) ?_ | refine valP_ok (ld9 (hS.cell 7 rfl rfl)) ?_ | refine valP_ok (ld9 (by assumption)) ?_
      refine stay_Hs (hS.pick 5 [3, 4] (by simp) (by decide)) (fun _ h => h) ?_
      refine valJ_ok (fun w => sto w hk1) ?_
      refine nil_ok ?_
      first | refine valJ_ok (fa65_0 _) ?_ | refine valJ_ok (fao65_0 _ _) ?_
      first | refine store_at 0 st9 hS rfl (by simp) rfl ?_ | refine store_at 1 st9 hS rfl (by simp) rfl ?_ | refine store_at 2 st9 hS rfl (by simp) rfl ?_ | refine store_at 3 st9 hS rfl (by simp) rfl ?_ | refine store_at 4 st9 hS rfl (by simp) rfl ?_ | refine store_at 5 st9 hS rfl (by simp) rfl ?_ | refine store_at 6 st9 hS rfl (by simp) rfl ?_ | refine store_at 7 st9 hS rfl (by simp) rfl ?_
      intro w hS
      simp only [List.set_cons_zero, List.set_cons_succ] at hS
      refine stay_Hs (hS.pick 5 [3, 4] (by simp) (by decide)) (fun _ h => h) ?_
      refine nil_ok ?_
      first | refine valJ_ok (fa65_1 _) ?_ | refine valJ_ok (fao65_1 _ _) ?_
      first | refine store_at 0 st9 hS rfl (by simp) rfl ?_ | refine store_at 1 st9 hS rfl (by simp) rfl ?_ | refine store_at 2 st9 hS rfl (by simp) rfl ?_ | refine store_at 3 st9 hS rfl (by simp) rfl ?_ | refine store_at 4 st9 hS rfl (by simp) rfl ?_ | refine store_at 5 st9 hS rfl (by simp) rfl ?_ | refine store_at 6 st9 hS rfl (by simp) rfl ?_ | refine store_at 7 st9 hS rfl (by simp) rfl ?_
      intro w hS
      simp only [List.set_cons_zero, List.set_cons_succ] at hS
      refine stay_Hs (hS.pick 5 [3, 4] (by simp) (by decide)) (fun _ h => h) ?_
      exact fin3 _ hS
  unfold m40_1
  refine drawn_ok hS ?_
  intro w hS
  refine held_Hs (hS.pick 5 [3, 4] (by simp) (by decide)) ?_
  first | refine valJ_load ld23 (Hs.cell 0 rfl rfl) ?_ | refine valJ_load ld23 (Hs.cell 1 rfl rfl) ?_ | refine valJ_load ld23 (Hs.cell 2 rfl rfl) ?_ | refine valJ_load ld23 (Hs.cell 3 rfl rfl) ?_ | refine valJ_load ld23 (Hs.cell 4 rfl rfl) ?_ | refine valJ_load ld23 (Hs.cell 5 rfl rfl) ?_ | refine valJ_load ld23 (Hs.cell 6 rfl rfl) ?_ | refine valJ_load ld23 (Hs.cell 7 rfl rfl) ?_ | refine valJ_load ld23 (by assumption) ?_
  refine nil_ok ?_
  first | refine valJ_ok (fa61_1 _) ?_ | refine valJ_ok (fao61_1 _ _) ?_
  first | refine valJ_load ld3 (Hs.cell 0 rfl rfl) ?_ | refine valJ_load ld3 (Hs.cell 1 rfl rfl) ?_ | refine valJ_load ld3 (Hs.cell 2 rfl rfl) ?_ | refine valJ_load ld3 (Hs.cell 3 rfl rfl) ?_ | refine valJ_load ld3 (Hs.cell 4 rfl rfl) ?_ | refine valJ_load ld3 (Hs.cell 5 rfl rfl) ?_ | refine valJ_load ld3 (Hs.cell 6 rfl rfl) ?_ | refine valJ_load ld3 (Hs.cell 7 rfl rfl) ?_ | refine valJ_load ld3 (by assumption) ?_
  refine ⟨?_, ?_⟩
  · first | refine valP_ok (ld3 (hS.cell 0 rfl rfl)) ?_ | refine valP_ok (ld3 (hS.cell 1 rfl rfl)) ?_ | refine valP_ok (ld3 (hS.cell 2 rfl rfl)) ?_ | refine valP_ok (ld3 (hS.cell 3 rfl rfl)) ?_ | refine valP_ok (ld3 (hS.cell 4 rfl rfl)) ?_ | refine valP_ok (ld3 (hS.cell 5 rfl rfl)) ?_ | refine valP_ok (ld3 (hS.cell 6 rfl rfl)) ?_ | refine valP_ok (ld3 (hS.cell 7 rfl rfl)) ?_ | refine valP_ok (ld3 (by assumption)) ?_
    refine stay_Hs (hS.pick 5 [3, 4] (by simp) (by decide)) (fun _ h => h) ?_
    refine callR (by kernel_rfl) (size_ret 1 (by omega) rfl hS) ?_
    rintro _ w ⟨rfl, hS⟩
    refine stay_Hs (hS.pick 5 [3, 4] (by simp) (by decide)) (fun _ h => h) ?_
    refine callR (by kernel_rfl) (blocks_ret (n := X[i].1.sz) (by omega) hS) ?_
    rintro _ w ⟨rfl, hS⟩
    refine stay_Hs (hS.pick 5 [3, 4] (by simp) (by decide)) (fun _ h => h) ?_
    refine callR (by kernel_rfl) (blocks_ret (n := n) (by omega) hS) ?_
    rintro _ w ⟨rfl, hS⟩
    refine stay_Hs (hS.pick 5 [3, 4] (by simp) (by decide)) (fun _ h => h) ?_
    refine valJ_ok (sub_ok _ _ _ (by omega) (by omega)) ?_
    refine valJ_ok (add_ok _ _ _ (by omega) (by omega)) ?_
    refine nil_ok ?_
    first | refine valJ_ok (fa61_1 _) ?_ | refine valJ_ok (fao61_1 _ _) ?_
    first | refine store_at 0 st3 hS rfl (by simp) rfl ?_ | refine store_at 1 st3 hS rfl (by simp) rfl ?_ | refine store_at 2 st3 hS rfl (by simp) rfl ?_ | refine store_at 3 st3 hS rfl (by simp) rfl ?_ | refine store_at 4 st3 hS rfl (by simp) rfl ?_ | refine store_at 5 st3 hS rfl (by simp) rfl ?_ | refine store_at 6 st3 hS rfl (by simp) rfl ?_ | refine store_at 7 st3 hS rfl (by simp) rfl ?_
    intro w hS
    simp only [List.set_cons_zero, List.set_cons_succ] at hS
    refine stay_Hs (hS.pick 5 [3, 4] (by simp) (by decide)) (fun _ h => h) ?_
    exact fin2 _ hS
  · refine callR (by kernel_rfl) (size_ret 1 (by omega) rfl hS) ?_
    rintro _ w ⟨rfl, hS⟩
    refine stay_Hs (hS.pick 5 [3, 4] (by simp) (by decide)) (fun _ h => h) ?_
    refine ⟨?_, ?_⟩
    · first | refine valP_ok (ld3 (hS.cell 0 rfl rfl)) ?_ | refine valP_ok (ld3 (hS.cell 1 rfl rfl)) ?_ | refine valP_ok (ld3 (hS.cell 2 rfl rfl)) ?_ | refine valP_ok (ld3 (hS.cell 3 rfl rfl)) ?_ | refine valP_ok (ld3 (hS.cell 4 rfl rfl)) ?_ | refine valP_ok (ld3 (hS.cell 5 rfl rfl)) ?_ | refine valP_ok (ld3 (hS.cell 6 rfl rfl)) ?_ | refine valP_ok (ld3 (hS.cell 7 rfl rfl)) ?_ | refine valP_ok (ld3 (by assumption)) ?_
      refine stay_Hs (hS.pick 5 [3, 4] (by simp) (by decide)) (fun _ h => h) ?_
      refine callR (by kernel_rfl) (blocks_ret (n := X[i].1.sz) (by omega) hS) ?_
      rintro _ w ⟨rfl, hS⟩
      refine stay_Hs (hS.pick 5 [3, 4] (by simp) (by decide)) (fun _ h => h) ?_
      refine callR (by kernel_rfl) (blocks_ret (n := n) (by omega) hS) ?_
      rintro _ w ⟨rfl, hS⟩
      refine stay_Hs (hS.pick 5 [3, 4] (by simp) (by decide)) (fun _ h => h) ?_
      refine valJ_ok (sub_ok _ _ _ (by omega) (by omega)) ?_
      refine valJ_ok (add_ok _ _ _ (by omega) (by omega)) ?_
      refine nil_ok ?_
      first | refine valJ_ok (fa61_1 _) ?_ | refine valJ_ok (fao61_1 _ _) ?_
      first | refine store_at 0 st3 hS rfl (by simp) rfl ?_ | refine store_at 1 st3 hS rfl (by simp) rfl ?_ | refine store_at 2 st3 hS rfl (by simp) rfl ?_ | refine store_at 3 st3 hS rfl (by simp) rfl ?_ | refine store_at 4 st3 hS rfl (by simp) rfl ?_ | refine store_at 5 st3 hS rfl (by simp) rfl ?_ | refine store_at 6 st3 hS rfl (by simp) rfl ?_ | refine store_at 7 st3 hS rfl (by simp) rfl ?_
      intro w hS
      simp only [List.set_cons_zero, List.set_cons_succ] at hS
      refine stay_Hs (hS.pick 5 [3, 4] (by simp) (by decide)) (fun _ h => h) ?_
      exact fin2 _ hS
    · refine callR (by kernel_rfl) (blocks_ret (n := X[i].1.sz) (by omega) hS) ?_
      rintro _ w ⟨rfl, hS⟩
      refine stay_Hs (hS.pick 5 [3, 4] (by simp) (by decide)) (fun _ h => h) ?_
      refine ⟨?_, ?_⟩
      · first | refine valP_ok (ld3 (hS.cell 0 rfl rfl)) ?_ | refine valP_ok (ld3 (hS.cell 1 rfl rfl)) ?_ | refine valP_ok (ld3 (hS.cell 2 rfl rfl)) ?_ | refine valP_ok (ld3 (hS.cell 3 rfl rfl)) ?_ | refine valP_ok (ld3 (hS.cell 4 rfl rfl)) ?_ | refine valP_ok (ld3 (hS.cell 5 rfl rfl)) ?_ | refine valP_ok (ld3 (hS.cell 6 rfl rfl)) ?_ | refine valP_ok (ld3 (hS.cell 7 rfl rfl)) ?_ | refine valP_ok (ld3 (by assumption)) ?_
        refine stay_Hs (hS.pick 5 [3, 4] (by simp) (by decide)) (fun _ h => h) ?_
        refine callR (by kernel_rfl) (blocks_ret (n := n) (by omega) hS) ?_
        rintro _ w ⟨rfl, hS⟩
        refine stay_Hs (hS.pick 5 [3, 4] (by simp) (by decide)) (fun _ h => h) ?_
        refine valJ_ok (sub_ok _ _ _ (by omega) (by omega)) ?_
        refine valJ_ok (add_ok _ _ _ (by omega) (by omega)) ?_
        refine nil_ok ?_
        first | refine valJ_ok (fa61_1 _) ?_ | refine valJ_ok (fao61_1 _ _) ?_
        first | refine store_at 0 st3 hS rfl (by simp) rfl ?_ | refine store_at 1 st3 hS rfl (by simp) rfl ?_ | refine store_at 2 st3 hS rfl (by simp) rfl ?_ | refine store_at 3 st3 hS rfl (by simp) rfl ?_ | refine store_at 4 st3 hS rfl (by simp) rfl ?_ | refine store_at 5 st3 hS rfl (by simp) rfl ?_ | refine store_at 6 st3 hS rfl (by simp) rfl ?_ | refine store_at 7 st3 hS rfl (by simp) rfl ?_
        intro w hS
        simp only [List.set_cons_zero, List.set_cons_succ] at hS
        refine stay_Hs (hS.pick 5 [3, 4] (by simp) (by decide)) (fun _ h => h) ?_
        exact fin2 _ hS
      · refine callR (by kernel_rfl) (blocks_ret (n := n) (by omega) hS) ?_
        rintro _ w ⟨rfl, hS⟩
        refine stay_Hs (hS.pick 5 [3, 4] (by simp) (by decide)) (fun _ h => h) ?_
        refine valJ_ok (sub_ok _ _ _ (by omega) (by omega)) ?_
        first | refine valP_ok (ld3 (hS.cell 0 rfl rfl)) ?_ | refine valP_ok (ld3 (hS.cell 1 rfl rfl)) ?_ | refine valP_ok (ld3 (hS.cell 2 rfl rfl)) ?_ | refine valP_ok (ld3 (hS.cell 3 rfl rfl)) ?_ | refine valP_ok (ld3 (hS.cell 4 rfl rfl)) ?_ | refine valP_ok (ld3 (hS.cell 5 rfl rfl)) ?_ | refine valP_ok (ld3 (hS.cell 6 rfl rfl)) ?_ | refine valP_ok (ld3 (hS.cell 7 rfl rfl)) ?_ | refine valP_ok (ld3 (by assumption)) ?_
        refine stay_Hs (hS.pick 5 [3, 4] (by simp) (by decide)) (fun _ h => h) ?_
        refine valJ_ok (add_ok _ _ _ (by omega) (by omega)) ?_
        refine nil_ok ?_
        first | refine valJ_ok (fa61_1 _) ?_ | refine valJ_ok (fao61_1 _ _) ?_
        first | refine store_at 0 st3 hS rfl (by simp) rfl ?_ | refine store_at 1 st3 hS rfl (by simp) rfl ?_ | refine store_at 2 st3 hS rfl (by simp) rfl ?_ | refine store_at 3 st3 hS rfl (by simp) rfl ?_ | refine store_at 4 st3 hS rfl (by simp) rfl ?_ | refine store_at 5 st3 hS rfl (by simp) rfl ?_ | refine store_at 6 st3 hS rfl (by simp) rfl ?_ | refine store_at 7 st3 hS rfl (by simp) rfl ?_
        intro w hS
        simp only [List.set_cons_zero, List.set_cons_succ] at hS
        refine stay_Hs (hS.pick 5 [3, 4] (by simp) (by decide)) (fun _ h => h) ?_
        exact fin2 _ hS
theorem truncate_ret {n : Int} (hO : Ok size D) (hD : Dsk w0 F L b D w) : Ret Tryd.prog 29 #[ptr b, .string s, .int .i64 n] w fun v w' => v = .int .i64 (truncD D s n).2 ∧ Dsk w0 F L b (truncD D s n).1 w' := by
  obtain ⟨mb, X, hX, hS⟩ := hD
  have hU : UpL (X.map Prod.fst) := hX ▸ hO.up
  refine s29 _ _ _ ?_
  unfold m29
  unfold m29_0
  refine new_ok (bx23 rfl _) hS ?_
  intro b3 w hS
  refine new_ok (bx3 rfl _) hS ?_
  intro b5 w hS
  unfold m29_1
  first | refine valP_ok (ld23 (hS.cell 0 rfl rfl)) ?_ | refine valP_ok (ld23 (hS.cell 1 rfl rfl)) ?_ | refine valP_ok (ld23 (hS.cell 2 rfl rfl)) ?_ | refine valP_ok (ld23 (hS.cell 3 rfl rfl)) ?_ | refine valP_ok (ld23 (hS.cell 4 rfl rfl)) ?_ | refine valP_ok (ld23 (hS.cell 5 rfl rfl)) ?_ | refine valP_ok (ld23 (hS.cell 6 rfl rfl)) ?_ | refine valP_ok (ld23 (hS.cell 7 rfl rfl)) ?_ | refine valP_ok (ld23 (by assumption)) ?_
  refine newslice_ok (bs22_1 rfl _) hS ?_
  intro b11 w hS
  refine callR (by kernel_rfl) (ready_ret (xs := [s]) 3 rfl (by simp) (Bes.of_cells 0 rfl rfl) hS) ?_
  rintro _ w ⟨rfl, hS⟩
  have hS := hS.tail
  have toD : ∀ w, St w0 F w (Res.cells b5 3 [.int .i64 n] :: Res.cells b3 23 [ptr b] :: dCell b (.map (some mb)) D.room D.fuse D.off :: mapD mb X :: (X.map fileR ++ L)) → Dsk w0 F ([Res.cells b5 3 [.int .i64 n], Res.cells b3 23 [ptr b]] ++ L) b D w := fun w hS => ⟨mb, X, hX, St.pushes (R := [Res.cells b5 3 [.int .i64 n], Res.cells b3 23 [ptr b]]) (hS.pick 4 [2, 3, 0, 1] (by simp) (by decide))⟩
  unfold m29_8
  refine valP_ok (ne24 _ _ _ _ _) ?_
  unfold m29_9
  refine cond_split (fun h => ?_) (fun h => ?_)
  · unfold m29_10
    have e : truncD D s n = (D, readyC [s] D.off) := by
      unfold truncD workD
      cases getF D.L s with
      | none => simp only [if_neg h]
      | some f => simp only [if_neg h]; rw [if_neg (fun h1 => h h1.1)]
    rw [e]
    exact ⟨rfl, Dsk.drop (toD _ hS)⟩
  have h := Classical.not_not.1 h
  obtain ⟨hs24, hnm, ho⟩ := ready_size h
  unfold m29_2
  first | refine valP_ok (ld23 (hS.cell 0 rfl rfl)) ?_ | refine valP_ok (ld23 (hS.cell 1 rfl rfl)) ?_ | refine valP_ok (ld23 (hS.cell 2 rfl rfl)) ?_ | refine valP_ok (ld23 (hS.cell 3 rfl rfl)) ?_ | refine valP_ok (ld23 (hS.cell 4 rfl rfl)) ?_ | refine valP_ok (ld23 (hS.cell 5 rfl rfl)) ?_ | refine valP_ok (ld23 (hS.cell 6 rfl rfl)) ?_ | refine valP_ok (ld23 (hS.cell 7 rfl rfl)) ?_ | refine valP_ok (ld23 (by assumption)) ?_
  refine nil_ok ?_
  first | refine valP_ok (fa61_0 _ _) ?_ | refine valP_ok (fao61_0 _ _ _) ?_
  first | refine valP_ok (ld59 (hS.cell 0 rfl rfl)) ?_ | refine valP_ok (ld59 (hS.cell 1 rfl rfl)) ?_ | refine valP_ok (ld59 (hS.cell 2 rfl rfl)) ?_ | refine valP_ok (ld59 (hS.cell 3 rfl rfl)) ?_ | refine valP_ok (ld59 (hS.cell 4 rfl rfl)) ?_ | refine valP_ok (ld59 (hS.cell 5 rfl rfl)) ?_ | refine valP_ok (ld59 (hS.cell 6 rfl rfl)) ?_ | refine valP_ok (ld59 (hS.cell 7 rfl rfl)) ?_ | refine valP_ok (ld59 (by assumption)) ?_
  refine valP_ok ((hS.mapT 3 rfl).lookup Tryd.underlying9 Tryd.underlying59 (zero63 _) (by unfold maxLen; omega)) ?_
  have go : ∀ w, St w0 F w (Res.cells b5 3 [.int .i64 n] :: Res.cells b3 23 [ptr b] :: dCell b (.map (some mb)) D.room D.fuse D.off :: mapD mb X :: (X.map fileR ++ L)) → (∀ f, getF D.L s = some f → 0 ≤ n ∧ n ≤ (f.sz : Int)) → m29_6 (fun v w' => v = .int .i64 (workD D s (truncR n.toNat)).2 ∧ Dsk w0 F L b (workD D s (truncR n.toNat)).1 w') (.string s) (ptr b3) (ptr b5) (.bool false) w := fun w hS hin => by
    unfold m29_6
    refine cond_f rfl ?_
    unfold m29_3
    first | refine valP_ok (ld23 (hS.cell 0 rfl rfl)) ?_ | refine valP_ok (ld23 (hS.cell 1 rfl rfl)) ?_ | refine valP_ok (ld23 (hS.cell 2 rfl rfl)) ?_ | refine valP_ok (ld23 (hS.cell 3 rfl rfl)) ?_ | refine valP_ok (ld23 (hS.cell 4 rfl rfl)) ?_ | refine valP_ok (ld23 (hS.cell 5 rfl rfl)) ?_ | refine valP_ok (ld23 (hS.cell 6 rfl rfl)) ?_ | refine valP_ok (ld23 (hS.cell 7 rfl rfl)) ?_ | refine valP_ok (ld23 (by assumption)) ?_
    refine valP_ok (mf40 _ _ _) ?_
    have hD := toD _ hS
    by_cases hex : ∃ f, getF D.L s = some f
    · obtain ⟨f, hf⟩ := hex
      have hb := hin f hf
      obtain ⟨n, rfl⟩ : ∃ k : Nat, n = (k : Int) := ⟨n.toNat, by omega⟩
      rw [Int.toNat_natCast]
      refine callR (by kernel_rfl) (truncate_work hO (fun f hf => by have := hin f hf; omega) hD) ?_
      rintro _ w ⟨rfl, hD⟩
      unfold m29_4
      exact ⟨rfl, Dsk.drop hD⟩
    · have hno : getF D.L s = none := by
        cases hq : getF D.L s with
        | none => rfl
        | some f => exact absurd ⟨f, hq⟩ hex
      refine callR (by kernel_rfl) (work_ret (fn := 40) (first := #[]) (cap := #[ptr b3, ptr b5]) (Rf := truncR n.toNat) (by kernel_rfl) hO (fun w mb X i hi hX2 hn2 _ => ?_) hD) ?_
      · have hfm : X[i].1 ∈ D.L := by rw [← burnt_L D, ← hX2]; exact List.mem_map.2 ⟨_, List.getElem_mem hi, rfl⟩
        have := getF_mem hO.up hfm
        rw [hn2, hno] at this
        cases this
      · rintro _ w ⟨rfl, hD⟩
        unfold m29_4
        exact ⟨rfl, Dsk.drop hD⟩
  rcases look_X hU s with ⟨h1, h2, h3⟩ | ⟨i, hi, h1, h2, h3⟩
  · rw [h1]
    rw [hX] at h2
    have e : truncD D s n = workD D s (truncR n.toNat) := by
      unfold truncD
      rw [h2]
    rw [e]
    unfold m29_5
    refine drawn_ok hS ?_
    intro w hS
    refine held_Hs hS ?_
    first | refine valJ_ok (ne63n _ _) ?_ | refine valJ_ok (ne63s _ _ _) ?_
    refine cond_f rfl ?_
    first | refine pick_dt (by first | assumption | omega) ?_ | refine pick_df (by first | assumption | omega) ?_ | refine pick_t (by first | rfl | assumption) ?_ | refine pick_f (by first | rfl | assumption) ?_ | refine pick_dt rfl ?_ | refine pick_df (not_not_intro rfl) ?_
    exact go _ hS (fun f hf => by rw [h2] at hf; cases hf)
  · rw [h1]
    rw [hX] at h2
    have hsz := hO.sz (getF_some h2).1
    have hsz' : X[i].1.sure.size + X[i].1.loose.size = X[i].1.sz := rfl
    have out : (n < 0 ∨ (X[i].1.sz : Int) < n) → ∀ w, St w0 F w (Res.cells b5 3 [.int .i64 n] :: Res.cells b3 23 [ptr b] :: dCell b (.map (some mb)) D.room D.fuse D.off :: mapD mb X :: (X.map fileR ++ L)) → m29_6 (fun v w' => v = .int .i64 (truncD D s n).2 ∧ Dsk w0 F L b (truncD D s n).1 w') (.string s) (ptr b3) (ptr b5) (.bool true) w := fun hr w hS => by
      unfold m29_6
      refine cond_t rfl ?_
      unfold m29_7
      have e : truncD D s n = (D, 6) := by
        unfold truncD
        rw [h2]
        simp only
        rw [if_pos ⟨h, hr⟩]
      rw [e]
      exact ⟨rfl, Dsk.drop (toD _ hS)⟩
    unfold m29_5
    refine drawn_ok hS ?_
    intro w hS
    refine held_Hs hS ?_
    first | refine valJ_ok (ne63n _ _) ?_ | refine valJ_ok (ne63s _ _ _) ?_
    refine cond_t rfl ?_
    first | refine valJ_load ld3 (Hs.cell 0 rfl rfl) ?_ | refine valJ_load ld3 (Hs.cell 1 rfl rfl) ?_ | refine valJ_load ld3 (Hs.cell 2 rfl rfl) ?_ | refine valJ_load ld3 (Hs.cell 3 rfl rfl) ?_ | refine valJ_load ld3 (Hs.cell 4 rfl rfl) ?_ | refine valJ_load ld3 (Hs.cell 5 rfl rfl) ?_ | refine valJ_load ld3 (Hs.cell 6 rfl rfl) ?_ | refine valJ_load ld3 (Hs.cell 7 rfl rfl) ?_ | refine valJ_load ld3 (by assumption) ?_
    refine valJ_ok (lss_ok _ _ _ _ _ _) ?_
    refine cond_split (fun h5 => ?_) (fun h5 => ?_)
    · first | refine pick_dt (by first | assumption | omega) ?_ | refine pick_df (by first | assumption | omega) ?_ | refine pick_t (by first | rfl | assumption) ?_ | refine pick_f (by first | rfl | assumption) ?_ | refine pick_dt rfl ?_ | refine pick_df (not_not_intro rfl) ?_
      first | refine pick_dt (by first | assumption | omega) ?_ | refine pick_df (by first | assumption | omega) ?_ | refine pick_t (by first | rfl | assumption) ?_ | refine pick_f (by first | rfl | assumption) ?_ | refine pick_dt rfl ?_ | refine pick_df (not_not_intro rfl) ?_
      exact out (.inl h5) _ hS
    · first | refine valJ_load ld3 (Hs.cell 0 rfl rfl) ?_ | refine valJ_load ld3 (Hs.cell 1 rfl rfl) ?_ | refine valJ_load ld3 (Hs.cell 2 rfl rfl) ?_ | refine valJ_load ld3 (Hs.cell 3 rfl rfl) ?_ | refine valJ_load ld3 (Hs.cell 4 rfl rfl) ?_ | refine valJ_load ld3 (Hs.cell 5 rfl rfl) ?_ | refine valJ_load ld3 (Hs.cell 6 rfl rfl) ?_ | refine valJ_load ld3 (Hs.cell 7 rfl rfl) ?_ | refine valJ_load ld3 (by assumption) ?_
      have hfa : (Res.cells b5 3 [.int .i64 n] :: Res.cells b3 23 [ptr b] :: dCell b (.map (some mb)) D.room D.fuse D.off :: mapD mb X :: (X.map fileR ++ L))[i + 4]? = some (fileR X[i]) := by
        rw [List.getElem?_cons_succ, List.getElem?_cons_succ]
        exact fileAt hi L _ _
      refine callR (by kernel_rfl) (size_ret (i + 4) (by omega) hfa hS) ?_
      rintro _ w ⟨rfl, hS⟩
      refine stay_Hs hS (by first | exact fun _ h => h | exact fun _ h => .tail _ h | exact fun _ h => .tail _ (.tail _ h) | simp) ?_
      refine valJ_ok (gtr_ok _ _ _ _ _ _) ?_
      first | refine pick_dt (by first | assumption | omega) ?_ | refine pick_df (by first | assumption | omega) ?_ | refine pick_t (by first | rfl | assumption) ?_ | refine pick_f (by first | rfl | assumption) ?_ | refine pick_dt rfl ?_ | refine pick_df (not_not_intro rfl) ?_
      first | refine pick_dt (by first | assumption | omega) ?_ | refine pick_df (by first | assumption | omega) ?_ | refine pick_t (by first | rfl | assumption) ?_ | refine pick_f (by first | rfl | assumption) ?_ | refine pick_dt rfl ?_ | refine pick_df (not_not_intro rfl) ?_
      by_cases h6 : (X[i].1.sz : Int) < n
      · rw [show decide (((X[i].1.sure.size + X[i].1.loose.size : Nat) : Int) < n) = true from decide_eq_true (by omega)]
        exact out (.inr h6) _ hS
      · rw [show decide (((X[i].1.sure.size + X[i].1.loose.size : Nat) : Int) < n) = false from decide_eq_false (by omega)]
        have e : truncD D s n = workD D s (truncR n.toNat) := by
          unfold truncD
          rw [h2]
          simp only
          rw [if_neg (fun h7 => by have := h7.2; omega)]
        rw [e]
        exact go _ hS (fun f hf => by
          obtain rfl := Option.some.inj (h2.symm.trans hf)
          omega)
end

end Go.Proofs.YtcldjjmfpmkldaaDoor.M
