/- Parts of a proof, in one text: what it needs of D8, XI, D9, D10, D11, D12, V24, V25, V26, V27, E2, E3, E4, E5, V13, Mlasts0, E6, E7. -/
import Derived.Test.YtcldjjmfpmkldaaGreatDoorJCleanerLasts5
import Derived.Test.YtcldjjmfpmkldaaGreatDoorGen
import Derived.Shelf.SlIter.Nil
import Derived.Shelf.SortM.Plain
import Derived.Shelf.SortM.SortNone
import Derived.Ground.GgzProg
import Derived.Ground.SlgmProg
import Derived.Test.YtcldjjmfpmkldaaGreatDoorProg
import Derived.Laws.BytesArg
namespace Go.Proofs.YtcldjjmfpmkldaaGreatDoor.M
open Go.Proofs.YtcldjjmfpmkldaaGreatDoor.F Go.RowKit
set_option linter.unusedVariables false
set_option linter.unusedSimpArgs false
set_option maxRecDepth 100000
set_option maxHeartbeats 2000000
attribute [local irreducible] Res.cells Res.row Res.map Res.any World.cell? World.frozen? Instr.fieldAt Instr.loadAt Instr.storeAt Instr.indexAt Instr.lookup Instr.mapUpdate Instr.box Instr.build Instr.buildSlice Instr.extract Instr.alloc Instr.field Instr.index Instr.sliceAt Instr.makeSlice Instr.makeMap Instr.makeFunc binS Op.unary Sem.run
/-- another name. -/
def renR (to : ByteArray) (f : Fl) (D : Dk) : Dk × Int := (⟨insF ⟨to, f.sure, f.loose⟩ (delF (delF D.L f.name) to), (match getF D.L to with | some old => if f.name = to then D.room else D.room + blk old.sz | none => D.room), D.fuse, D.off⟩, 0)
def renD (D : Dk) (from_ to : ByteArray) : Dk × Int := if readyC [from_, to] D.off = 0 then workD D from_ (renR to) else (D, readyC [from_, to] D.off)
theorem ready_two {s t : ByteArray} {o : Bool} (h : readyC [s, t] o = 0) : Named s ∧ Named t ∧ o = false := by
  unfold readyC at h
  split at h
  · rename_i h1
    refine ⟨h1 s (.head _), h1 t (.tail _ (.head _)), ?_⟩
    cases o with
    | true => simp at h
    | false => rfl
  · omega
section
variable {w0 w : World} {F : List Nat} {L : List Res} {b : Nat} {D : Dk} {size : Nat} {s to : ByteArray}
theorem rename_work {b3 b4 b5 : Nat} (hO : Ok size D) (hto : to.size ≤ 24) (hD : Dsk w0 F ([Res.cells b5 9 [.string to], Res.cells b4 9 [.string s], Res.cells b3 25 [ptr b]] ++ L) b D w) : Ret Tryz.prog 65 #[ptr b, .string s, .func (.func 68) #[] #[ptr b3, ptr b5, ptr b4]] w fun v w' => v = .int .i64 (workD D s (renR to)).2 ∧ Dsk w0 F ([Res.cells b5 9 [.string to], Res.cells b4 9 [.string s], Res.cells b3 25 [ptr b]] ++ L) b (workD D s (renR to)).1 w' := by
  refine work_ret (fn := 68) (first := #[]) (cap := #[ptr b3, ptr b5, ptr b4]) (Rf := renR to) (by kernel_rfl) hO ?_ hD
  clear hD
  intro w mb X i hi hX hn hS
  have hU : UpL (X.map Prod.fst) := by rw [hX, burnt_L]; exact hO.up
  have hfm : X[i].1 ∈ D.L := by rw [← burnt_L D, ← hX]; exact List.mem_map.2 ⟨_, List.getElem_mem hi, rfl⟩
  have hsz := hO.sz hfm
  have hr := room_le hO
  have hnl : s.size ≤ 24 := hn ▸ hO.names _ hfm
  have hlen : X.length ≤ 256 := by
    have := hO.len
    rw [← burnt_L D, ← hX, List.length_map] at this
    exact this
  have hS := St.pulls (R := [Res.cells b5 9 [.string to], Res.cells b4 9 [.string s], Res.cells b3 25 [ptr b]]) hS
  have fin : ∀ (r : Int) w, St w0 F w (dCell b (.map (some mb)) r (burnt D).fuse (burnt D).off :: fileR X[i] :: mapD mb X :: Res.cells b5 9 [.string to] :: Res.cells b4 9 [.string s] :: Res.cells b3 25 [ptr b] :: ((X.eraseIdx i).map fileR ++ L)) → (renR to X[i].1 (burnt D)).1.room = r → m68_2 (fun v w' => v = .int .i64 (renR to X[i].1 (burnt D)).2 ∧ Dsk w0 F ([Res.cells b5 9 [.string to], Res.cells b4 9 [.string s], Res.cells b3 25 [ptr b]] ++ L) b (renR to X[i].1 (burnt D)).1 w') (ptr X[i].2) (ptr b3) (ptr b5) (ptr b4) w := fun r w hS hroom => by
    unfold m68_2
    refine drawn_ok hS ?_
    intro w hS
    first | refine valS_ok (ld25 (hS.cell 0 rfl rfl)) ?_ | refine valS_ok (ld25 (hS.cell 1 rfl rfl)) ?_ | refine valS_ok (ld25 (hS.cell 2 rfl rfl)) ?_ | refine valS_ok (ld25 (hS.cell 3 rfl rfl)) ?_ | refine valS_ok (ld25 (hS.cell 4 rfl rfl)) ?_ | refine valS_ok (ld25 (hS.cell 5 rfl rfl)) ?_ | refine valS_ok (ld25 (hS.cell 6 rfl rfl)) ?_ | refine valS_ok (ld25 (hS.cell 7 rfl rfl)) ?_ | refine valS_ok (ld25 (by assumption)) ?_
    refine nil_ok ?_
    first | refine valS_ok (fa61_0 _ _) ?_ | refine valS_ok (fao61_0 _ _ _) ?_
    first | refine valS_ok (ld59 (hS.cell 0 rfl rfl)) ?_ | refine valS_ok (ld59 (hS.cell 1 rfl rfl)) ?_ | refine valS_ok (ld59 (hS.cell 2 rfl rfl)) ?_ | refine valS_ok (ld59 (hS.cell 3 rfl rfl)) ?_ | refine valS_ok (ld59 (hS.cell 4 rfl rfl)) ?_ | refine valS_ok (ld59 (hS.cell 5 rfl rfl)) ?_ | refine valS_ok (ld59 (hS.cell 6 rfl rfl)) ?_ | refine valS_ok (ld59 (hS.cell 7 rfl rfl)) ?_ | refine valS_ok (ld59 (by assumption)) ?_
    first | refine valS_ok (ld9 (hS.cell 0 rfl rfl)) ?_ | refine valS_ok (ld9 (hS.cell 1 rfl rfl)) ?_ | refine valS_ok (ld9 (hS.cell 2 rfl rfl)) ?_ | refine valS_ok (ld9 (hS.cell 3 rfl rfl)) ?_ | refine valS_ok (ld9 (hS.cell 4 rfl rfl)) ?_ | refine valS_ok (ld9 (hS.cell 5 rfl rfl)) ?_ | refine valS_ok (ld9 (hS.cell 6 rfl rfl)) ?_ | refine valS_ok (ld9 (hS.cell 7 rfl rfl)) ?_ | refine valS_ok (ld9 (by assumption)) ?_
    refine delT_at 2 ((X.eraseIdx i).map nb) hS rfl Tryz.underlying9 Tryz.underlying59 (by unfold maxLen; omega) (by rw [erase_del hU hi hn, delX_nb]) ?_
    intro w hS
    simp only [List.set_cons_zero, List.set_cons_succ] at hS
    have hY : (X.eraseIdx i).length ≤ 256 := by rw [List.length_eraseIdx]; split <;> omega
    have hYl : ((X.eraseIdx i).map nb).length ≤ 256 := by rw [List.length_map]; exact hY
    have hp := insX_perm (⟨to, X[i].1.sure, X[i].1.loose⟩, X[i].2) ((X.eraseIdx i).filter (fun p => decide (p.1.name ≠ to)))
    unfold m68_3
    refine drawn_ok hS ?_
    intro w hS
    first | refine valS_ok (ld25 (hS.cell 0 rfl rfl)) ?_ | refine valS_ok (ld25 (hS.cell 1 rfl rfl)) ?_ | refine valS_ok (ld25 (hS.cell 2 rfl rfl)) ?_ | refine valS_ok (ld25 (hS.cell 3 rfl rfl)) ?_ | refine valS_ok (ld25 (hS.cell 4 rfl rfl)) ?_ | refine valS_ok (ld25 (hS.cell 5 rfl rfl)) ?_ | refine valS_ok (ld25 (hS.cell 6 rfl rfl)) ?_ | refine valS_ok (ld25 (hS.cell 7 rfl rfl)) ?_ | refine valS_ok (ld25 (by assumption)) ?_
    refine nil_ok ?_
    first | refine valS_ok (fa61_0 _ _) ?_ | refine valS_ok (fao61_0 _ _ _) ?_
    first | refine valS_ok (ld59 (hS.cell 0 rfl rfl)) ?_ | refine valS_ok (ld59 (hS.cell 1 rfl rfl)) ?_ | refine valS_ok (ld59 (hS.cell 2 rfl rfl)) ?_ | refine valS_ok (ld59 (hS.cell 3 rfl rfl)) ?_ | refine valS_ok (ld59 (hS.cell 4 rfl rfl)) ?_ | refine valS_ok (ld59 (hS.cell 5 rfl rfl)) ?_ | refine valS_ok (ld59 (hS.cell 6 rfl rfl)) ?_ | refine valS_ok (ld59 (hS.cell 7 rfl rfl)) ?_ | refine valS_ok (ld59 (by assumption)) ?_
    first | refine valS_ok (ld9 (hS.cell 0 rfl rfl)) ?_ | refine valS_ok (ld9 (hS.cell 1 rfl rfl)) ?_ | refine valS_ok (ld9 (hS.cell 2 rfl rfl)) ?_ | refine valS_ok (ld9 (hS.cell 3 rfl rfl)) ?_ | refine valS_ok (ld9 (hS.cell 4 rfl rfl)) ?_ | refine valS_ok (ld9 (hS.cell 5 rfl rfl)) ?_ | refine valS_ok (ld9 (hS.cell 6 rfl rfl)) ?_ | refine valS_ok (ld9 (hS.cell 7 rfl rfl)) ?_ | refine valS_ok (ld9 (by assumption)) ?_
    refine putT_at 2 ((insX (⟨to, X[i].1.sure, X[i].1.loose⟩, X[i].2) ((X.eraseIdx i).filter (fun p => decide (p.1.name ≠ to)))).map nb) hS rfl Tryz.underlying9 Tryz.underlying59 (by unfold maxLen; omega) (by unfold maxLen; omega) (by rw [← delX_nb]; exact hp.map nb) ?_
    intro w hS
    simp only [List.set_cons_zero, List.set_cons_succ] at hS
    unfold m68_4 m68_5
    refine ⟨rfl, mb, insX (⟨to, X[i].1.sure, X[i].1.loose⟩, X[i].2) ((X.eraseIdx i).filter (fun p => decide (p.1.name ≠ to))), ?_, ?_⟩
    · rw [insX_map, delX_map, erase_del hU hi hn, delX_map, hX, ← hn]
      rfl
    · rw [hroom]
      have q1 := hS.perm (List.Perm.cons _ ((List.Perm.swap _ _ _).trans (List.Perm.cons _ (List.Perm.cons _ (List.perm_append_comm_assoc [Res.cells b5 9 [.string to], Res.cells b4 9 [.string s], Res.cells b3 25 [ptr b]] ((X.eraseIdx i).map fileR) L)))))
      have q2 := q1.sub (List.Sublist.cons_cons _ (List.Sublist.cons_cons _ (List.Sublist.cons_cons _ (List.Sublist.append (List.Sublist.map fileR (List.filter_sublist (l := X.eraseIdx i) (p := fun p => decide (p.1.name ≠ to)))) (List.Sublist.refl _)))))
      exact q2.perm (List.Perm.cons _ (List.Perm.cons _ ((hp.map fileR).append_right _).symm))
  refine s68 _ _ _ _ ?_
  unfold Foc at *
  unfold m68 m68_0
  unfold m68_1
  first | refine valQ_load ld25 (hS.cell 0 rfl rfl) ?_ | refine valQ_load ld25 (hS.cell 1 rfl rfl) ?_ | refine valQ_load ld25 (hS.cell 2 rfl rfl) ?_ | refine valQ_load ld25 (hS.cell 3 rfl rfl) ?_ | refine valQ_load ld25 (hS.cell 4 rfl rfl) ?_ | refine valQ_load ld25 (hS.cell 5 rfl rfl) ?_ | refine valQ_load ld25 (hS.cell 6 rfl rfl) ?_ | refine valQ_load ld25 (hS.cell 7 rfl rfl) ?_ | refine valQ_load ld25 (by assumption) ?_
  refine nil_ok ?_
  first | refine valQ_ok (fa61_0 _) ?_ | refine valQ_ok (fao61_0 _ _) ?_
  first | refine valQ_load ld59 (hS.cell 0 rfl rfl) ?_ | refine valQ_load ld59 (hS.cell 1 rfl rfl) ?_ | refine valQ_load ld59 (hS.cell 2 rfl rfl) ?_ | refine valQ_load ld59 (hS.cell 3 rfl rfl) ?_ | refine valQ_load ld59 (hS.cell 4 rfl rfl) ?_ | refine valQ_load ld59 (hS.cell 5 rfl rfl) ?_ | refine valQ_load ld59 (hS.cell 6 rfl rfl) ?_ | refine valQ_load ld59 (hS.cell 7 rfl rfl) ?_ | refine valQ_load ld59 (by assumption) ?_
  first | refine valQ_load ld9 (hS.cell 0 rfl rfl) ?_ | refine valQ_load ld9 (hS.cell 1 rfl rfl) ?_ | refine valQ_load ld9 (hS.cell 2 rfl rfl) ?_ | refine valQ_load ld9 (hS.cell 3 rfl rfl) ?_ | refine valQ_load ld9 (hS.cell 4 rfl rfl) ?_ | refine valQ_load ld9 (hS.cell 5 rfl rfl) ?_ | refine valQ_load ld9 (hS.cell 6 rfl rfl) ?_ | refine valQ_load ld9 (hS.cell 7 rfl rfl) ?_ | refine valQ_load ld9 (by assumption) ?_
  refine valQ_at (fun n => ((hS.drewN n).mapT 2 rfl).lookup Tryz.underlying9 Tryz.underlying59 (zero63 _) (by unfold maxLen; omega)) ?_
  refine drawn_ok hS ?_
  clear hS
  intro w hS
  rcases look_X hU to with ⟨h1, h2, h3⟩ | ⟨j, hj, h1, h2, h3⟩
  · rw [h1]
    rw [hX] at h2
    unfold m68_6
    first | refine valP_ok (ne76n _ _ _) ?_ | refine valP_ok (ne76s _ _ _ _) ?_
    refine cond_f rfl ?_
    first | refine pick_dt (by first | assumption | omega) ?_ | refine pick_df (by first | assumption | omega) ?_ | refine pick_t (by first | rfl | assumption) ?_ | refine pick_f (by first | rfl | assumption) ?_ | refine pick_dt rfl ?_ | refine pick_df (not_not_intro rfl) ?_
    unfold m68_7
    refine cond_f rfl ?_
    exact fin _ w hS (by unfold renR; rw [h2])
  · rw [h1]
    rw [hX] at h2
    unfold m68_6
    first | refine valP_ok (ne76n _ _ _) ?_ | refine valP_ok (ne76s _ _ _ _) ?_
    refine cond_t rfl ?_
    first | refine valP_ok (ld9 (hS.cell 0 rfl rfl)) ?_ | refine valP_ok (ld9 (hS.cell 1 rfl rfl)) ?_ | refine valP_ok (ld9 (hS.cell 2 rfl rfl)) ?_ | refine valP_ok (ld9 (hS.cell 3 rfl rfl)) ?_ | refine valP_ok (ld9 (hS.cell 4 rfl rfl)) ?_ | refine valP_ok (ld9 (hS.cell 5 rfl rfl)) ?_ | refine valP_ok (ld9 (hS.cell 6 rfl rfl)) ?_ | refine valP_ok (ld9 (hS.cell 7 rfl rfl)) ?_ | refine valP_ok (ld9 (by assumption)) ?_
    first | refine valP_ok (ld9 (hS.cell 0 rfl rfl)) ?_ | refine valP_ok (ld9 (hS.cell 1 rfl rfl)) ?_ | refine valP_ok (ld9 (hS.cell 2 rfl rfl)) ?_ | refine valP_ok (ld9 (hS.cell 3 rfl rfl)) ?_ | refine valP_ok (ld9 (hS.cell 4 rfl rfl)) ?_ | refine valP_ok (ld9 (hS.cell 5 rfl rfl)) ?_ | refine valP_ok (ld9 (hS.cell 6 rfl rfl)) ?_ | refine valP_ok (ld9 (hS.cell 7 rfl rfl)) ?_ | refine valP_ok (ld9 (by assumption)) ?_
    refine valP_ok (ne9 _ _ _ _ _) ?_
    first | refine pick_dt (by first | assumption | omega) ?_ | refine pick_df (by first | assumption | omega) ?_ | refine pick_t (by first | rfl | assumption) ?_ | refine pick_f (by first | rfl | assumption) ?_ | refine pick_dt rfl ?_ | refine pick_df (not_not_intro rfl) ?_
    unfold m68_7
    refine cond_split (fun h4 => ?_) (fun h4 => ?_)
    · have hji : j ≠ i := fun e => by subst e; exact h4 (hn.symm.trans h3)
      have hjm : X[j].1 ∈ D.L := by rw [← burnt_L D, ← hX]; exact List.mem_map.2 ⟨_, List.getElem_mem hj, rfl⟩
      have hjs := hO.sz hjm
      have hjs' : X[j].1.sure.size + X[j].1.loose.size = X[j].1.sz := rfl
      have hbl := blk_le hjs
      have hmem : fileR X[j] ∈ (X.eraseIdx i).map fileR := by
        refine List.mem_map.2 ⟨X[j], ?_, rfl⟩
        rw [erase_del hU hi hn]
        exact List.mem_filter.2 ⟨List.getElem_mem hj, decide_eq_true (fun e => h4 (e.symm.trans h3))⟩
      obtain ⟨k, hk⟩ := List.mem_iff_getElem?.1 hmem
      have hkk : ∀ r, (dCell b (.map (some mb)) r (burnt D).fuse (burnt D).off :: fileR X[i] :: mapD mb X :: Res.cells b5 9 [.string to] :: Res.cells b4 9 [.string s] :: Res.cells b3 25 [ptr b] :: ((X.eraseIdx i).map fileR ++ L))[k + 6]? = some (fileR X[j]) := fun r => by
        rw [List.getElem?_cons_succ, List.getElem?_cons_succ, List.getElem?_cons_succ, List.getElem?_cons_succ, List.getElem?_cons_succ, List.getElem?_cons_succ]
        rw [List.getElem?_append_left (List.getElem?_eq_some_iff.1 hk).1]
        exact hk
      have hrm : (renR to X[i].1 (burnt D)).1.room = (burnt D).room + blk X[j].1.sz := by
        unfold renR
        rw [h2]
        simp only
        rw [if_neg (fun e => h4 (hn.symm.trans e))]
      refine drawn_ok hS ?_
      intro w hS
      refine held_Hs (hS.pick 6 [3, 4, 5] (by simp) (by decide)) ?_
      first | refine valJ_load ld25 (Hs.cell 0 rfl rfl) ?_ | refine valJ_load ld25 (Hs.cell 1 rfl rfl) ?_ | refine valJ_load ld25 (Hs.cell 2 rfl rfl) ?_ | refine valJ_load ld25 (Hs.cell 3 rfl rfl) ?_ | refine valJ_load ld25 (Hs.cell 4 rfl rfl) ?_ | refine valJ_load ld25 (Hs.cell 5 rfl rfl) ?_ | refine valJ_load ld25 (Hs.cell 6 rfl rfl) ?_ | refine valJ_load ld25 (Hs.cell 7 rfl rfl) ?_ | refine valJ_load ld25 (by assumption) ?_
      refine nil_ok ?_
      first | refine valJ_ok (fa61_1 _) ?_ | refine valJ_ok (fao61_1 _ _) ?_
      refine ⟨?_, ?_⟩
      · first | refine valP_ok (ld3 (hS.cell 0 rfl rfl)) ?_ | refine valP_ok (ld3 (hS.cell 1 rfl rfl)) ?_ | refine valP_ok (ld3 (hS.cell 2 rfl rfl)) ?_ | refine valP_ok (ld3 (hS.cell 3 rfl rfl)) ?_ | refine valP_ok (ld3 (hS.cell 4 rfl rfl)) ?_ | refine valP_ok (ld3 (hS.cell 5 rfl rfl)) ?_ | refine valP_ok (ld3 (hS.cell 6 rfl rfl)) ?_ | refine valP_ok (ld3 (hS.cell 7 rfl rfl)) ?_ | refine valP_ok (ld3 (by assumption)) ?_
        refine stay_Hs (hS.pick 6 [3, 4, 5] (by simp) (by decide)) (fun _ h => h) ?_
        refine callR (by kernel_rfl) (size_ret (k + 6) (by omega) (hkk _) hS) ?_
        rintro _ w ⟨rfl, hS⟩
        refine stay_Hs (hS.pick 6 [3, 4, 5] (by simp) (by decide)) (fun _ h => h) ?_
        refine callR (by kernel_rfl) (blocks_ret (n := X[j].1.sz) (by omega) hS) ?_
        rintro _ w ⟨rfl, hS⟩
        refine stay_Hs (hS.pick 6 [3, 4, 5] (by simp) (by decide)) (fun _ h => h) ?_
        refine valJ_ok (add_ok _ _ _ (by omega) (by omega)) ?_
        refine nil_ok ?_
        first | refine valJ_ok (fa61_1 _) ?_ | refine valJ_ok (fao61_1 _ _) ?_
        first | refine store_at 0 st3 hS rfl (by simp) rfl ?_ | refine store_at 1 st3 hS rfl (by simp) rfl ?_ | refine store_at 2 st3 hS rfl (by simp) rfl ?_ | refine store_at 3 st3 hS rfl (by simp) rfl ?_ | refine store_at 4 st3 hS rfl (by simp) rfl ?_ | refine store_at 5 st3 hS rfl (by simp) rfl ?_ | refine store_at 6 st3 hS rfl (by simp) rfl ?_ | refine store_at 7 st3 hS rfl (by simp) rfl ?_
        intro w hS
        simp only [List.set_cons_zero, List.set_cons_succ] at hS
        refine stay_Hs (hS.pick 6 [3, 4, 5] (by simp) (by decide)) (fun _ h => h) ?_
        exact fin _ _ hS hrm
      · refine callR (by kernel_rfl) (size_ret (k + 6) (by omega) (hkk _) hS) ?_
        rintro _ w ⟨rfl, hS⟩
        refine stay_Hs (hS.pick 6 [3, 4, 5] (by simp) (by decide)) (fun _ h => h) ?_
        refine ⟨?_, ?_⟩
        · first | refine valP_ok (ld3 (hS.cell 0 rfl rfl)) ?_ | refine valP_ok (ld3 (hS.cell 1 rfl rfl)) ?_ | refine valP_ok (ld3 (hS.cell 2 rfl rfl)) ?_ | refine valP_ok (ld3 (hS.cell 3 rfl rfl)) ?_ | refine valP_ok (ld3 (hS.cell 4 rfl rfl)) ?_ | refine valP_ok (ld3 (hS.cell 5 rfl rfl)) ?_ | refine valP_ok (ld3 (hS.cell 6 rfl rfl)) ?_ | refine valP_ok (ld3 (hS.cell 7 rfl rfl)) ?_ | refine valP_ok (ld3 (by assumption)) ?_
          refine stay_Hs (hS.pick 6 [3, 4, 5] (by simp) (by decide)) (fun _ h => h) ?_
          refine callR (by kernel_rfl) (blocks_ret (n := X[j].1.sz) (by omega) hS) ?_
          rintro _ w ⟨rfl, hS⟩
          refine stay_Hs (hS.pick 6 [3, 4, 5] (by simp) (by decide)) (fun _ h => h) ?_
          refine valJ_ok (add_ok _ _ _ (by omega) (by omega)) ?_
          refine nil_ok ?_
          first | refine valJ_ok (fa61_1 _) ?_ | refine valJ_ok (fao61_1 _ _) ?_
          first | refine store_at 0 st3 hS rfl (by simp) rfl ?_ | refine store_at 1 st3 hS rfl (by simp) rfl ?_ | refine store_at 2 st3 hS rfl (by simp) rfl ?_ | refine store_at 3 st3 hS rfl (by simp) rfl ?_ | refine store_at 4 st3 hS rfl (by simp) rfl ?_ | refine store_at 5 st3 hS rfl (by simp) rfl ?_ | refine store_at 6 st3 hS rfl (by simp) rfl ?_ | refine store_at 7 st3 hS rfl (by simp) rfl ?_
          intro w hS
          simp only [List.set_cons_zero, List.set_cons_succ] at hS
          refine stay_Hs (hS.pick 6 [3, 4, 5] (by simp) (by decide)) (fun _ h => h) ?_
          exact fin _ _ hS hrm
        · refine callR (by kernel_rfl) (blocks_ret (n := X[j].1.sz) (by omega) hS) ?_
          rintro _ w ⟨rfl, hS⟩
          refine stay_Hs (hS.pick 6 [3, 4, 5] (by simp) (by decide)) (fun _ h => h) ?_
          first | refine valP_ok (ld3 (hS.cell 0 rfl rfl)) ?_ | refine valP_ok (ld3 (hS.cell 1 rfl rfl)) ?_ | refine valP_ok (ld3 (hS.cell 2 rfl rfl)) ?_ | refine valP_ok (ld3 (hS.cell 3 rfl rfl)) ?_ | refine valP_ok (ld3 (hS.cell 4 rfl rfl)) ?_ | refine valP_ok (ld3 (hS.cell 5 rfl rfl)) ?_ | refine valP_ok (ld3 (hS.cell 6 rfl rfl)) ?_ | refine valP_ok (ld3 (hS.cell 7 rfl rfl)) ?_ | refine valP_ok (ld3 (by assumption)) ?_
          refine stay_Hs (hS.pick 6 [3, 4, 5] (by simp) (by decide)) (fun _ h => h) ?_
          refine valJ_ok (add_ok _ _ _ (by omega) (by omega)) ?_
          refine nil_ok ?_
          first | refine valJ_ok (fa61_1 _) ?_ | refine valJ_ok (fao61_1 _ _) ?_
          first | refine store_at 0 st3 hS rfl (by simp) rfl ?_ | refine store_at 1 st3 hS rfl (by simp) rfl ?_ | refine store_at 2 st3 hS rfl (by simp) rfl ?_ | refine store_at 3 st3 hS rfl (by simp) rfl ?_ | refine store_at 4 st3 hS rfl (by simp) rfl ?_ | refine store_at 5 st3 hS rfl (by simp) rfl ?_ | refine store_at 6 st3 hS rfl (by simp) rfl ?_ | refine store_at 7 st3 hS rfl (by simp) rfl ?_
          intro w hS
          simp only [List.set_cons_zero, List.set_cons_succ] at hS
          refine stay_Hs (hS.pick 6 [3, 4, 5] (by simp) (by decide)) (fun _ h => h) ?_
          exact fin _ _ hS hrm
    · refine fin _ w hS ?_
      unfold renR
      rw [h2]
      simp only
      rw [if_pos (hn.trans (Classical.not_not.1 h4))]
theorem rename_ret (hO : Ok size D) (hD : Dsk w0 F L b D w) : Ret Tryz.prog 28 #[ptr b, .string s, .string to] w fun v w' => v = .int .i64 (renD D s to).2 ∧ Dsk w0 F L b (renD D s to).1 w' := by
  obtain ⟨mb, X, hX, hS⟩ := hD
  refine s28 _ _ _ ?_
  unfold m28
  unfold m28_0
  refine new_ok (bx25 rfl _) hS ?_
  intro b3 w hS
  refine new_ok (bx9 rfl _) hS ?_
  intro b4 w hS
  refine new_ok (bx9 rfl _) hS ?_
  intro b5 w hS
  unfold m28_1
  first | refine valP_ok (ld25 (hS.cell 0 rfl rfl)) ?_ | refine valP_ok (ld25 (hS.cell 1 rfl rfl)) ?_ | refine valP_ok (ld25 (hS.cell 2 rfl rfl)) ?_ | refine valP_ok (ld25 (hS.cell 3 rfl rfl)) ?_ | refine valP_ok (ld25 (hS.cell 4 rfl rfl)) ?_ | refine valP_ok (ld25 (hS.cell 5 rfl rfl)) ?_ | refine valP_ok (ld25 (hS.cell 6 rfl rfl)) ?_ | refine valP_ok (ld25 (hS.cell 7 rfl rfl)) ?_ | refine valP_ok (ld25 (by assumption)) ?_
  first | refine valP_ok (ld9 (hS.cell 0 rfl rfl)) ?_ | refine valP_ok (ld9 (hS.cell 1 rfl rfl)) ?_ | refine valP_ok (ld9 (hS.cell 2 rfl rfl)) ?_ | refine valP_ok (ld9 (hS.cell 3 rfl rfl)) ?_ | refine valP_ok (ld9 (hS.cell 4 rfl rfl)) ?_ | refine valP_ok (ld9 (hS.cell 5 rfl rfl)) ?_ | refine valP_ok (ld9 (hS.cell 6 rfl rfl)) ?_ | refine valP_ok (ld9 (hS.cell 7 rfl rfl)) ?_ | refine valP_ok (ld9 (by assumption)) ?_
  first | refine valP_ok (ld9 (hS.cell 0 rfl rfl)) ?_ | refine valP_ok (ld9 (hS.cell 1 rfl rfl)) ?_ | refine valP_ok (ld9 (hS.cell 2 rfl rfl)) ?_ | refine valP_ok (ld9 (hS.cell 3 rfl rfl)) ?_ | refine valP_ok (ld9 (hS.cell 4 rfl rfl)) ?_ | refine valP_ok (ld9 (hS.cell 5 rfl rfl)) ?_ | refine valP_ok (ld9 (hS.cell 6 rfl rfl)) ?_ | refine valP_ok (ld9 (hS.cell 7 rfl rfl)) ?_ | refine valP_ok (ld9 (by assumption)) ?_
  refine newslice_ok (bs71_2 rfl rfl _) hS ?_
  intro b11 w hS
  refine callR (by kernel_rfl) (ready_ret (xs := [s, to]) 4 rfl (by simp) (Bes.of_cells 0 rfl rfl) hS) ?_
  rintro _ w ⟨rfl, hS⟩
  have hS := hS.tail
  unfold m28_4
  refine valP_ok (ne26 _ _ _ _ _) ?_
  unfold m28_5 renD
  have toD : ∀ w, St w0 F w (Res.cells b5 9 [.string to] :: Res.cells b4 9 [.string s] :: Res.cells b3 25 [ptr b] :: dCell b (.map (some mb)) D.room D.fuse D.off :: mapD mb X :: (X.map fileR ++ L)) → Dsk w0 F ([Res.cells b5 9 [.string to], Res.cells b4 9 [.string s], Res.cells b3 25 [ptr b]] ++ L) b D w := fun w hS => ⟨mb, X, hX, St.pushes (R := [Res.cells b5 9 [.string to], Res.cells b4 9 [.string s], Res.cells b3 25 [ptr b]]) (hS.pick 5 [3, 4, 0, 1, 2] (by simp) (by decide))⟩
  refine cond_split (fun h => ?_) (fun h => ?_)
  · unfold m28_6
    rw [if_neg h]
    exact ⟨rfl, Dsk.drop (toD _ hS)⟩
  · have h := Classical.not_not.1 h
    rw [if_pos h]
    obtain ⟨hn1, hn2, _⟩ := ready_two h
    unfold m28_2
    first | refine valP_ok (ld25 (hS.cell 0 rfl rfl)) ?_ | refine valP_ok (ld25 (hS.cell 1 rfl rfl)) ?_ | refine valP_ok (ld25 (hS.cell 2 rfl rfl)) ?_ | refine valP_ok (ld25 (hS.cell 3 rfl rfl)) ?_ | refine valP_ok (ld25 (hS.cell 4 rfl rfl)) ?_ | refine valP_ok (ld25 (hS.cell 5 rfl rfl)) ?_ | refine valP_ok (ld25 (hS.cell 6 rfl rfl)) ?_ | refine valP_ok (ld25 (hS.cell 7 rfl rfl)) ?_ | refine valP_ok (ld25 (by assumption)) ?_
    first | refine valP_ok (ld9 (hS.cell 0 rfl rfl)) ?_ | refine valP_ok (ld9 (hS.cell 1 rfl rfl)) ?_ | refine valP_ok (ld9 (hS.cell 2 rfl rfl)) ?_ | refine valP_ok (ld9 (hS.cell 3 rfl rfl)) ?_ | refine valP_ok (ld9 (hS.cell 4 rfl rfl)) ?_ | refine valP_ok (ld9 (hS.cell 5 rfl rfl)) ?_ | refine valP_ok (ld9 (hS.cell 6 rfl rfl)) ?_ | refine valP_ok (ld9 (hS.cell 7 rfl rfl)) ?_ | refine valP_ok (ld9 (by assumption)) ?_
    refine valP_ok (mf68 _ _ _ _) ?_
    refine callR (by kernel_rfl) (rename_work hO hn2.2.1 (toD _ hS)) ?_
    rintro _ w ⟨rfl, hD⟩
    unfold m28_3
    exact ⟨rfl, Dsk.drop hD⟩
end
end Go.Proofs.YtcldjjmfpmkldaaGreatDoor.M
namespace Go.Proofs
open Go.RowKit Go.Maps Go.Sort Go.Shelf
theorem Tryz.sorts29 (m : Nat) : AnyZ.SortsIn Tryz.prog Tryz.sorted29_ren Fence.wide m :=
  ⟨fun blk off cap ss W hH hblk hsz => callsIn_wide.2 (AnyM.slices_Sort_string Tryz.sort70 blk off cap ss W hH hblk hsz),
   fun p cap W => callsIn_wide.2 (AnyM.slices_Sort_string_none Tryz.sort70 p cap W)⟩
theorem Tryz.maps_Keys_30 (mb : Option Nat) (W : World) : CallsIn Fence.wide 5 Tryz.prog 30 #[.map mb] W fun e w' => e = .returned (.func (.func 71) #[] #[.pointer (some ⟨W.heap.size, 0, none⟩)]) ∧ w' = W.alloc (.cells #[.map mb] 59) :=
  AnyZ.keys_in Tryz.keys30 Fence.wide 5 trivial rfl mb W
set_option maxHeartbeats 1000000 in
theorem Tryz.slices_Sorted_keys_29_30 {H : Type} (b nn : Nat) (D0 : DataW H) (R : Value → Option (DataW H × List MemPlace)) (w : World) (hown : w.ownsMap Tryz.prog 9 R b nn D0) (hmax : Maps.size D0 ≤ maxLen) (hbytes : Maps.size D0 * 16 ≤ 140737488355328) :
    CallsIn Fence.wide 5 Tryz.prog 29 #[.func (.func 71) #[] #[.pointer (some ⟨w.heap.size, 0, none⟩)]] (w.alloc (.cells #[.map (some b)] 59)) fun e w' => ∃ (v : Value) (ss : List (List UInt8)), e = .returned v ∧ ss.Perm (strKeys D0) ∧
      w'.ownsRow (w.alloc (.cells #[.map (some b)] 59)).heap.size 9 1 v ss.length ((ss.mergeSort (fun x y => decide (x ≤ y))).map encStr) ∧ (v = .slice none 0 0 ↔ ss = []) ∧ Below (w.alloc (.cells #[.map (some b)] 59)).heap.size (w.alloc (.cells #[.map (some b)] 59)) w' := by
  have hbl := hown.lt
  have hseq : SeqGives Fence.wide 2 Tryz.prog 71 #[.pointer (some ⟨w.heap.size, 0, none⟩)] encStr (fun ss => ss.Perm (strKeys D0)) (Maps.size D0) (w.alloc (.cells #[.map (some b)] 59)) :=
    AnyZ.keys_gives (ρ := Tryz.keys30_ren) { Tryz.keys30 with } Fence.wide _ trivial rfl (by omega) w.heap.size b nn D0 _ (by simp) (by simp) (by
      obtain ⟨es, clock, hb, Ft, hs, hD⟩ := hown
      exact ⟨es, clock, (Below.heap_alloc _ _ b hbl).trans hb, Ft, hs, hD⟩)
  exact AnyZ.sorted_in Tryz.sorted29 Fence.wide 5 trivial trivial trivial trivial rfl (by omega) (Tryz.sorts29 _) (enters_of Tryz.func70 (by kernel_rfl) rfl) 71 #[.pointer (some ⟨w.heap.size, 0, none⟩)] trivial (enters_of Tryz.func71 (by kernel_rfl) rfl) _ _ hmax hbytes _ hseq
end Go.Proofs
namespace Go.Proofs.YtcldjjmfpmkldaaGreatDoor.M
open Go.Proofs.YtcldjjmfpmkldaaGreatDoor.F Go.RowKit
set_option linter.unusedVariables false
set_option linter.unusedSimpArgs false
set_option maxRecDepth 100000
set_option maxHeartbeats 2000000
attribute [local irreducible] Res.cells Res.row Res.map Res.any World.cell? World.frozen? Instr.fieldAt Instr.loadAt Instr.storeAt Instr.indexAt Instr.lookup Instr.mapUpdate Instr.box Instr.build Instr.buildSlice Instr.extract Instr.alloc Instr.field Instr.index Instr.sliceAt Instr.makeSlice Instr.makeMap Instr.makeFunc binS Op.unary Sem.run
abbrev nRow (A : Option Addr) (c : Nat) (l : List ByteArray) : Res := Res.row 9 1 (.slice A l.length c) l.length (l.map Value.string)
abbrev encFl (f : Fl) : List Value := [.string f.name, .string f.sure, .string f.loose]
abbrev flRow (A : Option Addr) (c : Nat) (l : List Fl) : Res := Res.row 67 3 (.slice A l.length c) l.length (l.flatMap encFl)
theorem encFl_len : ∀ g, (encFl g).length = 3 := fun _ => rfl
theorem encFl_one : ∀ x, ∀ u ∈ encFl x, u.oneCell' = true := fun x u hu => by
  simp only [List.mem_cons, List.not_mem_nil, or_false] at hu
  rcases hu with rfl | rfl | rfl <;> rfl
abbrev names (l : List Fl) : List ByteArray := l.map Fl.name
section
variable {w0 w : World} {F : List Nat} {L : List Res} {K : Value → World → Prop}
theorem sorted_ok (k : Nat) {mb : Nat} {X : List (Fl × Nat)} (hU : UpL (X.map Prod.fst)) (hX : X.length ≤ 256) (hS : St w0 F w L) (hk : L[k]? = some (mapD mb X)) (h : ∀ A c w', St w0 F w' (nRow A c (names (X.map Prod.fst)) :: L) → K (.slice A (names (X.map Prod.fst)).length c) w') : callP Tryz.prog (fnV 30) #[.map (some mb)] w fun t w => callP Tryz.prog (fnV 29) #[t] w K := by
  obtain ⟨es, h1, h2, h3, h4⟩ := hS.mapT k hk
  refine call_ok (by kernel_rfl) (Calls.mono (callsIn_wide.1 (Tryz.maps_Keys_30 (some mb) w)) fun e w1 ⟨he, hw⟩ => ⟨_, he, ?_⟩)
  subst hw
  have hlen : es.length = X.length := by rw [h2.length_eq, List.length_map, List.length_map]
  have hsz : Go.Maps.size (DataW.map es) = X.length := hlen
  refine call_ok (by kernel_rfl) (Calls.mono (callsIn_wide.1 (Tryz.slices_Sorted_keys_29_30 mb _ (.map es) PtrE w h1 (by rw [hsz]; unfold maxLen; omega) (by rw [hsz]; omega))) fun e w2 ⟨v, ss, he, hp, hrow, _, hb⟩ => ⟨v, he, ?_⟩)
  have hS1 := (hS.alloc 59 [.map (some mb)]).tail
  generalize w.alloc (.cells [Value.map (some mb)].toArray 59) = w1 at *
  have hp2 : ss.Perm ((X.map nb).map fun p => lst p.1) := by
    refine hp.trans ?_
    have := h2.map (fun p => strOf p.1)
    rw [List.map_map] at this
    exact this
  rw [sorted_keys (up_nb hU) hp2] at hrow
  have e1 : ((X.map nb).map fun p => lst p.1).map encStr = (names (X.map Prod.fst)).map Value.string := by
    simp only [names, List.map_map]
    refine List.map_congr_left fun p _ => ?_
    simp only [Function.comp_apply, encStr, lst]
  have e2 : ss.length = (names (X.map Prod.fst)).length := by
    rw [hp2.length_eq]
    simp [names]
  rw [e1, e2] at hrow
  have hS2 := hS1.row_add (Chg.of_below hb _) hrow
  obtain ⟨A, c, rfl, _⟩ := hS2.row_form 0 rfl
  exact h A c w2 hS2
theorem names_get {X : List (Fl × Nat)} {i : Nat} (hi : i < X.length) : ((names (X.map Prod.fst)).map Value.string)[i]? = some (.string X[i].1.name) := by
  simp [names, hi]
theorem files_ret {b : Nat} {D : Dk} {size : Nat} (hO : Ok size D) (hD : Dsk w0 F L b D w) : Ret Tryz.prog 24 #[ptr b] w fun v w' => ∃ A c, v = .slice A D.L.length c ∧ Dsk w0 F (flRow A c D.L :: L) b D w' := by
  obtain ⟨mb, X, hX, hS⟩ := hD
  have hU : UpL (X.map Prod.fst) := hX ▸ hO.up
  have hlen : X.length = D.L.length := by rw [← hX, List.length_map]
  have hl := hO.len
  have hnd := (up_nb hU).nd
  refine s24 _ ?_
  unfold m24 m24_0 m24_1
  have hS := hS.row_nil 67 3
  unfold m24_2
  first | refine valP_ok (eq25n _ _ _) ?_ | refine valP_ok (eq25s _ _ _ _) ?_
  unfold m24_13
  refine cond_f rfl ?_
  unfold m24_3
  refine nil_ok ?_
  first | refine valP_ok (fa61_0 _ _) ?_ | refine valP_ok (fao61_0 _ _ _) ?_
  first | refine valP_ok (ld59 (hS.cell 0 rfl rfl)) ?_ | refine valP_ok (ld59 (hS.cell 1 rfl rfl)) ?_ | refine valP_ok (ld59 (hS.cell 2 rfl rfl)) ?_ | refine valP_ok (ld59 (hS.cell 3 rfl rfl)) ?_ | refine valP_ok (ld59 (hS.cell 4 rfl rfl)) ?_ | refine valP_ok (ld59 (hS.cell 5 rfl rfl)) ?_ | refine valP_ok (ld59 (hS.cell 6 rfl rfl)) ?_ | refine valP_ok (ld59 (hS.cell 7 rfl rfl)) ?_ | refine valP_ok (ld59 (by assumption)) ?_
  refine sorted_ok 2 hU (by omega) hS rfl ?_
  clear hS
  intro An cn w hS
  have hnl : (names (X.map Prod.fst)).length = X.length := by simp [names]
  refine builtin_ok (len71 _) ?_
  rw [hnl]
  unfold m24_6
  refine loop_in (fun u w' => ∃ (i : Nat) (A : Option Addr) (c : Nat), u = (.slice A ((X.map Prod.fst).take i).length c, .int .i64 (i : Int)) ∧ i ≤ X.length ∧ St w0 F w' (flRow A c ((X.map Prod.fst).take i) :: nRow An cn (names (X.map Prod.fst)) :: dCell b (.map (some mb)) D.room D.fuse D.off :: mapD mb X :: (X.map fileR ++ L))) (fun u _ => X.length - (intOf u.2).toNat) ⟨0, none, 0, rfl, by omega, hS.perm (.swap _ _ _)⟩ ?_
  clear hS
  rintro u w ⟨i, A, c, rfl, hi, hS⟩
  simp only
  have hti : ((X.map Prod.fst).take i).length = i := by rw [List.length_take, List.length_map]; omega
  unfold m24_7
  refine valP_ok (lss_ok _ _ _ _ _ _ _) ?_
  unfold m24_8
  refine cond_split (fun h => ?_) (fun h => ?_)
  · have hil : i < X.length := by omega
    have hnx : (X.map Prod.fst).take (i + 1) = (X.map Prod.fst).take i ++ [X[i].1] := by
      rw [List.take_succ_eq_append_getElem (by simpa using hil)]
      simp
    have hns : X[i].1.name.size ≤ 24 := hO.names _ (by rw [← hX]; exact List.mem_map.2 ⟨_, List.getElem_mem hil, rfl⟩)
    have hfind : Assoc.find (X.map nb) X[i].1.name = some X[i].2 := Assoc.find_mem hnd (q := nb X[i]) (List.mem_map.2 ⟨_, List.getElem_mem hil, rfl⟩)
    have hrow : (flRow A c ((X.map Prod.fst).take i) :: nRow An cn (names (X.map Prod.fst)) :: dCell b (.map (some mb)) D.room D.fuse D.off :: mapD mb X :: (X.map fileR ++ L))[1]? = some (nRow An cn (names (X.map Prod.fst))) := rfl
    have hR : Rd w 1 An (names (X.map Prod.fst)).length ((names (X.map Prod.fst)).map Value.string) := hS.row_rd 1 hrow
    obtain ⟨gn, on, rfl⟩ := hR.some_ (by omega) (by omega)
    unfold m24_9
    refine valP_ok (ix71 hil _) ?_
    refine valP_ok (ld9 (hR.cell_ (names_get hil))) ?_
    unfold m24_11
    refine nil_ok ?_
    first | refine valP_ok (fa61_0 _ _) ?_ | refine valP_ok (fao61_0 _ _ _) ?_
    first | refine valP_ok (ld59 (hS.cell 0 rfl rfl)) ?_ | refine valP_ok (ld59 (hS.cell 1 rfl rfl)) ?_ | refine valP_ok (ld59 (hS.cell 2 rfl rfl)) ?_ | refine valP_ok (ld59 (hS.cell 3 rfl rfl)) ?_ | refine valP_ok (ld59 (hS.cell 4 rfl rfl)) ?_ | refine valP_ok (ld59 (hS.cell 5 rfl rfl)) ?_ | refine valP_ok (ld59 (hS.cell 6 rfl rfl)) ?_ | refine valP_ok (ld59 (hS.cell 7 rfl rfl)) ?_ | refine valP_ok (ld59 (by assumption)) ?_
    refine valP_ok ((hS.mapT 3 rfl).lookup Tryz.underlying9 Tryz.underlying59 (zero63 _) (by unfold maxLen; omega)) ?_
    rw [hfind]
    unfold m24_12
    refine drawn_ok hS ?_
    intro w hS
    refine held_Hs (hS.pick 2 [1] (by simp) (by decide)) ?_
    have hfa : (nRow (some ⟨gn, on, none⟩) cn (names (X.map Prod.fst)) :: dCell b (.map (some mb)) D.room D.fuse D.off :: mapD mb X :: (X.map fileR ++ L))[i + 3]? = some (fileR X[i]) := by
      rw [List.getElem?_cons_succ]
      exact fileAt hil L _ _
    refine nil_ok ?_
    refine valJ_ok (fun w => fa78_0 _ _) ?_
    refine valJ_load ld9 (Hs.cell (i + 3) hfa (i := 0) rfl) ?_
    refine nil_ok ?_
    refine valJ_ok (fun w => fa78_1 _ _) ?_
    refine valJ_load ld9 (Hs.cell (i + 3) hfa (i := 1) rfl) ?_
    refine valJ_ok (bd67_0_1_2 rfl rfl rfl) ?_
    refine newslice_ok (bs39_1 _) hS ?_
    intro b38 w hS
    refine stay_Hs (hS.pick 3 [2] (by simp) (by decide)) (fun _ h => h) ?_
    refine append_one1 (enc := encFl) 0 X[i].1 sl39 encFl_len encFl_one (by unfold maxLen; omega) (by omega) hS rfl ?_
    intro A' c' w hS
    simp only [List.set_cons_zero] at hS
    refine stay_Hs (hS.pick 2 [1] (by simp) (by decide)) (fun _ h => h) ?_
    unfold m24_10
    refine valP_ok (add_ok _ _ _ (by omega) (by omega) _) ?_
    rw [← hnx] at hS ⊢
    exact ⟨⟨i + 1, A', c', rfl, by omega, hS⟩, by simp [intOf]; omega⟩
  · obtain rfl : i = X.length := by omega
    have e : (X.map Prod.fst).take X.length = D.L := by rw [← hX, List.take_of_length_le (by simp)]
    rw [e] at hS ⊢
    unfold m24_4 m24_5
    exact ⟨A, c, rfl, mb, X, hX, St.push ((hS.pick 4 [0, 2, 3] (by simp) (by decide)))⟩
end
end Go.Proofs.YtcldjjmfpmkldaaGreatDoor.M
namespace Go.Proofs.YtcldjjmfpmkldaaGreatDoor.M
open Go.Proofs.YtcldjjmfpmkldaaGreatDoor.F Go.RowKit
set_option linter.unusedVariables false
set_option linter.unusedSimpArgs false
set_option maxRecDepth 100000
set_option maxHeartbeats 2000000
attribute [local irreducible] Res.cells Res.row Res.map Res.any World.cell? World.frozen? Instr.fieldAt Instr.loadAt Instr.storeAt Instr.indexAt Instr.lookup Instr.mapUpdate Instr.box Instr.build Instr.buildSlice Instr.extract Instr.alloc Instr.field Instr.index Instr.sliceAt Instr.makeSlice Instr.makeMap Instr.makeFunc binS Op.unary Sem.run
/-- so many bytes are kept of a file. -/
def kN (keep : List Int) (i n : Nat) : Nat := if h : i < keep.length then (max 0 (min keep[i] (n : Int))).toNat else 0
def crOne (keep : List Int) (i : Nat) (f : Fl) : Fl := ⟨f.name, f.sure ++ f.loose.extract 0 (kN keep i f.loose.size), ⟨#[]⟩⟩
def crs (keep : List Int) (l : List Fl) : Nat → List Fl
  | 0 => l
  | i + 1 => if h : i < (crs keep l i).length then (crs keep l i).set i (crOne keep i (crs keep l i)[i]) else crs keep l i
def crashD (D : Dk) (keep : List Int) : Dk := ⟨crs keep D.L D.L.length, D.room + used D.L - used (crs keep D.L D.L.length), -1, false⟩
theorem kN_le (keep : List Int) (i n : Nat) : kN keep i n ≤ n := by
  unfold kN
  split <;> omega
theorem crs_len (keep : List Int) (l : List Fl) : ∀ i, (crs keep l i).length = l.length
  | 0 => rfl
  | i + 1 => by
    unfold crs
    split
    · rw [List.length_set, crs_len keep l i]
    · exact crs_len keep l i
theorem crs_names (keep : List Int) (l : List Fl) : ∀ i, names (crs keep l i) = names l
  | 0 => rfl
  | i + 1 => by
    have ih := crs_names keep l i
    unfold crs
    split
    · rename_i h
      unfold names at *
      rw [List.map_set, ← ih]
      have : (crOne keep i (crs keep l i)[i]).name = ((crs keep l i).map Fl.name)[i]'(by simpa using h) := by simp [crOne]
      rw [this, List.set_getElem_self]
    · exact ih
theorem crs_get (keep : List Int) (l : List Fl) : ∀ i j (hj : j < (crs keep l i).length) (hj2 : j < l.length), (crs keep l i)[j] = if j < i then crOne keep j l[j] else l[j]
  | 0, j, hj, hj2 => by rw [if_neg (by omega)]; rfl
  | i + 1, j, hj, hj2 => by
    have hl := crs_len keep l i
    have e : crs keep l (i + 1) = if h : i < (crs keep l i).length then (crs keep l i).set i (crOne keep i (crs keep l i)[i]) else crs keep l i := rfl
    by_cases h : i < (crs keep l i).length
    · rw [dif_pos h] at e
      simp only [e]
      rw [List.getElem_set]
      have ih1 := crs_get keep l i i h (by omega)
      have ih2 := crs_get keep l i j (by omega) hj2
      split
      · rename_i e2
        subst e2
        rw [ih1, if_neg (by omega), if_pos (by omega)]
      · rename_i e2
        rw [ih2]
        by_cases g : j < i
        · rw [if_pos g, if_pos (by omega)]
        · rw [if_neg g, if_neg (by omega)]
    · rw [dif_neg h] at e
      simp only [e]
      have ih2 := crs_get keep l i j (by omega) hj2
      rw [ih2, if_pos (by omega), if_pos (by omega)]
theorem used_set {l : List Fl} {i : Nat} (hi : i < l.length) (f : Fl) : used (l.set i f) + blk l[i].sz = used l + blk f.sz := by
  induction l generalizing i with
  | nil => simp at hi
  | cons q l ih =>
    cases i with
    | zero =>
      simp only [List.set_cons_zero, used, List.map_cons, List.sum_cons, List.getElem_cons_zero]
      omega
    | succ i =>
      have h2 := ih (i := i) (by simpa using hi)
      simp only [List.set_cons_succ, used, List.map_cons, List.sum_cons, List.getElem_cons_succ] at h2 ⊢
      omega
theorem names_up {l l' : List Fl} (h : names l = names l') (hU : UpL l) : UpL l' := by
  have h1 : UpL l ↔ (names l).Pairwise (fun a b => lst a < lst b) := by unfold UpL names; rw [List.pairwise_map]
  have h2 : UpL l' ↔ (names l').Pairwise (fun a b => lst a < lst b) := by unfold UpL names; rw [List.pairwise_map]
  rw [h2, ← h, ← h1]
  exact hU
section
variable {w0 w : World} {F : List Nat} {L : List Res} {b : Nat} {D : Dk} {size : Nat}
theorem crash_ret {keep : List Int} {A : Option Addr} {c : Nat} (hk : keep.length ≤ 1000000) (hO : Ok size D) (hE : Bes w0 F L 1 A keep.length (keep.map (Value.int .i64))) (hD : Dsk w0 F L b D w) : Ret Tryz.prog 9 #[ptr b, .slice A keep.length c] w fun v w' => Dsk w0 F L b (crashD D keep) w' := by
  obtain ⟨mb, X0, hX0, hS⟩ := hD
  have hU0 : UpL (X0.map Prod.fst) := hX0 ▸ hO.up
  have hlen0 : X0.length = D.L.length := by rw [← hX0, List.length_map]
  have hl := hO.len
  have hroom := hO.room
  have hsize := hO.size
  have hsum := hO.sum
  refine s9 _ _ ?_
  unfold m9
  unfold m9_0
  first | refine valP_ok (eq25n _ _ _) ?_ | refine valP_ok (eq25s _ _ _ _) ?_
  unfold m9_15
  refine cond_f rfl ?_
  unfold m9_1
  refine nil_ok ?_
  first | refine valP_ok (fa61_0 _ _) ?_ | refine valP_ok (fao61_0 _ _ _) ?_
  first | refine valP_ok (ld59 (hS.cell 0 rfl rfl)) ?_ | refine valP_ok (ld59 (hS.cell 1 rfl rfl)) ?_ | refine valP_ok (ld59 (hS.cell 2 rfl rfl)) ?_ | refine valP_ok (ld59 (hS.cell 3 rfl rfl)) ?_ | refine valP_ok (ld59 (hS.cell 4 rfl rfl)) ?_ | refine valP_ok (ld59 (hS.cell 5 rfl rfl)) ?_ | refine valP_ok (ld59 (hS.cell 6 rfl rfl)) ?_ | refine valP_ok (ld59 (hS.cell 7 rfl rfl)) ?_ | refine valP_ok (ld59 (by assumption)) ?_
  refine sorted_ok 1 hU0 (by omega) hS rfl ?_
  clear hS
  intro An cn w hS
  have hnn : names (X0.map Prod.fst) = names D.L := by rw [hX0]
  rw [hnn] at hS ⊢
  have hnl : (names D.L).length = D.L.length := by simp [names]
  refine builtin_ok (len71 _) ?_
  unfold m9_3
  refine loop_in (fun u w' => ∃ (i : Nat) (X : List (Fl × Nat)), u = .int .i64 (i : Int) ∧ i ≤ D.L.length ∧ X.map Prod.fst = crs keep D.L i ∧ St w0 F w' (dCell b (.map (some mb)) (D.room + used D.L - used (crs keep D.L i)) D.fuse D.off :: mapD mb X :: (X.map fileR ++ (nRow An cn (names D.L) :: L)))) (fun u _ => D.L.length - (intOf u).toNat) ⟨0, X0, rfl, by omega, hX0, by
    have := St.push hS
    simp only [crs]
    rw [show D.room + (used D.L : Int) - used D.L = D.room by omega]
    exact this⟩ ?_
  clear hS hlen0 hU0 hX0 hnn
  rintro u w ⟨i, X, rfl, hi, hX, hS⟩
  have hcl := crs_len keep D.L i
  have hXl : X.length = D.L.length := by rw [← hcl, ← hX, List.length_map]
  have hU : UpL (X.map Prod.fst) := names_up (by rw [hX, crs_names]) hO.up
  unfold m9_4
  refine valP_ok (lss_ok _ _ _ _ _ _ _) ?_
  unfold m9_5
  refine cond_split (fun h => ?_) (fun h => ?_)
  · have hil : i < X.length := by omega
    have hiD : i < D.L.length := by omega
    have hic : i < (crs keep D.L i).length := by omega
    have hXi : X[i].1 = D.L[i] := by
      have h1 := crs_get keep D.L i i hic hiD
      rw [if_neg (by omega)] at h1
      rw [← h1]
      have : (X.map Prod.fst)[i]'(by simpa using hil) = X[i].1 := by simp
      rw [← this]
      simp only [hX]
    have hXc : (crs keep D.L i)[i] = D.L[i] := by
      have h1 := crs_get keep D.L i i hic hiD
      rw [if_neg (by omega)] at h1
      exact h1
    have hfm : D.L[i] ∈ D.L := List.getElem_mem hiD
    have hns : X[i].1.name.size ≤ 24 := by rw [hXi]; exact hO.names _ hfm
    have hsz := hO.sz hfm
    have hsz' : D.L[i].sure.size + D.L[i].loose.size = D.L[i].sz := rfl
    have hfind : Assoc.find (X.map nb) X[i].1.name = some X[i].2 := Assoc.find_mem (up_nb hU).nd (q := nb X[i]) (List.mem_map.2 ⟨_, List.getElem_mem hil, rfl⟩)
    have hnm : ((names D.L).map Value.string)[i]? = some (.string X[i].1.name) := by
      rw [hXi]
      simp [names, hiD]
    have hR : Rd w 1 An (names D.L).length ((names D.L).map Value.string) := by
      have h1 : (nRow An cn (names D.L)) ∈ (dCell b (.map (some mb)) (D.room + used D.L - used (crs keep D.L i)) D.fuse D.off :: mapD mb X :: (X.map fileR ++ (nRow An cn (names D.L) :: L))) := .tail _ (.tail _ (List.mem_append_right _ (.head _)))
      obtain ⟨k, hk⟩ := List.mem_iff_getElem?.1 h1
      exact hS.row_rd k hk
    obtain ⟨gn, on, rfl⟩ := hR.some_ (by omega) (by omega)
    unfold m9_6
    refine valP_ok (ix71 (by omega) _) ?_
    refine valP_ok (ld9 (hR.cell_ hnm)) ?_
    unfold m9_8
    refine nil_ok ?_
    first | refine valP_ok (fa61_0 _ _) ?_ | refine valP_ok (fao61_0 _ _ _) ?_
    first | refine valP_ok (ld59 (hS.cell 0 rfl rfl)) ?_ | refine valP_ok (ld59 (hS.cell 1 rfl rfl)) ?_ | refine valP_ok (ld59 (hS.cell 2 rfl rfl)) ?_ | refine valP_ok (ld59 (hS.cell 3 rfl rfl)) ?_ | refine valP_ok (ld59 (hS.cell 4 rfl rfl)) ?_ | refine valP_ok (ld59 (hS.cell 5 rfl rfl)) ?_ | refine valP_ok (ld59 (hS.cell 6 rfl rfl)) ?_ | refine valP_ok (ld59 (hS.cell 7 rfl rfl)) ?_ | refine valP_ok (ld59 (by assumption)) ?_
    refine valP_ok ((hS.mapT 1 rfl).lookup Tryz.underlying9 Tryz.underlying59 (zero63 _) (by unfold maxLen; omega)) ?_
    rw [hfind]
    have hS := St.focus hil hS
    have hu2 := used_set hic (crOne keep i D.L[i])
    have hu3 : used (crs keep D.L (i + 1)) + blk D.L[i].sz = used (crs keep D.L i) + blk (crOne keep i D.L[i]).sz := by
      have e : crs keep D.L (i + 1) = if h : i < (crs keep D.L i).length then (crs keep D.L i).set i (crOne keep i (crs keep D.L i)[i]) else crs keep D.L i := rfl
      rw [e, dif_pos hic, hXc]
      rw [hXc] at hu2
      exact hu2
    have hcrL : crs keep D.L (i + 1) = (X.set i (crOne keep i D.L[i], X[i].2)).map Prod.fst := by
      have e : crs keep D.L (i + 1) = if h : i < (crs keep D.L i).length then (crs keep D.L i).set i (crOne keep i (crs keep D.L i)[i]) else crs keep D.L i := rfl
      rw [e, dif_pos hic, hXc, List.map_set, hX]
    have hbl := blk_le hsz
    have hkn := kN_le keep i D.L[i].loose.size
    have hfz : (D.L[i].sure ++ D.L[i].loose.extract 0 (kN keep i D.L[i].loose.size)).size = D.L[i].sure.size + kN keep i D.L[i].loose.size := by rw [ByteArray.size_append, ext_size _ _ _ hkn]; omega
    have hcz : (crOne keep i D.L[i]).sz = D.L[i].sure.size + kN keep i D.L[i].loose.size := by
      show (D.L[i].sure ++ D.L[i].loose.extract 0 (kN keep i D.L[i].loose.size)).size + (⟨#[]⟩ : ByteArray).size = _
      rw [hfz]
      rfl
    have hbl2 := blk_le (n := (crOne keep i D.L[i]).sz) (by omega)
    have hui : (used (crs keep D.L i) : Int) ≤ D.room + used D.L := by
      have h1 : ∀ j, used (crs keep D.L j) ≤ used D.L := fun j => by
        induction j with
        | zero => exact Nat.le_refl _
        | succ j ih =>
          by_cases hj : j < (crs keep D.L j).length
          · have e : crs keep D.L (j + 1) = (crs keep D.L j).set j (crOne keep j (crs keep D.L j)[j]) := dif_pos hj
            have h2 := used_set hj (crOne keep j (crs keep D.L j)[j])
            rw [← e] at h2
            have h3 : blk (crOne keep j (crs keep D.L j)[j]).sz ≤ blk (crs keep D.L j)[j].sz := by
              have hkj := kN_le keep j (crs keep D.L j)[j].loose.size
              have : (crOne keep j (crs keep D.L j)[j]).sz ≤ (crs keep D.L j)[j].sz := by
                show ((crs keep D.L j)[j].sure ++ (crs keep D.L j)[j].loose.extract 0 (kN keep j (crs keep D.L j)[j].loose.size)).size + (⟨#[]⟩ : ByteArray).size ≤ (crs keep D.L j)[j].sure.size + (crs keep D.L j)[j].loose.size
                rw [ByteArray.size_append, ext_size _ _ _ hkj, show (⟨#[]⟩ : ByteArray).size = 0 from rfl]
                omega
              unfold blk
              omega
            omega
          · have e : crs keep D.L (j + 1) = crs keep D.L j := dif_neg hj
            rw [e]
            exact ih
      have := h1 i
      omega
    have last : ∀ w K1, St w0 F w (dCell b (.map (some mb)) (D.room + used D.L - used (crs keep D.L (i + 1))) D.fuse D.off :: fileR (crOne keep i D.L[i], X[i].2) :: mapD mb X :: ((X.eraseIdx i).map fileR ++ (nRow (some ⟨gn, on, none⟩) cn (names D.L) :: L))) → (∀ w' X', X'.map Prod.fst = crs keep D.L (i + 1) → St w0 F w' (dCell b (.map (some mb)) (D.room + used D.L - used (crs keep D.L (i + 1))) D.fuse D.off :: mapD mb X' :: (X'.map fileR ++ (nRow (some ⟨gn, on, none⟩) cn (names D.L) :: L))) → K1 (.int .i64 ((i + 1 : Nat) : Int)) w') → m9_7 (fun v w' => Dsk w0 F L b (crashD D keep) w') K1 (ptr b) (.slice A keep.length c) (.slice (some ⟨gn, on, none⟩) (names D.L).length cn) (.int .i64 ((names D.L).length : Int)) (.int .i64 (i : Int)) w := fun w K1 hS hK => by
      unfold m9_7
      refine valP_ok (add_ok _ _ _ (by omega) (by omega) _) ?_
      have h1 := St.unfocus hil (crOne keep i D.L[i], X[i].2) hS
      have hnb := nb_set (f' := crOne keep i D.L[i]) hil (by rw [hXi]; rfl)
      have hmap : mapD mb X = mapD mb (X.set i (crOne keep i D.L[i], X[i].2)) := by unfold mapD; rw [hnb]
      rw [hmap] at h1
      exact hK w _ hcrL.symm h1
    have main : ∀ w K1, St w0 F w (dCell b (.map (some mb)) (D.room + used D.L - used (crs keep D.L i)) D.fuse D.off :: fileR X[i] :: mapD mb X :: ((X.eraseIdx i).map fileR ++ (nRow (some ⟨gn, on, none⟩) cn (names D.L) :: L))) → (∀ w' X', X'.map Prod.fst = crs keep D.L (i + 1) → St w0 F w' (dCell b (.map (some mb)) (D.room + used D.L - used (crs keep D.L (i + 1))) D.fuse D.off :: mapD mb X' :: (X'.map fileR ++ (nRow (some ⟨gn, on, none⟩) cn (names D.L) :: L))) → K1 (.int .i64 ((i + 1 : Nat) : Int)) w') → m9_11 (fun v w' => Dsk w0 F L b (crashD D keep) w') K1 (ptr b) (.slice A keep.length c) (ptr X[i].2) (.int .i64 (kN keep i D.L[i].loose.size : Int)) (.slice (some ⟨gn, on, none⟩) (names D.L).length cn) (.int .i64 ((names D.L).length : Int)) (.int .i64 (i : Int)) w := fun w K1 hS hK => by
      rw [show fileR X[i] = fCell X[i].2 D.L[i].sure D.L[i].loose by unfold fileR; rw [hXi]] at hS
      have t3 : ∀ w, St w0 F w (dCell b (.map (some mb)) (D.room + used D.L - used (crs keep D.L i) + blk D.L[i].sz) D.fuse D.off :: fileR (crOne keep i D.L[i], X[i].2) :: mapD mb X :: ((X.eraseIdx i).map fileR ++ (nRow (some ⟨gn, on, none⟩) cn (names D.L) :: L))) → m9_13 (fun v w' => Dsk w0 F L b (crashD D keep) w') K1 (ptr b) (.slice A keep.length c) (ptr X[i].2) (.slice (some ⟨gn, on, none⟩) (names D.L).length cn) (.int .i64 ((names D.L).length : Int)) (.int .i64 (i : Int)) w := fun w hS => by
        have e3 : D.room + used D.L - used (crs keep D.L i) + blk D.L[i].sz - blk (crOne keep i D.L[i]).sz = D.room + used D.L - used (crs keep D.L (i + 1)) := by omega
        unfold m9_13
        refine drawn_ok hS ?_
        intro w hS
        refine nil_ok ?_
        first | refine pureP_ok (fa61_1 _) ?_ | refine pureP_ok (fao61_1 _ _) ?_
        refine ⟨?_, ?_⟩
        · first | refine valP_ok (ld3 (hS.cell 0 rfl rfl)) ?_ | refine valP_ok (ld3 (hS.cell 1 rfl rfl)) ?_ | refine valP_ok (ld3 (hS.cell 2 rfl rfl)) ?_ | refine valP_ok (ld3 (hS.cell 3 rfl rfl)) ?_ | refine valP_ok (ld3 (hS.cell 4 rfl rfl)) ?_ | refine valP_ok (ld3 (hS.cell 5 rfl rfl)) ?_ | refine valP_ok (ld3 (hS.cell 6 rfl rfl)) ?_ | refine valP_ok (ld3 (hS.cell 7 rfl rfl)) ?_ | refine valP_ok (ld3 (by assumption)) ?_
          refine callR (by kernel_rfl) (size_ret (g := X[i].2) (a := (crOne keep i D.L[i]).sure) (c := (crOne keep i D.L[i]).loose) 1 (by have := hcz; unfold Fl.sz at this; omega) rfl hS) ?_
          rintro _ w ⟨rfl, hS⟩
          refine callR (by kernel_rfl) (blocks_ret (n := (crOne keep i D.L[i]).sz) (by omega) hS) ?_
          rintro _ w ⟨rfl, hS⟩
          refine pureP_ok (sub_ok _ _ _ (by omega) (by omega)) ?_
          refine nil_ok ?_
          first | refine pureP_ok (fa61_1 _) ?_ | refine pureP_ok (fao61_1 _ _) ?_
          first | refine store_at 0 st3 hS rfl (by simp) rfl ?_ | refine store_at 1 st3 hS rfl (by simp) rfl ?_ | refine store_at 2 st3 hS rfl (by simp) rfl ?_ | refine store_at 3 st3 hS rfl (by simp) rfl ?_ | refine store_at 4 st3 hS rfl (by simp) rfl ?_ | refine store_at 5 st3 hS rfl (by simp) rfl ?_ | refine store_at 6 st3 hS rfl (by simp) rfl ?_ | refine store_at 7 st3 hS rfl (by simp) rfl ?_
          intro w hS
          simp only [List.set_cons_zero, List.set_cons_succ] at hS
          rw [e3] at hS
          exact last _ _ hS hK
        · refine callR (by kernel_rfl) (size_ret (g := X[i].2) (a := (crOne keep i D.L[i]).sure) (c := (crOne keep i D.L[i]).loose) 1 (by have := hcz; unfold Fl.sz at this; omega) rfl hS) ?_
          rintro _ w ⟨rfl, hS⟩
          refine ⟨?_, ?_⟩
          · first | refine valP_ok (ld3 (hS.cell 0 rfl rfl)) ?_ | refine valP_ok (ld3 (hS.cell 1 rfl rfl)) ?_ | refine valP_ok (ld3 (hS.cell 2 rfl rfl)) ?_ | refine valP_ok (ld3 (hS.cell 3 rfl rfl)) ?_ | refine valP_ok (ld3 (hS.cell 4 rfl rfl)) ?_ | refine valP_ok (ld3 (hS.cell 5 rfl rfl)) ?_ | refine valP_ok (ld3 (hS.cell 6 rfl rfl)) ?_ | refine valP_ok (ld3 (hS.cell 7 rfl rfl)) ?_ | refine valP_ok (ld3 (by assumption)) ?_
            refine callR (by kernel_rfl) (blocks_ret (n := (crOne keep i D.L[i]).sz) (by omega) hS) ?_
            rintro _ w ⟨rfl, hS⟩
            refine pureP_ok (sub_ok _ _ _ (by omega) (by omega)) ?_
            refine nil_ok ?_
            first | refine pureP_ok (fa61_1 _) ?_ | refine pureP_ok (fao61_1 _ _) ?_
            first | refine store_at 0 st3 hS rfl (by simp) rfl ?_ | refine store_at 1 st3 hS rfl (by simp) rfl ?_ | refine store_at 2 st3 hS rfl (by simp) rfl ?_ | refine store_at 3 st3 hS rfl (by simp) rfl ?_ | refine store_at 4 st3 hS rfl (by simp) rfl ?_ | refine store_at 5 st3 hS rfl (by simp) rfl ?_ | refine store_at 6 st3 hS rfl (by simp) rfl ?_ | refine store_at 7 st3 hS rfl (by simp) rfl ?_
            intro w hS
            simp only [List.set_cons_zero, List.set_cons_succ] at hS
            rw [e3] at hS
            exact last _ _ hS hK
          · refine callR (by kernel_rfl) (blocks_ret (n := (crOne keep i D.L[i]).sz) (by omega) hS) ?_
            rintro _ w ⟨rfl, hS⟩
            first | refine valP_ok (ld3 (hS.cell 0 rfl rfl)) ?_ | refine valP_ok (ld3 (hS.cell 1 rfl rfl)) ?_ | refine valP_ok (ld3 (hS.cell 2 rfl rfl)) ?_ | refine valP_ok (ld3 (hS.cell 3 rfl rfl)) ?_ | refine valP_ok (ld3 (hS.cell 4 rfl rfl)) ?_ | refine valP_ok (ld3 (hS.cell 5 rfl rfl)) ?_ | refine valP_ok (ld3 (hS.cell 6 rfl rfl)) ?_ | refine valP_ok (ld3 (hS.cell 7 rfl rfl)) ?_ | refine valP_ok (ld3 (by assumption)) ?_
            refine pureP_ok (sub_ok _ _ _ (by omega) (by omega)) ?_
            refine nil_ok ?_
            first | refine pureP_ok (fa61_1 _) ?_ | refine pureP_ok (fao61_1 _ _) ?_
            first | refine store_at 0 st3 hS rfl (by simp) rfl ?_ | refine store_at 1 st3 hS rfl (by simp) rfl ?_ | refine store_at 2 st3 hS rfl (by simp) rfl ?_ | refine store_at 3 st3 hS rfl (by simp) rfl ?_ | refine store_at 4 st3 hS rfl (by simp) rfl ?_ | refine store_at 5 st3 hS rfl (by simp) rfl ?_ | refine store_at 6 st3 hS rfl (by simp) rfl ?_ | refine store_at 7 st3 hS rfl (by simp) rfl ?_
            intro w hS
            simp only [List.set_cons_zero, List.set_cons_succ] at hS
            rw [e3] at hS
            exact last _ _ hS hK
      have t2 : ∀ w, St w0 F w (dCell b (.map (some mb)) (D.room + used D.L - used (crs keep D.L i) + blk D.L[i].sz) D.fuse D.off :: fCell X[i].2 D.L[i].sure D.L[i].loose :: mapD mb X :: ((X.eraseIdx i).map fileR ++ (nRow (some ⟨gn, on, none⟩) cn (names D.L) :: L))) → m9_12 (fun v w' => Dsk w0 F L b (crashD D keep) w') K1 (ptr b) (.slice A keep.length c) (ptr X[i].2) (.int .i64 (kN keep i D.L[i].loose.size : Int)) (.slice (some ⟨gn, on, none⟩) (names D.L).length cn) (.int .i64 ((names D.L).length : Int)) (.int .i64 (i : Int)) w := fun w hS => by
        have hadd : D.L[i].sure.size + (D.L[i].loose.extract 0 (kN keep i D.L[i].loose.size)).size ≤ 9223372036854775807 := by rw [ext_size _ _ _ hkn]; omega
        unfold m9_12
        refine drawn_ok hS ?_
        intro w hS
        refine nil_ok ?_
        first | refine pureP_ok (fa78_0 _) ?_ | refine pureP_ok (fao78_0 _ _) ?_
        refine nil_ok ?_
        first | refine pureP_ok (fa78_1 _) ?_ | refine pureP_ok (fao78_1 _ _) ?_
        refine ⟨?_, ?_⟩
        · first | refine valP_ok (ld9 (hS.cell 0 rfl rfl)) ?_ | refine valP_ok (ld9 (hS.cell 1 rfl rfl)) ?_ | refine valP_ok (ld9 (hS.cell 2 rfl rfl)) ?_ | refine valP_ok (ld9 (hS.cell 3 rfl rfl)) ?_ | refine valP_ok (ld9 (hS.cell 4 rfl rfl)) ?_ | refine valP_ok (ld9 (hS.cell 5 rfl rfl)) ?_ | refine valP_ok (ld9 (hS.cell 6 rfl rfl)) ?_ | refine valP_ok (ld9 (hS.cell 7 rfl rfl)) ?_ | refine valP_ok (ld9 (by assumption)) ?_
          first | refine valP_ok (ld9 (hS.cell 0 rfl rfl)) ?_ | refine valP_ok (ld9 (hS.cell 1 rfl rfl)) ?_ | refine valP_ok (ld9 (hS.cell 2 rfl rfl)) ?_ | refine valP_ok (ld9 (hS.cell 3 rfl rfl)) ?_ | refine valP_ok (ld9 (hS.cell 4 rfl rfl)) ?_ | refine valP_ok (ld9 (hS.cell 5 rfl rfl)) ?_ | refine valP_ok (ld9 (hS.cell 6 rfl rfl)) ?_ | refine valP_ok (ld9 (hS.cell 7 rfl rfl)) ?_ | refine valP_ok (ld9 (by assumption)) ?_
          refine pureP_ok (fun w => sto w hkn) ?_
          refine pureP_ok (fun w => sadd _ _ hadd w) ?_
          refine nil_ok ?_
          first | refine pureP_ok (fa78_0 _) ?_ | refine pureP_ok (fao78_0 _ _) ?_
          first | refine store_at 0 st9 hS rfl (by simp) rfl ?_ | refine store_at 1 st9 hS rfl (by simp) rfl ?_ | refine store_at 2 st9 hS rfl (by simp) rfl ?_ | refine store_at 3 st9 hS rfl (by simp) rfl ?_ | refine store_at 4 st9 hS rfl (by simp) rfl ?_ | refine store_at 5 st9 hS rfl (by simp) rfl ?_ | refine store_at 6 st9 hS rfl (by simp) rfl ?_ | refine store_at 7 st9 hS rfl (by simp) rfl ?_
          intro w hS
          simp only [List.set_cons_zero, List.set_cons_succ] at hS
          refine nil_ok ?_
          first | refine pureP_ok (fa78_1 _) ?_ | refine pureP_ok (fao78_1 _ _) ?_
          first | refine store_at 0 st9 hS rfl (by simp) rfl ?_ | refine store_at 1 st9 hS rfl (by simp) rfl ?_ | refine store_at 2 st9 hS rfl (by simp) rfl ?_ | refine store_at 3 st9 hS rfl (by simp) rfl ?_ | refine store_at 4 st9 hS rfl (by simp) rfl ?_ | refine store_at 5 st9 hS rfl (by simp) rfl ?_ | refine store_at 6 st9 hS rfl (by simp) rfl ?_ | refine store_at 7 st9 hS rfl (by simp) rfl ?_
          intro w hS
          simp only [List.set_cons_zero, List.set_cons_succ] at hS
          exact t3 _ hS
        · first | refine valP_ok (ld9 (hS.cell 0 rfl rfl)) ?_ | refine valP_ok (ld9 (hS.cell 1 rfl rfl)) ?_ | refine valP_ok (ld9 (hS.cell 2 rfl rfl)) ?_ | refine valP_ok (ld9 (hS.cell 3 rfl rfl)) ?_ | refine valP_ok (ld9 (hS.cell 4 rfl rfl)) ?_ | refine valP_ok (ld9 (hS.cell 5 rfl rfl)) ?_ | refine valP_ok (ld9 (hS.cell 6 rfl rfl)) ?_ | refine valP_ok (ld9 (hS.cell 7 rfl rfl)) ?_ | refine valP_ok (ld9 (by assumption)) ?_
          refine pureP_ok (fun w => sto w hkn) ?_
          first | refine valP_ok (ld9 (hS.cell 0 rfl rfl)) ?_ | refine valP_ok (ld9 (hS.cell 1 rfl rfl)) ?_ | refine valP_ok (ld9 (hS.cell 2 rfl rfl)) ?_ | refine valP_ok (ld9 (hS.cell 3 rfl rfl)) ?_ | refine valP_ok (ld9 (hS.cell 4 rfl rfl)) ?_ | refine valP_ok (ld9 (hS.cell 5 rfl rfl)) ?_ | refine valP_ok (ld9 (hS.cell 6 rfl rfl)) ?_ | refine valP_ok (ld9 (hS.cell 7 rfl rfl)) ?_ | refine valP_ok (ld9 (by assumption)) ?_
          refine pureP_ok (fun w => sadd _ _ hadd w) ?_
          refine nil_ok ?_
          first | refine pureP_ok (fa78_0 _) ?_ | refine pureP_ok (fao78_0 _ _) ?_
          first | refine store_at 0 st9 hS rfl (by simp) rfl ?_ | refine store_at 1 st9 hS rfl (by simp) rfl ?_ | refine store_at 2 st9 hS rfl (by simp) rfl ?_ | refine store_at 3 st9 hS rfl (by simp) rfl ?_ | refine store_at 4 st9 hS rfl (by simp) rfl ?_ | refine store_at 5 st9 hS rfl (by simp) rfl ?_ | refine store_at 6 st9 hS rfl (by simp) rfl ?_ | refine store_at 7 st9 hS rfl (by simp) rfl ?_
          intro w hS
          simp only [List.set_cons_zero, List.set_cons_succ] at hS
          refine nil_ok ?_
          first | refine pureP_ok (fa78_1 _) ?_ | refine pureP_ok (fao78_1 _ _) ?_
          first | refine store_at 0 st9 hS rfl (by simp) rfl ?_ | refine store_at 1 st9 hS rfl (by simp) rfl ?_ | refine store_at 2 st9 hS rfl (by simp) rfl ?_ | refine store_at 3 st9 hS rfl (by simp) rfl ?_ | refine store_at 4 st9 hS rfl (by simp) rfl ?_ | refine store_at 5 st9 hS rfl (by simp) rfl ?_ | refine store_at 6 st9 hS rfl (by simp) rfl ?_ | refine store_at 7 st9 hS rfl (by simp) rfl ?_
          intro w hS
          simp only [List.set_cons_zero, List.set_cons_succ] at hS
          exact t3 _ hS
      unfold m9_11
      refine drawn_ok hS ?_
      intro w hS
      refine nil_ok ?_
      first | refine pureP_ok (fa61_1 _) ?_ | refine pureP_ok (fao61_1 _ _) ?_
      refine ⟨?_, ?_⟩
      · first | refine valP_ok (ld3 (hS.cell 0 rfl rfl)) ?_ | refine valP_ok (ld3 (hS.cell 1 rfl rfl)) ?_ | refine valP_ok (ld3 (hS.cell 2 rfl rfl)) ?_ | refine valP_ok (ld3 (hS.cell 3 rfl rfl)) ?_ | refine valP_ok (ld3 (hS.cell 4 rfl rfl)) ?_ | refine valP_ok (ld3 (hS.cell 5 rfl rfl)) ?_ | refine valP_ok (ld3 (hS.cell 6 rfl rfl)) ?_ | refine valP_ok (ld3 (hS.cell 7 rfl rfl)) ?_ | refine valP_ok (ld3 (by assumption)) ?_
        refine callR (by kernel_rfl) (size_ret 1 (by omega) rfl hS) ?_
        rintro _ w ⟨rfl, hS⟩
        refine callR (by kernel_rfl) (blocks_ret (n := D.L[i].sz) (by omega) hS) ?_
        rintro _ w ⟨rfl, hS⟩
        refine pureP_ok (add_ok _ _ _ (by omega) (by omega)) ?_
        refine nil_ok ?_
        first | refine pureP_ok (fa61_1 _) ?_ | refine pureP_ok (fao61_1 _ _) ?_
        first | refine store_at 0 st3 hS rfl (by simp) rfl ?_ | refine store_at 1 st3 hS rfl (by simp) rfl ?_ | refine store_at 2 st3 hS rfl (by simp) rfl ?_ | refine store_at 3 st3 hS rfl (by simp) rfl ?_ | refine store_at 4 st3 hS rfl (by simp) rfl ?_ | refine store_at 5 st3 hS rfl (by simp) rfl ?_ | refine store_at 6 st3 hS rfl (by simp) rfl ?_ | refine store_at 7 st3 hS rfl (by simp) rfl ?_
        intro w hS
        simp only [List.set_cons_zero, List.set_cons_succ] at hS
        exact t2 _ hS
      · refine callR (by kernel_rfl) (size_ret 1 (by omega) rfl hS) ?_
        rintro _ w ⟨rfl, hS⟩
        refine ⟨?_, ?_⟩
        · first | refine valP_ok (ld3 (hS.cell 0 rfl rfl)) ?_ | refine valP_ok (ld3 (hS.cell 1 rfl rfl)) ?_ | refine valP_ok (ld3 (hS.cell 2 rfl rfl)) ?_ | refine valP_ok (ld3 (hS.cell 3 rfl rfl)) ?_ | refine valP_ok (ld3 (hS.cell 4 rfl rfl)) ?_ | refine valP_ok (ld3 (hS.cell 5 rfl rfl)) ?_ | refine valP_ok (ld3 (hS.cell 6 rfl rfl)) ?_ | refine valP_ok (ld3 (hS.cell 7 rfl rfl)) ?_ | refine valP_ok (ld3 (by assumption)) ?_
          refine callR (by kernel_rfl) (blocks_ret (n := D.L[i].sz) (by omega) hS) ?_
          rintro _ w ⟨rfl, hS⟩
          refine pureP_ok (add_ok _ _ _ (by omega) (by omega)) ?_
          refine nil_ok ?_
          first | refine pureP_ok (fa61_1 _) ?_ | refine pureP_ok (fao61_1 _ _) ?_
          first | refine store_at 0 st3 hS rfl (by simp) rfl ?_ | refine store_at 1 st3 hS rfl (by simp) rfl ?_ | refine store_at 2 st3 hS rfl (by simp) rfl ?_ | refine store_at 3 st3 hS rfl (by simp) rfl ?_ | refine store_at 4 st3 hS rfl (by simp) rfl ?_ | refine store_at 5 st3 hS rfl (by simp) rfl ?_ | refine store_at 6 st3 hS rfl (by simp) rfl ?_ | refine store_at 7 st3 hS rfl (by simp) rfl ?_
          intro w hS
          simp only [List.set_cons_zero, List.set_cons_succ] at hS
          exact t2 _ hS
        · refine callR (by kernel_rfl) (blocks_ret (n := D.L[i].sz) (by omega) hS) ?_
          rintro _ w ⟨rfl, hS⟩
          first | refine valP_ok (ld3 (hS.cell 0 rfl rfl)) ?_ | refine valP_ok (ld3 (hS.cell 1 rfl rfl)) ?_ | refine valP_ok (ld3 (hS.cell 2 rfl rfl)) ?_ | refine valP_ok (ld3 (hS.cell 3 rfl rfl)) ?_ | refine valP_ok (ld3 (hS.cell 4 rfl rfl)) ?_ | refine valP_ok (ld3 (hS.cell 5 rfl rfl)) ?_ | refine valP_ok (ld3 (hS.cell 6 rfl rfl)) ?_ | refine valP_ok (ld3 (hS.cell 7 rfl rfl)) ?_ | refine valP_ok (ld3 (by assumption)) ?_
          refine pureP_ok (add_ok _ _ _ (by omega) (by omega)) ?_
          refine nil_ok ?_
          first | refine pureP_ok (fa61_1 _) ?_ | refine pureP_ok (fao61_1 _ _) ?_
          first | refine store_at 0 st3 hS rfl (by simp) rfl ?_ | refine store_at 1 st3 hS rfl (by simp) rfl ?_ | refine store_at 2 st3 hS rfl (by simp) rfl ?_ | refine store_at 3 st3 hS rfl (by simp) rfl ?_ | refine store_at 4 st3 hS rfl (by simp) rfl ?_ | refine store_at 5 st3 hS rfl (by simp) rfl ?_ | refine store_at 6 st3 hS rfl (by simp) rfl ?_ | refine store_at 7 st3 hS rfl (by simp) rfl ?_
          intro w hS
          simp only [List.set_cons_zero, List.set_cons_succ] at hS
          exact t2 _ hS
    unfold m9_9
    unfold m9_10
    refine builtin_ok (len23 _) ?_
    refine valP_ok (lss_ok _ _ _ _ _ _ _) ?_
    unfold m9_14
    refine cond_split (fun h5 => ?_) (fun h5 => ?_)
    · have hik : i < keep.length := by omega
      have hEw : Rd w 1 A keep.length (keep.map (Value.int .i64)) := hE w _ hS (fun r hr => .tail _ (.tail _ (.tail _ (List.mem_append_right _ (.tail _ hr)))))
      obtain ⟨gk, ok, rfl⟩ := hEw.some_ (by omega) (by omega)
      have c1 := hS.cell 1 rfl (i := 1) rfl
      refine valQ_ok (ix23 hik) ?_
      refine valQ_load ld3 (hEw.cell_ (by rw [List.getElem?_map, List.getElem?_eq_getElem hik]; rfl)) ?_
      refine nil_ok ?_
      refine valQ_ok (fun w => fa78_1 _ _) ?_
      refine valQ_load ld9 c1 ?_
      refine builtinQ_ok (len9) ?_
      refine builtinQ_ok (min_run _ _) ?_
      refine builtinQ_ok (max_run _ _) ?_
      refine drawn_ok hS ?_
      intro w hS
      have ek : max 0 (min keep[i] (X[i].1.loose.size : Int)) = (kN keep i D.L[i].loose.size : Int) := by
        unfold kN
        rw [dif_pos hik, hXi]
        omega
      rw [ek]
      exact main _ _ hS (fun w' X' h1 h2 => ⟨⟨i + 1, X', rfl, by omega, h1, h2⟩, by simp [intOf]; omega⟩)
    · have ek : (0 : Int) = (kN keep i D.L[i].loose.size : Int) := by
        unfold kN
        rw [dif_neg (by omega)]
        rfl
      rw [ek]
      exact main _ _ hS (fun w' X' h1 h2 => ⟨⟨i + 1, X', rfl, by omega, h1, h2⟩, by simp [intOf]; omega⟩)
  · obtain rfl : i = D.L.length := by omega
    unfold m9_2
    refine nil_ok ?_
    first | refine valP_ok (fa61_3 _ _) ?_ | refine valP_ok (fao61_3 _ _ _) ?_
    first | refine store_at 0 st4 hS rfl (by simp) rfl ?_ | refine store_at 1 st4 hS rfl (by simp) rfl ?_ | refine store_at 2 st4 hS rfl (by simp) rfl ?_ | refine store_at 3 st4 hS rfl (by simp) rfl ?_ | refine store_at 4 st4 hS rfl (by simp) rfl ?_ | refine store_at 5 st4 hS rfl (by simp) rfl ?_ | refine store_at 6 st4 hS rfl (by simp) rfl ?_ | refine store_at 7 st4 hS rfl (by simp) rfl ?_
    intro w hS
    simp only [List.set_cons_zero, List.set_cons_succ] at hS
    refine nil_ok ?_
    first | refine valP_ok (fa61_2 _ _) ?_ | refine valP_ok (fao61_2 _ _ _) ?_
    first | refine store_at 0 st3 hS rfl (by simp) rfl ?_ | refine store_at 1 st3 hS rfl (by simp) rfl ?_ | refine store_at 2 st3 hS rfl (by simp) rfl ?_ | refine store_at 3 st3 hS rfl (by simp) rfl ?_ | refine store_at 4 st3 hS rfl (by simp) rfl ?_ | refine store_at 5 st3 hS rfl (by simp) rfl ?_ | refine store_at 6 st3 hS rfl (by simp) rfl ?_ | refine store_at 7 st3 hS rfl (by simp) rfl ?_
    intro w hS
    simp only [List.set_cons_zero, List.set_cons_succ] at hS
    exact Dsk.pop ⟨mb, X, hX, hS⟩
end
end Go.Proofs.YtcldjjmfpmkldaaGreatDoor.M
namespace Go.Proofs.YtcldjjmfpmkldaaGreatDoor.M
open Go.Proofs.YtcldjjmfpmkldaaGreatDoor.F Go.RowKit
set_option linter.unusedVariables false
set_option linter.unusedSimpArgs false
set_option maxRecDepth 100000
set_option maxHeartbeats 2000000
attribute [local irreducible] Res.cells Res.row Res.map Res.any World.cell? World.frozen? Instr.fieldAt Instr.loadAt Instr.storeAt Instr.indexAt Instr.lookup Instr.mapUpdate Instr.box Instr.build Instr.buildSlice Instr.extract Instr.alloc Instr.field Instr.index Instr.sliceAt Instr.makeSlice Instr.makeMap Instr.makeFunc binS Op.unary Sem.run
theorem used_upd {l : List Fl} (hU : UpL l) {f f' : Fl} (hf : f ∈ l) (hn : f.name = f'.name) : used (updF l f') + blk f.sz = used l + blk f'.sz := by
  obtain ⟨i, hi, rfl⟩ := List.mem_iff_getElem.1 hf
  rw [← updF_set hU hi hn]
  exact used_set hi f'
theorem names_updF (l : List Fl) (f' : Fl) : names (updF l f') = names l := by
  unfold names updF
  rw [List.map_map]
  refine List.map_congr_left fun f _ => ?_
  simp only [Function.comp_apply]
  split
  · rename_i h; exact h.symm
  · rfl
theorem updF_len (l : List Fl) (f' : Fl) : (updF l f').length = l.length := by unfold updF; rw [List.length_map]
theorem used_ins (f : Fl) (l : List Fl) : used (insF f l) = blk f.sz + used l := by
  unfold used
  have := ((insF_perm f l).map (fun f => blk f.sz)).sum_nat
  rw [this, List.map_cons, List.sum_cons]
theorem insF_len (f : Fl) (l : List Fl) : (insF f l).length = l.length + 1 := by rw [(insF_perm f l).length_eq, List.length_cons]
theorem delF_none {l : List Fl} {s : ByteArray} (h : ∀ g ∈ l, g.name ≠ s) : delF l s = l := List.filter_eq_self.2 fun g hg => decide_eq_true (h g hg)
theorem used_del {l : List Fl} (hU : UpL l) {f : Fl} (hf : f ∈ l) : used (delF l f.name) + blk f.sz = used l ∧ (delF l f.name).length + 1 = l.length := by
  induction l with
  | nil => cases hf
  | cons q l ih =>
    have hq := List.pairwise_cons.1 (up_ne hU)
    rcases List.mem_cons.1 hf with rfl | hf
    · have e : delF (f :: l) f.name = l := by
        unfold delF
        rw [List.filter_cons_of_neg (by simp)]
        exact delF_none fun g hg => (hq.1 g hg).symm
      rw [e]
      exact ⟨Nat.add_comm _ _, rfl⟩
    · have e : delF (q :: l) f.name = q :: delF l f.name := by
        unfold delF
        rw [List.filter_cons_of_pos (by simpa using hq.1 f hf)]
      have := ih (List.pairwise_cons.1 hU).2 hf
      rw [e]
      simp only [used, List.map_cons, List.sum_cons, List.length_cons] at this ⊢
      omega
theorem delF_up {l : List Fl} (hU : UpL l) (s : ByteArray) : UpL (delF l s) := hU.filter _
theorem delF_mem {l : List Fl} {s : ByteArray} {f : Fl} : f ∈ delF l s ↔ f ∈ l ∧ f.name ≠ s := by
  unfold delF
  rw [List.mem_filter, decide_eq_true_eq]
theorem updF_mem {l : List Fl} {f' g : Fl} (h : g ∈ updF l f') : g ∈ l ∨ g = f' := by
  unfold updF at h
  obtain ⟨q, hq, rfl⟩ := List.mem_map.1 h
  split
  · exact .inr rfl
  · exact .inl hq
theorem getF_of {l : List Fl} {s : ByteArray} (h : getF l s = none) : ∀ g ∈ l, g.name ≠ s := fun g hg e => by
  have := List.find?_eq_none.1 h g hg
  simp [e] at this
theorem ready_named {s : ByteArray} {o : Bool} (h : readyC [s] o = 0) : Named s := (ready_size h).2.1
section
variable {size : Nat} {D : Dk} {s t : ByteArray}
theorem Ok.upd {f f' : Fl} {r : Int} (h : Ok size D) (hf : f ∈ D.L) (hn : f.name = f'.name) (hr : r + blk f'.sz = D.room + blk f.sz) (hr0 : 0 ≤ r) : Ok size ⟨updF D.L f', r, D.fuse, D.off⟩ := by
  have hu := used_upd h.up hf hn
  have hs := h.sum
  refine ⟨names_up (names_updF _ _).symm h.up, by simp only [updF_len]; exact h.len, hr0, by simp only; omega, fun g hg => ?_, h.fuse, h.size⟩
  rcases updF_mem hg with hg | rfl
  · exact h.names g hg
  · rw [← hn]; exact h.names f hf
theorem Ok.app (h : Ok size D) : Ok size (appD D s t).1 := by
  unfold appD
  by_cases hr : readyC [s] D.off = 0
  · rw [if_pos hr]
    have hnm := ready_named hr
    cases hg : getF D.L s with
    | some f =>
      simp only
      obtain ⟨hf, hn⟩ := getF_some hg
      split
      · exact h
      · rename_i h1
        have hz : (⟨s, f.sure, f.loose ++ t⟩ : Fl).sz = f.sz + t.size := by
          show f.sure.size + (f.loose ++ t).size = f.sure.size + f.loose.size + t.size
          rw [ByteArray.size_append]
          omega
        exact Ok.burnt (Ok.upd (f := f) h hf hn (by rw [hz]; omega) (by omega))
    | none =>
      simp only
      split
      · exact h
      · rename_i h1
        have hz : (⟨s, ⟨#[]⟩, t⟩ : Fl).sz = t.size := by
          show (⟨#[]⟩ : ByteArray).size + t.size = t.size
          rw [show (⟨#[]⟩ : ByteArray).size = 0 from rfl]
          omega
        have hu := used_ins ⟨s, ⟨#[]⟩, t⟩ D.L
        have hs := h.sum
        have hl := insF_len ⟨s, ⟨#[]⟩, t⟩ D.L
        rw [hz] at hu
        refine Ok.burnt ⟨insF_up h.up (getF_of hg), by simp only; omega, by simp only; omega, by simp only; omega, fun g hg => ?_, h.fuse, h.size⟩
        rcases List.mem_cons.1 ((insF_perm _ _).mem_iff.1 hg) with rfl | hg
        · exact hnm.2.1
        · exact h.names g hg
  · rw [if_neg hr]
    exact h
theorem Ok.work {Rf : Fl → Dk → Dk × Int} (h : Ok size D) (hR : ∀ f D', getF D.L s = some f → Ok size D' → D'.L = D.L → f ∈ D'.L → f.name = s → Ok size (Rf f D').1) : Ok size (workD D s Rf).1 := by
  unfold workD
  split
  · split
    · rename_i f hg
      split
      · exact h.burnt
      · exact hR f _ hg h.burnt (burnt_L D) (by rw [burnt_L]; exact (getF_some hg).1) (getF_some hg).2
    · exact h
  · exact h
theorem Ok.sync (h : Ok size D) : Ok size (workD D s syncR).1 := h.work fun f D' _ h hL hf hn => by
  have hz : (⟨f.name, f.sure ++ f.loose, ⟨#[]⟩⟩ : Fl).sz = f.sz := by
    show (f.sure ++ f.loose).size + (⟨#[]⟩ : ByteArray).size = f.sure.size + f.loose.size
    rw [ByteArray.size_append, show (⟨#[]⟩ : ByteArray).size = 0 from rfl]
    omega
  exact Ok.upd (f := f) h hf rfl (by rw [hz]) h.room
theorem Ok.remove (h : Ok size D) : Ok size (workD D s removeR).1 := h.work fun f D' _ h hL hf hn => by
  have hu := used_del h.up hf
  have hs := h.sum
  have hr := h.room
  have hl := h.len
  exact ⟨delF_up h.up _, by show (delF D'.L f.name).length ≤ 256; omega, by show 0 ≤ D'.room + blk f.sz; omega, by show D'.room + blk f.sz + used (delF D'.L f.name) = size; omega, fun g hg => h.names g (delF_mem.1 hg).1, h.fuse, h.size⟩
theorem Ok.ren (h : Ok size D) : Ok size (renD D s t).1 := by
  unfold renD
  split
  · rename_i hr
    obtain ⟨h1, h2, _⟩ := ready_two hr
    refine h.work fun f D' _ h hL hf hn => ?_
    have hu := used_del h.up hf
    have hs := h.sum
    have hr := h.room
    have hl := h.len
    have hU2 := delF_up (delF_up h.up f.name) t
    have hi := used_ins ⟨t, f.sure, f.loose⟩ (delF (delF D'.L f.name) t)
    have hil := insF_len ⟨t, f.sure, f.loose⟩ (delF (delF D'.L f.name) t)
    have hz : (⟨t, f.sure, f.loose⟩ : Fl).sz = f.sz := rfl
    rw [hz] at hi
    have hup : UpL (insF ⟨t, f.sure, f.loose⟩ (delF (delF D'.L f.name) t)) := insF_up hU2 fun g hg => (delF_mem.1 hg).2
    have hnm : ∀ g ∈ insF ⟨t, f.sure, f.loose⟩ (delF (delF D'.L f.name) t), g.name.size ≤ 24 := fun g hg => by
      rcases List.mem_cons.1 ((insF_perm _ _).mem_iff.1 hg) with rfl | hg
      · exact h2.2.1
      · exact h.names g (delF_mem.1 (delF_mem.1 hg).1).1
    have fin : ∀ r : Int, 0 ≤ r → r + used (delF (delF D'.L f.name) t) + blk f.sz = size → (delF (delF D'.L f.name) t).length + 1 ≤ 256 → (renR t f D').1.room = r → Ok size (renR t f D').1 := fun r hr0 hr1 hr2 e => by
      refine ⟨hup, ?_, by rw [e]; exact hr0, ?_, hnm, h.fuse, h.size⟩
      · show (insF ⟨t, f.sure, f.loose⟩ (delF (delF D'.L f.name) t)).length ≤ 256
        omega
      · rw [e]
        show r + used (insF ⟨t, f.sure, f.loose⟩ (delF (delF D'.L f.name) t)) = size
        omega
    cases hg : getF D'.L t with
    | none =>
      have e1 : delF (delF D'.L f.name) t = delF D'.L f.name := delF_none fun g hg2 => getF_of hg g (delF_mem.1 hg2).1
      rw [e1] at fin
      exact fin D'.room hr (by omega) (by omega) (by unfold renR; rw [hg])
    | some old =>
      obtain ⟨ho, hon⟩ := getF_some hg
      by_cases hft : f.name = t
      · have e1 : delF (delF D'.L f.name) t = delF D'.L f.name := delF_none fun g hg2 => by rw [← hft]; exact (delF_mem.1 hg2).2
        rw [e1] at fin
        exact fin D'.room hr (by omega) (by omega) (by unfold renR; rw [hg]; simp only; rw [if_pos hft])
      · have hod : old ∈ delF D'.L f.name := delF_mem.2 ⟨ho, fun e => hft (e.symm.trans hon)⟩
        have hu2 := used_del (delF_up h.up f.name) hod
        rw [hon] at hu2
        exact fin (D'.room + blk old.sz) (by omega) (by omega) (by omega) (by unfold renR; rw [hg]; simp only; rw [if_neg hft])
  · exact h
theorem crs_used (keep : List Int) (l : List Fl) : ∀ j, used (crs keep l j) ≤ used l
  | 0 => Nat.le_refl _
  | j + 1 => by
    have ih := crs_used keep l j
    by_cases hj : j < (crs keep l j).length
    · have e : crs keep l (j + 1) = (crs keep l j).set j (crOne keep j (crs keep l j)[j]) := dif_pos hj
      have h2 := used_set hj (crOne keep j (crs keep l j)[j])
      rw [← e] at h2
      have h3 : blk (crOne keep j (crs keep l j)[j]).sz ≤ blk (crs keep l j)[j].sz := by
        have hkj := kN_le keep j (crs keep l j)[j].loose.size
        have : (crOne keep j (crs keep l j)[j]).sz ≤ (crs keep l j)[j].sz := by
          show ((crs keep l j)[j].sure ++ (crs keep l j)[j].loose.extract 0 (kN keep j (crs keep l j)[j].loose.size)).size + (⟨#[]⟩ : ByteArray).size ≤ (crs keep l j)[j].sure.size + (crs keep l j)[j].loose.size
          rw [ByteArray.size_append, ext_size _ _ _ hkj, show (⟨#[]⟩ : ByteArray).size = 0 from rfl]
          omega
        unfold blk
        omega
      omega
    · have e : crs keep l (j + 1) = crs keep l j := dif_neg hj
      rw [e]
      exact ih
theorem Ok.crash {keep : List Int} (h : Ok size D) : Ok size (crashD D keep) := by
  have hu := crs_used keep D.L D.L.length
  have hr := h.room
  have hs := h.sum
  have hl := crs_len keep D.L D.L.length
  refine ⟨names_up (crs_names keep D.L D.L.length).symm h.up, by show (crs keep D.L D.L.length).length ≤ 256; rw [hl]; exact h.len, by show 0 ≤ D.room + used D.L - used (crs keep D.L D.L.length); omega, by show D.room + used D.L - used (crs keep D.L D.L.length) + used (crs keep D.L D.L.length) = size; omega, fun g hg => ?_, by show (-1 : Int) ≤ -1 ∧ (-1 : Int) ≤ 9223372036854775807; omega, h.size⟩
  have h1 : g.name ∈ List.map Fl.name (crs keep D.L D.L.length) := List.mem_map.2 ⟨g, hg, rfl⟩
  rw [show List.map Fl.name (crs keep D.L D.L.length) = List.map Fl.name D.L from crs_names keep D.L D.L.length] at h1
  obtain ⟨f, hf, e⟩ := List.mem_map.1 h1
  rw [← e]
  exact h.names f hf
theorem Ok.setFuse {n : Int} (hn : n ≤ 9223372036854775807) (h : Ok size D) : Ok size ⟨D.L, D.room, max n (-1), D.off⟩ := ⟨h.up, h.len, h.room, h.sum, h.names, by show -1 ≤ max n (-1) ∧ max n (-1) ≤ 9223372036854775807; omega, h.size⟩
theorem Ok.new {n : Int} (h : 1 ≤ n ∧ n ≤ 16384) : Ok n.toNat ⟨[], n, -1, false⟩ := ⟨.nil, Nat.zero_le _, by show 0 ≤ n; omega, by show n + ((0 : Nat) : Int) = n.toNat; omega, fun _ h => (by cases h), by show (-1 : Int) ≤ -1 ∧ (-1 : Int) ≤ 9223372036854775807; omega, by omega⟩
end
end Go.Proofs.YtcldjjmfpmkldaaGreatDoor.M
namespace Go.Proofs.YtcldjjmfpmkldaaGreatDoor.M
open Go.Proofs.YtcldjjmfpmkldaaGreatDoor.F Go.RowKit
set_option linter.unusedVariables false
set_option linter.unusedSimpArgs false
set_option maxRecDepth 100000
set_option maxHeartbeats 2000000
attribute [local irreducible] Res.cells Res.row Res.map Res.any World.cell? World.frozen? Instr.fieldAt Instr.loadAt Instr.storeAt Instr.indexAt Instr.lookup Instr.mapUpdate Instr.box Instr.build Instr.buildSlice Instr.extract Instr.alloc Instr.field Instr.index Instr.sliceAt Instr.makeSlice Instr.makeMap Instr.makeFunc binS Op.unary Sem.run
end Go.Proofs.YtcldjjmfpmkldaaGreatDoor.M
namespace Go.Proofs.YtcldjjmfpmkldaaGreatDoor.M
open Go.Proofs.YtcldjjmfpmkldaaGreatDoor.F Go.RowKit
set_option linter.unusedVariables false
set_option linter.unusedSimpArgs false
set_option maxRecDepth 100000
set_option maxHeartbeats 2000000
attribute [local irreducible] Res.cells Res.row Res.map Res.any World.cell? World.frozen? Instr.fieldAt Instr.loadAt Instr.storeAt Instr.indexAt Instr.lookup Instr.mapUpdate Instr.box Instr.build Instr.buildSlice Instr.extract Instr.alloc Instr.field Instr.index Instr.sliceAt Instr.makeSlice Instr.makeMap Instr.makeFunc binS Op.unary Sem.run
section
variable {w0 w : World} {F : List Nat} {L : List Res} {l : List Gt} {A : Option Addr} {c : Nat}
theorem check_ret (hm : l.length ≤ 100000) (hg : ∀ g ∈ l, GtS g) (hE : BG w0 F L A l) (hS : St w0 F w L) : Ret Tryz.prog 57 #[.slice A l.length c] w fun v w' => v = .int .i64 (if MayL l then 0 else 1) ∧ St w0 F w' L := by
  refine s57 _ ?_
  unfold m57
  unfold m57_0
  unfold m57_1
  refine builtin_ok (len22 _) ?_
  unfold m57_7
  refine loop_in (fun u w' => ∃ i : Nat, u = .int .i64 (i : Int) ∧ i ≤ l.length ∧ (∀ j (hj : j < l.length), j < i → MayG l[j]) ∧ St w0 F w' L) (fun u _ => l.length - (intOf u).toNat) ⟨0, rfl, by omega, fun j _ h => by omega, hS⟩ ?_
  clear hS
  rintro u w ⟨i, rfl, hi, hno, hS⟩
  unfold m57_8
  refine valP_ok (lss_ok _ _ _ _ _ _ _) ?_
  unfold m57_9
  refine cond_split (fun h => ?_) (fun h => ?_)
  · have hil : i < l.length := by omega
    have hgi := hg _ (List.getElem_mem hil)
    obtain ⟨gb, o, rfl⟩ := (hE.rd hS).some_ (by omega) (by omega)
    have p := g_at (hE.rd hS) hil
    unfold m57_10
    refine valP_ok (ix22 hil _) ?_
    refine valP_ok (ld58 p.1 p.2.1 p.2.2.1 p.2.2.2) ?_
    refine new_ok (al58 _) hS ?_
    intro b4 w hS
    first | refine ss58 0 hS rfl rfl rfl rfl rfl ?_ | refine ss58 1 hS rfl rfl rfl rfl rfl ?_ | refine ss58 2 hS rfl rfl rfl rfl rfl ?_ | refine ss58 3 hS rfl rfl rfl rfl rfl ?_ | refine ss58 4 hS rfl rfl rfl rfl rfl ?_ | refine ss58 5 hS rfl rfl rfl rfl rfl ?_ | refine ss58 6 hS rfl rfl rfl rfl rfl ?_ | refine ss58 7 hS rfl rfl rfl rfl rfl ?_
    intro w hS
    simp only [List.set_cons_zero, List.set_cons_succ] at hS
    unfold m57_12
    refine valP_ok (fa58_1 _ _) ?_
    refine valP_ok (ld56 (hS.cell 0 rfl rfl) (hS.cell 0 rfl rfl) (hS.cell 0 rfl rfl)) ?_
    refine callR (by kernel_rfl) (putrec_ret (r := l[i].r) hgi.1.1 hgi.1.2 hgi.2 hS) ?_
    rintro _ w ⟨rfl, hS⟩
    refine callR (by kernel_rfl) (takerec_ret hS) ?_
    rintro _ w ⟨rfl, hS⟩
    rw [recV_put hgi.1.1 hgi.1.2 (by have := hgi.2; omega)]
    have leaf : ∀ (K1 : Value → World → Prop), (MayG l[i] → ∀ w', St w0 F w' L → K1 (.int .i64 ((i + 1 : Nat) : Int)) w') → ∀ t : Bool, (t = true ↔ ¬ MayG l[i]) → ∀ w, St w0 F w L → m57_14 (fun v w' => v = .int .i64 (if MayL l then 0 else 1) ∧ St w0 F w' L) K1 (.slice (some ⟨gb, o, none⟩) l.length c) (.slice (some ⟨gb, o, none⟩) l.length c) (.int .i64 (l.length : Int)) (.int .i64 (i : Int)) (.bool t) w := fun K1 hK t ht w hS => by
      unfold m57_14
      cases t with
      | true =>
        refine cond_t rfl ?_
        unfold m57_15
        rw [if_neg (fun h => ht.1 rfl (h.1 _ (List.getElem_mem hil)))]
        exact ⟨rfl, hS⟩
      | false =>
        refine cond_f rfl ?_
        unfold m57_11
        refine valP_ok (add_ok _ _ _ (by omega) (by omega) _) ?_
        exact hK (Classical.byContradiction fun h => by have := ht.2 h; cases this) w hS
    have next : MayG l[i] → ∀ j (hj : j < l.length), j < i + 1 → MayG l[j] := fun hn j hj h3 => by
      rcases Nat.lt_or_ge j i with g | g
      · exact hno j hj g
      · obtain rfl : j = i := by omega
        exact hn
    by_cases hr : MayR l[i].r
    · rw [if_pos hr]
      refine valP_ok (extract_ok _ 0 rfl _) ?_
      refine valP_ok (extract_ok _ 1 rfl _) ?_
      refine valP_ok (extract_ok _ 2 rfl _) ?_
      refine new_ok (al56 _) hS ?_
      intro b5 w hS
      first | refine ss56 0 hS rfl rfl rfl rfl ?_ | refine ss56 1 hS rfl rfl rfl rfl ?_ | refine ss56 2 hS rfl rfl rfl rfl ?_ | refine ss56 3 hS rfl rfl rfl rfl ?_ | refine ss56 4 hS rfl rfl rfl rfl ?_ | refine ss56 5 hS rfl rfl rfl rfl ?_ | refine ss56 6 hS rfl rfl rfl rfl ?_ | refine ss56 7 hS rfl rfl rfl rfl ?_
      intro w hS
      simp only [List.set_cons_zero, List.set_cons_succ] at hS
      unfold m57_13
      refine valP_ok (ne26 _ _ _ _ _) ?_
      refine cond_df (by omega) ?_
      first | refine valP_ok (fa58_0 _ _) ?_ | refine valP_ok (fao58_0 _ _ _) ?_
      first | refine valP_ok (ld3 (hS.cell 0 rfl rfl)) ?_ | refine valP_ok (ld3 (hS.cell 1 rfl rfl)) ?_ | refine valP_ok (ld3 (hS.cell 2 rfl rfl)) ?_ | refine valP_ok (ld3 (hS.cell 3 rfl rfl)) ?_ | refine valP_ok (ld3 (hS.cell 4 rfl rfl)) ?_ | refine valP_ok (ld3 (hS.cell 5 rfl rfl)) ?_ | refine valP_ok (ld3 (hS.cell 6 rfl rfl)) ?_ | refine valP_ok (ld3 (hS.cell 7 rfl rfl)) ?_ | refine valP_ok (ld3 (by assumption)) ?_
      refine valP_ok (lss_ok _ _ _ _ _ _ _) ?_
      first | refine pick_dt (by first | assumption | omega) ?_ | refine pick_df (by first | assumption | omega) ?_ | refine pick_t (by first | rfl | assumption) ?_ | refine pick_f (by first | rfl | assumption) ?_ | refine pick_dt rfl ?_ | refine pick_df (not_not_intro rfl) ?_
      refine cond_split (fun h1 => ?_) (fun h1 => ?_)
      · first | refine pick_dt (by first | assumption | omega) ?_ | refine pick_df (by first | assumption | omega) ?_ | refine pick_t (by first | rfl | assumption) ?_ | refine pick_f (by first | rfl | assumption) ?_ | refine pick_dt rfl ?_ | refine pick_df (not_not_intro rfl) ?_
        refine leaf _ (fun hn w' hS => ⟨⟨i + 1, rfl, by omega, next hn, hS⟩, by simp [intOf]; omega⟩) _ ⟨fun _ h2 => ?_, fun _ => rfl⟩ _ hS.tail.tail
        unfold MayG InM at h2
        omega
      · first | refine valP_ok (fa58_0 _ _) ?_ | refine valP_ok (fao58_0 _ _ _) ?_
        first | refine valP_ok (ld3 (hS.cell 0 rfl rfl)) ?_ | refine valP_ok (ld3 (hS.cell 1 rfl rfl)) ?_ | refine valP_ok (ld3 (hS.cell 2 rfl rfl)) ?_ | refine valP_ok (ld3 (hS.cell 3 rfl rfl)) ?_ | refine valP_ok (ld3 (hS.cell 4 rfl rfl)) ?_ | refine valP_ok (ld3 (hS.cell 5 rfl rfl)) ?_ | refine valP_ok (ld3 (hS.cell 6 rfl rfl)) ?_ | refine valP_ok (ld3 (hS.cell 7 rfl rfl)) ?_ | refine valP_ok (ld3 (by assumption)) ?_
        refine valP_ok (gtr_ok _ _ _ _ _ _ _) ?_
        first | refine pick_dt (by first | assumption | omega) ?_ | refine pick_df (by first | assumption | omega) ?_ | refine pick_t (by first | rfl | assumption) ?_ | refine pick_f (by first | rfl | assumption) ?_ | refine pick_dt rfl ?_ | refine pick_df (not_not_intro rfl) ?_
        refine leaf _ (fun hn w' hS => ⟨⟨i + 1, rfl, by omega, next hn, hS⟩, by simp [intOf]; omega⟩) _ ?_ _ hS.tail.tail
        rw [decide_eq_true_eq]
        unfold MayG InM
        constructor
        · intro h2 h3
          omega
        · intro h2
          exact Classical.byContradiction fun h3 => h2 ⟨by omega, hr⟩
    · rw [if_neg hr]
      refine valP_ok (extract_ok _ 0 rfl _) ?_
      refine valP_ok (extract_ok _ 1 rfl _) ?_
      refine valP_ok (extract_ok _ 2 rfl _) ?_
      refine new_ok (al56 _) hS ?_
      intro b5 w hS
      first | refine ss56 0 hS rfl rfl rfl rfl ?_ | refine ss56 1 hS rfl rfl rfl rfl ?_ | refine ss56 2 hS rfl rfl rfl rfl ?_ | refine ss56 3 hS rfl rfl rfl rfl ?_ | refine ss56 4 hS rfl rfl rfl rfl ?_ | refine ss56 5 hS rfl rfl rfl rfl ?_ | refine ss56 6 hS rfl rfl rfl rfl ?_ | refine ss56 7 hS rfl rfl rfl rfl ?_
      intro w hS
      simp only [List.set_cons_zero, List.set_cons_succ] at hS
      unfold m57_13
      refine valP_ok (ne26 _ _ _ _ _) ?_
      refine cond_dt (by omega) ?_
      first | refine pick_dt (by first | assumption | omega) ?_ | refine pick_df (by first | assumption | omega) ?_ | refine pick_t (by first | rfl | assumption) ?_ | refine pick_f (by first | rfl | assumption) ?_ | refine pick_dt rfl ?_ | refine pick_df (not_not_intro rfl) ?_
      refine cond_t rfl ?_
      first | refine pick_dt (by first | assumption | omega) ?_ | refine pick_df (by first | assumption | omega) ?_ | refine pick_t (by first | rfl | assumption) ?_ | refine pick_f (by first | rfl | assumption) ?_ | refine pick_dt rfl ?_ | refine pick_df (not_not_intro rfl) ?_
      exact leaf _ (fun hn w' hS => ⟨⟨i + 1, rfl, by omega, next hn, hS⟩, by simp [intOf]; omega⟩) _ ⟨fun _ h => hr h.2, fun _ => rfl⟩ _ hS.tail.tail
  · obtain rfl : i = l.length := by omega
    have hall : ∀ g ∈ l, MayG g := fun g hg => by
      obtain ⟨j, hj, rfl⟩ := List.mem_iff_getElem.1 hg
      exact hno j hj hj
    unfold m57_2
    refine builtin_ok (len22 _) ?_
    refine valP_ok (gtr_ok _ _ _ _ _ _ _) ?_
    unfold m57_5
    refine cond_split (fun h1 => ?_) (fun h1 => ?_)
    · unfold m57_6
      rw [if_neg (fun h => by have := h.2; omega)]
      exact ⟨rfl, hS⟩
    · unfold m57_3 m57_4
      rw [if_pos ⟨hall, by omega⟩]
      exact ⟨rfl, hS⟩
theorem rmay_ret (hm : l.length ≤ 100000) (hE : BG w0 F L A l) (hS : St w0 F w L) : Ret Tryz.prog 11 #[.slice A l.length c] w fun v w' => v = .bool (decide (MayL l)) ∧ St w0 F w' L := by
  refine s11 _ ?_
  unfold m11 m11_0 m11_1 m11_4
  refine loop_in (fun u w' => ∃ i : Nat, u = .int .i64 (i : Int) ∧ i ≤ l.length ∧ (∀ j (hj : j < l.length), j < i → MayG l[j]) ∧ St w0 F w' L) (fun u _ => l.length - (intOf u).toNat) ⟨0, rfl, by omega, fun j _ h => by omega, hS⟩ ?_
  clear hS
  rintro u w ⟨i, rfl, hi, hno, hS⟩
  unfold m11_5
  refine builtin_ok (len22 _) ?_
  refine valP_ok (lss_ok _ _ _ _ _ _ _) ?_
  unfold m11_10
  refine cond_split (fun h => ?_) (fun h => ?_)
  · have hil : i < l.length := by omega
    obtain ⟨gb, o, rfl⟩ := (hE.rd hS).some_ (by omega) (by omega)
    have p := g_at (hE.rd hS) hil
    have leaf : ∀ (K1 : Value → World → Prop), (MayG l[i] → ∀ w', St w0 F w' L → K1 (.int .i64 ((i + 1 : Nat) : Int)) w') → ∀ t : Bool, (t = true ↔ ¬ MayG l[i]) → ∀ w, St w0 F w L → m11_8 (fun v w' => v = .bool (decide (MayL l)) ∧ St w0 F w' L) K1 (.slice (some ⟨gb, o, none⟩) l.length c) (.int .i64 (i : Int)) (.bool t) w := fun K1 hK t ht w hS => by
      unfold m11_8
      cases t with
      | true =>
        refine cond_t rfl ?_
        unfold m11_9
        exact ⟨congrArg Value.bool (decide_eq_false (fun h => ht.1 rfl (h.1 _ (List.getElem_mem hil)))).symm, hS⟩
      | false =>
        refine cond_f rfl ?_
        unfold m11_7
        refine valP_ok (add_ok _ _ _ (by omega) (by omega) _) ?_
        exact hK (Classical.byContradiction fun h => by have := ht.2 h; cases this) w hS
    have next : MayG l[i] → ∀ j (hj : j < l.length), j < i + 1 → MayG l[j] := fun hn j hj h3 => by
      rcases Nat.lt_or_ge j i with g | g
      · exact hno j hj g
      · obtain rfl : j = i := by omega
        exact hn
    have fin : ∀ w, St w0 F w L → ∀ K1, (MayG l[i] → ∀ w', St w0 F w' L → K1 (.int .i64 ((i + 1 : Nat) : Int)) w') → InM l[i].off → ∀ t : Bool, (t = true ↔ MayR l[i].r) → m11_8 (fun v w' => v = .bool (decide (MayL l)) ∧ St w0 F w' L) K1 (.slice (some ⟨gb, o, none⟩) l.length c) (.int .i64 (i : Int)) (.bool (!t)) w := fun w hS K1 hK ho t ht => by
      refine leaf K1 hK _ ?_ w hS
      cases t with
      | true => exact ⟨fun h => (by cases h), fun h => absurd ⟨ho, ht.1 rfl⟩ h⟩
      | false => exact ⟨fun _ h => (by have := ht.2 h.2; cases this), fun _ => rfl⟩
    unfold m11_6
    refine valP_ok (ix22 hil _) ?_
    refine valP_ok (fao58_0 _ _ _) ?_
    refine valP_ok (ld3 p.1) ?_
    refine valP_ok (lss_ok _ _ _ _ _ _ _) ?_
    refine cond_split (fun h1 => ?_) (fun h1 => ?_)
    · first | refine pick_dt (by first | assumption | omega) ?_ | refine pick_df (by first | assumption | omega) ?_ | refine pick_t (by first | rfl | assumption) ?_ | refine pick_f (by first | rfl | assumption) ?_ | refine pick_dt rfl ?_ | refine pick_df (not_not_intro rfl) ?_
      refine cond_t rfl ?_
      first | refine pick_dt (by first | assumption | omega) ?_ | refine pick_df (by first | assumption | omega) ?_ | refine pick_t (by first | rfl | assumption) ?_ | refine pick_f (by first | rfl | assumption) ?_ | refine pick_dt rfl ?_ | refine pick_df (not_not_intro rfl) ?_
      refine leaf _ (fun hn w' hS => ⟨⟨i + 1, rfl, by omega, next hn, hS⟩, by simp [intOf]; omega⟩) _ ⟨fun _ h2 => ?_, fun _ => rfl⟩ _ hS
      unfold MayG InM at h2
      omega
    · refine valP_ok (ix22 hil _) ?_
      refine valP_ok (fao58_0 _ _ _) ?_
      refine valP_ok (ld3 p.1) ?_
      refine valP_ok (gtr_ok _ _ _ _ _ _ _) ?_
      first | refine pick_dt (by first | assumption | omega) ?_ | refine pick_df (by first | assumption | omega) ?_ | refine pick_t (by first | rfl | assumption) ?_ | refine pick_f (by first | rfl | assumption) ?_ | refine pick_dt rfl ?_ | refine pick_df (not_not_intro rfl) ?_
      refine cond_split (fun h2 => ?_) (fun h2 => ?_)
      · first | refine pick_dt (by first | assumption | omega) ?_ | refine pick_df (by first | assumption | omega) ?_ | refine pick_t (by first | rfl | assumption) ?_ | refine pick_f (by first | rfl | assumption) ?_ | refine pick_dt rfl ?_ | refine pick_df (not_not_intro rfl) ?_
        refine leaf _ (fun hn w' hS => ⟨⟨i + 1, rfl, by omega, next hn, hS⟩, by simp [intOf]; omega⟩) _ ⟨fun _ h2 => ?_, fun _ => rfl⟩ _ hS
        unfold MayG InM at h2
        omega
      · refine valP_ok (ix22 hil _) ?_
        refine valP_ok (fao58_1 _ _ _) ?_
        refine valP_ok (ld56 p.2.1 p.2.2.1 p.2.2.2) ?_
        refine callR (by kernel_rfl) (mayrec_ret (r := l[i].r) hS) ?_
        rintro _ w ⟨⟨t, rfl, ht⟩, hS⟩
        first | refine valP_ok (not_ok _ _) ?_ | refine valP_ok (notb_ok _ _) ?_
        first | refine pick_dt (by first | assumption | omega) ?_ | refine pick_df (by first | assumption | omega) ?_ | refine pick_t (by first | rfl | assumption) ?_ | refine pick_f (by first | rfl | assumption) ?_ | refine pick_dt rfl ?_ | refine pick_df (not_not_intro rfl) ?_
        exact fin _ hS _ (fun hn w' hS => ⟨⟨i + 1, rfl, by omega, next hn, hS⟩, by simp [intOf]; omega⟩) ⟨by omega, by omega⟩ t ht
  · obtain rfl : i = l.length := by omega
    have hall : ∀ g ∈ l, MayG g := fun g hg => by
      obtain ⟨j, hj, rfl⟩ := List.mem_iff_getElem.1 hg
      exact hno j hj hj
    unfold m11_2
    refine builtin_ok (len22 _) ?_
    refine valP_ok (leq_ok _ _ _ _ _ _ _) ?_
    unfold m11_3
    refine ⟨congrArg Value.bool (decide_eq_decide.2 ?_), hS⟩
    unfold MayL
    exact ⟨fun h => ⟨hall, by omega⟩, fun h => by have := h.2; omega⟩
end
end Go.Proofs.YtcldjjmfpmkldaaGreatDoor.M
namespace Go.Proofs.YtcldjjmfpmkldaaGreatDoor.M
open Go.Proofs.YtcldjjmfpmkldaaGreatDoor.F Go.RowKit
set_option linter.unusedVariables false
set_option linter.unusedSimpArgs false
set_option maxRecDepth 100000
set_option maxHeartbeats 2000000
attribute [local irreducible] Res.cells Res.row Res.map Res.any World.cell? World.frozen? Instr.fieldAt Instr.loadAt Instr.storeAt Instr.indexAt Instr.lookup Instr.mapUpdate Instr.box Instr.build Instr.buildSlice Instr.extract Instr.alloc Instr.field Instr.index Instr.sliceAt Instr.makeSlice Instr.makeMap Instr.makeFunc binS Op.unary Sem.run
section
variable {w0 w : World} {F : List Nat} {L : List Res} {l : List Gt} {A : Option Addr} {c : Nat}
abbrev encV (l : List Gt) : Value := if MayL l then .tuple #[.string (sealS (encL l)), .int .i64 0] else .tuple #[.string ⟨#[]⟩, .int .i64 1]
theorem enc_take_size {i : Nat} (h : MayL l) : (putS l.length ++ bodyL (l.take i)).size ≤ 3000000 := by
  have h1 := bodyL_size (l := l.take i) (fun g hg => h.1 g (List.mem_of_mem_take hg))
  have h2 := putS_size (n := (l.length : Int)) (by have := h.2; omega)
  have h3 := h.2
  rw [List.length_take] at h1
  rw [ByteArray.size_append]
  omega
theorem encode_ret (hm : l.length ≤ 100000) (hg : ∀ g ∈ l, GtS g) (hE : BG w0 F L A l) (hS : St w0 F w L) : Ret Tryz.prog 21 #[.slice A l.length c] w fun v w' => v = encV l ∧ St w0 F w' L := by
  refine s21 _ ?_
  unfold m21 m21_0 m21_1
  refine callR (by kernel_rfl) (check_ret hm hg hE hS) ?_
  rintro _ w ⟨rfl, hS⟩
  unfold encV
  by_cases hM : MayL l
  · rw [if_pos hM, if_pos hM]
    unfold m21_13
    refine valP_ok (ne26 _ _ _ _ _) ?_
    unfold m21_14
    refine cond_df (by omega) ?_
    unfold m21_2
    refine new_ok (al99 _) hS ?_
    intro b5 w hS
    unfold m21_3
    refine builtin_ok (len22 _) ?_
    refine callR (by kernel_rfl) (put_ret (by omega) hS) ?_
    rintro _ w ⟨rfl, hS⟩
    have hB := Bd.start hS
    clear hS
    have hz1 := putS_size (n := (l.length : Int)) (by omega)
    have e0 : (⟨#[]⟩ : ByteArray).size = 0 := rfl
    refine callR (by kernel_rfl) (write_ret (by omega) hB) ?_
    clear hB
    intro _ w hB
    rw [empty_add] at hB
    unfold m21_4
    refine builtin_ok (len22 _) ?_
    unfold m21_7
    refine loop_in (fun u w' => ∃ i : Nat, u = .int .i64 (i : Int) ∧ i ≤ l.length ∧ Bd w0 F L b5 (putS l.length ++ bodyL (l.take i)) w') (fun u _ => l.length - (intOf u).toNat) ⟨0, rfl, by omega, by rw [List.take_zero, bodyL, add_empty]; exact hB⟩ ?_
    clear hB
    rintro u w ⟨i, rfl, hi, hB⟩
    have hz := enc_take_size (i := i) hM
    unfold m21_8
    refine valP_ok (lss_ok _ _ _ _ _ _ _) ?_
    unfold m21_9
    refine cond_split (fun h => ?_) (fun h => ?_)
    · have hil : i < l.length := by omega
      have hgi := hg _ (List.getElem_mem hil)
      have hmi := hM.1 _ (List.getElem_mem hil)
      have ho : -9223372036854775808 ≤ l[i].off ∧ l[i].off ≤ 9223372036854775807 := by unfold MayG InM at hmi; omega
      have hpz := putS_size ho
      have hrz := recS_size hmi.2
      obtain ⟨p, A2, c2, hp, hS⟩ := hB
      obtain ⟨gb, o, rfl⟩ := (hE.rd2 hS).some_ (by omega) (by omega)
      have q := g_at (hE.rd2 hS) hil
      unfold m21_10
      refine valP_ok (ix22 hil _) ?_
      refine valP_ok (ld58 q.1 q.2.1 q.2.2.1 q.2.2.2) ?_
      refine new_ok (al58 _) hS ?_
      intro b7 w hS
      first | refine ss58 0 hS rfl rfl rfl rfl rfl ?_ | refine ss58 1 hS rfl rfl rfl rfl rfl ?_ | refine ss58 2 hS rfl rfl rfl rfl rfl ?_ | refine ss58 3 hS rfl rfl rfl rfl rfl ?_ | refine ss58 4 hS rfl rfl rfl rfl rfl ?_ | refine ss58 5 hS rfl rfl rfl rfl rfl ?_ | refine ss58 6 hS rfl rfl rfl rfl rfl ?_ | refine ss58 7 hS rfl rfl rfl rfl rfl ?_
      intro w hS
      simp only [List.set_cons_zero, List.set_cons_succ] at hS
      unfold m21_12
      refine drawn_ok hS ?_
      intro w hS
      refine held_Hs (hS.pick 3 [0] (by simp) (by decide)) ?_
      first | refine valJ_ok (fa58_0 _) ?_ | refine valJ_ok (fao58_0 _ _) ?_
      first | refine valJ_load ld3 (Hs.cell 0 rfl rfl) ?_ | refine valJ_load ld3 (Hs.cell 1 rfl rfl) ?_ | refine valJ_load ld3 (Hs.cell 2 rfl rfl) ?_ | refine valJ_load ld3 (Hs.cell 3 rfl rfl) ?_ | refine valJ_load ld3 (Hs.cell 4 rfl rfl) ?_ | refine valJ_load ld3 (Hs.cell 5 rfl rfl) ?_ | refine valJ_load ld3 (Hs.cell 6 rfl rfl) ?_ | refine valJ_load ld3 (Hs.cell 7 rfl rfl) ?_ | refine valJ_load ld3 (by assumption) ?_
      first | refine valJ_ok (fa58_1 _) ?_ | refine valJ_ok (fao58_1 _ _) ?_
      refine valJ_at (fun w hw => ld56 (Hs.cell 0 rfl rfl w hw) (Hs.cell 0 rfl rfl w hw) (Hs.cell 0 rfl rfl w hw)) ?_
      refine callR (by kernel_rfl) (put_ret ho hS) ?_
      rintro _ w ⟨rfl, hS⟩
      refine stay_Hs (hS.pick 3 [0] (by simp) (by decide)) (fun _ h => h) ?_
      refine callR (by kernel_rfl) (putrec_ret (r := l[i].r) hgi.1.1 hgi.1.2 hgi.2 hS) ?_
      rintro _ w ⟨rfl, hS⟩
      refine stay_Hs (hS.pick 3 [0] (by simp) (by decide)) (fun _ h => h) ?_
      refine valJ_ok (sadd _ _ (by omega)) ?_
      have hB : Bd w0 F (Res.cells b7 58 (encG l[i]) :: L) b5 (putS l.length ++ bodyL (l.take i)) w := ⟨p, A2, c2, hp, hS.pick 3 [1, 2, 0] (by simp) (by decide)⟩
      refine callR (by kernel_rfl) (write_ret (by rw [ByteArray.size_append (a := putS l[i].off)]; omega) hB) ?_
      clear hB hS
      rintro _ w ⟨p2, A3, c3, hp2, hS⟩
      refine stay_Hs (hS.pick 3 [2] (by simp) (by decide)) (fun _ h => h) ?_
      unfold m21_11
      refine valP_ok (add_ok _ _ _ (by omega) (by omega) _) ?_
      refine ⟨⟨i + 1, rfl, by omega, ?_⟩, by simp [intOf]; omega⟩
      rw [bodyL_take hil, ← add_assoc']
      exact ⟨p2, A3, c3, hp2, hS.pick 3 [0, 1] (by simp) (by decide)⟩
    · obtain rfl : i = l.length := by omega
      rw [List.take_length] at hB hz
      unfold m21_5
      have h0 := putS_pos (l.length : Int)
      refine callR (by kernel_rfl) (bstring_ret (by rw [ByteArray.size_append]; omega) hB) ?_
      rintro _ w ⟨rfl, hS⟩
      refine callR (by kernel_rfl) (seal_ret (by unfold maxLen; omega) hS) ?_
      rintro _ w ⟨rfl, hS⟩
      unfold m21_6
      exact ⟨rfl, hS⟩
  · rw [if_neg hM, if_neg hM]
    unfold m21_13
    refine valP_ok (ne26 _ _ _ _ _) ?_
    unfold m21_14
    refine cond_dt (by omega) ?_
    unfold m21_15
    exact ⟨rfl, hS⟩
end
end Go.Proofs.YtcldjjmfpmkldaaGreatDoor.M
namespace Go.Proofs.YtcldjjmfpmkldaaGreatDoor.M
open Go.Proofs.YtcldjjmfpmkldaaGreatDoor.F Go.RowKit
set_option linter.unusedVariables false
set_option linter.unusedSimpArgs false
set_option maxRecDepth 100000
set_option maxHeartbeats 2000000
attribute [local irreducible] Res.cells Res.row Res.map Res.any World.cell? World.frozen? Instr.fieldAt Instr.loadAt Instr.storeAt Instr.indexAt Instr.lookup Instr.mapUpdate Instr.box Instr.build Instr.buildSlice Instr.extract Instr.alloc Instr.field Instr.index Instr.sliceAt Instr.makeSlice Instr.makeMap Instr.makeFunc binS Op.unary Sem.run
/-- what so many changes, and no more, come to. -/
def decG (n : Int) (r : ByteArray) : Option (List Gt) := if 0 ≤ n ∧ n ≤ 4096 then (match takeGs n.toNat r with
      | none => none
      | some (l, q) => if q = ⟨#[]⟩ ∧ MayL l then some l else none) else none
theorem decS_G (s : ByteArray) : decS s = match unsealS s with
  | none => none
  | some t => match takeS t with
    | none => none
    | some (n, r) => decG n r := rfl
/-- what comes back. -/
def DecR (o : Option (List Gt)) (w0 : World) (F : List Nat) (L : List Res) (v : Value) (w' : World) : Prop := ∃ A c, v = .tuple #[.slice A (o.getD []).length c, .int .i64 (if o.isSome then 0 else 2)] ∧ St w0 F w' (grow A c (o.getD []) :: L)
section
variable {w0 w : World} {F : List Nat} {L : List Res} {s : ByteArray}
theorem DecR.none_ (hS : St w0 F w L) : DecR none w0 F L (.tuple #[.slice none 0 0, .int .i64 2]) w := ⟨none, 0, rfl, hS.row_nil 58 4⟩
theorem dec_main {n : Int} {r : ByteArray} (hn : 0 ≤ n ∧ n ≤ 4096) (hS : St w0 F w L) : m34_5 (DecR (decG n r) w0 F L) (.string r) (.int .i64 n) w := by
  obtain ⟨n, rfl⟩ : ∃ k : Nat, n = (k : Int) := ⟨n.toNat, by omega⟩
  unfold m34_5 m34_6 m34_12
  have hz := decG (n : Int) r
  have hdec : decG (n : Int) r = (match takeGs n r with
      | none => none
      | some (l, q) => if q = ⟨#[]⟩ ∧ MayL l then some l else none) := by
    unfold decG
    rw [if_pos hn, Int.toNat_natCast]
  refine loop_in (fun u w' => ∃ (i : Nat) (l : List Gt) (t : ByteArray) (A : Option Addr) (c : Nat), u = (.string t, .slice A l.length c, .int .i64 (i : Int)) ∧ i ≤ n ∧ l.length = i ∧ (∀ g ∈ l, GtS g) ∧ takeGs n r = (takeGs (n - i) t).map (fun p => (l ++ p.1, p.2)) ∧ St w0 F w' (grow A c l :: L)) (fun u _ => n - (intOf u.2.2).toNat) ⟨0, [], r, none, 0, rfl, by omega, rfl, by simp, by simp, hS.row_nil 58 4⟩ ?_
  clear hS
  rintro u w ⟨i, l, t, A, c, rfl, hi, hl, hg, he, hS⟩
  simp only
  unfold m34_13
  refine valP_ok (lss_ok _ _ _ _ _ _ _) ?_
  unfold m34_14
  refine cond_split (fun h => ?_) (fun h => ?_)
  · obtain ⟨m, hm⟩ : ∃ m, n - i = m + 1 := ⟨n - i - 1, by omega⟩
    rw [hm, takeGs_succ] at he
    unfold m34_15
    refine callR (by kernel_rfl) (take_ret hS) ?_
    rintro _ w ⟨rfl, hS⟩
    unfold tkV
    cases ht : takeS t with
    | none =>
      rw [ht] at he
      rw [hdec, he]
      simp only [Option.map_none]
      refine valP_ok (extract_ok _ 0 rfl _) ?_
      refine valP_ok (extract_ok _ 1 rfl _) ?_
      refine valP_ok (extract_ok _ 2 rfl _) ?_
      unfold m34_17
      refine valP_ok (ne26 _ _ _ _ _) ?_
      unfold m34_24
      refine cond_dt (by omega) ?_
      unfold m34_25
      exact .none_ hS.tail
    | some p =>
      obtain ⟨off, a⟩ := p
      rw [ht] at he
      simp only at he
      simp only
      refine valP_ok (extract_ok _ 0 rfl _) ?_
      refine valP_ok (extract_ok _ 1 rfl _) ?_
      refine valP_ok (extract_ok _ 2 rfl _) ?_
      unfold m34_17
      refine valP_ok (ne26 _ _ _ _ _) ?_
      unfold m34_24
      refine cond_df (by omega) ?_
      unfold m34_18
      refine callR (by kernel_rfl) (takerec_ret hS) ?_
      rintro _ w ⟨rfl, hS⟩
      unfold recV
      cases hr : takeRec a with
      | none =>
        rw [hr] at he
        rw [hdec, he]
        simp only [Option.map_none]
        refine valP_ok (extract_ok _ 0 rfl _) ?_
        refine valP_ok (extract_ok _ 1 rfl _) ?_
        refine valP_ok (extract_ok _ 2 rfl _) ?_
        refine new_ok (al56 _) hS ?_
        intro b11 w hS
        first | refine ss56 0 hS rfl rfl rfl rfl ?_ | refine ss56 1 hS rfl rfl rfl rfl ?_ | refine ss56 2 hS rfl rfl rfl rfl ?_ | refine ss56 3 hS rfl rfl rfl rfl ?_ | refine ss56 4 hS rfl rfl rfl rfl ?_ | refine ss56 5 hS rfl rfl rfl rfl ?_ | refine ss56 6 hS rfl rfl rfl rfl ?_ | refine ss56 7 hS rfl rfl rfl rfl ?_
        intro w hS
        simp only [List.set_cons_zero, List.set_cons_succ] at hS
        unfold m34_19
        refine valP_ok (ne26 _ _ _ _ _) ?_
        unfold m34_22
        refine cond_dt (by omega) ?_
        unfold m34_23
        exact .none_ hS.tail.tail
      | some p =>
        obtain ⟨rc, b⟩ := p
        rw [hr] at he
        simp only at he
        simp only
        refine valP_ok (extract_ok _ 0 rfl _) ?_
        refine valP_ok (extract_ok _ 1 rfl _) ?_
        refine valP_ok (extract_ok _ 2 rfl _) ?_
        refine new_ok (al56 _) hS ?_
        intro b11 w hS
        first | refine ss56 0 hS rfl rfl rfl rfl ?_ | refine ss56 1 hS rfl rfl rfl rfl ?_ | refine ss56 2 hS rfl rfl rfl rfl ?_ | refine ss56 3 hS rfl rfl rfl rfl ?_ | refine ss56 4 hS rfl rfl rfl rfl ?_ | refine ss56 5 hS rfl rfl rfl rfl ?_ | refine ss56 6 hS rfl rfl rfl rfl ?_ | refine ss56 7 hS rfl rfl rfl rfl ?_
        intro w hS
        simp only [List.set_cons_zero, List.set_cons_succ] at hS
        unfold m34_19
        refine valP_ok (ne26 _ _ _ _ _) ?_
        unfold m34_22
        refine cond_df (by omega) ?_
        unfold m34_20
        first | refine ls56 0 hS rfl ?_ | refine ls56 1 hS rfl ?_ | refine ls56 2 hS rfl ?_ | refine ls56 3 hS rfl ?_ | refine ls56 4 hS rfl ?_ | refine ls56 5 hS rfl ?_ | refine ls56 6 hS rfl ?_ | refine ls56 7 hS rfl ?_ | refine valP_ok (ld56 (by assumption) (by assumption) (by assumption)) ?_
        refine valP_ok (bd58_0_1 rfl _) ?_
        refine newslice_ok (bs22_1 _) hS ?_
        intro b61 w hS
        refine append_one1 (enc := encG) 1 ⟨off, rc⟩ sl22 encG_len encG_one (by unfold maxLen; omega) (by omega) hS rfl ?_
        intro A' c' w hS
        simp only [List.set_cons_zero, List.set_cons_succ] at hS
        unfold m34_21
        unfold m34_16
        refine valP_ok (add_ok _ _ _ (by omega) (by omega) _) ?_
        refine ⟨⟨i + 1, l ++ [⟨off, rc⟩], b, A', c', rfl, by omega, by simp [hl], fun g hg2 => ?_, ?_, hS.tail⟩, by simp [intOf]; omega⟩
        · rcases List.mem_append.1 hg2 with h2 | h2
          · exact hg g h2
          · obtain rfl := List.mem_singleton.1 h2
            have h3 : takeGs 1 t = some ([⟨off, rc⟩], b) := by
              rw [takeGs_succ, ht]
              simp only
              rw [hr]
              rfl
            exact (takeGs_ok h3).2 _ (.head _)
        · rw [he, show n - (i + 1) = m by omega, Option.map_map]
          congr 1
          funext p
          simp
  · obtain rfl : i = n := by omega
    rw [Nat.sub_self] at he
    simp only [takeGs, Option.map_some, List.append_nil] at he
    rw [he] at hdec
    simp only at hdec
    have leaf : ∀ b : Bool, (b = true ↔ ¬ (t = ⟨#[]⟩ ∧ MayL l)) → ∀ w, St w0 F w (grow A c l :: L) → m34_10 (DecR (decG (i : Int) r) w0 F L) (.slice A l.length c) (.bool b) w := fun b hb w hS => by
      rw [hdec]
      unfold m34_10
      cases b with
      | true =>
        refine cond_t rfl ?_
        rw [if_neg (hb.1 rfl)]
        unfold m34_11
        exact .none_ hS.tail
      | false =>
        refine cond_f rfl ?_
        rw [if_pos (Classical.byContradiction fun h => by have := hb.2 h; cases this)]
        unfold m34_8 m34_9
        exact ⟨A, c, rfl, hS⟩
    unfold m34_7
    refine valP_ok (ne9 _ _ _ _ _) ?_
    refine cond_split (fun h1 => ?_) (fun h1 => ?_)
    · first | refine pick_dt (by first | assumption | omega) ?_ | refine pick_df (by first | assumption | omega) ?_ | refine pick_t (by first | rfl | assumption) ?_ | refine pick_f (by first | rfl | assumption) ?_ | refine pick_dt rfl ?_ | refine pick_df (not_not_intro rfl) ?_
      exact leaf _ ⟨fun _ h => h1 h.1, fun _ => rfl⟩ _ hS
    · refine callR (by kernel_rfl) (check_ret (l := l) (by omega) hg (Bes.of_row 0 rfl) hS) ?_
      rintro _ w ⟨rfl, hS⟩
      refine valP_ok (ne26 _ _ _ _ _) ?_
      first | refine pick_dt (by first | assumption | omega) ?_ | refine pick_df (by first | assumption | omega) ?_ | refine pick_t (by first | rfl | assumption) ?_ | refine pick_f (by first | rfl | assumption) ?_ | refine pick_dt rfl ?_ | refine pick_df (not_not_intro rfl) ?_
      refine leaf _ ?_ _ hS
      rw [decide_eq_true_eq]
      by_cases h2 : MayL l
      · rw [if_pos h2]
        exact ⟨fun h => absurd rfl h, fun h => absurd ⟨Classical.not_not.1 h1, h2⟩ h⟩
      · rw [if_neg h2]
        exact ⟨fun _ h => h2 h.2, fun _ h => by omega⟩
theorem decode_ret (hs : s.size ≤ maxLen) (hS : St w0 F w L) : Ret Tryz.prog 34 #[.string s] w fun v w' => DecR (decS s) w0 F L v w' := by
  refine s34 _ ?_
  unfold m34 m34_0 m34_1
  refine callR (by kernel_rfl) (unseal_ret hs hS) ?_
  rintro _ w ⟨rfl, hS⟩
  show _
  rw [show (fun v w' => DecR (decS s) w0 F L v w') = DecR (decS s) w0 F L from rfl, decS_G]
  unfold unV
  cases unsealS s with
  | none =>
    simp only
    refine valP_ok (extract_ok _ 0 rfl _) ?_
    refine valP_ok (extract_ok _ 1 rfl _) ?_
    unfold m34_2
    refine valP_ok (ne26 _ _ _ _ _) ?_
    unfold m34_28
    refine cond_dt (by omega) ?_
    unfold m34_29
    exact .none_ hS
  | some t =>
    simp only
    refine valP_ok (extract_ok _ 0 rfl _) ?_
    refine valP_ok (extract_ok _ 1 rfl _) ?_
    unfold m34_2
    refine valP_ok (ne26 _ _ _ _ _) ?_
    unfold m34_28
    refine cond_df (by omega) ?_
    unfold m34_3
    refine callR (by kernel_rfl) (take_ret hS) ?_
    rintro _ w ⟨rfl, hS⟩
    unfold tkV
    have leaf : ∀ (e n : Int) (r : ByteArray) (o : Option (List Gt)), (o = if e = 0 then decG n r else none) → ∀ b : Bool, (b = true ↔ (e ≠ 0 ∨ n < 0 ∨ 4096 < n)) → m34_26 (DecR o w0 F L) (.string r) (.int .i64 n) (.bool b) w := fun e n r o ho b hb => by
      unfold m34_26
      cases b with
      | true =>
        refine cond_t rfl ?_
        have h := hb.1 rfl
        have : o = none := by
          rw [ho]
          split
          · unfold decG
            rw [if_neg (by omega)]
          · rfl
        rw [this]
        unfold m34_27
        exact .none_ hS
      | false =>
        have h : ¬ (e ≠ 0 ∨ n < 0 ∨ 4096 < n) := fun h => by have := hb.2 h; cases this
        refine cond_f rfl ?_
        rw [ho, if_pos (by omega)]
        exact dec_main (by omega) hS
    cases takeS t with
    | none =>
      simp only
      refine valP_ok (extract_ok _ 0 rfl _) ?_
      refine valP_ok (extract_ok _ 1 rfl _) ?_
      refine valP_ok (extract_ok _ 2 rfl _) ?_
      unfold m34_4
      refine valP_ok (ne26 _ _ _ _ _) ?_
      first | refine cond_split (fun hc0 => ?_) (fun hc0 => ?_) | refine cond_bsplit (fun hc0 => ?_) (fun hc0 => ?_)
      · first | refine pick_dt (by first | assumption | omega) ?_ | refine pick_df (by first | assumption | omega) ?_ | refine pick_t (by first | rfl | assumption) ?_ | refine pick_f (by first | rfl | assumption) ?_ | refine pick_dt rfl ?_ | refine pick_df (not_not_intro rfl) ?_
        first | refine cond_split (fun hc1 => ?_) (fun hc1 => ?_) | refine cond_bsplit (fun hc1 => ?_) (fun hc1 => ?_)
        · first | refine pick_dt (by first | assumption | omega) ?_ | refine pick_df (by first | assumption | omega) ?_ | refine pick_t (by first | rfl | assumption) ?_ | refine pick_f (by first | rfl | assumption) ?_ | refine pick_dt rfl ?_ | refine pick_df (not_not_intro rfl) ?_
          exact leaf 2 _ _ _ (by rw [if_neg (by omega)]) _ (by simp only [decide_eq_true_eq, Bool.false_eq_true, false_iff, true_iff] <;> first | contradiction | omega)
        · refine valP_ok (gtr_ok _ _ _ _ _ _ _) ?_
          first | refine pick_dt (by first | assumption | omega) ?_ | refine pick_df (by first | assumption | omega) ?_ | refine pick_t (by first | rfl | assumption) ?_ | refine pick_f (by first | rfl | assumption) ?_ | refine pick_dt rfl ?_ | refine pick_df (not_not_intro rfl) ?_
          exact leaf 2 _ _ _ (by rw [if_neg (by omega)]) _ (by simp only [decide_eq_true_eq, Bool.false_eq_true, false_iff, true_iff] <;> first | contradiction | omega)
      · refine valP_ok (lss_ok _ _ _ _ _ _ _) ?_
        first | refine pick_dt (by first | assumption | omega) ?_ | refine pick_df (by first | assumption | omega) ?_ | refine pick_t (by first | rfl | assumption) ?_ | refine pick_f (by first | rfl | assumption) ?_ | refine pick_dt rfl ?_ | refine pick_df (not_not_intro rfl) ?_
        first | refine cond_split (fun hc1 => ?_) (fun hc1 => ?_) | refine cond_bsplit (fun hc1 => ?_) (fun hc1 => ?_)
        · first | refine pick_dt (by first | assumption | omega) ?_ | refine pick_df (by first | assumption | omega) ?_ | refine pick_t (by first | rfl | assumption) ?_ | refine pick_f (by first | rfl | assumption) ?_ | refine pick_dt rfl ?_ | refine pick_df (not_not_intro rfl) ?_
          exact leaf 2 _ _ _ (by rw [if_neg (by omega)]) _ (by simp only [decide_eq_true_eq, Bool.false_eq_true, false_iff, true_iff] <;> first | contradiction | omega)
        · refine valP_ok (gtr_ok _ _ _ _ _ _ _) ?_
          first | refine pick_dt (by first | assumption | omega) ?_ | refine pick_df (by first | assumption | omega) ?_ | refine pick_t (by first | rfl | assumption) ?_ | refine pick_f (by first | rfl | assumption) ?_ | refine pick_dt rfl ?_ | refine pick_df (not_not_intro rfl) ?_
          exact leaf 2 _ _ _ (by rw [if_neg (by omega)]) _ (by simp only [decide_eq_true_eq, Bool.false_eq_true, false_iff, true_iff] <;> first | contradiction | omega)
    | some p =>
      obtain ⟨n, r⟩ := p
      simp only
      refine valP_ok (extract_ok _ 0 rfl _) ?_
      refine valP_ok (extract_ok _ 1 rfl _) ?_
      refine valP_ok (extract_ok _ 2 rfl _) ?_
      unfold m34_4
      refine valP_ok (ne26 _ _ _ _ _) ?_
      first | refine cond_split (fun hc0 => ?_) (fun hc0 => ?_) | refine cond_bsplit (fun hc0 => ?_) (fun hc0 => ?_)
      · first | refine pick_dt (by first | assumption | omega) ?_ | refine pick_df (by first | assumption | omega) ?_ | refine pick_t (by first | rfl | assumption) ?_ | refine pick_f (by first | rfl | assumption) ?_ | refine pick_dt rfl ?_ | refine pick_df (not_not_intro rfl) ?_
        first | refine cond_split (fun hc1 => ?_) (fun hc1 => ?_) | refine cond_bsplit (fun hc1 => ?_) (fun hc1 => ?_)
        · first | refine pick_dt (by first | assumption | omega) ?_ | refine pick_df (by first | assumption | omega) ?_ | refine pick_t (by first | rfl | assumption) ?_ | refine pick_f (by first | rfl | assumption) ?_ | refine pick_dt rfl ?_ | refine pick_df (not_not_intro rfl) ?_
          exact leaf 0 _ _ _ (by rw [if_pos rfl]) _ (by simp only [decide_eq_true_eq, Bool.false_eq_true, false_iff, true_iff] <;> first | contradiction | omega)
        · refine valP_ok (gtr_ok _ _ _ _ _ _ _) ?_
          first | refine pick_dt (by first | assumption | omega) ?_ | refine pick_df (by first | assumption | omega) ?_ | refine pick_t (by first | rfl | assumption) ?_ | refine pick_f (by first | rfl | assumption) ?_ | refine pick_dt rfl ?_ | refine pick_df (not_not_intro rfl) ?_
          exact leaf 0 _ _ _ (by rw [if_pos rfl]) _ (by simp only [decide_eq_true_eq, Bool.false_eq_true, false_iff, true_iff] <;> first | contradiction | omega)
      · refine valP_ok (lss_ok _ _ _ _ _ _ _) ?_
        first | refine pick_dt (by first | assumption | omega) ?_ | refine pick_df (by first | assumption | omega) ?_ | refine pick_t (by first | rfl | assumption) ?_ | refine pick_f (by first | rfl | assumption) ?_ | refine pick_dt rfl ?_ | refine pick_df (not_not_intro rfl) ?_
        first | refine cond_split (fun hc1 => ?_) (fun hc1 => ?_) | refine cond_bsplit (fun hc1 => ?_) (fun hc1 => ?_)
        · first | refine pick_dt (by first | assumption | omega) ?_ | refine pick_df (by first | assumption | omega) ?_ | refine pick_t (by first | rfl | assumption) ?_ | refine pick_f (by first | rfl | assumption) ?_ | refine pick_dt rfl ?_ | refine pick_df (not_not_intro rfl) ?_
          exact leaf 0 _ _ _ (by rw [if_pos rfl]) _ (by simp only [decide_eq_true_eq, Bool.false_eq_true, false_iff, true_iff] <;> first | contradiction | omega)
        · refine valP_ok (gtr_ok _ _ _ _ _ _ _) ?_
          first | refine pick_dt (by first | assumption | omega) ?_ | refine pick_df (by first | assumption | omega) ?_ | refine pick_t (by first | rfl | assumption) ?_ | refine pick_f (by first | rfl | assumption) ?_ | refine pick_dt rfl ?_ | refine pick_df (not_not_intro rfl) ?_
          exact leaf 0 _ _ _ (by rw [if_pos rfl]) _ (by simp only [decide_eq_true_eq, Bool.false_eq_true, false_iff, true_iff] <;> first | contradiction | omega)
end
end Go.Proofs.YtcldjjmfpmkldaaGreatDoor.M
namespace Go.Proofs.YtcldjjmfpmkldaaGreatDoor.M
open Go.Proofs.YtcldjjmfpmkldaaGreatDoor.F Go.RowKit
set_option linter.unusedVariables false
set_option linter.unusedSimpArgs false
set_option maxRecDepth 100000
set_option maxHeartbeats 2000000
attribute [local irreducible] Res.cells Res.row Res.map Res.any World.cell? World.frozen? Instr.fieldAt Instr.loadAt Instr.storeAt Instr.indexAt Instr.lookup Instr.mapUpdate Instr.box Instr.build Instr.buildSlice Instr.extract Instr.alloc Instr.field Instr.index Instr.sliceAt Instr.makeSlice Instr.makeMap Instr.makeFunc binS Op.unary Sem.run
section
variable {w0 w : World} {F : List Nat} {L : List Res} {s : ByteArray}
end
end Go.Proofs.YtcldjjmfpmkldaaGreatDoor.M
namespace Go.Proofs.YtcldjjmfpmkldaaGreatDoor.M
open Go.Proofs.YtcldjjmfpmkldaaGreatDoor.F Go.RowKit
set_option linter.unusedVariables false
set_option linter.unusedSimpArgs false
set_option maxRecDepth 100000
set_option maxHeartbeats 2000000
attribute [local irreducible] Res.cells Res.row Res.map Res.any World.cell? World.frozen? Instr.fieldAt Instr.loadAt Instr.storeAt Instr.indexAt Instr.lookup Instr.mapUpdate Instr.box Instr.build Instr.buildSlice Instr.extract Instr.alloc Instr.field Instr.index Instr.sliceAt Instr.makeSlice Instr.makeMap Instr.makeFunc binS Op.unary Sem.run
abbrev newS : ByteArray := ⟨#[46, 110, 101, 119]⟩
/-- the name of the file that is being written. -/
def newN (s : ByteArray) : ByteArray := s ++ newS
theorem inTl {d m : Res} {Y L : List Res} : ∀ r ∈ L, r ∈ d :: m :: (Y ++ L) := fun r hr => .tail _ (.tail _ (List.mem_append_right _ hr))
section
variable {w0 w : World} {F : List Nat} {L : List Res} {b : Nat} {D : Dk}
theorem fl_at {l : List Fl} {o b i : Nat} (hr : Rd w 3 (some ⟨b, o, none⟩) l.length (l.flatMap encFl)) (hi : i < l.length) : w.cell? ⟨b, o + i * 3, none⟩ = some (.string l[i].name) ∧ w.cell? ⟨b, o + i * 3 + 1, none⟩ = some (.string l[i].sure) ∧ w.cell? ⟨b, o + i * 3 + 2, none⟩ = some (.string l[i].loose) :=
  ⟨hr.struct encFl_len hi (j := 0) (by omega) rfl, hr.struct encFl_len hi (j := 1) (by omega) rfl, hr.struct encFl_len hi (j := 2) (by omega) rfl⟩
theorem cell_in {t : TypeId} {cs : List Value} {i : Nat} {v : Value} (hS : St w0 F w L) (hm : Res.cells b t cs ∈ L) (hi : cs[i]? = some v) : w.cell? ⟨b, i, none⟩ = some v := by
  obtain ⟨k, hk⟩ := List.mem_iff_getElem?.1 hm
  exact hS.cell k hk hi
/-- a call that leaves the disk alone. -/
theorem Dsk.with {f : FuncId} {args : Array Value} {Q : Value → Prop} (hD : Dsk w0 F L b D w) (h : ∀ L', (∀ r ∈ L, r ∈ L') → St w0 F w L' → Ret Tryz.prog f args w fun v w' => Q v ∧ St w0 F w' L') : Ret Tryz.prog f args w fun v w' => Q v ∧ Dsk w0 F L b D w' := by
  obtain ⟨mb, X, hX, hS⟩ := hD
  exact (h _ inTl hS).mono fun v w' ⟨hq, hS'⟩ => ⟨hq, mb, X, hX, hS'⟩
theorem Dsk.st (hD : Dsk w0 F L b D w) : ∃ L', (∀ r ∈ L, r ∈ L') ∧ St w0 F w L' := by
  obtain ⟨mb, X, hX, hS⟩ := hD
  exact ⟨_, inTl, hS⟩
theorem save1_ret {f : Fl} {name : ByteArray} {b4 : Nat} (hz : name.size ≤ 1000000) (hn : Res.cells b4 9 [.string name] ∈ L) (hS : St w0 F w L) : Ret Tryz.prog 25 #[.agg #[.string f.name, .string f.sure, .string f.loose], ptr b4] w fun v w' => v = .bool (decide (f.name = newN name)) ∧ St w0 F w' L := by
  have e4 : (⟨#[46, 110, 101, 119]⟩ : ByteArray).size = 4 := rfl
  refine s25 _ _ ?_
  unfold m25
  unfold m25_0
  refine new_ok (bx67 _ _ _ _) hS ?_
  intro b2 w hS
  unfold m25_1
  first | refine valP_ok (fa67_0 _ _) ?_ | refine valP_ok (fao67_0 _ _ _) ?_
  first | refine valP_ok (ld9 (hS.cell 0 rfl rfl)) ?_ | refine valP_ok (ld9 (hS.cell 1 rfl rfl)) ?_ | refine valP_ok (ld9 (hS.cell 2 rfl rfl)) ?_ | refine valP_ok (ld9 (hS.cell 3 rfl rfl)) ?_ | refine valP_ok (ld9 (hS.cell 4 rfl rfl)) ?_ | refine valP_ok (ld9 (hS.cell 5 rfl rfl)) ?_ | refine valP_ok (ld9 (hS.cell 6 rfl rfl)) ?_ | refine valP_ok (ld9 (hS.cell 7 rfl rfl)) ?_ | refine valP_ok (ld9 (by assumption)) ?_
  refine valP_ok (ld9 (cell_in hS (.tail _ hn) (i := 0) rfl)) ?_
  refine valP_ok (sadd _ _ (by omega) _) ?_
  refine valP_ok (eq9 _ _ _ _ _) ?_
  unfold m25_2
  exact ⟨rfl, hS.tail⟩
theorem index64_ret {l : List Fl} {A : Option Addr} {c : Nat} {name : ByteArray} {b4 : Nat} (hm : l.length ≤ 1000000) (hz : name.size ≤ 1000000) (hn : Res.cells b4 9 [.string name] ∈ L) (hE : Bes w0 F L 3 A l.length (l.flatMap encFl)) (hS : St w0 F w L) : Ret Tryz.prog 64 #[.slice A l.length c, .func (.func 25) #[] #[ptr b4]] w fun v w' => (∃ k : Int, v = .int .i64 k ∧ (0 ≤ k ↔ ∃ f ∈ l, f.name = newN name)) ∧ St w0 F w' L := by
  refine s64 _ _ ?_
  unfold m64
  unfold m64_0
  unfold m64_1
  refine builtin_ok (len39 _) ?_
  unfold m64_4
  refine loop_in (fun u w' => ∃ i : Nat, u = .int .i64 (i : Int) ∧ i ≤ l.length ∧ (∀ j (hj : j < l.length), j < i → ¬ l[j].name = newN name) ∧ St w0 F w' L) (fun u _ => l.length - (intOf u).toNat) ⟨0, rfl, by omega, fun j _ h => by omega, hS⟩ ?_
  clear hS
  rintro u w ⟨i, rfl, hi, hno, hS⟩
  unfold m64_5
  refine valP_ok (lss_ok _ _ _ _ _ _ _) ?_
  unfold m64_6
  refine cond_split (fun h => ?_) (fun h => ?_)
  · have hil : i < l.length := by omega
    have hR := hE.rd hS
    obtain ⟨gb, o, rfl⟩ := hR.some_ (by omega) (by omega)
    have p := fl_at hR hil
    unfold m64_7 m64_9
    refine valP_ok (ix39 hil _) ?_
    refine valP_ok (ld67 p.1 p.2.1 p.2.2) ?_
    refine callvR (by kernel_rfl) rfl (save1_ret (f := l[i]) hz hn hS) ?_
    rintro _ w ⟨rfl, hS⟩
    unfold m64_10
    refine cond_split (fun h1 => ?_) (fun h1 => ?_)
    · unfold m64_11
      exact ⟨⟨_, rfl, ⟨fun _ => ⟨_, List.getElem_mem hil, h1⟩, fun _ => by omega⟩⟩, hS⟩
    · unfold m64_8
      refine valP_ok (add_ok _ _ _ (by omega) (by omega) _) ?_
      refine ⟨⟨i + 1, rfl, by omega, fun j hj h3 => ?_, hS⟩, by simp [intOf]; omega⟩
      rcases Nat.lt_or_ge j i with g | g
      · exact hno j hj g
      · obtain rfl : j = i := by omega
        exact h1
  · unfold m64_2 m64_3
    refine ⟨⟨_, rfl, ⟨fun h1 => by omega, fun ⟨x, hx, h1⟩ => ?_⟩⟩, hS⟩
    obtain ⟨j, hj, rfl⟩ := List.mem_iff_getElem.1 hx
    exact absurd h1 (hno j hj (by omega))
theorem contains23_ret {l : List Fl} {A : Option Addr} {c : Nat} {name : ByteArray} {b4 : Nat} (hm : l.length ≤ 1000000) (hz : name.size ≤ 1000000) (hn : Res.cells b4 9 [.string name] ∈ L) (hE : Bes w0 F L 3 A l.length (l.flatMap encFl)) (hS : St w0 F w L) : Ret Tryz.prog 23 #[.slice A l.length c, .func (.func 25) #[] #[ptr b4]] w fun v w' => (∃ t : Bool, v = .bool t ∧ (t = true ↔ ∃ f ∈ l, f.name = newN name)) ∧ St w0 F w' L := by
  refine s23 _ _ ?_
  unfold m23
  unfold m23_0
  unfold m23_1
  refine callR (by kernel_rfl) (index64_ret hm hz hn hE hS) ?_
  rintro _ w ⟨⟨k, rfl, hk⟩, hS⟩
  refine valP_ok (geq_ok _ _ _ _ _ _ _) ?_
  unfold m23_2
  exact ⟨⟨_, rfl, by rw [decide_eq_true_eq]; exact hk⟩, hS⟩
end
end Go.Proofs.YtcldjjmfpmkldaaGreatDoor.M
namespace Go.Proofs.YtcldjjmfpmkldaaGreatDoor.M
open Go.Proofs.YtcldjjmfpmkldaaGreatDoor.F Go.RowKit
set_option linter.unusedVariables false
set_option linter.unusedSimpArgs false
set_option maxRecDepth 100000
set_option maxHeartbeats 2000000
attribute [local irreducible] Res.cells Res.row Res.map Res.any World.cell? World.frozen? Instr.fieldAt Instr.loadAt Instr.storeAt Instr.indexAt Instr.lookup Instr.mapUpdate Instr.box Instr.build Instr.buildSlice Instr.extract Instr.alloc Instr.field Instr.index Instr.sliceAt Instr.makeSlice Instr.makeMap Instr.makeFunc binS Op.unary Sem.run
def thenD (p : Dk × Int) (f : Dk → Dk × Int) : Dk × Int := if p.2 = 0 then f p.1 else p
def saveT (D : Dk) (name s : ByteArray) : Dk × Int := thenD (thenD (appD D (newN name) s) (fun D => workD D (newN name) syncR)) (fun D => renD D (newN name) name)
open Classical in
noncomputable def saveD (D : Dk) (name : ByteArray) (l : List Gt) : Dk × Int :=
  if MayL l ∧ NamedB name then thenD (if ∃ f ∈ D.L, f.name = newN name then workD D (newN name) removeR else (D, 0)) (fun D => saveT D name (sealS (encL l))) else (D, 1)
def loadL (D : Dk) (name : ByteArray) : List Gt × Int :=
  if NamedB name then (if (readV D name).2 = 0 then ((decS (readV D name).1).getD [], if (decS (readV D name).1).isSome then 0 else 2) else ([], (readV D name).2)) else ([], 1)
theorem Ok.then_ {size : Nat} {p : Dk × Int} {f : Dk → Dk × Int} (h : Ok size p.1) (hf : ∀ D, Ok size D → Ok size (f D).1) : Ok size (thenD p f).1 := by
  unfold thenD
  split
  · exact hf _ h
  · exact h
theorem Ok.saveT {size : Nat} {D : Dk} {name s : ByteArray} (h : Ok size D) : Ok size (saveT D name s).1 := Ok.then_ (Ok.then_ (Ok.app h) fun D h => Ok.sync h) fun D h => Ok.ren h
theorem Ok.save {size : Nat} {D : Dk} {name : ByteArray} {l : List Gt} (h : Ok size D) : Ok size (saveD D name l).1 := by
  unfold saveD
  split
  · refine Ok.then_ ?_ fun D h => Ok.saveT h
    split
    · exact Ok.remove h
    · exact h
  · exact h
section
variable {w0 w : World} {F : List Nat} {L : List Res} {b b4 size : Nat} {D : Dk} {name : ByteArray}
/-- what comes of the walk from here on. -/
abbrev SvR (w0 : World) (F : List Nat) (L : List Res) (b : Nat) (p : Dk × Int) (v : Value) (w : World) : Prop := v = .int .i64 p.2 ∧ Dsk w0 F L b p.1 w
theorem Dsk.cell {cs : List Value} {t : TypeId} {v : Value} {i : Nat} (hD : Dsk w0 F (Res.cells b4 t cs :: L) b D w) (hi : cs[i]? = some v) : w.cell? ⟨b4, i, none⟩ = some v := by
  obtain ⟨L', hL, hS⟩ := hD.st
  exact cell_in hS (hL _ (.head _)) hi
theorem save_6 (hz : name.size ≤ 1000000) (hO : Ok size D) (hD : Dsk w0 F (Res.cells b4 9 [.string name] :: L) b D w) : m7_6 (SvR w0 F L b (renD D (newN name) name)) (ptr b) (ptr b4) w := by
  have e4 : (⟨#[46, 110, 101, 119]⟩ : ByteArray).size = 4 := rfl
  unfold m7_6
  refine valP_ok (ld9 (hD.cell (i := 0) rfl)) ?_
  refine valP_ok (sadd _ _ (by omega) _) ?_
  refine valP_ok (ld9 (hD.cell (i := 0) rfl)) ?_
  refine callR (by kernel_rfl) (rename_ret hO hD) ?_
  rintro _ w ⟨rfl, hD⟩
  unfold m7_7
  exact ⟨rfl, hD.pop⟩
theorem save_5 (hz : name.size ≤ 1000000) (hO : Ok size D) (hD : Dsk w0 F (Res.cells b4 9 [.string name] :: L) b D w) : m7_5 (SvR w0 F L b (thenD (workD D (newN name) syncR) fun D => renD D (newN name) name)) (ptr b) (ptr b4) w := by
  have e4 : (⟨#[46, 110, 101, 119]⟩ : ByteArray).size = 4 := rfl
  unfold m7_5
  refine valP_ok (ld9 (hD.cell (i := 0) rfl)) ?_
  refine valP_ok (sadd _ _ (by omega) _) ?_
  refine callR (by kernel_rfl) (sync_ret hO hD) ?_
  rintro _ w ⟨rfl, hD⟩
  have hO2 : Ok size (workD D (newN name) syncR).1 := Ok.sync hO
  have e : workD D (newN name) syncR = ((workD D (newN name) syncR).1, (workD D (newN name) syncR).2) := rfl
  change m7_8 _ _ _ (.int .i64 (workD D (newN name) syncR).2) w
  have hD : Dsk w0 F (Res.cells b4 9 [.string name] :: L) b (workD D (newN name) syncR).1 w := hD
  generalize workD D (newN name) syncR = p at *
  unfold m7_8
  refine valP_ok (ne26 _ _ _ _ _) ?_
  unfold m7_9 thenD
  refine cond_split (fun h => ?_) (fun h => ?_)
  · unfold m7_10
    rw [if_neg h]
    exact ⟨rfl, hD.pop⟩
  · rw [if_pos (Classical.not_not.1 h)]
    exact save_6 hz hO2 hD
theorem thenD_assoc (p : Dk × Int) (f g : Dk → Dk × Int) : thenD (thenD p f) g = thenD p (fun D => thenD (f D) g) := by
  unfold thenD
  by_cases h : p.2 = 0
  · rw [if_pos h, if_pos h]
  · rw [if_neg h, if_neg h, if_neg h]
theorem save_4 {s : ByteArray} (hs : s.size ≤ 1000000000) (hz : name.size ≤ 1000000) (hO : Ok size D) (hD : Dsk w0 F (Res.cells b4 9 [.string name] :: L) b D w) : m7_4 (SvR w0 F L b (saveT D name s)) (ptr b) (ptr b4) (.string s) w := by
  have e4 : (⟨#[46, 110, 101, 119]⟩ : ByteArray).size = 4 := rfl
  unfold m7_4 saveT
  rw [thenD_assoc]
  refine valP_ok (ld9 (hD.cell (i := 0) rfl)) ?_
  refine valP_ok (sadd _ _ (by omega) _) ?_
  refine callR (by kernel_rfl) (append_ret hO hs hD) ?_
  rintro _ w ⟨rfl, hD⟩
  have hO2 : Ok size (appD D (newN name) s).1 := Ok.app hO
  change m7_11 _ _ _ (.int .i64 (appD D (newN name) s).2) w
  have hD : Dsk w0 F (Res.cells b4 9 [.string name] :: L) b (appD D (newN name) s).1 w := hD
  generalize appD D (newN name) s = p at *
  unfold m7_11
  refine valP_ok (ne26 _ _ _ _ _) ?_
  unfold m7_12
  refine cond_split (fun h => ?_) (fun h => ?_)
  · unfold m7_13 thenD
    rw [if_neg h]
    exact ⟨rfl, hD.pop⟩
  · rw [thenD, if_pos (Classical.not_not.1 h)]
    exact save_5 hz hO2 hD
theorem save_ret {l : List Gt} {A : Option Addr} {c : Nat} (hm : l.length ≤ 100000) (hg : ∀ g ∈ l, GtS g) (hE : BG w0 F L A l) (hO : Ok size D) (hD : Dsk w0 F L b D w) : Ret Tryz.prog 7 #[ptr b, .string name, .slice A l.length c] w (SvR w0 F L b (saveD D name l)) := by
  have hlen := hO.len
  have e4 : (⟨#[46, 110, 101, 119]⟩ : ByteArray).size = 4 := rfl
  obtain ⟨mb, X, hX, hS⟩ := hD
  refine s7 _ _ _ ?_
  unfold m7
  unfold m7_0
  refine new_ok (bx9 rfl _) hS ?_
  intro b4 w hS
  have hD : Dsk w0 F (Res.cells b4 9 [.string name] :: L) b D w := Dsk.push hX hS
  clear hS hX
  unfold m7_1
  refine callR (by kernel_rfl) (hD.with fun L' hL' hS => encode_ret hm hg (hE.mono fun r hr => hL' _ (.tail _ hr)) hS) ?_
  rintro _ w ⟨rfl, hD⟩
  have leaf : ∀ (t : Bool) (s : ByteArray) w, Dsk w0 F (Res.cells b4 9 [.string name] :: L) b D w → (t = true ↔ ¬ (MayL l ∧ NamedB name)) → (t = false → s = sealS (encL l)) → m7_18 (SvR w0 F L b (saveD D name l)) (ptr b) (ptr b4) (.string s) (.bool t) w := fun t s w hD ht hs => by
    unfold m7_18
    cases t with
    | true =>
      refine cond_t rfl ?_
      unfold m7_19 saveD
      rw [if_neg (ht.1 rfl)]
      exact ⟨rfl, hD.pop⟩
    | false =>
      have h : MayL l ∧ NamedB name := Classical.byContradiction fun h => by have := ht.2 h; cases this
      obtain rfl := hs rfl
      have hz : name.size ≤ 1000000 := by have := h.2.2.1; omega
      have hsz : (sealS (encL l)).size ≤ 1000000000 := by
        have := encL_size h.1
        rw [sealS_size]
        omega
      refine cond_f rfl ?_
      unfold m7_3 saveD
      rw [if_pos h]
      refine callR (by kernel_rfl) (files_ret hO hD) ?_
      rintro _ w ⟨A1, c1, rfl, hD⟩
      refine valP_ok (mf25 _ _) ?_
      have hB : Bes w0 F (flRow A1 c1 D.L :: Res.cells b4 9 [.string name] :: L) 3 A1 D.L.length (D.L.flatMap encFl) := Bes.of_row 0 rfl
      refine callR (by kernel_rfl) (hD.with fun L' hL' hS => contains23_ret (by omega) hz (hL' _ (.tail _ (.head _))) (hB.mono hL') hS) ?_
      rintro _ w ⟨⟨t, rfl, ht⟩, hD⟩
      have hD := hD.pop
      unfold m7_14
      cases t with
      | true =>
        rw [if_pos (ht.1 rfl)]
        refine cond_t rfl ?_
        refine valP_ok (ld9 (hD.cell (i := 0) rfl)) ?_
        refine valP_ok (sadd _ _ (by omega) _) ?_
        refine callR (by kernel_rfl) (remove_ret hO hD) ?_
        rintro _ w ⟨rfl, hD⟩
        have hO2 : Ok size (workD D (newN name) removeR).1 := Ok.remove hO
        change m7_15 _ _ _ _ (.int .i64 (workD D (newN name) removeR).2) w
        have hD : Dsk w0 F (Res.cells b4 9 [.string name] :: L) b (workD D (newN name) removeR).1 w := hD
        generalize workD D (newN name) removeR = p at *
        unfold m7_15
        refine valP_ok (ne26 _ _ _ _ _) ?_
        unfold m7_16
        refine cond_split (fun h => ?_) (fun h => ?_)
        · unfold m7_17 thenD
          rw [if_neg h]
          exact ⟨rfl, hD.pop⟩
        · rw [thenD, if_pos (Classical.not_not.1 h)]
          exact save_4 hsz hz hO2 hD
      | false =>
        rw [if_neg (fun h => by have := ht.2 h; cases this)]
        refine cond_f rfl ?_
        rw [thenD, if_pos rfl]
        exact save_4 hsz hz hO hD
  unfold encV
  by_cases hM : MayL l
  · rw [if_pos hM]
    refine valP_ok (extract_ok _ 0 rfl _) ?_
    refine valP_ok (extract_ok _ 1 rfl _) ?_
    unfold m7_2
    refine valP_ok (ne26 _ _ _ _ _) ?_
    refine cond_split (fun h => absurd rfl h) (fun h => ?_)
    refine valP_ok (eq25s _ _ _ _) ?_
    first | refine pick_dt (by first | assumption | omega) ?_ | refine pick_df (by first | assumption | omega) ?_ | refine pick_t (by first | rfl | assumption) ?_ | refine pick_f (by first | rfl | assumption) ?_ | refine pick_dt rfl ?_ | refine pick_df (not_not_intro rfl) ?_
    refine cond_f rfl ?_
    refine valP_ok (ld9 (hD.cell (i := 0) rfl)) ?_
    refine callR (by kernel_rfl) (hD.with fun L' hL' hS => named22_ret hS) ?_
    rintro _ w ⟨rfl, hD⟩
    first | refine valP_ok (not_ok _ _) ?_ | refine valP_ok (notb_ok _ _) ?_
    first | refine pick_dt (by first | assumption | omega) ?_ | refine pick_df (by first | assumption | omega) ?_ | refine pick_t (by first | rfl | assumption) ?_ | refine pick_f (by first | rfl | assumption) ?_ | refine pick_dt rfl ?_ | refine pick_df (not_not_intro rfl) ?_
    exact leaf _ _ _ hD (by rw [decide_eq_true_eq]; exact ⟨fun h h1 => h h1.2, fun h h1 => h ⟨hM, h1⟩⟩) (fun _ => rfl)
  · rw [if_neg hM]
    refine valP_ok (extract_ok _ 0 rfl _) ?_
    refine valP_ok (extract_ok _ 1 rfl _) ?_
    unfold m7_2
    refine valP_ok (ne26 _ _ _ _ _) ?_
    refine cond_split (fun h => ?_) (fun h => absurd (Classical.not_not.1 h) (by decide))
    first | refine pick_dt (by first | assumption | omega) ?_ | refine pick_df (by first | assumption | omega) ?_ | refine pick_t (by first | rfl | assumption) ?_ | refine pick_f (by first | rfl | assumption) ?_ | refine pick_dt rfl ?_ | refine pick_df (not_not_intro rfl) ?_
    refine cond_t rfl ?_
    first | refine pick_dt (by first | assumption | omega) ?_ | refine pick_df (by first | assumption | omega) ?_ | refine pick_t (by first | rfl | assumption) ?_ | refine pick_f (by first | rfl | assumption) ?_ | refine pick_dt rfl ?_ | refine pick_df (not_not_intro rfl) ?_
    exact leaf true _ _ hD ⟨fun _ h => hM h.1, fun _ => rfl⟩ (fun h => (by cases h))
def LdR (w0 : World) (F : List Nat) (L : List Res) (b : Nat) (D : Dk) (p : List Gt × Int) (v : Value) (w : World) : Prop := ∃ A c, v = .tuple #[.slice A p.1.length c, .int .i64 p.2] ∧ Dsk w0 F (grow A c p.1 :: L) b D w
theorem LdR.none_ {e : Int} (hD : Dsk w0 F L b D w) : LdR w0 F L b D ([], e) (.tuple #[.slice none 0 0, .int .i64 e]) w := by
  obtain ⟨mb, X, hX, hS⟩ := hD
  exact ⟨none, 0, rfl, Dsk.push hX (hS.row_nil 58 4)⟩
theorem load_ret (hO : Ok size D) (hD : Dsk w0 F L b D w) : Ret Tryz.prog 10 #[ptr b, .string name] w (LdR w0 F L b D (loadL D name)) := by
  refine s10 _ _ ?_
  unfold m10
  unfold m10_0
  unfold m10_1
  refine valP_ok (eq25s _ _ _ _) ?_
  refine cond_f rfl ?_
  refine callR (by kernel_rfl) (hD.with fun L' hL' hS => named22_ret hS) ?_
  rintro _ w ⟨rfl, hD⟩
  first | refine valP_ok (not_ok _ _) ?_ | refine valP_ok (notb_ok _ _) ?_
  first | refine pick_dt (by first | assumption | omega) ?_ | refine pick_df (by first | assumption | omega) ?_ | refine pick_t (by first | rfl | assumption) ?_ | refine pick_f (by first | rfl | assumption) ?_ | refine pick_dt rfl ?_ | refine pick_df (not_not_intro rfl) ?_
  unfold m10_8 loadL
  refine cond_split (fun h => ?_) (fun h => ?_)
  · unfold m10_9
    rw [if_neg h]
    exact LdR.none_ hD
  · rw [if_pos (Classical.not_not.1 h)]
    unfold m10_2
    refine callR (by kernel_rfl) (read_ret hO hD) ?_
    rintro _ w ⟨rfl, hD⟩
    have hsz : (readV D name).1.size ≤ 1048576 := by
      unfold readV
      split
      · cases hg : getF D.L name with
        | none => exact Nat.zero_le _
        | some f =>
          have := hO.sz (getF_some hg).1
          show (f.sure ++ f.loose).size ≤ _
          rw [ByteArray.size_append]
          exact this
      · exact Nat.zero_le _
    generalize readV D name = p at *
    refine valP_ok (extract_ok _ 0 rfl _) ?_
    refine valP_ok (extract_ok _ 1 rfl _) ?_
    unfold m10_3
    refine valP_ok (ne26 _ _ _ _ _) ?_
    unfold m10_6
    refine cond_split (fun h => ?_) (fun h => ?_)
    · unfold m10_7
      rw [if_neg h]
      exact LdR.none_ hD
    · rw [if_pos (Classical.not_not.1 h)]
      obtain ⟨mb, X, hX, hS⟩ := hD
      unfold m10_4
      refine callR (by kernel_rfl) (decode_ret (by unfold maxLen; omega) hS) ?_
      rintro _ w ⟨A, c, rfl, hS⟩
      refine valP_ok (extract_ok _ 0 rfl _) ?_
      refine valP_ok (extract_ok _ 1 rfl _) ?_
      unfold m10_5
      exact ⟨A, c, rfl, Dsk.push hX hS⟩
end
end Go.Proofs.YtcldjjmfpmkldaaGreatDoor.M
namespace Go.Proofs.YtcldjjmfpmkldaaGreatDoor.M
open Go.Proofs.YtcldjjmfpmkldaaGreatDoor.F Go.RowKit
set_option linter.unusedVariables false
set_option linter.unusedSimpArgs false
set_option maxRecDepth 100000
set_option maxHeartbeats 2000000
attribute [local irreducible] Res.cells Res.row Res.map Res.any World.cell? World.frozen? Instr.fieldAt Instr.loadAt Instr.storeAt Instr.indexAt Instr.lookup Instr.mapUpdate Instr.box Instr.build Instr.buildSlice Instr.extract Instr.alloc Instr.field Instr.index Instr.sliceAt Instr.makeSlice Instr.makeMap Instr.makeFunc binS Op.unary Sem.run
abbrev xS : ByteArray := ⟨#[120]⟩
abbrev nS : ByteArray := ⟨#[120, 46, 110, 101, 119]⟩
abbrev eS : ByteArray := ⟨#[]⟩
abbrev fx (S : ByteArray) : Fl := ⟨xS, S, eS⟩
theorem newN_x : newN xS = nS := by kernel_rfl
theorem named_x : Named xS := of_decide_eq_true (by kernel_rfl)
theorem named_n : Named nS := of_decide_eq_true (by kernel_rfl)
theorem namedB_x : NamedB xS := of_decide_eq_true (by kernel_rfl)
theorem x_ne_n : xS ≠ nS := fun h => by
  have h1 := congrArg ByteArray.size h
  have h2 : (1 : Nat) = 5 := h1
  omega
theorem n_not_lt : ¬ lst nS < lst xS := by
  have h : decide (lst nS < lst xS) = false := by kernel_rfl
  exact of_decide_eq_false h
theorem ready_n : readyC [nS] false = 0 := by
  unfold readyC
  rw [if_pos (fun x hx => by obtain rfl := List.mem_singleton.1 hx; exact named_n)]
  rfl
theorem ready_x : readyC [xS] false = 0 := by
  unfold readyC
  rw [if_pos (fun x hx => by obtain rfl := List.mem_singleton.1 hx; exact named_x)]
  rfl
theorem ready_nx : readyC [nS, xS] false = 0 := by
  unfold readyC
  rw [if_pos (fun x hx => by
    rcases List.mem_cons.1 hx with rfl | hx
    · exact named_n
    · obtain rfl := List.mem_singleton.1 hx
      exact named_x)]
  rfl
/-- no file, or x alone. -/
def One (P : List Fl) : Prop := P = [] ∨ ∃ S, P = [fx S]
section
variable {P : List Fl} {D : Dk} {B U V S : ByteArray}
theorem one_name (h : One P) : ∀ f ∈ P, f.name = xS := by
  rcases h with rfl | ⟨S, rfl⟩
  · intro f hf; cases hf
  · intro f hf; obtain rfl := List.mem_singleton.1 hf; rfl
theorem one_ins (h : One P) : insF ⟨nS, U, V⟩ P = P ++ [⟨nS, U, V⟩] := by
  rcases h with rfl | ⟨S, rfl⟩
  · rfl
  · show insF ⟨nS, U, V⟩ [fx S] = _
    unfold insF
    rw [if_neg n_not_lt]
    rfl
theorem one_none (h : One P) : getF P nS = none := getF_none fun f hf e => x_ne_n ((one_name h f hf).symm.trans e)
theorem one_get (h : One P) : getF (P ++ [⟨nS, U, V⟩]) nS = some ⟨nS, U, V⟩ := by
  unfold getF
  rw [List.find?_append]
  have := one_none h
  unfold getF at this
  rw [this]
  simp
theorem one_upd (h : One P) {U' V' : ByteArray} : updF (P ++ [⟨nS, U, V⟩]) ⟨nS, U', V'⟩ = P ++ [⟨nS, U', V'⟩] := by
  unfold updF
  have h1 : P.map (fun f => if f.name = nS then (⟨nS, U', V'⟩ : Fl) else f) = P := (List.map_congr_left (g := id) fun f hf => if_neg fun e => x_ne_n ((one_name h f hf).symm.trans e)).trans (List.map_id _)
  rw [List.map_append]
  show P.map (fun f => if f.name = nS then (⟨nS, U', V'⟩ : Fl) else f) ++ _ = _
  rw [h1]
  simp
theorem one_del (h : One P) : delF (P ++ [⟨nS, U, V⟩]) nS = P := by
  unfold delF
  have h1 : P.filter (fun f => decide (f.name ≠ nS)) = P := List.filter_eq_self.2 fun f hf => decide_eq_true fun e => x_ne_n ((one_name h f hf).symm.trans e)
  rw [List.filter_append, h1]
  simp
theorem one_delx (h : One P) : delF P xS = [] := by
  unfold delF
  exact List.filter_eq_nil_iff.2 fun f hf => by simp [one_name h f hf]
theorem app_step (h : One P) (hL : D.L = P) (hoff : D.off = false) (hr : (blk B.size : Int) ≤ D.room) : appD D nS B = burnC ⟨P ++ [⟨nS, eS, B⟩], D.room - blk B.size, D.fuse, false⟩ := by
  have hl : P.length < 256 := by
    rcases h with rfl | ⟨S, rfl⟩ <;> simp
  unfold appD
  rw [hoff, if_pos ready_n, hL, one_none h]
  simp only
  rw [if_neg (by omega), one_ins h]
theorem sync_step (h : One P) (hL : D.L = P ++ [⟨nS, U, V⟩]) (hoff : D.off = false) : workD D nS syncR = if D.fuse = 0 then (burnt D, 4) else (⟨P ++ [⟨nS, U ++ V, eS⟩], D.room, (burnt D).fuse, false⟩, 0) := by
  unfold workD
  rw [hoff, if_pos ready_n, hL, one_get h]
  simp only
  by_cases h0 : D.fuse = 0
  · rw [if_pos h0, if_pos h0]
  · rw [if_neg h0, if_neg h0]
    unfold syncR
    rw [burnt_L, burnt_room, hL, one_upd h, burnt_eq]
    simp only [if_neg h0, hoff]
theorem ren_step (h : One P) (hL : D.L = P ++ [⟨nS, U, eS⟩]) (hoff : D.off = false) : ∃ r, renD D nS xS = if D.fuse = 0 then (burnt D, 4) else (⟨[fx U], r, (burnt D).fuse, false⟩, 0) := by
  unfold renD
  rw [hoff, if_pos ready_nx]
  unfold workD
  rw [hoff, if_pos ready_n, hL, one_get h]
  simp only
  by_cases h0 : D.fuse = 0
  · exact ⟨0, by rw [if_pos h0, if_pos h0]⟩
  · refine ⟨(renR xS ⟨nS, U, eS⟩ (burnt D)).1.room, ?_⟩
    rw [if_neg h0, if_neg h0]
    unfold renR
    have e1 : (burnt D).L = P ++ [⟨nS, U, eS⟩] := by rw [burnt_L, hL]
    have e2 : (burnt D).off = false := by rw [burnt_eq]; simp only [if_neg h0, hoff]
    rw [e1, e2, one_del h, one_delx h]
    rfl
theorem empty_app (s : ByteArray) : eS ++ s = s := by apply ByteArray.ext; rw [ByteArray.data_append]; simp
theorem app_empty (s : ByteArray) : s ++ eS = s := by apply ByteArray.ext; rw [ByteArray.data_append]; simp
/-- x has all of it; or it has what it had, and the power is off. -/
theorem saveT_out (h : One P) (hL : D.L = P) (hoff : D.off = false) (hf : -1 ≤ D.fuse) (hr : (blk B.size : Int) ≤ D.room) :
    ((saveT D xS B).2 = 0 ∧ (saveT D xS B).1.L = [fx B] ∧ (saveT D xS B).1.off = false ∧ (D.fuse = -1 → (saveT D xS B).1.fuse = -1)) ∨
    (D.fuse ≠ -1 ∧ (saveT D xS B).2 = 4 ∧ ∃ U V, (saveT D xS B).1.L = P ++ [⟨nS, U, V⟩] ∧ U.size + V.size = B.size) := by
  have z0 : (eS : ByteArray).size = 0 := rfl
  unfold saveT
  rw [newN_x, app_step h hL hoff hr]
  unfold burnC
  simp only
  by_cases h0 : D.fuse = 0
  · right
    rw [if_pos h0]
    have e1 : ∀ (D' : Dk) f g, thenD (thenD (D', (4 : Int)) f) g = (D', 4) := fun D' f g => by unfold thenD; simp
    rw [e1]
    refine ⟨by omega, rfl, eS, B, by rw [burnt_L], by omega⟩
  · rw [if_neg h0]
    have e2 : ∀ (D' : Dk) f, thenD (D', (0 : Int)) f = f D' := fun D' f => by unfold thenD; simp
    rw [e2]
    have b1 : burnt ⟨P ++ [⟨nS, eS, B⟩], D.room - blk B.size, D.fuse, false⟩ = ⟨P ++ [⟨nS, eS, B⟩], D.room - blk B.size, if 0 < D.fuse then D.fuse - 1 else D.fuse, false⟩ := by
      rw [burnt_eq]
      simp only [if_neg h0]
    rw [b1, sync_step h rfl rfl]
    simp only
    by_cases h1 : (if 0 < D.fuse then D.fuse - 1 else D.fuse) = 0
    · right
      rw [if_pos h1]
      have e1 : ∀ (D' : Dk) g, thenD (D', (4 : Int)) g = (D', 4) := fun D' g => by unfold thenD; simp
      rw [e1]
      refine ⟨fun e => by rw [if_neg (by omega)] at h1; omega, rfl, eS, B, by rw [burnt_L], by omega⟩
    · rw [if_neg h1, e2, empty_app]
      have b2 : (burnt ⟨P ++ [⟨nS, eS, B⟩], D.room - blk B.size, if 0 < D.fuse then D.fuse - 1 else D.fuse, false⟩).fuse = (if 0 < (if 0 < D.fuse then D.fuse - 1 else D.fuse) then (if 0 < D.fuse then D.fuse - 1 else D.fuse) - 1 else (if 0 < D.fuse then D.fuse - 1 else D.fuse)) := by
        rw [burnt_eq]
      rw [b2]
      obtain ⟨r, hren⟩ := ren_step (D := ⟨P ++ [⟨nS, B, eS⟩], D.room - blk B.size, (if 0 < (if 0 < D.fuse then D.fuse - 1 else D.fuse) then (if 0 < D.fuse then D.fuse - 1 else D.fuse) - 1 else (if 0 < D.fuse then D.fuse - 1 else D.fuse)), false⟩) h rfl rfl
      rw [hren]
      simp only
      by_cases h2 : (if 0 < (if 0 < D.fuse then D.fuse - 1 else D.fuse) then (if 0 < D.fuse then D.fuse - 1 else D.fuse) - 1 else (if 0 < D.fuse then D.fuse - 1 else D.fuse)) = 0
      · right
        rw [if_pos h2]
        refine ⟨fun e => ?_, rfl, B, eS, by rw [burnt_L], by omega⟩
        rw [e] at h2
        simp at h2
      · left
        rw [if_neg h2]
        refine ⟨rfl, rfl, rfl, fun e => ?_⟩
        rw [burnt_eq]
        simp only [e]
        rfl
end
end Go.Proofs.YtcldjjmfpmkldaaGreatDoor.M
namespace Go.Proofs.YtcldjjmfpmkldaaGreatDoor.M
open Go.Proofs.YtcldjjmfpmkldaaGreatDoor.F Go.RowKit
set_option linter.unusedVariables false
set_option linter.unusedSimpArgs false
set_option maxRecDepth 100000
set_option maxHeartbeats 2000000
attribute [local irreducible] Res.cells Res.row Res.map Res.any World.cell? World.frozen? Instr.fieldAt Instr.loadAt Instr.storeAt Instr.indexAt Instr.lookup Instr.mapUpdate Instr.box Instr.build Instr.buildSlice Instr.extract Instr.alloc Instr.field Instr.index Instr.sliceAt Instr.makeSlice Instr.makeMap Instr.makeFunc binS Op.unary Sem.run
section
variable {P : List Fl} {D : Dk} {B U V S : ByteArray} {l a b : List Gt}
theorem crash_len (D : Dk) (keep : List Int) : (crashD D keep).L.length = D.L.length := crs_len keep D.L _
theorem crash_get (D : Dk) (keep : List Int) (i : Nat) (h : i < (crashD D keep).L.length) (h2 : i < D.L.length) : (crashD D keep).L[i] = crOne keep i D.L[i] := by
  have := crs_get keep D.L D.L.length i h h2
  rw [if_pos h2] at this
  exact this
theorem crash_map (D : Dk) (keep : List Int) : (crashD D keep).L = D.L.mapIdx (crOne keep) := by
  refine List.ext_getElem (by rw [crash_len, List.length_mapIdx]) fun i h1 h2 => ?_
  rw [crash_get D keep i h1 (by rw [crash_len] at h1; exact h1), List.getElem_mapIdx]
theorem crOne_fx (keep : List Int) (i : Nat) (S : ByteArray) : crOne keep i (fx S) = fx S := by
  unfold crOne
  have e : (eS : ByteArray).extract 0 (kN keep i (eS : ByteArray).size) = eS := by
    rw [empty_iff, ByteArray.size_extract]
    exact Nat.le_zero.1 (Nat.le_trans (Nat.sub_le _ _) (Nat.min_le_right _ _))
  show (⟨xS, S ++ eS.extract 0 (kN keep i eS.size), eS⟩ : Fl) = fx S
  rw [e, app_empty]
theorem crash_one (h : One P) (keep : List Int) (hL : D.L = P) : (crashD D keep).L = P := by
  rw [crash_map, hL]
  rcases h with rfl | ⟨S, rfl⟩
  · rfl
  · simp only [List.mapIdx_cons, List.mapIdx_nil, crOne_fx]
theorem crash_two (h : One P) (keep : List Int) (hL : D.L = P ++ [⟨nS, U, V⟩]) : ∃ U', (crashD D keep).L = P ++ [⟨nS, U', eS⟩] := by
  rw [crash_map, hL]
  rcases h with rfl | ⟨S, rfl⟩
  · exact ⟨_, rfl⟩
  · refine ⟨U ++ V.extract 0 (kN keep 1 V.size), ?_⟩
    simp only [List.cons_append, List.nil_append, List.mapIdx_cons, List.mapIdx_nil, crOne_fx]
    rfl
theorem enc_small (h : MayL l) (hl : l.length ≤ 150) : (sealS (encL l)).size ≤ 90020 := by
  have h1 := bodyL_size h.1
  have h2 := putS_size (n := (l.length : Int)) (by omega)
  rw [sealS_size]
  unfold encL
  rw [ByteArray.size_append]
  omega
theorem used_one (h : P = [] ∨ ∃ S, P = [fx S] ∧ S.size ≤ 90020) : used P ≤ 1407 := by
  have z : (eS : ByteArray).size = 0 := rfl
  rcases h with rfl | ⟨S, rfl, hS⟩
  · exact Nat.zero_le _
  · unfold used
    simp only [List.map_cons, List.map_nil, List.sum_cons, List.sum_nil, Fl.sz, z]
    unfold blk
    omega
theorem small_one (h : P = [] ∨ ∃ S, P = [fx S] ∧ S.size ≤ 90020) : One P := h.imp id fun ⟨S, e, _⟩ => ⟨S, e⟩
/-- a save on a disk with x alone. -/
theorem save_out (h : P = [] ∨ ∃ S, P = [fx S] ∧ S.size ≤ 90020) (hO : Ok 16384 D) (hL : D.L = P) (hoff : D.off = false) (hM : MayL l) (hl : l.length ≤ 150) :
    ((saveD D xS l).2 = 0 ∧ (saveD D xS l).1.L = [fx (sealS (encL l))] ∧ (saveD D xS l).1.off = false ∧ (D.fuse = -1 → (saveD D xS l).1.fuse = -1)) ∨
    (D.fuse ≠ -1 ∧ (saveD D xS l).2 = 4 ∧ ∃ U V, (saveD D xS l).1.L = P ++ [⟨nS, U, V⟩]) := by
  have h1 := small_one h
  have hu := used_one h
  have hs := hO.sum
  rw [hL] at hs
  have hz := enc_small hM hl
  have hno : ¬ ∃ f ∈ D.L, f.name = newN xS := by
    rw [newN_x, hL]
    rintro ⟨f, hf, e⟩
    exact x_ne_n ((one_name h1 f hf).symm.trans e)
  have e : saveD D xS l = saveT D xS (sealS (encL l)) := by
    unfold saveD
    rw [if_pos ⟨hM, namedB_x⟩, if_neg hno]
    unfold thenD
    rw [if_pos rfl]
  rw [e]
  refine (saveT_out h1 hL hoff hO.fuse.1 ?_).imp id fun ⟨p, q, U, V, r, _⟩ => ⟨p, q, U, V, r⟩
  unfold blk
  omega
/-- a save on a disk that crashed. -/
theorem save_again (h : P = [] ∨ ∃ S, P = [fx S] ∧ S.size ≤ 90020) (hO : Ok 16384 D) (hL : D.L = P ∨ ∃ U, D.L = P ++ [⟨nS, U, eS⟩]) (hoff : D.off = false) (hf : D.fuse = -1) (hM : MayL l) (hl : l.length ≤ 150) :
    (saveD D xS l).2 = 0 ∧ (saveD D xS l).1.L = [fx (sealS (encL l))] ∧ (saveD D xS l).1.off = false := by
  rcases hL with hL | ⟨U, hL⟩
  · rcases save_out h hO hL hoff hM hl with ⟨p, q, r, _⟩ | ⟨p, _⟩
    · exact ⟨p, q, r⟩
    · exact absurd hf p
  · have h1 := small_one h
    have hz := enc_small hM hl
    have hyes : ∃ f ∈ D.L, f.name = newN xS := by
      rw [newN_x, hL]
      exact ⟨_, List.mem_append_right _ (.head _), rfl⟩
    have hw : workD D nS removeR = (⟨P, D.room + blk (⟨nS, U, eS⟩ : Fl).sz, -1, false⟩, 0) := by
      unfold workD
      rw [hoff, if_pos ready_n, hL, one_get h1]
      simp only
      rw [if_neg (by omega)]
      unfold removeR
      rw [burnt_eq, hL, one_del h1]
      simp only [hf, hoff]
      rfl
    have hO2 : Ok 16384 (workD D nS removeR).1 := Ok.remove hO
    have e : saveD D xS l = saveT (workD D nS removeR).1 xS (sealS (encL l)) := by
      unfold saveD
      rw [if_pos ⟨hM, namedB_x⟩, if_pos hyes, newN_x]
      unfold thenD
      rw [hw, if_pos rfl]
    rw [e]
    rw [hw] at hO2 ⊢
    have hs := hO2.sum
    have hu := used_one h
    simp only at hs
    rcases saveT_out (D := ⟨P, D.room + blk (⟨nS, U, eS⟩ : Fl).sz, -1, false⟩) (B := sealS (encL l)) h1 rfl rfl (by simp) (by unfold blk at *; simp only; omega) with ⟨p, q, r, _⟩ | ⟨p, _⟩
    · exact ⟨p, q, r⟩
    · exact absurd rfl p
theorem load_x {R : List Fl} (hL : D.L = fx (sealS (encL l)) :: R) (hoff : D.off = false) (hM : MayL l) : loadL D xS = (l, 0) := by
  have hr : readV D xS = (sealS (encL l), 0) := by
    unfold readV
    rw [hoff, if_pos ready_x, hL]
    unfold getF
    rw [List.find?_cons_of_pos (by simp)]
    simp only
    rw [app_empty]
  unfold loadL
  rw [if_pos namedB_x, hr, if_pos rfl, dec_enc hM]
  rfl
/-- what the file has, wherever the power went. -/
theorem lasts {keep : List Int} (hO : Ok 16384 D) (hL : D.L = [fx (sealS (encL a))]) (hoff : D.off = false) (ha : MayL a) (hb : MayL b) (hla : a.length ≤ 150) (hlb : b.length ≤ 150) :
    ((saveD D xS b).2 = 0 ∧ loadL (crashD (saveD D xS b).1 keep) xS = (b, 0) ∨ (saveD D xS b).2 = 4 ∧ (loadL (crashD (saveD D xS b).1 keep) xS = (a, 0) ∨ loadL (crashD (saveD D xS b).1 keep) xS = (b, 0))) ∧
    (saveD (crashD (saveD D xS b).1 keep) xS b).2 = 0 ∧ loadL (saveD (crashD (saveD D xS b).1 keep) xS b).1 xS = (b, 0) := by
  have hza := enc_small ha hla
  have hzb := enc_small hb hlb
  have hO2 : Ok 16384 (saveD D xS b).1 := Ok.save hO
  have hO3 : Ok 16384 (crashD (saveD D xS b).1 keep) := Ok.crash hO2
  have ho : (crashD (saveD D xS b).1 keep).off = false := rfl
  have hf : (crashD (saveD D xS b).1 keep).fuse = -1 := rfl
  rcases save_out (P := [fx (sealS (encL a))]) (.inr ⟨_, rfl, hza⟩) hO hL hoff hb hlb with ⟨p, q, r, -⟩ | ⟨-, p, U, V, q⟩
  · have hc := crash_one (.inr ⟨_, rfl⟩) keep q
    have hsv := save_again (P := [fx (sealS (encL b))]) (.inr ⟨_, rfl, hzb⟩) hO3 (.inl hc) ho hf hb hlb
    exact ⟨.inl ⟨p, load_x hc ho hb⟩, hsv.1, load_x hsv.2.1 hsv.2.2 hb⟩
  · obtain ⟨U', hc⟩ := crash_two (.inr ⟨_, rfl⟩) keep q
    have hsv := save_again (P := [fx (sealS (encL a))]) (.inr ⟨_, rfl, hza⟩) hO3 (.inr ⟨U', hc⟩) ho hf hb hlb
    exact ⟨.inr ⟨p, .inl (load_x hc ho ha)⟩, hsv.1, load_x hsv.2.1 hsv.2.2 hb⟩
theorem first (hl : l.length ≤ 150) : (saveD ⟨[], 16384, -1, false⟩ xS l).2 = (if MayL l then 0 else 1) ∧ (MayL l → (saveD ⟨[], 16384, -1, false⟩ xS l).1.L = [fx (sealS (encL l))] ∧ (saveD ⟨[], 16384, -1, false⟩ xS l).1.off = false) := by
  have hO : Ok (16384 : Int).toNat ⟨[], 16384, -1, false⟩ := Ok.new (by omega)
  have hO : Ok 16384 ⟨[], 16384, -1, false⟩ := hO
  by_cases h : MayL l
  · rw [if_pos h]
    rcases save_out (P := []) (.inl rfl) hO rfl rfl h hl with ⟨p, q, r, -⟩ | ⟨p, -⟩
    · exact ⟨p, fun _ => ⟨q, r⟩⟩
    · exact absurd rfl p
  · rw [if_neg h]
    refine ⟨?_, fun h2 => absurd h2 h⟩
    unfold saveD
    rw [if_neg fun h2 => h h2.1]
theorem save_bad {x : ByteArray} (h : ¬ MayL l) : (saveD D x l).2 = 1 := by
  unfold saveD
  rw [if_neg fun h2 => h h2.1]
end
end Go.Proofs.YtcldjjmfpmkldaaGreatDoor.M
namespace Go.Proofs.YtcldjjmfpmkldaaGreatDoor.M
open Go.Proofs.YtcldjjmfpmkldaaGreatDoor.F Go.RowKit
set_option linter.unusedVariables false
set_option linter.unusedSimpArgs false
set_option maxRecDepth 100000
set_option maxHeartbeats 2000000
attribute [local irreducible] Res.cells Res.row Res.map Res.any World.cell? World.frozen? Instr.fieldAt Instr.loadAt Instr.storeAt Instr.indexAt Instr.lookup Instr.mapUpdate Instr.box Instr.build Instr.buildSlice Instr.extract Instr.alloc Instr.field Instr.index Instr.sliceAt Instr.makeSlice Instr.makeMap Instr.makeFunc binS Op.unary Sem.run
theorem cut_ok {l : List Gt} (h : ∀ g ∈ l, GtOk g) : ∀ g ∈ (l.take 150).map cutG, GtOk g := fun g hg => by
  obtain ⟨x, hx, rfl⟩ := List.mem_map.1 hg
  exact h x (List.mem_of_mem_take hx)
theorem cut_len (l : List Gt) : ((l.take 150).map cutG).length ≤ 150 := by
  rw [List.length_map, List.length_take]
  omega
section
variable {w0 : World} {l : List Gt} {A : Option Addr} {c : Nat}
end
theorem icells3 : Tryz.prog.cellsOf 3 = 1 := by kernel_rfl
theorem iI {x : Int} (h : (Lit.int .i64 x).wf = true) : -9223372036854775808 ≤ x ∧ x ≤ 9223372036854775807 := by
  simp only [Lit.wf, Bool.and_eq_true, decide_eq_true_eq] at h
  exact h
section
variable {H : Type} {en : TypeId × Value → H} {w : World}
theorem openRc {n : Nat} {cs : List Value} {y : DataW H × List MemPlace} (h : DataW.trod en Tryz.prog w 0 (fun _ => true) true n 56 cs = some y) : ∃ r : Rc, cs = encR r ∧ (-9223372036854775808 ≤ r.key ∧ r.key ≤ 9223372036854775807) ∧ -9223372036854775808 ≤ r.time ∧ r.time ≤ 9223372036854775807 := by
  obtain ⟨hl, hf⟩ := open_structE Tryz.underlying56 h
  rw [show Tryz.prog.cellsOf 56 = 3 from by kernel_rfl] at hl
  obtain ⟨c0, c1, c2, rfl⟩ : ∃ c0 c1 c2, cs = [c0, c1, c2] := by
    match cs, hl with
    | [c0, c1, c2], _ => exact ⟨c0, c1, c2, rfl⟩
  obtain ⟨_, _, h0⟩ := hf 0 3 0 1 rfl icells3
  obtain ⟨_, _, h1⟩ := hf 1 3 1 1 rfl icells3
  obtain ⟨_, _, h2⟩ := hf 2 9 2 1 rfl (by kernel_rfl)
  obtain ⟨a0, e0, _, w0⟩ := DataW.trod_int Tryz.underlying3 h0
  obtain ⟨a1, e1, _, w1⟩ := DataW.trod_int Tryz.underlying3 h1
  obtain ⟨a2, e2, _, w2⟩ := DataW.trod_string Tryz.underlying9 h2
  simp at e0 e1 e2
  subst e0; subst e1; subst e2
  exact ⟨⟨a0, a1, a2⟩, rfl, iI w0, iI w1⟩
theorem openGt {n : Nat} {cs : List Value} {y : DataW H × List MemPlace} (h : DataW.trod en Tryz.prog w 0 (fun _ => true) true n 58 cs = some y) : ∃ g : Gt, cs = encG g ∧ (encG g).length = 4 ∧ GtOk g := by
  obtain ⟨hl, hf⟩ := open_structE Tryz.underlying58 h
  rw [show Tryz.prog.cellsOf 58 = 4 from by kernel_rfl] at hl
  obtain ⟨c0, c1, c2, c3, rfl⟩ : ∃ c0 c1 c2 c3, cs = [c0, c1, c2, c3] := by
    match cs, hl with
    | [c0, c1, c2, c3], _ => exact ⟨c0, c1, c2, c3, rfl⟩
  obtain ⟨_, _, h0⟩ := hf 0 3 0 1 rfl icells3
  obtain ⟨_, _, h1⟩ := hf 1 56 1 3 rfl (by kernel_rfl)
  obtain ⟨a0, e0, _, w0⟩ := DataW.trod_int Tryz.underlying3 h0
  obtain ⟨r, e1, hr⟩ := openRc h1
  simp at e0 e1
  obtain ⟨rfl, rfl, rfl⟩ := e1
  subst e0
  exact ⟨⟨a0, r⟩, rfl, rfl, hr⟩
theorem openGts {n : Nat} {cs : List Value} {y : DataW H × List MemPlace} (h : DataW.trod en Tryz.prog w 0 (fun _ => true) true n 22 cs = some y) :
    ∃ (A : Option Addr) (c : Nat) (l : List Gt), cs = [.slice A l.length c] ∧ l.length ≤ c ∧ (A = none → c = 0) ∧ Rd w 4 A l.length (l.flatMap encG) ∧ ∀ x ∈ l, GtOk x :=
  open_rowsE encG GtOk (by omega) Tryz.underlying22 (by kernel_rfl) (fun n cs y h => openGt h) h
end
end Go.Proofs.YtcldjjmfpmkldaaGreatDoor.M
namespace Go.Proofs.YtcldjjmfpmkldaaGreatDoor.M
open Go.Proofs.YtcldjjmfpmkldaaGreatDoor.F
set_option linter.unusedVariables false
set_option maxRecDepth 100000
def m3_21 (R : VP) (t8 : Value) (w : World) : Prop :=
  R t8 w
def m3_18 (R : VP) (t8 : Value) (w : World) : Prop :=
  R t8 w
def m3_16 (R : VP) (t8 : Value) (w : World) : Prop :=
  R t8 w
def m3_15 (R : VP) (b1 f11 g12 old15 anew16 again17 m18 i19 : Value) (w : World) : Prop :=
  valP Tryz.prog (binS BinOp.eql 26 (Operand.tmp 105) (Operand.const (Value.int IntKind.i64 0)) f11 (Value.int IntKind.i64 0)) w fun t106 w =>
  condP t106
  (valP Tryz.prog (binS BinOp.eql 26 (Operand.tmp 108) (Operand.const (Value.int IntKind.i64 0)) g12 (Value.int IntKind.i64 0)) w fun t109 w =>
  condP t109
  (pickP t109 anew16 (Value.bool false) fun t112 =>
  condP t112
  (pickP t112 (Value.bool true) undef fun t122 =>
  pickP t106 t122 (Value.bool false) fun t123 =>
  valP Tryz.prog (binS BinOp.eql 26 (Operand.tmp 125) (Operand.const (Value.int IntKind.i64 0)) again17 (Value.int IntKind.i64 0)) w fun t126 w =>
  pickP t123 t126 (Value.bool false) fun t127 =>
  condP t127
  (valP Tryz.prog (binS BinOp.eql 26 (Operand.tmp 129) (Operand.const (Value.int IntKind.i64 0)) i19 (Value.int IntKind.i64 0)) w fun t130 w =>
  pickP t127 t130 (Value.bool false) fun t131 =>
  condP t131
  (callP Tryz.prog (fnV 13) #[m18, b1] w fun t135 w =>
  pickP t131 t135 (Value.bool false) fun t136 =>
  condP t136
  (callP Tryz.prog (fnV 12) #[] w fun t138 w =>
  pickP t136 t138 (Value.bool false) fun t139 =>
  m3_16 R t139 w)
  (pickP t136 undef (Value.bool false) fun t139 =>
  m3_16 R t139 w))
  (pickP t131 undef (Value.bool false) fun t136 =>
  pickP t136 undef (Value.bool false) fun t139 =>
  m3_16 R t139 w))
  (pickP t127 undef (Value.bool false) fun t131 =>
  pickP t131 undef (Value.bool false) fun t136 =>
  pickP t136 undef (Value.bool false) fun t139 =>
  m3_16 R t139 w))
  (valP Tryz.prog (binS BinOp.eql 26 (Operand.tmp 114) (Operand.const (Value.int IntKind.i64 4)) g12 (Value.int IntKind.i64 4)) w fun t115 w =>
  condP t115
  (condP old15
  (pickP old15 (Value.bool true) undef fun t120 =>
  pickP t115 t120 (Value.bool false) fun t121 =>
  pickP t112 (Value.bool true) t121 fun t122 =>
  pickP t106 t122 (Value.bool false) fun t123 =>
  valP Tryz.prog (binS BinOp.eql 26 (Operand.tmp 125) (Operand.const (Value.int IntKind.i64 0)) again17 (Value.int IntKind.i64 0)) w fun t126 w =>
  pickP t123 t126 (Value.bool false) fun t127 =>
  condP t127
  (valP Tryz.prog (binS BinOp.eql 26 (Operand.tmp 129) (Operand.const (Value.int IntKind.i64 0)) i19 (Value.int IntKind.i64 0)) w fun t130 w =>
  pickP t127 t130 (Value.bool false) fun t131 =>
  condP t131
  (callP Tryz.prog (fnV 13) #[m18, b1] w fun t135 w =>
  pickP t131 t135 (Value.bool false) fun t136 =>
  condP t136
  (callP Tryz.prog (fnV 12) #[] w fun t138 w =>
  pickP t136 t138 (Value.bool false) fun t139 =>
  m3_16 R t139 w)
  (pickP t136 undef (Value.bool false) fun t139 =>
  m3_16 R t139 w))
  (pickP t131 undef (Value.bool false) fun t136 =>
  pickP t136 undef (Value.bool false) fun t139 =>
  m3_16 R t139 w))
  (pickP t127 undef (Value.bool false) fun t131 =>
  pickP t131 undef (Value.bool false) fun t136 =>
  pickP t136 undef (Value.bool false) fun t139 =>
  m3_16 R t139 w))
  (pickP old15 (Value.bool true) anew16 fun t120 =>
  pickP t115 t120 (Value.bool false) fun t121 =>
  pickP t112 (Value.bool true) t121 fun t122 =>
  pickP t106 t122 (Value.bool false) fun t123 =>
  condP t123
  (valP Tryz.prog (binS BinOp.eql 26 (Operand.tmp 125) (Operand.const (Value.int IntKind.i64 0)) again17 (Value.int IntKind.i64 0)) w fun t126 w =>
  pickP t123 t126 (Value.bool false) fun t127 =>
  condP t127
  (valP Tryz.prog (binS BinOp.eql 26 (Operand.tmp 129) (Operand.const (Value.int IntKind.i64 0)) i19 (Value.int IntKind.i64 0)) w fun t130 w =>
  pickP t127 t130 (Value.bool false) fun t131 =>
  condP t131
  (callP Tryz.prog (fnV 13) #[m18, b1] w fun t135 w =>
  pickP t131 t135 (Value.bool false) fun t136 =>
  condP t136
  (callP Tryz.prog (fnV 12) #[] w fun t138 w =>
  pickP t136 t138 (Value.bool false) fun t139 =>
  m3_16 R t139 w)
  (pickP t136 undef (Value.bool false) fun t139 =>
  m3_16 R t139 w))
  (pickP t131 undef (Value.bool false) fun t136 =>
  pickP t136 undef (Value.bool false) fun t139 =>
  m3_16 R t139 w))
  (pickP t127 undef (Value.bool false) fun t131 =>
  pickP t131 undef (Value.bool false) fun t136 =>
  pickP t136 undef (Value.bool false) fun t139 =>
  m3_16 R t139 w))
  (pickP t123 undef (Value.bool false) fun t127 =>
  pickP t127 undef (Value.bool false) fun t131 =>
  pickP t131 undef (Value.bool false) fun t136 =>
  pickP t136 undef (Value.bool false) fun t139 =>
  m3_16 R t139 w)))
  (pickP t115 undef (Value.bool false) fun t121 =>
  pickP t112 (Value.bool true) t121 fun t122 =>
  pickP t106 t122 (Value.bool false) fun t123 =>
  pickP t123 undef (Value.bool false) fun t127 =>
  pickP t127 undef (Value.bool false) fun t131 =>
  pickP t131 undef (Value.bool false) fun t136 =>
  pickP t136 undef (Value.bool false) fun t139 =>
  m3_16 R t139 w)))
  (pickP t109 undef (Value.bool false) fun t112 =>
  valP Tryz.prog (binS BinOp.eql 26 (Operand.tmp 114) (Operand.const (Value.int IntKind.i64 4)) g12 (Value.int IntKind.i64 4)) w fun t115 w =>
  condP t115
  (condP old15
  (pickP old15 (Value.bool true) undef fun t120 =>
  pickP t115 t120 (Value.bool false) fun t121 =>
  pickP t112 (Value.bool true) t121 fun t122 =>
  pickP t106 t122 (Value.bool false) fun t123 =>
  valP Tryz.prog (binS BinOp.eql 26 (Operand.tmp 125) (Operand.const (Value.int IntKind.i64 0)) again17 (Value.int IntKind.i64 0)) w fun t126 w =>
  pickP t123 t126 (Value.bool false) fun t127 =>
  condP t127
  (valP Tryz.prog (binS BinOp.eql 26 (Operand.tmp 129) (Operand.const (Value.int IntKind.i64 0)) i19 (Value.int IntKind.i64 0)) w fun t130 w =>
  pickP t127 t130 (Value.bool false) fun t131 =>
  condP t131
  (callP Tryz.prog (fnV 13) #[m18, b1] w fun t135 w =>
  pickP t131 t135 (Value.bool false) fun t136 =>
  condP t136
  (callP Tryz.prog (fnV 12) #[] w fun t138 w =>
  pickP t136 t138 (Value.bool false) fun t139 =>
  m3_16 R t139 w)
  (pickP t136 undef (Value.bool false) fun t139 =>
  m3_16 R t139 w))
  (pickP t131 undef (Value.bool false) fun t136 =>
  pickP t136 undef (Value.bool false) fun t139 =>
  m3_16 R t139 w))
  (pickP t127 undef (Value.bool false) fun t131 =>
  pickP t131 undef (Value.bool false) fun t136 =>
  pickP t136 undef (Value.bool false) fun t139 =>
  m3_16 R t139 w))
  (pickP old15 (Value.bool true) anew16 fun t120 =>
  pickP t115 t120 (Value.bool false) fun t121 =>
  pickP t112 (Value.bool true) t121 fun t122 =>
  pickP t106 t122 (Value.bool false) fun t123 =>
  condP t123
  (valP Tryz.prog (binS BinOp.eql 26 (Operand.tmp 125) (Operand.const (Value.int IntKind.i64 0)) again17 (Value.int IntKind.i64 0)) w fun t126 w =>
  pickP t123 t126 (Value.bool false) fun t127 =>
  condP t127
  (valP Tryz.prog (binS BinOp.eql 26 (Operand.tmp 129) (Operand.const (Value.int IntKind.i64 0)) i19 (Value.int IntKind.i64 0)) w fun t130 w =>
  pickP t127 t130 (Value.bool false) fun t131 =>
  condP t131
  (callP Tryz.prog (fnV 13) #[m18, b1] w fun t135 w =>
  pickP t131 t135 (Value.bool false) fun t136 =>
  condP t136
  (callP Tryz.prog (fnV 12) #[] w fun t138 w =>
  pickP t136 t138 (Value.bool false) fun t139 =>
  m3_16 R t139 w)
  (pickP t136 undef (Value.bool false) fun t139 =>
  m3_16 R t139 w))
  (pickP t131 undef (Value.bool false) fun t136 =>
  pickP t136 undef (Value.bool false) fun t139 =>
  m3_16 R t139 w))
  (pickP t127 undef (Value.bool false) fun t131 =>
  pickP t131 undef (Value.bool false) fun t136 =>
  pickP t136 undef (Value.bool false) fun t139 =>
  m3_16 R t139 w))
  (pickP t123 undef (Value.bool false) fun t127 =>
  pickP t127 undef (Value.bool false) fun t131 =>
  pickP t131 undef (Value.bool false) fun t136 =>
  pickP t136 undef (Value.bool false) fun t139 =>
  m3_16 R t139 w)))
  (pickP t115 undef (Value.bool false) fun t121 =>
  pickP t112 (Value.bool true) t121 fun t122 =>
  pickP t106 t122 (Value.bool false) fun t123 =>
  pickP t123 undef (Value.bool false) fun t127 =>
  pickP t127 undef (Value.bool false) fun t131 =>
  pickP t131 undef (Value.bool false) fun t136 =>
  pickP t136 undef (Value.bool false) fun t139 =>
  m3_16 R t139 w)))
  (pickP t106 undef (Value.bool false) fun t123 =>
  pickP t123 undef (Value.bool false) fun t127 =>
  pickP t127 undef (Value.bool false) fun t131 =>
  pickP t131 undef (Value.bool false) fun t136 =>
  pickP t136 undef (Value.bool false) fun t139 =>
  m3_16 R t139 w)
def m3_14 (R : VP) (b1 d9 f11 g12 old15 anew16 again17 : Value) (w : World) : Prop :=
  callP Tryz.prog (fnV 10) #[d9, (Value.string ⟨#[120]⟩)] w fun t102 w =>
  valP Tryz.prog (Instr.extract t102 0) w fun t103 w =>
  valP Tryz.prog (Instr.extract t102 1) w fun t104 w =>
  m3_15 R b1 f11 g12 old15 anew16 again17 t103 t104 w
def m3_13 (R : VP) (b1 d9 f11 g12 old15 anew16 : Value) (w : World) : Prop :=
  callP Tryz.prog (fnV 7) #[d9, (Value.string ⟨#[120]⟩), b1] w fun t99 w =>
  m3_14 R b1 d9 f11 g12 old15 anew16 t99 w
def m3_12 (R : VP) (b1 d9 f11 g12 l13 h14 old15 : Value) (w : World) : Prop :=
  valP Tryz.prog (binS BinOp.eql 26 (Operand.tmp 90) (Operand.const (Value.int IntKind.i64 0)) h14 (Value.int IntKind.i64 0)) w fun t91 w =>
  condP t91
  (callP Tryz.prog (fnV 13) #[l13, b1] w fun t95 w =>
  pickP t91 t95 (Value.bool false) fun t96 =>
  m3_13 R b1 d9 f11 g12 old15 t96 w)
  (pickP t91 undef (Value.bool false) fun t96 =>
  m3_13 R b1 d9 f11 g12 old15 t96 w)
def m3_11 (R : VP) (a0 b1 d9 f11 g12 l13 h14 : Value) (w : World) : Prop :=
  valP Tryz.prog (binS BinOp.eql 26 (Operand.tmp 83) (Operand.const (Value.int IntKind.i64 0)) h14 (Value.int IntKind.i64 0)) w fun t84 w =>
  condP t84
  (callP Tryz.prog (fnV 13) #[l13, a0] w fun t88 w =>
  pickP t84 t88 (Value.bool false) fun t89 =>
  m3_12 R b1 d9 f11 g12 l13 h14 t89 w)
  (pickP t84 undef (Value.bool false) fun t89 =>
  m3_12 R b1 d9 f11 g12 l13 h14 t89 w)
def m3_17 (R : VP) (a0 b1 d9 f11 g12 l13 h14 t66 : Value) (w : World) : Prop :=
  condP t66
  (valP Tryz.prog (binS BinOp.eql 26 (Operand.tmp 67) (Operand.const (Value.int IntKind.i64 0)) f11 (Value.int IntKind.i64 0)) w fun t68 w =>
  callP Tryz.prog (fnV 11) #[a0] w fun t70 w =>
  valP Tryz.prog (binS BinOp.eql 4 (Operand.tmp 68) (Operand.tmp 70) t68 t70) w fun t71 w =>
  condP t71
  (callP Tryz.prog (fnV 11) #[b1] w fun t74 w =>
  condP t74
  (pickP t74 (Value.bool true) undef fun t78 =>
  pickP t71 t78 (Value.bool false) fun t79 =>
  condP t79
  (callP Tryz.prog (fnV 12) #[] w fun t81 w =>
  pickP t79 t81 (Value.bool false) fun t82 =>
  m3_18 R t82 w)
  (pickP t79 undef (Value.bool false) fun t82 =>
  m3_18 R t82 w))
  (valP Tryz.prog (binS BinOp.eql 26 (Operand.tmp 76) (Operand.const (Value.int IntKind.i64 1)) g12 (Value.int IntKind.i64 1)) w fun t77 w =>
  pickP t74 (Value.bool true) t77 fun t78 =>
  pickP t71 t78 (Value.bool false) fun t79 =>
  condP t79
  (callP Tryz.prog (fnV 12) #[] w fun t81 w =>
  pickP t79 t81 (Value.bool false) fun t82 =>
  m3_18 R t82 w)
  (pickP t79 undef (Value.bool false) fun t82 =>
  m3_18 R t82 w)))
  (pickP t71 undef (Value.bool false) fun t79 =>
  condP t79
  (callP Tryz.prog (fnV 12) #[] w fun t81 w =>
  pickP t79 t81 (Value.bool false) fun t82 =>
  m3_18 R t82 w)
  (pickP t79 undef (Value.bool false) fun t82 =>
  m3_18 R t82 w)))
  (m3_11 R a0 b1 d9 f11 g12 l13 h14 w)
def m3_10 (R : VP) (a0 b1 d9 f11 g12 l13 h14 : Value) (w : World) : Prop :=
  callP Tryz.prog (fnV 11) #[a0] w fun t60 w =>
  valP Tryz.prog (Op.unary UnOp.not t60) w fun t61 w =>
  condP t61
  (pickP t61 (Value.bool true) undef fun t66 =>
  m3_17 R a0 b1 d9 f11 g12 l13 h14 t66 w)
  (callP Tryz.prog (fnV 11) #[b1] w fun t64 w =>
  valP Tryz.prog (Op.unary UnOp.not t64) w fun t65 w =>
  pickP t61 (Value.bool true) t65 fun t66 =>
  m3_17 R a0 b1 d9 f11 g12 l13 h14 t66 w)
def m3_9 (R : VP) (a0 b1 d9 f11 g12 : Value) (w : World) : Prop :=
  callP Tryz.prog (fnV 10) #[d9, (Value.string ⟨#[120]⟩)] w fun t56 w =>
  valP Tryz.prog (Instr.extract t56 0) w fun t57 w =>
  valP Tryz.prog (Instr.extract t56 1) w fun t58 w =>
  m3_10 R a0 b1 d9 f11 g12 t57 t58 w
def m3_8 (R : VP) (a0 b1 keep3 d9 f11 g12 : Value) (w : World) : Prop :=
  callP Tryz.prog (fnV 9) #[d9, keep3] w fun t53 w =>
  m3_9 R a0 b1 d9 f11 g12 w
def m3_19 (R : VP) (a0 b1 keep3 d9 f11 g12 t48 : Value) (w : World) : Prop :=
  condP t48
  (valP Tryz.prog (Instr.sliceAt 23 keep3 none (some (Value.int IntKind.i64 50)) none) w fun t50 w =>
  m3_8 R a0 b1 t50 d9 f11 g12 w)
  (m3_8 R a0 b1 keep3 d9 f11 g12 w)
def m3_7 (R : VP) (a0 b1 keep3 d9 f11 g12 : Value) (w : World) : Prop :=
  builtinP Tryz.prog Builtin.len #[23] 3 #[false] #[keep3] w fun t47 w =>
  valP Tryz.prog (binS BinOp.gtr 3 (Operand.tmp 47) (Operand.const (Value.int IntKind.i64 50)) t47 (Value.int IntKind.i64 50)) w fun t48 w =>
  m3_19 R a0 b1 keep3 d9 f11 g12 t48 w
def m3_6 (R : VP) (a0 b1 keep3 d9 f11 : Value) (w : World) : Prop :=
  callP Tryz.prog (fnV 7) #[d9, (Value.string ⟨#[120]⟩), b1] w fun t45 w =>
  m3_7 R a0 b1 keep3 d9 f11 t45 w
def m3_5 (R : VP) (a0 b1 fuse2 keep3 d9 f11 : Value) (w : World) : Prop :=
  valP Tryz.prog (binS BinOp.rem 3 (Operand.tmp 38) (Operand.const (Value.int IntKind.i64 6)) fuse2 (Value.int IntKind.i64 6)) w fun t39 w =>
  valP Tryz.prog (binS BinOp.add 3 (Operand.tmp 39) (Operand.const (Value.int IntKind.i64 6)) t39 (Value.int IntKind.i64 6)) w fun t40 w =>
  valP Tryz.prog (binS BinOp.rem 3 (Operand.tmp 40) (Operand.const (Value.int IntKind.i64 6)) t40 (Value.int IntKind.i64 6)) w fun t41 w =>
  callP Tryz.prog (fnV 8) #[d9, t41] w fun t42 w =>
  m3_6 R a0 b1 keep3 d9 f11 w
def m3_4 (R : VP) (a0 b1 fuse2 keep3 d9 : Value) (w : World) : Prop :=
  callP Tryz.prog (fnV 7) #[d9, (Value.string ⟨#[120]⟩), a0] w fun t36 w =>
  m3_5 R a0 b1 fuse2 keep3 d9 t36 w
def m3_20 (R : VP) (a0 b1 fuse2 keep3 d9 t33 : Value) (w : World) : Prop :=
  condP t33
  (m3_21 R (Value.bool false) w)
  (m3_4 R a0 b1 fuse2 keep3 d9 w)
def m3_3 (R : VP) (a0 b1 fuse2 keep3 d9 e10 : Value) (w : World) : Prop :=
  valP Tryz.prog (binS BinOp.neq 26 (Operand.tmp 28) (Operand.const (Value.int IntKind.i64 0)) e10 (Value.int IntKind.i64 0)) w fun t29 w =>
  condP t29
  (pickP t29 (Value.bool true) undef fun t33 =>
  m3_20 R a0 b1 fuse2 keep3 d9 t33 w)
  (valP Tryz.prog (binS BinOp.eql 25 (Operand.tmp 31) (Operand.const (Value.pointer none)) d9 (Value.pointer none)) w fun t32 w =>
  pickP t29 (Value.bool true) t32 fun t33 =>
  m3_20 R a0 b1 fuse2 keep3 d9 t33 w)
def m3_2 (R : VP) (a0 b1 fuse2 keep3 : Value) (w : World) : Prop :=
  callP Tryz.prog (fnV 6) #[(Value.int IntKind.i64 16384)] w fun t25 w =>
  valP Tryz.prog (Instr.extract t25 0) w fun t26 w =>
  valP Tryz.prog (Instr.extract t25 1) w fun t27 w =>
  m3_3 R a0 b1 fuse2 keep3 t26 t27 w
def m3_1 (R : VP) (a0 b1 fuse2 keep3 : Value) (w : World) : Prop :=
  callP Tryz.prog (fnV 5) #[a0] w fun t21 w =>
  callP Tryz.prog (fnV 5) #[b1] w fun t23 w =>
  m3_2 R t21 t23 fuse2 keep3 w
def m3_0 (R : VP) (a0 b1 fuse2 keep3 : Value) (w : World) : Prop :=
  m3_1 R a0 b1 fuse2 keep3 w
abbrev W3 := cwp Tryz.prog (fun i => 0)
noncomputable def k3_0 : Code := (bodyOf Tryz.f3)
noncomputable def k3_1 : Code := (c2 k3_0)
noncomputable def k3_2 : Code := (c2 k3_1)
noncomputable def k3_3 : Code := (c2 k3_2)
noncomputable def k3_4 : Code := (c2 k3_3)
noncomputable def k3_5 : Code := (c2 k3_4)
noncomputable def k3_6 : Code := (c2 k3_5)
noncomputable def k3_7 : Code := (c2 k3_6)
noncomputable def k3_8 : Code := (c2 k3_7)
noncomputable def k3_9 : Code := (c2 k3_8)
noncomputable def k3_10 : Code := (c2 k3_9)
noncomputable def k3_11 : Code := (c2 k3_10)
noncomputable def k3_12 : Code := (c2 k3_11)
noncomputable def k3_13 : Code := (c2 k3_12)
noncomputable def k3_14 : Code := (c2 k3_13)
noncomputable def k3_15 : Code := (c2 k3_14)
noncomputable def k3_16 : Code := (c2 k3_15)
noncomputable def k3_17 : Code := (c2 (c1 k3_10))
noncomputable def k3_18 : Code := (c2 (c1 k3_17))
noncomputable def k3_19 : Code := (c2 (c1 k3_7))
noncomputable def k3_20 : Code := (c2 (c1 k3_3))
noncomputable def k3_21 : Code := (c2 (c1 k3_20))
theorem s3_21 {R : VP} {Q : EQ} (hR : ∀ e w, (R (e 8) w) → Q .ret e w) (e : Env) (w : World) (h : m3_21 R (e 8) w) : W3 k3_21 Q e w := by
  unfold m3_21 at h
  exact reA (hR _ _ h)
theorem s3_18 {R : VP} {Q : EQ} (hR : ∀ e w, (R (e 8) w) → Q .ret e w) (e : Env) (w : World) (h : m3_18 R (e 8) w) : W3 k3_18 Q e w := by
  unfold m3_18 at h
  exact reA (hR _ _ h)
theorem s3_16 {R : VP} {Q : EQ} (hR : ∀ e w, (R (e 8) w) → Q .ret e w) (e : Env) (w : World) (h : m3_16 R (e 8) w) : W3 k3_16 Q e w := by
  unfold m3_16 at h
  exact reA (hR _ _ h)
theorem s3_15 {R : VP} {Q : EQ} (hR : ∀ e w, (R (e 8) w) → Q .ret e w) (e : Env) (w : World) (h : m3_15 R (e 1) (e 11) (e 12) (e 15) (e 16) (e 17) (e 18) (e 19) w) : W3 k3_15 Q e w := by
  unfold m3_15 at h
  refine seA ?_
  have hN : ∀ e w, (m3_16 R (e 8) w) → (thenE (W3 k3_16 Q) Q) .normal e w := fun e w h => then_N (s3_16 (R := R) (Q := Q) hR e w h)
  exact rgK 18 (fun e w => m3_16 R (e 8) w) h hN
theorem s3_14 {R : VP} {Q : EQ} (hR : ∀ e w, (R (e 8) w) → Q .ret e w) (e : Env) (w : World) (h : m3_14 R (e 1) (e 9) (e 11) (e 12) (e 15) (e 16) (e 17) w) : W3 k3_14 Q e w := by
  unfold m3_14 at h
  refine seA ?_
  have hN : ∀ e w, (m3_15 R (e 1) (e 11) (e 12) (e 15) (e 16) (e 17) (e 18) (e 19) w) → (thenE (W3 k3_15 Q) Q) .normal e w := fun e w h => then_N (s3_15 (R := R) (Q := Q) hR e w h)
  exact rgA 17 (fun e w => m3_15 R (e 1) (e 11) (e 12) (e 15) (e 16) (e 17) (e 18) (e 19) w) h hN
theorem s3_13 {R : VP} {Q : EQ} (hR : ∀ e w, (R (e 8) w) → Q .ret e w) (e : Env) (w : World) (h : m3_13 R (e 1) (e 9) (e 11) (e 12) (e 15) (e 16) w) : W3 k3_13 Q e w := by
  unfold m3_13 at h
  refine seA ?_
  have hN : ∀ e w, (m3_14 R (e 1) (e 9) (e 11) (e 12) (e 15) (e 16) (e 17) w) → (thenE (W3 k3_14 Q) Q) .normal e w := fun e w h => then_N (s3_14 (R := R) (Q := Q) hR e w h)
  exact rgA 16 (fun e w => m3_14 R (e 1) (e 9) (e 11) (e 12) (e 15) (e 16) (e 17) w) h hN
theorem s3_12 {R : VP} {Q : EQ} (hR : ∀ e w, (R (e 8) w) → Q .ret e w) (e : Env) (w : World) (h : m3_12 R (e 1) (e 9) (e 11) (e 12) (e 13) (e 14) (e 15) w) : W3 k3_12 Q e w := by
  unfold m3_12 at h
  refine seA ?_
  have hN : ∀ e w, (m3_13 R (e 1) (e 9) (e 11) (e 12) (e 15) (e 16) w) → (thenE (W3 k3_13 Q) Q) .normal e w := fun e w h => then_N (s3_13 (R := R) (Q := Q) hR e w h)
  exact rgA 15 (fun e w => m3_13 R (e 1) (e 9) (e 11) (e 12) (e 15) (e 16) w) h hN
theorem s3_11 {R : VP} {Q : EQ} (hR : ∀ e w, (R (e 8) w) → Q .ret e w) (e : Env) (w : World) (h : m3_11 R (e 0) (e 1) (e 9) (e 11) (e 12) (e 13) (e 14) w) : W3 k3_11 Q e w := by
  unfold m3_11 at h
  refine seA ?_
  have hN : ∀ e w, (m3_12 R (e 1) (e 9) (e 11) (e 12) (e 13) (e 14) (e 15) w) → (thenE (W3 k3_12 Q) Q) .normal e w := fun e w h => then_N (s3_12 (R := R) (Q := Q) hR e w h)
  exact rgA 14 (fun e w => m3_12 R (e 1) (e 9) (e 11) (e 12) (e 13) (e 14) (e 15) w) h hN
theorem s3_17 {R : VP} {Q : EQ} (hN : ∀ e w, (m3_11 R (e 0) (e 1) (e 9) (e 11) (e 12) (e 13) (e 14) w) → Q .normal e w) (hR : ∀ e w, (R (e 8) w) → Q .ret e w) (e : Env) (w : World) (h : m3_17 R (e 0) (e 1) (e 9) (e 11) (e 12) (e 13) (e 14) (e 66) w) : W3 k3_17 Q e w := by
  unfold m3_17 at h
  refine coA (Operand.tmp 66) h (fun h1 => ?_) (fun h1 => ?_)
  · refine seA ?_
    have hN : ∀ e w, (m3_18 R (e 8) w) → (thenE (W3 k3_18 Q) Q) .normal e w := fun e w h => then_N (s3_18 (R := R) (Q := Q) hR e w h)
    exact rgA 13 (fun e w => m3_18 R (e 8) w) h1 hN
  · exact skA (hN _ _ h1)
theorem s3_10 {R : VP} {Q : EQ} (hR : ∀ e w, (R (e 8) w) → Q .ret e w) (e : Env) (w : World) (h : m3_10 R (e 0) (e 1) (e 9) (e 11) (e 12) (e 13) (e 14) w) : W3 k3_10 Q e w := by
  unfold m3_10 at h
  refine seA ?_
  have hN : ∀ e w, (m3_11 R (e 0) (e 1) (e 9) (e 11) (e 12) (e 13) (e 14) w) → (thenE (W3 k3_11 Q) Q) .normal e w := fun e w h => then_N (s3_11 (R := R) (Q := Q) hR e w h)
  have hR : ∀ e w, (R (e 8) w) → (thenE (W3 k3_11 Q) Q) .ret e w := fun e w h => then_R (hR e w h)
  refine seA ?_
  have hN : ∀ e w, (m3_17 R (e 0) (e 1) (e 9) (e 11) (e 12) (e 13) (e 14) (e 66) w) → (thenE (W3 k3_17 (thenE (W3 k3_11 Q) Q)) (thenE (W3 k3_11 Q) Q)) .normal e w := fun e w h => then_N (s3_17 (R := R) (Q := (thenE (W3 k3_11 Q) Q)) hN hR e w h)
  exact rgA 12 (fun e w => m3_17 R (e 0) (e 1) (e 9) (e 11) (e 12) (e 13) (e 14) (e 66) w) h hN
theorem s3_9 {R : VP} {Q : EQ} (hR : ∀ e w, (R (e 8) w) → Q .ret e w) (e : Env) (w : World) (h : m3_9 R (e 0) (e 1) (e 9) (e 11) (e 12) w) : W3 k3_9 Q e w := by
  unfold m3_9 at h
  refine seA ?_
  have hN : ∀ e w, (m3_10 R (e 0) (e 1) (e 9) (e 11) (e 12) (e 13) (e 14) w) → (thenE (W3 k3_10 Q) Q) .normal e w := fun e w h => then_N (s3_10 (R := R) (Q := Q) hR e w h)
  exact rgA 11 (fun e w => m3_10 R (e 0) (e 1) (e 9) (e 11) (e 12) (e 13) (e 14) w) h hN
theorem s3_8 {R : VP} {Q : EQ} (hR : ∀ e w, (R (e 8) w) → Q .ret e w) (e : Env) (w : World) (h : m3_8 R (e 0) (e 1) (e 3) (e 9) (e 11) (e 12) w) : W3 k3_8 Q e w := by
  unfold m3_8 at h
  refine seA ?_
  have hN : ∀ e w, (m3_9 R (e 0) (e 1) (e 9) (e 11) (e 12) w) → (thenE (W3 k3_9 Q) Q) .normal e w := fun e w h => then_N (s3_9 (R := R) (Q := Q) hR e w h)
  exact rgA 10 (fun e w => m3_9 R (e 0) (e 1) (e 9) (e 11) (e 12) w) h hN
theorem s3_19 {R : VP} {Q : EQ} (hN : ∀ e w, (m3_8 R (e 0) (e 1) (e 3) (e 9) (e 11) (e 12) w) → Q .normal e w) (e : Env) (w : World) (h : m3_19 R (e 0) (e 1) (e 3) (e 9) (e 11) (e 12) (e 48) w) : W3 k3_19 Q e w := by
  unfold m3_19 at h
  refine coA (Operand.tmp 48) h (fun h1 => ?_) (fun h1 => ?_)
  · exact rgA 9 (fun e w => m3_8 R (e 0) (e 1) (e 3) (e 9) (e 11) (e 12) w) h1 hN
  · exact skA (hN _ _ h1)
theorem s3_7 {R : VP} {Q : EQ} (hR : ∀ e w, (R (e 8) w) → Q .ret e w) (e : Env) (w : World) (h : m3_7 R (e 0) (e 1) (e 3) (e 9) (e 11) (e 12) w) : W3 k3_7 Q e w := by
  unfold m3_7 at h
  refine seA ?_
  have hN : ∀ e w, (m3_8 R (e 0) (e 1) (e 3) (e 9) (e 11) (e 12) w) → (thenE (W3 k3_8 Q) Q) .normal e w := fun e w h => then_N (s3_8 (R := R) (Q := Q) hR e w h)
  refine seA ?_
  have hN : ∀ e w, (m3_19 R (e 0) (e 1) (e 3) (e 9) (e 11) (e 12) (e 48) w) → (thenE (W3 k3_19 (thenE (W3 k3_8 Q) Q)) (thenE (W3 k3_8 Q) Q)) .normal e w := fun e w h => then_N (s3_19 (R := R) (Q := (thenE (W3 k3_8 Q) Q)) hN e w h)
  exact rgA 8 (fun e w => m3_19 R (e 0) (e 1) (e 3) (e 9) (e 11) (e 12) (e 48) w) h hN
theorem s3_6 {R : VP} {Q : EQ} (hR : ∀ e w, (R (e 8) w) → Q .ret e w) (e : Env) (w : World) (h : m3_6 R (e 0) (e 1) (e 3) (e 9) (e 11) w) : W3 k3_6 Q e w := by
  unfold m3_6 at h
  refine seA ?_
  have hN : ∀ e w, (m3_7 R (e 0) (e 1) (e 3) (e 9) (e 11) (e 12) w) → (thenE (W3 k3_7 Q) Q) .normal e w := fun e w h => then_N (s3_7 (R := R) (Q := Q) hR e w h)
  exact rgA 7 (fun e w => m3_7 R (e 0) (e 1) (e 3) (e 9) (e 11) (e 12) w) h hN
theorem s3_5 {R : VP} {Q : EQ} (hR : ∀ e w, (R (e 8) w) → Q .ret e w) (e : Env) (w : World) (h : m3_5 R (e 0) (e 1) (e 2) (e 3) (e 9) (e 11) w) : W3 k3_5 Q e w := by
  unfold m3_5 at h
  refine seA ?_
  have hN : ∀ e w, (m3_6 R (e 0) (e 1) (e 3) (e 9) (e 11) w) → (thenE (W3 k3_6 Q) Q) .normal e w := fun e w h => then_N (s3_6 (R := R) (Q := Q) hR e w h)
  exact rgA 6 (fun e w => m3_6 R (e 0) (e 1) (e 3) (e 9) (e 11) w) h hN
theorem s3_4 {R : VP} {Q : EQ} (hR : ∀ e w, (R (e 8) w) → Q .ret e w) (e : Env) (w : World) (h : m3_4 R (e 0) (e 1) (e 2) (e 3) (e 9) w) : W3 k3_4 Q e w := by
  unfold m3_4 at h
  refine seA ?_
  have hN : ∀ e w, (m3_5 R (e 0) (e 1) (e 2) (e 3) (e 9) (e 11) w) → (thenE (W3 k3_5 Q) Q) .normal e w := fun e w h => then_N (s3_5 (R := R) (Q := Q) hR e w h)
  exact rgA 5 (fun e w => m3_5 R (e 0) (e 1) (e 2) (e 3) (e 9) (e 11) w) h hN
theorem s3_20 {R : VP} {Q : EQ} (hN : ∀ e w, (m3_4 R (e 0) (e 1) (e 2) (e 3) (e 9) w) → Q .normal e w) (hR : ∀ e w, (R (e 8) w) → Q .ret e w) (e : Env) (w : World) (h : m3_20 R (e 0) (e 1) (e 2) (e 3) (e 9) (e 33) w) : W3 k3_20 Q e w := by
  unfold m3_20 at h
  refine coA (Operand.tmp 33) h (fun h1 => ?_) (fun h1 => ?_)
  · refine seA ?_
    have hN : ∀ e w, (m3_21 R (e 8) w) → (thenE (W3 k3_21 Q) Q) .normal e w := fun e w h => then_N (s3_21 (R := R) (Q := Q) hR e w h)
    exact rgA 4 (fun e w => m3_21 R (e 8) w) h1 hN
  · exact skA (hN _ _ h1)
theorem s3_3 {R : VP} {Q : EQ} (hR : ∀ e w, (R (e 8) w) → Q .ret e w) (e : Env) (w : World) (h : m3_3 R (e 0) (e 1) (e 2) (e 3) (e 9) (e 10) w) : W3 k3_3 Q e w := by
  unfold m3_3 at h
  refine seA ?_
  have hN : ∀ e w, (m3_4 R (e 0) (e 1) (e 2) (e 3) (e 9) w) → (thenE (W3 k3_4 Q) Q) .normal e w := fun e w h => then_N (s3_4 (R := R) (Q := Q) hR e w h)
  have hR : ∀ e w, (R (e 8) w) → (thenE (W3 k3_4 Q) Q) .ret e w := fun e w h => then_R (hR e w h)
  refine seA ?_
  have hN : ∀ e w, (m3_20 R (e 0) (e 1) (e 2) (e 3) (e 9) (e 33) w) → (thenE (W3 k3_20 (thenE (W3 k3_4 Q) Q)) (thenE (W3 k3_4 Q) Q)) .normal e w := fun e w h => then_N (s3_20 (R := R) (Q := (thenE (W3 k3_4 Q) Q)) hN hR e w h)
  exact rgA 3 (fun e w => m3_20 R (e 0) (e 1) (e 2) (e 3) (e 9) (e 33) w) h hN
theorem s3_2 {R : VP} {Q : EQ} (hR : ∀ e w, (R (e 8) w) → Q .ret e w) (e : Env) (w : World) (h : m3_2 R (e 0) (e 1) (e 2) (e 3) w) : W3 k3_2 Q e w := by
  unfold m3_2 at h
  refine seA ?_
  have hN : ∀ e w, (m3_3 R (e 0) (e 1) (e 2) (e 3) (e 9) (e 10) w) → (thenE (W3 k3_3 Q) Q) .normal e w := fun e w h => then_N (s3_3 (R := R) (Q := Q) hR e w h)
  exact rgA 2 (fun e w => m3_3 R (e 0) (e 1) (e 2) (e 3) (e 9) (e 10) w) h hN
theorem s3_1 {R : VP} {Q : EQ} (hR : ∀ e w, (R (e 8) w) → Q .ret e w) (e : Env) (w : World) (h : m3_1 R (e 0) (e 1) (e 2) (e 3) w) : W3 k3_1 Q e w := by
  unfold m3_1 at h
  refine seA ?_
  have hN : ∀ e w, (m3_2 R (e 0) (e 1) (e 2) (e 3) w) → (thenE (W3 k3_2 Q) Q) .normal e w := fun e w h => then_N (s3_2 (R := R) (Q := Q) hR e w h)
  exact rgA 1 (fun e w => m3_2 R (e 0) (e 1) (e 2) (e 3) w) h hN
theorem s3_0 {R : VP} {Q : EQ} (hR : ∀ e w, (R (e 8) w) → Q .ret e w) (e : Env) (w : World) (h : m3_0 R (e 0) (e 1) (e 2) (e 3) w) : W3 k3_0 Q e w := by
  unfold m3_0 at h
  refine seA ?_
  have hN : ∀ e w, (m3_1 R (e 0) (e 1) (e 2) (e 3) w) → (thenE (W3 k3_1 Q) Q) .normal e w := fun e w h => then_N (s3_1 (R := R) (Q := Q) hR e w h)
  exact rgA 0 (fun e w => m3_1 R (e 0) (e 1) (e 2) (e 3) w) h hN
abbrev m3 (R : VP) (a0 b1 fuse2 keep3 : Value) (w : World) : Prop := m3_0 R a0 b1 fuse2 keep3 w
theorem s3 (a0 b1 fuse2 keep3 : Value) {R : VP} {w : World} (h : m3 R a0 b1 fuse2 keep3 w) :
    Calls Tryz.prog 3 #[a0, b1, fuse2, keep3] w fun e w' => ∃ v, e = .returned v ∧ R v w' :=
  calls_of_cwp (st := (fun i => 0)) (c := k3_0) (by kernel_rfl) Tryz.func3 (by kernel_rfl) (Nat.le_of_ble_eq_true (by kernel_rfl)) (by kernel_rfl)
    (s3_0 (R := R) (Q := endE Tryz.prog Tryz.f3 R) (fun e w h => kcast (by kernel_rfl) h) (argsE #[a0, b1, fuse2, keep3]) w (kcast (by kernel_rfl) h))
end Go.Proofs.YtcldjjmfpmkldaaGreatDoor.M
namespace Go.Proofs.YtcldjjmfpmkldaaGreatDoor.M
open Go.Proofs.YtcldjjmfpmkldaaGreatDoor.F Go.RowKit
set_option linter.unusedVariables false
set_option linter.unusedSimpArgs false
set_option maxRecDepth 100000
set_option maxHeartbeats 2000000
attribute [local irreducible] Res.cells Res.row Res.map Res.any World.cell? World.frozen? Instr.fieldAt Instr.loadAt Instr.storeAt Instr.indexAt Instr.lookup Instr.mapUpdate Instr.box Instr.build Instr.buildSlice Instr.extract Instr.alloc Instr.field Instr.index Instr.sliceAt Instr.makeSlice Instr.makeMap Instr.makeFunc binS Op.unary Sem.run
theorem cut_s {l : List Gt} (h : ∀ g ∈ l, GtOk g) : ∀ g ∈ (l.take 150).map cutG, GtS g := fun g hg => by
  refine ⟨cut_ok h g hg, ?_⟩
  obtain ⟨x, hx, rfl⟩ := List.mem_map.1 hg
  show (cutT x.r.text).size ≤ 1000
  unfold cutT
  split
  · rw [ext_size _ _ _ (by omega)]; omega
  · omega
theorem iFlatE (l : List Int) : l.flatMap (fun x => [Value.int .i64 x]) = l.map (Value.int .i64) := by
  induction l with
  | nil => rfl
  | cons x l ih => rw [List.flatMap_cons, ih]; rfl
section
variable {w0 w : World} {F : List Nat} {L : List Res} {la lb ls ms : List Gt} {A1 A2 A3 A5 : Option Addr} {c1 c2 c3 c5 b : Nat} {f g : Int} {D : Dk} {p q : Bool}
/-- when changes may not be in a file. -/
theorem lasts_17 (hla : la.length ≤ 150) (hlb : lb.length ≤ 150) (hBa : BG w0 F L A1 la) (hBb : BG w0 F L A2 lb) (hf : f = if MayL la then 0 else 1) (hg : ¬ MayL lb → g = 1) {v1 v2 v3 : Value} (hS : St w0 F w L) (t : Bool) (ht : t = true)
    : m3_17 (fun v w' => v = .bool true ∧ ∃ L', St w0 F w' L') (.slice A1 la.length c1) (.slice A2 lb.length c2) v1 (.int .i64 f) (.int .i64 g) v2 v3 (.bool t) w := by
  subst ht
  unfold m3_17
  refine cond_t rfl ?_
  refine valP_ok (eq26 _ _ _ _ _) ?_
  refine callR (by kernel_rfl) (rmay_ret (by omega) hBa hS) ?_
  rintro _ w ⟨rfl, hS⟩
  refine valP_ok (eq4 _ _ _ _ _) ?_
  have e : decide (f = 0) = decide (MayL la) := by
    rw [hf]
    by_cases h : MayL la
    · rw [if_pos h, decide_eq_true h]; rfl
    · rw [if_neg h, decide_eq_false h]; rfl
  refine cond_dt e ?_
  refine callR (by kernel_rfl) (rmay_ret (by omega) hBb hS) ?_
  rintro _ w ⟨rfl, hS⟩
  refine cond_split (fun h => ?_) (fun h => ?_)
  · first | refine pick_dt (by first | assumption | omega) ?_ | refine pick_df (by first | assumption | omega) ?_ | refine pick_t (by first | rfl | assumption) ?_ | refine pick_f (by first | rfl | assumption) ?_ | refine pick_dt rfl ?_ | refine pick_df (not_not_intro rfl) ?_
    first | refine pick_dt (by first | assumption | omega) ?_ | refine pick_df (by first | assumption | omega) ?_ | refine pick_t (by first | rfl | assumption) ?_ | refine pick_f (by first | rfl | assumption) ?_ | refine pick_dt rfl ?_ | refine pick_df (not_not_intro rfl) ?_
    refine cond_t rfl ?_
    refine callR (by kernel_rfl) (awake_ret hS) ?_
    rintro _ w ⟨rfl, hS⟩
    first | refine pick_dt (by first | assumption | omega) ?_ | refine pick_df (by first | assumption | omega) ?_ | refine pick_t (by first | rfl | assumption) ?_ | refine pick_f (by first | rfl | assumption) ?_ | refine pick_dt rfl ?_ | refine pick_df (not_not_intro rfl) ?_
    unfold m3_18
    exact ⟨rfl, _, hS⟩
  · have hg := hg h
    refine valP_ok (eq26 _ _ _ _ _) ?_
    first | refine pick_dt (by first | assumption | omega) ?_ | refine pick_df (by first | assumption | omega) ?_ | refine pick_t (by first | rfl | assumption) ?_ | refine pick_f (by first | rfl | assumption) ?_ | refine pick_dt rfl ?_ | refine pick_df (not_not_intro rfl) ?_
    first | refine pick_dt (by first | assumption | omega) ?_ | refine pick_df (by first | assumption | omega) ?_ | refine pick_t (by first | rfl | assumption) ?_ | refine pick_f (by first | rfl | assumption) ?_ | refine pick_dt rfl ?_ | refine pick_df (not_not_intro rfl) ?_
    refine cond_dt hg ?_
    refine callR (by kernel_rfl) (awake_ret hS) ?_
    rintro _ w ⟨rfl, hS⟩
    first | refine pick_dt (by first | assumption | omega) ?_ | refine pick_df (by first | assumption | omega) ?_ | refine pick_t (by first | rfl | assumption) ?_ | refine pick_f (by first | rfl | assumption) ?_ | refine pick_dt rfl ?_ | refine pick_df (not_not_intro rfl) ?_
    unfold m3_18
    exact ⟨rfl, _, hS⟩
/-- the end, when all is told. -/
theorem lasts_15 (hlb : lb.length ≤ 150) (hBb : BG w0 F L A2 lb) (hBm : BG w0 F L A5 lb) (told : g = 0 ∧ q = true ∨ g = 4 ∧ (p = true ∨ q = true)) (hS : St w0 F w L)
    : m3_15 (fun v w' => v = .bool true ∧ ∃ L', St w0 F w' L') (.slice A2 lb.length c2) (.int .i64 0) (.int .i64 g) (.bool p) (.bool q) (.int .i64 0) (.slice A5 lb.length c5) (.int .i64 0) w := by
  have same := fun w hS => samegot_ret (w := w) (c := c5) (c2 := c2) (by omega) (by omega) hBm hBb hS
  unfold m3_15
  refine valP_ok (eq26 _ _ _ _ _) ?_
  refine cond_dt rfl ?_
  refine valP_ok (eq26 _ _ _ _ _) ?_
  rcases told with ⟨rfl, rfl⟩ | ⟨rfl, hpq⟩
  · refine cond_dt rfl ?_
    first | refine pick_dt (by first | assumption | omega) ?_ | refine pick_df (by first | assumption | omega) ?_ | refine pick_t (by first | rfl | assumption) ?_ | refine pick_f (by first | rfl | assumption) ?_ | refine pick_dt rfl ?_ | refine pick_df (not_not_intro rfl) ?_
    refine cond_t rfl ?_
    first | refine pick_dt (by first | assumption | omega) ?_ | refine pick_df (by first | assumption | omega) ?_ | refine pick_t (by first | rfl | assumption) ?_ | refine pick_f (by first | rfl | assumption) ?_ | refine pick_dt rfl ?_ | refine pick_df (not_not_intro rfl) ?_
    first | refine pick_dt (by first | assumption | omega) ?_ | refine pick_df (by first | assumption | omega) ?_ | refine pick_t (by first | rfl | assumption) ?_ | refine pick_f (by first | rfl | assumption) ?_ | refine pick_dt rfl ?_ | refine pick_df (not_not_intro rfl) ?_
    refine valP_ok (eq26 _ _ _ _ _) ?_
    first | refine pick_dt (by first | assumption | omega) ?_ | refine pick_df (by first | assumption | omega) ?_ | refine pick_t (by first | rfl | assumption) ?_ | refine pick_f (by first | rfl | assumption) ?_ | refine pick_dt rfl ?_ | refine pick_df (not_not_intro rfl) ?_
    refine cond_dt rfl ?_
    refine valP_ok (eq26 _ _ _ _ _) ?_
    first | refine pick_dt (by first | assumption | omega) ?_ | refine pick_df (by first | assumption | omega) ?_ | refine pick_t (by first | rfl | assumption) ?_ | refine pick_f (by first | rfl | assumption) ?_ | refine pick_dt rfl ?_ | refine pick_df (not_not_intro rfl) ?_
    refine cond_dt rfl ?_
    refine callR (by kernel_rfl) (same _ hS) ?_
    rintro _ w ⟨⟨t, rfl, ht⟩, hS⟩
    obtain rfl := ht.2 rfl
    first | refine pick_dt (by first | assumption | omega) ?_ | refine pick_df (by first | assumption | omega) ?_ | refine pick_t (by first | rfl | assumption) ?_ | refine pick_f (by first | rfl | assumption) ?_ | refine pick_dt rfl ?_ | refine pick_df (not_not_intro rfl) ?_
    refine cond_t rfl ?_
    refine callR (by kernel_rfl) (awake_ret hS) ?_
    rintro _ w ⟨rfl, hS⟩
    first | refine pick_dt (by first | assumption | omega) ?_ | refine pick_df (by first | assumption | omega) ?_ | refine pick_t (by first | rfl | assumption) ?_ | refine pick_f (by first | rfl | assumption) ?_ | refine pick_dt rfl ?_ | refine pick_df (not_not_intro rfl) ?_
    unfold m3_16
    exact ⟨rfl, _, hS⟩
  · refine cond_df (by decide) ?_
    first | refine pick_dt (by first | assumption | omega) ?_ | refine pick_df (by first | assumption | omega) ?_ | refine pick_t (by first | rfl | assumption) ?_ | refine pick_f (by first | rfl | assumption) ?_ | refine pick_dt rfl ?_ | refine pick_df (not_not_intro rfl) ?_
    refine valP_ok (eq26 _ _ _ _ _) ?_
    refine cond_dt rfl ?_
    cases p with
    | true =>
      refine cond_t rfl ?_
      first | refine pick_dt (by first | assumption | omega) ?_ | refine pick_df (by first | assumption | omega) ?_ | refine pick_t (by first | rfl | assumption) ?_ | refine pick_f (by first | rfl | assumption) ?_ | refine pick_dt rfl ?_ | refine pick_df (not_not_intro rfl) ?_
      first | refine pick_dt (by first | assumption | omega) ?_ | refine pick_df (by first | assumption | omega) ?_ | refine pick_t (by first | rfl | assumption) ?_ | refine pick_f (by first | rfl | assumption) ?_ | refine pick_dt rfl ?_ | refine pick_df (not_not_intro rfl) ?_
      first | refine pick_dt (by first | assumption | omega) ?_ | refine pick_df (by first | assumption | omega) ?_ | refine pick_t (by first | rfl | assumption) ?_ | refine pick_f (by first | rfl | assumption) ?_ | refine pick_dt rfl ?_ | refine pick_df (not_not_intro rfl) ?_
      first | refine pick_dt (by first | assumption | omega) ?_ | refine pick_df (by first | assumption | omega) ?_ | refine pick_t (by first | rfl | assumption) ?_ | refine pick_f (by first | rfl | assumption) ?_ | refine pick_dt rfl ?_ | refine pick_df (not_not_intro rfl) ?_
      refine valP_ok (eq26 _ _ _ _ _) ?_
      first | refine pick_dt (by first | assumption | omega) ?_ | refine pick_df (by first | assumption | omega) ?_ | refine pick_t (by first | rfl | assumption) ?_ | refine pick_f (by first | rfl | assumption) ?_ | refine pick_dt rfl ?_ | refine pick_df (not_not_intro rfl) ?_
      refine cond_dt rfl ?_
      refine valP_ok (eq26 _ _ _ _ _) ?_
      first | refine pick_dt (by first | assumption | omega) ?_ | refine pick_df (by first | assumption | omega) ?_ | refine pick_t (by first | rfl | assumption) ?_ | refine pick_f (by first | rfl | assumption) ?_ | refine pick_dt rfl ?_ | refine pick_df (not_not_intro rfl) ?_
      refine cond_dt rfl ?_
      refine callR (by kernel_rfl) (same _ hS) ?_
      rintro _ w ⟨⟨t, rfl, ht⟩, hS⟩
      obtain rfl := ht.2 rfl
      first | refine pick_dt (by first | assumption | omega) ?_ | refine pick_df (by first | assumption | omega) ?_ | refine pick_t (by first | rfl | assumption) ?_ | refine pick_f (by first | rfl | assumption) ?_ | refine pick_dt rfl ?_ | refine pick_df (not_not_intro rfl) ?_
      refine cond_t rfl ?_
      refine callR (by kernel_rfl) (awake_ret hS) ?_
      rintro _ w ⟨rfl, hS⟩
      first | refine pick_dt (by first | assumption | omega) ?_ | refine pick_df (by first | assumption | omega) ?_ | refine pick_t (by first | rfl | assumption) ?_ | refine pick_f (by first | rfl | assumption) ?_ | refine pick_dt rfl ?_ | refine pick_df (not_not_intro rfl) ?_
      unfold m3_16
      exact ⟨rfl, _, hS⟩
    | false =>
      obtain rfl : q = true := hpq.resolve_left (by decide)
      refine cond_f rfl ?_
      first | refine pick_dt (by first | assumption | omega) ?_ | refine pick_df (by first | assumption | omega) ?_ | refine pick_t (by first | rfl | assumption) ?_ | refine pick_f (by first | rfl | assumption) ?_ | refine pick_dt rfl ?_ | refine pick_df (not_not_intro rfl) ?_
      first | refine pick_dt (by first | assumption | omega) ?_ | refine pick_df (by first | assumption | omega) ?_ | refine pick_t (by first | rfl | assumption) ?_ | refine pick_f (by first | rfl | assumption) ?_ | refine pick_dt rfl ?_ | refine pick_df (not_not_intro rfl) ?_
      first | refine pick_dt (by first | assumption | omega) ?_ | refine pick_df (by first | assumption | omega) ?_ | refine pick_t (by first | rfl | assumption) ?_ | refine pick_f (by first | rfl | assumption) ?_ | refine pick_dt rfl ?_ | refine pick_df (not_not_intro rfl) ?_
      first | refine pick_dt (by first | assumption | omega) ?_ | refine pick_df (by first | assumption | omega) ?_ | refine pick_t (by first | rfl | assumption) ?_ | refine pick_f (by first | rfl | assumption) ?_ | refine pick_dt rfl ?_ | refine pick_df (not_not_intro rfl) ?_
      refine cond_t rfl ?_
      refine valP_ok (eq26 _ _ _ _ _) ?_
      first | refine pick_dt (by first | assumption | omega) ?_ | refine pick_df (by first | assumption | omega) ?_ | refine pick_t (by first | rfl | assumption) ?_ | refine pick_f (by first | rfl | assumption) ?_ | refine pick_dt rfl ?_ | refine pick_df (not_not_intro rfl) ?_
      refine cond_dt rfl ?_
      refine valP_ok (eq26 _ _ _ _ _) ?_
      first | refine pick_dt (by first | assumption | omega) ?_ | refine pick_df (by first | assumption | omega) ?_ | refine pick_t (by first | rfl | assumption) ?_ | refine pick_f (by first | rfl | assumption) ?_ | refine pick_dt rfl ?_ | refine pick_df (not_not_intro rfl) ?_
      refine cond_dt rfl ?_
      refine callR (by kernel_rfl) (same _ hS) ?_
      rintro _ w ⟨⟨t, rfl, ht⟩, hS⟩
      obtain rfl := ht.2 rfl
      first | refine pick_dt (by first | assumption | omega) ?_ | refine pick_df (by first | assumption | omega) ?_ | refine pick_t (by first | rfl | assumption) ?_ | refine pick_f (by first | rfl | assumption) ?_ | refine pick_dt rfl ?_ | refine pick_df (not_not_intro rfl) ?_
      refine cond_t rfl ?_
      refine callR (by kernel_rfl) (awake_ret hS) ?_
      rintro _ w ⟨rfl, hS⟩
      first | refine pick_dt (by first | assumption | omega) ?_ | refine pick_df (by first | assumption | omega) ?_ | refine pick_t (by first | rfl | assumption) ?_ | refine pick_f (by first | rfl | assumption) ?_ | refine pick_dt rfl ?_ | refine pick_df (not_not_intro rfl) ?_
      unfold m3_16
      exact ⟨rfl, _, hS⟩
end
end Go.Proofs.YtcldjjmfpmkldaaGreatDoor.M
namespace Go.Proofs.YtcldjjmfpmkldaaGreatDoor.M
open Go.Proofs.YtcldjjmfpmkldaaGreatDoor.F Go.RowKit
set_option linter.unusedVariables false
set_option linter.unusedSimpArgs false
set_option maxRecDepth 100000
set_option maxHeartbeats 2000000
attribute [local irreducible] Res.cells Res.row Res.map Res.any World.cell? World.frozen? Instr.fieldAt Instr.loadAt Instr.storeAt Instr.indexAt Instr.lookup Instr.mapUpdate Instr.box Instr.build Instr.buildSlice Instr.extract Instr.alloc Instr.field Instr.index Instr.sliceAt Instr.makeSlice Instr.makeMap Instr.makeFunc binS Op.unary Sem.run
section
variable {w0 w : World} {la lb l : List Gt} {A1 A2 A3 : Option Addr} {c1 c2 c3 b : Nat} {D : Dk}
abbrev LsL (A1 A2 : Option Addr) (c1 c2 : Nat) (la lb : List Gt) : List Res := [grow A2 c2 lb, grow A1 c1 la]
def LsR (w0 : World) (v : Value) (w' : World) : Prop := v = .bool true ∧ ∃ L', St w0 [] w' L'
/-- behind the crash. -/
theorem lasts_9 {keep : List Int} (hla : la.length ≤ 150) (hlb : lb.length ≤ 150) (hgb : ∀ g ∈ lb, GtS g) (hO : Ok 16384 D) (hf : MayL la → D.L = [fx (sealS (encL la))] ∧ D.off = false)
    (hD : Dsk w0 [] (LsL A1 A2 c1 c2 la lb) b (crashD (saveD D xS lb).1 keep) w) :
    m3_9 (LsR w0) (.slice A1 la.length c1) (.slice A2 lb.length c2) (ptr b) (.int .i64 (if MayL la then 0 else 1)) (.int .i64 (saveD D xS lb).2) w := by
  have hBa : BG w0 [] (LsL A1 A2 c1 c2 la lb) A1 la := Bes.of_row 1 rfl
  have hBb : BG w0 [] (LsL A1 A2 c1 c2 la lb) A2 lb := Bes.of_row 0 rfl
  have hO2 : Ok 16384 (crashD (saveD D xS lb).1 keep) := Ok.crash (Ok.save hO)
  unfold m3_9
  refine callR (by kernel_rfl) (load_ret hO2 hD) ?_
  rintro _ w ⟨A4, c4, rfl, hD⟩
  refine valP_ok (extract_ok _ 0 rfl _) ?_
  refine valP_ok (extract_ok _ 1 rfl _) ?_
  have early : ∀ w, Dsk w0 [] (grow A4 c4 (loadL (crashD (saveD D xS lb).1 keep) xS).1 :: LsL A1 A2 c1 c2 la lb) b (crashD (saveD D xS lb).1 keep) w → ∀ t : Bool, t = true → m3_17 (LsR w0) (.slice A1 la.length c1) (.slice A2 lb.length c2) (ptr b) (.int .i64 (if MayL la then 0 else 1)) (.int .i64 (saveD D xS lb).2) (.slice A4 (loadL (crashD (saveD D xS lb).1 keep) xS).1.length c4) (.int .i64 (loadL (crashD (saveD D xS lb).1 keep) xS).2) (.bool t) w := fun w hD t ht => by
    obtain ⟨L', hL', hS⟩ := hD.st
    exact lasts_17 hla hlb (hBa.mono fun r hr => hL' _ (.tail _ hr)) (hBb.mono fun r hr => hL' _ (.tail _ hr)) rfl (fun h => save_bad h) hS t ht
  unfold m3_10
  refine callR (by kernel_rfl) (hD.with fun L' hL' hS => rmay_ret (by omega) (hBa.mono fun r hr => hL' _ (.tail _ hr)) hS) ?_
  rintro _ w ⟨rfl, hD⟩
  first | refine valP_ok (not_ok _ _) ?_ | refine valP_ok (notb_ok _ _) ?_
  refine cond_split (fun ha => ?_) (fun ha => ?_)
  · first | refine pick_dt (by first | assumption | omega) ?_ | refine pick_df (by first | assumption | omega) ?_ | refine pick_t (by first | rfl | assumption) ?_ | refine pick_f (by first | rfl | assumption) ?_ | refine pick_dt rfl ?_ | refine pick_df (not_not_intro rfl) ?_
    exact early _ hD true rfl
  · have ha := Classical.not_not.1 ha
    refine callR (by kernel_rfl) (hD.with fun L' hL' hS => rmay_ret (by omega) (hBb.mono fun r hr => hL' _ (.tail _ hr)) hS) ?_
    rintro _ w ⟨rfl, hD⟩
    first | refine valP_ok (not_ok _ _) ?_ | refine valP_ok (notb_ok _ _) ?_
    first | refine pick_dt (by first | assumption | omega) ?_ | refine pick_df (by first | assumption | omega) ?_ | refine pick_t (by first | rfl | assumption) ?_ | refine pick_f (by first | rfl | assumption) ?_ | refine pick_dt rfl ?_ | refine pick_df (not_not_intro rfl) ?_
    by_cases hb : MayL lb
    · rw [decide_eq_false (not_not_intro hb)]
      obtain ⟨hL, hoff⟩ := hf ha
      have hall := lasts (keep := keep) hO hL hoff ha hb hla hlb
      unfold m3_17
      refine cond_f rfl ?_
      obtain ⟨h1, h2, h3⟩ := hall
      have hh : loadL (crashD (saveD D xS lb).1 keep) xS = (la, 0) ∨ loadL (crashD (saveD D xS lb).1 keep) xS = (lb, 0) := by
        rcases h1 with ⟨_, h1⟩ | ⟨_, h1⟩
        · exact .inr h1
        · exact h1
      have told : ∀ p q : Bool, (p = true ↔ (loadL (crashD (saveD D xS lb).1 keep) xS).1 = la) → (q = true ↔ (loadL (crashD (saveD D xS lb).1 keep) xS).1 = lb) → ((saveD D xS lb).2 = 0 ∧ q = true ∨ (saveD D xS lb).2 = 4 ∧ (p = true ∨ q = true)) := fun p q hp hq => by
        rcases h1 with ⟨e, h1⟩ | ⟨e, h1⟩
        · exact .inl ⟨e, hq.2 (by rw [h1])⟩
        · exact .inr ⟨e, h1.imp (fun h => hp.2 (by rw [h])) (fun h => hq.2 (by rw [h]))⟩
      have h20 : (loadL (crashD (saveD D xS lb).1 keep) xS).2 = 0 := by rcases hh with h | h <;> rw [h]
      have hll : (loadL (crashD (saveD D xS lb).1 keep) xS).1.length ≤ 150 := by rcases hh with h | h <;> rw [h] <;> assumption
      rw [h20]
      rw [if_pos ha]
      clear h1 hh
      generalize (loadL (crashD (saveD D xS lb).1 keep) xS).1 = l at *
      have hBl : BG w0 [] (grow A4 c4 l :: LsL A1 A2 c1 c2 la lb) A4 l := Bes.of_row 0 rfl
      unfold m3_11
      refine valP_ok (eq26 _ _ _ _ _) ?_
      refine cond_dt rfl ?_
      refine callR (by kernel_rfl) (hD.with fun L' hL' hS => samegot_ret (by omega) (by omega) (hBl.mono hL') (hBa.mono fun r hr => hL' _ (.tail _ hr)) hS) ?_
      rintro _ w ⟨⟨p, rfl, hp⟩, hD⟩
      first | refine pick_dt (by first | assumption | omega) ?_ | refine pick_df (by first | assumption | omega) ?_ | refine pick_t (by first | rfl | assumption) ?_ | refine pick_f (by first | rfl | assumption) ?_ | refine pick_dt rfl ?_ | refine pick_df (not_not_intro rfl) ?_
      unfold m3_12
      refine valP_ok (eq26 _ _ _ _ _) ?_
      refine cond_dt rfl ?_
      refine callR (by kernel_rfl) (hD.with fun L' hL' hS => samegot_ret (by omega) (by omega) (hBl.mono hL') (hBb.mono fun r hr => hL' _ (.tail _ hr)) hS) ?_
      rintro _ w ⟨⟨q, rfl, hq⟩, hD⟩
      first | refine pick_dt (by first | assumption | omega) ?_ | refine pick_df (by first | assumption | omega) ?_ | refine pick_t (by first | rfl | assumption) ?_ | refine pick_f (by first | rfl | assumption) ?_ | refine pick_dt rfl ?_ | refine pick_df (not_not_intro rfl) ?_
      have told := told p q hp hq
      generalize (saveD D xS lb).2 = e2 at told
      have hD := hD.pop
      unfold m3_13
      refine callR (by kernel_rfl) (save_ret (by omega) hgb hBb hO2 hD) ?_
      rintro _ w ⟨rfl, hD⟩
      have hO3 : Ok 16384 (saveD (crashD (saveD D xS lb).1 keep) xS lb).1 := Ok.save hO2
      change m3_14 _ _ _ _ _ _ _ (.int .i64 (saveD (crashD (saveD D xS lb).1 keep) xS lb).2) w
      rw [h2]
      unfold m3_14
      have hD : Dsk w0 [] (LsL A1 A2 c1 c2 la lb) b (saveD (crashD (saveD D xS lb).1 keep) xS lb).1 w := hD
      refine callR (by kernel_rfl) (load_ret hO3 hD) ?_
      rintro _ w ⟨A5, c5, rfl, hD⟩
      rw [h3] at hD ⊢
      refine valP_ok (extract_ok _ 0 rfl _) ?_
      refine valP_ok (extract_ok _ 1 rfl _) ?_
      obtain ⟨L', hL', hS⟩ := hD.st
      exact lasts_15 hlb (hBb.mono fun r hr => hL' _ (.tail _ hr)) ((Bes.of_row (e := 58) (c := c5) 0 rfl : BG w0 [] (grow A5 c5 lb :: LsL A1 A2 c1 c2 la lb) A5 lb).mono hL') told hS
    · rw [decide_eq_true hb]
      exact early _ hD true rfl
theorem clasts_ret {a b : List Gt} {A0 A1 A3 : Option Addr} {c0 c1 c3 : Nat} {fuse : Int} {keep : List Int} (hr0 : Rd w0 4 A0 a.length (a.flatMap encG)) (hc0 : a.length ≤ c0) (ok0 : ∀ g ∈ a, GtOk g) (hr1 : Rd w0 4 A1 b.length (b.flatMap encG)) (hc1 : b.length ≤ c1) (ok1 : ∀ g ∈ b, GtOk g) (hfu : -9223372036854775808 ≤ fuse ∧ fuse ≤ 9223372036854775807)
    (hr3 : Rd w0 1 A3 keep.length (keep.map (Value.int .i64))) (hc3 : keep.length ≤ c3) : Ret Tryz.prog 3 #[.slice A0 a.length c0, .slice A1 b.length c1, .int .i64 fuse, .slice A3 keep.length c3] w0 fun v w' => v = .bool true ∧ Below w0.heap.size w0 w' := by
  have hS := St.start w0
  refine Ret.mono (R := LsR w0) ?_ fun v w' ⟨h, L', hS⟩ => ⟨h, hS.below⟩
  refine s3 _ _ _ _ ?_
  have hla := cut_len a
  have hlb := cut_len b
  have hga := cut_s ok0
  have hgb := cut_s ok1
  unfold m3 m3_0 m3_1
  refine callR (by kernel_rfl) (some_ret hc0 (Bes.of_old0 (Rd.takeS encG_len 150 hr0)) hS) ?_
  rintro _ w ⟨A4, c4, rfl, hS⟩
  refine callR (by kernel_rfl) (some_ret hc1 (Bes.of_old0 (Rd.takeS encG_len 150 hr1)) hS) ?_
  rintro _ w ⟨A5, c5, rfl, hS⟩
  generalize (a.take 150).map cutG = la at *
  generalize (b.take 150).map cutG = lb at *
  unfold m3_2
  refine callR (by kernel_rfl) (new_ret (n := 16384) hS) ?_
  intro v w hR
  rw [if_pos (by omega)] at hR
  obtain ⟨bd, rfl, hD⟩ := hR
  have hO : Ok 16384 ⟨[], 16384, -1, false⟩ := Ok.new (n := 16384) (by omega)
  refine valP_ok (extract_ok _ 0 rfl _) ?_
  refine valP_ok (extract_ok _ 1 rfl _) ?_
  unfold m3_3
  refine valP_ok (ne26 _ _ _ _ _) ?_
  refine cond_df (not_not_intro rfl) ?_
  refine valP_ok (eq25s _ _ _ _) ?_
  first | refine pick_dt (by first | assumption | omega) ?_ | refine pick_df (by first | assumption | omega) ?_ | refine pick_t (by first | rfl | assumption) ?_ | refine pick_f (by first | rfl | assumption) ?_ | refine pick_dt rfl ?_ | refine pick_df (not_not_intro rfl) ?_
  unfold m3_20
  refine cond_f rfl ?_
  have hBa : BG w0 [] (LsL A4 A5 c4 c5 la lb) A4 la := Bes.of_row 1 rfl
  have hBb : BG w0 [] (LsL A4 A5 c4 c5 la lb) A5 lb := Bes.of_row 0 rfl
  unfold m3_4
  refine callR (by kernel_rfl) (save_ret (by omega) hga hBa hO hD) ?_
  rintro _ w ⟨rfl, hD⟩
  have hO1 : Ok 16384 (saveD ⟨[], 16384, -1, false⟩ xS la).1 := Ok.save hO
  have h1 := first (l := la) hla
  change m3_5 _ _ _ _ _ _ (.int .i64 (saveD ⟨[], 16384, -1, false⟩ xS la).2) w
  have hD : Dsk w0 [] (LsL A4 A5 c4 c5 la lb) bd (saveD ⟨[], 16384, -1, false⟩ xS la).1 w := hD
  rw [h1.1]
  have h1 := h1.2
  generalize (saveD ⟨[], 16384, -1, false⟩ xS la).1 = D1 at *
  have t1 := tmod_bounds fuse (b := 6) (by omega)
  unfold m3_5
  refine valP_ok (rem_any _ _ _ (by omega) (by omega) (by omega) (by omega) _) ?_
  refine valP_ok (add_ok _ _ _ (by omega) (by omega) _) ?_
  refine valP_ok (rem_ok _ _ _ (by omega) (by omega) (by omega) _) ?_
  obtain ⟨mb, X, hX, hS⟩ := hD
  refine callR (by kernel_rfl) (fuse_ret hS) ?_
  intro _ w hS
  have hO2 : Ok 16384 ⟨D1.L, D1.room, max ((fuse.tmod 6 + 6) % 6) (-1), D1.off⟩ := Ok.setFuse (by omega) hO1
  have hD : Dsk w0 [] (LsL A4 A5 c4 c5 la lb) bd ⟨D1.L, D1.room, max ((fuse.tmod 6 + 6) % 6) (-1), D1.off⟩ w := ⟨mb, X, hX, hS⟩
  have hf2 : MayL la → (⟨D1.L, D1.room, max ((fuse.tmod 6 + 6) % 6) (-1), D1.off⟩ : Dk).L = [fx (sealS (encL la))] ∧ (⟨D1.L, D1.room, max ((fuse.tmod 6 + 6) % 6) (-1), D1.off⟩ : Dk).off = false := h1
  generalize (⟨D1.L, D1.room, max ((fuse.tmod 6 + 6) % 6) (-1), D1.off⟩ : Dk) = D2 at *
  clear hS hX h1 hO1
  unfold m3_6
  refine callR (by kernel_rfl) (save_ret (by omega) hgb hBb hO2 hD) ?_
  rintro _ w ⟨rfl, hD⟩
  have hO3 : Ok 16384 (saveD D2 xS lb).1 := Ok.save hO2
  have rest : ∀ (kp : List Int) (w : World), kp.length ≤ 50 → Rd w0 1 A3 kp.length (kp.map (Value.int .i64)) → Dsk w0 [] (LsL A4 A5 c4 c5 la lb) bd (saveD D2 xS lb).1 w → m3_8 (LsR w0) (.slice A4 la.length c4) (.slice A5 lb.length c5) (.slice A3 kp.length c3) (ptr bd) (.int .i64 (if MayL la then 0 else 1)) (.int .i64 (saveD D2 xS lb).2) w := fun kp w hkl hkr hD => by
    unfold m3_8
    refine callR (by kernel_rfl) (crash_ret (by omega) hO3 (Bes.of_old0 hkr) hD) ?_
    intro _ w hD
    exact lasts_9 hla hlb hgb hO2 hf2 hD
  unfold m3_7
  refine builtin_ok (len23 _) ?_
  refine valP_ok (gtr_ok _ _ _ _ _ _ _) ?_
  unfold m3_19
  refine cond_split (fun h => ?_) (fun h => ?_)
  · refine valP_ok (sh23 (k := 50) (by omega) _) ?_
    have hkr : Rd w0 1 A3 (keep.take 50).length ((keep.take 50).map (Value.int .i64)) := by
      have h1 := hr3
      rw [← iFlatE] at h1
      have h2 := Rd.takeS (enc := fun x : Int => [Value.int .i64 x]) (fun _ => rfl) 50 h1
      rw [iFlatE] at h2
      exact h2
    have hkl : (keep.take 50).length = 50 := by rw [List.length_take]; omega
    have h1 := rest (keep.take 50) w (by omega) hkr hD
    rw [hkl] at h1
    exact h1
  · exact rest keep w (by omega) hr3 hD
end
end Go.Proofs.YtcldjjmfpmkldaaGreatDoor.M
