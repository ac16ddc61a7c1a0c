/- Rename. -/
import Derived.Test.YtcldjjmfpmkldaaDoorD7
import Derived.Test.YtcldjjmfpmkldaaDoorFwW
import Derived.Test.YtcldjjmfpmkldaaDoorFwB
import Derived.Test.YtcldjjmfpmkldaaDoorFwM
import Derived.Test.YtcldjjmfpmkldaaDoorMtrim0
import Derived.Test.YtcldjjmfpmkldaaDoorMdisk0
import Derived.Test.YtcldjjmfpmkldaaDoorMmore0
namespace Go.Proofs.YtcldjjmfpmkldaaDoor.M
open Go.Proofs.YtcldjjmfpmkldaaDoor.F Go.RowKit
set_option linter.unusedVariables false
set_option linter.unusedSimpArgs false
set_option maxRecDepth 100000
set_option maxHeartbeats 2000000
attribute [local irreducible] Res.cells Res.row Res.map Res.any World.cell? World.frozen? Instr.fieldAt Instr.loadAt Instr.storeAt Instr.indexAt Instr.lookup Instr.mapUpdate Instr.box Instr.build Instr.buildSlice Instr.extract Instr.alloc Instr.field Instr.index Instr.sliceAt Instr.makeSlice Instr.makeMap Instr.makeFunc binS Op.unary Sem.run
/-- another name. -/
def renR (to : ByteArray) (f : Fl) (D : Dk) : Dk × Int := (⟨insF ⟨to, f.sure, f.loose⟩ (delF (delF D.L f.name) to), (match getF D.L to with | some old => if f.name = to then D.room else D.room + blk old.sz | none => D.room), D.fuse, D.off⟩, 0)
def renD (D : Dk) (from_ to : ByteArray) : Dk × Int := if readyC [from_, to] D.off = 0 then workD D from_ (renR to) else (D, readyC [from_, to] D.off)
theorem ready_two {s t : ByteArray} {o : Bool} (h : readyC [s, t] o = 0) : Named s ∧ Named t ∧ o = false := by
  unfold readyC at h
  split at h
  · rename_i h1
    refine ⟨h1 s (.head _), h1 t (.tail _ (.head _)), ?_⟩
    cases o with
    | true => simp at h
    | false => rfl
  · omega
section
variable {w0 w : World} {F : List Nat} {L : List Res} {b : Nat} {D : Dk} {size : Nat} {s to : ByteArray}
theorem rename_work {b3 b4 b5 : Nat} (hO : Ok size D) (hto : to.size ≤ 24) (hD : Dsk w0 F ([Res.cells b5 9 [.string to], Res.cells b4 9 [.string s], Res.cells b3 23 [ptr b]] ++ L) b D w) : Ret Tryd.prog 37 #[ptr b, .string s, .func (.func 38) #[] #[ptr b3, ptr b5, ptr b4]] w fun v w' => v = .int .i64 (workD D s (renR to)).2 ∧ Dsk w0 F ([Res.cells b5 9 [.string to], Res.cells b4 9 [.string s], Res.cells b3 23 [ptr b]] ++ L) b (workD D s (renR to)).1 w' := by
  refine work_ret (fn := 38) (first := #[]) (cap := #[ptr b3, ptr b5, ptr b4]) (Rf := renR to) (by kernel_rfl) hO ?_ hD
  clear hD
  intro w mb X i hi hX hn hS
  have hU : UpL (X.map Prod.fst) := by rw [hX, burnt_L]; exact hO.up
  have hfm : X[i].1 ∈ D.L := by rw [← burnt_L D, ← hX]; exact List.mem_map.2 ⟨_, List.getElem_mem hi, rfl⟩
  have hsz := hO.sz hfm
  have hr := room_le hO
  have hnl : s.size ≤ 24 := hn ▸ hO.names _ hfm
  have hlen : X.length ≤ 256 := by
    have := hO.len
    rw [← burnt_L D, ← hX, List.length_map] at this
    exact this
  have hS := St.pulls (R := [Res.cells b5 9 [.string to], Res.cells b4 9 [.string s], Res.cells b3 23 [ptr b]]) hS
  have fin : ∀ (r : Int) w, St w0 F w (dCell b (.map (some mb)) r (burnt D).fuse (burnt D).off :: fileR X[i] :: mapD mb X :: Res.cells b5 9 [.string to] :: Res.cells b4 9 [.string s] :: Res.cells b3 23 [ptr b] :: ((X.eraseIdx i).map fileR ++ L)) → (renR to X[i].1 (burnt D)).1.room = r → m38_2 (fun v w' => v = .int .i64 (renR to X[i].1 (burnt D)).2 ∧ Dsk w0 F ([Res.cells b5 9 [.string to], Res.cells b4 9 [.string s], Res.cells b3 23 [ptr b]] ++ L) b (renR to X[i].1 (burnt D)).1 w') (ptr X[i].2) (ptr b3) (ptr b5) (ptr b4) w := fun r w hS hroom => by
    unfold m38_2
    refine drawn_ok hS ?_
    intro w hS
    first | refine valS_ok (ld23 (hS.cell 0 rfl rfl)) ?_ | refine valS_ok (ld23 (hS.cell 1 rfl rfl)) ?_ | refine valS_ok (ld23 (hS.cell 2 rfl rfl)) ?_ | refine valS_ok (ld23 (hS.cell 3 rfl rfl)) ?_ | refine valS_ok (ld23 (hS.cell 4 rfl rfl)) ?_ | refine valS_ok (ld23 (hS.cell 5 rfl rfl)) ?_ | refine valS_ok (ld23 (hS.cell 6 rfl rfl)) ?_ | refine valS_ok (ld23 (hS.cell 7 rfl rfl)) ?_ | refine valS_ok (ld23 (by assumption)) ?_
    refine nil_ok ?_
    first | refine valS_ok (fa61_0 _ _) ?_ | refine valS_ok (fao61_0 _ _ _) ?_
    first | refine valS_ok (ld59 (hS.cell 0 rfl rfl)) ?_ | refine valS_ok (ld59 (hS.cell 1 rfl rfl)) ?_ | refine valS_ok (ld59 (hS.cell 2 rfl rfl)) ?_ | refine valS_ok (ld59 (hS.cell 3 rfl rfl)) ?_ | refine valS_ok (ld59 (hS.cell 4 rfl rfl)) ?_ | refine valS_ok (ld59 (hS.cell 5 rfl rfl)) ?_ | refine valS_ok (ld59 (hS.cell 6 rfl rfl)) ?_ | refine valS_ok (ld59 (hS.cell 7 rfl rfl)) ?_ | refine valS_ok (ld59 (by assumption)) ?_
    first | refine valS_ok (ld9 (hS.cell 0 rfl rfl)) ?_ | refine valS_ok (ld9 (hS.cell 1 rfl rfl)) ?_ | refine valS_ok (ld9 (hS.cell 2 rfl rfl)) ?_ | refine valS_ok (ld9 (hS.cell 3 rfl rfl)) ?_ | refine valS_ok (ld9 (hS.cell 4 rfl rfl)) ?_ | refine valS_ok (ld9 (hS.cell 5 rfl rfl)) ?_ | refine valS_ok (ld9 (hS.cell 6 rfl rfl)) ?_ | refine valS_ok (ld9 (hS.cell 7 rfl rfl)) ?_ | refine valS_ok (ld9 (by assumption)) ?_
    refine delT_at 2 ((X.eraseIdx i).map nb) hS rfl Tryd.underlying9 Tryd.underlying59 (by unfold maxLen; omega) (by rw [erase_del hU hi hn, delX_nb]) ?_
    intro w hS
    simp only [List.set_cons_zero, List.set_cons_succ] at hS
    have hY : (X.eraseIdx i).length ≤ 256 := by rw [List.length_eraseIdx]; split <;> omega
    have hYl : ((X.eraseIdx i).map nb).length ≤ 256 := by rw [List.length_map]; exact hY
    have hp := insX_perm (⟨to, X[i].1.sure, X[i].1.loose⟩, X[i].2) ((X.eraseIdx i).filter (fun p => decide (p.1.name ≠ to)))
    unfold m38_3
    refine drawn_ok hS ?_
    intro w hS
    first | refine valS_ok (ld23 (hS.cell 0 rfl rfl)) ?_ | refine valS_ok (ld23 (hS.cell 1 rfl rfl)) ?_ | refine valS_ok (ld23 (hS.cell 2 rfl rfl)) ?_ | refine valS_ok (ld23 (hS.cell 3 rfl rfl)) ?_ | refine valS_ok (ld23 (hS.cell 4 rfl rfl)) ?_ | refine valS_ok (ld23 (hS.cell 5 rfl rfl)) ?_ | refine valS_ok (ld23 (hS.cell 6 rfl rfl)) ?_ | refine valS_ok (ld23 (hS.cell 7 rfl rfl)) ?_ | refine valS_ok (ld23 (by assumption)) ?_
    refine nil_ok ?_
    first | refine valS_ok (fa61_0 _ _) ?_ | refine valS_ok (fao61_0 _ _ _) ?_
    first | refine valS_ok (ld59 (hS.cell 0 rfl rfl)) ?_ | refine valS_ok (ld59 (hS.cell 1 rfl rfl)) ?_ | refine valS_ok (ld59 (hS.cell 2 rfl rfl)) ?_ | refine valS_ok (ld59 (hS.cell 3 rfl rfl)) ?_ | refine valS_ok (ld59 (hS.cell 4 rfl rfl)) ?_ | refine valS_ok (ld59 (hS.cell 5 rfl rfl)) ?_ | refine valS_ok (ld59 (hS.cell 6 rfl rfl)) ?_ | refine valS_ok (ld59 (hS.cell 7 rfl rfl)) ?_ | refine valS_ok (ld59 (by assumption)) ?_
    first | refine valS_ok (ld9 (hS.cell 0 rfl rfl)) ?_ | refine valS_ok (ld9 (hS.cell 1 rfl rfl)) ?_ | refine valS_ok (ld9 (hS.cell 2 rfl rfl)) ?_ | refine valS_ok (ld9 (hS.cell 3 rfl rfl)) ?_ | refine valS_ok (ld9 (hS.cell 4 rfl rfl)) ?_ | refine valS_ok (ld9 (hS.cell 5 rfl rfl)) ?_ | refine valS_ok (ld9 (hS.cell 6 rfl rfl)) ?_ | refine valS_ok (ld9 (hS.cell 7 rfl rfl)) ?_ | refine valS_ok (ld9 (by assumption)) ?_
    refine putT_at 2 ((insX (⟨to, X[i].1.sure, X[i].1.loose⟩, X[i].2) ((X.eraseIdx i).filter (fun p => decide (p.1.name ≠ to)))).map nb) hS rfl Tryd.underlying9 Tryd.underlying59 (by unfold maxLen; omega) (by unfold maxLen; omega) (by rw [← delX_nb]; exact hp.map nb) ?_
    intro w hS
    simp only [List.set_cons_zero, List.set_cons_succ] at hS
    unfold m38_4 m38_5
    refine ⟨rfl, mb, insX (⟨to, X[i].1.sure, X[i].1.loose⟩, X[i].2) ((X.eraseIdx i).filter (fun p => decide (p.1.name ≠ to))), ?_, ?_⟩
    · rw [insX_map, delX_map, erase_del hU hi hn, delX_map, hX, ← hn]
      rfl
    · rw [hroom]
      have q1 := hS.perm (List.Perm.cons _ ((List.Perm.swap _ _ _).trans (List.Perm.cons _ (List.Perm.cons _ (List.perm_append_comm_assoc [Res.cells b5 9 [.string to], Res.cells b4 9 [.string s], Res.cells b3 23 [ptr b]] ((X.eraseIdx i).map fileR) L)))))
      have q2 := q1.sub (List.Sublist.cons_cons _ (List.Sublist.cons_cons _ (List.Sublist.cons_cons _ (List.Sublist.append (List.Sublist.map fileR (List.filter_sublist (l := X.eraseIdx i) (p := fun p => decide (p.1.name ≠ to)))) (List.Sublist.refl _)))))
      exact q2.perm (List.Perm.cons _ (List.Perm.cons _ ((hp.map fileR).append_right _).symm))
  refine s38 _ _ _ _ ?_
  unfold Foc at *
  unfold m38 m38_0
  unfold m38_1
  first | refine valQ_load ld23 (hS.cell 0 rfl rfl) ?_ | refine valQ_load ld23 (hS.cell 1 rfl rfl) ?_ | refine valQ_load ld23 (hS.cell 2 rfl rfl) ?_ | refine valQ_load ld23 (hS.cell 3 rfl rfl) ?_ | refine valQ_load ld23 (hS.cell 4 rfl rfl) ?_ | refine valQ_load ld23 (hS.cell 5 rfl rfl) ?_ | refine valQ_load ld23 (hS.cell 6 rfl rfl) ?_ | refine valQ_load ld23 (hS.cell 7 rfl rfl) ?_ | refine valQ_load ld23 (by assumption) ?_
  refine nil_ok ?_
  first | refine valQ_ok (fa61_0 _) ?_ | refine valQ_ok (fao61_0 _ _) ?_
  first | refine valQ_load ld59 (hS.cell 0 rfl rfl) ?_ | refine valQ_load ld59 (hS.cell 1 rfl rfl) ?_ | refine valQ_load ld59 (hS.cell 2 rfl rfl) ?_ | refine valQ_load ld59 (hS.cell 3 rfl rfl) ?_ | refine valQ_load ld59 (hS.cell 4 rfl rfl) ?_ | refine valQ_load ld59 (hS.cell 5 rfl rfl) ?_ | refine valQ_load ld59 (hS.cell 6 rfl rfl) ?_ | refine valQ_load ld59 (hS.cell 7 rfl rfl) ?_ | refine valQ_load ld59 (by assumption) ?_
  first | refine valQ_load ld9 (hS.cell 0 rfl rfl) ?_ | refine valQ_load ld9 (hS.cell 1 rfl rfl) ?_ | refine valQ_load ld9 (hS.cell 2 rfl rfl) ?_ | refine valQ_load ld9 (hS.cell 3 rfl rfl) ?_ | refine valQ_load ld9 (hS.cell 4 rfl rfl) ?_ | refine valQ_load ld9 (hS.cell 5 rfl rfl) ?_ | refine valQ_load ld9 (hS.cell 6 rfl rfl) ?_ | refine valQ_load ld9 (hS.cell 7 rfl rfl) ?_ | refine valQ_load ld9 (by assumption) ?_
  refine valQ_at (fun n => ((hS.drewN n).mapT 2 rfl).lookup Tryd.underlying9 Tryd.underlying59 (zero63 _) (by unfold maxLen; omega)) ?_
  refine drawn_ok hS ?_
  clear hS
  intro w hS
  rcases look_X hU to with ⟨h1, h2, h3⟩ | ⟨j, hj, h1, h2, h3⟩
  · rw [h1]
    rw [hX] at h2
    unfold m38_6
    first | refine valP_ok (ne63n _ _ _) ?_ | refine valP_ok (ne63s _ _ _ _) ?_
    refine cond_f rfl ?_
    first | refine pick_dt (by first | assumption | omega) ?_ | refine pick_df (by first | assumption | omega) ?_ | refine pick_t (by first | rfl | assumption) ?_ | refine pick_f (by first | rfl | assumption) ?_ | refine pick_dt rfl ?_ | refine pick_df (not_not_intro rfl) ?_
    unfold m38_7
    refine cond_f rfl ?_
    exact fin _ w hS (by unfold renR; rw [h2])
  · rw [h1]
    rw [hX] at h2
    unfold m38_6
    first | refine valP_ok (ne63n _ _ _) ?_ | refine valP_ok (ne63s _ _ _ _) ?_
    refine cond_t rfl ?_
    first | refine valP_ok (ld9 (hS.cell 0 rfl rfl)) ?_ | refine valP_ok (ld9 (hS.cell 1 rfl rfl)) ?_ | refine valP_ok (ld9 (hS.cell 2 rfl rfl)) ?_ | refine valP_ok (ld9 (hS.cell 3 rfl rfl)) ?_ | refine valP_ok (ld9 (hS.cell 4 rfl rfl)) ?_ | refine valP_ok (ld9 (hS.cell 5 rfl rfl)) ?_ | refine valP_ok (ld9 (hS.cell 6 rfl rfl)) ?_ | refine valP_ok (ld9 (hS.cell 7 rfl rfl)) ?_ | refine valP_ok (ld9 (by assumption)) ?_
    first | refine valP_ok (ld9 (hS.cell 0 rfl rfl)) ?_ | refine valP_ok (ld9 (hS.cell 1 rfl rfl)) ?_ | refine valP_ok (ld9 (hS.cell 2 rfl rfl)) ?_ | refine valP_ok (ld9 (hS.cell 3 rfl rfl)) ?_ | refine valP_ok (ld9 (hS.cell 4 rfl rfl)) ?_ | refine valP_ok (ld9 (hS.cell 5 rfl rfl)) ?_ | refine valP_ok (ld9 (hS.cell 6 rfl rfl)) ?_ | refine valP_ok (ld9 (hS.cell 7 rfl rfl)) ?_ | refine valP_ok (ld9 (by assumption)) ?_
    refine valP_ok (ne9 _ _ _ _ _) ?_
    first | refine pick_dt (by first | assumption | omega) ?_ | refine pick_df (by first | assumption | omega) ?_ | refine pick_t (by first | rfl | assumption) ?_ | refine pick_f (by first | rfl | assumption) ?_ | refine pick_dt rfl ?_ | refine pick_df (not_not_intro rfl) ?_
    unfold m38_7
    refine cond_split (fun h4 => ?_) (fun h4 => ?_)
    · have hji : j ≠ i := fun e => by subst e; exact h4 (hn.symm.trans h3)
      have hjm : X[j].1 ∈ D.L := by rw [← burnt_L D, ← hX]; exact List.mem_map.2 ⟨_, List.getElem_mem hj, rfl⟩
      have hjs := hO.sz hjm
      have hjs' : X[j].1.sure.size + X[j].1.loose.size = X[j].1.sz := rfl
      have hbl := blk_le hjs
      have hmem : fileR X[j] ∈ (X.eraseIdx i).map fileR := by
        refine List.mem_map.2 ⟨X[j], ?_, rfl⟩
        rw [erase_del hU hi hn]
        exact List.mem_filter.2 ⟨List.getElem_mem hj, decide_eq_true (fun e => h4 (e.symm.trans h3))⟩
      obtain ⟨k, hk⟩ := List.mem_iff_getElem?.1 hmem
      have hkk : ∀ r, (dCell b (.map (some mb)) r (burnt D).fuse (burnt D).off :: fileR X[i] :: mapD mb X :: Res.cells b5 9 [.string to] :: Res.cells b4 9 [.string s] :: Res.cells b3 23 [ptr b] :: ((X.eraseIdx i).map fileR ++ L))[k + 6]? = some (fileR X[j]) := fun r => by
        rw [List.getElem?_cons_succ, List.getElem?_cons_succ, List.getElem?_cons_succ, List.getElem?_cons_succ, List.getElem?_cons_succ, List.getElem?_cons_succ]
        rw [List.getElem?_append_left (List.getElem?_eq_some_iff.1 hk).1]
        exact hk
      have hrm : (renR to X[i].1 (burnt D)).1.room = (burnt D).room + blk X[j].1.sz := by
        unfold renR
        rw [h2]
        simp only
        rw [if_neg (fun e => h4 (hn.symm.trans e))]
      refine drawn_ok hS ?_
      intro w hS
      refine held_Hs (hS.pick 6 [3, 4, 5] (by simp) (by decide)) ?_
      first | refine valJ_load ld23 (Hs.cell 0 rfl rfl) ?_ | refine valJ_load ld23 (Hs.cell 1 rfl rfl) ?_ | refine valJ_load ld23 (Hs.cell 2 rfl rfl) ?_ | refine valJ_load ld23 (Hs.cell 3 rfl rfl) ?_ | refine valJ_load ld23 (Hs.cell 4 rfl rfl) ?_ | refine valJ_load ld23 (Hs.cell 5 rfl rfl) ?_ | refine valJ_load ld23 (Hs.cell 6 rfl rfl) ?_ | refine valJ_load ld23 (Hs.cell 7 rfl rfl) ?_ | refine valJ_load ld23 (by assumption) ?_
      refine nil_ok ?_
      first | refine valJ_ok (fa61_1 _) ?_ | refine valJ_ok (fao61_1 _ _) ?_
      refine ⟨?_, ?_⟩
      · first | refine valP_ok (ld3 (hS.cell 0 rfl rfl)) ?_ | refine valP_ok (ld3 (hS.cell 1 rfl rfl)) ?_ | refine valP_ok (ld3 (hS.cell 2 rfl rfl)) ?_ | refine valP_ok (ld3 (hS.cell 3 rfl rfl)) ?_ | refine valP_ok (ld3 (hS.cell 4 rfl rfl)) ?_ | refine valP_ok (ld3 (hS.cell 5 rfl rfl)) ?_ | refine valP_ok (ld3 (hS.cell 6 rfl rfl)) ?_ | refine valP_ok (ld3 (hS.cell 7 rfl rfl)) ?_ | refine valP_ok (ld3 (by assumption)) ?_
        refine stay_Hs (hS.pick 6 [3, 4, 5] (by simp) (by decide)) (fun _ h => h) ?_
        refine callR (by kernel_rfl) (size_ret (k + 6) (by omega) (hkk _) hS) ?_
        rintro _ w ⟨rfl, hS⟩
        refine stay_Hs (hS.pick 6 [3, 4, 5] (by simp) (by decide)) (fun _ h => h) ?_
        refine callR (by kernel_rfl) (blocks_ret (n := X[j].1.sz) (by omega) hS) ?_
        rintro _ w ⟨rfl, hS⟩
        refine stay_Hs (hS.pick 6 [3, 4, 5] (by simp) (by decide)) (fun _ h => h) ?_
        refine valJ_ok (add_ok _ _ _ (by omega) (by omega)) ?_
        refine nil_ok ?_
        first | refine valJ_ok (fa61_1 _) ?_ | refine valJ_ok (fao61_1 _ _) ?_
        first | refine store_at 0 st3 hS rfl (by simp) rfl ?_ | refine store_at 1 st3 hS rfl (by simp) rfl ?_ | refine store_at 2 st3 hS rfl (by simp) rfl ?_ | refine store_at 3 st3 hS rfl (by simp) rfl ?_ | refine store_at 4 st3 hS rfl (by simp) rfl ?_ | refine store_at 5 st3 hS rfl (by simp) rfl ?_ | refine store_at 6 st3 hS rfl (by simp) rfl ?_ | refine store_at 7 st3 hS rfl (by simp) rfl ?_
        intro w hS
        simp only [List.set_cons_zero, List.set_cons_succ] at hS
        refine stay_Hs (hS.pick 6 [3, 4, 5] (by simp) (by decide)) (fun _ h => h) ?_
        exact fin _ _ hS hrm
      · refine callR (by kernel_rfl) (size_ret (k + 6) (by omega) (hkk _) hS) ?_
        rintro _ w ⟨rfl, hS⟩
        refine stay_Hs (hS.pick 6 [3, 4, 5] (by simp) (by decide)) (fun _ h => h) ?_
        refine ⟨?_, ?_⟩
        · first | refine valP_ok (ld3 (hS.cell 0 rfl rfl)) ?_ | refine valP_ok (ld3 (hS.cell 1 rfl rfl)) ?_ | refine valP_ok (ld3 (hS.cell 2 rfl rfl)) ?_ | refine valP_ok (ld3 (hS.cell 3 rfl rfl)) ?_ | refine valP_ok (ld3 (hS.cell 4 rfl rfl)) ?_ | refine valP_ok (ld3 (hS.cell 5 rfl rfl)) ?_ | refine valP_ok (ld3 (hS.cell 6 rfl rfl)) ?_ | refine valP_ok (ld3 (hS.cell 7 rfl rfl)) ?_ | refine valP_ok (ld3 (by assumption)) ?_
          refine stay_Hs (hS.pick 6 [3, 4, 5] (by simp) (by decide)) (fun _ h => h) ?_
          refine callR (by kernel_rfl) (blocks_ret (n := X[j].1.sz) (by omega) hS) ?_
          rintro _ w ⟨rfl, hS⟩
          refine stay_Hs (hS.pick 6 [3, 4, 5] (by simp) (by decide)) (fun _ h => h) ?_
          refine valJ_ok (add_ok _ _ _ (by omega) (by omega)) ?_
          refine nil_ok ?_
          first | refine valJ_ok (fa61_1 _) ?_ | refine valJ_ok (fao61_1 _ _) ?_
          first | refine store_at 0 st3 hS rfl (by simp) rfl ?_ | refine store_at 1 st3 hS rfl (by simp) rfl ?_ | refine store_at 2 st3 hS rfl (by simp) rfl ?_ | refine store_at 3 st3 hS rfl (by simp) rfl ?_ | refine store_at 4 st3 hS rfl (by simp) rfl ?_ | refine store_at 5 st3 hS rfl (by simp) rfl ?_ | refine store_at 6 st3 hS rfl (by simp) rfl ?_ | refine store_at 7 st3 hS rfl (by simp) rfl ?_
          intro w hS
          simp only [List.set_cons_zero, List.set_cons_succ] at hS
          refine stay_Hs (hS.pick 6 [3, 4, 5] (by simp) (by decide)) (fun _ h => h) ?_
          exact fin _ _ hS hrm
        · refine callR (by kernel_rfl) (blocks_ret (n := X[j].1.sz) (by omega) hS) ?_
          rintro _ w ⟨rfl, hS⟩
          refine stay_Hs (hS.pick 6 [3, 4, 5] (by simp) (by decide)) (fun _ h => h) ?_
          first | refine valP_ok (ld3 (hS.cell 0 rfl rfl)) ?_ | refine valP_ok (ld3 (hS.cell 1 rfl rfl)) ?_ | refine valP_ok (ld3 (hS.cell 2 rfl rfl)) ?_ | refine valP_ok (ld3 (hS.cell 3 rfl rfl)) ?_ | refine valP_ok (ld3 (hS.cell 4 rfl rfl)) ?_ | refine valP_ok (ld3 (hS.cell 5 rfl rfl)) ?_ | refine valP_ok (ld3 (hS.cell 6 rfl rfl)) ?_ | refine valP_ok (ld3 (hS.cell 7 rfl rfl)) ?_ | refine valP_ok (ld3 (by assumption)) ?_
          refine stay_Hs (hS.pick 6 [3, 4, 5] (by simp) (by decide)) (fun _ h => h) ?_
          refine valJ_ok (add_ok _ _ _ (by omega) (by omega)) ?_
          refine nil_ok ?_
          first | refine valJ_ok (fa61_1 _) ?_ | refine valJ_ok (fao61_1 _ _) ?_
          first | refine store_at 0 st3 hS rfl (by simp) rfl ?_ | refine store_at 1 st3 hS rfl (by simp) rfl ?_ | refine store_at 2 st3 hS rfl (by simp) rfl ?_ | refine store_at 3 st3 hS rfl (by simp) rfl ?_ | refine store_at 4 st3 hS rfl (by simp) rfl ?_ | refine store_at 5 st3 hS rfl (by simp) rfl ?_ | refine store_at 6 st3 hS rfl (by simp) rfl ?_ | refine store_at 7 st3 hS rfl (by simp) rfl ?_
          intro w hS
          simp only [List.set_cons_zero, List.set_cons_succ] at hS
          refine stay_Hs (hS.pick 6 [3, 4, 5] (by simp) (by decide)) (fun _ h => h) ?_
          exact fin _ _ hS hrm
    · refine fin _ w hS ?_
      unfold renR
      rw [h2]
      simp only
      rw [if_pos (hn.trans (Classical.not_not.1 h4))]
theorem rename_ret (hO : Ok size D) (hD : Dsk w0 F L b D w) : Ret Tryd.prog 22 #[ptr b, .string s, .string to] w fun v w' => v = .int .i64 (renD D s to).2 ∧ Dsk w0 F L b (renD D s to).1 w' := by
  obtain ⟨mb, X, hX, hS⟩ := hD
  refine s22 _ _ _ ?_
  unfold m22
  unfold m22_0
  refine new_ok (bx23 rfl _) hS ?_
  intro b3 w hS
  refine new_ok (bx9 rfl _) hS ?_
  intro b4 w hS
  refine new_ok (bx9 rfl _) hS ?_
  intro b5 w hS
  unfold m22_1
  first | refine valP_ok (ld23 (hS.cell 0 rfl rfl)) ?_ | refine valP_ok (ld23 (hS.cell 1 rfl rfl)) ?_ | refine valP_ok (ld23 (hS.cell 2 rfl rfl)) ?_ | refine valP_ok (ld23 (hS.cell 3 rfl rfl)) ?_ | refine valP_ok (ld23 (hS.cell 4 rfl rfl)) ?_ | refine valP_ok (ld23 (hS.cell 5 rfl rfl)) ?_ | refine valP_ok (ld23 (hS.cell 6 rfl rfl)) ?_ | refine valP_ok (ld23 (hS.cell 7 rfl rfl)) ?_ | refine valP_ok (ld23 (by assumption)) ?_
  first | refine valP_ok (ld9 (hS.cell 0 rfl rfl)) ?_ | refine valP_ok (ld9 (hS.cell 1 rfl rfl)) ?_ | refine valP_ok (ld9 (hS.cell 2 rfl rfl)) ?_ | refine valP_ok (ld9 (hS.cell 3 rfl rfl)) ?_ | refine valP_ok (ld9 (hS.cell 4 rfl rfl)) ?_ | refine valP_ok (ld9 (hS.cell 5 rfl rfl)) ?_ | refine valP_ok (ld9 (hS.cell 6 rfl rfl)) ?_ | refine valP_ok (ld9 (hS.cell 7 rfl rfl)) ?_ | refine valP_ok (ld9 (by assumption)) ?_
  first | refine valP_ok (ld9 (hS.cell 0 rfl rfl)) ?_ | refine valP_ok (ld9 (hS.cell 1 rfl rfl)) ?_ | refine valP_ok (ld9 (hS.cell 2 rfl rfl)) ?_ | refine valP_ok (ld9 (hS.cell 3 rfl rfl)) ?_ | refine valP_ok (ld9 (hS.cell 4 rfl rfl)) ?_ | refine valP_ok (ld9 (hS.cell 5 rfl rfl)) ?_ | refine valP_ok (ld9 (hS.cell 6 rfl rfl)) ?_ | refine valP_ok (ld9 (hS.cell 7 rfl rfl)) ?_ | refine valP_ok (ld9 (by assumption)) ?_
  refine newslice_ok (bs22_2 rfl rfl _) hS ?_
  intro b11 w hS
  refine callR (by kernel_rfl) (ready_ret (xs := [s, to]) 4 rfl (by simp) (Bes.of_cells 0 rfl rfl) hS) ?_
  rintro _ w ⟨rfl, hS⟩
  have hS := hS.tail
  unfold m22_4
  refine valP_ok (ne24 _ _ _ _ _) ?_
  unfold m22_5 renD
  have toD : ∀ w, St w0 F w (Res.cells b5 9 [.string to] :: Res.cells b4 9 [.string s] :: Res.cells b3 23 [ptr b] :: dCell b (.map (some mb)) D.room D.fuse D.off :: mapD mb X :: (X.map fileR ++ L)) → Dsk w0 F ([Res.cells b5 9 [.string to], Res.cells b4 9 [.string s], Res.cells b3 23 [ptr b]] ++ L) b D w := fun w hS => ⟨mb, X, hX, St.pushes (R := [Res.cells b5 9 [.string to], Res.cells b4 9 [.string s], Res.cells b3 23 [ptr b]]) (hS.pick 5 [3, 4, 0, 1, 2] (by simp) (by decide))⟩
  refine cond_split (fun h => ?_) (fun h => ?_)
  · unfold m22_6
    rw [if_neg h]
    exact ⟨rfl, Dsk.drop (toD _ hS)⟩
  · have h := Classical.not_not.1 h
    rw [if_pos h]
    obtain ⟨hn1, hn2, _⟩ := ready_two h
    unfold m22_2
    first | refine valP_ok (ld23 (hS.cell 0 rfl rfl)) ?_ | refine valP_ok (ld23 (hS.cell 1 rfl rfl)) ?_ | refine valP_ok (ld23 (hS.cell 2 rfl rfl)) ?_ | refine valP_ok (ld23 (hS.cell 3 rfl rfl)) ?_ | refine valP_ok (ld23 (hS.cell 4 rfl rfl)) ?_ | refine valP_ok (ld23 (hS.cell 5 rfl rfl)) ?_ | refine valP_ok (ld23 (hS.cell 6 rfl rfl)) ?_ | refine valP_ok (ld23 (hS.cell 7 rfl rfl)) ?_ | refine valP_ok (ld23 (by assumption)) ?_
    first | refine valP_ok (ld9 (hS.cell 0 rfl rfl)) ?_ | refine valP_ok (ld9 (hS.cell 1 rfl rfl)) ?_ | refine valP_ok (ld9 (hS.cell 2 rfl rfl)) ?_ | refine valP_ok (ld9 (hS.cell 3 rfl rfl)) ?_ | refine valP_ok (ld9 (hS.cell 4 rfl rfl)) ?_ | refine valP_ok (ld9 (hS.cell 5 rfl rfl)) ?_ | refine valP_ok (ld9 (hS.cell 6 rfl rfl)) ?_ | refine valP_ok (ld9 (hS.cell 7 rfl rfl)) ?_ | refine valP_ok (ld9 (by assumption)) ?_
    refine valP_ok (mf38 _ _ _ _) ?_
    refine callR (by kernel_rfl) (rename_work hO hn2.2.1 (toD _ hS)) ?_
    rintro _ w ⟨rfl, hD⟩
    unfold m22_3
    exact ⟨rfl, Dsk.drop hD⟩
end

end Go.Proofs.YtcldjjmfpmkldaaDoor.M
