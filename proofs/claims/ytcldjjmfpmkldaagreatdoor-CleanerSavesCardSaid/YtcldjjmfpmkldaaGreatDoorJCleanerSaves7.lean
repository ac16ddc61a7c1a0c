/- Parts of a proof, in one text: what it needs of D4, D5, D6, D7, D8, Gen, XI, D9, D10, D11, D12, V24, V25, V26. -/
import Derived.Test.YtcldjjmfpmkldaaGreatDoorJCleanerSaves6
import Derived.Shelf.SlIter.Nil
import Derived.Shelf.SortM.Plain
import Derived.Shelf.SortM.SortNone
import Derived.Ground.GgzProg
import Derived.Ground.SlgmProg
import Derived.Test.YtcldjjmfpmkldaaGreatDoorProg
import Derived.Laws.BytesArg
namespace Go.Proofs.YtcldjjmfpmkldaaGreatDoor.M
open Go.Proofs.YtcldjjmfpmkldaaGreatDoor.F Go.RowKit
set_option linter.unusedVariables false
set_option linter.unusedSimpArgs false
set_option maxRecDepth 100000
set_option maxHeartbeats 2000000
attribute [local irreducible] Res.cells Res.row Res.map Res.any World.cell? World.frozen? Instr.fieldAt Instr.loadAt Instr.storeAt Instr.indexAt Instr.lookup Instr.mapUpdate Instr.box Instr.build Instr.buildSlice Instr.extract Instr.alloc Instr.field Instr.index Instr.sliceAt Instr.makeSlice Instr.makeMap Instr.makeFunc binS Op.unary Sem.run
def burnC (D : Dk) : Dk × Int := (burnt D, if D.fuse = 0 then 4 else 0)
def appD (D : Dk) (s t : ByteArray) : Dk × Int :=
  if readyC [s] D.off = 0 then
    match getF D.L s with
    | some f => if D.room < (blk (f.sz + t.size) : Int) - blk f.sz then (D, 5) else burnC ⟨updF D.L ⟨s, f.sure, f.loose ++ t⟩, D.room - ((blk (f.sz + t.size) : Int) - blk f.sz), D.fuse, D.off⟩
    | none => if D.room < (blk t.size : Int) ∨ 256 ≤ D.L.length then (D, 5) else burnC ⟨insF ⟨s, ⟨#[]⟩, t⟩ D.L, D.room - blk t.size, D.fuse, D.off⟩
  else (D, readyC [s] D.off)
theorem burnt_eq (D : Dk) : burnt D = ⟨D.L, D.room, if 0 < D.fuse then D.fuse - 1 else D.fuse, if D.fuse = 0 then true else D.off⟩ := by
  unfold burnt
  by_cases h : D.fuse = 0
  · rw [if_pos h, if_pos h, if_neg (by omega)]
  · rw [if_neg h, if_neg h]
    by_cases h1 : 0 < D.fuse
    · rw [if_pos h1, if_pos h1]
    · rw [if_neg h1, if_neg h1]
theorem ready_size {s : ByteArray} {o : Bool} (h : readyC [s] o = 0) : s.size ≤ 24 ∧ Named s ∧ o = false := by
  unfold readyC at h
  split at h
  · rename_i h1
    have h2 := h1 s (.head _)
    refine ⟨h2.2.1, h2, ?_⟩
    cases o with
    | true => simp at h
    | false => rfl
  · omega
section
variable {w0 w : World} {F : List Nat} {L : List Res} {b : Nat} {D : Dk} {size : Nat} {s t : ByteArray}
theorem zero63 (w : World) : (zeroValue 76).run Tryz.prog w = .ok (.pointer none) w := by simp [go_sem]
theorem app_end {mb : Nat} {X : List (Fl × Nat)} {r : Int} (hf : -9223372036854775808 ≤ D.fuse ∧ D.fuse ≤ 9223372036854775807) (hX : X.map Prod.fst = D.L) (hr : r = D.room) (hS : St w0 F w (dCell b (.map (some mb)) r D.fuse D.off :: mapD mb X :: (X.map fileR ++ L))) : m17_9 (fun v w' => v = .int .i64 (burnC D).2 ∧ Dsk w0 F L b (burnC D).1 w') (ptr b) w := by
  subst hr
  unfold m17_9
  refine callR (by kernel_rfl) (burn_ret hf hS) ?_
  rintro _ w ⟨rfl, hS⟩
  refine valP_ok (not_ok _ _) ?_
  unfold m17_12 burnC
  rw [burnt_eq]
  refine cond_split (fun h => ?_) (fun h => ?_)
  · unfold m17_13
    have h0 := Classical.not_not.1 h
    refine ⟨by simp only [if_pos h0], mb, X, hX, ?_⟩
    simp only [if_pos h0] at hS ⊢
    exact hS
  · unfold m17_10 m17_11
    have h0 : ¬ D.fuse = 0 := fun h1 => h (not_not_intro h1)
    refine ⟨by simp only [if_neg h0], mb, X, hX, ?_⟩
    simp only [if_neg h0] at hS ⊢
    exact hS
theorem append_ret (hO : Ok size D) (ht : t.size ≤ 1000000000) (hD : Dsk w0 F L b D w) : Ret Tryz.prog 17 #[ptr b, .string s, .string t] w fun v w' => v = .int .i64 (appD D s t).2 ∧ Dsk w0 F L b (appD D s t).1 w' := by
  obtain ⟨mb, X, hX, hS⟩ := hD
  have hU : UpL (X.map Prod.fst) := hX ▸ hO.up
  have hfu : -9223372036854775808 ≤ D.fuse ∧ D.fuse ≤ 9223372036854775807 := by have := hO.fuse; omega
  have hroom := hO.room
  have hsize := hO.size
  have hsum := hO.sum
  refine s17 _ _ _ ?_
  unfold m17
  unfold m17_0
  unfold m17_1
  refine newslice_ok (bs71_1 rfl _) hS ?_
  intro b12 w hS
  refine callR (by kernel_rfl) (ready_ret (xs := [s]) 1 rfl (by simp) (Bes.of_cells 0 rfl rfl) hS) ?_
  rintro _ w ⟨rfl, hS⟩
  have hS := hS.tail
  unfold m17_19
  refine valP_ok (ne26 _ _ _ _ _) ?_
  unfold m17_20 appD
  refine cond_split (fun h => ?_) (fun h => ?_)
  · unfold m17_21
    rw [if_neg h]
    exact ⟨rfl, mb, X, hX, hS⟩
  rw [if_pos (Classical.not_not.1 h)]
  obtain ⟨hs24, hnm, ho⟩ := ready_size (Classical.not_not.1 h)
  unfold m17_2
  refine nil_ok ?_
  refine valP_ok (fa61_0 _ _) ?_
  refine valP_ok (ld59 (hS.cell 0 rfl rfl)) ?_
  refine valP_ok ((hS.mapT 1 rfl).lookup Tryz.underlying9 Tryz.underlying59 (zero63 _) (by unfold maxLen; omega)) ?_
  unfold m17_3
  refine builtin_ok (len9 _) ?_
  refine callR (by kernel_rfl) (blocks_ret (n := t.size) (by omega) hS) ?_
  rintro _ w ⟨rfl, hS⟩
  rcases look_X hU s with ⟨h1, h2, h3⟩ | ⟨i, hi, h1, h2, h3⟩
  · rw [h1]
    rw [hX] at h2
    rw [h2]
    unfold m17_4
    refine valP_ok (ne76n _ _ _) ?_
    unfold m17_18
    refine cond_f rfl ?_
    unfold m17_5
    refine nil_ok ?_
    refine valP_ok (fa61_1 _ _) ?_
    refine valP_ok (ld3 (hS.cell 0 rfl rfl)) ?_
    refine valP_ok (gtr_ok _ _ _ _ _ _ _) ?_
    have hlen : (X.map nb).length = D.L.length := by rw [← hX, List.length_map, List.length_map]
    have h3f : (X.map nb).filter (fun p => decide (p.1 ≠ s)) = X.map nb := List.filter_eq_self.2 fun p hp => by
      obtain ⟨q, hq, rfl⟩ := List.mem_map.1 hp
      simpa using h3 q hq
    refine cond_split (fun h5 => ?_) (fun h5 => ?_)
    · refine pick_dt (by first | assumption | omega) ?_
      unfold m17_16
      refine cond_t rfl ?_
      unfold m17_17
      rw [if_pos (.inl h5)]
      exact ⟨rfl, mb, X, hX, hS⟩
    · refine valP_ok (eq76n _ _ _) ?_
      refine cond_t rfl ?_
      refine nil_ok ?_
      refine valP_ok (fa61_0 _ _) ?_
      refine valP_ok (ld59 (hS.cell 0 rfl rfl)) ?_
      refine lenT_ok 1 hS rfl Tryz.underlying59 ?_
      refine valP_ok (geq_ok _ _ _ _ _ _ _) ?_
      refine pick_t (by first | rfl | assumption) ?_
      refine pick_df (by first | assumption | omega) ?_
      unfold m17_16
      refine cond_split (fun h6 => ?_) (fun h6 => ?_)
      · unfold m17_17
        rw [if_pos (.inr (by omega))]
        exact ⟨rfl, mb, X, hX, hS⟩
      · rw [if_neg (show ¬ (D.room < (blk t.size : Int) ∨ 256 ≤ D.L.length) by omega)]
        unfold m17_6
        refine valP_ok (eq76n _ _ _) ?_
        unfold m17_14
        refine cond_t rfl ?_
        refine valP_ok (bd78 _) ?_
        refine new_ok (bx78 _ _ _) hS ?_
        intro b59 w hS
        unfold m17_15
        refine nil_ok ?_
        refine valP_ok (fa61_0 _ _) ?_
        refine valP_ok (ld59 (hS.cell 1 rfl rfl)) ?_
        have hp := insX_perm (⟨s, ⟨#[]⟩, t⟩, b59) X
        refine putT_at 2 ((insX (⟨s, ⟨#[]⟩, t⟩, b59) X).map nb) hS rfl Tryz.underlying9 Tryz.underlying59 (by unfold maxLen; omega) (by unfold maxLen; omega) (by rw [h3f]; exact hp.map nb) ?_
        intro w hS
        simp only [List.set_cons_zero, List.set_cons_succ] at hS
        unfold m17_7
        refine nil_ok ?_
        refine valP_ok (fa61_1 _ _) ?_
        refine valP_ok (ld3 (hS.cell 1 rfl rfl)) ?_
        refine valP_ok (sub_ok _ _ _ (by omega) (by omega) _) ?_
        refine nil_ok ?_
        refine valP_ok (fa61_1 _ _) ?_
        refine store_at 1 st3 hS rfl (by simp) rfl ?_
        intro w hS
        simp only [List.set_cons_zero, List.set_cons_succ] at hS
        unfold m17_8
        refine nil_ok ?_
        refine valP_ok (fa78_1 _ _) ?_
        refine valP_ok (ld9 (hS.cell 0 rfl rfl)) ?_
        refine valP_ok (sadd _ _ (by have : (⟨#[]⟩ : ByteArray).size = 0 := rfl; omega) _) ?_
        refine nil_ok ?_
        refine valP_ok (fa78_1 _ _) ?_
        refine store_at 0 st9 hS rfl (by simp) rfl ?_
        intro w hS
        simp only [List.set_cons_zero, List.set_cons_succ] at hS
        rw [empty_add] at hS
        have hS2 := hS.perm (L' := dCell b (.map (some mb)) (D.room - blk t.size) D.fuse D.off :: mapD mb (insX (⟨s, ⟨#[]⟩, t⟩, b59) X) :: ((insX (⟨s, ⟨#[]⟩, t⟩, b59) X).map fileR ++ L)) (by
          refine ((List.Perm.swap _ _ _).trans ((List.Perm.swap _ _ _).cons _)).trans (((?_ : List.Perm _ _).cons _).cons _)
          exact ((hp.map fileR).append_right L).symm)
        exact app_end (D := ⟨insF ⟨s, ⟨#[]⟩, t⟩ D.L, D.room - blk t.size, D.fuse, D.off⟩) hfu (by rw [insX_map, hX]) rfl hS2
  · rw [h1]
    rw [hX] at h2
    rw [h2]
    have hfm : X[i].1 ∈ D.L := (getF_some h2).1
    have hsz := hO.sz hfm
    have hsz' : X[i].1.sure.size + X[i].1.loose.size = X[i].1.sz := rfl
    have hfa := fileAt hi L (dCell b (.map (some mb)) D.room D.fuse D.off) (mapD mb X)
    unfold m17_4
    refine valP_ok (ne76s _ _ _ _) ?_
    unfold m17_18
    refine cond_t rfl ?_
    refine callR (by kernel_rfl) (size_ret (i + 2) (by omega) hfa hS) ?_
    rintro _ w ⟨rfl, hS⟩
    refine builtin_ok (len9 _) ?_
    refine valP_ok (add_ok _ _ _ (by omega) (by omega) _) ?_
    rw [show (((X[i].1.sure.size + X[i].1.loose.size : Nat) : Int) + (t.size : Int)) = ((X[i].1.sz + t.size : Nat) : Int) by omega]
    refine callR (by kernel_rfl) (blocks_ret (n := X[i].1.sz + t.size) (by omega) hS) ?_
    rintro _ w ⟨rfl, hS⟩
    refine callR (by kernel_rfl) (size_ret (i + 2) (by omega) hfa hS) ?_
    rintro _ w ⟨rfl, hS⟩
    refine callR (by kernel_rfl) (blocks_ret (n := X[i].1.sz) (by omega) hS) ?_
    rintro _ w ⟨rfl, hS⟩
    have hb1 : blk (X[i].1.sz + t.size) ≤ 1000000000000 := by unfold blk; omega
    have hb2 : blk X[i].1.sz ≤ 1000000000000 := by unfold blk; omega
    refine valP_ok (sub_ok _ _ _ (by omega) (by omega) _) ?_
    unfold m17_5
    refine nil_ok ?_
    refine valP_ok (fa61_1 _ _) ?_
    refine valP_ok (ld3 (hS.cell 0 rfl rfl)) ?_
    refine valP_ok (gtr_ok _ _ _ _ _ _ _) ?_
    refine cond_split (fun h5 => ?_) (fun h5 => ?_)
    · refine pick_dt (by first | assumption | omega) ?_
      unfold m17_16
      refine cond_t rfl ?_
      unfold m17_17
      simp only [if_pos h5]
      exact ⟨trivial, mb, X, hX, hS⟩
    · simp only [if_neg h5]
      refine valP_ok (eq76s _ _ _ _) ?_
      refine cond_f rfl ?_
      refine pick_f (by first | rfl | assumption) ?_
      refine pick_df (by first | assumption | omega) ?_
      unfold m17_16
      refine cond_f rfl ?_
      unfold m17_6
      refine valP_ok (eq76s _ _ _ _) ?_
      unfold m17_14
      refine cond_f rfl ?_
      unfold m17_7
      refine nil_ok ?_
      refine valP_ok (fa61_1 _ _) ?_
      refine valP_ok (ld3 (hS.cell 0 rfl rfl)) ?_
      refine valP_ok (sub_ok _ _ _ (by omega) (by omega) _) ?_
      refine nil_ok ?_
      refine valP_ok (fa61_1 _ _) ?_
      refine store_at 0 st3 hS rfl (by simp) rfl ?_
      intro w hS
      simp only [List.set_cons_zero, List.set_cons_succ] at hS
      have hfa := fileAt hi L (dCell b (.map (some mb)) (D.room - ((blk (X[i].1.sz + t.size) : Int) - blk X[i].1.sz)) D.fuse D.off) (mapD mb X)
      unfold m17_8
      refine nil_ok ?_
      refine valP_ok (fa78_1 _ _) ?_
      refine valP_ok (ld9 (hS.cell (i + 2) hfa (i := 1) rfl)) ?_
      refine valP_ok (sadd _ _ (by omega) _) ?_
      refine nil_ok ?_
      refine valP_ok (fa78_1 _ _) ?_
      refine store_at (i + 2) st9 hS hfa (by simp) rfl ?_
      intro w hS
      have hset := fileSet hi L (dCell b (.map (some mb)) (D.room - ((blk (X[i].1.sz + t.size) : Int) - blk X[i].1.sz)) D.fuse D.off) (mapD mb X) ⟨s, X[i].1.sure, X[i].1.loose ++ t⟩
      have hS2 : St w0 F w ((dCell b (.map (some mb)) (D.room - ((blk (X[i].1.sz + t.size) : Int) - blk X[i].1.sz)) D.fuse D.off :: mapD mb X :: (X.map fileR ++ L)).set (i + 2) (fileR (⟨s, X[i].1.sure, X[i].1.loose ++ t⟩, X[i].2))) := hS
      rw [hset] at hS2
      have hnb := nb_set (f' := ⟨s, X[i].1.sure, X[i].1.loose ++ t⟩) hi h3
      have hmap : mapD mb X = mapD mb (X.set i (⟨s, X[i].1.sure, X[i].1.loose ++ t⟩, X[i].2)) := by unfold mapD; rw [hnb]
      rw [hmap] at hS2
      exact app_end (D := ⟨updF D.L ⟨s, X[i].1.sure, X[i].1.loose ++ t⟩, D.room - ((blk (X[i].1.sz + t.size) : Int) - blk X[i].1.sz), D.fuse, D.off⟩) hfu (by rw [updX_map hU hi h3, hX]) rfl hS2
end
def delF (l : List Fl) (s : ByteArray) : List Fl := l.filter (fun f => decide (f.name ≠ s))
theorem delX_map (X : List (Fl × Nat)) (s : ByteArray) : (X.filter (fun p => decide (p.1.name ≠ s))).map Prod.fst = delF (X.map Prod.fst) s := by
  unfold delF
  rw [List.filter_map]
  rfl
theorem delX_nb (X : List (Fl × Nat)) (s : ByteArray) : (X.filter (fun p => decide (p.1.name ≠ s))).map nb = (X.map nb).filter (fun p => decide (p.1 ≠ s)) := by
  rw [List.filter_map]
  rfl
theorem erase_del : ∀ {X : List (Fl × Nat)} (_ : UpL (X.map Prod.fst)) {i : Nat} (hi : i < X.length) {s : ByteArray} (_ : X[i].1.name = s), X.eraseIdx i = X.filter (fun p => decide (p.1.name ≠ s))
  | [], _, i, hi, _, _ => absurd hi (Nat.not_lt_zero _)
  | q :: X, h, 0, hi, s, e => by
    have hq := List.pairwise_cons.1 (up_ne h)
    simp only [List.getElem_cons_zero] at e
    rw [List.filter_cons_of_neg (by simp [e])]
    refine (List.filter_eq_self.2 fun p hp => ?_).symm
    have := hq.1 p.1 (List.mem_map.2 ⟨p, hp, rfl⟩)
    simp only [decide_eq_true_eq]
    exact fun h2 => this (e.trans h2.symm)
  | q :: X, h, i + 1, hi, s, e => by
    have hq := List.pairwise_cons.1 (up_ne h)
    simp only [List.getElem_cons_succ] at e
    have hl : i < X.length := by simpa using hi
    have hne := hq.1 X[i].1 (List.mem_map.2 ⟨_, List.getElem_mem hl, rfl⟩)
    rw [e] at hne
    have hp : decide (q.1.name ≠ s) = true := decide_eq_true hne
    rw [List.eraseIdx_cons_succ, List.filter_cons, if_pos hp, erase_del (List.pairwise_cons.1 h).2 hl e]
theorem perm_get : ∀ {X : List (Fl × Nat)} {i : Nat} (hi : i < X.length), X.Perm (X[i] :: X.eraseIdx i)
  | [], i, hi => absurd hi (Nat.not_lt_zero _)
  | q :: X, 0, hi => .refl _
  | q :: X, i + 1, hi => ((perm_get (X := X) (i := i) (by simpa using hi)).cons q).trans (.swap _ _ _)
theorem perm_put {X : List (Fl × Nat)} {i : Nat} (hi : i < X.length) (p : Fl × Nat) : (X.set i p).Perm (p :: X.eraseIdx i) := by
  have h1 : i < (X.set i p).length := by simpa using hi
  have := perm_get h1
  rw [List.getElem_set_self, List.eraseIdx_set_eq] at this
  exact this
section
variable {w0 w : World} {F : List Nat} {L : List Res} {d m : Res}
theorem St.focus {X : List (Fl × Nat)} {i : Nat} (hi : i < X.length) (hS : St w0 F w (d :: m :: (X.map fileR ++ L))) : St w0 F w (d :: fileR X[i] :: m :: ((X.eraseIdx i).map fileR ++ L)) := by
  refine hS.perm (List.Perm.cons _ (List.Perm.trans (List.Perm.cons _ ?_) (List.Perm.swap _ _ _)))
  have := ((perm_get hi).map fileR).append_right L
  rwa [List.map_cons, List.cons_append] at this
theorem St.unfocus {X : List (Fl × Nat)} {i : Nat} (hi : i < X.length) (p : Fl × Nat) (hS : St w0 F w (d :: fileR p :: m :: ((X.eraseIdx i).map fileR ++ L))) : St w0 F w (d :: m :: ((X.set i p).map fileR ++ L)) := by
  refine hS.perm (List.Perm.cons _ (List.Perm.trans (List.Perm.swap _ _ _) (List.Perm.cons _ ?_)))
  have := ((perm_put hi p).map fileR).append_right L
  rw [List.map_cons, List.cons_append] at this
  exact this.symm
theorem St.push {r : Res} {Y : List Res} (hS : St w0 F w (r :: d :: m :: (Y ++ L))) : St w0 F w (d :: m :: (Y ++ r :: L)) := by
  refine hS.perm ((List.Perm.swap _ _ _).trans (List.Perm.cons _ ((List.Perm.swap _ _ _).trans (List.Perm.cons _ ?_))))
  exact List.perm_middle.symm
theorem St.pull {r : Res} {Y : List Res} (hS : St w0 F w (d :: m :: (Y ++ r :: L))) : St w0 F w (d :: m :: r :: (Y ++ L)) :=
  hS.perm (List.Perm.cons _ (List.Perm.cons _ List.perm_middle))
theorem Dsk.pop {b : Nat} {D : Dk} {r : Res} (h : Dsk w0 F (r :: L) b D w) : Dsk w0 F L b D w := by
  obtain ⟨mb, X, hX, hS⟩ := h
  exact ⟨mb, X, hX, (St.pull hS).pick 3 [0, 1] (by simp) (by decide)⟩
theorem Dsk.push {b : Nat} {D : Dk} {r : Res} {mb : Nat} {X : List (Fl × Nat)} (hX : X.map Prod.fst = D.L) (hS : St w0 F w (r :: dCell b (.map (some mb)) D.room D.fuse D.off :: mapD mb X :: (X.map fileR ++ L))) : Dsk w0 F (r :: L) b D w := ⟨mb, X, hX, St.push hS⟩
end
def workD (D : Dk) (s : ByteArray) (Rf : Fl → Dk → Dk × Int) : Dk × Int :=
  if readyC [s] D.off = 0 then
    match getF D.L s with
    | some f => if D.fuse = 0 then (burnt D, 4) else Rf f (burnt D)
    | none => (D, 3)
  else (D, readyC [s] D.off)
theorem burnt_L (D : Dk) : (burnt D).L = D.L := by rw [burnt_eq]
theorem burnt_room (D : Dk) : (burnt D).room = D.room := by rw [burnt_eq]
theorem Ok.burnt {n : Nat} {D : Dk} (h : Ok n D) : Ok n (burnt D) := by
  rw [burnt_eq]
  refine ⟨h.up, h.len, h.room, h.sum, h.names, ?_, h.size⟩
  have := h.fuse
  simp only
  split <;> omega
section
variable {w0 w : World} {F : List Nat} {L : List Res} {b : Nat} {D : Dk} {size : Nat} {s : ByteArray}
def Foc (w0 : World) (F : List Nat) (L : List Res) (b mb : Nat) (X : List (Fl × Nat)) (i : Nat) (p : Fl × Nat) (D : Dk) (w : World) : Prop := St w0 F w (dCell b (.map (some mb)) D.room D.fuse D.off :: fileR p :: mapD mb X :: ((X.eraseIdx i).map fileR ++ L))
theorem work_ret {fn : Nat} {first cap : Array Value} {Rf : Fl → Dk → Dk × Int} (hfn : callsOk Tryz.prog fn = true) (hO : Ok size D)
    (hdo : ∀ w mb X i (hi : i < X.length), X.map Prod.fst = (burnt D).L → X[i].1.name = s → Foc w0 F L b mb X i X[i] (burnt D) w → Ret Tryz.prog fn (first ++ #[ptr X[i].2] ++ cap) w fun v w' => v = .int .i64 (Rf X[i].1 (burnt D)).2 ∧ Dsk w0 F L b (Rf X[i].1 (burnt D)).1 w')
    (hD : Dsk w0 F L b D w) : Ret Tryz.prog 65 #[ptr b, .string s, .func (.func fn) first cap] w fun v w' => v = .int .i64 (workD D s Rf).2 ∧ Dsk w0 F L b (workD D s Rf).1 w' := by
  obtain ⟨mb, X, hX, hS⟩ := hD
  have hU : UpL (X.map Prod.fst) := hX ▸ hO.up
  have hfu : -9223372036854775808 ≤ D.fuse ∧ D.fuse ≤ 9223372036854775807 := by have := hO.fuse; omega
  refine s65 _ _ _ ?_
  unfold m65
  unfold m65_0
  unfold m65_1
  refine newslice_ok (bs71_1 rfl _) hS ?_
  intro b11 w hS
  refine callR (by kernel_rfl) (ready_ret (xs := [s]) 1 rfl (by simp) (Bes.of_cells 0 rfl rfl) hS) ?_
  rintro _ w ⟨rfl, hS⟩
  have hS := hS.tail
  unfold m65_10
  refine valP_ok (ne26 _ _ _ _ _) ?_
  unfold m65_11 workD
  refine cond_split (fun h => ?_) (fun h => ?_)
  · unfold m65_12
    rw [if_neg h]
    exact ⟨rfl, mb, X, hX, hS⟩
  rw [if_pos (Classical.not_not.1 h)]
  obtain ⟨hs24, hnm, ho⟩ := ready_size (Classical.not_not.1 h)
  unfold m65_2
  refine nil_ok ?_
  refine valP_ok (fa61_0 _ _) ?_
  refine valP_ok (ld59 (hS.cell 0 rfl rfl)) ?_
  refine valP_ok ((hS.mapT 1 rfl).lookup Tryz.underlying9 Tryz.underlying59 (zero63 _) (by unfold maxLen; omega)) ?_
  rcases look_X hU s with ⟨h1, h2, h3⟩ | ⟨i, hi, h1, h2, h3⟩
  · rw [h1]
    rw [hX] at h2
    rw [h2]
    unfold m65_3
    refine valP_ok (eq76n _ _ _) ?_
    unfold m65_6
    refine cond_t rfl ?_
    unfold m65_7
    exact ⟨rfl, mb, X, hX, hS⟩
  · rw [h1]
    rw [hX] at h2
    rw [h2]
    unfold m65_3
    refine valP_ok (eq76s _ _ _ _) ?_
    unfold m65_6
    refine cond_f rfl ?_
    refine callR (by kernel_rfl) (burn_ret hfu hS) ?_
    rintro _ w ⟨rfl, hS⟩
    refine valP_ok (not_ok _ _) ?_
    unfold m65_8
    have hb := burnt_eq D
    refine cond_split (fun h4 => ?_) (fun h4 => ?_)
    · unfold m65_9
      have h0 := Classical.not_not.1 h4
      simp only [if_pos h0]
      refine ⟨trivial, mb, X, by rw [burnt_L]; exact hX, ?_⟩
      rw [hb]
      exact hS
    · have h0 : ¬ D.fuse = 0 := fun h1 => h4 (not_not_intro h1)
      simp only [if_neg h0]
      unfold m65_4
      have hf := St.focus hi hS
      refine callvR hfn rfl (hdo w mb X i hi (by rw [burnt_L]; exact hX) h3 (by unfold Foc; rw [hb]; exact hf)) ?_
      rintro _ w ⟨rfl, hD⟩
      unfold m65_5
      exact ⟨rfl, hD⟩
def syncR (f : Fl) (D : Dk) : Dk × Int := (⟨updF D.L ⟨f.name, f.sure ++ f.loose, ⟨#[]⟩⟩, D.room, D.fuse, D.off⟩, 0)
theorem Foc.done {mb : Nat} {X : List (Fl × Nat)} {i : Nat} {f' : Fl} {D' : Dk} (hU : UpL (X.map Prod.fst)) (hi : i < X.length) (hn : X[i].1.name = f'.name) (hL : D'.L = updF (X.map Prod.fst) f') (h : Foc w0 F L b mb X i (f', X[i].2) D' w) : Dsk w0 F L b D' w := by
  unfold Foc at h
  have hS := St.unfocus hi _ h
  refine ⟨mb, X.set i (f', X[i].2), by rw [updX_map hU hi hn, hL], ?_⟩
  have hnb := nb_set hi hn
  have hmap : mapD mb X = mapD mb (X.set i (f', X[i].2)) := by unfold mapD; rw [hnb]
  rw [hmap] at hS
  exact hS
theorem sync_ret (hO : Ok size D) (hD : Dsk w0 F L b D w) : Ret Tryz.prog 27 #[ptr b, .string s] w fun v w' => v = .int .i64 (workD D s syncR).2 ∧ Dsk w0 F L b (workD D s syncR).1 w' := by
  refine s27 _ _ ?_
  unfold m27 m27_0 m27_1
  refine callR (by kernel_rfl) (work_ret (fn := 67) (first := #[]) (cap := #[]) (Rf := syncR) (by kernel_rfl) hO ?_ hD) ?_
  · intro w mb X i hi hX hn hS
    have hU : UpL (X.map Prod.fst) := by rw [hX, burnt_L]; exact hO.up
    have hfm : X[i].1 ∈ D.L := by rw [← burnt_L D, ← hX]; exact List.mem_map.2 ⟨_, List.getElem_mem hi, rfl⟩
    have hsz := hO.sz hfm
    have hsz' : X[i].1.sure.size + X[i].1.loose.size = X[i].1.sz := rfl
    refine s67 _ ?_
    have fin : ∀ w, Foc w0 F L b mb X i (⟨X[i].1.name, X[i].1.sure ++ X[i].1.loose, ⟨#[]⟩⟩, X[i].2) (burnt D) w → m67_2 (fun v w' => v = .int .i64 (syncR X[i].1 (burnt D)).2 ∧ Dsk w0 F L b (syncR X[i].1 (burnt D)).1 w') w := fun w hS => by
      unfold m67_2 m67_3
      exact ⟨rfl, Foc.done (f' := ⟨X[i].1.name, X[i].1.sure ++ X[i].1.loose, ⟨#[]⟩⟩) (D' := (syncR X[i].1 (burnt D)).1) hU hi rfl (by unfold syncR; rw [hX]) hS⟩
    unfold Foc at hS
    unfold m67
    unfold m67_0
    unfold m67_1
    refine drawn_ok hS ?_
    intro w hS
    refine nil_ok ?_
    refine pureP_ok (fa78_0 _) ?_
    refine nil_ok ?_
    refine pureP_ok (fa78_1 _) ?_
    refine ⟨?_, ?_⟩
    · refine valP_ok (ld9 (hS.cell 1 rfl rfl)) ?_
      refine valP_ok (ld9 (hS.cell 1 rfl rfl)) ?_
      refine pureP_ok (fun w => sadd _ _ (by omega) w) ?_
      refine nil_ok ?_
      refine pureP_ok (fa78_0 _) ?_
      refine store_at 1 st9 hS rfl (by simp) rfl ?_
      intro w hS
      simp only [List.set_cons_zero, List.set_cons_succ] at hS
      refine nil_ok ?_
      refine pureP_ok (fa78_1 _) ?_
      refine store_at 1 st9 hS rfl (by simp) rfl ?_
      intro w hS
      simp only [List.set_cons_zero, List.set_cons_succ] at hS
      exact fin _ hS
    · refine valP_ok (ld9 (hS.cell 1 rfl rfl)) ?_
      refine valP_ok (ld9 (hS.cell 1 rfl rfl)) ?_
      refine pureP_ok (fun w => sadd _ _ (by omega) w) ?_
      refine nil_ok ?_
      refine pureP_ok (fa78_0 _) ?_
      refine store_at 1 st9 hS rfl (by simp) rfl ?_
      intro w hS
      simp only [List.set_cons_zero, List.set_cons_succ] at hS
      refine nil_ok ?_
      refine pureP_ok (fa78_1 _) ?_
      refine store_at 1 st9 hS rfl (by simp) rfl ?_
      intro w hS
      simp only [List.set_cons_zero, List.set_cons_succ] at hS
      exact fin _ hS
  · rintro _ w ⟨rfl, hD⟩
    unfold m27_2
    exact ⟨rfl, hD⟩
end
section
variable {w0 w : World} {F : List Nat} {L : List Res} {d m : Res}
theorem St.pushes {R Y : List Res} (hS : St w0 F w (d :: m :: (R ++ (Y ++ L)))) : St w0 F w (d :: m :: (Y ++ (R ++ L))) := hS.perm ((List.perm_append_comm_assoc R Y L).cons m |>.cons d)
theorem St.pulls {f : Res} {R Y : List Res} (hS : St w0 F w (d :: f :: m :: (Y ++ (R ++ L)))) : St w0 F w (d :: f :: m :: (R ++ (Y ++ L))) := hS.perm (((List.perm_append_comm_assoc Y R L).cons m |>.cons f).cons d)
theorem Dsk.drop {b : Nat} {D : Dk} : ∀ {R : List Res}, Dsk w0 F (R ++ L) b D w → Dsk w0 F L b D w
  | [], h => h
  | r :: R, h => Dsk.drop (R := R) (Dsk.pop h)
end
theorem blk_le {n : Nat} (h : n ≤ 1048576) : blk n ≤ 16384 := by unfold blk; omega
def removeR (f : Fl) (D : Dk) : Dk × Int := (⟨delF D.L f.name, D.room + blk f.sz, D.fuse, D.off⟩, 0)
section
variable {w0 w : World} {F : List Nat} {L : List Res} {b : Nat} {D : Dk} {size : Nat} {s : ByteArray}
theorem room_le (hO : Ok size D) : 0 ≤ (burnt D).room ∧ (burnt D).room ≤ 16384 := by
  rw [burnt_room]
  have h1 := hO.room
  have h2 := hO.sum
  have h3 := hO.size
  omega
theorem remove_ret (hO : Ok size D) (hD : Dsk w0 F L b D w) : Ret Tryz.prog 26 #[ptr b, .string s] w fun v w' => v = .int .i64 (workD D s removeR).2 ∧ Dsk w0 F L b (workD D s removeR).1 w' := by
  obtain ⟨mb, X, hX, hS⟩ := hD
  refine s26 _ _ ?_
  unfold m26
  unfold m26_0
  refine new_ok (bx25 rfl _) hS ?_
  intro b2 w hS
  refine new_ok (bx9 rfl _) hS ?_
  intro b3 w hS
  unfold m26_1
  refine valP_ok (ld25 (hS.cell 1 rfl rfl)) ?_
  refine valP_ok (ld9 (hS.cell 0 rfl rfl)) ?_
  refine valP_ok (mf66 _ _ _) ?_
  have hD : Dsk w0 F ([Res.cells b3 9 [.string s], Res.cells b2 25 [ptr b]] ++ L) b D w := ⟨mb, X, hX, St.pushes (R := [Res.cells b3 9 [.string s], Res.cells b2 25 [ptr b]]) (hS.pick 4 [2, 3, 0, 1] (by simp) (by decide))⟩
  clear hS hX
  refine callR (by kernel_rfl) (work_ret (fn := 66) (first := #[]) (cap := #[ptr b2, ptr b3]) (Rf := removeR) (by kernel_rfl) hO ?_ hD) ?_
  · clear hD
    intro w mb X i hi hX hn hS
    have hU : UpL (X.map Prod.fst) := by rw [hX, burnt_L]; exact hO.up
    have hfm : X[i].1 ∈ D.L := by rw [← burnt_L D, ← hX]; exact List.mem_map.2 ⟨_, List.getElem_mem hi, rfl⟩
    have hsz := hO.sz hfm
    have hsz' : X[i].1.sure.size + X[i].1.loose.size = X[i].1.sz := rfl
    have hbl := blk_le hsz
    have hr := room_le hO
    have hnl : s.size ≤ 24 := hn ▸ hO.names _ hfm
    have hS := St.pulls (R := [Res.cells b3 9 [.string s], Res.cells b2 25 [ptr b]]) hS
    refine s66 _ _ _ ?_
    unfold m66
    unfold m66_0
    have fin : ∀ w, St w0 F w (dCell b (.map (some mb)) ((burnt D).room + blk X[i].1.sz) (burnt D).fuse (burnt D).off :: fileR X[i] :: mapD mb X :: Res.cells b3 9 [.string s] :: Res.cells b2 25 [ptr b] :: ((X.eraseIdx i).map fileR ++ L)) → m66_2 (fun v w' => v = .int .i64 (removeR X[i].1 (burnt D)).2 ∧ Dsk w0 F ([Res.cells b3 9 [.string s], Res.cells b2 25 [ptr b]] ++ L) b (removeR X[i].1 (burnt D)).1 w') (ptr b2) (ptr b3) w := fun w hS => by
      unfold m66_2
      refine drawn_ok hS ?_
      intro w hS
      refine valS_ok (ld25 (hS.cell 4 rfl rfl)) ?_
      refine nil_ok ?_
      refine valS_ok (fa61_0 _ _) ?_
      refine valS_ok (ld59 (hS.cell 0 rfl rfl)) ?_
      refine valS_ok (ld9 (hS.cell 3 rfl rfl)) ?_
      refine delT_at 2 ((X.eraseIdx i).map nb) hS rfl Tryz.underlying9 Tryz.underlying59 (by unfold maxLen; omega) (by rw [erase_del hU hi hn, delX_nb]) ?_
      intro w hS
      simp only [List.set_cons_zero, List.set_cons_succ] at hS
      unfold m66_3 m66_4
      refine ⟨rfl, mb, X.eraseIdx i, ?_, ?_⟩
      · rw [erase_del hU hi hn, delX_map, hX, ← hn]
        rfl
      · exact St.pushes (R := [Res.cells b3 9 [.string s], Res.cells b2 25 [ptr b]]) (hS.pick 5 [0, 2, 3, 4] (by simp) (by decide))
    unfold m66_1
    refine drawn_ok hS ?_
    intro w hS
    refine held_Hs (hS.pick 5 [3, 4] (by simp) (by decide)) ?_
    refine valJ_load ld25 (Hs.cell 1 rfl rfl) ?_
    refine nil_ok ?_
    refine valJ_ok (fa61_1 _) ?_
    refine ⟨?_, ?_⟩
    · refine valP_ok (ld3 (hS.cell 0 rfl rfl)) ?_
      refine stay_Hs (hS.pick 5 [3, 4] (by simp) (by decide)) (fun _ h => h) ?_
      refine callR (by kernel_rfl) (size_ret 1 (by omega) rfl hS) ?_
      rintro _ w ⟨rfl, hS⟩
      refine stay_Hs (hS.pick 5 [3, 4] (by simp) (by decide)) (fun _ h => h) ?_
      refine callR (by kernel_rfl) (blocks_ret (n := X[i].1.sz) (by omega) hS) ?_
      rintro _ w ⟨rfl, hS⟩
      refine stay_Hs (hS.pick 5 [3, 4] (by simp) (by decide)) (fun _ h => h) ?_
      refine valJ_ok (add_ok _ _ _ (by omega) (by omega)) ?_
      refine nil_ok ?_
      refine valJ_ok (fa61_1 _) ?_
      refine store_at 0 st3 hS rfl (by simp) rfl ?_
      intro w hS
      simp only [List.set_cons_zero, List.set_cons_succ] at hS
      refine stay_Hs (hS.pick 5 [3, 4] (by simp) (by decide)) (fun _ h => h) ?_
      exact fin _ hS
    · refine callR (by kernel_rfl) (size_ret 1 (by omega) rfl hS) ?_
      rintro _ w ⟨rfl, hS⟩
      refine stay_Hs (hS.pick 5 [3, 4] (by simp) (by decide)) (fun _ h => h) ?_
      refine ⟨?_, ?_⟩
      · refine valP_ok (ld3 (hS.cell 0 rfl rfl)) ?_
        refine stay_Hs (hS.pick 5 [3, 4] (by simp) (by decide)) (fun _ h => h) ?_
        refine callR (by kernel_rfl) (blocks_ret (n := X[i].1.sz) (by omega) hS) ?_
        rintro _ w ⟨rfl, hS⟩
        refine stay_Hs (hS.pick 5 [3, 4] (by simp) (by decide)) (fun _ h => h) ?_
        refine valJ_ok (add_ok _ _ _ (by omega) (by omega)) ?_
        refine nil_ok ?_
        refine valJ_ok (fa61_1 _) ?_
        refine store_at 0 st3 hS rfl (by simp) rfl ?_
        intro w hS
        simp only [List.set_cons_zero, List.set_cons_succ] at hS
        refine stay_Hs (hS.pick 5 [3, 4] (by simp) (by decide)) (fun _ h => h) ?_
        exact fin _ hS
      · refine callR (by kernel_rfl) (blocks_ret (n := X[i].1.sz) (by omega) hS) ?_
        rintro _ w ⟨rfl, hS⟩
        refine stay_Hs (hS.pick 5 [3, 4] (by simp) (by decide)) (fun _ h => h) ?_
        refine valP_ok (ld3 (hS.cell 0 rfl rfl)) ?_
        refine stay_Hs (hS.pick 5 [3, 4] (by simp) (by decide)) (fun _ h => h) ?_
        refine valJ_ok (add_ok _ _ _ (by omega) (by omega)) ?_
        refine nil_ok ?_
        refine valJ_ok (fa61_1 _) ?_
        refine store_at 0 st3 hS rfl (by simp) rfl ?_
        intro w hS
        simp only [List.set_cons_zero, List.set_cons_succ] at hS
        refine stay_Hs (hS.pick 5 [3, 4] (by simp) (by decide)) (fun _ h => h) ?_
        exact fin _ hS
  · rintro _ w ⟨rfl, hD⟩
    unfold m26_2
    exact ⟨rfl, Dsk.drop hD⟩
def readV (D : Dk) (s : ByteArray) : ByteArray × Int :=
  if readyC [s] D.off = 0 then
    match getF D.L s with
    | some f => (f.sure ++ f.loose, 0)
    | none => (⟨#[]⟩, 3)
  else (⟨#[]⟩, readyC [s] D.off)
theorem read_ret (hO : Ok size D) (hD : Dsk w0 F L b D w) : Ret Tryz.prog 33 #[ptr b, .string s] w fun v w' => v = .tuple #[.string (readV D s).1, .int .i64 (readV D s).2] ∧ Dsk w0 F L b D w' := by
  obtain ⟨mb, X, hX, hS⟩ := hD
  have hU : UpL (X.map Prod.fst) := hX ▸ hO.up
  refine s33 _ _ ?_
  unfold m33
  unfold m33_0
  unfold m33_1
  refine newslice_ok (bs71_1 rfl _) hS ?_
  intro b10 w hS
  refine callR (by kernel_rfl) (ready_ret (xs := [s]) 1 rfl (by simp) (Bes.of_cells 0 rfl rfl) hS) ?_
  rintro _ w ⟨rfl, hS⟩
  have hS := hS.tail
  unfold m33_8
  refine valP_ok (ne26 _ _ _ _ _) ?_
  unfold m33_9 readV
  refine cond_split (fun h => ?_) (fun h => ?_)
  · unfold m33_10
    rw [if_neg h]
    exact ⟨rfl, mb, X, hX, hS⟩
  rw [if_pos (Classical.not_not.1 h)]
  obtain ⟨hs24, hnm, ho⟩ := ready_size (Classical.not_not.1 h)
  unfold m33_2
  refine nil_ok ?_
  refine valP_ok (fa61_0 _ _) ?_
  refine valP_ok (ld59 (hS.cell 0 rfl rfl)) ?_
  refine valP_ok ((hS.mapT 1 rfl).lookup Tryz.underlying9 Tryz.underlying59 (zero63 _) (by unfold maxLen; omega)) ?_
  rcases look_X hU s with ⟨h1, h2, h3⟩ | ⟨i, hi, h1, h2, h3⟩
  · rw [h1]
    rw [hX] at h2
    rw [h2]
    unfold m33_3
    refine valP_ok (eq76n _ _ _) ?_
    unfold m33_6
    refine cond_t rfl ?_
    unfold m33_7
    exact ⟨rfl, mb, X, hX, hS⟩
  · rw [h1]
    rw [hX] at h2
    rw [h2]
    unfold m33_3
    refine valP_ok (eq76s _ _ _ _) ?_
    unfold m33_6
    refine cond_f rfl ?_
    have hsz := hO.sz (getF_some h2).1
    have hsz' : X[i].1.sure.size + X[i].1.loose.size = X[i].1.sz := rfl
    have hfa := fileAt hi L (dCell b (.map (some mb)) D.room D.fuse D.off) (mapD mb X)
    have c0 := hS.cell (i + 2) hfa (i := 0) rfl
    have c1 := hS.cell (i + 2) hfa (i := 1) rfl
    unfold m33_4
    refine nil_ok ?_
    refine valQ_ok (fun w => fa78_0 _ _) ?_
    refine valQ_load ld9 c0 ?_
    refine nil_ok ?_
    refine valQ_ok (fun w => fa78_1 _ _) ?_
    refine valQ_load ld9 c1 ?_
    refine valQ_ok (fun w => sadd _ _ (by omega) w) ?_
    refine drawn_ok hS ?_
    intro w hS
    unfold m33_5
    exact ⟨rfl, mb, X, hX, hS⟩
end
def renR (to : ByteArray) (f : Fl) (D : Dk) : Dk × Int := (⟨insF ⟨to, f.sure, f.loose⟩ (delF (delF D.L f.name) to), (match getF D.L to with | some old => if f.name = to then D.room else D.room + blk old.sz | none => D.room), D.fuse, D.off⟩, 0)
def renD (D : Dk) (from_ to : ByteArray) : Dk × Int := if readyC [from_, to] D.off = 0 then workD D from_ (renR to) else (D, readyC [from_, to] D.off)
theorem ready_two {s t : ByteArray} {o : Bool} (h : readyC [s, t] o = 0) : Named s ∧ Named t ∧ o = false := by
  unfold readyC at h
  split at h
  · rename_i h1
    refine ⟨h1 s (.head _), h1 t (.tail _ (.head _)), ?_⟩
    cases o with
    | true => simp at h
    | false => rfl
  · omega
section
variable {w0 w : World} {F : List Nat} {L : List Res} {b : Nat} {D : Dk} {size : Nat} {s to : ByteArray}
theorem rename_work {b3 b4 b5 : Nat} (hO : Ok size D) (hto : to.size ≤ 24) (hD : Dsk w0 F ([Res.cells b5 9 [.string to], Res.cells b4 9 [.string s], Res.cells b3 25 [ptr b]] ++ L) b D w) : Ret Tryz.prog 65 #[ptr b, .string s, .func (.func 68) #[] #[ptr b3, ptr b5, ptr b4]] w fun v w' => v = .int .i64 (workD D s (renR to)).2 ∧ Dsk w0 F ([Res.cells b5 9 [.string to], Res.cells b4 9 [.string s], Res.cells b3 25 [ptr b]] ++ L) b (workD D s (renR to)).1 w' := by
  refine work_ret (fn := 68) (first := #[]) (cap := #[ptr b3, ptr b5, ptr b4]) (Rf := renR to) (by kernel_rfl) hO ?_ hD
  clear hD
  intro w mb X i hi hX hn hS
  have hU : UpL (X.map Prod.fst) := by rw [hX, burnt_L]; exact hO.up
  have hfm : X[i].1 ∈ D.L := by rw [← burnt_L D, ← hX]; exact List.mem_map.2 ⟨_, List.getElem_mem hi, rfl⟩
  have hsz := hO.sz hfm
  have hr := room_le hO
  have hnl : s.size ≤ 24 := hn ▸ hO.names _ hfm
  have hlen : X.length ≤ 256 := by
    have := hO.len
    rw [← burnt_L D, ← hX, List.length_map] at this
    exact this
  have hS := St.pulls (R := [Res.cells b5 9 [.string to], Res.cells b4 9 [.string s], Res.cells b3 25 [ptr b]]) hS
  have fin : ∀ (r : Int) w, St w0 F w (dCell b (.map (some mb)) r (burnt D).fuse (burnt D).off :: fileR X[i] :: mapD mb X :: Res.cells b5 9 [.string to] :: Res.cells b4 9 [.string s] :: Res.cells b3 25 [ptr b] :: ((X.eraseIdx i).map fileR ++ L)) → (renR to X[i].1 (burnt D)).1.room = r → m68_2 (fun v w' => v = .int .i64 (renR to X[i].1 (burnt D)).2 ∧ Dsk w0 F ([Res.cells b5 9 [.string to], Res.cells b4 9 [.string s], Res.cells b3 25 [ptr b]] ++ L) b (renR to X[i].1 (burnt D)).1 w') (ptr X[i].2) (ptr b3) (ptr b5) (ptr b4) w := fun r w hS hroom => by
    unfold m68_2
    refine drawn_ok hS ?_
    intro w hS
    refine valS_ok (ld25 (hS.cell 5 rfl rfl)) ?_
    refine nil_ok ?_
    refine valS_ok (fa61_0 _ _) ?_
    refine valS_ok (ld59 (hS.cell 0 rfl rfl)) ?_
    refine valS_ok (ld9 (hS.cell 4 rfl rfl)) ?_
    refine delT_at 2 ((X.eraseIdx i).map nb) hS rfl Tryz.underlying9 Tryz.underlying59 (by unfold maxLen; omega) (by rw [erase_del hU hi hn, delX_nb]) ?_
    intro w hS
    simp only [List.set_cons_zero, List.set_cons_succ] at hS
    have hY : (X.eraseIdx i).length ≤ 256 := by rw [List.length_eraseIdx]; split <;> omega
    have hYl : ((X.eraseIdx i).map nb).length ≤ 256 := by rw [List.length_map]; exact hY
    have hp := insX_perm (⟨to, X[i].1.sure, X[i].1.loose⟩, X[i].2) ((X.eraseIdx i).filter (fun p => decide (p.1.name ≠ to)))
    unfold m68_3
    refine drawn_ok hS ?_
    intro w hS
    refine valS_ok (ld25 (hS.cell 5 rfl rfl)) ?_
    refine nil_ok ?_
    refine valS_ok (fa61_0 _ _) ?_
    refine valS_ok (ld59 (hS.cell 0 rfl rfl)) ?_
    refine valS_ok (ld9 (hS.cell 3 rfl rfl)) ?_
    refine putT_at 2 ((insX (⟨to, X[i].1.sure, X[i].1.loose⟩, X[i].2) ((X.eraseIdx i).filter (fun p => decide (p.1.name ≠ to)))).map nb) hS rfl Tryz.underlying9 Tryz.underlying59 (by unfold maxLen; omega) (by unfold maxLen; omega) (by rw [← delX_nb]; exact hp.map nb) ?_
    intro w hS
    simp only [List.set_cons_zero, List.set_cons_succ] at hS
    unfold m68_4 m68_5
    refine ⟨rfl, mb, insX (⟨to, X[i].1.sure, X[i].1.loose⟩, X[i].2) ((X.eraseIdx i).filter (fun p => decide (p.1.name ≠ to))), ?_, ?_⟩
    · rw [insX_map, delX_map, erase_del hU hi hn, delX_map, hX, ← hn]
      rfl
    · rw [hroom]
      have q1 := hS.perm (List.Perm.cons _ ((List.Perm.swap _ _ _).trans (List.Perm.cons _ (List.Perm.cons _ (List.perm_append_comm_assoc [Res.cells b5 9 [.string to], Res.cells b4 9 [.string s], Res.cells b3 25 [ptr b]] ((X.eraseIdx i).map fileR) L)))))
      have q2 := q1.sub (List.Sublist.cons_cons _ (List.Sublist.cons_cons _ (List.Sublist.cons_cons _ (List.Sublist.append (List.Sublist.map fileR (List.filter_sublist (l := X.eraseIdx i) (p := fun p => decide (p.1.name ≠ to)))) (List.Sublist.refl _)))))
      exact q2.perm (List.Perm.cons _ (List.Perm.cons _ ((hp.map fileR).append_right _).symm))
  refine s68 _ _ _ _ ?_
  unfold Foc at *
  unfold m68 m68_0
  unfold m68_1
  refine valQ_load ld25 (hS.cell 5 rfl rfl) ?_
  refine nil_ok ?_
  refine valQ_ok (fa61_0 _) ?_
  refine valQ_load ld59 (hS.cell 0 rfl rfl) ?_
  refine valQ_load ld9 (hS.cell 3 rfl rfl) ?_
  refine valQ_at (fun n => ((hS.drewN n).mapT 2 rfl).lookup Tryz.underlying9 Tryz.underlying59 (zero63 _) (by unfold maxLen; omega)) ?_
  refine drawn_ok hS ?_
  clear hS
  intro w hS
  rcases look_X hU to with ⟨h1, h2, h3⟩ | ⟨j, hj, h1, h2, h3⟩
  · rw [h1]
    rw [hX] at h2
    unfold m68_6
    refine valP_ok (ne76n _ _ _) ?_
    refine cond_f rfl ?_
    refine pick_f (by first | rfl | assumption) ?_
    unfold m68_7
    refine cond_f rfl ?_
    exact fin _ w hS (by unfold renR; rw [h2])
  · rw [h1]
    rw [hX] at h2
    unfold m68_6
    refine valP_ok (ne76s _ _ _ _) ?_
    refine cond_t rfl ?_
    refine valP_ok (ld9 (hS.cell 4 rfl rfl)) ?_
    refine valP_ok (ld9 (hS.cell 3 rfl rfl)) ?_
    refine valP_ok (ne9 _ _ _ _ _) ?_
    refine pick_t (by first | rfl | assumption) ?_
    unfold m68_7
    refine cond_split (fun h4 => ?_) (fun h4 => ?_)
    · have hji : j ≠ i := fun e => by subst e; exact h4 (hn.symm.trans h3)
      have hjm : X[j].1 ∈ D.L := by rw [← burnt_L D, ← hX]; exact List.mem_map.2 ⟨_, List.getElem_mem hj, rfl⟩
      have hjs := hO.sz hjm
      have hjs' : X[j].1.sure.size + X[j].1.loose.size = X[j].1.sz := rfl
      have hbl := blk_le hjs
      have hmem : fileR X[j] ∈ (X.eraseIdx i).map fileR := by
        refine List.mem_map.2 ⟨X[j], ?_, rfl⟩
        rw [erase_del hU hi hn]
        exact List.mem_filter.2 ⟨List.getElem_mem hj, decide_eq_true (fun e => h4 (e.symm.trans h3))⟩
      obtain ⟨k, hk⟩ := List.mem_iff_getElem?.1 hmem
      have hkk : ∀ r, (dCell b (.map (some mb)) r (burnt D).fuse (burnt D).off :: fileR X[i] :: mapD mb X :: Res.cells b5 9 [.string to] :: Res.cells b4 9 [.string s] :: Res.cells b3 25 [ptr b] :: ((X.eraseIdx i).map fileR ++ L))[k + 6]? = some (fileR X[j]) := fun r => by
        rw [List.getElem?_cons_succ, List.getElem?_cons_succ, List.getElem?_cons_succ, List.getElem?_cons_succ, List.getElem?_cons_succ, List.getElem?_cons_succ]
        rw [List.getElem?_append_left (List.getElem?_eq_some_iff.1 hk).1]
        exact hk
      have hrm : (renR to X[i].1 (burnt D)).1.room = (burnt D).room + blk X[j].1.sz := by
        unfold renR
        rw [h2]
        simp only
        rw [if_neg (fun e => h4 (hn.symm.trans e))]
      refine drawn_ok hS ?_
      intro w hS
      refine held_Hs (hS.pick 6 [3, 4, 5] (by simp) (by decide)) ?_
      refine valJ_load ld25 (Hs.cell 2 rfl rfl) ?_
      refine nil_ok ?_
      refine valJ_ok (fa61_1 _) ?_
      refine ⟨?_, ?_⟩
      · refine valP_ok (ld3 (hS.cell 0 rfl rfl)) ?_
        refine stay_Hs (hS.pick 6 [3, 4, 5] (by simp) (by decide)) (fun _ h => h) ?_
        refine callR (by kernel_rfl) (size_ret (k + 6) (by omega) (hkk _) hS) ?_
        rintro _ w ⟨rfl, hS⟩
        refine stay_Hs (hS.pick 6 [3, 4, 5] (by simp) (by decide)) (fun _ h => h) ?_
        refine callR (by kernel_rfl) (blocks_ret (n := X[j].1.sz) (by omega) hS) ?_
        rintro _ w ⟨rfl, hS⟩
        refine stay_Hs (hS.pick 6 [3, 4, 5] (by simp) (by decide)) (fun _ h => h) ?_
        refine valJ_ok (add_ok _ _ _ (by omega) (by omega)) ?_
        refine nil_ok ?_
        refine valJ_ok (fa61_1 _) ?_
        refine store_at 0 st3 hS rfl (by simp) rfl ?_
        intro w hS
        simp only [List.set_cons_zero, List.set_cons_succ] at hS
        refine stay_Hs (hS.pick 6 [3, 4, 5] (by simp) (by decide)) (fun _ h => h) ?_
        exact fin _ _ hS hrm
      · refine callR (by kernel_rfl) (size_ret (k + 6) (by omega) (hkk _) hS) ?_
        rintro _ w ⟨rfl, hS⟩
        refine stay_Hs (hS.pick 6 [3, 4, 5] (by simp) (by decide)) (fun _ h => h) ?_
        refine ⟨?_, ?_⟩
        · refine valP_ok (ld3 (hS.cell 0 rfl rfl)) ?_
          refine stay_Hs (hS.pick 6 [3, 4, 5] (by simp) (by decide)) (fun _ h => h) ?_
          refine callR (by kernel_rfl) (blocks_ret (n := X[j].1.sz) (by omega) hS) ?_
          rintro _ w ⟨rfl, hS⟩
          refine stay_Hs (hS.pick 6 [3, 4, 5] (by simp) (by decide)) (fun _ h => h) ?_
          refine valJ_ok (add_ok _ _ _ (by omega) (by omega)) ?_
          refine nil_ok ?_
          refine valJ_ok (fa61_1 _) ?_
          refine store_at 0 st3 hS rfl (by simp) rfl ?_
          intro w hS
          simp only [List.set_cons_zero, List.set_cons_succ] at hS
          refine stay_Hs (hS.pick 6 [3, 4, 5] (by simp) (by decide)) (fun _ h => h) ?_
          exact fin _ _ hS hrm
        · refine callR (by kernel_rfl) (blocks_ret (n := X[j].1.sz) (by omega) hS) ?_
          rintro _ w ⟨rfl, hS⟩
          refine stay_Hs (hS.pick 6 [3, 4, 5] (by simp) (by decide)) (fun _ h => h) ?_
          refine valP_ok (ld3 (hS.cell 0 rfl rfl)) ?_
          refine stay_Hs (hS.pick 6 [3, 4, 5] (by simp) (by decide)) (fun _ h => h) ?_
          refine valJ_ok (add_ok _ _ _ (by omega) (by omega)) ?_
          refine nil_ok ?_
          refine valJ_ok (fa61_1 _) ?_
          refine store_at 0 st3 hS rfl (by simp) rfl ?_
          intro w hS
          simp only [List.set_cons_zero, List.set_cons_succ] at hS
          refine stay_Hs (hS.pick 6 [3, 4, 5] (by simp) (by decide)) (fun _ h => h) ?_
          exact fin _ _ hS hrm
    · refine fin _ w hS ?_
      unfold renR
      rw [h2]
      simp only
      rw [if_pos (hn.trans (Classical.not_not.1 h4))]
theorem rename_ret (hO : Ok size D) (hD : Dsk w0 F L b D w) : Ret Tryz.prog 28 #[ptr b, .string s, .string to] w fun v w' => v = .int .i64 (renD D s to).2 ∧ Dsk w0 F L b (renD D s to).1 w' := by
  obtain ⟨mb, X, hX, hS⟩ := hD
  refine s28 _ _ _ ?_
  unfold m28
  unfold m28_0
  refine new_ok (bx25 rfl _) hS ?_
  intro b3 w hS
  refine new_ok (bx9 rfl _) hS ?_
  intro b4 w hS
  refine new_ok (bx9 rfl _) hS ?_
  intro b5 w hS
  unfold m28_1
  refine valP_ok (ld25 (hS.cell 2 rfl rfl)) ?_
  refine valP_ok (ld9 (hS.cell 1 rfl rfl)) ?_
  refine valP_ok (ld9 (hS.cell 0 rfl rfl)) ?_
  refine newslice_ok (bs71_2 rfl rfl _) hS ?_
  intro b11 w hS
  refine callR (by kernel_rfl) (ready_ret (xs := [s, to]) 4 rfl (by simp) (Bes.of_cells 0 rfl rfl) hS) ?_
  rintro _ w ⟨rfl, hS⟩
  have hS := hS.tail
  unfold m28_4
  refine valP_ok (ne26 _ _ _ _ _) ?_
  unfold m28_5 renD
  have toD : ∀ w, St w0 F w (Res.cells b5 9 [.string to] :: Res.cells b4 9 [.string s] :: Res.cells b3 25 [ptr b] :: dCell b (.map (some mb)) D.room D.fuse D.off :: mapD mb X :: (X.map fileR ++ L)) → Dsk w0 F ([Res.cells b5 9 [.string to], Res.cells b4 9 [.string s], Res.cells b3 25 [ptr b]] ++ L) b D w := fun w hS => ⟨mb, X, hX, St.pushes (R := [Res.cells b5 9 [.string to], Res.cells b4 9 [.string s], Res.cells b3 25 [ptr b]]) (hS.pick 5 [3, 4, 0, 1, 2] (by simp) (by decide))⟩
  refine cond_split (fun h => ?_) (fun h => ?_)
  · unfold m28_6
    rw [if_neg h]
    exact ⟨rfl, Dsk.drop (toD _ hS)⟩
  · have h := Classical.not_not.1 h
    rw [if_pos h]
    obtain ⟨hn1, hn2, _⟩ := ready_two h
    unfold m28_2
    refine valP_ok (ld25 (hS.cell 2 rfl rfl)) ?_
    refine valP_ok (ld9 (hS.cell 1 rfl rfl)) ?_
    refine valP_ok (mf68 _ _ _ _) ?_
    refine callR (by kernel_rfl) (rename_work hO hn2.2.1 (toD _ hS)) ?_
    rintro _ w ⟨rfl, hD⟩
    unfold m28_3
    exact ⟨rfl, Dsk.drop hD⟩
end
end Go.Proofs.YtcldjjmfpmkldaaGreatDoor.M
namespace Go.Proofs
open Go.Shelf
def Tryz.keys30_ren : Go.Shelf.Ren := ⟨fun | 7 => 30 | 10 => 71 | n => n, fun | 23 => 59 | 26 => 9 | 3 => 76 | 28 => 74 | 0 => 0 | 27 => 73 | 33 => 64 | 4 => 4 | n => n, fun | n => n⟩
theorem Tryz.keys30 : Go.Proofs.SlLaysZ.n7 Tryz.prog Tryz.keys30_ren := {
  mixed := by kernel_rfl
  f7 := ⟨Tryz.f30.name, by decide, Tryz.func30.trans (congrArg some (by kernel_rfl))⟩
  f10 := ⟨Tryz.f71.name, by decide, Tryz.func71.trans (congrArg some (by kernel_rfl))⟩
  t0 := Tryz.underlying0
  a0 := Tryz.isAgg0
  z0 := Tryz.sizeOf0
  v0 := Tryz.zeroValue0
  t4 := Tryz.underlying4
  a4 := Tryz.isAgg4
  z4 := Tryz.sizeOf4
  v4 := Tryz.zeroValue4
  t23 := Tryz.underlying59
  a23 := Tryz.isAgg59
  z23 := Tryz.sizeOf59
  v23 := Tryz.zeroValue59
  t26 := Tryz.underlying9
  a26 := Tryz.isAgg9
  z26 := Tryz.sizeOf9
  v26 := Tryz.zeroValue9
  t27 := Tryz.underlying73
  a27 := Tryz.isAgg73
  z27 := Tryz.sizeOf73
  v27 := Tryz.zeroValue73
  t28 := Tryz.underlying74
  a28 := Tryz.isAgg74
  z28 := Tryz.sizeOf74
  v28 := Tryz.zeroValue74
  t33 := Tryz.underlying64
  a33 := Tryz.isAgg64
  z33 := Tryz.sizeOf64
  v33 := Tryz.zeroValue64 }
def Tryz.sorted29_ren : Go.Shelf.Ren := ⟨fun | 6 => 29 | 8 => 69 | 9 => 70 | 11 => 98 | 13 => 100 | 12 => 99 | 23 => 123 | 24 => 124 | 14 => 114 | 15 => 115 | 16 => 116 | 17 => 117 | 18 => 118 | 19 => 119 | 20 => 120 | 21 => 121 | 22 => 122 | 25 => 131 | 26 => 132 | 27 => 133 | 28 => 134 | 29 => 135 | 30 => 136 | 31 => 143 | n => n, fun | 26 => 9 | 28 => 74 | 24 => 71 | 0 => 0 | 3 => 3 | 37 => 126 | 48 => 129 | 50 => 117 | 4 => 4 | 40 => 158 | 39 => 157 | 45 => 163 | 5 => 5 | 9 => 9 | 51 => 171 | 55 => 175 | 57 => 184 | 58 => 185 | 33 => 64 | n => n, fun | n => n⟩
theorem Tryz.sorted29 : Go.Proofs.SlLaysZ.n6 Tryz.prog Tryz.sorted29_ren := {
  mixed := by kernel_rfl
  f6 := ⟨Tryz.f29.name, by decide, Tryz.func29.trans (congrArg some (by kernel_rfl))⟩
  f8 := ⟨Tryz.f69.name, by decide, Tryz.func69.trans (congrArg some (by kernel_rfl))⟩
  f11 := ⟨Tryz.f98.name, by decide, Tryz.func98.trans (congrArg some (by kernel_rfl))⟩
  t0 := Tryz.underlying0
  a0 := Tryz.isAgg0
  z0 := Tryz.sizeOf0
  v0 := Tryz.zeroValue0
  t24 := Tryz.underlying71
  a24 := Tryz.isAgg71
  z24 := Tryz.sizeOf71
  v24 := Tryz.zeroValue71
  t26 := Tryz.underlying9
  a26 := Tryz.isAgg9
  z26 := Tryz.sizeOf9
  v26 := Tryz.zeroValue9
  t28 := Tryz.underlying74
  a28 := Tryz.isAgg74
  z28 := Tryz.sizeOf74
  v28 := Tryz.zeroValue74
  i26 := by kernel_rfl }
def Tryz.sort70_ren : Go.Shelf.Ren := ⟨fun | 6 => 70 | 8 => 100 | 9 => 99 | 19 => 123 | 20 => 124 | 21 => 114 | 22 => 115 | 23 => 116 | 24 => 117 | 25 => 118 | 26 => 119 | 27 => 120 | 28 => 121 | 29 => 122 | 36 => 131 | 31 => 132 | 32 => 133 | 37 => 134 | 38 => 135 | 39 => 136 | 41 => 143 | n => n, fun | 27 => 71 | 29 => 9 | 3 => 3 | 32 => 126 | 26 => 71 | 0 => 0 | 44 => 129 | 46 => 117 | 4 => 4 | 36 => 158 | 35 => 157 | 41 => 163 | 5 => 5 | 9 => 9 | 53 => 171 | 57 => 175 | 63 => 184 | 64 => 185 | n => n, fun | n => n⟩
theorem Tryz.sort70 : Go.Proofs.SlLaysM.n6 Tryz.prog Tryz.sort70_ren := {
  mixed := by kernel_rfl
  f6 := ⟨Tryz.f70.name, by decide, Tryz.func70.trans (congrArg some (by kernel_rfl))⟩
  f8 := Tryz.func100.trans (congrArg some (by kernel_rfl))
  f9 := ⟨Tryz.f99.name, by decide, Tryz.func99.trans (congrArg some (by kernel_rfl))⟩
  f19 := Tryz.func123.trans (congrArg some (by kernel_rfl))
  f20 := Tryz.func124.trans (congrArg some (by kernel_rfl))
  f21 := ⟨Tryz.f114.name, by decide, Tryz.func114.trans (congrArg some (by kernel_rfl))⟩
  f22 := ⟨Tryz.f115.name, by decide, Tryz.func115.trans (congrArg some (by kernel_rfl))⟩
  f23 := ⟨Tryz.f116.name, by decide, Tryz.func116.trans (congrArg some (by kernel_rfl))⟩
  f24 := ⟨Tryz.f117.name, by decide, Tryz.func117.trans (congrArg some (by kernel_rfl))⟩
  f25 := ⟨Tryz.f118.name, by decide, Tryz.func118.trans (congrArg some (by kernel_rfl))⟩
  f26 := ⟨Tryz.f119.name, by decide, Tryz.func119.trans (congrArg some (by kernel_rfl))⟩
  f27 := ⟨Tryz.f120.name, by decide, Tryz.func120.trans (congrArg some (by kernel_rfl))⟩
  f28 := ⟨Tryz.f121.name, by decide, Tryz.func121.trans (congrArg some (by kernel_rfl))⟩
  f29 := ⟨Tryz.f122.name, by decide, Tryz.func122.trans (congrArg some (by kernel_rfl))⟩
  f31 := Tryz.func132.trans (congrArg some (by kernel_rfl))
  f32 := Tryz.func133.trans (congrArg some (by kernel_rfl))
  f36 := ⟨Tryz.f131.name, by decide, Tryz.func131.trans (congrArg some (by kernel_rfl))⟩
  f37 := ⟨Tryz.f134.name, by decide, Tryz.func134.trans (congrArg some (by kernel_rfl))⟩
  f38 := ⟨Tryz.f135.name, by decide, Tryz.func135.trans (congrArg some (by kernel_rfl))⟩
  f39 := ⟨Tryz.f136.name, by decide, Tryz.func136.trans (congrArg some (by kernel_rfl))⟩
  f41 := ⟨Tryz.f143.name, by decide, Tryz.func143.trans (congrArg some (by kernel_rfl))⟩
  t0 := Tryz.underlying0
  a0 := Tryz.isAgg0
  z0 := Tryz.sizeOf0
  v0 := Tryz.zeroValue0
  t3 := Tryz.underlying3
  a3 := Tryz.isAgg3
  z3 := Tryz.sizeOf3
  v3 := Tryz.zeroValue3
  t4 := Tryz.underlying4
  a4 := Tryz.isAgg4
  z4 := Tryz.sizeOf4
  v4 := Tryz.zeroValue4
  t5 := Tryz.underlying5
  a5 := Tryz.isAgg5
  z5 := Tryz.sizeOf5
  v5 := Tryz.zeroValue5
  t9 := Tryz.underlying9
  a9 := Tryz.isAgg9
  z9 := Tryz.sizeOf9
  v9 := Tryz.zeroValue9
  t26 := Tryz.underlying71
  a26 := Tryz.isAgg71
  z26 := Tryz.sizeOf71
  v26 := Tryz.zeroValue71
  t27 := Tryz.underlying71
  a27 := Tryz.isAgg71
  z27 := Tryz.sizeOf71
  v27 := Tryz.zeroValue71
  t29 := Tryz.underlying9
  a29 := Tryz.isAgg9
  z29 := Tryz.sizeOf9
  v29 := Tryz.zeroValue9
  t32 := Tryz.underlying126
  a32 := Tryz.isAgg126
  z32 := Tryz.sizeOf126
  v32 := Tryz.zeroValue126
  t35 := Tryz.underlying157
  a35 := Tryz.isAgg157
  z35 := Tryz.sizeOf157
  v35 := Tryz.zeroValue157
  t36 := Tryz.underlying158
  a36 := Tryz.isAgg158
  z36 := Tryz.sizeOf158
  v36 := Tryz.zeroValue158
  t41 := Tryz.underlying163
  a41 := Tryz.isAgg163
  z41 := Tryz.sizeOf163
  v41 := Tryz.zeroValue163
  t44 := Tryz.underlying129
  a44 := Tryz.isAgg129
  z44 := Tryz.sizeOf129
  v44 := Tryz.zeroValue129
  t46 := Tryz.underlying117
  a46 := Tryz.isAgg117
  z46 := Tryz.sizeOf117
  v46 := Tryz.zeroValue117
  t53 := Tryz.underlying171
  a53 := Tryz.isAgg171
  z53 := Tryz.sizeOf171
  v53 := Tryz.zeroValue171
  t57 := Tryz.underlying175
  a57 := Tryz.isAgg175
  z57 := Tryz.sizeOf175
  v57 := Tryz.zeroValue175
  t63 := Tryz.underlying184
  a63 := Tryz.isAgg184
  z63 := Tryz.sizeOf184
  v63 := Tryz.zeroValue184
  t64 := Tryz.underlying185
  a64 := Tryz.isAgg185
  z64 := Tryz.sizeOf185
  v64 := Tryz.zeroValue185 }
end Go.Proofs
namespace Go.Proofs
open Go.RowKit Go.Maps Go.Sort Go.Shelf
theorem Tryz.sorts29 (m : Nat) : AnyZ.SortsIn Tryz.prog Tryz.sorted29_ren Fence.wide m :=
  ⟨fun blk off cap ss W hH hblk hsz => callsIn_wide.2 (AnyM.slices_Sort_string Tryz.sort70 blk off cap ss W hH hblk hsz),
   fun p cap W => callsIn_wide.2 (AnyM.slices_Sort_string_none Tryz.sort70 p cap W)⟩
theorem Tryz.maps_Keys_30 (mb : Option Nat) (W : World) : CallsIn Fence.wide 5 Tryz.prog 30 #[.map mb] W fun e w' => e = .returned (.func (.func 71) #[] #[.pointer (some ⟨W.heap.size, 0, none⟩)]) ∧ w' = W.alloc (.cells #[.map mb] 59) :=
  AnyZ.keys_in Tryz.keys30 Fence.wide 5 trivial rfl mb W
set_option maxHeartbeats 1000000 in
theorem Tryz.slices_Sorted_keys_29_30 {H : Type} (b nn : Nat) (D0 : DataW H) (R : Value → Option (DataW H × List MemPlace)) (w : World) (hown : w.ownsMap Tryz.prog 9 R b nn D0) (hmax : Maps.size D0 ≤ maxLen) (hbytes : Maps.size D0 * 16 ≤ 140737488355328) :
    CallsIn Fence.wide 5 Tryz.prog 29 #[.func (.func 71) #[] #[.pointer (some ⟨w.heap.size, 0, none⟩)]] (w.alloc (.cells #[.map (some b)] 59)) fun e w' => ∃ (v : Value) (ss : List (List UInt8)), e = .returned v ∧ ss.Perm (strKeys D0) ∧
      w'.ownsRow (w.alloc (.cells #[.map (some b)] 59)).heap.size 9 1 v ss.length ((ss.mergeSort (fun x y => decide (x ≤ y))).map encStr) ∧ (v = .slice none 0 0 ↔ ss = []) ∧ Below (w.alloc (.cells #[.map (some b)] 59)).heap.size (w.alloc (.cells #[.map (some b)] 59)) w' := by
  have hbl := hown.lt
  have hseq : SeqGives Fence.wide 2 Tryz.prog 71 #[.pointer (some ⟨w.heap.size, 0, none⟩)] encStr (fun ss => ss.Perm (strKeys D0)) (Maps.size D0) (w.alloc (.cells #[.map (some b)] 59)) :=
    AnyZ.keys_gives (ρ := Tryz.keys30_ren) { Tryz.keys30 with } Fence.wide _ trivial rfl (by omega) w.heap.size b nn D0 _ (by simp) (by simp) (by
      obtain ⟨es, clock, hb, Ft, hs, hD⟩ := hown
      exact ⟨es, clock, (Below.heap_alloc _ _ b hbl).trans hb, Ft, hs, hD⟩)
  exact AnyZ.sorted_in Tryz.sorted29 Fence.wide 5 trivial trivial trivial trivial rfl (by omega) (Tryz.sorts29 _) (enters_of Tryz.func70 (by kernel_rfl) rfl) 71 #[.pointer (some ⟨w.heap.size, 0, none⟩)] trivial (enters_of Tryz.func71 (by kernel_rfl) rfl) _ _ hmax hbytes _ hseq
end Go.Proofs
namespace Go.Proofs.YtcldjjmfpmkldaaGreatDoor.M
open Go.Proofs.YtcldjjmfpmkldaaGreatDoor.F Go.RowKit
set_option linter.unusedVariables false
set_option linter.unusedSimpArgs false
set_option maxRecDepth 100000
set_option maxHeartbeats 2000000
attribute [local irreducible] Res.cells Res.row Res.map Res.any World.cell? World.frozen? Instr.fieldAt Instr.loadAt Instr.storeAt Instr.indexAt Instr.lookup Instr.mapUpdate Instr.box Instr.build Instr.buildSlice Instr.extract Instr.alloc Instr.field Instr.index Instr.sliceAt Instr.makeSlice Instr.makeMap Instr.makeFunc binS Op.unary Sem.run
abbrev nRow (A : Option Addr) (c : Nat) (l : List ByteArray) : Res := Res.row 9 1 (.slice A l.length c) l.length (l.map Value.string)
abbrev encFl (f : Fl) : List Value := [.string f.name, .string f.sure, .string f.loose]
abbrev flRow (A : Option Addr) (c : Nat) (l : List Fl) : Res := Res.row 67 3 (.slice A l.length c) l.length (l.flatMap encFl)
theorem encFl_len : ∀ g, (encFl g).length = 3 := fun _ => rfl
theorem encFl_one : ∀ x, ∀ u ∈ encFl x, u.oneCell' = true := fun x u hu => by
  simp only [List.mem_cons, List.not_mem_nil, or_false] at hu
  rcases hu with rfl | rfl | rfl <;> rfl
abbrev names (l : List Fl) : List ByteArray := l.map Fl.name
section
variable {w0 w : World} {F : List Nat} {L : List Res} {K : Value → World → Prop}
theorem sorted_ok (k : Nat) {mb : Nat} {X : List (Fl × Nat)} (hU : UpL (X.map Prod.fst)) (hX : X.length ≤ 256) (hS : St w0 F w L) (hk : L[k]? = some (mapD mb X)) (h : ∀ A c w', St w0 F w' (nRow A c (names (X.map Prod.fst)) :: L) → K (.slice A (names (X.map Prod.fst)).length c) w') : callP Tryz.prog (fnV 30) #[.map (some mb)] w fun t w => callP Tryz.prog (fnV 29) #[t] w K := by
  obtain ⟨es, h1, h2, h3, h4⟩ := hS.mapT k hk
  refine call_ok (by kernel_rfl) (Calls.mono (callsIn_wide.1 (Tryz.maps_Keys_30 (some mb) w)) fun e w1 ⟨he, hw⟩ => ⟨_, he, ?_⟩)
  subst hw
  have hlen : es.length = X.length := by rw [h2.length_eq, List.length_map, List.length_map]
  have hsz : Go.Maps.size (DataW.map es) = X.length := hlen
  refine call_ok (by kernel_rfl) (Calls.mono (callsIn_wide.1 (Tryz.slices_Sorted_keys_29_30 mb _ (.map es) PtrE w h1 (by rw [hsz]; unfold maxLen; omega) (by rw [hsz]; omega))) fun e w2 ⟨v, ss, he, hp, hrow, _, hb⟩ => ⟨v, he, ?_⟩)
  have hS1 := (hS.alloc 59 [.map (some mb)]).tail
  generalize w.alloc (.cells [Value.map (some mb)].toArray 59) = w1 at *
  have hp2 : ss.Perm ((X.map nb).map fun p => lst p.1) := by
    refine hp.trans ?_
    have := h2.map (fun p => strOf p.1)
    rw [List.map_map] at this
    exact this
  rw [sorted_keys (up_nb hU) hp2] at hrow
  have e1 : ((X.map nb).map fun p => lst p.1).map encStr = (names (X.map Prod.fst)).map Value.string := by
    simp only [names, List.map_map]
    refine List.map_congr_left fun p _ => ?_
    simp only [Function.comp_apply, encStr, lst]
  have e2 : ss.length = (names (X.map Prod.fst)).length := by
    rw [hp2.length_eq]
    simp [names]
  rw [e1, e2] at hrow
  have hS2 := hS1.row_add (Chg.of_below hb _) hrow
  obtain ⟨A, c, rfl, _⟩ := hS2.row_form 0 rfl
  exact h A c w2 hS2
theorem names_get {X : List (Fl × Nat)} {i : Nat} (hi : i < X.length) : ((names (X.map Prod.fst)).map Value.string)[i]? = some (.string X[i].1.name) := by
  simp [names, hi]
theorem files_ret {b : Nat} {D : Dk} {size : Nat} (hO : Ok size D) (hD : Dsk w0 F L b D w) : Ret Tryz.prog 24 #[ptr b] w fun v w' => ∃ A c, v = .slice A D.L.length c ∧ Dsk w0 F (flRow A c D.L :: L) b D w' := by
  obtain ⟨mb, X, hX, hS⟩ := hD
  have hU : UpL (X.map Prod.fst) := hX ▸ hO.up
  have hlen : X.length = D.L.length := by rw [← hX, List.length_map]
  have hl := hO.len
  have hnd := (up_nb hU).nd
  refine s24 _ ?_
  unfold m24 m24_0 m24_1
  have hS := hS.row_nil 67 3
  unfold m24_2
  refine valP_ok (eq25s _ _ _ _) ?_
  unfold m24_13
  refine cond_f rfl ?_
  unfold m24_3
  refine nil_ok ?_
  refine valP_ok (fa61_0 _ _) ?_
  refine valP_ok (ld59 (hS.cell 1 rfl rfl)) ?_
  refine sorted_ok 2 hU (by omega) hS rfl ?_
  clear hS
  intro An cn w hS
  have hnl : (names (X.map Prod.fst)).length = X.length := by simp [names]
  refine builtin_ok (len71 _) ?_
  rw [hnl]
  unfold m24_6
  refine loop_in (fun u w' => ∃ (i : Nat) (A : Option Addr) (c : Nat), u = (.slice A ((X.map Prod.fst).take i).length c, .int .i64 (i : Int)) ∧ i ≤ X.length ∧ St w0 F w' (flRow A c ((X.map Prod.fst).take i) :: nRow An cn (names (X.map Prod.fst)) :: dCell b (.map (some mb)) D.room D.fuse D.off :: mapD mb X :: (X.map fileR ++ L))) (fun u _ => X.length - (intOf u.2).toNat) ⟨0, none, 0, rfl, by omega, hS.perm (.swap _ _ _)⟩ ?_
  clear hS
  rintro u w ⟨i, A, c, rfl, hi, hS⟩
  simp only
  have hti : ((X.map Prod.fst).take i).length = i := by rw [List.length_take, List.length_map]; omega
  unfold m24_7
  refine valP_ok (lss_ok _ _ _ _ _ _ _) ?_
  unfold m24_8
  refine cond_split (fun h => ?_) (fun h => ?_)
  · have hil : i < X.length := by omega
    have hnx : (X.map Prod.fst).take (i + 1) = (X.map Prod.fst).take i ++ [X[i].1] := by
      rw [List.take_succ_eq_append_getElem (by simpa using hil)]
      simp
    have hns : X[i].1.name.size ≤ 24 := hO.names _ (by rw [← hX]; exact List.mem_map.2 ⟨_, List.getElem_mem hil, rfl⟩)
    have hfind : Assoc.find (X.map nb) X[i].1.name = some X[i].2 := Assoc.find_mem hnd (q := nb X[i]) (List.mem_map.2 ⟨_, List.getElem_mem hil, rfl⟩)
    have hrow : (flRow A c ((X.map Prod.fst).take i) :: nRow An cn (names (X.map Prod.fst)) :: dCell b (.map (some mb)) D.room D.fuse D.off :: mapD mb X :: (X.map fileR ++ L))[1]? = some (nRow An cn (names (X.map Prod.fst))) := rfl
    have hR : Rd w 1 An (names (X.map Prod.fst)).length ((names (X.map Prod.fst)).map Value.string) := hS.row_rd 1 hrow
    obtain ⟨gn, on, rfl⟩ := hR.some_ (by omega) (by omega)
    unfold m24_9
    refine valP_ok (ix71 hil _) ?_
    refine valP_ok (ld9 (hR.cell_ (names_get hil))) ?_
    unfold m24_11
    refine nil_ok ?_
    refine valP_ok (fa61_0 _ _) ?_
    refine valP_ok (ld59 (hS.cell 2 rfl rfl)) ?_
    refine valP_ok ((hS.mapT 3 rfl).lookup Tryz.underlying9 Tryz.underlying59 (zero63 _) (by unfold maxLen; omega)) ?_
    rw [hfind]
    unfold m24_12
    refine drawn_ok hS ?_
    intro w hS
    refine held_Hs (hS.pick 2 [1] (by simp) (by decide)) ?_
    have hfa : (nRow (some ⟨gn, on, none⟩) cn (names (X.map Prod.fst)) :: dCell b (.map (some mb)) D.room D.fuse D.off :: mapD mb X :: (X.map fileR ++ L))[i + 3]? = some (fileR X[i]) := by
      rw [List.getElem?_cons_succ]
      exact fileAt hil L _ _
    refine nil_ok ?_
    refine valJ_ok (fun w => fa78_0 _ _) ?_
    refine valJ_load ld9 (Hs.cell (i + 3) hfa (i := 0) rfl) ?_
    refine nil_ok ?_
    refine valJ_ok (fun w => fa78_1 _ _) ?_
    refine valJ_load ld9 (Hs.cell (i + 3) hfa (i := 1) rfl) ?_
    refine valJ_ok (bd67_0_1_2 rfl rfl rfl) ?_
    refine newslice_ok (bs39_1 _) hS ?_
    intro b38 w hS
    refine stay_Hs (hS.pick 3 [2] (by simp) (by decide)) (fun _ h => h) ?_
    refine append_one1 (enc := encFl) 0 X[i].1 sl39 encFl_len encFl_one (by unfold maxLen; omega) (by omega) hS rfl ?_
    intro A' c' w hS
    simp only [List.set_cons_zero] at hS
    refine stay_Hs (hS.pick 2 [1] (by simp) (by decide)) (fun _ h => h) ?_
    unfold m24_10
    refine valP_ok (add_ok _ _ _ (by omega) (by omega) _) ?_
    rw [← hnx] at hS ⊢
    exact ⟨⟨i + 1, A', c', rfl, by omega, hS⟩, by simp [intOf]; omega⟩
  · obtain rfl : i = X.length := by omega
    have e : (X.map Prod.fst).take X.length = D.L := by rw [← hX, List.take_of_length_le (by simp)]
    rw [e] at hS ⊢
    unfold m24_4 m24_5
    exact ⟨A, c, rfl, mb, X, hX, St.push ((hS.pick 4 [0, 2, 3] (by simp) (by decide)))⟩
end
def kN (keep : List Int) (i n : Nat) : Nat := if h : i < keep.length then (max 0 (min keep[i] (n : Int))).toNat else 0
def crOne (keep : List Int) (i : Nat) (f : Fl) : Fl := ⟨f.name, f.sure ++ f.loose.extract 0 (kN keep i f.loose.size), ⟨#[]⟩⟩
def crs (keep : List Int) (l : List Fl) : Nat → List Fl
  | 0 => l
  | i + 1 => if h : i < (crs keep l i).length then (crs keep l i).set i (crOne keep i (crs keep l i)[i]) else crs keep l i
def crashD (D : Dk) (keep : List Int) : Dk := ⟨crs keep D.L D.L.length, D.room + used D.L - used (crs keep D.L D.L.length), -1, false⟩
theorem kN_le (keep : List Int) (i n : Nat) : kN keep i n ≤ n := by
  unfold kN
  split <;> omega
theorem crs_len (keep : List Int) (l : List Fl) : ∀ i, (crs keep l i).length = l.length
  | 0 => rfl
  | i + 1 => by
    unfold crs
    split
    · rw [List.length_set, crs_len keep l i]
    · exact crs_len keep l i
theorem crs_names (keep : List Int) (l : List Fl) : ∀ i, names (crs keep l i) = names l
  | 0 => rfl
  | i + 1 => by
    have ih := crs_names keep l i
    unfold crs
    split
    · rename_i h
      unfold names at *
      rw [List.map_set, ← ih]
      have : (crOne keep i (crs keep l i)[i]).name = ((crs keep l i).map Fl.name)[i]'(by simpa using h) := by simp [crOne]
      rw [this, List.set_getElem_self]
    · exact ih
theorem crs_get (keep : List Int) (l : List Fl) : ∀ i j (hj : j < (crs keep l i).length) (hj2 : j < l.length), (crs keep l i)[j] = if j < i then crOne keep j l[j] else l[j]
  | 0, j, hj, hj2 => by rw [if_neg (by omega)]; rfl
  | i + 1, j, hj, hj2 => by
    have hl := crs_len keep l i
    have e : crs keep l (i + 1) = if h : i < (crs keep l i).length then (crs keep l i).set i (crOne keep i (crs keep l i)[i]) else crs keep l i := rfl
    by_cases h : i < (crs keep l i).length
    · rw [dif_pos h] at e
      simp only [e]
      rw [List.getElem_set]
      have ih1 := crs_get keep l i i h (by omega)
      have ih2 := crs_get keep l i j (by omega) hj2
      split
      · rename_i e2
        subst e2
        rw [ih1, if_neg (by omega), if_pos (by omega)]
      · rename_i e2
        rw [ih2]
        by_cases g : j < i
        · rw [if_pos g, if_pos (by omega)]
        · rw [if_neg g, if_neg (by omega)]
    · rw [dif_neg h] at e
      simp only [e]
      have ih2 := crs_get keep l i j (by omega) hj2
      rw [ih2, if_pos (by omega), if_pos (by omega)]
theorem used_set {l : List Fl} {i : Nat} (hi : i < l.length) (f : Fl) : used (l.set i f) + blk l[i].sz = used l + blk f.sz := by
  induction l generalizing i with
  | nil => simp at hi
  | cons q l ih =>
    cases i with
    | zero =>
      simp only [List.set_cons_zero, used, List.map_cons, List.sum_cons, List.getElem_cons_zero]
      omega
    | succ i =>
      have h2 := ih (i := i) (by simpa using hi)
      simp only [List.set_cons_succ, used, List.map_cons, List.sum_cons, List.getElem_cons_succ] at h2 ⊢
      omega
theorem names_up {l l' : List Fl} (h : names l = names l') (hU : UpL l) : UpL l' := by
  have h1 : UpL l ↔ (names l).Pairwise (fun a b => lst a < lst b) := by unfold UpL names; rw [List.pairwise_map]
  have h2 : UpL l' ↔ (names l').Pairwise (fun a b => lst a < lst b) := by unfold UpL names; rw [List.pairwise_map]
  rw [h2, ← h, ← h1]
  exact hU
section
variable {w0 w : World} {F : List Nat} {L : List Res} {b : Nat} {D : Dk} {size : Nat}
theorem crash_ret {keep : List Int} {A : Option Addr} {c : Nat} (hk : keep.length ≤ 1000000) (hO : Ok size D) (hE : Bes w0 F L 1 A keep.length (keep.map (Value.int .i64))) (hD : Dsk w0 F L b D w) : Ret Tryz.prog 9 #[ptr b, .slice A keep.length c] w fun v w' => Dsk w0 F L b (crashD D keep) w' := by
  obtain ⟨mb, X0, hX0, hS⟩ := hD
  have hU0 : UpL (X0.map Prod.fst) := hX0 ▸ hO.up
  have hlen0 : X0.length = D.L.length := by rw [← hX0, List.length_map]
  have hl := hO.len
  have hroom := hO.room
  have hsize := hO.size
  have hsum := hO.sum
  refine s9 _ _ ?_
  unfold m9
  unfold m9_0
  refine valP_ok (eq25s _ _ _ _) ?_
  unfold m9_15
  refine cond_f rfl ?_
  unfold m9_1
  refine nil_ok ?_
  refine valP_ok (fa61_0 _ _) ?_
  refine valP_ok (ld59 (hS.cell 0 rfl rfl)) ?_
  refine sorted_ok 1 hU0 (by omega) hS rfl ?_
  clear hS
  intro An cn w hS
  have hnn : names (X0.map Prod.fst) = names D.L := by rw [hX0]
  rw [hnn] at hS ⊢
  have hnl : (names D.L).length = D.L.length := by simp [names]
  refine builtin_ok (len71 _) ?_
  unfold m9_3
  refine loop_in (fun u w' => ∃ (i : Nat) (X : List (Fl × Nat)), u = .int .i64 (i : Int) ∧ i ≤ D.L.length ∧ X.map Prod.fst = crs keep D.L i ∧ St w0 F w' (dCell b (.map (some mb)) (D.room + used D.L - used (crs keep D.L i)) D.fuse D.off :: mapD mb X :: (X.map fileR ++ (nRow An cn (names D.L) :: L)))) (fun u _ => D.L.length - (intOf u).toNat) ⟨0, X0, rfl, by omega, hX0, by
    have := St.push hS
    simp only [crs]
    rw [show D.room + (used D.L : Int) - used D.L = D.room by omega]
    exact this⟩ ?_
  clear hS hlen0 hU0 hX0 hnn
  rintro u w ⟨i, X, rfl, hi, hX, hS⟩
  have hcl := crs_len keep D.L i
  have hXl : X.length = D.L.length := by rw [← hcl, ← hX, List.length_map]
  have hU : UpL (X.map Prod.fst) := names_up (by rw [hX, crs_names]) hO.up
  unfold m9_4
  refine valP_ok (lss_ok _ _ _ _ _ _ _) ?_
  unfold m9_5
  refine cond_split (fun h => ?_) (fun h => ?_)
  · have hil : i < X.length := by omega
    have hiD : i < D.L.length := by omega
    have hic : i < (crs keep D.L i).length := by omega
    have hXi : X[i].1 = D.L[i] := by
      have h1 := crs_get keep D.L i i hic hiD
      rw [if_neg (by omega)] at h1
      rw [← h1]
      have : (X.map Prod.fst)[i]'(by simpa using hil) = X[i].1 := by simp
      rw [← this]
      simp only [hX]
    have hXc : (crs keep D.L i)[i] = D.L[i] := by
      have h1 := crs_get keep D.L i i hic hiD
      rw [if_neg (by omega)] at h1
      exact h1
    have hfm : D.L[i] ∈ D.L := List.getElem_mem hiD
    have hns : X[i].1.name.size ≤ 24 := by rw [hXi]; exact hO.names _ hfm
    have hsz := hO.sz hfm
    have hsz' : D.L[i].sure.size + D.L[i].loose.size = D.L[i].sz := rfl
    have hfind : Assoc.find (X.map nb) X[i].1.name = some X[i].2 := Assoc.find_mem (up_nb hU).nd (q := nb X[i]) (List.mem_map.2 ⟨_, List.getElem_mem hil, rfl⟩)
    have hnm : ((names D.L).map Value.string)[i]? = some (.string X[i].1.name) := by
      rw [hXi]
      simp [names, hiD]
    have hR : Rd w 1 An (names D.L).length ((names D.L).map Value.string) := by
      have h1 : (nRow An cn (names D.L)) ∈ (dCell b (.map (some mb)) (D.room + used D.L - used (crs keep D.L i)) D.fuse D.off :: mapD mb X :: (X.map fileR ++ (nRow An cn (names D.L) :: L))) := .tail _ (.tail _ (List.mem_append_right _ (.head _)))
      obtain ⟨k, hk⟩ := List.mem_iff_getElem?.1 h1
      exact hS.row_rd k hk
    obtain ⟨gn, on, rfl⟩ := hR.some_ (by omega) (by omega)
    unfold m9_6
    refine valP_ok (ix71 (by omega) _) ?_
    refine valP_ok (ld9 (hR.cell_ hnm)) ?_
    unfold m9_8
    refine nil_ok ?_
    refine valP_ok (fa61_0 _ _) ?_
    refine valP_ok (ld59 (hS.cell 0 rfl rfl)) ?_
    refine valP_ok ((hS.mapT 1 rfl).lookup Tryz.underlying9 Tryz.underlying59 (zero63 _) (by unfold maxLen; omega)) ?_
    rw [hfind]
    have hS := St.focus hil hS
    have hu2 := used_set hic (crOne keep i D.L[i])
    have hu3 : used (crs keep D.L (i + 1)) + blk D.L[i].sz = used (crs keep D.L i) + blk (crOne keep i D.L[i]).sz := by
      have e : crs keep D.L (i + 1) = if h : i < (crs keep D.L i).length then (crs keep D.L i).set i (crOne keep i (crs keep D.L i)[i]) else crs keep D.L i := rfl
      rw [e, dif_pos hic, hXc]
      rw [hXc] at hu2
      exact hu2
    have hcrL : crs keep D.L (i + 1) = (X.set i (crOne keep i D.L[i], X[i].2)).map Prod.fst := by
      have e : crs keep D.L (i + 1) = if h : i < (crs keep D.L i).length then (crs keep D.L i).set i (crOne keep i (crs keep D.L i)[i]) else crs keep D.L i := rfl
      rw [e, dif_pos hic, hXc, List.map_set, hX]
    have hbl := blk_le hsz
    have hkn := kN_le keep i D.L[i].loose.size
    have hfz : (D.L[i].sure ++ D.L[i].loose.extract 0 (kN keep i D.L[i].loose.size)).size = D.L[i].sure.size + kN keep i D.L[i].loose.size := by rw [ByteArray.size_append, ext_size _ _ _ hkn]; omega
    have hcz : (crOne keep i D.L[i]).sz = D.L[i].sure.size + kN keep i D.L[i].loose.size := by
      show (D.L[i].sure ++ D.L[i].loose.extract 0 (kN keep i D.L[i].loose.size)).size + (⟨#[]⟩ : ByteArray).size = _
      rw [hfz]
      rfl
    have hbl2 := blk_le (n := (crOne keep i D.L[i]).sz) (by omega)
    have hui : (used (crs keep D.L i) : Int) ≤ D.room + used D.L := by
      have h1 : ∀ j, used (crs keep D.L j) ≤ used D.L := fun j => by
        induction j with
        | zero => exact Nat.le_refl _
        | succ j ih =>
          by_cases hj : j < (crs keep D.L j).length
          · have e : crs keep D.L (j + 1) = (crs keep D.L j).set j (crOne keep j (crs keep D.L j)[j]) := dif_pos hj
            have h2 := used_set hj (crOne keep j (crs keep D.L j)[j])
            rw [← e] at h2
            have h3 : blk (crOne keep j (crs keep D.L j)[j]).sz ≤ blk (crs keep D.L j)[j].sz := by
              have hkj := kN_le keep j (crs keep D.L j)[j].loose.size
              have : (crOne keep j (crs keep D.L j)[j]).sz ≤ (crs keep D.L j)[j].sz := by
                show ((crs keep D.L j)[j].sure ++ (crs keep D.L j)[j].loose.extract 0 (kN keep j (crs keep D.L j)[j].loose.size)).size + (⟨#[]⟩ : ByteArray).size ≤ (crs keep D.L j)[j].sure.size + (crs keep D.L j)[j].loose.size
                rw [ByteArray.size_append, ext_size _ _ _ hkj, show (⟨#[]⟩ : ByteArray).size = 0 from rfl]
                omega
              unfold blk
              omega
            omega
          · have e : crs keep D.L (j + 1) = crs keep D.L j := dif_neg hj
            rw [e]
            exact ih
      have := h1 i
      omega
    have last : ∀ w K1, St w0 F w (dCell b (.map (some mb)) (D.room + used D.L - used (crs keep D.L (i + 1))) D.fuse D.off :: fileR (crOne keep i D.L[i], X[i].2) :: mapD mb X :: ((X.eraseIdx i).map fileR ++ (nRow (some ⟨gn, on, none⟩) cn (names D.L) :: L))) → (∀ w' X', X'.map Prod.fst = crs keep D.L (i + 1) → St w0 F w' (dCell b (.map (some mb)) (D.room + used D.L - used (crs keep D.L (i + 1))) D.fuse D.off :: mapD mb X' :: (X'.map fileR ++ (nRow (some ⟨gn, on, none⟩) cn (names D.L) :: L))) → K1 (.int .i64 ((i + 1 : Nat) : Int)) w') → m9_7 (fun v w' => Dsk w0 F L b (crashD D keep) w') K1 (ptr b) (.slice A keep.length c) (.slice (some ⟨gn, on, none⟩) (names D.L).length cn) (.int .i64 ((names D.L).length : Int)) (.int .i64 (i : Int)) w := fun w K1 hS hK => by
      unfold m9_7
      refine valP_ok (add_ok _ _ _ (by omega) (by omega) _) ?_
      have h1 := St.unfocus hil (crOne keep i D.L[i], X[i].2) hS
      have hnb := nb_set (f' := crOne keep i D.L[i]) hil (by rw [hXi]; rfl)
      have hmap : mapD mb X = mapD mb (X.set i (crOne keep i D.L[i], X[i].2)) := by unfold mapD; rw [hnb]
      rw [hmap] at h1
      exact hK w _ hcrL.symm h1
    have main : ∀ w K1, St w0 F w (dCell b (.map (some mb)) (D.room + used D.L - used (crs keep D.L i)) D.fuse D.off :: fileR X[i] :: mapD mb X :: ((X.eraseIdx i).map fileR ++ (nRow (some ⟨gn, on, none⟩) cn (names D.L) :: L))) → (∀ w' X', X'.map Prod.fst = crs keep D.L (i + 1) → St w0 F w' (dCell b (.map (some mb)) (D.room + used D.L - used (crs keep D.L (i + 1))) D.fuse D.off :: mapD mb X' :: (X'.map fileR ++ (nRow (some ⟨gn, on, none⟩) cn (names D.L) :: L))) → K1 (.int .i64 ((i + 1 : Nat) : Int)) w') → m9_11 (fun v w' => Dsk w0 F L b (crashD D keep) w') K1 (ptr b) (.slice A keep.length c) (ptr X[i].2) (.int .i64 (kN keep i D.L[i].loose.size : Int)) (.slice (some ⟨gn, on, none⟩) (names D.L).length cn) (.int .i64 ((names D.L).length : Int)) (.int .i64 (i : Int)) w := fun w K1 hS hK => by
      rw [show fileR X[i] = fCell X[i].2 D.L[i].sure D.L[i].loose by unfold fileR; rw [hXi]] at hS
      have t3 : ∀ w, St w0 F w (dCell b (.map (some mb)) (D.room + used D.L - used (crs keep D.L i) + blk D.L[i].sz) D.fuse D.off :: fileR (crOne keep i D.L[i], X[i].2) :: mapD mb X :: ((X.eraseIdx i).map fileR ++ (nRow (some ⟨gn, on, none⟩) cn (names D.L) :: L))) → m9_13 (fun v w' => Dsk w0 F L b (crashD D keep) w') K1 (ptr b) (.slice A keep.length c) (ptr X[i].2) (.slice (some ⟨gn, on, none⟩) (names D.L).length cn) (.int .i64 ((names D.L).length : Int)) (.int .i64 (i : Int)) w := fun w hS => by
        have e3 : D.room + used D.L - used (crs keep D.L i) + blk D.L[i].sz - blk (crOne keep i D.L[i]).sz = D.room + used D.L - used (crs keep D.L (i + 1)) := by omega
        unfold m9_13
        refine drawn_ok hS ?_
        intro w hS
        refine nil_ok ?_
        refine pureP_ok (fa61_1 _) ?_
        refine ⟨?_, ?_⟩
        · refine valP_ok (ld3 (hS.cell 0 rfl rfl)) ?_
          refine callR (by kernel_rfl) (size_ret (g := X[i].2) (a := (crOne keep i D.L[i]).sure) (c := (crOne keep i D.L[i]).loose) 1 (by have := hcz; unfold Fl.sz at this; omega) rfl hS) ?_
          rintro _ w ⟨rfl, hS⟩
          refine callR (by kernel_rfl) (blocks_ret (n := (crOne keep i D.L[i]).sz) (by omega) hS) ?_
          rintro _ w ⟨rfl, hS⟩
          refine pureP_ok (sub_ok _ _ _ (by omega) (by omega)) ?_
          refine nil_ok ?_
          refine pureP_ok (fa61_1 _) ?_
          refine store_at 0 st3 hS rfl (by simp) rfl ?_
          intro w hS
          simp only [List.set_cons_zero, List.set_cons_succ] at hS
          rw [e3] at hS
          exact last _ _ hS hK
        · refine callR (by kernel_rfl) (size_ret (g := X[i].2) (a := (crOne keep i D.L[i]).sure) (c := (crOne keep i D.L[i]).loose) 1 (by have := hcz; unfold Fl.sz at this; omega) rfl hS) ?_
          rintro _ w ⟨rfl, hS⟩
          refine ⟨?_, ?_⟩
          · refine valP_ok (ld3 (hS.cell 0 rfl rfl)) ?_
            refine callR (by kernel_rfl) (blocks_ret (n := (crOne keep i D.L[i]).sz) (by omega) hS) ?_
            rintro _ w ⟨rfl, hS⟩
            refine pureP_ok (sub_ok _ _ _ (by omega) (by omega)) ?_
            refine nil_ok ?_
            refine pureP_ok (fa61_1 _) ?_
            refine store_at 0 st3 hS rfl (by simp) rfl ?_
            intro w hS
            simp only [List.set_cons_zero, List.set_cons_succ] at hS
            rw [e3] at hS
            exact last _ _ hS hK
          · refine callR (by kernel_rfl) (blocks_ret (n := (crOne keep i D.L[i]).sz) (by omega) hS) ?_
            rintro _ w ⟨rfl, hS⟩
            refine valP_ok (ld3 (hS.cell 0 rfl rfl)) ?_
            refine pureP_ok (sub_ok _ _ _ (by omega) (by omega)) ?_
            refine nil_ok ?_
            refine pureP_ok (fa61_1 _) ?_
            refine store_at 0 st3 hS rfl (by simp) rfl ?_
            intro w hS
            simp only [List.set_cons_zero, List.set_cons_succ] at hS
            rw [e3] at hS
            exact last _ _ hS hK
      have t2 : ∀ w, St w0 F w (dCell b (.map (some mb)) (D.room + used D.L - used (crs keep D.L i) + blk D.L[i].sz) D.fuse D.off :: fCell X[i].2 D.L[i].sure D.L[i].loose :: mapD mb X :: ((X.eraseIdx i).map fileR ++ (nRow (some ⟨gn, on, none⟩) cn (names D.L) :: L))) → m9_12 (fun v w' => Dsk w0 F L b (crashD D keep) w') K1 (ptr b) (.slice A keep.length c) (ptr X[i].2) (.int .i64 (kN keep i D.L[i].loose.size : Int)) (.slice (some ⟨gn, on, none⟩) (names D.L).length cn) (.int .i64 ((names D.L).length : Int)) (.int .i64 (i : Int)) w := fun w hS => by
        have hadd : D.L[i].sure.size + (D.L[i].loose.extract 0 (kN keep i D.L[i].loose.size)).size ≤ 9223372036854775807 := by rw [ext_size _ _ _ hkn]; omega
        unfold m9_12
        refine drawn_ok hS ?_
        intro w hS
        refine nil_ok ?_
        refine pureP_ok (fa78_0 _) ?_
        refine nil_ok ?_
        refine pureP_ok (fa78_1 _) ?_
        refine ⟨?_, ?_⟩
        · refine valP_ok (ld9 (hS.cell 1 rfl rfl)) ?_
          refine valP_ok (ld9 (hS.cell 1 rfl rfl)) ?_
          refine pureP_ok (fun w => sto w hkn) ?_
          refine pureP_ok (fun w => sadd _ _ hadd w) ?_
          refine nil_ok ?_
          refine pureP_ok (fa78_0 _) ?_
          refine store_at 1 st9 hS rfl (by simp) rfl ?_
          intro w hS
          simp only [List.set_cons_zero, List.set_cons_succ] at hS
          refine nil_ok ?_
          refine pureP_ok (fa78_1 _) ?_
          refine store_at 1 st9 hS rfl (by simp) rfl ?_
          intro w hS
          simp only [List.set_cons_zero, List.set_cons_succ] at hS
          exact t3 _ hS
        · refine valP_ok (ld9 (hS.cell 1 rfl rfl)) ?_
          refine pureP_ok (fun w => sto w hkn) ?_
          refine valP_ok (ld9 (hS.cell 1 rfl rfl)) ?_
          refine pureP_ok (fun w => sadd _ _ hadd w) ?_
          refine nil_ok ?_
          refine pureP_ok (fa78_0 _) ?_
          refine store_at 1 st9 hS rfl (by simp) rfl ?_
          intro w hS
          simp only [List.set_cons_zero, List.set_cons_succ] at hS
          refine nil_ok ?_
          refine pureP_ok (fa78_1 _) ?_
          refine store_at 1 st9 hS rfl (by simp) rfl ?_
          intro w hS
          simp only [List.set_cons_zero, List.set_cons_succ] at hS
          exact t3 _ hS
      unfold m9_11
      refine drawn_ok hS ?_
      intro w hS
      refine nil_ok ?_
      refine pureP_ok (fa61_1 _) ?_
      refine ⟨?_, ?_⟩
      · refine valP_ok (ld3 (hS.cell 0 rfl rfl)) ?_
        refine callR (by kernel_rfl) (size_ret 1 (by omega) rfl hS) ?_
        rintro _ w ⟨rfl, hS⟩
        refine callR (by kernel_rfl) (blocks_ret (n := D.L[i].sz) (by omega) hS) ?_
        rintro _ w ⟨rfl, hS⟩
        refine pureP_ok (add_ok _ _ _ (by omega) (by omega)) ?_
        refine nil_ok ?_
        refine pureP_ok (fa61_1 _) ?_
        refine store_at 0 st3 hS rfl (by simp) rfl ?_
        intro w hS
        simp only [List.set_cons_zero, List.set_cons_succ] at hS
        exact t2 _ hS
      · refine callR (by kernel_rfl) (size_ret 1 (by omega) rfl hS) ?_
        rintro _ w ⟨rfl, hS⟩
        refine ⟨?_, ?_⟩
        · refine valP_ok (ld3 (hS.cell 0 rfl rfl)) ?_
          refine callR (by kernel_rfl) (blocks_ret (n := D.L[i].sz) (by omega) hS) ?_
          rintro _ w ⟨rfl, hS⟩
          refine pureP_ok (add_ok _ _ _ (by omega) (by omega)) ?_
          refine nil_ok ?_
          refine pureP_ok (fa61_1 _) ?_
          refine store_at 0 st3 hS rfl (by simp) rfl ?_
          intro w hS
          simp only [List.set_cons_zero, List.set_cons_succ] at hS
          exact t2 _ hS
        · refine callR (by kernel_rfl) (blocks_ret (n := D.L[i].sz) (by omega) hS) ?_
          rintro _ w ⟨rfl, hS⟩
          refine valP_ok (ld3 (hS.cell 0 rfl rfl)) ?_
          refine pureP_ok (add_ok _ _ _ (by omega) (by omega)) ?_
          refine nil_ok ?_
          refine pureP_ok (fa61_1 _) ?_
          refine store_at 0 st3 hS rfl (by simp) rfl ?_
          intro w hS
          simp only [List.set_cons_zero, List.set_cons_succ] at hS
          exact t2 _ hS
    unfold m9_9
    unfold m9_10
    refine builtin_ok (len23 _) ?_
    refine valP_ok (lss_ok _ _ _ _ _ _ _) ?_
    unfold m9_14
    refine cond_split (fun h5 => ?_) (fun h5 => ?_)
    · have hik : i < keep.length := by omega
      have hEw : Rd w 1 A keep.length (keep.map (Value.int .i64)) := hE w _ hS (fun r hr => .tail _ (.tail _ (.tail _ (List.mem_append_right _ (.tail _ hr)))))
      obtain ⟨gk, ok, rfl⟩ := hEw.some_ (by omega) (by omega)
      have c1 := hS.cell 1 rfl (i := 1) rfl
      refine valQ_ok (ix23 hik) ?_
      refine valQ_load ld3 (hEw.cell_ (by rw [List.getElem?_map, List.getElem?_eq_getElem hik]; rfl)) ?_
      refine nil_ok ?_
      refine valQ_ok (fun w => fa78_1 _ _) ?_
      refine valQ_load ld9 c1 ?_
      refine builtinQ_ok (len9) ?_
      refine builtinQ_ok (min_run _ _) ?_
      refine builtinQ_ok (max_run _ _) ?_
      refine drawn_ok hS ?_
      intro w hS
      have ek : max 0 (min keep[i] (X[i].1.loose.size : Int)) = (kN keep i D.L[i].loose.size : Int) := by
        unfold kN
        rw [dif_pos hik, hXi]
        omega
      rw [ek]
      exact main _ _ hS (fun w' X' h1 h2 => ⟨⟨i + 1, X', rfl, by omega, h1, h2⟩, by simp [intOf]; omega⟩)
    · have ek : (0 : Int) = (kN keep i D.L[i].loose.size : Int) := by
        unfold kN
        rw [dif_neg (by omega)]
        rfl
      rw [ek]
      exact main _ _ hS (fun w' X' h1 h2 => ⟨⟨i + 1, X', rfl, by omega, h1, h2⟩, by simp [intOf]; omega⟩)
  · obtain rfl : i = D.L.length := by omega
    unfold m9_2
    refine nil_ok ?_
    refine valP_ok (fa61_3 _ _) ?_
    refine store_at 0 st4 hS rfl (by simp) rfl ?_
    intro w hS
    simp only [List.set_cons_zero, List.set_cons_succ] at hS
    refine nil_ok ?_
    refine valP_ok (fa61_2 _ _) ?_
    refine store_at 0 st3 hS rfl (by simp) rfl ?_
    intro w hS
    simp only [List.set_cons_zero, List.set_cons_succ] at hS
    exact Dsk.pop ⟨mb, X, hX, hS⟩
end
theorem used_upd {l : List Fl} (hU : UpL l) {f f' : Fl} (hf : f ∈ l) (hn : f.name = f'.name) : used (updF l f') + blk f.sz = used l + blk f'.sz := by
  obtain ⟨i, hi, rfl⟩ := List.mem_iff_getElem.1 hf
  rw [← updF_set hU hi hn]
  exact used_set hi f'
theorem names_updF (l : List Fl) (f' : Fl) : names (updF l f') = names l := by
  unfold names updF
  rw [List.map_map]
  refine List.map_congr_left fun f _ => ?_
  simp only [Function.comp_apply]
  split
  · rename_i h; exact h.symm
  · rfl
theorem updF_len (l : List Fl) (f' : Fl) : (updF l f').length = l.length := by unfold updF; rw [List.length_map]
theorem used_ins (f : Fl) (l : List Fl) : used (insF f l) = blk f.sz + used l := by
  unfold used
  have := ((insF_perm f l).map (fun f => blk f.sz)).sum_nat
  rw [this, List.map_cons, List.sum_cons]
theorem insF_len (f : Fl) (l : List Fl) : (insF f l).length = l.length + 1 := by rw [(insF_perm f l).length_eq, List.length_cons]
theorem delF_none {l : List Fl} {s : ByteArray} (h : ∀ g ∈ l, g.name ≠ s) : delF l s = l := List.filter_eq_self.2 fun g hg => decide_eq_true (h g hg)
theorem used_del {l : List Fl} (hU : UpL l) {f : Fl} (hf : f ∈ l) : used (delF l f.name) + blk f.sz = used l ∧ (delF l f.name).length + 1 = l.length := by
  induction l with
  | nil => cases hf
  | cons q l ih =>
    have hq := List.pairwise_cons.1 (up_ne hU)
    rcases List.mem_cons.1 hf with rfl | hf
    · have e : delF (f :: l) f.name = l := by
        unfold delF
        rw [List.filter_cons_of_neg (by simp)]
        exact delF_none fun g hg => (hq.1 g hg).symm
      rw [e]
      exact ⟨Nat.add_comm _ _, rfl⟩
    · have e : delF (q :: l) f.name = q :: delF l f.name := by
        unfold delF
        rw [List.filter_cons_of_pos (by simpa using hq.1 f hf)]
      have := ih (List.pairwise_cons.1 hU).2 hf
      rw [e]
      simp only [used, List.map_cons, List.sum_cons, List.length_cons] at this ⊢
      omega
theorem delF_up {l : List Fl} (hU : UpL l) (s : ByteArray) : UpL (delF l s) := hU.filter _
theorem delF_mem {l : List Fl} {s : ByteArray} {f : Fl} : f ∈ delF l s ↔ f ∈ l ∧ f.name ≠ s := by
  unfold delF
  rw [List.mem_filter, decide_eq_true_eq]
theorem updF_mem {l : List Fl} {f' g : Fl} (h : g ∈ updF l f') : g ∈ l ∨ g = f' := by
  unfold updF at h
  obtain ⟨q, hq, rfl⟩ := List.mem_map.1 h
  split
  · exact .inr rfl
  · exact .inl hq
theorem getF_of {l : List Fl} {s : ByteArray} (h : getF l s = none) : ∀ g ∈ l, g.name ≠ s := fun g hg e => by
  have := List.find?_eq_none.1 h g hg
  simp [e] at this
theorem ready_named {s : ByteArray} {o : Bool} (h : readyC [s] o = 0) : Named s := (ready_size h).2.1
section
variable {size : Nat} {D : Dk} {s t : ByteArray}
theorem Ok.upd {f f' : Fl} {r : Int} (h : Ok size D) (hf : f ∈ D.L) (hn : f.name = f'.name) (hr : r + blk f'.sz = D.room + blk f.sz) (hr0 : 0 ≤ r) : Ok size ⟨updF D.L f', r, D.fuse, D.off⟩ := by
  have hu := used_upd h.up hf hn
  have hs := h.sum
  refine ⟨names_up (names_updF _ _).symm h.up, by simp only [updF_len]; exact h.len, hr0, by simp only; omega, fun g hg => ?_, h.fuse, h.size⟩
  rcases updF_mem hg with hg | rfl
  · exact h.names g hg
  · rw [← hn]; exact h.names f hf
theorem Ok.app (h : Ok size D) : Ok size (appD D s t).1 := by
  unfold appD
  by_cases hr : readyC [s] D.off = 0
  · rw [if_pos hr]
    have hnm := ready_named hr
    cases hg : getF D.L s with
    | some f =>
      simp only
      obtain ⟨hf, hn⟩ := getF_some hg
      split
      · exact h
      · rename_i h1
        have hz : (⟨s, f.sure, f.loose ++ t⟩ : Fl).sz = f.sz + t.size := by
          show f.sure.size + (f.loose ++ t).size = f.sure.size + f.loose.size + t.size
          rw [ByteArray.size_append]
          omega
        exact Ok.burnt (Ok.upd (f := f) h hf hn (by rw [hz]; omega) (by omega))
    | none =>
      simp only
      split
      · exact h
      · rename_i h1
        have hz : (⟨s, ⟨#[]⟩, t⟩ : Fl).sz = t.size := by
          show (⟨#[]⟩ : ByteArray).size + t.size = t.size
          rw [show (⟨#[]⟩ : ByteArray).size = 0 from rfl]
          omega
        have hu := used_ins ⟨s, ⟨#[]⟩, t⟩ D.L
        have hs := h.sum
        have hl := insF_len ⟨s, ⟨#[]⟩, t⟩ D.L
        rw [hz] at hu
        refine Ok.burnt ⟨insF_up h.up (getF_of hg), by simp only; omega, by simp only; omega, by simp only; omega, fun g hg => ?_, h.fuse, h.size⟩
        rcases List.mem_cons.1 ((insF_perm _ _).mem_iff.1 hg) with rfl | hg
        · exact hnm.2.1
        · exact h.names g hg
  · rw [if_neg hr]
    exact h
theorem Ok.work {Rf : Fl → Dk → Dk × Int} (h : Ok size D) (hR : ∀ f D', getF D.L s = some f → Ok size D' → D'.L = D.L → f ∈ D'.L → f.name = s → Ok size (Rf f D').1) : Ok size (workD D s Rf).1 := by
  unfold workD
  split
  · split
    · rename_i f hg
      split
      · exact h.burnt
      · exact hR f _ hg h.burnt (burnt_L D) (by rw [burnt_L]; exact (getF_some hg).1) (getF_some hg).2
    · exact h
  · exact h
theorem Ok.sync (h : Ok size D) : Ok size (workD D s syncR).1 := h.work fun f D' _ h hL hf hn => by
  have hz : (⟨f.name, f.sure ++ f.loose, ⟨#[]⟩⟩ : Fl).sz = f.sz := by
    show (f.sure ++ f.loose).size + (⟨#[]⟩ : ByteArray).size = f.sure.size + f.loose.size
    rw [ByteArray.size_append, show (⟨#[]⟩ : ByteArray).size = 0 from rfl]
    omega
  exact Ok.upd (f := f) h hf rfl (by rw [hz]) h.room
theorem Ok.remove (h : Ok size D) : Ok size (workD D s removeR).1 := h.work fun f D' _ h hL hf hn => by
  have hu := used_del h.up hf
  have hs := h.sum
  have hr := h.room
  have hl := h.len
  exact ⟨delF_up h.up _, by show (delF D'.L f.name).length ≤ 256; omega, by show 0 ≤ D'.room + blk f.sz; omega, by show D'.room + blk f.sz + used (delF D'.L f.name) = size; omega, fun g hg => h.names g (delF_mem.1 hg).1, h.fuse, h.size⟩
theorem Ok.ren (h : Ok size D) : Ok size (renD D s t).1 := by
  unfold renD
  split
  · rename_i hr
    obtain ⟨h1, h2, _⟩ := ready_two hr
    refine h.work fun f D' _ h hL hf hn => ?_
    have hu := used_del h.up hf
    have hs := h.sum
    have hr := h.room
    have hl := h.len
    have hU2 := delF_up (delF_up h.up f.name) t
    have hi := used_ins ⟨t, f.sure, f.loose⟩ (delF (delF D'.L f.name) t)
    have hil := insF_len ⟨t, f.sure, f.loose⟩ (delF (delF D'.L f.name) t)
    have hz : (⟨t, f.sure, f.loose⟩ : Fl).sz = f.sz := rfl
    rw [hz] at hi
    have hup : UpL (insF ⟨t, f.sure, f.loose⟩ (delF (delF D'.L f.name) t)) := insF_up hU2 fun g hg => (delF_mem.1 hg).2
    have hnm : ∀ g ∈ insF ⟨t, f.sure, f.loose⟩ (delF (delF D'.L f.name) t), g.name.size ≤ 24 := fun g hg => by
      rcases List.mem_cons.1 ((insF_perm _ _).mem_iff.1 hg) with rfl | hg
      · exact h2.2.1
      · exact h.names g (delF_mem.1 (delF_mem.1 hg).1).1
    have fin : ∀ r : Int, 0 ≤ r → r + used (delF (delF D'.L f.name) t) + blk f.sz = size → (delF (delF D'.L f.name) t).length + 1 ≤ 256 → (renR t f D').1.room = r → Ok size (renR t f D').1 := fun r hr0 hr1 hr2 e => by
      refine ⟨hup, ?_, by rw [e]; exact hr0, ?_, hnm, h.fuse, h.size⟩
      · show (insF ⟨t, f.sure, f.loose⟩ (delF (delF D'.L f.name) t)).length ≤ 256
        omega
      · rw [e]
        show r + used (insF ⟨t, f.sure, f.loose⟩ (delF (delF D'.L f.name) t)) = size
        omega
    cases hg : getF D'.L t with
    | none =>
      have e1 : delF (delF D'.L f.name) t = delF D'.L f.name := delF_none fun g hg2 => getF_of hg g (delF_mem.1 hg2).1
      rw [e1] at fin
      exact fin D'.room hr (by omega) (by omega) (by unfold renR; rw [hg])
    | some old =>
      obtain ⟨ho, hon⟩ := getF_some hg
      by_cases hft : f.name = t
      · have e1 : delF (delF D'.L f.name) t = delF D'.L f.name := delF_none fun g hg2 => by rw [← hft]; exact (delF_mem.1 hg2).2
        rw [e1] at fin
        exact fin D'.room hr (by omega) (by omega) (by unfold renR; rw [hg]; simp only; rw [if_pos hft])
      · have hod : old ∈ delF D'.L f.name := delF_mem.2 ⟨ho, fun e => hft (e.symm.trans hon)⟩
        have hu2 := used_del (delF_up h.up f.name) hod
        rw [hon] at hu2
        exact fin (D'.room + blk old.sz) (by omega) (by omega) (by omega) (by unfold renR; rw [hg]; simp only; rw [if_neg hft])
  · exact h
theorem crs_used (keep : List Int) (l : List Fl) : ∀ j, used (crs keep l j) ≤ used l
  | 0 => Nat.le_refl _
  | j + 1 => by
    have ih := crs_used keep l j
    by_cases hj : j < (crs keep l j).length
    · have e : crs keep l (j + 1) = (crs keep l j).set j (crOne keep j (crs keep l j)[j]) := dif_pos hj
      have h2 := used_set hj (crOne keep j (crs keep l j)[j])
      rw [← e] at h2
      have h3 : blk (crOne keep j (crs keep l j)[j]).sz ≤ blk (crs keep l j)[j].sz := by
        have hkj := kN_le keep j (crs keep l j)[j].loose.size
        have : (crOne keep j (crs keep l j)[j]).sz ≤ (crs keep l j)[j].sz := by
          show ((crs keep l j)[j].sure ++ (crs keep l j)[j].loose.extract 0 (kN keep j (crs keep l j)[j].loose.size)).size + (⟨#[]⟩ : ByteArray).size ≤ (crs keep l j)[j].sure.size + (crs keep l j)[j].loose.size
          rw [ByteArray.size_append, ext_size _ _ _ hkj, show (⟨#[]⟩ : ByteArray).size = 0 from rfl]
          omega
        unfold blk
        omega
      omega
    · have e : crs keep l (j + 1) = crs keep l j := dif_neg hj
      rw [e]
      exact ih
theorem Ok.crash {keep : List Int} (h : Ok size D) : Ok size (crashD D keep) := by
  have hu := crs_used keep D.L D.L.length
  have hr := h.room
  have hs := h.sum
  have hl := crs_len keep D.L D.L.length
  refine ⟨names_up (crs_names keep D.L D.L.length).symm h.up, by show (crs keep D.L D.L.length).length ≤ 256; rw [hl]; exact h.len, by show 0 ≤ D.room + used D.L - used (crs keep D.L D.L.length); omega, by show D.room + used D.L - used (crs keep D.L D.L.length) + used (crs keep D.L D.L.length) = size; omega, fun g hg => ?_, by show (-1 : Int) ≤ -1 ∧ (-1 : Int) ≤ 9223372036854775807; omega, h.size⟩
  have h1 : g.name ∈ List.map Fl.name (crs keep D.L D.L.length) := List.mem_map.2 ⟨g, hg, rfl⟩
  rw [show List.map Fl.name (crs keep D.L D.L.length) = List.map Fl.name D.L from crs_names keep D.L D.L.length] at h1
  obtain ⟨f, hf, e⟩ := List.mem_map.1 h1
  rw [← e]
  exact h.names f hf
theorem Ok.setFuse {n : Int} (hn : n ≤ 9223372036854775807) (h : Ok size D) : Ok size ⟨D.L, D.room, max n (-1), D.off⟩ := ⟨h.up, h.len, h.room, h.sum, h.names, by show -1 ≤ max n (-1) ∧ max n (-1) ≤ 9223372036854775807; omega, h.size⟩
theorem Ok.new {n : Int} (h : 1 ≤ n ∧ n ≤ 16384) : Ok n.toNat ⟨[], n, -1, false⟩ := ⟨.nil, Nat.zero_le _, by show 0 ≤ n; omega, by show n + ((0 : Nat) : Int) = n.toNat; omega, fun _ h => (by cases h), by show (-1 : Int) ≤ -1 ∧ (-1 : Int) ≤ 9223372036854775807; omega, by omega⟩
end
theorem ext_cat (s : ByteArray) (k : Nat) (h : k ≤ s.size) : s = s.extract 0 k ++ s.extract k s.size := by
  apply ByteArray.ext
  rw [ByteArray.data_append, ByteArray.data_extract, ByteArray.data_extract, Array.extract_append_extract]
  have h1 : min 0 k = 0 := Nat.zero_min _
  have h2 : max k s.size = s.size := Nat.max_eq_right h
  rw [h1, h2]
  exact Array.extract_size.symm
section
variable {w0 w : World} {F : List Nat} {L : List Res} {l : List Gt} {A : Option Addr} {c : Nat}
theorem check_ret (hm : l.length ≤ 100000) (hg : ∀ g ∈ l, GtS g) (hE : BG w0 F L A l) (hS : St w0 F w L) : Ret Tryz.prog 57 #[.slice A l.length c] w fun v w' => v = .int .i64 (if MayL l then 0 else 1) ∧ St w0 F w' L := by
  refine s57 _ ?_
  unfold m57
  unfold m57_0
  unfold m57_1
  refine builtin_ok (len22 _) ?_
  unfold m57_7
  refine loop_in (fun u w' => ∃ i : Nat, u = .int .i64 (i : Int) ∧ i ≤ l.length ∧ (∀ j (hj : j < l.length), j < i → MayG l[j]) ∧ St w0 F w' L) (fun u _ => l.length - (intOf u).toNat) ⟨0, rfl, by omega, fun j _ h => by omega, hS⟩ ?_
  clear hS
  rintro u w ⟨i, rfl, hi, hno, hS⟩
  unfold m57_8
  refine valP_ok (lss_ok _ _ _ _ _ _ _) ?_
  unfold m57_9
  refine cond_split (fun h => ?_) (fun h => ?_)
  · have hil : i < l.length := by omega
    have hgi := hg _ (List.getElem_mem hil)
    obtain ⟨gb, o, rfl⟩ := (hE.rd hS).some_ (by omega) (by omega)
    have p := g_at (hE.rd hS) hil
    unfold m57_10
    refine valP_ok (ix22 hil _) ?_
    refine valP_ok (ld58 p.1 p.2.1 p.2.2.1 p.2.2.2) ?_
    refine new_ok (al58 _) hS ?_
    intro b4 w hS
    refine ss58 0 hS rfl rfl rfl rfl rfl ?_
    intro w hS
    simp only [List.set_cons_zero, List.set_cons_succ] at hS
    unfold m57_12
    refine valP_ok (fa58_1 _ _) ?_
    refine valP_ok (ld56 (hS.cell 0 rfl rfl) (hS.cell 0 rfl rfl) (hS.cell 0 rfl rfl)) ?_
    refine callR (by kernel_rfl) (putrec_ret (r := l[i].r) hgi.1.1 hgi.1.2 hgi.2 hS) ?_
    rintro _ w ⟨rfl, hS⟩
    refine callR (by kernel_rfl) (takerec_ret hS) ?_
    rintro _ w ⟨rfl, hS⟩
    rw [recV_put hgi.1.1 hgi.1.2 (by have := hgi.2; omega)]
    have leaf : ∀ (K1 : Value → World → Prop), (MayG l[i] → ∀ w', St w0 F w' L → K1 (.int .i64 ((i + 1 : Nat) : Int)) w') → ∀ t : Bool, (t = true ↔ ¬ MayG l[i]) → ∀ w, St w0 F w L → m57_14 (fun v w' => v = .int .i64 (if MayL l then 0 else 1) ∧ St w0 F w' L) K1 (.slice (some ⟨gb, o, none⟩) l.length c) (.slice (some ⟨gb, o, none⟩) l.length c) (.int .i64 (l.length : Int)) (.int .i64 (i : Int)) (.bool t) w := fun K1 hK t ht w hS => by
      unfold m57_14
      cases t with
      | true =>
        refine cond_t rfl ?_
        unfold m57_15
        rw [if_neg (fun h => ht.1 rfl (h.1 _ (List.getElem_mem hil)))]
        exact ⟨rfl, hS⟩
      | false =>
        refine cond_f rfl ?_
        unfold m57_11
        refine valP_ok (add_ok _ _ _ (by omega) (by omega) _) ?_
        exact hK (Classical.byContradiction fun h => by have := ht.2 h; cases this) w hS
    have next : MayG l[i] → ∀ j (hj : j < l.length), j < i + 1 → MayG l[j] := fun hn j hj h3 => by
      rcases Nat.lt_or_ge j i with g | g
      · exact hno j hj g
      · obtain rfl : j = i := by omega
        exact hn
    by_cases hr : MayR l[i].r
    · rw [if_pos hr]
      refine valP_ok (extract_ok _ 0 rfl _) ?_
      refine valP_ok (extract_ok _ 1 rfl _) ?_
      refine valP_ok (extract_ok _ 2 rfl _) ?_
      refine new_ok (al56 _) hS ?_
      intro b5 w hS
      refine ss56 0 hS rfl rfl rfl rfl ?_
      intro w hS
      simp only [List.set_cons_zero, List.set_cons_succ] at hS
      unfold m57_13
      refine valP_ok (ne26 _ _ _ _ _) ?_
      refine cond_df (by omega) ?_
      refine valP_ok (fa58_0 _ _) ?_
      refine valP_ok (ld3 (hS.cell 1 rfl rfl)) ?_
      refine valP_ok (lss_ok _ _ _ _ _ _ _) ?_
      refine pick_df (by first | assumption | omega) ?_
      refine cond_split (fun h1 => ?_) (fun h1 => ?_)
      · refine pick_dt (by first | assumption | omega) ?_
        refine leaf _ (fun hn w' hS => ⟨⟨i + 1, rfl, by omega, next hn, hS⟩, by simp [intOf]; omega⟩) _ ⟨fun _ h2 => ?_, fun _ => rfl⟩ _ hS.tail.tail
        unfold MayG InM at h2
        omega
      · refine valP_ok (fa58_0 _ _) ?_
        refine valP_ok (ld3 (hS.cell 1 rfl rfl)) ?_
        refine valP_ok (gtr_ok _ _ _ _ _ _ _) ?_
        refine pick_df (by first | assumption | omega) ?_
        refine leaf _ (fun hn w' hS => ⟨⟨i + 1, rfl, by omega, next hn, hS⟩, by simp [intOf]; omega⟩) _ ?_ _ hS.tail.tail
        rw [decide_eq_true_eq]
        unfold MayG InM
        constructor
        · intro h2 h3
          omega
        · intro h2
          exact Classical.byContradiction fun h3 => h2 ⟨by omega, hr⟩
    · rw [if_neg hr]
      refine valP_ok (extract_ok _ 0 rfl _) ?_
      refine valP_ok (extract_ok _ 1 rfl _) ?_
      refine valP_ok (extract_ok _ 2 rfl _) ?_
      refine new_ok (al56 _) hS ?_
      intro b5 w hS
      refine ss56 0 hS rfl rfl rfl rfl ?_
      intro w hS
      simp only [List.set_cons_zero, List.set_cons_succ] at hS
      unfold m57_13
      refine valP_ok (ne26 _ _ _ _ _) ?_
      refine cond_dt (by omega) ?_
      refine pick_dt (by first | assumption | omega) ?_
      refine cond_t rfl ?_
      refine pick_t (by first | rfl | assumption) ?_
      exact leaf _ (fun hn w' hS => ⟨⟨i + 1, rfl, by omega, next hn, hS⟩, by simp [intOf]; omega⟩) _ ⟨fun _ h => hr h.2, fun _ => rfl⟩ _ hS.tail.tail
  · obtain rfl : i = l.length := by omega
    have hall : ∀ g ∈ l, MayG g := fun g hg => by
      obtain ⟨j, hj, rfl⟩ := List.mem_iff_getElem.1 hg
      exact hno j hj hj
    unfold m57_2
    refine builtin_ok (len22 _) ?_
    refine valP_ok (gtr_ok _ _ _ _ _ _ _) ?_
    unfold m57_5
    refine cond_split (fun h1 => ?_) (fun h1 => ?_)
    · unfold m57_6
      rw [if_neg (fun h => by have := h.2; omega)]
      exact ⟨rfl, hS⟩
    · unfold m57_3 m57_4
      rw [if_pos ⟨hall, by omega⟩]
      exact ⟨rfl, hS⟩
theorem rmay_ret (hm : l.length ≤ 100000) (hE : BG w0 F L A l) (hS : St w0 F w L) : Ret Tryz.prog 11 #[.slice A l.length c] w fun v w' => v = .bool (decide (MayL l)) ∧ St w0 F w' L := by
  refine s11 _ ?_
  unfold m11 m11_0 m11_1 m11_4
  refine loop_in (fun u w' => ∃ i : Nat, u = .int .i64 (i : Int) ∧ i ≤ l.length ∧ (∀ j (hj : j < l.length), j < i → MayG l[j]) ∧ St w0 F w' L) (fun u _ => l.length - (intOf u).toNat) ⟨0, rfl, by omega, fun j _ h => by omega, hS⟩ ?_
  clear hS
  rintro u w ⟨i, rfl, hi, hno, hS⟩
  unfold m11_5
  refine builtin_ok (len22 _) ?_
  refine valP_ok (lss_ok _ _ _ _ _ _ _) ?_
  unfold m11_10
  refine cond_split (fun h => ?_) (fun h => ?_)
  · have hil : i < l.length := by omega
    obtain ⟨gb, o, rfl⟩ := (hE.rd hS).some_ (by omega) (by omega)
    have p := g_at (hE.rd hS) hil
    have leaf : ∀ (K1 : Value → World → Prop), (MayG l[i] → ∀ w', St w0 F w' L → K1 (.int .i64 ((i + 1 : Nat) : Int)) w') → ∀ t : Bool, (t = true ↔ ¬ MayG l[i]) → ∀ w, St w0 F w L → m11_8 (fun v w' => v = .bool (decide (MayL l)) ∧ St w0 F w' L) K1 (.slice (some ⟨gb, o, none⟩) l.length c) (.int .i64 (i : Int)) (.bool t) w := fun K1 hK t ht w hS => by
      unfold m11_8
      cases t with
      | true =>
        refine cond_t rfl ?_
        unfold m11_9
        exact ⟨congrArg Value.bool (decide_eq_false (fun h => ht.1 rfl (h.1 _ (List.getElem_mem hil)))).symm, hS⟩
      | false =>
        refine cond_f rfl ?_
        unfold m11_7
        refine valP_ok (add_ok _ _ _ (by omega) (by omega) _) ?_
        exact hK (Classical.byContradiction fun h => by have := ht.2 h; cases this) w hS
    have next : MayG l[i] → ∀ j (hj : j < l.length), j < i + 1 → MayG l[j] := fun hn j hj h3 => by
      rcases Nat.lt_or_ge j i with g | g
      · exact hno j hj g
      · obtain rfl : j = i := by omega
        exact hn
    have fin : ∀ w, St w0 F w L → ∀ K1, (MayG l[i] → ∀ w', St w0 F w' L → K1 (.int .i64 ((i + 1 : Nat) : Int)) w') → InM l[i].off → ∀ t : Bool, (t = true ↔ MayR l[i].r) → m11_8 (fun v w' => v = .bool (decide (MayL l)) ∧ St w0 F w' L) K1 (.slice (some ⟨gb, o, none⟩) l.length c) (.int .i64 (i : Int)) (.bool (!t)) w := fun w hS K1 hK ho t ht => by
      refine leaf K1 hK _ ?_ w hS
      cases t with
      | true => exact ⟨fun h => (by cases h), fun h => absurd ⟨ho, ht.1 rfl⟩ h⟩
      | false => exact ⟨fun _ h => (by have := ht.2 h.2; cases this), fun _ => rfl⟩
    unfold m11_6
    refine valP_ok (ix22 hil _) ?_
    refine valP_ok (fao58_0 _ _ _) ?_
    refine valP_ok (ld3 p.1) ?_
    refine valP_ok (lss_ok _ _ _ _ _ _ _) ?_
    refine cond_split (fun h1 => ?_) (fun h1 => ?_)
    · refine pick_dt (by first | assumption | omega) ?_
      refine cond_t rfl ?_
      refine pick_t (by first | rfl | assumption) ?_
      refine leaf _ (fun hn w' hS => ⟨⟨i + 1, rfl, by omega, next hn, hS⟩, by simp [intOf]; omega⟩) _ ⟨fun _ h2 => ?_, fun _ => rfl⟩ _ hS
      unfold MayG InM at h2
      omega
    · refine valP_ok (ix22 hil _) ?_
      refine valP_ok (fao58_0 _ _ _) ?_
      refine valP_ok (ld3 p.1) ?_
      refine valP_ok (gtr_ok _ _ _ _ _ _ _) ?_
      refine pick_df (by first | assumption | omega) ?_
      refine cond_split (fun h2 => ?_) (fun h2 => ?_)
      · refine pick_dt (by first | assumption | omega) ?_
        refine leaf _ (fun hn w' hS => ⟨⟨i + 1, rfl, by omega, next hn, hS⟩, by simp [intOf]; omega⟩) _ ⟨fun _ h2 => ?_, fun _ => rfl⟩ _ hS
        unfold MayG InM at h2
        omega
      · refine valP_ok (ix22 hil _) ?_
        refine valP_ok (fao58_1 _ _ _) ?_
        refine valP_ok (ld56 p.2.1 p.2.2.1 p.2.2.2) ?_
        refine callR (by kernel_rfl) (mayrec_ret (r := l[i].r) hS) ?_
        rintro _ w ⟨⟨t, rfl, ht⟩, hS⟩
        refine valP_ok (notb_ok _ _) ?_
        refine pick_df (by first | assumption | omega) ?_
        exact fin _ hS _ (fun hn w' hS => ⟨⟨i + 1, rfl, by omega, next hn, hS⟩, by simp [intOf]; omega⟩) ⟨by omega, by omega⟩ t ht
  · obtain rfl : i = l.length := by omega
    have hall : ∀ g ∈ l, MayG g := fun g hg => by
      obtain ⟨j, hj, rfl⟩ := List.mem_iff_getElem.1 hg
      exact hno j hj hj
    unfold m11_2
    refine builtin_ok (len22 _) ?_
    refine valP_ok (leq_ok _ _ _ _ _ _ _) ?_
    unfold m11_3
    refine ⟨congrArg Value.bool (decide_eq_decide.2 ?_), hS⟩
    unfold MayL
    exact ⟨fun h => ⟨hall, by omega⟩, fun h => by have := h.2; omega⟩
end
section
variable {w0 w : World} {F : List Nat} {L : List Res} {l : List Gt} {A : Option Addr} {c : Nat}
abbrev encV (l : List Gt) : Value := if MayL l then .tuple #[.string (sealS (encL l)), .int .i64 0] else .tuple #[.string ⟨#[]⟩, .int .i64 1]
theorem enc_take_size {i : Nat} (h : MayL l) : (putS l.length ++ bodyL (l.take i)).size ≤ 3000000 := by
  have h1 := bodyL_size (l := l.take i) (fun g hg => h.1 g (List.mem_of_mem_take hg))
  have h2 := putS_size (n := (l.length : Int)) (by have := h.2; omega)
  have h3 := h.2
  rw [List.length_take] at h1
  rw [ByteArray.size_append]
  omega
theorem encode_ret (hm : l.length ≤ 100000) (hg : ∀ g ∈ l, GtS g) (hE : BG w0 F L A l) (hS : St w0 F w L) : Ret Tryz.prog 21 #[.slice A l.length c] w fun v w' => v = encV l ∧ St w0 F w' L := by
  refine s21 _ ?_
  unfold m21 m21_0 m21_1
  refine callR (by kernel_rfl) (check_ret hm hg hE hS) ?_
  rintro _ w ⟨rfl, hS⟩
  unfold encV
  by_cases hM : MayL l
  · rw [if_pos hM, if_pos hM]
    unfold m21_13
    refine valP_ok (ne26 _ _ _ _ _) ?_
    unfold m21_14
    refine cond_df (by omega) ?_
    unfold m21_2
    refine new_ok (al99 _) hS ?_
    intro b5 w hS
    unfold m21_3
    refine builtin_ok (len22 _) ?_
    refine callR (by kernel_rfl) (put_ret (by omega) hS) ?_
    rintro _ w ⟨rfl, hS⟩
    have hB := Bd.start hS
    clear hS
    have hz1 := putS_size (n := (l.length : Int)) (by omega)
    have e0 : (⟨#[]⟩ : ByteArray).size = 0 := rfl
    refine callR (by kernel_rfl) (write_ret (by omega) hB) ?_
    clear hB
    intro _ w hB
    rw [empty_add] at hB
    unfold m21_4
    refine builtin_ok (len22 _) ?_
    unfold m21_7
    refine loop_in (fun u w' => ∃ i : Nat, u = .int .i64 (i : Int) ∧ i ≤ l.length ∧ Bd w0 F L b5 (putS l.length ++ bodyL (l.take i)) w') (fun u _ => l.length - (intOf u).toNat) ⟨0, rfl, by omega, by rw [List.take_zero, bodyL, add_empty]; exact hB⟩ ?_
    clear hB
    rintro u w ⟨i, rfl, hi, hB⟩
    have hz := enc_take_size (i := i) hM
    unfold m21_8
    refine valP_ok (lss_ok _ _ _ _ _ _ _) ?_
    unfold m21_9
    refine cond_split (fun h => ?_) (fun h => ?_)
    · have hil : i < l.length := by omega
      have hgi := hg _ (List.getElem_mem hil)
      have hmi := hM.1 _ (List.getElem_mem hil)
      have ho : -9223372036854775808 ≤ l[i].off ∧ l[i].off ≤ 9223372036854775807 := by unfold MayG InM at hmi; omega
      have hpz := putS_size ho
      have hrz := recS_size hmi.2
      obtain ⟨p, A2, c2, hp, hS⟩ := hB
      obtain ⟨gb, o, rfl⟩ := (hE.rd2 hS).some_ (by omega) (by omega)
      have q := g_at (hE.rd2 hS) hil
      unfold m21_10
      refine valP_ok (ix22 hil _) ?_
      refine valP_ok (ld58 q.1 q.2.1 q.2.2.1 q.2.2.2) ?_
      refine new_ok (al58 _) hS ?_
      intro b7 w hS
      refine ss58 0 hS rfl rfl rfl rfl rfl ?_
      intro w hS
      simp only [List.set_cons_zero, List.set_cons_succ] at hS
      unfold m21_12
      refine drawn_ok hS ?_
      intro w hS
      refine held_Hs (hS.pick 3 [0] (by simp) (by decide)) ?_
      refine valJ_ok (fa58_0 _) ?_
      refine valJ_load ld3 (Hs.cell 0 rfl rfl) ?_
      refine valJ_ok (fa58_1 _) ?_
      refine valJ_at (fun w hw => ld56 (Hs.cell 0 rfl rfl w hw) (Hs.cell 0 rfl rfl w hw) (Hs.cell 0 rfl rfl w hw)) ?_
      refine callR (by kernel_rfl) (put_ret ho hS) ?_
      rintro _ w ⟨rfl, hS⟩
      refine stay_Hs (hS.pick 3 [0] (by simp) (by decide)) (fun _ h => h) ?_
      refine callR (by kernel_rfl) (putrec_ret (r := l[i].r) hgi.1.1 hgi.1.2 hgi.2 hS) ?_
      rintro _ w ⟨rfl, hS⟩
      refine stay_Hs (hS.pick 3 [0] (by simp) (by decide)) (fun _ h => h) ?_
      refine valJ_ok (sadd _ _ (by omega)) ?_
      have hB : Bd w0 F (Res.cells b7 58 (encG l[i]) :: L) b5 (putS l.length ++ bodyL (l.take i)) w := ⟨p, A2, c2, hp, hS.pick 3 [1, 2, 0] (by simp) (by decide)⟩
      refine callR (by kernel_rfl) (write_ret (by rw [ByteArray.size_append (a := putS l[i].off)]; omega) hB) ?_
      clear hB hS
      rintro _ w ⟨p2, A3, c3, hp2, hS⟩
      refine stay_Hs (hS.pick 3 [2] (by simp) (by decide)) (fun _ h => h) ?_
      unfold m21_11
      refine valP_ok (add_ok _ _ _ (by omega) (by omega) _) ?_
      refine ⟨⟨i + 1, rfl, by omega, ?_⟩, by simp [intOf]; omega⟩
      rw [bodyL_take hil, ← add_assoc']
      exact ⟨p2, A3, c3, hp2, hS.pick 3 [0, 1] (by simp) (by decide)⟩
    · obtain rfl : i = l.length := by omega
      rw [List.take_length] at hB hz
      unfold m21_5
      have h0 := putS_pos (l.length : Int)
      refine callR (by kernel_rfl) (bstring_ret (by rw [ByteArray.size_append]; omega) hB) ?_
      rintro _ w ⟨rfl, hS⟩
      refine callR (by kernel_rfl) (seal_ret (by unfold maxLen; omega) hS) ?_
      rintro _ w ⟨rfl, hS⟩
      unfold m21_6
      exact ⟨rfl, hS⟩
  · rw [if_neg hM, if_neg hM]
    unfold m21_13
    refine valP_ok (ne26 _ _ _ _ _) ?_
    unfold m21_14
    refine cond_dt (by omega) ?_
    unfold m21_15
    exact ⟨rfl, hS⟩
theorem rencode_ret (hm : l.length ≤ 100000) (hg : ∀ g ∈ l, GtS g) (hE : BG w0 F L A l) (hS : St w0 F w L) : Ret Tryz.prog 39 #[.slice A l.length c] w fun v w' => v = encV l ∧ St w0 F w' L := by
  refine s39 _ ?_
  unfold m39 m39_0 m39_1
  refine callR (by kernel_rfl) (rmay_ret hm hE hS) ?_
  rintro _ w ⟨rfl, hS⟩
  unfold encV
  refine valP_ok (not_ok _ _) ?_
  unfold m39_11
  refine cond_split (fun hM => ?_) (fun hM => ?_)
  · rw [if_neg hM]
    unfold m39_12
    exact ⟨rfl, hS⟩
  · have hM : MayL l := Classical.not_not.1 hM
    rw [if_pos hM]
    unfold m39_2
    refine builtin_ok (len22 _) ?_
    refine callR (by kernel_rfl) (rput_ret (by omega) hS) ?_
    rintro _ w ⟨rfl, hS⟩
    unfold m39_3 m39_6
    refine loop_in (fun u w' => ∃ i : Nat, u = (.string (putS l.length ++ bodyL (l.take i)), .int .i64 (i : Int)) ∧ i ≤ l.length ∧ St w0 F w' L) (fun u _ => l.length - (intOf u.2).toNat) ⟨0, by rw [List.take_zero, bodyL, add_empty]; rfl, by omega, hS⟩ ?_
    clear hS
    rintro u w ⟨i, rfl, hi, hS⟩
    simp only
    have hz := enc_take_size (i := i) hM
    unfold m39_7
    refine builtin_ok (len22 _) ?_
    refine valP_ok (lss_ok _ _ _ _ _ _ _) ?_
    unfold m39_10
    refine cond_split (fun h => ?_) (fun h => ?_)
    · have hil : i < l.length := by omega
      have hgi := hg _ (List.getElem_mem hil)
      have hmi := hM.1 _ (List.getElem_mem hil)
      have ho : -9223372036854775808 ≤ l[i].off ∧ l[i].off ≤ 9223372036854775807 := by unfold MayG InM at hmi; omega
      have hpz := putS_size ho
      have hrz := recS_size hmi.2
      obtain ⟨gb, o, rfl⟩ := (hE.rd hS).some_ (by omega) (by omega)
      unfold m39_8
      refine drawn_ok hS ?_
      intro w hS
      refine held_Hs hS ?_
      have q := fun w (hw : Hs w0 F L w) => g_at (Hs.rd hE w hw) hil
      refine valJ_ok (ix22 hil) ?_
      refine valJ_ok (fao58_0 _ _) ?_
      refine valJ_at (fun w hw => ld3 (q w hw).1) ?_
      refine valJ_ok (ix22 hil) ?_
      refine valJ_ok (fao58_1 _ _) ?_
      refine valJ_at (fun w hw => ld56 (q w hw).2.1 (q w hw).2.2.1 (q w hw).2.2.2) ?_
      refine callR (by kernel_rfl) (rput_ret ho hS) ?_
      rintro _ w ⟨rfl, hS⟩
      refine stay_Hs hS (by first | exact fun _ h => h | exact fun _ h => .tail _ h | exact fun _ h => .tail _ (.tail _ h) | simp) ?_
      refine valJ_ok (sadd _ _ (by omega)) ?_
      refine callR (by kernel_rfl) (rec_ret (r := l[i].r) hgi.1.1 hgi.1.2 hgi.2 hS) ?_
      rintro _ w ⟨rfl, hS⟩
      refine stay_Hs hS (by first | exact fun _ h => h | exact fun _ h => .tail _ h | exact fun _ h => .tail _ (.tail _ h) | simp) ?_
      refine valJ_ok (sadd _ _ (by rw [ByteArray.size_append (b := putS l[i].off)]; omega)) ?_
      unfold m39_9
      refine valP_ok (add_ok _ _ _ (by omega) (by omega) _) ?_
      refine ⟨⟨i + 1, ?_, by omega, hS⟩, by simp [intOf]; omega⟩
      rw [bodyL_take hil, add_assoc', add_assoc']
      rfl
    · obtain rfl : i = l.length := by omega
      rw [List.take_length] at hz ⊢
      unfold m39_4
      refine callR (by kernel_rfl) (rseal_ret (by unfold maxLen; omega) hS) ?_
      rintro _ w ⟨rfl, hS⟩
      unfold m39_5
      exact ⟨rfl, hS⟩
end
theorem noSize {s : ByteArray} : s = ⟨#[]⟩ ↔ ¬ 0 < s.size := by
  constructor
  · rintro rfl
    exact Nat.lt_irrefl 0
  · intro h
    refine bytesN_inj ?_
    have : (bytesN s).length = 0 := by rw [bytesN_length]; omega
    rw [List.eq_nil_of_length_eq_zero this]
    rfl
theorem takeS_nil : takeS ⟨#[]⟩ = none := by
  unfold takeS
  rfl
def decG (n : Int) (r : ByteArray) : Option (List Gt) := if 0 ≤ n ∧ n ≤ 4096 then (match takeGs n.toNat r with
      | none => none
      | some (l, q) => if q = ⟨#[]⟩ ∧ MayL l then some l else none) else none
theorem decS_G (s : ByteArray) : decS s = match unsealS s with
  | none => none
  | some t => match takeS t with
    | none => none
    | some (n, r) => decG n r := rfl
def DecR (o : Option (List Gt)) (w0 : World) (F : List Nat) (L : List Res) (v : Value) (w' : World) : Prop := ∃ A c, v = .tuple #[.slice A (o.getD []).length c, .int .i64 (if o.isSome then 0 else 2)] ∧ St w0 F w' (grow A c (o.getD []) :: L)
section
variable {w0 w : World} {F : List Nat} {L : List Res} {s : ByteArray}
theorem DecR.none_ (hS : St w0 F w L) : DecR none w0 F L (.tuple #[.slice none 0 0, .int .i64 2]) w := ⟨none, 0, rfl, hS.row_nil 58 4⟩
theorem dec_main {n : Int} {r : ByteArray} (hn : 0 ≤ n ∧ n ≤ 4096) (hS : St w0 F w L) : m34_5 (DecR (decG n r) w0 F L) (.string r) (.int .i64 n) w := by
  obtain ⟨n, rfl⟩ : ∃ k : Nat, n = (k : Int) := ⟨n.toNat, by omega⟩
  unfold m34_5 m34_6 m34_12
  have hz := decG (n : Int) r
  have hdec : decG (n : Int) r = (match takeGs n r with
      | none => none
      | some (l, q) => if q = ⟨#[]⟩ ∧ MayL l then some l else none) := by
    unfold decG
    rw [if_pos hn, Int.toNat_natCast]
  refine loop_in (fun u w' => ∃ (i : Nat) (l : List Gt) (t : ByteArray) (A : Option Addr) (c : Nat), u = (.string t, .slice A l.length c, .int .i64 (i : Int)) ∧ i ≤ n ∧ l.length = i ∧ (∀ g ∈ l, GtS g) ∧ takeGs n r = (takeGs (n - i) t).map (fun p => (l ++ p.1, p.2)) ∧ St w0 F w' (grow A c l :: L)) (fun u _ => n - (intOf u.2.2).toNat) ⟨0, [], r, none, 0, rfl, by omega, rfl, by simp, by simp, hS.row_nil 58 4⟩ ?_
  clear hS
  rintro u w ⟨i, l, t, A, c, rfl, hi, hl, hg, he, hS⟩
  simp only
  unfold m34_13
  refine valP_ok (lss_ok _ _ _ _ _ _ _) ?_
  unfold m34_14
  refine cond_split (fun h => ?_) (fun h => ?_)
  · obtain ⟨m, hm⟩ : ∃ m, n - i = m + 1 := ⟨n - i - 1, by omega⟩
    rw [hm, takeGs_succ] at he
    unfold m34_15
    refine callR (by kernel_rfl) (take_ret hS) ?_
    rintro _ w ⟨rfl, hS⟩
    unfold tkV
    cases ht : takeS t with
    | none =>
      rw [ht] at he
      rw [hdec, he]
      simp only [Option.map_none]
      refine valP_ok (extract_ok _ 0 rfl _) ?_
      refine valP_ok (extract_ok _ 1 rfl _) ?_
      refine valP_ok (extract_ok _ 2 rfl _) ?_
      unfold m34_17
      refine valP_ok (ne26 _ _ _ _ _) ?_
      unfold m34_24
      refine cond_dt (by omega) ?_
      unfold m34_25
      exact .none_ hS.tail
    | some p =>
      obtain ⟨off, a⟩ := p
      rw [ht] at he
      simp only at he
      simp only
      refine valP_ok (extract_ok _ 0 rfl _) ?_
      refine valP_ok (extract_ok _ 1 rfl _) ?_
      refine valP_ok (extract_ok _ 2 rfl _) ?_
      unfold m34_17
      refine valP_ok (ne26 _ _ _ _ _) ?_
      unfold m34_24
      refine cond_df (by omega) ?_
      unfold m34_18
      refine callR (by kernel_rfl) (takerec_ret hS) ?_
      rintro _ w ⟨rfl, hS⟩
      unfold recV
      cases hr : takeRec a with
      | none =>
        rw [hr] at he
        rw [hdec, he]
        simp only [Option.map_none]
        refine valP_ok (extract_ok _ 0 rfl _) ?_
        refine valP_ok (extract_ok _ 1 rfl _) ?_
        refine valP_ok (extract_ok _ 2 rfl _) ?_
        refine new_ok (al56 _) hS ?_
        intro b11 w hS
        refine ss56 0 hS rfl rfl rfl rfl ?_
        intro w hS
        simp only [List.set_cons_zero, List.set_cons_succ] at hS
        unfold m34_19
        refine valP_ok (ne26 _ _ _ _ _) ?_
        unfold m34_22
        refine cond_dt (by omega) ?_
        unfold m34_23
        exact .none_ hS.tail.tail
      | some p =>
        obtain ⟨rc, b⟩ := p
        rw [hr] at he
        simp only at he
        simp only
        refine valP_ok (extract_ok _ 0 rfl _) ?_
        refine valP_ok (extract_ok _ 1 rfl _) ?_
        refine valP_ok (extract_ok _ 2 rfl _) ?_
        refine new_ok (al56 _) hS ?_
        intro b11 w hS
        refine ss56 0 hS rfl rfl rfl rfl ?_
        intro w hS
        simp only [List.set_cons_zero, List.set_cons_succ] at hS
        unfold m34_19
        refine valP_ok (ne26 _ _ _ _ _) ?_
        unfold m34_22
        refine cond_df (by omega) ?_
        unfold m34_20
        refine ls56 0 hS rfl ?_
        refine valP_ok (bd58_0_1 rfl _) ?_
        refine newslice_ok (bs22_1 _) hS ?_
        intro b61 w hS
        refine append_one1 (enc := encG) 1 ⟨off, rc⟩ sl22 encG_len encG_one (by unfold maxLen; omega) (by omega) hS rfl ?_
        intro A' c' w hS
        simp only [List.set_cons_zero, List.set_cons_succ] at hS
        unfold m34_21
        unfold m34_16
        refine valP_ok (add_ok _ _ _ (by omega) (by omega) _) ?_
        refine ⟨⟨i + 1, l ++ [⟨off, rc⟩], b, A', c', rfl, by omega, by simp [hl], fun g hg2 => ?_, ?_, hS.tail⟩, by simp [intOf]; omega⟩
        · rcases List.mem_append.1 hg2 with h2 | h2
          · exact hg g h2
          · obtain rfl := List.mem_singleton.1 h2
            have h3 : takeGs 1 t = some ([⟨off, rc⟩], b) := by
              rw [takeGs_succ, ht]
              simp only
              rw [hr]
              rfl
            exact (takeGs_ok h3).2 _ (.head _)
        · rw [he, show n - (i + 1) = m by omega, Option.map_map]
          congr 1
          funext p
          simp
  · obtain rfl : i = n := by omega
    rw [Nat.sub_self] at he
    simp only [takeGs, Option.map_some, List.append_nil] at he
    rw [he] at hdec
    simp only at hdec
    have leaf : ∀ b : Bool, (b = true ↔ ¬ (t = ⟨#[]⟩ ∧ MayL l)) → ∀ w, St w0 F w (grow A c l :: L) → m34_10 (DecR (decG (i : Int) r) w0 F L) (.slice A l.length c) (.bool b) w := fun b hb w hS => by
      rw [hdec]
      unfold m34_10
      cases b with
      | true =>
        refine cond_t rfl ?_
        rw [if_neg (hb.1 rfl)]
        unfold m34_11
        exact .none_ hS.tail
      | false =>
        refine cond_f rfl ?_
        rw [if_pos (Classical.byContradiction fun h => by have := hb.2 h; cases this)]
        unfold m34_8 m34_9
        exact ⟨A, c, rfl, hS⟩
    unfold m34_7
    refine valP_ok (ne9 _ _ _ _ _) ?_
    refine cond_split (fun h1 => ?_) (fun h1 => ?_)
    · refine pick_dt (by first | assumption | omega) ?_
      exact leaf _ ⟨fun _ h => h1 h.1, fun _ => rfl⟩ _ hS
    · refine callR (by kernel_rfl) (check_ret (l := l) (by omega) hg (Bes.of_row 0 rfl) hS) ?_
      rintro _ w ⟨rfl, hS⟩
      refine valP_ok (ne26 _ _ _ _ _) ?_
      refine pick_df (by first | assumption | omega) ?_
      refine leaf _ ?_ _ hS
      rw [decide_eq_true_eq]
      by_cases h2 : MayL l
      · rw [if_pos h2]
        exact ⟨fun h => absurd rfl h, fun h => absurd ⟨Classical.not_not.1 h1, h2⟩ h⟩
      · rw [if_neg h2]
        exact ⟨fun _ h => h2 h.2, fun _ h => by omega⟩
theorem decode_ret (hs : s.size ≤ maxLen) (hS : St w0 F w L) : Ret Tryz.prog 34 #[.string s] w fun v w' => DecR (decS s) w0 F L v w' := by
  refine s34 _ ?_
  unfold m34 m34_0 m34_1
  refine callR (by kernel_rfl) (unseal_ret hs hS) ?_
  rintro _ w ⟨rfl, hS⟩
  show _
  rw [show (fun v w' => DecR (decS s) w0 F L v w') = DecR (decS s) w0 F L from rfl, decS_G]
  unfold unV
  cases unsealS s with
  | none =>
    simp only
    refine valP_ok (extract_ok _ 0 rfl _) ?_
    refine valP_ok (extract_ok _ 1 rfl _) ?_
    unfold m34_2
    refine valP_ok (ne26 _ _ _ _ _) ?_
    unfold m34_28
    refine cond_dt (by omega) ?_
    unfold m34_29
    exact .none_ hS
  | some t =>
    simp only
    refine valP_ok (extract_ok _ 0 rfl _) ?_
    refine valP_ok (extract_ok _ 1 rfl _) ?_
    unfold m34_2
    refine valP_ok (ne26 _ _ _ _ _) ?_
    unfold m34_28
    refine cond_df (by omega) ?_
    unfold m34_3
    refine callR (by kernel_rfl) (take_ret hS) ?_
    rintro _ w ⟨rfl, hS⟩
    unfold tkV
    have leaf : ∀ (e n : Int) (r : ByteArray) (o : Option (List Gt)), (o = if e = 0 then decG n r else none) → ∀ b : Bool, (b = true ↔ (e ≠ 0 ∨ n < 0 ∨ 4096 < n)) → m34_26 (DecR o w0 F L) (.string r) (.int .i64 n) (.bool b) w := fun e n r o ho b hb => by
      unfold m34_26
      cases b with
      | true =>
        refine cond_t rfl ?_
        have h := hb.1 rfl
        have : o = none := by
          rw [ho]
          split
          · unfold decG
            rw [if_neg (by omega)]
          · rfl
        rw [this]
        unfold m34_27
        exact .none_ hS
      | false =>
        have h : ¬ (e ≠ 0 ∨ n < 0 ∨ 4096 < n) := fun h => by have := hb.2 h; cases this
        refine cond_f rfl ?_
        rw [ho, if_pos (by omega)]
        exact dec_main (by omega) hS
    cases takeS t with
    | none =>
      simp only
      refine valP_ok (extract_ok _ 0 rfl _) ?_
      refine valP_ok (extract_ok _ 1 rfl _) ?_
      refine valP_ok (extract_ok _ 2 rfl _) ?_
      unfold m34_4
      refine valP_ok (ne26 _ _ _ _ _) ?_
      refine cond_split (fun hc0 => ?_) (fun hc0 => ?_)
      · refine pick_dt (by first | assumption | omega) ?_
        refine cond_bsplit (fun hc1 => ?_) (fun hc1 => ?_)
        · refine pick_dt (by first | assumption | omega) ?_
          exact leaf 2 _ _ _ (by rw [if_neg (by omega)]) _ (by simp only [decide_eq_true_eq, Bool.false_eq_true, false_iff, true_iff] <;> first | contradiction | omega)
        · refine valP_ok (gtr_ok _ _ _ _ _ _ _) ?_
          refine pick_t (by first | rfl | assumption) ?_
          exact leaf 2 _ _ _ (by rw [if_neg (by omega)]) _ (by simp only [decide_eq_true_eq, Bool.false_eq_true, false_iff, true_iff] <;> first | contradiction | omega)
      · refine valP_ok (lss_ok _ _ _ _ _ _ _) ?_
        refine pick_dt (by first | assumption | omega) ?_
        refine cond_bsplit (fun hc1 => ?_) (fun hc1 => ?_)
        · refine pick_dt (by first | assumption | omega) ?_
          exact leaf 2 _ _ _ (by rw [if_neg (by omega)]) _ (by simp only [decide_eq_true_eq, Bool.false_eq_true, false_iff, true_iff] <;> first | contradiction | omega)
        · refine valP_ok (gtr_ok _ _ _ _ _ _ _) ?_
          refine pick_df (by first | assumption | omega) ?_
          exact leaf 2 _ _ _ (by rw [if_neg (by omega)]) _ (by simp only [decide_eq_true_eq, Bool.false_eq_true, false_iff, true_iff] <;> first | contradiction | omega)
    | some p =>
      obtain ⟨n, r⟩ := p
      simp only
      refine valP_ok (extract_ok _ 0 rfl _) ?_
      refine valP_ok (extract_ok _ 1 rfl _) ?_
      refine valP_ok (extract_ok _ 2 rfl _) ?_
      unfold m34_4
      refine valP_ok (ne26 _ _ _ _ _) ?_
      refine cond_split (fun hc0 => ?_) (fun hc0 => ?_)
      · refine pick_dt (by first | assumption | omega) ?_
        refine cond_bsplit (fun hc1 => ?_) (fun hc1 => ?_)
        · refine pick_dt (by first | assumption | omega) ?_
          exact leaf 0 _ _ _ (by rw [if_pos rfl]) _ (by simp only [decide_eq_true_eq, Bool.false_eq_true, false_iff, true_iff] <;> first | contradiction | omega)
        · refine valP_ok (gtr_ok _ _ _ _ _ _ _) ?_
          refine pick_df (by first | assumption | omega) ?_
          exact leaf 0 _ _ _ (by rw [if_pos rfl]) _ (by simp only [decide_eq_true_eq, Bool.false_eq_true, false_iff, true_iff] <;> first | contradiction | omega)
      · refine valP_ok (lss_ok _ _ _ _ _ _ _) ?_
        refine pick_df (by first | assumption | omega) ?_
        refine cond_split (fun hc1 => ?_) (fun hc1 => ?_)
        · refine pick_dt (by first | assumption | omega) ?_
          exact leaf 0 _ _ _ (by rw [if_pos rfl]) _ (by simp only [decide_eq_true_eq, Bool.false_eq_true, false_iff, true_iff] <;> first | contradiction | omega)
        · refine valP_ok (gtr_ok _ _ _ _ _ _ _) ?_
          refine pick_df (by first | assumption | omega) ?_
          exact leaf 0 _ _ _ (by rw [if_pos rfl]) _ (by simp only [decide_eq_true_eq, Bool.false_eq_true, false_iff, true_iff] <;> first | contradiction | omega)
end
end Go.Proofs.YtcldjjmfpmkldaaGreatDoor.M
