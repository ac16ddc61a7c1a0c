/- work; Sync, Remove, Read. -/
import Derived.Test.YtcldjjmfpmkldaaDoorD4
import Derived.Test.YtcldjjmfpmkldaaDoorFwW
import Derived.Test.YtcldjjmfpmkldaaDoorFwB
import Derived.Test.YtcldjjmfpmkldaaDoorFwM
import Derived.Test.YtcldjjmfpmkldaaDoorMtrim0
import Derived.Test.YtcldjjmfpmkldaaDoorMdisk0
import Derived.Test.YtcldjjmfpmkldaaDoorMmore0
namespace Go.Proofs.YtcldjjmfpmkldaaDoor.M
open Go.Proofs.YtcldjjmfpmkldaaDoor.F Go.RowKit
set_option linter.unusedVariables false
set_option linter.unusedSimpArgs false
set_option maxRecDepth 100000
set_option maxHeartbeats 2000000
attribute [local irreducible] Res.cells Res.row Res.map Res.any World.cell? World.frozen? Instr.fieldAt Instr.loadAt Instr.storeAt Instr.indexAt Instr.lookup Instr.mapUpdate Instr.box Instr.build Instr.buildSlice Instr.extract Instr.alloc Instr.field Instr.index Instr.sliceAt Instr.makeSlice Instr.makeMap Instr.makeFunc binS Op.unary Sem.run
def delF (l : List Fl) (s : ByteArray) : List Fl := l.filter (fun f => decide (f.name ≠ s))
theorem delX_map (X : List (Fl × Nat)) (s : ByteArray) : (X.filter (fun p => decide (p.1.name ≠ s))).map Prod.fst = delF (X.map Prod.fst) s := by
  unfold delF
  rw [List.filter_map]
  rfl
theorem delX_nb (X : List (Fl × Nat)) (s : ByteArray) : (X.filter (fun p => decide (p.1.name ≠ s))).map nb = (X.map nb).filter (fun p => decide (p.1 ≠ s)) := by
  rw [List.filter_map]
  rfl
theorem erase_del : ∀ {X : List (Fl × Nat)} (_ : UpL (X.map Prod.fst)) {i : Nat} (hi : i < X.length) {s : ByteArray} (_ : X[i].1.name = s), X.eraseIdx i = X.filter (fun p => decide (p.1.name ≠ s))
  | [], _, i, hi, _, _ => absurd hi (Nat.not_lt_zero _)
  | q :: X, h, 0, hi, s, e => by
    have hq := List.pairwise_cons.1 (up_ne h)
    simp only [List.getElem_cons_zero] at e
    rw [List.filter_cons_of_neg (by simp [e])]
    refine (List.filter_eq_self.2 fun p hp => ?_).symm
    have := hq.1 p.1 (List.mem_map.2 ⟨p, hp, rfl⟩)
    simp only [decide_eq_true_eq]
    exact fun h2 => this (e.trans h2.symm)
  | q :: X, h, i + 1, hi, s, e => by
    have hq := List.pairwise_cons.1 (up_ne h)
    simp only [List.getElem_cons_succ] at e
    have hl : i < X.length := by simpa using hi
    have hne := hq.1 X[i].1 (List.mem_map.2 ⟨_, List.getElem_mem hl, rfl⟩)
    rw [e] at hne
    have hp : decide (q.1.name ≠ s) = true := decide_eq_true hne
    rw [List.eraseIdx_cons_succ, List.filter_cons, if_pos hp, erase_del (List.pairwise_cons.1 h).2 hl e]
theorem perm_get : ∀ {X : List (Fl × Nat)} {i : Nat} (hi : i < X.length), X.Perm (X[i] :: X.eraseIdx i)
  | [], i, hi => absurd hi (Nat.not_lt_zero _)
  | q :: X, 0, hi => .refl _
  | q :: X, i + 1, hi => ((perm_get (X := X) (i := i) (by simpa using hi)).cons q).trans (.swap _ _ _)
theorem perm_put {X : List (Fl × Nat)} {i : Nat} (hi : i < X.length) (p : Fl × Nat) : (X.set i p).Perm (p :: X.eraseIdx i) := by
  have h1 : i < (X.set i p).length := by simpa using hi
  have := perm_get h1
  rw [List.getElem_set_self, List.eraseIdx_set_eq] at this
  exact this
section
variable {w0 w : World} {F : List Nat} {L : List Res} {d m : Res}
theorem St.focus {X : List (Fl × Nat)} {i : Nat} (hi : i < X.length) (hS : St w0 F w (d :: m :: (X.map fileR ++ L))) : St w0 F w (d :: fileR X[i] :: m :: ((X.eraseIdx i).map fileR ++ L)) := by
  refine hS.perm (List.Perm.cons _ (List.Perm.trans (List.Perm.cons _ ?_) (List.Perm.swap _ _ _)))
  have := ((perm_get hi).map fileR).append_right L
  rwa [List.map_cons, List.cons_append] at this
theorem St.unfocus {X : List (Fl × Nat)} {i : Nat} (hi : i < X.length) (p : Fl × Nat) (hS : St w0 F w (d :: fileR p :: m :: ((X.eraseIdx i).map fileR ++ L))) : St w0 F w (d :: m :: ((X.set i p).map fileR ++ L)) := by
  refine hS.perm (List.Perm.cons _ (List.Perm.trans (List.Perm.swap _ _ _) (List.Perm.cons _ ?_)))
  have := ((perm_put hi p).map fileR).append_right L
  rw [List.map_cons, List.cons_append] at this
  exact this.symm
theorem St.push {r : Res} {Y : List Res} (hS : St w0 F w (r :: d :: m :: (Y ++ L))) : St w0 F w (d :: m :: (Y ++ r :: L)) := by
  refine hS.perm ((List.Perm.swap _ _ _).trans (List.Perm.cons _ ((List.Perm.swap _ _ _).trans (List.Perm.cons _ ?_))))
  exact List.perm_middle.symm
theorem St.pull {r : Res} {Y : List Res} (hS : St w0 F w (d :: m :: (Y ++ r :: L))) : St w0 F w (d :: m :: r :: (Y ++ L)) :=
  hS.perm (List.Perm.cons _ (List.Perm.cons _ List.perm_middle))
theorem Dsk.pop {b : Nat} {D : Dk} {r : Res} (h : Dsk w0 F (r :: L) b D w) : Dsk w0 F L b D w := by
  obtain ⟨mb, X, hX, hS⟩ := h
  exact ⟨mb, X, hX, (St.pull hS).pick 3 [0, 1] (by simp) (by decide)⟩
theorem Dsk.push {b : Nat} {D : Dk} {r : Res} {mb : Nat} {X : List (Fl × Nat)} (hX : X.map Prod.fst = D.L) (hS : St w0 F w (r :: dCell b (.map (some mb)) D.room D.fuse D.off :: mapD mb X :: (X.map fileR ++ L))) : Dsk w0 F (r :: L) b D w := ⟨mb, X, hX, St.push hS⟩
end
/-- something is done with a file that is there, if the power stays. -/
def workD (D : Dk) (s : ByteArray) (Rf : Fl → Dk → Dk × Int) : Dk × Int :=
  if readyC [s] D.off = 0 then
    match getF D.L s with
    | some f => if D.fuse = 0 then (burnt D, 4) else Rf f (burnt D)
    | none => (D, 3)
  else (D, readyC [s] D.off)
theorem burnt_L (D : Dk) : (burnt D).L = D.L := by rw [burnt_eq]
theorem burnt_room (D : Dk) : (burnt D).room = D.room := by rw [burnt_eq]
theorem Ok.burnt {n : Nat} {D : Dk} (h : Ok n D) : Ok n (burnt D) := by
  rw [burnt_eq]
  refine ⟨h.up, h.len, h.room, h.sum, h.names, ?_, h.size⟩
  have := h.fuse
  simp only
  split <;> omega
section
variable {w0 w : World} {F : List Nat} {L : List Res} {b : Nat} {D : Dk} {size : Nat} {s : ByteArray}
/-- a disk's parts, with one file in front. -/
def Foc (w0 : World) (F : List Nat) (L : List Res) (b mb : Nat) (X : List (Fl × Nat)) (i : Nat) (p : Fl × Nat) (D : Dk) (w : World) : Prop := St w0 F w (dCell b (.map (some mb)) D.room D.fuse D.off :: fileR p :: mapD mb X :: ((X.eraseIdx i).map fileR ++ L))
theorem work_ret {fn : Nat} {first cap : Array Value} {Rf : Fl → Dk → Dk × Int} (hfn : callsOk Tryd.prog fn = true) (hO : Ok size D)
    (hdo : ∀ w mb X i (hi : i < X.length), X.map Prod.fst = (burnt D).L → X[i].1.name = s → Foc w0 F L b mb X i X[i] (burnt D) w → Ret Tryd.prog fn (first ++ #[ptr X[i].2] ++ cap) w fun v w' => v = .int .i64 (Rf X[i].1 (burnt D)).2 ∧ Dsk w0 F L b (Rf X[i].1 (burnt D)).1 w')
    (hD : Dsk w0 F L b D w) : Ret Tryd.prog 37 #[ptr b, .string s, .func (.func fn) first cap] w fun v w' => v = .int .i64 (workD D s Rf).2 ∧ Dsk w0 F L b (workD D s Rf).1 w' := by
  obtain ⟨mb, X, hX, hS⟩ := hD
  have hU : UpL (X.map Prod.fst) := hX ▸ hO.up
  have hfu : -9223372036854775808 ≤ D.fuse ∧ D.fuse ≤ 9223372036854775807 := by have := hO.fuse; omega
  refine s37 _ _ _ ?_
  unfold m37
  unfold m37_0
  unfold m37_1
  refine newslice_ok (bs22_1 rfl _) hS ?_
  intro b11 w hS
  refine callR (by kernel_rfl) (ready_ret (xs := [s]) 1 rfl (by simp) (Bes.of_cells 0 rfl rfl) hS) ?_
  rintro _ w ⟨rfl, hS⟩
  have hS := hS.tail
  unfold m37_10
  refine valP_ok (ne24 _ _ _ _ _) ?_
  unfold m37_11 workD
  refine cond_split (fun h => ?_) (fun h => ?_)
  · unfold m37_12
    rw [if_neg h]
    exact ⟨rfl, mb, X, hX, hS⟩
  rw [if_pos (Classical.not_not.1 h)]
  obtain ⟨hs24, hnm, ho⟩ := ready_size (Classical.not_not.1 h)
  unfold m37_2
  refine nil_ok ?_
  first | refine valP_ok (fa61_0 _ _) ?_ | refine valP_ok (fao61_0 _ _ _) ?_
  first | refine valP_ok (ld59 (hS.cell 0 rfl rfl)) ?_ | refine valP_ok (ld59 (hS.cell 1 rfl rfl)) ?_ | refine valP_ok (ld59 (hS.cell 2 rfl rfl)) ?_ | refine valP_ok (ld59 (hS.cell 3 rfl rfl)) ?_ | refine valP_ok (ld59 (hS.cell 4 rfl rfl)) ?_ | refine valP_ok (ld59 (hS.cell 5 rfl rfl)) ?_ | refine valP_ok (ld59 (hS.cell 6 rfl rfl)) ?_ | refine valP_ok (ld59 (hS.cell 7 rfl rfl)) ?_ | refine valP_ok (ld59 (by assumption)) ?_
  refine valP_ok ((hS.mapT 1 rfl).lookup Tryd.underlying9 Tryd.underlying59 (zero63 _) (by unfold maxLen; omega)) ?_
  rcases look_X hU s with ⟨h1, h2, h3⟩ | ⟨i, hi, h1, h2, h3⟩
  · rw [h1]
    rw [hX] at h2
    rw [h2]
    unfold m37_3
    first | refine valP_ok (eq63n _ _ _) ?_ | refine valP_ok (eq63s _ _ _ _) ?_
    unfold m37_6
    refine cond_t rfl ?_
    unfold m37_7
    exact ⟨rfl, mb, X, hX, hS⟩
  · rw [h1]
    rw [hX] at h2
    rw [h2]
    unfold m37_3
    first | refine valP_ok (eq63n _ _ _) ?_ | refine valP_ok (eq63s _ _ _ _) ?_
    unfold m37_6
    refine cond_f rfl ?_
    refine callR (by kernel_rfl) (burn_ret hfu hS) ?_
    rintro _ w ⟨rfl, hS⟩
    first | refine valP_ok (not_ok _ _) ?_ | refine valP_ok (notb_ok _ _) ?_
    unfold m37_8
    have hb := burnt_eq D
    refine cond_split (fun h4 => ?_) (fun h4 => ?_)
    · unfold m37_9
      have h0 := Classical.not_not.1 h4
      simp only [if_pos h0]
      refine ⟨trivial, mb, X, by rw [burnt_L]; exact hX, ?_⟩
      rw [hb]
      exact hS
    · have h0 : ¬ D.fuse = 0 := fun h1 => h4 (not_not_intro h1)
      simp only [if_neg h0]
      unfold m37_4
      have hf := St.focus hi hS
      refine callvR hfn rfl (hdo w mb X i hi (by rw [burnt_L]; exact hX) h3 (by unfold Foc; rw [hb]; exact hf)) ?_
      rintro _ w ⟨rfl, hD⟩
      unfold m37_5
      exact ⟨rfl, hD⟩
def syncR (f : Fl) (D : Dk) : Dk × Int := (⟨updF D.L ⟨f.name, f.sure ++ f.loose, ⟨#[]⟩⟩, D.room, D.fuse, D.off⟩, 0)
theorem Foc.done {mb : Nat} {X : List (Fl × Nat)} {i : Nat} {f' : Fl} {D' : Dk} (hU : UpL (X.map Prod.fst)) (hi : i < X.length) (hn : X[i].1.name = f'.name) (hL : D'.L = updF (X.map Prod.fst) f') (h : Foc w0 F L b mb X i (f', X[i].2) D' w) : Dsk w0 F L b D' w := by
  unfold Foc at h
  have hS := St.unfocus hi _ h
  refine ⟨mb, X.set i (f', X[i].2), by rw [updX_map hU hi hn, hL], ?_⟩
  have hnb := nb_set hi hn
  have hmap : mapD mb X = mapD mb (X.set i (f', X[i].2)) := by unfold mapD; rw [hnb]
  rw [hmap] at hS
  exact hS
theorem sync_ret (hO : Ok size D) (hD : Dsk w0 F L b D w) : Ret Tryd.prog 28 #[ptr b, .string s] w fun v w' => v = .int .i64 (workD D s syncR).2 ∧ Dsk w0 F L b (workD D s syncR).1 w' := by
  refine s28 _ _ ?_
  unfold m28 m28_0 m28_1
  refine callR (by kernel_rfl) (work_ret (fn := 39) (first := #[]) (cap := #[]) (Rf := syncR) (by kernel_rfl) hO ?_ hD) ?_
  · intro w mb X i hi hX hn hS
    have hU : UpL (X.map Prod.fst) := by rw [hX, burnt_L]; exact hO.up
    have hfm : X[i].1 ∈ D.L := by rw [← burnt_L D, ← hX]; exact List.mem_map.2 ⟨_, List.getElem_mem hi, rfl⟩
    have hsz := hO.sz hfm
    have hsz' : X[i].1.sure.size + X[i].1.loose.size = X[i].1.sz := rfl
    refine s39 _ ?_
    have fin : ∀ w, Foc w0 F L b mb X i (⟨X[i].1.name, X[i].1.sure ++ X[i].1.loose, ⟨#[]⟩⟩, X[i].2) (burnt D) w → m39_2 (fun v w' => v = .int .i64 (syncR X[i].1 (burnt D)).2 ∧ Dsk w0 F L b (syncR X[i].1 (burnt D)).1 w') w := fun w hS => by
      unfold m39_2 m39_3
      exact ⟨rfl, Foc.done (f' := ⟨X[i].1.name, X[i].1.sure ++ X[i].1.loose, ⟨#[]⟩⟩) (D' := (syncR X[i].1 (burnt D)).1) hU hi rfl (by unfold syncR; rw [hX]) hS⟩
    unfold Foc at hS
    unfold m39
    unfold m39_0
    unfold m39_1
    refine drawn_ok hS ?_
    intro w hS
    refine nil_ok ?_
    first | refine pureP_ok (fa65_0 _) ?_ | refine pureP_ok (fao65_0 _ _) ?_
    refine nil_ok ?_
    first | refine pureP_ok (fa65_1 _) ?_ | refine pureP_ok (fao65_1 _ _) ?_
    refine ⟨?_, ?_⟩
    · first | refine valP_ok (ld9 (hS.cell 0 rfl rfl)) ?_ | refine valP_ok (ld9 (hS.cell 1 rfl rfl)) ?_ | refine valP_ok (ld9 (hS.cell 2 rfl rfl)) ?_ | refine valP_ok (ld9 (hS.cell 3 rfl rfl)) ?_ | refine valP_ok (ld9 (hS.cell 4 rfl rfl)) ?_ | refine valP_ok (ld9 (hS.cell 5 rfl rfl)) ?_ | refine valP_ok (ld9 (hS.cell 6 rfl rfl)) ?_ | refine valP_ok (ld9 (hS.cell 7 rfl rfl)) ?_ | refine valP_ok (ld9 (by assumption)) ?_
      first | refine valP_ok (ld9 (hS.cell 0 rfl rfl)) ?_ | refine valP_ok (ld9 (hS.cell 1 rfl rfl)) ?_ | refine valP_ok (ld9 (hS.cell 2 rfl rfl)) ?_ | refine valP_ok (ld9 (hS.cell 3 rfl rfl)) ?_ | refine valP_ok (ld9 (hS.cell 4 rfl rfl)) ?_ | refine valP_ok (ld9 (hS.cell 5 rfl rfl)) ?_ | refine valP_ok (ld9 (hS.cell 6 rfl rfl)) ?_ | refine valP_ok (ld9 (hS.cell 7 rfl rfl)) ?_ | refine valP_ok (ld9 (by assumption)) ?_
      refine pureP_ok (fun w => sadd _ _ (by omega) w) ?_
      refine nil_ok ?_
      first | refine pureP_ok (fa65_0 _) ?_ | refine pureP_ok (fao65_0 _ _) ?_
      first | refine store_at 0 st9 hS rfl (by simp) rfl ?_ | refine store_at 1 st9 hS rfl (by simp) rfl ?_ | refine store_at 2 st9 hS rfl (by simp) rfl ?_ | refine store_at 3 st9 hS rfl (by simp) rfl ?_ | refine store_at 4 st9 hS rfl (by simp) rfl ?_ | refine store_at 5 st9 hS rfl (by simp) rfl ?_ | refine store_at 6 st9 hS rfl (by simp) rfl ?_ | refine store_at 7 st9 hS rfl (by simp) rfl ?_
      intro w hS
      simp only [List.set_cons_zero, List.set_cons_succ] at hS
      refine nil_ok ?_
      first | refine pureP_ok (fa65_1 _) ?_ | refine pureP_ok (fao65_1 _ _) ?_
      first | refine store_at 0 st9 hS rfl (by simp) rfl ?_ | refine store_at 1 st9 hS rfl (by simp) rfl ?_ | refine store_at 2 st9 hS rfl (by simp) rfl ?_ | refine store_at 3 st9 hS rfl (by simp) rfl ?_ | refine store_at 4 st9 hS rfl (by simp) rfl ?_ | refine store_at 5 st9 hS rfl (by simp) rfl ?_ | refine store_at 6 st9 hS rfl (by simp) rfl ?_ | refine store_at 7 st9 hS rfl (by simp) rfl ?_
      intro w hS
      simp only [List.set_cons_zero, List.set_cons_succ] at hS
      exact fin _ hS
    · first | refine valP_ok (ld9 (hS.cell 0 rfl rfl)) ?_ | refine valP_ok (ld9 (hS.cell 1 rfl rfl)) ?_ | refine valP_ok (ld9 (hS.cell 2 rfl rfl)) ?_ | refine valP_ok (ld9 (hS.cell 3 rfl rfl)) ?_ | refine valP_ok (ld9 (hS.cell 4 rfl rfl)) ?_ | refine valP_ok (ld9 (hS.cell 5 rfl rfl)) ?_ | refine valP_ok (ld9 (hS.cell 6 rfl rfl)) ?_ | refine valP_ok (ld9 (hS.cell 7 rfl rfl)) ?_ | refine valP_ok (ld9 (by assumption)) ?_
      first | refine valP_ok (ld9 (hS.cell 0 rfl rfl)) ?_ | refine valP_ok (ld9 (hS.cell 1 rfl rfl)) ?_ | refine valP_ok (ld9 (hS.cell 2 rfl rfl)) ?_ | refine valP_ok (ld9 (hS.cell 3 rfl rfl)) ?_ | refine valP_ok (ld9 (hS.cell 4 rfl rfl)) ?_ | refine valP_ok (ld9 (hS.cell 5 rfl rfl)) ?_ | refine valP_ok (ld9 (hS.cell 6 rfl rfl)) ?_ | refine valP_ok (ld9 (hS.cell 7 rfl rfl)) ?_ | refine valP_ok (ld9 (by assumption)) ?_
      refine pureP_ok (fun w => sadd _ _ (by omega) w) ?_
      refine nil_ok ?_
      first | refine pureP_ok (fa65_0 _) ?_ | refine pureP_ok (fao65_0 _ _) ?_
      first | refine store_at 0 st9 hS rfl (by simp) rfl ?_ | refine store_at 1 st9 hS rfl (by simp) rfl ?_ | refine store_at 2 st9 hS rfl (by simp) rfl ?_ | refine store_at 3 st9 hS rfl (by simp) rfl ?_ | refine store_at 4 st9 hS rfl (by simp) rfl ?_ | refine store_at 5 st9 hS rfl (by simp) rfl ?_ | refine store_at 6 st9 hS rfl (by simp) rfl ?_ | refine store_at 7 st9 hS rfl (by simp) rfl ?_
      intro w hS
      simp only [List.set_cons_zero, List.set_cons_succ] at hS
      refine nil_ok ?_
      first | refine pureP_ok (fa65_1 _) ?_ | refine pureP_ok (fao65_1 _ _) ?_
      first | refine store_at 0 st9 hS rfl (by simp) rfl ?_ | refine store_at 1 st9 hS rfl (by simp) rfl ?_ | refine store_at 2 st9 hS rfl (by simp) rfl ?_ | refine store_at 3 st9 hS rfl (by simp) rfl ?_ | refine store_at 4 st9 hS rfl (by simp) rfl ?_ | refine store_at 5 st9 hS rfl (by simp) rfl ?_ | refine store_at 6 st9 hS rfl (by simp) rfl ?_ | refine store_at 7 st9 hS rfl (by simp) rfl ?_
      intro w hS
      simp only [List.set_cons_zero, List.set_cons_succ] at hS
      exact fin _ hS
  · rintro _ w ⟨rfl, hD⟩
    unfold m28_2
    exact ⟨rfl, hD⟩
end

end Go.Proofs.YtcldjjmfpmkldaaDoor.M
