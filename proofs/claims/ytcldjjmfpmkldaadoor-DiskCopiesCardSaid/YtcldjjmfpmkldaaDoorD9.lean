/- The names of a map in order; Files. -/
import Derived.Test.YtcldjjmfpmkldaaDoorD8
import Derived.Test.YtcldjjmfpmkldaaDoorXI
import Derived.Test.YtcldjjmfpmkldaaDoorFwW
import Derived.Test.YtcldjjmfpmkldaaDoorFwB
import Derived.Test.YtcldjjmfpmkldaaDoorFwM
import Derived.Test.YtcldjjmfpmkldaaDoorMtrim0
import Derived.Test.YtcldjjmfpmkldaaDoorMdisk0
import Derived.Test.YtcldjjmfpmkldaaDoorMmore0
namespace Go.Proofs.YtcldjjmfpmkldaaDoor.M
open Go.Proofs.YtcldjjmfpmkldaaDoor.F Go.RowKit
set_option linter.unusedVariables false
set_option linter.unusedSimpArgs false
set_option maxRecDepth 100000
set_option maxHeartbeats 2000000
attribute [local irreducible] Res.cells Res.row Res.map Res.any World.cell? World.frozen? Instr.fieldAt Instr.loadAt Instr.storeAt Instr.indexAt Instr.lookup Instr.mapUpdate Instr.box Instr.build Instr.buildSlice Instr.extract Instr.alloc Instr.field Instr.index Instr.sliceAt Instr.makeSlice Instr.makeMap Instr.makeFunc binS Op.unary Sem.run
abbrev nRow (A : Option Addr) (c : Nat) (l : List ByteArray) : Res := Res.row 9 1 (.slice A l.length c) l.length (l.map Value.string)
abbrev encFl (f : Fl) : List Value := [.string f.name, .string f.sure, .string f.loose]
abbrev flRow (A : Option Addr) (c : Nat) (l : List Fl) : Res := Res.row 42 3 (.slice A l.length c) l.length (l.flatMap encFl)
theorem encFl_len : ∀ g, (encFl g).length = 3 := fun _ => rfl
theorem encFl_one : ∀ x, ∀ u ∈ encFl x, u.oneCell' = true := fun x u hu => by
  simp only [List.mem_cons, List.not_mem_nil, or_false] at hu
  rcases hu with rfl | rfl | rfl <;> rfl
abbrev names (l : List Fl) : List ByteArray := l.map Fl.name
section
variable {w0 w : World} {F : List Nat} {L : List Res} {K : Value → World → Prop}
theorem sorted_ok (k : Nat) {mb : Nat} {X : List (Fl × Nat)} (hU : UpL (X.map Prod.fst)) (hX : X.length ≤ 256) (hS : St w0 F w L) (hk : L[k]? = some (mapD mb X)) (h : ∀ A c w', St w0 F w' (nRow A c (names (X.map Prod.fst)) :: L) → K (.slice A (names (X.map Prod.fst)).length c) w') : callP Tryd.prog (fnV 36) #[.map (some mb)] w fun t w => callP Tryd.prog (fnV 35) #[t] w K := by
  obtain ⟨es, h1, h2, h3, h4⟩ := hS.mapT k hk
  refine call_ok (by kernel_rfl) (Calls.mono (callsIn_wide.1 (Tryd.maps_Keys_36 (some mb) w)) fun e w1 ⟨he, hw⟩ => ⟨_, he, ?_⟩)
  subst hw
  have hlen : es.length = X.length := by rw [h2.length_eq, List.length_map, List.length_map]
  have hsz : Go.Maps.size (DataW.map es) = X.length := hlen
  refine call_ok (by kernel_rfl) (Calls.mono (callsIn_wide.1 (Tryd.slices_Sorted_keys_35_36 mb _ (.map es) PtrE w h1 (by rw [hsz]; unfold maxLen; omega) (by rw [hsz]; omega))) fun e w2 ⟨v, ss, he, hp, hrow, _, hb⟩ => ⟨v, he, ?_⟩)
  have hS1 := (hS.alloc 59 [.map (some mb)]).tail
  generalize w.alloc (.cells [Value.map (some mb)].toArray 59) = w1 at *
  have hp2 : ss.Perm ((X.map nb).map fun p => lst p.1) := by
    refine hp.trans ?_
    have := h2.map (fun p => strOf p.1)
    rw [List.map_map] at this
    exact this
  rw [sorted_keys (up_nb hU) hp2] at hrow
  have e1 : ((X.map nb).map fun p => lst p.1).map encStr = (names (X.map Prod.fst)).map Value.string := by
    simp only [names, List.map_map]
    refine List.map_congr_left fun p _ => ?_
    simp only [Function.comp_apply, encStr, lst]
  have e2 : ss.length = (names (X.map Prod.fst)).length := by
    rw [hp2.length_eq]
    simp [names]
  rw [e1, e2] at hrow
  have hS2 := hS1.row_add (Chg.of_below hb _) hrow
  obtain ⟨A, c, rfl, _⟩ := hS2.row_form 0 rfl
  exact h A c w2 hS2
theorem names_get {X : List (Fl × Nat)} {i : Nat} (hi : i < X.length) : ((names (X.map Prod.fst)).map Value.string)[i]? = some (.string X[i].1.name) := by
  simp [names, hi]
theorem files_ret {b : Nat} {D : Dk} {size : Nat} (hO : Ok size D) (hD : Dsk w0 F L b D w) : Ret Tryd.prog 20 #[ptr b] w fun v w' => ∃ A c, v = .slice A D.L.length c ∧ Dsk w0 F (flRow A c D.L :: L) b D w' := by
  obtain ⟨mb, X, hX, hS⟩ := hD
  have hU : UpL (X.map Prod.fst) := hX ▸ hO.up
  have hlen : X.length = D.L.length := by rw [← hX, List.length_map]
  have hl := hO.len
  have hnd := (up_nb hU).nd
  refine s20 _ ?_
  unfold m20 m20_0 m20_1
  have hS := hS.row_nil 42 3
  unfold m20_2
  first | refine valP_ok (eq23n _ _ _) ?_ | refine valP_ok (eq23s _ _ _ _) ?_
  unfold m20_13
  refine cond_f rfl ?_
  unfold m20_3
  refine nil_ok ?_
  first | refine valP_ok (fa61_0 _ _) ?_ | refine valP_ok (fao61_0 _ _ _) ?_
  first | refine valP_ok (ld59 (hS.cell 0 rfl rfl)) ?_ | refine valP_ok (ld59 (hS.cell 1 rfl rfl)) ?_ | refine valP_ok (ld59 (hS.cell 2 rfl rfl)) ?_ | refine valP_ok (ld59 (hS.cell 3 rfl rfl)) ?_ | refine valP_ok (ld59 (hS.cell 4 rfl rfl)) ?_ | refine valP_ok (ld59 (hS.cell 5 rfl rfl)) ?_ | refine valP_ok (ld59 (hS.cell 6 rfl rfl)) ?_ | refine valP_ok (ld59 (hS.cell 7 rfl rfl)) ?_ | refine valP_ok (ld59 (by assumption)) ?_
  refine sorted_ok 2 hU (by omega) hS rfl ?_
  clear hS
  intro An cn w hS
  have hnl : (names (X.map Prod.fst)).length = X.length := by simp [names]
  refine builtin_ok (len22 _) ?_
  rw [hnl]
  unfold m20_6
  refine loop_in (fun u w' => ∃ (i : Nat) (A : Option Addr) (c : Nat), u = (.slice A ((X.map Prod.fst).take i).length c, .int .i64 (i : Int)) ∧ i ≤ X.length ∧ St w0 F w' (flRow A c ((X.map Prod.fst).take i) :: nRow An cn (names (X.map Prod.fst)) :: dCell b (.map (some mb)) D.room D.fuse D.off :: mapD mb X :: (X.map fileR ++ L))) (fun u _ => X.length - (intOf u.2).toNat) ⟨0, none, 0, rfl, by omega, hS.perm (.swap _ _ _)⟩ ?_
  clear hS
  rintro u w ⟨i, A, c, rfl, hi, hS⟩
  simp only
  have hti : ((X.map Prod.fst).take i).length = i := by rw [List.length_take, List.length_map]; omega
  unfold m20_7
  refine valP_ok (lss_ok _ _ _ _ _ _ _) ?_
  unfold m20_8
  refine cond_split (fun h => ?_) (fun h => ?_)
  · have hil : i < X.length := by omega
    have hnx : (X.map Prod.fst).take (i + 1) = (X.map Prod.fst).take i ++ [X[i].1] := by
      rw [List.take_succ_eq_append_getElem (by simpa using hil)]
      simp
    have hns : X[i].1.name.size ≤ 24 := hO.names _ (by rw [← hX]; exact List.mem_map.2 ⟨_, List.getElem_mem hil, rfl⟩)
    have hfind : Assoc.find (X.map nb) X[i].1.name = some X[i].2 := Assoc.find_mem hnd (q := nb X[i]) (List.mem_map.2 ⟨_, List.getElem_mem hil, rfl⟩)
    have hrow : (flRow A c ((X.map Prod.fst).take i) :: nRow An cn (names (X.map Prod.fst)) :: dCell b (.map (some mb)) D.room D.fuse D.off :: mapD mb X :: (X.map fileR ++ L))[1]? = some (nRow An cn (names (X.map Prod.fst))) := rfl
    have hR : Rd w 1 An (names (X.map Prod.fst)).length ((names (X.map Prod.fst)).map Value.string) := hS.row_rd 1 hrow
    obtain ⟨gn, on, rfl⟩ := hR.some_ (by omega) (by omega)
    unfold m20_9
    refine valP_ok (ix22 hil _) ?_
    refine valP_ok (ld9 (hR.cell_ (names_get hil))) ?_
    unfold m20_11
    refine nil_ok ?_
    first | refine valP_ok (fa61_0 _ _) ?_ | refine valP_ok (fao61_0 _ _ _) ?_
    first | refine valP_ok (ld59 (hS.cell 0 rfl rfl)) ?_ | refine valP_ok (ld59 (hS.cell 1 rfl rfl)) ?_ | refine valP_ok (ld59 (hS.cell 2 rfl rfl)) ?_ | refine valP_ok (ld59 (hS.cell 3 rfl rfl)) ?_ | refine valP_ok (ld59 (hS.cell 4 rfl rfl)) ?_ | refine valP_ok (ld59 (hS.cell 5 rfl rfl)) ?_ | refine valP_ok (ld59 (hS.cell 6 rfl rfl)) ?_ | refine valP_ok (ld59 (hS.cell 7 rfl rfl)) ?_ | refine valP_ok (ld59 (by assumption)) ?_
    refine valP_ok ((hS.mapT 3 rfl).lookup Tryd.underlying9 Tryd.underlying59 (zero63 _) (by unfold maxLen; omega)) ?_
    rw [hfind]
    unfold m20_12
    refine drawn_ok hS ?_
    intro w hS
    refine held_Hs (hS.pick 2 [1] (by simp) (by decide)) ?_
    have hfa : (nRow (some ⟨gn, on, none⟩) cn (names (X.map Prod.fst)) :: dCell b (.map (some mb)) D.room D.fuse D.off :: mapD mb X :: (X.map fileR ++ L))[i + 3]? = some (fileR X[i]) := by
      rw [List.getElem?_cons_succ]
      exact fileAt hil L _ _
    refine nil_ok ?_
    refine valJ_ok (fun w => fa65_0 _ _) ?_
    refine valJ_load ld9 (Hs.cell (i + 3) hfa (i := 0) rfl) ?_
    refine nil_ok ?_
    refine valJ_ok (fun w => fa65_1 _ _) ?_
    refine valJ_load ld9 (Hs.cell (i + 3) hfa (i := 1) rfl) ?_
    refine valJ_ok (bd42_0_1_2 rfl rfl rfl) ?_
    refine newslice_ok (bs38_1 _) hS ?_
    intro b38 w hS
    refine stay_Hs (hS.pick 3 [2] (by simp) (by decide)) (fun _ h => h) ?_
    refine append_one1 (enc := encFl) 0 X[i].1 sl38 encFl_len encFl_one (by unfold maxLen; omega) (by omega) hS rfl ?_
    intro A' c' w hS
    simp only [List.set_cons_zero] at hS
    refine stay_Hs (hS.pick 2 [1] (by simp) (by decide)) (fun _ h => h) ?_
    unfold m20_10
    refine valP_ok (add_ok _ _ _ (by omega) (by omega) _) ?_
    rw [← hnx] at hS ⊢
    exact ⟨⟨i + 1, A', c', rfl, by omega, hS⟩, by simp [intOf]; omega⟩
  · obtain rfl : i = X.length := by omega
    have e : (X.map Prod.fst).take X.length = D.L := by rw [← hX, List.take_of_length_le (by simp)]
    rw [e] at hS ⊢
    unfold m20_4 m20_5
    exact ⟨A, c, rfl, mb, X, hX, St.push ((hS.pick 4 [0, 2, 3] (by simp) (by decide)))⟩
end

end Go.Proofs.YtcldjjmfpmkldaaDoor.M
