/- Crash. -/
import Derived.Test.YtcldjjmfpmkldaaDoorD9
import Derived.Test.YtcldjjmfpmkldaaDoorFwW
import Derived.Test.YtcldjjmfpmkldaaDoorFwB
import Derived.Test.YtcldjjmfpmkldaaDoorFwM
import Derived.Test.YtcldjjmfpmkldaaDoorMtrim0
import Derived.Test.YtcldjjmfpmkldaaDoorMdisk0
import Derived.Test.YtcldjjmfpmkldaaDoorMmore0
namespace Go.Proofs.YtcldjjmfpmkldaaDoor.M
open Go.Proofs.YtcldjjmfpmkldaaDoor.F Go.RowKit
set_option linter.unusedVariables false
set_option linter.unusedSimpArgs false
set_option maxRecDepth 100000
set_option maxHeartbeats 2000000
attribute [local irreducible] Res.cells Res.row Res.map Res.any World.cell? World.frozen? Instr.fieldAt Instr.loadAt Instr.storeAt Instr.indexAt Instr.lookup Instr.mapUpdate Instr.box Instr.build Instr.buildSlice Instr.extract Instr.alloc Instr.field Instr.index Instr.sliceAt Instr.makeSlice Instr.makeMap Instr.makeFunc binS Op.unary Sem.run
/-- so many bytes are kept of a file. -/
def kN (keep : List Int) (i n : Nat) : Nat := if h : i < keep.length then (max 0 (min keep[i] (n : Int))).toNat else 0
def crOne (keep : List Int) (i : Nat) (f : Fl) : Fl := ⟨f.name, f.sure ++ f.loose.extract 0 (kN keep i f.loose.size), ⟨#[]⟩⟩
def crs (keep : List Int) (l : List Fl) : Nat → List Fl
  | 0 => l
  | i + 1 => if h : i < (crs keep l i).length then (crs keep l i).set i (crOne keep i (crs keep l i)[i]) else crs keep l i
def crashD (D : Dk) (keep : List Int) : Dk := ⟨crs keep D.L D.L.length, D.room + used D.L - used (crs keep D.L D.L.length), -1, false⟩
theorem kN_le (keep : List Int) (i n : Nat) : kN keep i n ≤ n := by
  unfold kN
  split <;> omega
theorem crs_len (keep : List Int) (l : List Fl) : ∀ i, (crs keep l i).length = l.length
  | 0 => rfl
  | i + 1 => by
    unfold crs
    split
    · rw [List.length_set, crs_len keep l i]
    · exact crs_len keep l i
theorem crs_names (keep : List Int) (l : List Fl) : ∀ i, names (crs keep l i) = names l
  | 0 => rfl
  | i + 1 => by
    have ih := crs_names keep l i
    unfold crs
    split
    · rename_i h
      unfold names at *
      rw [List.map_set, ← ih]
      have : (crOne keep i (crs keep l i)[i]).name = ((crs keep l i).map Fl.name)[i]'(by simpa using h) := by simp [crOne]
      rw [this, List.set_getElem_self]
    · exact ih
theorem crs_get (keep : List Int) (l : List Fl) : ∀ i j (hj : j < (crs keep l i).length) (hj2 : j < l.length), (crs keep l i)[j] = if j < i then crOne keep j l[j] else l[j]
  | 0, j, hj, hj2 => by rw [if_neg (by omega)]; rfl
  | i + 1, j, hj, hj2 => by
    have hl := crs_len keep l i
    have e : crs keep l (i + 1) = if h : i < (crs keep l i).length then (crs keep l i).set i (crOne keep i (crs keep l i)[i]) else crs keep l i := rfl
    by_cases h : i < (crs keep l i).length
    · rw [dif_pos h] at e
      simp only [e]
      rw [List.getElem_set]
      have ih1 := crs_get keep l i i h (by omega)
      have ih2 := crs_get keep l i j (by omega) hj2
      split
      · rename_i e2
        subst e2
        rw [ih1, if_neg (by omega), if_pos (by omega)]
      · rename_i e2
        rw [ih2]
        by_cases g : j < i
        · rw [if_pos g, if_pos (by omega)]
        · rw [if_neg g, if_neg (by omega)]
    · rw [dif_neg h] at e
      simp only [e]
      have ih2 := crs_get keep l i j (by omega) hj2
      rw [ih2, if_pos (by omega), if_pos (by omega)]
theorem used_set {l : List Fl} {i : Nat} (hi : i < l.length) (f : Fl) : used (l.set i f) + blk l[i].sz = used l + blk f.sz := by
  induction l generalizing i with
  | nil => simp at hi
  | cons q l ih =>
    cases i with
    | zero =>
      simp only [List.set_cons_zero, used, List.map_cons, List.sum_cons, List.getElem_cons_zero]
      omega
    | succ i =>
      have h2 := ih (i := i) (by simpa using hi)
      simp only [List.set_cons_succ, used, List.map_cons, List.sum_cons, List.getElem_cons_succ] at h2 ⊢
      omega
theorem names_up {l l' : List Fl} (h : names l = names l') (hU : UpL l) : UpL l' := by
  have h1 : UpL l ↔ (names l).Pairwise (fun a b => lst a < lst b) := by unfold UpL names; rw [List.pairwise_map]
  have h2 : UpL l' ↔ (names l').Pairwise (fun a b => lst a < lst b) := by unfold UpL names; rw [List.pairwise_map]
  rw [h2, ← h, ← h1]
  exact hU
section
variable {w0 w : World} {F : List Nat} {L : List Res} {b : Nat} {D : Dk} {size : Nat}
theorem crash_ret {keep : List Int} {A : Option Addr} {c : Nat} (hk : keep.length ≤ 1000000) (hO : Ok size D) (hE : Bes w0 F L 1 A keep.length (keep.map (Value.int .i64))) (hD : Dsk w0 F L b D w) : Ret Tryd.prog 14 #[ptr b, .slice A keep.length c] w fun v w' => Dsk w0 F L b (crashD D keep) w' := by
  obtain ⟨mb, X0, hX0, hS⟩ := hD
  have hU0 : UpL (X0.map Prod.fst) := hX0 ▸ hO.up
  have hlen0 : X0.length = D.L.length := by rw [← hX0, List.length_map]
  have hl := hO.len
  have hroom := hO.room
  have hsize := hO.size
  have hsum := hO.sum
  refine s14 _ _ ?_
  unfold m14
  unfold m14_0
  first | refine valP_ok (eq23n _ _ _) ?_ | refine valP_ok (eq23s _ _ _ _) ?_
  unfold m14_15
  refine cond_f rfl ?_
  unfold m14_1
  refine nil_ok ?_
  first | refine valP_ok (fa61_0 _ _) ?_ | refine valP_ok (fao61_0 _ _ _) ?_
  first | refine valP_ok (ld59 (hS.cell 0 rfl rfl)) ?_ | refine valP_ok (ld59 (hS.cell 1 rfl rfl)) ?_ | refine valP_ok (ld59 (hS.cell 2 rfl rfl)) ?_ | refine valP_ok (ld59 (hS.cell 3 rfl rfl)) ?_ | refine valP_ok (ld59 (hS.cell 4 rfl rfl)) ?_ | refine valP_ok (ld59 (hS.cell 5 rfl rfl)) ?_ | refine valP_ok (ld59 (hS.cell 6 rfl rfl)) ?_ | refine valP_ok (ld59 (hS.cell 7 rfl rfl)) ?_ | refine valP_ok (ld59 (by assumption)) ?_
  refine sorted_ok 1 hU0 (by omega) hS rfl ?_
  clear hS
  intro An cn w hS
  have hnn : names (X0.map Prod.fst) = names D.L := by rw [hX0]
  rw [hnn] at hS ⊢
  have hnl : (names D.L).length = D.L.length := by simp [names]
  refine builtin_ok (len22 _) ?_
  unfold m14_3
  refine loop_in (fun u w' => ∃ (i : Nat) (X : List (Fl × Nat)), u = .int .i64 (i : Int) ∧ i ≤ D.L.length ∧ X.map Prod.fst = crs keep D.L i ∧ St w0 F w' (dCell b (.map (some mb)) (D.room + used D.L - used (crs keep D.L i)) D.fuse D.off :: mapD mb X :: (X.map fileR ++ (nRow An cn (names D.L) :: L)))) (fun u _ => D.L.length - (intOf u).toNat) ⟨0, X0, rfl, by omega, hX0, by
    have := St.push hS
    simp only [crs]
    rw [show D.room + (used D.L : Int) - used D.L = D.room by omega]
    exact this⟩ ?_
  clear hS hlen0 hU0 hX0 hnn
  rintro u w ⟨i, X, rfl, hi, hX, hS⟩
  have hcl := crs_len keep D.L i
  have hXl : X.length = D.L.length := by rw [← hcl, ← hX, List.length_map]
  have hU : UpL (X.map Prod.fst) := names_up (by rw [hX, crs_names]) hO.up
  unfold m14_4
  refine valP_ok (lss_ok _ _ _ _ _ _ _) ?_
  unfold m14_5
  refine cond_split (fun h => ?_) (fun h => ?_)
  · have hil : i < X.length := by omega
    have hiD : i < D.L.length := by omega
    have hic : i < (crs keep D.L i).length := by omega
    have hXi : X[i].1 = D.L[i] := by
      have h1 := crs_get keep D.L i i hic hiD
      rw [if_neg (by omega)] at h1
      rw [← h1]
      have : (X.map Prod.fst)[i]'(by simpa using hil) = X[i].1 := by simp
      rw [← this]
      simp only [hX]
    have hXc : (crs keep D.L i)[i] = D.L[i] := by
      have h1 := crs_get keep D.L i i hic hiD
      rw [if_neg (by omega)] at h1
      exact h1
    have hfm : D.L[i] ∈ D.L := List.getElem_mem hiD
    have hns : X[i].1.name.size ≤ 24 := by rw [hXi]; exact hO.names _ hfm
    have hsz := hO.sz hfm
    have hsz' : D.L[i].sure.size + D.L[i].loose.size = D.L[i].sz := rfl
    have hfind : Assoc.find (X.map nb) X[i].1.name = some X[i].2 := Assoc.find_mem (up_nb hU).nd (q := nb X[i]) (List.mem_map.2 ⟨_, List.getElem_mem hil, rfl⟩)
    have hnm : ((names D.L).map Value.string)[i]? = some (.string X[i].1.name) := by
      rw [hXi]
      simp [names, hiD]
    have hR : Rd w 1 An (names D.L).length ((names D.L).map Value.string) := by
      have h1 : (nRow An cn (names D.L)) ∈ (dCell b (.map (some mb)) (D.room + used D.L - used (crs keep D.L i)) D.fuse D.off :: mapD mb X :: (X.map fileR ++ (nRow An cn (names D.L) :: L))) := .tail _ (.tail _ (List.mem_append_right _ (.head _)))
      obtain ⟨k, hk⟩ := List.mem_iff_getElem?.1 h1
      exact hS.row_rd k hk
    obtain ⟨gn, on, rfl⟩ := hR.some_ (by omega) (by omega)
    unfold m14_6
    refine valP_ok (ix22 (by omega) _) ?_
    refine valP_ok (ld9 (hR.cell_ hnm)) ?_
    unfold m14_8
    refine nil_ok ?_
    first | refine valP_ok (fa61_0 _ _) ?_ | refine valP_ok (fao61_0 _ _ _) ?_
    first | refine valP_ok (ld59 (hS.cell 0 rfl rfl)) ?_ | refine valP_ok (ld59 (hS.cell 1 rfl rfl)) ?_ | refine valP_ok (ld59 (hS.cell 2 rfl rfl)) ?_ | refine valP_ok (ld59 (hS.cell 3 rfl rfl)) ?_ | refine valP_ok (ld59 (hS.cell 4 rfl rfl)) ?_ | refine valP_ok (ld59 (hS.cell 5 rfl rfl)) ?_ | refine valP_ok (ld59 (hS.cell 6 rfl rfl)) ?_ | refine valP_ok (ld59 (hS.cell 7 rfl rfl)) ?_ | refine valP_ok (ld59 (by assumption)) ?_
    refine valP_ok ((hS.mapT 1 rfl).lookup Tryd.underlying9 Tryd.underlying59 (zero63 _) (by unfold maxLen; omega)) ?_
    rw [hfind]
    have hS := St.focus hil hS
    have hu2 := used_set hic (crOne keep i D.L[i])
    have hu3 : used (crs keep D.L (i + 1)) + blk D.L[i].sz = used (crs keep D.L i) + blk (crOne keep i D.L[i]).sz := by
      have e : crs keep D.L (i + 1) = if h : i < (crs keep D.L i).length then (crs keep D.L i).set i (crOne keep i (crs keep D.L i)[i]) else crs keep D.L i := rfl
      rw [e, dif_pos hic, hXc]
      rw [hXc] at hu2
      exact hu2
    have hcrL : crs keep D.L (i + 1) = (X.set i (crOne keep i D.L[i], X[i].2)).map Prod.fst := by
      have e : crs keep D.L (i + 1) = if h : i < (crs keep D.L i).length then (crs keep D.L i).set i (crOne keep i (crs keep D.L i)[i]) else crs keep D.L i := rfl
      rw [e, dif_pos hic, hXc, List.map_set, hX]
    have hbl := blk_le hsz
    have hkn := kN_le keep i D.L[i].loose.size
    have hfz : (D.L[i].sure ++ D.L[i].loose.extract 0 (kN keep i D.L[i].loose.size)).size = D.L[i].sure.size + kN keep i D.L[i].loose.size := by rw [ByteArray.size_append, ext_size _ _ _ hkn]; omega
    have hcz : (crOne keep i D.L[i]).sz = D.L[i].sure.size + kN keep i D.L[i].loose.size := by
      show (D.L[i].sure ++ D.L[i].loose.extract 0 (kN keep i D.L[i].loose.size)).size + (⟨#[]⟩ : ByteArray).size = _
      rw [hfz]
      rfl
    have hbl2 := blk_le (n := (crOne keep i D.L[i]).sz) (by omega)
    have hui : (used (crs keep D.L i) : Int) ≤ D.room + used D.L := by
      have h1 : ∀ j, used (crs keep D.L j) ≤ used D.L := fun j => by
        induction j with
        | zero => exact Nat.le_refl _
        | succ j ih =>
          by_cases hj : j < (crs keep D.L j).length
          · have e : crs keep D.L (j + 1) = (crs keep D.L j).set j (crOne keep j (crs keep D.L j)[j]) := dif_pos hj
            have h2 := used_set hj (crOne keep j (crs keep D.L j)[j])
            rw [← e] at h2
            have h3 : blk (crOne keep j (crs keep D.L j)[j]).sz ≤ blk (crs keep D.L j)[j].sz := by
              have hkj := kN_le keep j (crs keep D.L j)[j].loose.size
              have : (crOne keep j (crs keep D.L j)[j]).sz ≤ (crs keep D.L j)[j].sz := by
                show ((crs keep D.L j)[j].sure ++ (crs keep D.L j)[j].loose.extract 0 (kN keep j (crs keep D.L j)[j].loose.size)).size + (⟨#[]⟩ : ByteArray).size ≤ (crs keep D.L j)[j].sure.size + (crs keep D.L j)[j].loose.size
                rw [ByteArray.size_append, ext_size _ _ _ hkj, show (⟨#[]⟩ : ByteArray).size = 0 from rfl]
                omega
              unfold blk
              omega
            omega
          · have e : crs keep D.L (j + 1) = crs keep D.L j := dif_neg hj
            rw [e]
            exact ih
      have := h1 i
      omega
    have last : ∀ w K1, St w0 F w (dCell b (.map (some mb)) (D.room + used D.L - used (crs keep D.L (i + 1))) D.fuse D.off :: fileR (crOne keep i D.L[i], X[i].2) :: mapD mb X :: ((X.eraseIdx i).map fileR ++ (nRow (some ⟨gn, on, none⟩) cn (names D.L) :: L))) → (∀ w' X', X'.map Prod.fst = crs keep D.L (i + 1) → St w0 F w' (dCell b (.map (some mb)) (D.room + used D.L - used (crs keep D.L (i + 1))) D.fuse D.off :: mapD mb X' :: (X'.map fileR ++ (nRow (some ⟨gn, on, none⟩) cn (names D.L) :: L))) → K1 (.int .i64 ((i + 1 : Nat) : Int)) w') → m14_7 (fun v w' => Dsk w0 F L b (crashD D keep) w') K1 (ptr b) (.slice A keep.length c) (.slice (some ⟨gn, on, none⟩) (names D.L).length cn) (.int .i64 ((names D.L).length : Int)) (.int .i64 (i : Int)) w := fun w K1 hS hK => by
      unfold m14_7
      refine valP_ok (add_ok _ _ _ (by omega) (by omega) _) ?_
      have h1 := St.unfocus hil (crOne keep i D.L[i], X[i].2) hS
      have hnb := nb_set (f' := crOne keep i D.L[i]) hil (by rw [hXi]; rfl)
      have hmap : mapD mb X = mapD mb (X.set i (crOne keep i D.L[i], X[i].2)) := by unfold mapD; rw [hnb]
      rw [hmap] at h1
      exact hK w _ hcrL.symm h1
    have main : ∀ w K1, St w0 F w (dCell b (.map (some mb)) (D.room + used D.L - used (crs keep D.L i)) D.fuse D.off :: fileR X[i] :: mapD mb X :: ((X.eraseIdx i).map fileR ++ (nRow (some ⟨gn, on, none⟩) cn (names D.L) :: L))) → (∀ w' X', X'.map Prod.fst = crs keep D.L (i + 1) → St w0 F w' (dCell b (.map (some mb)) (D.room + used D.L - used (crs keep D.L (i + 1))) D.fuse D.off :: mapD mb X' :: (X'.map fileR ++ (nRow (some ⟨gn, on, none⟩) cn (names D.L) :: L))) → K1 (.int .i64 ((i + 1 : Nat) : Int)) w') → m14_11 (fun v w' => Dsk w0 F L b (crashD D keep) w') K1 (ptr b) (.slice A keep.length c) (ptr X[i].2) (.int .i64 (kN keep i D.L[i].loose.size : Int)) (.slice (some ⟨gn, on, none⟩) (names D.L).length cn) (.int .i64 ((names D.L).length : Int)) (.int .i64 (i : Int)) w := fun w K1 hS hK => by
      rw [show fileR X[i] = fCell X[i].2 D.L[i].sure D.L[i].loose by unfold fileR; rw [hXi]] at hS
      have t3 : ∀ w, St w0 F w (dCell b (.map (some mb)) (D.room + used D.L - used (crs keep D.L i) + blk D.L[i].sz) D.fuse D.off :: fileR (crOne keep i D.L[i], X[i].2) :: mapD mb X :: ((X.eraseIdx i).map fileR ++ (nRow (some ⟨gn, on, none⟩) cn (names D.L) :: L))) → m14_13 (fun v w' => Dsk w0 F L b (crashD D keep) w') K1 (ptr b) (.slice A keep.length c) (ptr X[i].2) (.slice (some ⟨gn, on, none⟩) (names D.L).length cn) (.int .i64 ((names D.L).length : Int)) (.int .i64 (i : Int)) w := fun w hS => by
        have e3 : D.room + used D.L - used (crs keep D.L i) + blk D.L[i].sz - blk (crOne keep i D.L[i]).sz = D.room + used D.L - used (crs keep D.L (i + 1)) := by omega
        unfold m14_13
        refine drawn_ok hS ?_
        intro w hS
        refine nil_ok ?_
        first | refine pureP_ok (fa61_1 _) ?_ | refine pureP_ok (fao61_1 _ _) ?_
        refine ⟨?_, ?_⟩
        · first | refine valP_ok (ld3 (hS.cell 0 rfl rfl)) ?_ | refine valP_ok (ld3 (hS.cell 1 rfl rfl)) ?_ | refine valP_ok (ld3 (hS.cell 2 rfl rfl)) ?_ | refine valP_ok (ld3 (hS.cell 3 rfl rfl)) ?_ | refine valP_ok (ld3 (hS.cell 4 rfl rfl)) ?_ | refine valP_ok (ld3 (hS.cell 5 rfl rfl)) ?_ | refine valP_ok (ld3 (hS.cell 6 rfl rfl)) ?_ | refine valP_ok (ld3 (hS.cell 7 rfl rfl)) ?_ | refine valP_ok (ld3 (by assumption)) ?_
          refine callR (by kernel_rfl) (size_ret (g := X[i].2) (a := (crOne keep i D.L[i]).sure) (c := (crOne keep i D.L[i]).loose) 1 (by have := hcz; unfold Fl.sz at this; omega) rfl hS) ?_
          rintro _ w ⟨rfl, hS⟩
          refine callR (by kernel_rfl) (blocks_ret (n := (crOne keep i D.L[i]).sz) (by omega) hS) ?_
          rintro _ w ⟨rfl, hS⟩
          refine pureP_ok (sub_ok _ _ _ (by omega) (by omega)) ?_
          refine nil_ok ?_
          first | refine pureP_ok (fa61_1 _) ?_ | refine pureP_ok (fao61_1 _ _) ?_
          first | refine store_at 0 st3 hS rfl (by simp) rfl ?_ | refine store_at 1 st3 hS rfl (by simp) rfl ?_ | refine store_at 2 st3 hS rfl (by simp) rfl ?_ | refine store_at 3 st3 hS rfl (by simp) rfl ?_ | refine store_at 4 st3 hS rfl (by simp) rfl ?_ | refine store_at 5 st3 hS rfl (by simp) rfl ?_ | refine store_at 6 st3 hS rfl (by simp) rfl ?_ | refine store_at 7 st3 hS rfl (by simp) rfl ?_
          intro w hS
          simp only [List.set_cons_zero, List.set_cons_succ] at hS
          rw [e3] at hS
          exact last _ _ hS hK
        · refine callR (by kernel_rfl) (size_ret (g := X[i].2) (a := (crOne keep i D.L[i]).sure) (c := (crOne keep i D.L[i]).loose) 1 (by have := hcz; unfold Fl.sz at this; omega) rfl hS) ?_
          rintro _ w ⟨rfl, hS⟩
          refine ⟨?_, ?_⟩
          · first | refine valP_ok (ld3 (hS.cell 0 rfl rfl)) ?_ | refine valP_ok (ld3 (hS.cell 1 rfl rfl)) ?_ | refine valP_ok (ld3 (hS.cell 2 rfl rfl)) ?_ | refine valP_ok (ld3 (hS.cell 3 rfl rfl)) ?_ | refine valP_ok (ld3 (hS.cell 4 rfl rfl)) ?_ | refine valP_ok (ld3 (hS.cell 5 rfl rfl)) ?_ | refine valP_ok (ld3 (hS.cell 6 rfl rfl)) ?_ | refine valP_ok (ld3 (hS.cell 7 rfl rfl)) ?_ | refine valP_ok (ld3 (by assumption)) ?_
            refine callR (by kernel_rfl) (blocks_ret (n := (crOne keep i D.L[i]).sz) (by omega) hS) ?_
            rintro _ w ⟨rfl, hS⟩
            refine pureP_ok (sub_ok _ _ _ (by omega) (by omega)) ?_
            refine nil_ok ?_
            first | refine pureP_ok (fa61_1 _) ?_ | refine pureP_ok (fao61_1 _ _) ?_
            first | refine store_at 0 st3 hS rfl (by simp) rfl ?_ | refine store_at 1 st3 hS rfl (by simp) rfl ?_ | refine store_at 2 st3 hS rfl (by simp) rfl ?_ | refine store_at 3 st3 hS rfl (by simp) rfl ?_ | refine store_at 4 st3 hS rfl (by simp) rfl ?_ | refine store_at 5 st3 hS rfl (by simp) rfl ?_ | refine store_at 6 st3 hS rfl (by simp) rfl ?_ | refine store_at 7 st3 hS rfl (by simp) rfl ?_
            intro w hS
            simp only [List.set_cons_zero, List.set_cons_succ] at hS
            rw [e3] at hS
            exact last _ _ hS hK
          · refine callR (by kernel_rfl) (blocks_ret (n := (crOne keep i D.L[i]).sz) (by omega) hS) ?_
            rintro _ w ⟨rfl, hS⟩
            first | refine valP_ok (ld3 (hS.cell 0 rfl rfl)) ?_ | refine valP_ok (ld3 (hS.cell 1 rfl rfl)) ?_ | refine valP_ok (ld3 (hS.cell 2 rfl rfl)) ?_ | refine valP_ok (ld3 (hS.cell 3 rfl rfl)) ?_ | refine valP_ok (ld3 (hS.cell 4 rfl rfl)) ?_ | refine valP_ok (ld3 (hS.cell 5 rfl rfl)) ?_ | refine valP_ok (ld3 (hS.cell 6 rfl rfl)) ?_ | refine valP_ok (ld3 (hS.cell 7 rfl rfl)) ?_ | refine valP_ok (ld3 (by assumption)) ?_
            refine pureP_ok (sub_ok _ _ _ (by omega) (by omega)) ?_
            refine nil_ok ?_
            first | refine pureP_ok (fa61_1 _) ?_ | refine pureP_ok (fao61_1 _ _) ?_
            first | refine store_at 0 st3 hS rfl (by simp) rfl ?_ | refine store_at 1 st3 hS rfl (by simp) rfl ?_ | refine store_at 2 st3 hS rfl (by simp) rfl ?_ | refine store_at 3 st3 hS rfl (by simp) rfl ?_ | refine store_at 4 st3 hS rfl (by simp) rfl ?_ | refine store_at 5 st3 hS rfl (by simp) rfl ?_ | refine store_at 6 st3 hS rfl (by simp) rfl ?_ | refine store_at 7 st3 hS rfl (by simp) rfl ?_
            intro w hS
            simp only [List.set_cons_zero, List.set_cons_succ] at hS
            rw [e3] at hS
            exact last _ _ hS hK
      have t2 : ∀ w, St w0 F w (dCell b (.map (some mb)) (D.room + used D.L - used (crs keep D.L i) + blk D.L[i].sz) D.fuse D.off :: fCell X[i].2 D.L[i].sure D.L[i].loose :: mapD mb X :: ((X.eraseIdx i).map fileR ++ (nRow (some ⟨gn, on, none⟩) cn (names D.L) :: L))) → m14_12 (fun v w' => Dsk w0 F L b (crashD D keep) w') K1 (ptr b) (.slice A keep.length c) (ptr X[i].2) (.int .i64 (kN keep i D.L[i].loose.size : Int)) (.slice (some ⟨gn, on, none⟩) (names D.L).length cn) (.int .i64 ((names D.L).length : Int)) (.int .i64 (i : Int)) w := fun w hS => by
        have hadd : D.L[i].sure.size + (D.L[i].loose.extract 0 (kN keep i D.L[i].loose.size)).size ≤ 9223372036854775807 := by rw [ext_size _ _ _ hkn]; omega
        unfold m14_12
        refine drawn_ok hS ?_
        intro w hS
        refine nil_ok ?_
        first | refine pureP_ok (fa65_0 _) ?_ | refine pureP_ok (fao65_0 _ _) ?_
        refine nil_ok ?_
        first | refine pureP_ok (fa65_1 _) ?_ | refine pureP_ok (fao65_1 _ _) ?_
        refine ⟨?_, ?_⟩
        · first | refine valP_ok (ld9 (hS.cell 0 rfl rfl)) ?_ | refine valP_ok (ld9 (hS.cell 1 rfl rfl)) ?_ | refine valP_ok (ld9 (hS.cell 2 rfl rfl)) ?_ | refine valP_ok (ld9 (hS.cell 3 rfl rfl)) ?_ | refine valP_ok (ld9 (hS.cell 4 rfl rfl)) ?_ | refine valP_ok (ld9 (hS.cell 5 rfl rfl)) ?_ | refine valP_ok (ld9 (hS.cell 6 rfl rfl)) ?_ | refine valP_ok (ld9 (hS.cell 7 rfl rfl)) ?_ | refine valP_ok (ld9 (by assumption)) ?_
          first | refine valP_ok (ld9 (hS.cell 0 rfl rfl)) ?_ | refine valP_ok (ld9 (hS.cell 1 rfl rfl)) ?_ | refine valP_ok (ld9 (hS.cell 2 rfl rfl)) ?_ | refine valP_ok (ld9 (hS.cell 3 rfl rfl)) ?_ | refine valP_ok (ld9 (hS.cell 4 rfl rfl)) ?_ | refine valP_ok (ld9 (hS.cell 5 rfl rfl)) ?_ | refine valP_ok (ld9 (hS.cell 6 rfl rfl)) ?_ | refine valP_ok (ld9 (hS.cell 7 rfl rfl)) ?_ | refine valP_ok (ld9 (by assumption)) ?_
          refine pureP_ok (fun w => sto w hkn) ?_
          refine pureP_ok (fun w => sadd _ _ hadd w) ?_
          refine nil_ok ?_
          first | refine pureP_ok (fa65_0 _) ?_ | refine pureP_ok (fao65_0 _ _) ?_
          first | refine store_at 0 st9 hS rfl (by simp) rfl ?_ | refine store_at 1 st9 hS rfl (by simp) rfl ?_ | refine store_at 2 st9 hS rfl (by simp) rfl ?_ | refine store_at 3 st9 hS rfl (by simp) rfl ?_ | refine store_at 4 st9 hS rfl (by simp) rfl ?_ | refine store_at 5 st9 hS rfl (by simp) rfl ?_ | refine store_at 6 st9 hS rfl (by simp) rfl ?_ | refine store_at 7 st9 hS rfl (by simp) rfl ?_
          intro w hS
          simp only [List.set_cons_zero, List.set_cons_succ] at hS
          refine nil_ok ?_
          first | refine pureP_ok (fa65_1 _) ?_ | refine pureP_ok (fao65_1 _ _) ?_
          first | refine store_at 0 st9 hS rfl (by simp) rfl ?_ | refine store_at 1 st9 hS rfl (by simp) rfl ?_ | refine store_at 2 st9 hS rfl (by simp) rfl ?_ | refine store_at 3 st9 hS rfl (by simp) rfl ?_ | refine store_at 4 st9 hS rfl (by simp) rfl ?_ | refine store_at 5 st9 hS rfl (by simp) rfl ?_ | refine store_at 6 st9 hS rfl (by simp) rfl ?_ | refine store_at 7 st9 hS rfl (by simp) rfl ?_
          intro w hS
          simp only [List.set_cons_zero, List.set_cons_succ] at hS
          exact t3 _ hS
        · first | refine valP_ok (ld9 (hS.cell 0 rfl rfl)) ?_ | refine valP_ok (ld9 (hS.cell 1 rfl rfl)) ?_ | refine valP_ok (ld9 (hS.cell 2 rfl rfl)) ?_ | refine valP_ok (ld9 (hS.cell 3 rfl rfl)) ?_ | refine valP_ok (ld9 (hS.cell 4 rfl rfl)) ?_ | refine valP_ok (ld9 (hS.cell 5 rfl rfl)) ?_ | refine valP_ok (ld9 (hS.cell 6 rfl rfl)) ?_ | refine valP_ok (ld9 (hS.cell 7 rfl rfl)) ?_ | refine valP_ok (ld9 (by assumption)) ?_
          refine pureP_ok (fun w => sto w hkn) ?_
          first | refine valP_ok (ld9 (hS.cell 0 rfl rfl)) ?_ | refine valP_ok (ld9 (hS.cell 1 rfl rfl)) ?_ | refine valP_ok (ld9 (hS.cell 2 rfl rfl)) ?_ | refine valP_ok (ld9 (hS.cell 3 rfl rfl)) ?_ | refine valP_ok (ld9 (hS.cell 4 rfl rfl)) ?_ | refine valP_ok (ld9 (hS.cell 5 rfl rfl)) ?_ | refine valP_ok (ld9 (hS.cell 6 rfl rfl)) ?_ | refine valP_ok (ld9 (hS.cell 7 rfl rfl)) ?_ | refine valP_ok (ld9 (by assumption)) ?_
          refine pureP_ok (fun w => sadd _ _ hadd w) ?_
          refine nil_ok ?_
          first | refine pureP_ok (fa65_0 _) ?_ | refine pureP_ok (fao65_0 _ _) ?_
          first | refine store_at 0 st9 hS rfl (by simp) rfl ?_ | refine store_at 1 st9 hS rfl (by simp) rfl ?_ | refine store_at 2 st9 hS rfl (by simp) rfl ?_ | refine store_at 3 st9 hS rfl (by simp) rfl ?_ | refine store_at 4 st9 hS rfl (by simp) rfl ?_ | refine store_at 5 st9 hS rfl (by simp) rfl ?_ | refine store_at 6 st9 hS rfl (by simp) rfl ?_ | refine store_at 7 st9 hS rfl (by simp) rfl ?_
          intro w hS
          simp only [List.set_cons_zero, List.set_cons_succ] at hS
          refine nil_ok ?_
          first | refine pureP_ok (fa65_1 _) ?_ | refine pureP_ok (fao65_1 _ _) ?_
          first | refine store_at 0 st9 hS rfl (by simp) rfl ?_ | refine store_at 1 st9 hS rfl (by simp) rfl ?_ | refine store_at 2 st9 hS rfl (by simp) rfl ?_ | refine store_at 3 st9 hS rfl (by simp) rfl ?_ | refine store_at 4 st9 hS rfl (by simp) rfl ?_ | refine store_at 5 st9 hS rfl (by simp) rfl ?_ | refine store_at 6 st9 hS rfl (by simp) rfl ?_ | refine store_at 7 st9 hS rfl (by simp) rfl ?_
          intro w hS
          simp only [List.set_cons_zero, List.set_cons_succ] at hS
          exact t3 _ hS
      unfold m14_11
      refine drawn_ok hS ?_
      intro w hS
      refine nil_ok ?_
      first | refine pureP_ok (fa61_1 _) ?_ | refine pureP_ok (fao61_1 _ _) ?_
      refine ⟨?_, ?_⟩
      · first | refine valP_ok (ld3 (hS.cell 0 rfl rfl)) ?_ | refine valP_ok (ld3 (hS.cell 1 rfl rfl)) ?_ | refine valP_ok (ld3 (hS.cell 2 rfl rfl)) ?_ | refine valP_ok (ld3 (hS.cell 3 rfl rfl)) ?_ | refine valP_ok (ld3 (hS.cell 4 rfl rfl)) ?_ | refine valP_ok (ld3 (hS.cell 5 rfl rfl)) ?_ | refine valP_ok (ld3 (hS.cell 6 rfl rfl)) ?_ | refine valP_ok (ld3 (hS.cell 7 rfl rfl)) ?_ | refine valP_ok (ld3 (by assumption)) ?_
        refine callR (by kernel_rfl) (size_ret 1 (by omega) rfl hS) ?_
        rintro _ w ⟨rfl, hS⟩
        refine callR (by kernel_rfl) (blocks_ret (n := D.L[i].sz) (by omega) hS) ?_
        rintro _ w ⟨rfl, hS⟩
        refine pureP_ok (add_ok _ _ _ (by omega) (by omega)) ?_
        refine nil_ok ?_
        first | refine pureP_ok (fa61_1 _) ?_ | refine pureP_ok (fao61_1 _ _) ?_
        first | refine store_at 0 st3 hS rfl (by simp) rfl ?_ | refine store_at 1 st3 hS rfl (by simp) rfl ?_ | refine store_at 2 st3 hS rfl (by simp) rfl ?_ | refine store_at 3 st3 hS rfl (by simp) rfl ?_ | refine store_at 4 st3 hS rfl (by simp) rfl ?_ | refine store_at 5 st3 hS rfl (by simp) rfl ?_ | refine store_at 6 st3 hS rfl (by simp) rfl ?_ | refine store_at 7 st3 hS rfl (by simp) rfl ?_
        intro w hS
        simp only [List.set_cons_zero, List.set_cons_succ] at hS
        exact t2 _ hS
      · refine callR (by kernel_rfl) (size_ret 1 (by omega) rfl hS) ?_
        rintro _ w ⟨rfl, hS⟩
        refine ⟨?_, ?_⟩
        · first | refine valP_ok (ld3 (hS.cell 0 rfl rfl)) ?_ | refine valP_ok (ld3 (hS.cell 1 rfl rfl)) ?_ | refine valP_ok (ld3 (hS.cell 2 rfl rfl)) ?_ | refine valP_ok (ld3 (hS.cell 3 rfl rfl)) ?_ | refine valP_ok (ld3 (hS.cell 4 rfl rfl)) ?_ | refine valP_ok (ld3 (hS.cell 5 rfl rfl)) ?_ | refine valP_ok (ld3 (hS.cell 6 rfl rfl)) ?_ | refine valP_ok (ld3 (hS.cell 7 rfl rfl)) ?_ | refine valP_ok (ld3 (by assumption)) ?_
          refine callR (by kernel_rfl) (blocks_ret (n := D.L[i].sz) (by omega) hS) ?_
          rintro _ w ⟨rfl, hS⟩
          refine pureP_ok (add_ok _ _ _ (by omega) (by omega)) ?_
          refine nil_ok ?_
          first | refine pureP_ok (fa61_1 _) ?_ | refine pureP_ok (fao61_1 _ _) ?_
          first | refine store_at 0 st3 hS rfl (by simp) rfl ?_ | refine store_at 1 st3 hS rfl (by simp) rfl ?_ | refine store_at 2 st3 hS rfl (by simp) rfl ?_ | refine store_at 3 st3 hS rfl (by simp) rfl ?_ | refine store_at 4 st3 hS rfl (by simp) rfl ?_ | refine store_at 5 st3 hS rfl (by simp) rfl ?_ | refine store_at 6 st3 hS rfl (by simp) rfl ?_ | refine store_at 7 st3 hS rfl (by simp) rfl ?_
          intro w hS
          simp only [List.set_cons_zero, List.set_cons_succ] at hS
          exact t2 _ hS
        · refine callR (by kernel_rfl) (blocks_ret (n := D.L[i].sz) (by omega) hS) ?_
          rintro _ w ⟨rfl, hS⟩
          first | refine valP_ok (ld3 (hS.cell 0 rfl rfl)) ?_ | refine valP_ok (ld3 (hS.cell 1 rfl rfl)) ?_ | refine valP_ok (ld3 (hS.cell 2 rfl rfl)) ?_ | refine valP_ok (ld3 (hS.cell 3 rfl rfl)) ?_ | refine valP_ok (ld3 (hS.cell 4 rfl rfl)) ?_ | refine valP_ok (ld3 (hS.cell 5 rfl rfl)) ?_ | refine valP_ok (ld3 (hS.cell 6 rfl rfl)) ?_ | refine valP_ok (ld3 (hS.cell 7 rfl rfl)) ?_ | refine valP_ok (ld3 (by assumption)) ?_
          refine pureP_ok (add_ok _ _ _ (by omega) (by omega)) ?_
          refine nil_ok ?_
          first | refine pureP_ok (fa61_1 _) ?_ | refine pureP_ok (fao61_1 _ _) ?_
          first | refine store_at 0 st3 hS rfl (by simp) rfl ?_ | refine store_at 1 st3 hS rfl (by simp) rfl ?_ | refine store_at 2 st3 hS rfl (by simp) rfl ?_ | refine store_at 3 st3 hS rfl (by simp) rfl ?_ | refine store_at 4 st3 hS rfl (by simp) rfl ?_ | refine store_at 5 st3 hS rfl (by simp) rfl ?_ | refine store_at 6 st3 hS rfl (by simp) rfl ?_ | refine store_at 7 st3 hS rfl (by simp) rfl ?_
          intro w hS
          simp only [List.set_cons_zero, List.set_cons_succ] at hS
          exact t2 _ hS
    unfold m14_9
    unfold m14_10
    refine builtin_ok (len46 _) ?_
    refine valP_ok (lss_ok _ _ _ _ _ _ _) ?_
    unfold m14_14
    refine cond_split (fun h5 => ?_) (fun h5 => ?_)
    · have hik : i < keep.length := by omega
      have hEw : Rd w 1 A keep.length (keep.map (Value.int .i64)) := hE w _ hS (fun r hr => .tail _ (.tail _ (.tail _ (List.mem_append_right _ (.tail _ hr)))))
      obtain ⟨gk, ok, rfl⟩ := hEw.some_ (by omega) (by omega)
      have c1 := hS.cell 1 rfl (i := 1) rfl
      refine valQ_ok (ix46 hik) ?_
      refine valQ_load ld3 (hEw.cell_ (by rw [List.getElem?_map, List.getElem?_eq_getElem hik]; rfl)) ?_
      refine nil_ok ?_
      refine valQ_ok (fun w => fa65_1 _ _) ?_
      refine valQ_load ld9 c1 ?_
      refine builtinQ_ok (len9) ?_
      refine builtinQ_ok (min_run _ _) ?_
      refine builtinQ_ok (max_run _ _) ?_
      refine drawn_ok hS ?_
      intro w hS
      have ek : max 0 (min keep[i] (X[i].1.loose.size : Int)) = (kN keep i D.L[i].loose.size : Int) := by
        unfold kN
        rw [dif_pos hik, hXi]
        omega
      rw [ek]
      exact main _ _ hS (fun w' X' h1 h2 => ⟨⟨i + 1, X', rfl, by omega, h1, h2⟩, by simp [intOf]; omega⟩)
    · have ek : (0 : Int) = (kN keep i D.L[i].loose.size : Int) := by
        unfold kN
        rw [dif_neg (by omega)]
        rfl
      rw [ek]
      exact main _ _ hS (fun w' X' h1 h2 => ⟨⟨i + 1, X', rfl, by omega, h1, h2⟩, by simp [intOf]; omega⟩)
  · obtain rfl : i = D.L.length := by omega
    unfold m14_2
    refine nil_ok ?_
    first | refine valP_ok (fa61_3 _ _) ?_ | refine valP_ok (fao61_3 _ _ _) ?_
    first | refine store_at 0 st4 hS rfl (by simp) rfl ?_ | refine store_at 1 st4 hS rfl (by simp) rfl ?_ | refine store_at 2 st4 hS rfl (by simp) rfl ?_ | refine store_at 3 st4 hS rfl (by simp) rfl ?_ | refine store_at 4 st4 hS rfl (by simp) rfl ?_ | refine store_at 5 st4 hS rfl (by simp) rfl ?_ | refine store_at 6 st4 hS rfl (by simp) rfl ?_ | refine store_at 7 st4 hS rfl (by simp) rfl ?_
    intro w hS
    simp only [List.set_cons_zero, List.set_cons_succ] at hS
    refine nil_ok ?_
    first | refine valP_ok (fa61_2 _ _) ?_ | refine valP_ok (fao61_2 _ _ _) ?_
    first | refine store_at 0 st3 hS rfl (by simp) rfl ?_ | refine store_at 1 st3 hS rfl (by simp) rfl ?_ | refine store_at 2 st3 hS rfl (by simp) rfl ?_ | refine store_at 3 st3 hS rfl (by simp) rfl ?_ | refine store_at 4 st3 hS rfl (by simp) rfl ?_ | refine store_at 5 st3 hS rfl (by simp) rfl ?_ | refine store_at 6 st3 hS rfl (by simp) rfl ?_ | refine store_at 7 st3 hS rfl (by simp) rfl ?_
    intro w hS
    simp only [List.set_cons_zero, List.set_cons_succ] at hS
    exact Dsk.pop ⟨mb, X, hX, hS⟩
end

end Go.Proofs.YtcldjjmfpmkldaaDoor.M
