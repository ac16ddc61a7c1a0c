/- Copy. -/
import Derived.Test.YtcldjjmfpmkldaaDoorD22
import Derived.Test.YtcldjjmfpmkldaaDoorFwL
import Derived.Test.YtcldjjmfpmkldaaDoorFwW
import Derived.Test.YtcldjjmfpmkldaaDoorFwB
import Derived.Test.YtcldjjmfpmkldaaDoorFwM
import Derived.Test.YtcldjjmfpmkldaaDoorMtrim0
import Derived.Test.YtcldjjmfpmkldaaDoorMdisk0
import Derived.Test.YtcldjjmfpmkldaaDoorMmore0
namespace Go.Proofs.YtcldjjmfpmkldaaDoor.M
open Go.Proofs.YtcldjjmfpmkldaaDoor.F Go.RowKit
set_option linter.unusedVariables false
set_option linter.unusedSimpArgs false
set_option maxRecDepth 100000
set_option maxHeartbeats 2000000
attribute [local irreducible] Res.cells Res.row Res.map Res.any World.cell? World.frozen? Instr.fieldAt Instr.loadAt Instr.storeAt Instr.indexAt Instr.lookup Instr.mapUpdate Instr.box Instr.build Instr.buildSlice Instr.extract Instr.alloc Instr.field Instr.index Instr.sliceAt Instr.makeSlice Instr.makeMap Instr.makeFunc binS Op.unary Sem.run
theorem up_ext : ∀ {l m : List Fl}, UpL l → UpL m → (∀ f, f ∈ l ↔ f ∈ m) → l = m
  | [], [], _, _, _ => rfl
  | [], y :: m, _, _, h => by cases (h y).2 (.head _)
  | x :: l, [], _, _, h => by cases (h x).1 (.head _)
  | x :: l, y :: m, hl, hm, h => by
    have hl' := List.pairwise_cons.1 hl
    have hm' := List.pairwise_cons.1 hm
    have e : x = y := by
      rcases List.mem_cons.1 ((h x).1 (.head _)) with e | h1
      · exact e
      · rcases List.mem_cons.1 ((h y).2 (.head _)) with e | h2
        · exact e.symm
        · exact absurd (List.lt_trans (hm'.1 x h1) (hl'.1 y h2)) (List.lt_irrefl _)
    subst e
    refine congrArg _ (up_ext hl'.2 hm'.2 fun f => ⟨fun hf => ?_, fun hf => ?_⟩)
    · rcases List.mem_cons.1 ((h f).1 (.tail _ hf)) with e | h1
      · subst e; exact absurd (hl'.1 f hf) (List.lt_irrefl _)
      · exact h1
    · rcases List.mem_cons.1 ((h f).2 (.tail _ hf)) with e | h1
      · subst e; exact absurd (hm'.1 f hf) (List.lt_irrefl _)
      · exact h1
section
variable {w0 w : World} {F : List Nat} {L : List Res} {b : Nat} {D : Dk} {size : Nat}
theorem copy_ret (hO : Ok size D) (hD : Dsk w0 F L b D w) : Ret Tryd.prog 25 #[ptr b] w fun v w' => ∃ b' mb X, v = ptr b' ∧ X.map Prod.fst = D.L ∧ Dsk w0 F (dCell b (.map (some mb)) D.room D.fuse D.off :: mapD mb X :: (X.map fileR ++ L)) b' D w' := by
  obtain ⟨mb, X, hX, hS⟩ := hD
  have hU : UpL (X.map Prod.fst) := hX ▸ hO.up
  have hDl := hO.len
  have hXl : X.length = D.L.length := by rw [← hX, List.length_map]
  refine s25 _ ?_
  unfold m25
  unfold m25_0
  unfold m25_1
  first | refine valP_ok (eq23n _ _ _) ?_ | refine valP_ok (eq23s _ _ _ _) ?_
  unfold m25_12
  refine cond_f rfl ?_
  unfold m25_2
  refine nil_ok ?_
  refine valP_ok (ld61 (hS.cell 0 rfl (i := 0) rfl) (hS.cell 0 rfl (i := 1) rfl) (hS.cell 0 rfl (i := 2) rfl) (hS.cell 0 rfl (i := 3) rfl)) ?_
  refine new_ok (al61 _) hS ?_
  intro b3 w hS
  first | refine ss61 0 hS rfl rfl rfl rfl rfl ?_ | refine ss61 1 hS rfl rfl rfl rfl rfl ?_ | refine ss61 2 hS rfl rfl rfl rfl rfl ?_ | refine ss61 3 hS rfl rfl rfl rfl rfl ?_ | refine ss61 4 hS rfl rfl rfl rfl rfl ?_ | refine ss61 5 hS rfl rfl rfl rfl rfl ?_ | refine ss61 6 hS rfl rfl rfl rfl rfl ?_ | refine ss61 7 hS rfl rfl rfl rfl rfl ?_
  intro w hS
  simp only [List.set_cons_zero, List.set_cons_succ] at hS
  unfold m25_3
  refine makeMapT_ok 9 hS ?_
  intro mc w hS
  first | refine valP_ok (fa61_0 _ _) ?_ | refine valP_ok (fao61_0 _ _ _) ?_
  refine store_at (i := 0) 1 st59 hS rfl (by simp) rfl ?_
  intro w hS
  simp only [List.set_cons_zero, List.set_cons_succ] at hS
  unfold m25_4
  refine nil_ok ?_
  first | refine valP_ok (fa61_0 _ _) ?_ | refine valP_ok (fao61_0 _ _ _) ?_
  first | refine valP_ok (ld59 (hS.cell 0 rfl rfl)) ?_ | refine valP_ok (ld59 (hS.cell 1 rfl rfl)) ?_ | refine valP_ok (ld59 (hS.cell 2 rfl rfl)) ?_ | refine valP_ok (ld59 (hS.cell 3 rfl rfl)) ?_ | refine valP_ok (ld59 (hS.cell 4 rfl rfl)) ?_ | refine valP_ok (ld59 (hS.cell 5 rfl rfl)) ?_ | refine valP_ok (ld59 (hS.cell 6 rfl rfl)) ?_ | refine valP_ok (ld59 (hS.cell 7 rfl rfl)) ?_ | refine valP_ok (ld59 (by assumption)) ?_
  refine rangeT_ok 3 hS rfl Tryd.underlying9 Tryd.underlying59 ?_
  intro r m w hm hS
  simp only [List.set_cons_zero, List.set_cons_succ] at hS
  unfold m25_7
  have hXn : (X.map nb).length = X.length := List.length_map _
  refine loop_in (fun _ w' => ∃ (Y : List (Fl × Nat)) (B : Assoc) (m : Nat), UpL (Y.map Prod.fst) ∧ (∀ f, f ∈ Y.map Prod.fst ↔ f ∈ D.L ∧ ∀ q ∈ B, q.1 ≠ f.name) ∧ Y.length + m ≤ X.length ∧ St w0 F w' (Res.mapT Tryd.prog 9 mc (Y.map nb) :: Res.cells b3 61 [.map (some mc), .int .i64 D.room, .int .i64 D.fuse, .bool D.off] :: dCell b (.map (some mb)) D.room D.fuse D.off :: Res.rangeT 9 mb r (X.map nb) B m :: (Y.map fileR ++ (X.map fileR ++ L)))) (fun _ w => w.rangeLeft mb r) ⟨[], X.map nb, m, .nil, fun f => ⟨fun h => (by cases h), fun ⟨h1, h2⟩ => ?_⟩, by rw [hXn] at hm; show 0 + m ≤ _; omega, hS⟩ ?_
  · rw [← hX] at h1
    obtain ⟨q, hq, rfl⟩ := List.mem_map.1 h1
    exact absurd rfl (h2 (nb q) (List.mem_map.2 ⟨q, hq, rfl⟩))
  clear hS hm
  rintro u w ⟨Y, B, m, hY, hmem, hlen, hS⟩
  unfold m25_8
  have hleft := St.rangeLeft 3 hS rfl
  refine nextT_ok 3 hS rfl Tryd.underlying9 (fun hB0 => ?_) (fun p hpB hpA m' w' hm hS' hen => ?_)
  · subst hB0
    have e : Y.map Prod.fst = D.L := up_ext hY hO.up (fun f => by rw [hmem f]; simp)
    have hS := St.rangeT_back 3 hS rfl
    simp only [List.set_cons_zero, List.set_cons_succ] at hS
    refine valP_ok (extract_ok _ 0 rfl _) ?_
    unfold m25_9
    refine cond_f rfl ?_
    unfold m25_5 m25_6
    refine ⟨b3, mb, X, rfl, hX, mc, Y, e, hS.perm ?_⟩
    refine (List.Perm.swap _ _ _).trans (((?_ : List.Perm _ _).cons _).cons _)
    exact (List.perm_middle.trans (List.perm_middle.cons _)).symm
  · simp only [List.set_cons_zero, List.set_cons_succ] at hS'
    obtain ⟨q, hq, rfl⟩ := List.mem_map.1 hpA
    obtain ⟨i, hi, rfl⟩ := List.mem_iff_getElem.1 hq
    clear hS
    have hS := hS'
    clear hS'
    refine valP_ok (extract_ok _ 0 rfl _) ?_
    unfold m25_9
    refine cond_t rfl ?_
    unfold m25_10
    refine valP_ok hen ?_
    refine valP_ok (extract_ok _ 0 rfl _) ?_
    refine valP_ok (extract_ok _ 1 rfl _) ?_
    show m25_11 _ _ (ptr b3) (.string X[i].1.name) (ptr X[i].2) (ptr r) w'
    have hfm : X[i].1 ∈ D.L := by rw [← hX]; exact List.mem_map.2 ⟨_, hq, rfl⟩
    have hne := fun (f : Fl) (hf : f ∈ D.L) (e : f.name = X[i].1.name) => by
      have h1 := getF_mem hO.up hf
      have h2 := getF_mem hO.up hfm
      rw [e, h2] at h1
      exact (Option.some.inj h1).symm
    have hnot : ∀ f ∈ Y.map Prod.fst, f.name ≠ X[i].1.name := fun f hf e => ((hmem f).1 hf).2 _ hpB e.symm
    have hfa : (Res.cells b3 61 [.map (some mc), .int .i64 D.room, .int .i64 D.fuse, .bool D.off] :: dCell b (.map (some mb)) D.room D.fuse D.off :: Res.rangeT 9 mb r (X.map nb) (B.filter (fun q => decide (q.1 ≠ (nb X[i]).1))) m' :: (Y.map fileR ++ (X.map fileR ++ L)))[Y.length + i + 3]? = some (fileR X[i]) := by
      simp only [List.getElem?_cons_succ]
      rw [List.getElem?_append_right (by rw [List.length_map]; omega), List.length_map, show Y.length + i - Y.length = i by omega, List.getElem?_append_left (by rw [List.length_map]; exact hi), List.getElem?_map, List.getElem?_eq_getElem hi]
      rfl
    have hnsz := hO.names _ hfm
    have hYf : (Y.map nb).filter (fun p => decide (p.1 ≠ X[i].1.name)) = Y.map nb := List.filter_eq_self.2 fun p hp => by
      obtain ⟨q, hq, rfl⟩ := List.mem_map.1 hp
      simpa using hnot q.1 (List.mem_map.2 ⟨q, hq, rfl⟩)
    have hYn : (Y.map nb).length = Y.length := List.length_map _
    unfold m25_11
    refine drawn_ok hS ?_
    intro w hS
    refine held_Hs hS.tail ?_
    refine valJ_ok (fun w => fa61_0 _ _) ?_
    refine valJ_load ld59 (Hs.cell 0 rfl (i := 0) rfl) ?_
    refine nil_ok ?_
    refine valJ_ok (fun w => fa65_0 _ _) ?_
    refine valJ_load ld9 (Hs.cell (Y.length + i + 3) hfa (i := 0) rfl) ?_
    refine nil_ok ?_
    refine valJ_ok (fun w => fa65_1 _ _) ?_
    refine valJ_load ld9 (Hs.cell (Y.length + i + 3) hfa (i := 1) rfl) ?_
    refine valJ_ok (bd65_0_1 rfl rfl) ?_
    refine new_ok (bx65 _ _ _) hS ?_
    intro b35 w hS
    refine stay_Hs hS.tail.tail (fun _ h => h) ?_
    have hp := insX_perm (X[i].1, b35) Y
    refine putT_at 1 ((insX (X[i].1, b35) Y).map nb) hS rfl Tryd.underlying9 Tryd.underlying59 (by unfold maxLen; omega) (by unfold maxLen; omega) (by rw [hYf]; exact hp.map nb) ?_
    intro w hS
    simp only [List.set_cons_zero, List.set_cons_succ] at hS
    refine stay_Hs hS.tail.tail (fun _ h => h) ?_
    have hl2 := St.rangeLeft 4 hS rfl
    have hil : (insX (X[i].1, b35) Y).length = Y.length + 1 := hp.length_eq
    refine ⟨⟨insX (X[i].1, b35) Y, B.filter (fun q => decide (q.1 ≠ X[i].1.name)), m', by rw [insX_map]; exact insF_up hY hnot, fun f => ?_, by omega, hS.perm ?_⟩, by rw [hleft, hl2]; exact hm⟩
    · rw [insX_map, (insF_perm _ _).mem_iff, List.mem_cons]
      constructor
      · rintro (rfl | h)
        · exact ⟨hfm, fun q hq => of_decide_eq_true (List.mem_filter.1 hq).2⟩
        · exact ⟨((hmem f).1 h).1, fun q hq => ((hmem f).1 h).2 q (List.mem_filter.1 hq).1⟩
      · rintro ⟨hfD, hall⟩
        by_cases e : f.name = X[i].1.name
        · exact .inl (hne f hfD e)
        · refine .inr ((hmem f).2 ⟨hfD, fun q hq e2 => ?_⟩)
          refine hall q (List.mem_filter.2 ⟨hq, decide_eq_true fun e3 => e ?_⟩) e2
          rw [← e2, e3]
    · refine (List.Perm.swap _ _ _).trans (List.Perm.cons _ ((List.Perm.swap _ _ _).trans (List.Perm.cons _ ((List.Perm.swap _ _ _).trans (List.Perm.cons _ ((List.Perm.swap _ _ _).trans (List.Perm.cons _ ?_)))))))
      exact ((hp.map fileR).append_right _).symm
end

end Go.Proofs.YtcldjjmfpmkldaaDoor.M
