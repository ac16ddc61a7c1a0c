/- DiskRoom: blocks that are free, and those that the files take, are together as many as the disk has. -/
import Derived.Test.YtcldjjmfpmkldaaDoorD14
import Derived.Test.YtcldjjmfpmkldaaDoorFwL
import Derived.Test.YtcldjjmfpmkldaaDoorFwW
import Derived.Test.YtcldjjmfpmkldaaDoorFwB
import Derived.Test.YtcldjjmfpmkldaaDoorFwM
import Derived.Test.YtcldjjmfpmkldaaDoorMtrim0
import Derived.Test.YtcldjjmfpmkldaaDoorMdisk0
import Derived.Test.YtcldjjmfpmkldaaDoorMmore0
import Derived.Test.YtcldjjmfpmkldaaDoorMlaw0
import Derived.Test.YtcldjjmfpmkldaaDoorMall0
import Derived.Test.YtcldjjmfpmkldaaDoorMall1
namespace Go.Proofs.YtcldjjmfpmkldaaDoor.M
open Go.Proofs.YtcldjjmfpmkldaaDoor.F Go.RowKit
set_option linter.unusedVariables false
set_option linter.unusedSimpArgs false
set_option maxRecDepth 100000
set_option maxHeartbeats 2000000
attribute [local irreducible] Res.cells Res.row Res.map Res.any World.cell? World.frozen? Instr.fieldAt Instr.loadAt Instr.storeAt Instr.indexAt Instr.lookup Instr.mapUpdate Instr.box Instr.build Instr.buildSlice Instr.extract Instr.alloc Instr.field Instr.index Instr.sliceAt Instr.makeSlice Instr.makeMap Instr.makeFunc binS Op.unary Sem.run
section
variable {w0 w : World} {F : List Nat} {L : List Res} {l : List De} {A : Option Addr} {c b size : Nat} {D : Dk}
theorem Dsk.gone (h : Dsk w0 F L b D w) : St w0 F w L := by
  obtain ⟨mb, X, hX, hS⟩ := h
  exact hS.sub (List.Sublist.cons _ (List.Sublist.cons _ (List.sublist_append_right _ L)))
theorem dsk_row {A' : Option Addr} {c' : Nat} {ls : List Fl} (h : Dsk w0 F (flRow A' c' ls :: L) b D w) : Rd w 3 A' ls.length (ls.flatMap encFl) := (Dsk.gone h).row_rd 0 rfl
theorem used_take {l : List Fl} {i : Nat} (h : i < l.length) : used (l.take (i + 1)) = used (l.take i) + blk l[i].sz := by
  unfold used
  rw [List.take_succ_eq_append_getElem h, List.map_append, List.sum_append, List.map_singleton, List.sum_singleton]
theorem used_le (l : List Fl) (i : Nat) : used (l.take i) ≤ used l := by
  conv => rhs; rw [← List.take_append_drop i l]
  unfold used
  rw [List.map_append, List.sum_append]
  omega
theorem droom_ret {n : Int} (hc : l.length ≤ c) (hok : ∀ x ∈ l, DeOk w0 x) (hl : Rd w0 6 A l.length (l.flatMap encD)) : Ret Tryd.prog 4 #[.int .i64 n, .slice A l.length c] w0 fun v w' => v = .bool true ∧ Below w0.heap.size w0 w' := by
  have hS := St.start w0
  refine s4 _ _ ?_
  unfold m4 m4_0 m4_1
  refine callR (by kernel_rfl) (made_ret (n := n) hc hok hl hS) ?_
  intro v w hR
  by_cases hn : 1 ≤ n ∧ n ≤ 16384
  · rw [if_pos hn] at hR
    obtain ⟨b, rfl, hD⟩ := hR
    have hO : Ok n.toNat (runD ⟨[], n, -1, false⟩ (fewL l)) := (Ok.new hn).run (few_ok hok)
    generalize runD ⟨[], n, -1, false⟩ (fewL l) = D at *
    have hsum := hO.sum
    have hroom := hO.room
    have hlen := hO.len
    unfold m4_2
    first | refine valP_ok (eq23n _ _ _) ?_ | refine valP_ok (eq23s _ _ _ _) ?_
    unfold m4_13
    refine cond_f rfl ?_
    obtain ⟨mb, X, hX, hS⟩ := hD
    unfold m4_3
    refine callR (by kernel_rfl) (free_ret hS) ?_
    rintro _ w ⟨rfl, hS⟩
    unfold m4_4
    refine callR (by kernel_rfl) (files_ret hO ⟨mb, X, hX, hS⟩) ?_
    clear hS hX
    rintro _ w ⟨A1, c1, rfl, hD⟩
    unfold m4_5 m4_8
    refine loop_in (fun u w' => ∃ i : Nat, u = (.int .i64 (D.room + used (D.L.take i)), .int .i64 (i : Int)) ∧ i ≤ D.L.length ∧ Dsk w0 [] [flRow A1 c1 D.L] b D w') (fun u _ => D.L.length - (intOf u.2).toNat) ⟨0, by rw [show D.room + (used (D.L.take 0) : Int) = D.room from Int.add_zero _]; rfl, by omega, hD⟩ ?_
    clear hD
    rintro u w ⟨i, rfl, hi, hD⟩
    simp only
    unfold m4_9
    refine builtin_ok (len38 _) ?_
    refine valP_ok (lss_ok _ _ _ _ _ _ _) ?_
    unfold m4_12
    refine cond_split (fun h => ?_) (fun h => ?_)
    · have hil : i < D.L.length := by omega
      have hut := used_take hil
      have hul := used_le D.L (i + 1)
      have hsz := hO.sz (List.getElem_mem hil)
      have hsz' : D.L[i].sure.size + D.L[i].loose.size = D.L[i].sz := rfl
      obtain ⟨mb, X, hX, hS⟩ := hD
      have hB : BF w0 [] (X.map fileR ++ [flRow A1 c1 D.L]) A1 D.L := Bes.of_row (e := 42) (c := c1) X.length (by rw [List.getElem?_append_right (by simp)]; simp)
      obtain ⟨g, o, rfl⟩ := ((hB.rd2 hS)).some_ (by omega) (by omega)
      have p := fun w (hw : Hs w0 [] (dCell b (.map (some mb)) D.room D.fuse D.off :: mapD mb X :: (X.map fileR ++ [flRow (some ⟨g, o, none⟩) c1 D.L])) w) => f_at (Hs.rd ((hB.cons _).cons _) w hw) hil
      unfold m4_10
      refine drawn_ok hS ?_
      intro w hS
      refine held_Hs hS ?_
      refine valJ_ok (fun w => ix38 hil w) ?_
      refine valJ_ok (fun w => fao42_1 _ _ _) ?_
      refine valJ_at (fun w hw => ld9 (p w hw).2.1) ?_
      refine builtinJ_ok (len9) ?_
      refine valJ_ok (fun w => ix38 hil w) ?_
      refine valJ_ok (fun w => fao42_2 _ _ _) ?_
      refine valJ_at (fun w hw => ld9 (p w hw).2.2) ?_
      refine builtinJ_ok (len9) ?_
      refine valJ_ok (add_ok _ _ _ (by omega) (by omega)) ?_
      rw [show ((D.L[i].sure.size : Int) + (D.L[i].loose.size : Int)) = ((D.L[i].sz : Nat) : Int) by omega]
      refine callR (by kernel_rfl) (rblocks_ret (n := D.L[i].sz) (by omega) hS) ?_
      rintro _ w ⟨rfl, hS⟩
      refine stay_Hs hS (by first | exact fun _ h => h | exact fun _ h => .tail _ h | exact fun _ h => .tail _ (.tail _ h) | simp) ?_
      refine valJ_ok (add_ok _ _ _ (by omega) (by omega)) ?_
      rw [show D.room + (used (D.L.take i) : Int) + (blk D.L[i].sz : Int) = D.room + (used (D.L.take (i + 1)) : Int) by omega]
      unfold m4_11
      refine valP_ok (add_ok _ _ _ (by omega) (by omega) _) ?_
      exact ⟨⟨i + 1, rfl, by omega, mb, X, hX, hS⟩, by simp [intOf]; omega⟩
    · obtain rfl : i = D.L.length := by omega
      rw [List.take_length]
      unfold m4_6
      refine valP_ok (eq3 _ _ _ _ _) ?_
      refine cond_dt (by omega) ?_
      obtain ⟨mb, X, hX, hS⟩ := hD
      refine callR (by kernel_rfl) (free_ret hS) ?_
      rintro _ w ⟨rfl, hS⟩
      refine valP_ok (geq_ok _ _ _ _ _ _ _) ?_
      first | refine pick_dt (by first | assumption | omega) ?_ | refine pick_df (by first | assumption | omega) ?_ | refine pick_t (by first | rfl | assumption) ?_ | refine pick_f (by first | rfl | assumption) ?_ | refine pick_dt rfl ?_ | refine pick_df (not_not_intro rfl) ?_
      refine cond_dt (by omega) ?_
      refine builtin_ok (len38 _) ?_
      refine valP_ok (leq_ok _ _ _ _ _ _ _) ?_
      first | refine pick_dt (by first | assumption | omega) ?_ | refine pick_df (by first | assumption | omega) ?_ | refine pick_t (by first | rfl | assumption) ?_ | refine pick_f (by first | rfl | assumption) ?_ | refine pick_dt rfl ?_ | refine pick_df (not_not_intro rfl) ?_
      refine cond_dt (by omega) ?_
      refine callR (by kernel_rfl) (awake_ret hS) ?_
      rintro _ w ⟨rfl, hS⟩
      first | refine pick_dt (by first | assumption | omega) ?_ | refine pick_df (by first | assumption | omega) ?_ | refine pick_t (by first | rfl | assumption) ?_ | refine pick_f (by first | rfl | assumption) ?_ | refine pick_dt rfl ?_ | refine pick_df (not_not_intro rfl) ?_
      unfold m4_7
      exact ⟨rfl, hS.below⟩
  · rw [if_neg hn] at hR
    obtain ⟨rfl, hS⟩ := hR
    unfold m4_2
    first | refine valP_ok (eq23n _ _ _) ?_ | refine valP_ok (eq23s _ _ _ _) ?_
    unfold m4_13
    refine cond_t rfl ?_
    refine callR (by kernel_rfl) (awake_ret hS) ?_
    rintro _ w ⟨rfl, hS⟩
    unfold m4_14
    exact ⟨rfl, hS.below⟩
end

end Go.Proofs.YtcldjjmfpmkldaaDoor.M
