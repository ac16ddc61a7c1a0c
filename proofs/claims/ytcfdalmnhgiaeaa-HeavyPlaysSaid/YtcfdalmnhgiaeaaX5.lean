/- The tallies, the heavier ones first; a copy. -/
import Derived.Test.YtcfdalmnhgiaeaaX4
import Derived.Test.YtcfdalmnhgiaeaaGen
import Derived.Test.YtcfdalmnhgiaeaaFwS
namespace Go.Proofs.Ytcfdalmnhgiaeaa.M
open Go.Proofs.Ytcfdalmnhgiaeaa.F Go.RowKit
set_option linter.unusedVariables false
set_option linter.unusedSimpArgs false
set_option maxRecDepth 100000
set_option maxHeartbeats 2000000
attribute [local irreducible] Res.cells Res.row Res.map Res.any World.cell? World.frozen? Instr.fieldAt Instr.loadAt Instr.storeAt Instr.indexAt Instr.lookup Instr.mapUpdate Instr.box Instr.build Instr.buildSlice Instr.extract Instr.alloc Instr.field Instr.index Instr.sliceAt Instr.makeSlice Instr.makeMap Instr.makeFunc binS Op.unary Sem.run
open Go.Sort Go.Shelf
theorem top1_cmp : CmpK Try.prog 30 #[] encT topI := by
  intro a b W
  show Ret Try.prog 30 #[.agg #[.int .i64 a.key, .int .i64 a.n, .int .i64 a.over], .agg #[.int .i64 b.key, .int .i64 b.n, .int .i64 b.over]] W _
  have hS : StG W W [] := ⟨St.start W, Gr.refl W⟩
  refine s30 _ _ ?_
  unfold m30
  unfold m30_0
  refine new_okG (bx45 _ _ _ _) hS ?_
  intro b2 w hS
  refine new_okG (bx45 _ _ _ _) hS ?_
  intro b3 w hS
  unfold m30_1
  refine drawn_okG hS ?_
  intro w hS
  first | refine valS_ok (fa45_1 _ _) ?_ | refine valS_ok (fao45_1 _ _ _) ?_
  first | refine valS_ok (ld3 (hS.1.cell 0 rfl rfl)) ?_ | refine valS_ok (ld3 (hS.1.cell 1 rfl rfl)) ?_ | refine valS_ok (ld3 (hS.1.cell 2 rfl rfl)) ?_ | refine valS_ok (ld3 (hS.1.cell 3 rfl rfl)) ?_ | refine valS_ok (ld3 (hS.1.cell 4 rfl rfl)) ?_ | refine valS_ok (ld3 (by assumption)) ?_
  first | refine valS_ok (fa45_1 _ _) ?_ | refine valS_ok (fao45_1 _ _ _) ?_
  first | refine valS_ok (ld3 (hS.1.cell 0 rfl rfl)) ?_ | refine valS_ok (ld3 (hS.1.cell 1 rfl rfl)) ?_ | refine valS_ok (ld3 (hS.1.cell 2 rfl rfl)) ?_ | refine valS_ok (ld3 (hS.1.cell 3 rfl rfl)) ?_ | refine valS_ok (ld3 (hS.1.cell 4 rfl rfl)) ?_ | refine valS_ok (ld3 (by assumption)) ?_
  refine callSR (by kernel_rfl) (compare_ret _ _ _) ?_
  first | refine valS_ok (fa45_0 _ _) ?_ | refine valS_ok (fao45_0 _ _ _) ?_
  first | refine valS_ok (ld3 (hS.1.cell 0 rfl rfl)) ?_ | refine valS_ok (ld3 (hS.1.cell 1 rfl rfl)) ?_ | refine valS_ok (ld3 (hS.1.cell 2 rfl rfl)) ?_ | refine valS_ok (ld3 (hS.1.cell 3 rfl rfl)) ?_ | refine valS_ok (ld3 (hS.1.cell 4 rfl rfl)) ?_ | refine valS_ok (ld3 (by assumption)) ?_
  first | refine valS_ok (fa45_0 _ _) ?_ | refine valS_ok (fao45_0 _ _ _) ?_
  first | refine valS_ok (ld3 (hS.1.cell 0 rfl rfl)) ?_ | refine valS_ok (ld3 (hS.1.cell 1 rfl rfl)) ?_ | refine valS_ok (ld3 (hS.1.cell 2 rfl rfl)) ?_ | refine valS_ok (ld3 (hS.1.cell 3 rfl rfl)) ?_ | refine valS_ok (ld3 (hS.1.cell 4 rfl rfl)) ?_ | refine valS_ok (ld3 (by assumption)) ?_
  refine callSR (by kernel_rfl) (compare_ret _ _ _) ?_
  refine newslice_okG (bs22_2 rfl rfl _) hS ?_
  intro b15 w hS
  refine callR (by kernel_rfl) (or_ret _ _ [cmpI b.n a.n, cmpI a.key b.key] w (Rd.of_cells 0 hS.1 rfl rfl) (by simp)) ?_
  rintro v w ⟨rfl, rfl⟩
  unfold m30_2
  exact ⟨rfl, hS.2⟩
theorem topI_lt (a b : Ta) : ltOf topI a b = decide (b.n < a.n ∨ (a.n = b.n ∧ a.key < b.key)) := by
  unfold ltOf
  congr 1
  unfold topI cmpI
  simp only [orI]
  apply propext
  by_cases h1 : b.n < a.n
  · simp [h1]
  · by_cases h2 : a.n < b.n
    · simp [h1, h2]; omega
    · have : a.n = b.n := by omega
      simp only [this, Int.lt_irrefl, if_false, if_true, true_and, false_or]
      by_cases h3 : a.key < b.key
      · simp [h3]
      · by_cases h4 : b.key < a.key <;> simp [h3, h4]
theorem topI_swo : SWO (ltOf topI) where
  irrefl x := by rw [topI_lt]; simp
  trans x y z h1 h2 := by rw [topI_lt] at *; simp at *; omega
  ntrans x y z h1 h2 := by rw [topI_lt] at *; simp at *; omega
/-- Sorted, the heavier ones first. -/
def Heaviest (l : List Ta) : Prop := l.Pairwise fun a b => ltOf topI b a = false
theorem sort_ret {w0 w : World} {F : List Nat} {L : List Res} {A : Option Addr} {c : Nat} {l : List Ta} (p : Nat) (hl : l.length ≤ 64) (hS : St w0 F w L) (hp : L[p]? = some (hrow (.slice A l.length c) l)) :
    Ret Try.prog 29 #[.slice A l.length c, fnV 30] w fun v w' => ∃ l', l'.Perm l ∧ Heaviest l' ∧ St w0 F w' (L.set p (hrow (.slice A l'.length c) l')) := by
  rcases Nat.eq_zero_or_pos l.length with h0 | h0
  · have hnil : l = [] := List.eq_nil_of_length_eq_zero h0
    subst hnil
    have hc := AnyF.slices_SortFunc_none Try.sortT A c (fnV 30) w
    refine Calls.mono hc fun e w' h => ?_
    obtain ⟨he, hw⟩ := h
    refine ⟨_, he, [], .refl _, .nil, ?_⟩
    have hs : L.set p (hrow (.slice A ([] : List Ta).length c) []) = L := by
      obtain ⟨hlt, he⟩ := List.getElem?_eq_some_iff.1 hp
      rw [← he, List.set_getElem_self]
    rw [hs, hw]
    exact hS
  · obtain ⟨g, rfl⟩ := hS.row_ptr p hp h0
    have eg : ∀ args w, (callFunc 30 args).run Try.prog w = .ok (.enter 30 args) w := fun args w => callFunc_run (by kernel_rfl) args w
    have hH := holdsK_row encT 3 encT_len (by omega) p hS hp
    have hlt : g < w.heap.size := hS.lt _ (List.mem_of_getElem? hp) g (by unfold hrow Res.row; simp [Value.ownBlock])
    have hc := AnyQ.slices_SortFunc Try.sortT 3 (by intro w; kernel_rfl) (by intro w; kernel_rfl) encT encT_len (fun x v hv => by simp [encT] at hv; rcases hv with rfl | rfl | rfl <;> rfl) topI topI_swo 30 #[] g 0 c l.toArray w eg (top1_cmp.lays 3 g 0 l.toArray.size w) hH hlt (by simp; omega)
    refine Calls.mono hc fun e w' h => ?_
    obtain ⟨he, d', n, os, hpm, hso, hw⟩ := h
    have hperm := permIn_perm hpm
    have hsz : d'.size = l.length := by have := hpm.1; simpa using this
    refine ⟨_, he, d'.toList, by simpa using hperm, ?_, ?_⟩
    · have : SortedIn (ltOf topI) 0 d'.size d' := by rw [hsz]; simpa using hso
      exact sortedIn_pairwise this
    · have hown := hS.own_row p hp
      have hfl := flatK_list encT 3 encT_len (by omega) d'
      have h1 := own_putRow (q := n) (ys := d'.toList.flatMap encT) hown (by rw [flat_len _ _ encT_len, flat_len _ _ encT_len]; simp [hsz])
      rw [hw]
      have e1 : (d'.toList.flatMap encT).toArray = flatK encT 3 d' := by rw [← hfl]
      rw [e1] at h1
      have hch : Chg [g] w (sortWorldK encT 3 w g 0 n d' os) := (chg_putRow _ _ _ _ _ _).trans (chg_grow _ _ _)
      have hlen : d'.toList.length = l.length := by simp [hsz]
      have hb : (hrow (.slice (some ⟨g, 0, none⟩) d'.toList.length c) d'.toList).blks = [g] := by unfold hrow Res.row; simp [Value.ownBlock]
      have hb' : (hrow (.slice (some ⟨g, 0, none⟩) l.length c) l).blks = [g] := by unfold hrow Res.row; simp [Value.ownBlock]
      refine hS.updk p hp (by rw [hb']; exact hch) ?_ (fun x hx => .inl (by rw [hb']; rw [hb] at hx; exact hx)) (fun x hx => ?_)
      · unfold hrow Res.row
        show World.ownsRow _ 0 45 3 _ _ _
        rw [hlen]
        refine ⟨h1.1, h1.2.imp id fun ⟨g', cap, cur, a1, a2, a3, a4⟩ => ⟨g', cap, cur, a1, a2, ?_, a4⟩⟩
        have hg' : g' < (putRow id (Sort.ahead w n) g 0 (flatK encT 3 d')).heap.size := (Array.getElem?_eq_some_iff.1 a3).1
        show ((putRow id (Sort.ahead w n) g 0 (flatK encT 3 d')).heap ++ os)[g']? = _
        rw [Array.getElem?_append_left hg']
        exact a3
      · rw [hb] at hx
        obtain rfl := List.mem_singleton.1 hx
        exact Nat.lt_of_lt_of_le hlt hch.size

end Go.Proofs.Ytcfdalmnhgiaeaa.M
