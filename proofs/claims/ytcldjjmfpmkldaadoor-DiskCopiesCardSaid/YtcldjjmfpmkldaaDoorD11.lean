/- A disk stays one. -/
import Derived.Test.YtcldjjmfpmkldaaDoorD10
import Derived.Test.YtcldjjmfpmkldaaDoorFwW
import Derived.Test.YtcldjjmfpmkldaaDoorFwB
import Derived.Test.YtcldjjmfpmkldaaDoorFwM
namespace Go.Proofs.YtcldjjmfpmkldaaDoor.M
open Go.Proofs.YtcldjjmfpmkldaaDoor.F Go.RowKit
set_option linter.unusedVariables false
set_option linter.unusedSimpArgs false
set_option maxRecDepth 100000
set_option maxHeartbeats 2000000
attribute [local irreducible] Res.cells Res.row Res.map Res.any World.cell? World.frozen? Instr.fieldAt Instr.loadAt Instr.storeAt Instr.indexAt Instr.lookup Instr.mapUpdate Instr.box Instr.build Instr.buildSlice Instr.extract Instr.alloc Instr.field Instr.index Instr.sliceAt Instr.makeSlice Instr.makeMap Instr.makeFunc binS Op.unary Sem.run
theorem used_upd {l : List Fl} (hU : UpL l) {f f' : Fl} (hf : f ∈ l) (hn : f.name = f'.name) : used (updF l f') + blk f.sz = used l + blk f'.sz := by
  obtain ⟨i, hi, rfl⟩ := List.mem_iff_getElem.1 hf
  rw [← updF_set hU hi hn]
  exact used_set hi f'
theorem names_updF (l : List Fl) (f' : Fl) : names (updF l f') = names l := by
  unfold names updF
  rw [List.map_map]
  refine List.map_congr_left fun f _ => ?_
  simp only [Function.comp_apply]
  split
  · rename_i h; exact h.symm
  · rfl
theorem updF_len (l : List Fl) (f' : Fl) : (updF l f').length = l.length := by unfold updF; rw [List.length_map]
theorem used_ins (f : Fl) (l : List Fl) : used (insF f l) = blk f.sz + used l := by
  unfold used
  have := ((insF_perm f l).map (fun f => blk f.sz)).sum_nat
  rw [this, List.map_cons, List.sum_cons]
theorem insF_len (f : Fl) (l : List Fl) : (insF f l).length = l.length + 1 := by rw [(insF_perm f l).length_eq, List.length_cons]
theorem delF_none {l : List Fl} {s : ByteArray} (h : ∀ g ∈ l, g.name ≠ s) : delF l s = l := List.filter_eq_self.2 fun g hg => decide_eq_true (h g hg)
theorem used_del {l : List Fl} (hU : UpL l) {f : Fl} (hf : f ∈ l) : used (delF l f.name) + blk f.sz = used l ∧ (delF l f.name).length + 1 = l.length := by
  induction l with
  | nil => cases hf
  | cons q l ih =>
    have hq := List.pairwise_cons.1 (up_ne hU)
    rcases List.mem_cons.1 hf with rfl | hf
    · have e : delF (f :: l) f.name = l := by
        unfold delF
        rw [List.filter_cons_of_neg (by simp)]
        exact delF_none fun g hg => (hq.1 g hg).symm
      rw [e]
      exact ⟨Nat.add_comm _ _, rfl⟩
    · have e : delF (q :: l) f.name = q :: delF l f.name := by
        unfold delF
        rw [List.filter_cons_of_pos (by simpa using hq.1 f hf)]
      have := ih (List.pairwise_cons.1 hU).2 hf
      rw [e]
      simp only [used, List.map_cons, List.sum_cons, List.length_cons] at this ⊢
      omega
theorem delF_up {l : List Fl} (hU : UpL l) (s : ByteArray) : UpL (delF l s) := hU.filter _
theorem delF_mem {l : List Fl} {s : ByteArray} {f : Fl} : f ∈ delF l s ↔ f ∈ l ∧ f.name ≠ s := by
  unfold delF
  rw [List.mem_filter, decide_eq_true_eq]
theorem updF_mem {l : List Fl} {f' g : Fl} (h : g ∈ updF l f') : g ∈ l ∨ g = f' := by
  unfold updF at h
  obtain ⟨q, hq, rfl⟩ := List.mem_map.1 h
  split
  · exact .inr rfl
  · exact .inl hq
theorem getF_of {l : List Fl} {s : ByteArray} (h : getF l s = none) : ∀ g ∈ l, g.name ≠ s := fun g hg e => by
  have := List.find?_eq_none.1 h g hg
  simp [e] at this
theorem ready_named {s : ByteArray} {o : Bool} (h : readyC [s] o = 0) : Named s := (ready_size h).2.1
section
variable {size : Nat} {D : Dk} {s t : ByteArray}
theorem Ok.upd {f f' : Fl} {r : Int} (h : Ok size D) (hf : f ∈ D.L) (hn : f.name = f'.name) (hr : r + blk f'.sz = D.room + blk f.sz) (hr0 : 0 ≤ r) : Ok size ⟨updF D.L f', r, D.fuse, D.off⟩ := by
  have hu := used_upd h.up hf hn
  have hs := h.sum
  refine ⟨names_up (names_updF _ _).symm h.up, by simp only [updF_len]; exact h.len, hr0, by simp only; omega, fun g hg => ?_, h.fuse, h.size⟩
  rcases updF_mem hg with hg | rfl
  · exact h.names g hg
  · rw [← hn]; exact h.names f hf
theorem Ok.app (h : Ok size D) : Ok size (appD D s t).1 := by
  unfold appD
  by_cases hr : readyC [s] D.off = 0
  · rw [if_pos hr]
    have hnm := ready_named hr
    cases hg : getF D.L s with
    | some f =>
      simp only
      obtain ⟨hf, hn⟩ := getF_some hg
      split
      · exact h
      · rename_i h1
        have hz : (⟨s, f.sure, f.loose ++ t⟩ : Fl).sz = f.sz + t.size := by
          show f.sure.size + (f.loose ++ t).size = f.sure.size + f.loose.size + t.size
          rw [ByteArray.size_append]
          omega
        exact Ok.burnt (Ok.upd (f := f) h hf hn (by rw [hz]; omega) (by omega))
    | none =>
      simp only
      split
      · exact h
      · rename_i h1
        have hz : (⟨s, ⟨#[]⟩, t⟩ : Fl).sz = t.size := by
          show (⟨#[]⟩ : ByteArray).size + t.size = t.size
          rw [show (⟨#[]⟩ : ByteArray).size = 0 from rfl]
          omega
        have hu := used_ins ⟨s, ⟨#[]⟩, t⟩ D.L
        have hs := h.sum
        have hl := insF_len ⟨s, ⟨#[]⟩, t⟩ D.L
        rw [hz] at hu
        refine Ok.burnt ⟨insF_up h.up (getF_of hg), by simp only; omega, by simp only; omega, by simp only; omega, fun g hg => ?_, h.fuse, h.size⟩
        rcases List.mem_cons.1 ((insF_perm _ _).mem_iff.1 hg) with rfl | hg
        · exact hnm.2.1
        · exact h.names g hg
  · rw [if_neg hr]
    exact h
theorem Ok.work {Rf : Fl → Dk → Dk × Int} (h : Ok size D) (hR : ∀ f D', getF D.L s = some f → Ok size D' → D'.L = D.L → f ∈ D'.L → f.name = s → Ok size (Rf f D').1) : Ok size (workD D s Rf).1 := by
  unfold workD
  split
  · split
    · rename_i f hg
      split
      · exact h.burnt
      · exact hR f _ hg h.burnt (burnt_L D) (by rw [burnt_L]; exact (getF_some hg).1) (getF_some hg).2
    · exact h
  · exact h
theorem Ok.sync (h : Ok size D) : Ok size (workD D s syncR).1 := h.work fun f D' _ h hL hf hn => by
  have hz : (⟨f.name, f.sure ++ f.loose, ⟨#[]⟩⟩ : Fl).sz = f.sz := by
    show (f.sure ++ f.loose).size + (⟨#[]⟩ : ByteArray).size = f.sure.size + f.loose.size
    rw [ByteArray.size_append, show (⟨#[]⟩ : ByteArray).size = 0 from rfl]
    omega
  exact Ok.upd (f := f) h hf rfl (by rw [hz]) h.room
theorem Ok.remove (h : Ok size D) : Ok size (workD D s removeR).1 := h.work fun f D' _ h hL hf hn => by
  have hu := used_del h.up hf
  have hs := h.sum
  have hr := h.room
  have hl := h.len
  exact ⟨delF_up h.up _, by show (delF D'.L f.name).length ≤ 256; omega, by show 0 ≤ D'.room + blk f.sz; omega, by show D'.room + blk f.sz + used (delF D'.L f.name) = size; omega, fun g hg => h.names g (delF_mem.1 hg).1, h.fuse, h.size⟩
theorem Ok.trunc {n : Int} (h : Ok size D) : Ok size (truncD D s n).1 := by
  have key : (∀ f, getF D.L s = some f → readyC [s] D.off = 0 → 0 ≤ n ∧ n ≤ (f.sz : Int)) → Ok size (workD D s (truncR n.toNat)).1 := fun hin => by
    by_cases hr : readyC [s] D.off = 0
    · refine h.work fun f D' hg h hL hf hn => ?_
      have hb := hin f hg hr
      obtain ⟨k, rfl⟩ : ∃ k : Nat, n = (k : Int) := ⟨n.toNat, by omega⟩
      rw [Int.toNat_natCast]
      have hs : f.sz = f.sure.size + f.loose.size := rfl
      have hz : (⟨f.name, f.sure.extract 0 (min k f.sure.size), f.loose.extract 0 (k - min k f.sure.size)⟩ : Fl).sz = k := by
        show (f.sure.extract 0 (min k f.sure.size)).size + (f.loose.extract 0 (k - min k f.sure.size)).size = k
        rw [ext_size _ _ _ (by omega), ext_size _ _ _ (by omega)]
        omega
      have hle : blk k ≤ blk f.sz := by unfold blk; omega
      have hr := h.room
      exact Ok.upd (f := f) h hf rfl (by rw [hz]; omega) (by omega)
    · unfold workD
      rw [if_neg hr]
      exact h
  unfold truncD
  cases hg : getF D.L s with
  | none =>
    simp only
    exact key fun f hf => by rw [hg] at hf; cases hf
  | some f =>
    simp only
    split
    · exact h
    · rename_i h1
      refine key fun f' hf hr => ?_
      rw [hg] at hf
      obtain rfl := Option.some.inj hf
      exact ⟨Classical.byContradiction fun h2 => h1 ⟨hr, .inl (by omega)⟩, Classical.byContradiction fun h2 => h1 ⟨hr, .inr (by omega)⟩⟩
theorem Ok.ren (h : Ok size D) : Ok size (renD D s t).1 := by
  unfold renD
  split
  · rename_i hr
    obtain ⟨h1, h2, _⟩ := ready_two hr
    refine h.work fun f D' _ h hL hf hn => ?_
    have hu := used_del h.up hf
    have hs := h.sum
    have hr := h.room
    have hl := h.len
    have hU2 := delF_up (delF_up h.up f.name) t
    have hi := used_ins ⟨t, f.sure, f.loose⟩ (delF (delF D'.L f.name) t)
    have hil := insF_len ⟨t, f.sure, f.loose⟩ (delF (delF D'.L f.name) t)
    have hz : (⟨t, f.sure, f.loose⟩ : Fl).sz = f.sz := rfl
    rw [hz] at hi
    have hup : UpL (insF ⟨t, f.sure, f.loose⟩ (delF (delF D'.L f.name) t)) := insF_up hU2 fun g hg => (delF_mem.1 hg).2
    have hnm : ∀ g ∈ insF ⟨t, f.sure, f.loose⟩ (delF (delF D'.L f.name) t), g.name.size ≤ 24 := fun g hg => by
      rcases List.mem_cons.1 ((insF_perm _ _).mem_iff.1 hg) with rfl | hg
      · exact h2.2.1
      · exact h.names g (delF_mem.1 (delF_mem.1 hg).1).1
    have fin : ∀ r : Int, 0 ≤ r → r + used (delF (delF D'.L f.name) t) + blk f.sz = size → (delF (delF D'.L f.name) t).length + 1 ≤ 256 → (renR t f D').1.room = r → Ok size (renR t f D').1 := fun r hr0 hr1 hr2 e => by
      refine ⟨hup, ?_, by rw [e]; exact hr0, ?_, hnm, h.fuse, h.size⟩
      · show (insF ⟨t, f.sure, f.loose⟩ (delF (delF D'.L f.name) t)).length ≤ 256
        omega
      · rw [e]
        show r + used (insF ⟨t, f.sure, f.loose⟩ (delF (delF D'.L f.name) t)) = size
        omega
    cases hg : getF D'.L t with
    | none =>
      have e1 : delF (delF D'.L f.name) t = delF D'.L f.name := delF_none fun g hg2 => getF_of hg g (delF_mem.1 hg2).1
      rw [e1] at fin
      exact fin D'.room hr (by omega) (by omega) (by unfold renR; rw [hg])
    | some old =>
      obtain ⟨ho, hon⟩ := getF_some hg
      by_cases hft : f.name = t
      · have e1 : delF (delF D'.L f.name) t = delF D'.L f.name := delF_none fun g hg2 => by rw [← hft]; exact (delF_mem.1 hg2).2
        rw [e1] at fin
        exact fin D'.room hr (by omega) (by omega) (by unfold renR; rw [hg]; simp only; rw [if_pos hft])
      · have hod : old ∈ delF D'.L f.name := delF_mem.2 ⟨ho, fun e => hft (e.symm.trans hon)⟩
        have hu2 := used_del (delF_up h.up f.name) hod
        rw [hon] at hu2
        exact fin (D'.room + blk old.sz) (by omega) (by omega) (by omega) (by unfold renR; rw [hg]; simp only; rw [if_neg hft])
  · exact h
theorem crs_used (keep : List Int) (l : List Fl) : ∀ j, used (crs keep l j) ≤ used l
  | 0 => Nat.le_refl _
  | j + 1 => by
    have ih := crs_used keep l j
    by_cases hj : j < (crs keep l j).length
    · have e : crs keep l (j + 1) = (crs keep l j).set j (crOne keep j (crs keep l j)[j]) := dif_pos hj
      have h2 := used_set hj (crOne keep j (crs keep l j)[j])
      rw [← e] at h2
      have h3 : blk (crOne keep j (crs keep l j)[j]).sz ≤ blk (crs keep l j)[j].sz := by
        have hkj := kN_le keep j (crs keep l j)[j].loose.size
        have : (crOne keep j (crs keep l j)[j]).sz ≤ (crs keep l j)[j].sz := by
          show ((crs keep l j)[j].sure ++ (crs keep l j)[j].loose.extract 0 (kN keep j (crs keep l j)[j].loose.size)).size + (⟨#[]⟩ : ByteArray).size ≤ (crs keep l j)[j].sure.size + (crs keep l j)[j].loose.size
          rw [ByteArray.size_append, ext_size _ _ _ hkj, show (⟨#[]⟩ : ByteArray).size = 0 from rfl]
          omega
        unfold blk
        omega
      omega
    · have e : crs keep l (j + 1) = crs keep l j := dif_neg hj
      rw [e]
      exact ih
theorem Ok.crash {keep : List Int} (h : Ok size D) : Ok size (crashD D keep) := by
  have hu := crs_used keep D.L D.L.length
  have hr := h.room
  have hs := h.sum
  have hl := crs_len keep D.L D.L.length
  refine ⟨names_up (crs_names keep D.L D.L.length).symm h.up, by show (crs keep D.L D.L.length).length ≤ 256; rw [hl]; exact h.len, by show 0 ≤ D.room + used D.L - used (crs keep D.L D.L.length); omega, by show D.room + used D.L - used (crs keep D.L D.L.length) + used (crs keep D.L D.L.length) = size; omega, fun g hg => ?_, by show (-1 : Int) ≤ -1 ∧ (-1 : Int) ≤ 9223372036854775807; omega, h.size⟩
  have h1 : g.name ∈ List.map Fl.name (crs keep D.L D.L.length) := List.mem_map.2 ⟨g, hg, rfl⟩
  rw [show List.map Fl.name (crs keep D.L D.L.length) = List.map Fl.name D.L from crs_names keep D.L D.L.length] at h1
  obtain ⟨f, hf, e⟩ := List.mem_map.1 h1
  rw [← e]
  exact h.names f hf
theorem Ok.setFuse {n : Int} (hn : n ≤ 9223372036854775807) (h : Ok size D) : Ok size ⟨D.L, D.room, max n (-1), D.off⟩ := ⟨h.up, h.len, h.room, h.sum, h.names, by show -1 ≤ max n (-1) ∧ max n (-1) ≤ 9223372036854775807; omega, h.size⟩
theorem Ok.new {n : Int} (h : 1 ≤ n ∧ n ≤ 16384) : Ok n.toNat ⟨[], n, -1, false⟩ := ⟨.nil, Nat.zero_le _, by show 0 ≤ n; omega, by show n + ((0 : Nat) : Int) = n.toNat; omega, fun _ h => (by cases h), by show (-1 : Int) ≤ -1 ∧ (-1 : Int) ≤ 9223372036854775807; omega, by omega⟩
end

end Go.Proofs.YtcldjjmfpmkldaaDoor.M
