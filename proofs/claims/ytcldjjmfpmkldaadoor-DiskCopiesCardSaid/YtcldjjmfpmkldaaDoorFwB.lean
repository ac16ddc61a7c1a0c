/- Texts in rows of bytes. -/
import Derived.Test.YtcldjjmfpmkldaaDoorFwW
import Derived.Lib.AppendStr
import Derived.Lib.UnsafeStr
/- Texts: append of a text's bytes, unsafe.String. -/
namespace Go.Proofs.YtcldjjmfpmkldaaDoor.F
set_option linter.unusedVariables false
set_option linter.unusedSimpArgs false
open Go Go.RowKit
section
variable {P : Program} {w0 w w' : World} {F : List Nat} {L : List Res} {K : Value → World → Prop}
theorem St.lose {r : Res} (h : St w0 F w (r :: L)) (hc : Chg r.blks w w') : St w0 F w' L := by
  have : St w0 F w ([r] ++ L) := h
  exact this.back (L1' := []) ⟨hc.mono (by simp), fun _ h => (by cases h), fun _ h => (by cases h), fun _ h => (by cases h), .nil⟩
theorem Chg.freeze (w : World) (g n : Nat) : Chg [g] w (w.freeze ⟨g, 0, none⟩ n) := by
  unfold World.freeze
  split
  · exact Chg.refl _ _
  · refine ⟨rfl, rfl, rfl, by simp, fun k hk hn => ?_⟩
    have hne : ¬ g = k := fun e => hn (by simp [e])
    simp only [Array.getElem?_modify]
    rw [if_neg hne]
theorem St.heap_cells (k : Nat) {b : Nat} {t : TypeId} {cs : List Value} (h : St w0 F w L) (hk : L[k]? = some (Res.cells b t cs)) : w.heap[b]? = some (.cells cs.toArray t (0, 0)) := h.get k hk
/-- append of a text's bytes to the row at place k. -/
theorem append_str_ok (k : Nat) {t u e ty n : Nat} {v : Value} {cs : Array Bool} {xs : List Value} {s : ByteArray} (hT : SlT P t e 1 1 (.int .u8 0)) (hu : P.underlying u = some .string) (hS : St w0 F w L) (hk : L[k]? = some (Res.row e 1 v n xs))
    (h63 : n + s.size ≤ maxLen) (hb : n + s.size ≤ 140737488355328)
    (h : ∀ A' c' w', St w0 F w' (L.set k (Res.row e 1 (.slice A' (n + s.size) c') (n + s.size) (xs ++ Go.Lib.strCells s))) → K (.slice A' (n + s.size) c') w') : builtinP P .append #[t, u] ty cs #[v, .string s] w K := by
  obtain ⟨i, hi, hz, hs, hby⟩ := hT.parts
  have hown : w.ownsRow 0 e 1 v n xs := hS.get k hk
  obtain ⟨v', w', hr, hown', hgr, hiff⟩ := Go.Lib.run_append_own_string (P := P) w 0 t u ty e i hT.1 hu hi hz hs hby v n xs hown s h63 hb (Nat.zero_le _)
  have hblk : v'.ownBlock = v.ownBlock ∨ v'.ownBlock = some w.heap.size := by
    rcases hown.2 with ⟨rfl, rfl⟩ | ⟨g, cap, cur, rfl, hbg, hg, hnc, hcm, hcs, htake⟩
    · by_cases hm : s.size = 0
      · rw [hiff.2 ⟨rfl, hm⟩]
        exact .inl rfl
      · have hr2 := run_append_nil_string (P := P) w t u ty e i (.int .u8 0) hT.1 hu hi hz s (by omega) (by omega) (by rw [hby]; omega)
        obtain ⟨rfl, _⟩ := Result.ok.inj (hr.symm.trans hr2)
        exact .inr rfl
    · by_cases hroom : n + s.size ≤ cap
      · have hr2 := Go.Lib.run_append_room_string (P := P) w t u ty e i hT.1 hu hi hs g n cap cur hg s hroom (by omega)
        obtain ⟨rfl, _⟩ := Result.ok.inj (hr.symm.trans hr2)
        exact .inl rfl
      · have hxl : xs.length = n := by simpa using hown.1
        have hr2 := Go.Lib.run_append_grow_string (P := P) w t u ty e i (.int .u8 0) hT.1 hu hi hz ⟨g, 0, none⟩ n cap xs (by rw [hs]; omega) (hown.cells (g := g) rfl) s (by omega) (by unfold maxLen at h63; omega) (by rw [hby]; exact growslice_fits (by omega) (by omega))
        obtain ⟨rfl, _⟩ := Result.ok.inj (hr.symm.trans hr2)
        exact .inr rfl
  have hS' : St w0 F w' (L.set k (Res.row e 1 v' (n + s.size) (xs ++ Go.Lib.strCells s))) := by
    refine hS.updk k hk (Chg.of_grown hgr) hown' (fun g hg => ?_) (fun g hg => (hown'.lt g (by simpa [Res.row] using hg)).2)
    have hg' : v'.ownBlock = some g := by simpa [Res.row] using hg
    rcases hblk with h1 | h1
    · exact .inl (by show g ∈ v.ownBlock.toList; rw [← h1, hg']; simp)
    · exact .inr (by rw [h1] at hg'; injection hg' with e; omega)
  obtain ⟨hlt, _⟩ := List.getElem?_eq_some_iff.1 hk
  obtain ⟨A', c', rfl, _⟩ := hS'.row_form (e := e) (size := 1) (n := n + s.size) (v := v') (xs := xs ++ Go.Lib.strCells s) k (by simp [hlt])
  exact builtin_ok (append_run hr) (h A' c' w' hS')
theorem strCells_add (a b : ByteArray) : Go.Lib.strCells a ++ Go.Lib.strCells b = Go.Lib.strCells (a ++ b) := by
  unfold Go.Lib.strCells
  rw [ByteArray.data_append, Array.toList_append, List.map_append]
theorem sliceData_ok {ats : Array TypeId} {t : TypeId} {cs : Array Bool} {a : Addr} {n c : Nat} (hc : 0 < c) (h : K (.pointer (some a)) w) : builtinP P .unsafeSliceData ats t cs #[.slice (some a) n c] w K := by
  have hr := Go.Lib.run_unsafeSliceData_row (P := P) w ats t a n c (by omega)
  exact builtin_ok (by simp [builtin, hr]) h
theorem unsafeStr_ok {pt it ty e c g : Nat} {cs : Array Bool} {s : ByteArray} (hp : P.underlying pt = some (.pointer e)) (hce : P.cellsOf e = 1) (h0 : 0 < s.size) (hS : St w0 F w (Res.row e 1 (.slice (some ⟨g, 0, none⟩) s.size c) s.size (Go.Lib.strCells s) :: L))
    (h : ∀ w', St w0 F w' L → K (.string s) w') : builtinP P .unsafeString #[pt, it] ty cs #[.pointer (some ⟨g, 0, none⟩), .int .i64 (s.size : Int)] w K := by
  have hown : w.ownsRow 0 e 1 (.slice (some ⟨g, 0, none⟩) s.size c) s.size (Go.Lib.strCells s) := hS.get 0 rfl
  have hl : s.data.toList.length = s.size := by rw [Array.length_toList]; rfl
  rcases hown.2 with ⟨hv, _⟩ | ⟨g', cap, cur, hv, hbg, hg, hnc, hcm, hcs, htake⟩
  · cases hv
  · cases hv
    have hr := Go.Lib.run_unsafeString_row (P := P) w pt it ty e hp hce g cur.size (by simp [World.shape?, hg]) s.data.toList (fun h => by rw [h] at hl; simp at hl; omega) (by omega) (by unfold maxLen at hcm; omega) (fun j x hx => hown.cells (g := g) rfl j (.int .u8 x.toNat) (by simp only [Go.Lib.strCells, List.getElem?_map, hx, Option.map_some]))
    rw [hl] at hr
    have e1 : (⟨s.data.toList.toArray⟩ : ByteArray) = s := by cases s; simp
    rw [e1] at hr
    exact builtin_ok (w' := w.freeze ⟨g, 0, none⟩ s.size) (v := .string s) (by simp [builtin, hr]) (h _ (hS.lose ((Chg.freeze w g s.size).mono (fun x hx => by simpa [Res.row, Value.ownBlock] using hx))))
end
end Go.Proofs.YtcldjjmfpmkldaaDoor.F

