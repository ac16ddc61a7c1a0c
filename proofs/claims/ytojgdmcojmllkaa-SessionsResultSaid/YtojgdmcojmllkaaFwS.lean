/- Sorting of rows, over the plain reading. -/
import Derived.Test.YtojgdmcojmllkaaFw
import Derived.Shelf.SlSortCmp.WholeK
import Derived.Shelf.SlSortCmp.NoneTotal
/- Sorting of rows; worlds that have only grown. -/
namespace Go.Proofs.Ytojgdmcojmllkaa.F
set_option linter.unusedVariables false
set_option linter.unusedSimpArgs false
open Go Go.RowKit Go.Sort Go.Shelf Go.Proofs
/-- w' is w with draws and new blocks, and nothing else. -/
def Gr (w w' : World) : Prop := ∃ q os, w' = grow (w.drewN q) os
theorem Gr.refl (w : World) : Gr w w := ⟨0, #[], by rw [grow_empty]; rfl⟩
theorem Gr.alloc {w w' : World} (h : Gr w w') (o : Obj) : Gr w (w'.alloc o) := by
  obtain ⟨q, os, rfl⟩ := h
  exact ⟨q, os ++ #[o], by rw [alloc_eq_grow, grow_grow]⟩
theorem Gr.drewN {w w' : World} (h : Gr w w') (n : Nat) : Gr w (w'.drewN n) := by
  obtain ⟨q, os, rfl⟩ := h
  exact ⟨q + n, os, by rw [← World.drewN_drewN]; rfl⟩
def StG (w0 w : World) (L : List Res) : Prop := St w0 [] w L ∧ Gr w0 w
section
variable {P : Program} {w w0 w' : World} {L : List Res} {K : Value → World → Prop}
theorem new_okG {t : TypeId} {cs : List Value} {s : Sem Value} (hs : s.run P w = .ok (.pointer (some ⟨w.heap.size, 0, none⟩)) (w.alloc (.cells cs.toArray t))) (hS : StG w0 w L)
    (h : ∀ b w', StG w0 w' (Res.cells b t cs :: L) → K (.pointer (some ⟨b, 0, none⟩)) w') : valP P s w K := valP_ok hs (h _ _ ⟨hS.1.alloc t cs, hS.2.alloc _⟩)
theorem newslice_okG {t n m : Nat} {cs : List Value} {s : Sem Value} (hs : s.run P w = .ok (.slice (some ⟨w.heap.size, 0, none⟩) n m) (w.alloc (.cells cs.toArray t))) (hS : StG w0 w L)
    (h : ∀ b w', StG w0 w' (Res.cells b t cs :: L) → K (.slice (some ⟨b, 0, none⟩) n m) w') : valP P s w K := valP_ok hs (h _ _ ⟨hS.1.alloc t cs, hS.2.alloc _⟩)
theorem drawn_okG {K : World → Prop} (hS : StG w0 w L) (h : ∀ w', StG w0 w' L → K w') : anyDraw w K := fun n => h _ ⟨hS.1.drewN n, hS.2.drewN n⟩
end
theorem chg_grow (bs : List Nat) (w : World) (os : Array Obj) : Chg bs w (grow w os) := by
  refine ⟨rfl, rfl, rfl, by simp [grow], fun k hk _ => ?_⟩
  show (w.heap ++ os)[k]? = _
  rw [Array.getElem?_append_left hk]
theorem chg_putRow {α : Type} [Inhabited α] (enc : α → Value) (w : World) (q g off : Nat) (d : Array α) : Chg [g] w (putRow enc (Sort.ahead w q) g off d) := by
  refine ⟨rfl, rfl, rfl, by rw [Go.Sort.size_putRow]; exact Nat.le_refl _, fun k hk hn => ?_⟩
  show ((Sort.ahead w q).heap.modify g _)[k]? = _
  rw [Array.getElem?_modify, if_neg (fun e => hn (by rw [e]; simp))]
  rfl
theorem own_putRow {w : World} {e size g n c q : Nat} {xs ys : List Value} (h : w.ownsRow 0 e size (.slice (some ⟨g, 0, none⟩) n c) n xs) (hy : ys.length = xs.length) :
    (putRow id (Sort.ahead w q) g 0 ys.toArray).ownsRow 0 e size (.slice (some ⟨g, 0, none⟩) n c) n ys := by
  have hl := h.1
  rcases h.2 with ⟨e0, _⟩ | ⟨g', cap', cur, e0, hb, hg, hn, hm, hs, ht⟩
  · cases e0
  · injection e0 with e1 _ e3
    injection e1 with e1
    injection e1 with e1
    subst e1; subst e3
    have hnc : n * size ≤ cur.size := by rw [hs]; exact Nat.mul_le_mul_right _ hn
    refine ⟨by rw [hy]; exact hl, .inr ⟨g, c, putCells id 0 ys.toArray cur, rfl, hb, ?_, hn, hm, by simpa [putCells] using hs, ?_⟩⟩
    · simp [putRow, mapBlock, Sort.ahead, Array.getElem?_modify, hg, onCells]
    · apply List.ext_getElem?
      intro j
      rw [List.getElem?_take, Array.getElem?_toList]
      by_cases hj : j < n * size
      · have hjc : j < cur.size := by omega
        simp only [if_pos hj, putCells, Array.getElem?_mapIdx, Array.getElem?_eq_getElem hjc, Option.map_some]
        rw [if_pos (by simp; omega), List.getElem?_eq_getElem (by omega)]
        simp [getElem!_pos, show j < ys.length by omega]
      · simp only [if_neg hj]
        rw [List.getElem?_eq_none (by omega)]
theorem flatK_list {α : Type} [Inhabited α] (enc : α → List Value) (k : Nat) (hk : ∀ x, (enc x).length = k) (hk0 : 0 < k) (d : Array α) : (flatK enc k d).toList = d.toList.flatMap enc := by
  apply List.ext_getElem?
  intro j
  have hlen := flat_len enc k hk d.toList
  by_cases hj : j < d.size * k
  · have hq : j / k < d.size := (Nat.div_lt_iff_lt_mul hk0).2 hj
    have hr : j % k < k := Nat.mod_lt _ hk0
    have h1 := get_flatK enc k d j hj
    have h2 := flat_get enc k hk d.toList (j / k) (j % k) (by simpa using hq) hr
    rw [Nat.div_add_mod' j k] at h2
    rw [h2, Array.getElem?_toList, Array.getElem?_eq_getElem (by simpa using hj)]
    rw [getElem!_pos (flatK enc k d) j (by simpa using hj)] at h1
    rw [h1, getElem!_pos d (j / k) hq, List.getElem?_eq_getElem (by rw [hk]; exact hr)]
    rw [getElem!_pos _ _ (by rw [hk]; exact hr)]
    simp
  · rw [List.getElem?_eq_none (by simp; omega), List.getElem?_eq_none (by rw [hlen]; simp; omega)]
theorem holdsK_row {α : Type} [Inhabited α] (enc : α → List Value) (k : Nat) (hk : ∀ x, (enc x).length = k) (hk0 : 0 < k) {w0 w : World} {F : List Nat} {L : List Res} {e g n c : Nat} {l : List α} (p : Nat) (hS : St w0 F w L)
    (hp : L[p]? = some (Res.row e k (.slice (some ⟨g, 0, none⟩) n c) n (l.flatMap enc))) : HoldsK enc k w g 0 l.toArray := by
  intro j hj
  have hj' : j < l.length * k := by simpa using hj
  refine ⟨?_, by rw [Nat.zero_add]; exact hS.row_frozen p hp⟩
  rw [Nat.zero_add]
  have h1 : (l.flatMap enc)[j]? = some (id (flatK enc k l.toArray)[j]!) := by
    rw [← flatK_list enc k hk hk0 l.toArray, Array.getElem?_toList, Array.getElem?_eq_getElem (by simpa using hj'), getElem!_pos _ j (by simpa using hj')]
    rfl
  exact hS.row_cell p hp h1
/-- What a comparison of structs does: it tells cf, and lays blocks. -/
def CmpK (P : Program) {α : Type} (g : FuncId) (cb : Array Value) (enc : α → List Value) (cf : α → α → Int) : Prop :=
  ∀ (x y : α) (W : World), Ret P g (#[.agg (enc x).toArray, .agg (enc y).toArray] ++ cb) W fun v W' => v = .int .i64 (cf x y) ∧ Gr W W'
theorem CmpK.lays {P : Program} {α : Type} [Inhabited α] {g : FuncId} {cb : Array Value} {enc : α → List Value} {cf : α → α → Int} (h : CmpK P g cb enc cf) (k blk off size : Nat) (w : World) : CmpLays P g cb enc k cf blk off size w :=
  fun m os dk _ x y => Calls.mono (h x y _) fun e w' ⟨v, he, hv, hg⟩ => ⟨hv ▸ he, hg⟩
theorem permIn_perm {α : Type} [Inhabited α] {d d' : Array α} (h : PermIn 0 d.size d d') : d'.toList.Perm d.toList := by
  obtain ⟨h1, _, h3⟩ := h
  rw [Array.extract_eq_self_of_le (by omega), Array.extract_eq_self_of_le (Nat.le_refl _)] at h3
  exact h3
theorem sortedIn_pairwise {α : Type} [Inhabited α] {lt : α → α → Bool} {d : Array α} (h : SortedIn lt 0 d.size d) : d.toList.Pairwise fun x y => lt y x = false := by
  rw [List.pairwise_iff_getElem]
  intro i j hi hj hij
  have := h i j (Nat.zero_le _) hij (by simpa using hj)
  rw [getElem!_pos d i (by simpa using hi), getElem!_pos d j (by simpa using hj)] at this
  simpa using this
end Go.Proofs.Ytojgdmcojmllkaa.F

