/- More on rows, over the plain reading. -/
import Derived.Test.YtnhgdngbdoifnaaFw
import Derived.Lib.SliceRun
/- More on rows: clear, and the like. -/
namespace Go.Proofs.Ytnhgdngbdoifnaa.F
set_option linter.unusedVariables false
set_option linter.unusedSimpArgs false
open Go Go.RowKit
section
variable {P : Program} {w w0 w' : World} {F : List Nat} {L : List Res} {K : Value → World → Prop}
theorem list_set_set {α : Type} (l : List α) (k : Nat) (a b : α) : (l.set k a).set k b = l.set k b := by simp
/-- A list whose elements from place j on are others. -/
def setAll {α : Type} : List α → Nat → List α → List α
  | xs, _, [] => xs
  | xs, j, v :: vs => setAll (xs.set j v) (j + 1) vs
theorem setAll_len {α : Type} : ∀ (vs xs : List α) (j : Nat), (setAll xs j vs).length = xs.length
  | [], xs, j => rfl
  | v :: vs, xs, j => by unfold setAll; rw [setAll_len vs]; simp
theorem setAll_take {α : Type} : ∀ (vs xs : List α) (j i : Nat), i ≤ j → (setAll xs j vs).take i = xs.take i
  | [], xs, j, i, _ => rfl
  | v :: vs, xs, j, i, h => by unfold setAll; rw [setAll_take vs _ _ _ (by omega), List.take_set_of_le h]
theorem setAll_eq {α : Type} : ∀ (vs xs : List α) (j : Nat), j + vs.length ≤ xs.length → setAll xs j vs = xs.take j ++ vs ++ xs.drop (j + vs.length)
  | [], xs, j, h => by simp [setAll]
  | v :: vs, xs, j, h => by
    simp only [List.length_cons] at h
    unfold setAll
    rw [setAll_eq vs _ _ (by rw [List.length_set]; omega), List.take_succ_eq_append_getElem (by rw [List.length_set]; omega), List.take_set_of_le (Nat.le_refl _), List.getElem_set_self, List.drop_set_of_lt (by omega)]
    simp [Nat.add_comm 1, Nat.add_assoc, Nat.add_left_comm]
theorem setAll_flat {α β : Type} (enc : α → List β) (k : Nat) (hk : ∀ x, (enc x).length = k) : ∀ (l : List α) (i : Nat) (x : α), i < l.length → setAll (l.flatMap enc) (i * k) (enc x) = (l.set i x).flatMap enc
  | [], i, x, h => absurd h (Nat.not_lt_zero _)
  | a :: l, 0, x, _ => by
    rw [Nat.zero_mul, setAll_eq _ _ _ (by simp [List.flatMap_cons, hk]), List.take_zero, List.nil_append, Nat.zero_add, List.flatMap_cons, List.set_cons_zero, List.flatMap_cons, hk, List.drop_append_of_le_length (by rw [hk]; exact Nat.le_refl _)]
    rw [show (enc a).drop k = [] from List.drop_of_length_le (by rw [hk]; exact Nat.le_refl _), List.nil_append]
  | a :: l, i + 1, x, h => by
    have ih := setAll_flat enc k hk l i x (by simpa using h)
    have hlen : i * k + k ≤ (l.flatMap enc).length := by
      rw [← Nat.succ_mul]
      have : (l.flatMap enc).length = l.length * k := by
        clear ih h
        induction l with
        | nil => simp
        | cons b l ih => rw [List.flatMap_cons, List.length_append, ih, hk, List.length_cons, Nat.succ_mul, Nat.add_comm]
      rw [this]
      exact Nat.mul_le_mul_right _ (Nat.succ_le_of_lt (by simpa using h))
    rw [setAll_eq _ _ _ (by rw [hk]; exact hlen)] at ih
    rw [setAll_eq _ _ _ (by rw [hk, List.flatMap_cons, List.length_append, hk, Nat.succ_mul]; omega), List.set_cons_succ, List.flatMap_cons, List.flatMap_cons, ← ih, Nat.succ_mul, hk]
    rw [List.take_append, List.drop_append, hk, List.take_of_length_le (by rw [hk]; omega), List.drop_of_length_le (by rw [hk]; omega), show i * k + k - k = i * k by omega, show i * k + k + k - k = i * k + k by omega]
    simp
/-- Cells of a row are written, one behind the other. -/
theorem St.row_sets (k : Nat) {e size g n c : Nat} : ∀ (vs : List Value) (j : Nat) {w : World} {L : List Res} {xs : List Value}, St w0 F w L → L[k]? = some (Res.row e size (.slice (some ⟨g, 0, none⟩) n c) n xs) → j + vs.length ≤ xs.length →
    St w0 F (w.setCells g j vs) (L.set k (Res.row e size (.slice (some ⟨g, 0, none⟩) n c) n (setAll xs j vs)))
  | [], j, w, L, xs, hS, hk, hj => by
    obtain ⟨hlt, he⟩ := List.getElem?_eq_some_iff.1 hk
    show St w0 F w (L.set k (Res.row e size (.slice (some ⟨g, 0, none⟩) n c) n xs))
    rw [← he, List.set_getElem_self]
    exact hS
  | v :: vs, j, w, L, xs, hS, hk, hj => by
    obtain ⟨hlt, he⟩ := List.getElem?_eq_some_iff.1 hk
    simp only [List.length_cons] at hj
    have h1 := hS.row_set k (j := j) v hk (by omega)
    have hk1 : (L.set k (Res.row e size (.slice (some ⟨g, 0, none⟩) n c) n (xs.set j v)))[k]? = some (Res.row e size (.slice (some ⟨g, 0, none⟩) n c) n (xs.set j v)) := by simp [hlt]
    have h2 := St.row_sets k vs (j + 1) h1 hk1 (by rw [List.length_set]; omega)
    rw [list_set_set] at h2
    exact h2
theorem zeroValue_ok {e : TypeId} {i : TypeInfo} {z : Value} (hi : P.info? e = some i) (hz : i.zero = some z) (w : World) : (zeroValue e).run P w = .ok z w := by
  simp [zeroValue, typeInfo, hi, hz, go_sem]
/-- clear of what lies behind the first i elements. -/
theorem clear_ok (k : Nat) {t e ty size bytes n c i : Nat} {cs : Array Bool} {z : Value} {A : Option Addr} {xs : List Value} (hT : SlT P t e size bytes z) (h1 : ∀ v ∈ z.cells, v.oneCell' = true) (hS : St w0 F w L) (hk : L[k]? = some (Res.row e size (.slice A n c) n xs)) (hi : i ≤ n)
    (h : ∀ w' xs', xs'.length = xs.length → xs'.take (i * size) = xs.take (i * size) → St w0 F w' (L.set k (Res.row e size (.slice A n c) n xs')) → K (.tuple #[]) w') :
    builtinP P .clear #[t] ty cs #[.slice (if c = i then A else A.map (·.add (i * size))) (n - i) (c - i)] w K := by
  obtain ⟨inf, hinf, hz, hs, hb⟩ := hT.parts
  obtain ⟨hlt, he⟩ := List.getElem?_eq_some_iff.1 hk
  have hself : St w0 F w (L.set k (Res.row e size (.slice A n c) n xs)) := by rw [← he, List.set_getElem_self]; exact hS
  obtain ⟨_, _, e0, hxl⟩ := hS.row_form k hk
  have hnc := (hS.row_max k hk).1
  by_cases hin : i = n
  · subst hin
    refine builtin_ok (w' := w) (v := .tuple #[]) ?_ (h w xs rfl rfl hself)
    rw [Nat.sub_self]
    cases (if c = i then A else A.map (·.add (i * size))) <;> simp [builtin, Builtin.clear_, run_underlying hT.1]
  · obtain ⟨g, rfl⟩ := hS.row_ptr k hk (by omega)
    rw [if_neg (by omega)]
    show builtinP P .clear #[t] ty cs #[.slice (some ((⟨g, 0, none⟩ : Addr).add (i * size))) (n - i) (c - i)] w K
    rw [add_none, Nat.zero_add]
    have hsz := hT.2.2.1
    have hpos := hT.2.2.2
    have hzl : (Builtin.zeroCells z.cells (n - i)).toList.length = (n - i) * size := by simp [Builtin.zeroCells, hsz]
    have hms : i * size + (n - i) * size = n * size := by rw [← Nat.add_mul]; congr 1; omega
    have hS' := hS.row_sets k (Builtin.zeroCells z.cells (n - i)).toList (i * size) hk (by omega)
    have x1 := setAll_len (Builtin.zeroCells z.cells (n - i)).toList xs (i * size)
    have x2 := setAll_take (Builtin.zeroCells z.cells (n - i)).toList xs (i * size) (i * size) (Nat.le_refl _)
    generalize setAll xs (i * size) (Builtin.zeroCells z.cells (n - i)).toList = xs' at hS' x1 x2
    have hst := run_storeCells_cells (P := P) g (i * size) (Builtin.zeroCells z.cells (n - i)).toList 0 w (fun j hj => by
      rw [Nat.add_zero, hS.row_cell k hk (u := xs[i * size + j]'(by omega)) (by simp)]; rfl) (fun j hj => hS.row_frozen k hk) (fun v hv => h1 v (by
        simp only [Builtin.zeroCells, Array.toList_map, List.mem_map] at hv
        obtain ⟨q, _, rfl⟩ := hv
        have hq : q % z.cells.size < z.cells.size := Nat.mod_lt _ (by omega)
        rw [getElem!_pos z.cells (q % z.cells.size) hq]
        exact Array.getElem_mem hq))
    rw [Nat.add_zero] at hst
    refine builtin_ok (w' := w.setCells g (i * size) (Builtin.zeroCells z.cells (n - i)).toList) (v := .tuple #[]) ?_ (h _ xs' x1 x2 hS')
    obtain ⟨m, hm⟩ : ∃ m, n - i = m + 1 := ⟨n - i - 1, by omega⟩
    have hzv := fun w => zeroValue_ok (w := w) hinf hz
    rw [hm] at hst ⊢
    simp [builtin, Builtin.clear_, run_underlying hT.1, hzv, hst]
/-- Elements of several cells. -/
theorem Rd.struct {α : Type} {enc : α → List Value} {k i o g : Nat} {l : List α} (hk : ∀ x, (enc x).length = k) (h : Rd w k (some ⟨g, o, none⟩) l.length (l.flatMap enc)) (hi : i < l.length) {j : Nat} (hj : j < k) {v : Value} (hv : (enc l[i])[j]? = some v) : w.cell? ⟨g, o + i * k + j, none⟩ = some v := by
  have := flat_get enc k hk l i j hi hj
  rw [hv] at this
  have := h.cells_ this
  rwa [← Nat.add_assoc] at this
theorem St.row_struct {α : Type} {enc : α → List Value} (q : Nat) {e k i g c : Nat} {l : List α} (hk : ∀ x, (enc x).length = k) (hS : St w0 F w L) (hq : L[q]? = some (Res.row e k (.slice (some ⟨g, 0, none⟩) l.length c) l.length (l.flatMap enc))) (hi : i < l.length) {j : Nat} (hj : j < k) {v : Value} (hv : (enc l[i])[j]? = some v) : w.cell? ⟨g, i * k + j, none⟩ = some v := by
  have := flat_get enc k hk l i j hi hj
  rw [hv] at this
  exact hS.row_cell q hq this
theorem append_oneS {α : Type} {enc : α → List Value} (k : Nat) {t e ty size bytes b c : Nat} {z : Value} {cs : Array Bool} {A : Option Addr} {l : List α} {x : α} (hT : SlT P t e size bytes z) (hk : ∀ x, (enc x).length = size) (h1 : ∀ u ∈ enc x, u.oneCell' = true) (hl : l.length ≤ 1000000) (hb : bytes ≤ 100000)
    (hS : St w0 F w (Res.cells b e (enc x) :: L)) (hq : L[k]? = some (Res.row e size (.slice A l.length c) l.length (l.flatMap enc)))
    (h : ∀ A' c' w', St w0 F w' (L.set k (Res.row e size (.slice A' (l ++ [x]).length c') (l ++ [x]).length ((l ++ [x]).flatMap enc))) → K (.slice A' (l ++ [x]).length c') w') : builtinP P .append #[t, t] ty cs #[.slice A l.length c, .slice (some ⟨b, 0, none⟩) 1 1] w K := by
  refine append_ok (k + 1) hT hS (by rw [List.getElem?_cons_succ]; exact hq) (news := enc x) (m := 1) (by rw [hk, Nat.one_mul]) (fun j u hj => ?_) h1 (by unfold maxLen; omega) ?_ ?_
  · rw [add_none, Nat.zero_add]
    exact hS.cell 0 rfl hj
  · have : (l.length + 1) * bytes ≤ 1000001 * 100000 := Nat.mul_le_mul (by omega) hb
    omega
  · intro A' c' w' hS'
    rw [List.set_cons_succ] at hS'
    have e1 : l.flatMap enc ++ enc x = (l ++ [x]).flatMap enc := by simp
    have e2 : l.length + 1 = (l ++ [x]).length := by simp
    rw [e1, e2] at hS'
    rw [e2]
    exact h A' c' w' hS'.tail
theorem rem_any (T : TypeId) (x y : Operand) {a b : Int} (ha : -9223372036854775808 ≤ a) (ha' : a ≤ 9223372036854775807) (hb : 0 < b) (hb' : b ≤ 9223372036854775807) (w : World) : (binS .rem T x y (.int .i64 a) (.int .i64 b)).run P w = .ok (.int .i64 (a.tmod b)) w := by
  rw [binS_run _ _ _ _ _ _ rfl]
  have hne : b ≠ 0 := by omega
  have h1 := Int.tmod_lt_of_pos a hb
  have h2 : -b < a.tmod b := by
    have := Int.lt_tmod_of_pos a hb
    omega
  simp [go_sem, binOp, IntKind.wrap_i64, hne] <;> omega
theorem tmod_bounds (a : Int) {b : Int} (hb : 0 < b) : -b < a.tmod b ∧ a.tmod b < b := ⟨Int.lt_tmod_of_pos a hb, Int.tmod_lt_of_pos a hb⟩
/-- Things at some places, in some order, and those from place n on. -/
theorem St.pick (n : Nat) (idx : List Nat) (h : St w0 F w L) (hn : n ≤ L.length) (hd : idx.Nodup ∧ ∀ i ∈ idx, i < n) : St w0 F w (idx.filterMap (fun i => L[i]?) ++ L.drop n) := by
  have hmem : ∀ r ∈ idx.filterMap (fun i => L[i]?) ++ L.drop n, r ∈ L := fun r hr => by
    rcases List.mem_append.1 hr with hr | hr
    · obtain ⟨i, _, hi⟩ := List.mem_filterMap.1 hr
      exact List.mem_of_getElem? hi
    · exact List.mem_of_mem_drop hr
  have hap : ∀ (i j : Nat) (a b : Res), i ≠ j → L[i]? = some a → L[j]? = some b → ∀ g ∈ a.blks, g ∉ b.blks := fun i j a b hne ha hb g hga hgb => by
    obtain ⟨hi, rfl⟩ := List.getElem?_eq_some_iff.1 ha
    obtain ⟨hj, rfl⟩ := List.getElem?_eq_some_iff.1 hb
    rcases Nat.lt_or_gt_of_ne hne with hlt | hlt
    · exact List.pairwise_iff_getElem.1 h.apart i j hi hj hlt g hga hgb
    · exact List.pairwise_iff_getElem.1 h.apart j i hj hi hlt g hgb hga
  refine ⟨h.chg, fun r hr => h.H r (hmem r hr), fun r hr => h.lt r (hmem r hr), fun r hr => h.own r (hmem r hr), List.pairwise_append.2 ⟨?_, (List.pairwise_append.1 (by rw [List.take_append_drop]; exact h.apart : (L.take n ++ L.drop n).Pairwise _)).2.1, fun a ha b hb => ?_⟩⟩
  · rw [List.pairwise_filterMap]
    exact hd.1.imp fun {i j} hij a ha b hb => hap i j a b hij ha hb
  · obtain ⟨i, hi, hia⟩ := List.mem_filterMap.1 ha
    obtain ⟨j, hj⟩ := List.mem_iff_getElem?.1 hb
    rw [List.getElem?_drop] at hj
    exact hap i (n + j) a b (by have := hd.2 i hi; omega) hia hj
theorem St.swap {A B : List Res} (h : St w0 F w (A ++ (B ++ L))) : St w0 F w (B ++ (A ++ L)) := by
  refine h.perm ?_
  rw [← List.append_assoc, ← List.append_assoc]
  exact List.perm_append_comm.append_right L
/-- A list that is turned into another one, place by place. -/
def partW {α : Type} (l l' : List α) (p : Nat) : List α := l'.take p ++ l.drop p
theorem partW_zero {α : Type} (l l' : List α) : partW l l' 0 = l := by simp [partW]
theorem partW_len {α : Type} {l l' : List α} (h : l'.length = l.length) {p : Nat} (hp : p ≤ l.length) : (partW l l' p).length = l.length := by simp [partW]; omega
theorem partW_all {α : Type} {l l' : List α} (h : l'.length = l.length) : partW l l' l.length = l' := by simp [partW, ← h]
theorem partW_at {α : Type} {l l' : List α} (h : l'.length = l.length) {p : Nat} (hp : p < l.length) (hp' : p < (partW l l' p).length) : (partW l l' p)[p] = l[p] := by
  simp only [partW]
  rw [List.getElem_append_right (by simp; omega)]
  simp [show min p l'.length = p by omega]
theorem partW_succ {α : Type} {l l' : List α} (h : l'.length = l.length) {p : Nat} (hp : p < l.length) : partW l l' (p + 1) = (partW l l' p).set p (l'[p]'(by omega)) := by
  simp only [partW]
  rw [List.set_append_right _ _ (by simp; omega), List.take_succ_eq_append_getElem (by omega), List.append_assoc]
  congr 1
  rw [List.length_take, show p - min p l'.length = 0 by omega, List.drop_eq_getElem_cons hp, List.set_cons_zero]
  rfl
theorem partW_same {α : Type} {l l' : List α} (h : l'.length = l.length) {p : Nat} (hp : p < l.length) (he : l'[p]'(by omega) = l[p]) : partW l l' (p + 1) = partW l l' p := by
  have hl := partW_len h (p := p) (by omega)
  rw [partW_succ h hp, he, ← partW_at h hp (by omega), List.set_getElem_self]
end
end Go.Proofs.Ytnhgdngbdoifnaa.F

