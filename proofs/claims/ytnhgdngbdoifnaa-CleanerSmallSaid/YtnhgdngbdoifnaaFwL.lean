/- Arguments that are opened whole. -/
import Derived.Test.YtnhgdngbdoifnaaFwT
import Derived.Deep.Slices
import Derived.Deep.Fields
/- Arguments that are read whole: slices whose elements are opened one by one. -/
namespace Go.Proofs.Ytnhgdngbdoifnaa.F
set_option linter.unusedVariables false
set_option linter.unusedSimpArgs false
open Go Go.RowKit Go.ChangeShapes Go.WideShapes
section
variable {H : Type} {en : TypeId × Value → H} {P : Program} {w : World}
theorem list_of {α β : Type} {p : β → α → Prop} : ∀ (l : List β), (∀ y ∈ l, ∃ x, p y x) → ∃ m : List α, m.length = l.length ∧ ∀ (i : Nat) (h : i < l.length) (h' : i < m.length), p l[i] m[i]
  | [], _ => ⟨[], rfl, fun i h => absurd h (Nat.not_lt_zero _)⟩
  | y :: l, h => by
    obtain ⟨x, hx⟩ := h y (.head _)
    obtain ⟨m, hm, hp⟩ := list_of l (fun y hy => h y (.tail _ hy))
    refine ⟨x :: m, by simp [hm], fun i h1 h2 => ?_⟩
    cases i with
    | zero => exact hx
    | succ i => exact hp i (by simpa using h1) (by simpa using h2)
/-- A slice of elements of k cells each, that are opened by a law. -/
theorem open_rowsE {α : Type} (enc : α → List Value) (Ok : α → Prop) {t e k : Nat} (hk0 : 0 < k) (ht : P.underlying t = some (.slice e)) (hk : P.cellsOf e = k)
    (hel : ∀ n cs y, DataW.trod en P w 0 (fun _ => true) true n e cs = some y → ∃ x, cs = enc x ∧ (enc x).length = k ∧ Ok x) {fuel : Nat} {cs : List Value} {x : DataW H × List MemPlace}
    (h : DataW.trod en P w 0 (fun _ => true) true fuel t cs = some x) : ∃ (A : Option Addr) (c : Nat) (l : List α), cs = [.slice A l.length c] ∧ l.length ≤ c ∧ (A = none → c = 0) ∧ Rd w k A l.length (l.flatMap enc) ∧ ∀ x ∈ l, Ok x := by
  rcases Go.Deep.open_slice ht h with ⟨rfl, _⟩ | ⟨a, len, cap, m, n, D, Pl, rfl, hb, hl, hm, hmm, _, hx⟩
  · exact ⟨none, 0, [], rfl, by simp, fun _ => rfl, Rd.nil_ _ _ _, by simp⟩
  · simp only [if_true] at hmm
    subst hmm
    rw [hk] at hx
    have hx' : ∀ i ∈ List.range len, ∃ x : α, Ok x ∧ (enc x).length = k ∧ ∀ j v, (enc x)[j]? = some v → w.cell? ((a.add (i * k)).add j) = some v := fun i hi => by
      have hi := List.mem_range.1 hi
      obtain ⟨cs', h1, h2⟩ := hx i (by omega)
      obtain ⟨x, rfl, hlen, hok⟩ := hel _ _ _ h2
      obtain ⟨_, _, hc⟩ := World.cells?_some h1
      refine ⟨x, hok, hlen, fun j v hj => ?_⟩
      rw [hc j (by obtain ⟨h, _⟩ := List.getElem?_eq_some_iff.1 hj; omega)]
      exact hj
    obtain ⟨l, hll, hp⟩ := list_of (List.range len) hx'
    rw [List.length_range] at hll
    have hlen : ∀ x ∈ l, (enc x).length = k := fun x hx => by
      obtain ⟨i, hi, rfl⟩ := List.mem_iff_getElem.1 hx
      exact (hp i (by simp; omega) hi).2.1
    have hfl : ∀ m : List α, (∀ x ∈ m, (enc x).length = k) → (m.flatMap enc).length = m.length * k := fun m => by
      induction m with
      | nil => intro _; simp
      | cons a m ih => intro h; rw [List.flatMap_cons, List.length_append, ih (fun x hx => h x (.tail _ hx)), h a (.head _), List.length_cons, Nat.succ_mul, Nat.add_comm]
    have hget : ∀ (m : List α), (∀ x ∈ m, (enc x).length = k) → ∀ q v, (m.flatMap enc)[q]? = some v → ∃ (i j : Nat) (h : i < m.length), q = i * k + j ∧ (enc m[i])[j]? = some v := fun m => by
      induction m with
      | nil => intro _ q v h; simp at h
      | cons a m ih =>
        intro h q v hq
        rw [List.flatMap_cons] at hq
        by_cases hqk : q < k
        · rw [List.getElem?_append_left (by rw [h a (.head _)]; exact hqk)] at hq
          exact ⟨0, q, by simp, by simp, hq⟩
        · rw [List.getElem?_append_right (by rw [h a (.head _)]; omega), h a (.head _)] at hq
          obtain ⟨i, j, hi, he, hv⟩ := ih (fun x hx => h x (.tail _ hx)) _ v hq
          exact ⟨i + 1, j, by simpa using hi, by rw [Nat.succ_mul]; omega, hv⟩
    refine ⟨some a, m, l, (by rw [hll]), (by omega), (fun h => (by cases h)), ⟨hfl l hlen, fun hp0 => ?_⟩, fun x hx => ?_⟩
    · have h0 : 0 < l.length := by
        rcases Nat.eq_zero_or_pos l.length with h | h
        · rw [List.eq_nil_of_length_eq_zero h] at hp0; simp at hp0
        · exact h
      obtain ⟨b, o, spot⟩ := a
      obtain ⟨cs', c1, _⟩ := hx 0 (by omega)
      obtain ⟨_, c2, c3⟩ := World.cells?_some c1
      have hv := c3 0 hk0
      rw [Nat.zero_mul, List.getElem?_eq_getElem (by omega)] at hv
      have hspot : spot = none := by simpa [Addr.add] using World.cell?_spot hv
      subst hspot
      refine ⟨b, o, rfl, fun q u hq => ?_⟩
      obtain ⟨i, j, hi, rfl, hv⟩ := hget l hlen q u hq
      have := (hp i (by simp; omega) hi).2.2 j u hv
      rw [List.getElem_range, add_none, add_none, Nat.add_assoc] at this
      exact this
    · obtain ⟨i, hi, rfl⟩ := List.mem_iff_getElem.1 hx
      exact (hp i (by simp; omega) hi).1
theorem flat_one {α β : Type} (f : α → β) (l : List α) : l.flatMap (fun x => [f x]) = l.map f := by
  induction l with
  | nil => rfl
  | cons a l ih => rw [List.flatMap_cons, ih]; rfl
/-- A slice of whole numbers. -/
theorem open_intsE {t e : Nat} {q : IntKind} (ht : P.underlying t = some (.slice e)) (he : P.underlying e = some (.int q)) (hk : P.cellsOf e = 1) {fuel : Nat} {cs : List Value} {x : DataW H × List MemPlace} (h : DataW.trod en P w 0 (fun _ => true) true fuel t cs = some x) :
    ∃ (A : Option Addr) (c : Nat) (l : List Int), cs = [.slice A l.length c] ∧ l.length ≤ c ∧ (A = none → c = 0) ∧ Rd w 1 A l.length (l.map (Value.int q)) ∧ ∀ x ∈ l, (Lit.int q x).wf = true := by
  obtain ⟨A, c, l, h1, h2, h3, h4, h5⟩ := open_rowsE (fun x : Int => [Value.int q x]) (fun x => (Lit.int q x).wf = true) (by omega) ht hk (fun n cs y hy => by
    obtain ⟨m, hm, _, hw⟩ := DataW.trod_int he hy
    exact ⟨m, hm, rfl, hw⟩) h
  rw [flat_one] at h4
  exact ⟨A, c, l, h1, h2, h3, h4, h5⟩
/-- A struct's fields, where they lie. -/
theorem open_structE {t : Nat} {fs : Array Field} (hs : P.underlying t = some (.struct fs)) {fuel : Nat} {cs : List Value} {x : DataW H × List MemPlace} (h : DataW.trod en P w 0 (fun _ => true) true fuel t cs = some x) :
    cs.length = P.cellsOf t ∧ ∀ (i ft off k : Nat), (fs[i]?).map (fun f => (f.type, f.offset)) = some (ft, off) → P.cellsOf ft = k → ∃ n y, DataW.trod en P w 0 (fun _ => true) true n ft ((cs.drop off).take k) = some y := by
  obtain ⟨xs, n, _, _, hl, hxl, hf⟩ := DataW.trod_struct hs h
  refine ⟨hl, fun i ft off k hi hk => ?_⟩
  cases hfi : fs[i]? with
  | none => rw [hfi] at hi; cases hi
  | some f =>
    rw [hfi] at hi
    simp only [Option.map_some, Option.some.injEq, Prod.mk.injEq] at hi
    obtain ⟨rfl, rfl⟩ := hi
    have h1 := hf i f hfi
    have hlt : i < xs.length := by rw [hxl]; exact (Array.getElem?_eq_some_iff.1 hfi).1
    rw [List.getElem?_eq_getElem hlt, hk] at h1
    exact ⟨n, _, h1⟩
end
end Go.Proofs.Ytnhgdngbdoifnaa.F

