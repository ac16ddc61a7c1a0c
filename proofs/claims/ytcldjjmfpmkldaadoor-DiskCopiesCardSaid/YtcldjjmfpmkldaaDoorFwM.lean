/- Maps from texts to blocks. -/
import Derived.Test.YtcldjjmfpmkldaaDoorFwB
import Derived.Sort.KeysCollected
/- A map from texts to blocks, told as a list. -/
namespace Go.Proofs.YtcldjjmfpmkldaaDoor.F
set_option linter.unusedVariables false
set_option linter.unusedSimpArgs false
open Go Go.RowKit
/-- a pointer to a block of its own, as a map's element. -/
def PtrE : Elem := fun v => match v with
  | .pointer none => some (.lit (.int .i64 (-1)), [])
  | .pointer (some ⟨b, 0, none⟩) => some (.lit (.int .i64 b), [])
  | _ => none
abbrev ptr (b : Nat) : Value := .pointer (some ⟨b, 0, none⟩)
theorem ptrE_some (b : Nat) : PtrE (ptr b) = some (.lit (.int .i64 b), []) := rfl
theorem ptrE_nil : PtrE (.pointer none) = some (.lit (.int .i64 (-1)), []) := rfl
theorem ptrE_inv {v : Value} {d : DataW Unit} {p : List MemPlace} (h : PtrE v = some (d, p)) : (v = .pointer none ∧ d = .lit (.int .i64 (-1))) ∨ ∃ b : Nat, v = ptr b ∧ d = .lit (.int .i64 b) := by
  unfold PtrE at h
  split at h
  · exact .inl ⟨rfl, ((Prod.mk.inj (Option.some.inj h)).1).symm⟩
  · exact .inr ⟨_, rfl, ((Prod.mk.inj (Option.some.inj h)).1).symm⟩
  · cases h
theorem ptrE_apart : Elem.apart PtrE := fun u v d p q h1 h2 => by
  rcases ptrE_inv h1 with ⟨rfl, e1⟩ | ⟨a, rfl, e1⟩ <;> rcases ptrE_inv h2 with ⟨rfl, e2⟩ | ⟨b, rfl, e2⟩
  · rfl
  · rw [e1] at e2
    simp only [DataW.lit.injEq, Lit.int.injEq, true_and] at e2
    omega
  · rw [e1] at e2
    simp only [DataW.lit.injEq, Lit.int.injEq, true_and] at e2
    omega
  · rw [e1] at e2
    simp only [DataW.lit.injEq, Lit.int.injEq, true_and] at e2
    obtain rfl : a = b := by omega
    rfl
abbrev Assoc := List (ByteArray × Nat)
def lst (s : ByteArray) : List UInt8 := s.data.toList
theorem lst_inj {a b : ByteArray} (h : lst a = lst b) : a = b := ByteArray.ext (Array.toList_inj.mp h)
abbrev ent (p : ByteArray × Nat) : Lit × DataW Unit := (.string (lst p.1), .lit (.int .i64 p.2))
def Assoc.find (A : Assoc) (s : ByteArray) : Option Nat := (A.find? (fun p => decide (p.1 = s))).map Prod.snd
def Assoc.Nd (A : Assoc) : Prop := A.Pairwise (fun p q => p.1 ≠ q.1)
theorem Assoc.find_mem {A : Assoc} (hn : A.Nd) {q : ByteArray × Nat} (hq : q ∈ A) : A.find q.1 = some q.2 := by
  induction A with
  | nil => cases hq
  | cons p A ih =>
    have hp := List.pairwise_cons.1 hn
    unfold Assoc.find
    rcases List.mem_cons.1 hq with rfl | h
    · simp
    · have hne : ¬ p.1 = q.1 := hp.1 q h
      rw [List.find?_cons_of_neg (by simp [hne])]
      exact ih hp.2 h
theorem Assoc.find_none {A : Assoc} {s : ByteArray} (h : A.find s = none) : ∀ p ∈ A, p.1 ≠ s := fun p hp e => by
  unfold Assoc.find at h
  rw [Option.map_eq_none_iff] at h
  have := List.find?_eq_none.1 h p hp
  simp [e] at this
theorem Assoc.find_some {A : Assoc} {s : ByteArray} {b : Nat} (h : A.find s = some b) : (s, b) ∈ A := by
  unfold Assoc.find at h
  obtain ⟨p, h1, h2⟩ := Option.map_eq_some_iff.1 h
  have h3 := List.find?_some h1
  have h4 := List.mem_of_find?_eq_some h1
  obtain ⟨k, v⟩ := p
  simp only [decide_eq_true_eq] at h3 h2
  rw [← h3, ← h2]
  exact h4
theorem Assoc.Nd.perm {A B : Assoc} (h : A.Nd) (hp : A.Perm B) : B.Nd := (hp.pairwise_iff (fun hab e => hab e.symm)).1 h
theorem Assoc.Nd.cons {A : Assoc} (h : A.Nd) (s : ByteArray) (b : Nat) : Assoc.Nd ((s, b) :: A.filter (fun p => decide (p.1 ≠ s))) := by
  refine List.pairwise_cons.2 ⟨fun q hq => ?_, h.filter _⟩
  have := (List.mem_filter.1 hq).2
  exact fun e => of_decide_eq_true this e.symm
/-- The block b holds a map of these texts and blocks. -/
def MapT (P : Program) (k : TypeId) (b : Nat) (A : Assoc) (w : World) : Prop := ∃ es, w.ownsMap P k PtrE b A.length (.map es) ∧ es.Perm (A.map ent) ∧ A.Nd ∧ ∀ p ∈ A, p.1.size ≤ maxLen
section
variable {P : Program} {k e t : TypeId} {b : Nat} {A : Assoc} {w w' : World}
theorem MapT.loc (h : w'.heap[b]? = w.heap[b]?) (hM : MapT P k b A w) : MapT P k b A w' := by
  obtain ⟨es', ⟨es, c, hb, hr⟩, h2⟩ := hM
  exact ⟨es', ⟨es, c, h.trans hb, hr⟩, h2⟩
def Res.mapT (P : Program) (k : TypeId) (b : Nat) (A : Assoc) : Res := ⟨[b], MapT P k b A, fun w w' h hM => hM.loc (h b (.head _))⟩
theorem MapT.made (w : World) : MapT P k w.heap.size [] (w.alloc (.map #[] 0)) := ⟨[], World.ownsMap_made _ _ _ _, .refl _, .nil, by simp⟩
theorem own_size {n m : Nat} {es : List (Lit × DataW Unit)} (h : w.ownsMap P k PtrE b n (.map es)) (hm : es.length = m) : w.ownsMap P k PtrE b m (.map es) := by
  obtain ⟨xs, c, hb, hF, hs, hD⟩ := h
  refine ⟨xs, c, hb, hF, ?_, hD⟩
  have := congrArg (Go.Maps.size) hD
  simp only [Go.Maps.size_eq, length_sorted, List.length_map, Array.length_toList] at this
  omega
theorem MapT.perm {B : Assoc} (h : MapT P k b A w) (hp : A.Perm B) : MapT P k b B w := by
  obtain ⟨es, h1, h2, h3, h4⟩ := h
  exact ⟨es, hp.length_eq ▸ h1, h2.trans (hp.map _), h3.perm hp, fun p hp' => h4 p (hp.mem_iff.2 hp')⟩
theorem atKey_ent {es : List (Lit × DataW Unit)} (hp : es.Perm (A.map ent)) (hn : A.Nd) (s : ByteArray) (z : DataW Unit) : (DataW.map es).atKey (.string (lst s)) z = (match A.find s with | some p => .lit (.int .i64 p) | none => z) := by
  unfold DataW.atKey
  simp only
  cases hf : es.find? (fun p => p.1.sameKey (.string (lst s))) with
  | none =>
    cases hA : A.find s with
    | none => rfl
    | some p =>
      have h1 := Assoc.find_some hA
      have h2 : ent (s, p) ∈ es := hp.mem_iff.2 (List.mem_map.2 ⟨_, h1, rfl⟩)
      have h3 := List.find?_eq_none.1 hf _ h2
      simp [Lit.sameKey] at h3
  | some x =>
    have h1 := List.mem_of_find?_eq_some hf
    have h2 := List.find?_some hf
    obtain ⟨q, hq, rfl⟩ := List.mem_map.1 (hp.mem_iff.1 h1)
    simp only [ent, Lit.sameKey, beq_iff_eq] at h2
    have h3 := lst_inj h2
    subst h3
    rw [Assoc.find_mem hn hq]
theorem keyS (hk : P.underlying k = some .string) {s : ByteArray} (hs : s.size ≤ maxLen) : keyOf P k (.string s) = some (.string (lst s)) := WideMaps.keyOf_string_mk hk hs
/-- what is found, as a pointer. -/
def found (o : Option Nat) : Value := .pointer (o.map fun b => ⟨b, 0, none⟩)
theorem MapT.lookup (h : MapT P k b A w) (hk : P.underlying k = some .string) (ht : P.underlying t = some (.map k e)) (hz : (zeroValue e).run P w = .ok (.pointer none) w) {s : ByteArray} (hs : s.size ≤ maxLen) :
    (Instr.lookup t (.map (some b)) (.string s) false).run P w = .ok (found (A.find s)) w := by
  obtain ⟨es, h1, h2, h3, _⟩ := h
  obtain ⟨v, ps, hr, hv⟩ := h1.lookup (Go.Maps.string_keyed hk) ht hz (zd := .lit (.int .i64 (-1))) (zp := []) rfl (keyS hk hs)
  rw [hr]
  rw [atKey_ent h2 h3] at hv
  congr 1
  cases hA : A.find s with
  | none =>
    rw [hA] at hv
    exact ptrE_apart _ _ _ _ _ hv ptrE_nil
  | some p =>
    rw [hA] at hv
    exact ptrE_apart _ _ _ _ _ hv (ptrE_some p)
theorem insert_perm (x : Lit × DataW Unit) : ∀ l : List (Lit × DataW Unit), (DataW.insert x l).Perm (x :: l)
  | [] => .refl _
  | y :: l => by
    unfold DataW.insert
    split
    · exact .refl _
    · exact ((insert_perm x l).cons y).trans (.swap _ _ _)
theorem filter_ent (s : ByteArray) : ∀ A : Assoc, (A.map ent).filter (fun p => !p.1.sameKey (.string (lst s))) = (A.filter (fun p => decide (p.1 ≠ s))).map ent
  | [] => rfl
  | p :: A => by
    have ih := filter_ent s A
    by_cases h : p.1 = s
    · rw [List.map_cons, List.filter_cons_of_neg (by simp [Lit.sameKey, h]), List.filter_cons_of_neg (by simp [h]), ih]
    · have h' : ¬ lst p.1 = lst s := fun e => h (lst_inj e)
      rw [List.map_cons, List.filter_cons_of_pos (by simp [Lit.sameKey, h']), List.filter_cons_of_pos (by simp [h]), ih, List.map_cons]
theorem MapT.update {B : Assoc} {v : Nat} (h : MapT P k b A w) (hk : P.underlying k = some .string) (ht : P.underlying t = some (.map k e)) (hl : A.length < maxLen) {s : ByteArray} (hs : s.size ≤ maxLen) (hB : B.Perm ((s, v) :: A.filter (fun p => decide (p.1 ≠ s)))) :
    ∃ w', (Instr.mapUpdate t (.map (some b)) (.string s) (ptr v)).run P w = .ok () w' ∧ MapT P k b B w' ∧ w.grownBy w' (some b) := by
  obtain ⟨es, h1, h2, h3, h4⟩ := h
  obtain ⟨w', hr, h5, h6⟩ := h1.update (Go.Maps.string_keyed hk) ht hl (keyS hk hs) (d := .lit (.int .i64 v)) (ps := []) (ptrE_some v)
  have h7 : ((DataW.map es).put (.string (lst s)) (.lit (.int .i64 v))) = .map (DataW.insert (ent (s, v)) (es.filter (fun p => !p.1.sameKey (.string (lst s))))) := rfl
  rw [h7] at h5
  have h8 : (DataW.insert (ent (s, v)) (es.filter (fun p => !p.1.sameKey (.string (lst s))))).Perm (((s, v) :: A.filter (fun p => decide (p.1 ≠ s))).map ent) := by
    refine (insert_perm _ _).trans ?_
    rw [List.map_cons]
    refine List.Perm.cons _ ?_
    rw [← filter_ent]
    exact h2.filter _
  refine ⟨w', hr, (MapT.perm (A := (s, v) :: A.filter (fun p => decide (p.1 ≠ s))) ⟨_, own_size h5 (by rw [h8.length_eq, List.length_map]), h8, h3.cons s v, fun p hp => ?_⟩ hB.symm), h6⟩
  rcases List.mem_cons.1 hp with rfl | hp
  · exact hs
  · exact h4 p (List.mem_filter.1 hp).1
theorem MapT.delete {B : Assoc} {ty : TypeId} (h : MapT P k b A w) (hk : P.underlying k = some .string) (ht : P.underlying t = some (.map k e)) {s : ByteArray} (hs : s.size ≤ maxLen) (hB : B.Perm (A.filter (fun p => decide (p.1 ≠ s)))) :
    ∃ w', (Builtin.delete_ #[t, k] ty #[.map (some b), .string s]).run P w = .ok (.tuple #[]) w' ∧ MapT P k b B w' ∧ w.grownBy w' (some b) := by
  obtain ⟨es, h1, h2, h3, h4⟩ := h
  obtain ⟨w', hr, h5, h6⟩ := h1.drop (Go.Maps.string_keyed hk) ht (keyS hk hs) ty
  have h7 : ((DataW.map es).del (.string (lst s))) = .map (es.filter (fun p => !p.1.sameKey (.string (lst s)))) := rfl
  rw [h7] at h5
  have h8 : (es.filter (fun p => !p.1.sameKey (.string (lst s)))).Perm ((A.filter (fun p => decide (p.1 ≠ s))).map ent) := by
    rw [← filter_ent]
    exact h2.filter _
  exact ⟨w', hr, MapT.perm (A := A.filter (fun p => decide (p.1 ≠ s))) ⟨_, own_size h5 (by rw [h8.length_eq, List.length_map]), h8, h3.filter _, fun p hp => h4 p (List.mem_filter.1 hp).1⟩ hB.symm, h6.grown⟩
theorem MapT.len {ty : TypeId} (h : MapT P k b A w) (ht : P.underlying t = some (.map k e)) : (Builtin.len_ #[t] ty #[.map (some b)]).run P w = .ok (.int .i64 (A.length : Int)) w := by
  obtain ⟨es, h1, h2, h3, _⟩ := h
  have := h1.len ht ty
  rw [Go.Maps.size_eq, h2.length_eq, List.length_map] at this
  exact this
/-- Texts in order. -/
def Up (A : Assoc) : Prop := A.Pairwise (fun p q => lst p.1 < lst q.1)
theorem Up.nd (h : Up A) : A.Nd := h.imp fun hab e => by rw [e] at hab; exact absurd hab (List.lt_irrefl _)
theorem sorted_keys (h : Up A) {ss : List (List UInt8)} (hp : ss.Perm (A.map fun p => lst p.1)) : ss.mergeSort (fun x y => decide (x ≤ y)) = A.map fun p => lst p.1 := by
  have h1 : (ss.mergeSort (fun x y => decide (x ≤ y))).Pairwise (fun x y => decide (x ≤ y) = true) := List.pairwise_mergeSort (fun a b c h1 h2 => by simp only [decide_eq_true_eq] at *; exact List.le_trans h1 h2) (fun a b => by simpa using List.le_total a b) ss
  have h2 : (A.map fun p => lst p.1).Pairwise (fun x y => decide (x ≤ y) = true) := by
    rw [List.pairwise_map]
    exact h.imp fun hab => by simpa using List.le_of_lt hab
  refine List.Perm.eq_of_pairwise (le := fun x y => decide (x ≤ y) = true) (fun a b _ _ h1 h2 => ?_) h1 h2 ((List.mergeSort_perm ss _).trans hp)
  simp only [decide_eq_true_eq] at h1 h2
  exact List.le_antisymm h1 h2
end
section
variable {P : Program} {k e t : TypeId} {b : Nat} {A B : Assoc} {w w0 : World} {F : List Nat} {L : List Res} {K : Value → World → Prop}
theorem St.mapT (j : Nat) (hS : St w0 F w L) (hj : L[j]? = some (Res.mapT P k b A)) : MapT P k b A w := hS.get j hj
theorem makeMapT_ok (k : TypeId) (hS : St w0 F w L) (h : ∀ b w', St w0 F w' (Res.mapT P k b [] :: L) → K (.map (some b)) w') : valP P (Instr.makeMap t none) w K := by
  refine valP_ok (run_makeMap t w) (h _ _ (hS.add (Chg.alloc _ _ _) (MapT.made w) (fun g hg => ?_) (fun g hg => ?_)))
  all_goals
    obtain rfl : g = w.heap.size := List.mem_singleton.1 hg
    simp
theorem putT_at (j : Nat) {v : Nat} {s : ByteArray} (B : Assoc) (hS : St w0 F w L) (hj : L[j]? = some (Res.mapT P k b A)) (hk : P.underlying k = some .string) (ht : P.underlying t = some (.map k e)) (hl : A.length < maxLen) (hs : s.size ≤ maxLen) (hB : B.Perm ((s, v) :: A.filter (fun p => decide (p.1 ≠ s))))
    (h : ∀ w', St w0 F w' (L.set j (Res.mapT P k b B)) → K undef w') : unitP P (Instr.mapUpdate t (.map (some b)) (.string s) (ptr v)) w K := by
  obtain ⟨w', hr, hm', hg⟩ := (hS.mapT j hj).update hk ht hl hs hB
  have hlt : b < w.heap.size := hS.lt _ (List.mem_of_getElem? hj) b (.head _)
  exact unitP_ok hr (h _ (hS.updk j hj ((Chg.of_grown hg).mono (by simp [Res.mapT])) hm' (fun g hg => .inl hg) (fun g' hg' => by
    obtain rfl : g' = b := List.mem_singleton.1 hg'
    exact Nat.lt_of_lt_of_le hlt hg.size)))
theorem delT_at (j : Nat) {ty : TypeId} {cs : Array Bool} {s : ByteArray} (B : Assoc) (hS : St w0 F w L) (hj : L[j]? = some (Res.mapT P k b A)) (hk : P.underlying k = some .string) (ht : P.underlying t = some (.map k e)) (hs : s.size ≤ maxLen) (hB : B.Perm (A.filter (fun p => decide (p.1 ≠ s))))
    (h : ∀ w', St w0 F w' (L.set j (Res.mapT P k b B)) → K (.tuple #[]) w') : builtinP P .delete #[t, k] ty cs #[.map (some b), .string s] w K := by
  obtain ⟨w', hr, hm', hg⟩ := (hS.mapT j hj).delete (ty := ty) hk ht hs hB
  have hlt : b < w.heap.size := hS.lt _ (List.mem_of_getElem? hj) b (.head _)
  exact builtin_ok (by simp [builtin, hr]) (h _ (hS.updk j hj ((Chg.of_grown hg).mono (by simp [Res.mapT])) hm' (fun g hg => .inl hg) (fun g' hg' => by
    obtain rfl : g' = b := List.mem_singleton.1 hg'
    exact Nat.lt_of_lt_of_le hlt hg.size)))
theorem lenT_ok (j : Nat) {ty : TypeId} {cs : Array Bool} (hS : St w0 F w L) (hj : L[j]? = some (Res.mapT P k b A)) (ht : P.underlying t = some (.map k e)) (h : K (.int .i64 (A.length : Int)) w) : builtinP P .len #[t] ty cs #[.map (some b)] w K :=
  builtin_ok (by simp [builtin, (hS.mapT j hj).len ht]) h
end
end Go.Proofs.YtcldjjmfpmkldaaDoor.F

