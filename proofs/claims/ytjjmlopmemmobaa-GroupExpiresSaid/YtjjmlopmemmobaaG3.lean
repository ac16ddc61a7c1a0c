/- What is done to a group, in plain words, and what stays true of it. -/
import Derived.Test.YtjjmlopmemmobaaG2
namespace Go.Proofs.Ytjjmlopmemmobaa.M
open Go.Proofs.Ytjjmlopmemmobaa.F Go.RowKit
set_option linter.unusedVariables false
set_option linter.unusedSimpArgs false
set_option maxRecDepth 100000
set_option maxHeartbeats 2000000
attribute [local irreducible] Res.cells Res.row Res.map Res.any World.cell? World.frozen? Instr.fieldAt Instr.loadAt Instr.storeAt Instr.indexAt Instr.lookup Instr.mapUpdate Instr.box Instr.build Instr.buildSlice Instr.extract Instr.alloc Instr.field Instr.index Instr.sliceAt Instr.makeSlice Instr.makeMap Instr.makeFunc binS Op.unary Sem.run
open Go.Proofs.Ytjjmlopmemmobaa.L Go.Shelf
/-- What is true of a group behind at most T deeds. -/
structure GOk (T : Nat) (s : GS) : Prop where
  parts : 1 ≤ s.parts ∧ s.parts ≤ 4
  g0 : 0 ≤ s.g ∧ s.g ≤ 1099511627776
  n0 : 1 ≤ s.n ∧ s.n ≤ 1099511627776
  now0 : 0 ≤ s.now ∧ s.now ≤ T
  len : s.L.length ≤ T
  rise : s.L.Pairwise (fun a b => a.id < b.id)
  each : ∀ m ∈ s.L, 1 ≤ m.id ∧ m.id < s.n
  work : ∀ m ∈ s.L, 1 ≤ m.wk ∧ m.wk ≤ 8
  due : ∀ m ∈ s.L, 0 ≤ m.due ∧ m.due ≤ s.now + 12
  once : s.L.Pairwise (fun a b => a.wk ≠ b.wk)
  olen : s.O.length = s.parts.toNat
  bO : ∀ x ∈ s.O, 0 ≤ x ∧ x ≤ 1099511627776
theorem GOk.le {T T' : Nat} {s : GS} (h : GOk T s) (ht : T ≤ T') : GOk T' s := ⟨h.parts, h.g0, h.n0, ⟨h.now0.1, by have := h.now0.2; omega⟩, by have := h.len; omega, h.rise, h.each, h.work, h.due, h.once, h.olen, h.bO⟩
theorem GOk.bad {T : Nat} {s : GS} (h : GOk T s) : ¬ badParts s.parts := by have := h.parts; unfold badParts; omega
theorem ids_rise {l : List Mem} (h : l.Pairwise (fun a b => a.id < b.id)) : (idsL l).Pairwise (· < ·) := List.pairwise_map.2 h
theorem ids_mem {l : List Mem} (hr : l.Pairwise (fun a b => a.id < b.id)) (he : ∀ m ∈ l, 1 ≤ m.id) : membersL (idsL l) = idsL l :=
  membersL_of (ids_rise hr) fun x => ⟨fun hx => ⟨hx, by
    obtain ⟨m, hm, rfl⟩ := List.mem_map.1 hx
    have := he m hm
    omega⟩, fun hx => hx.1⟩
theorem sticky_none {parts : Int} {old : List Int} : stickyL parts [] old = List.replicate parts.toNat 0 := rfl
theorem range_none {parts : Int} : rangeL parts [] = List.replicate parts.toNat 0 := by
  simp [rangeL, rngL]
/-- who has what behind a turn. -/
theorem own_none {s : GS} (h : s.L = []) : ownL s = List.replicate s.parts.toNat 0 := by
  have e : membersL (idsL s.L) = [] := by rw [h]; exact membersL_of (l := []) .nil (fun x => by simp)
  unfold ownL
  rw [e]
  split
  · exact sticky_none
  · exact range_none
theorem own_fair {s : GS} (hp : ¬ badParts s.parts) (hr : s.L.Pairwise (fun a b => a.id < b.id)) (he : ∀ m ∈ s.L, 1 ≤ m.id ∧ m.id ≤ 1099511627776) (hl : s.L.length ≤ 1000) (h0 : s.L ≠ []) : Fair s.parts (idsL s.L) (ownL s) := by
  have hM := ids_mem hr fun m hm => (he m hm).1
  have hpos : ∀ x ∈ idsL s.L, 0 < x := fun x hx => by
    obtain ⟨m, hm, rfl⟩ := List.mem_map.1 hx
    have := he m hm
    omega
  have hb : ∀ x ∈ idsL s.L, -9223372036854775808 ≤ x ∧ x ≤ 9223372036854775807 := fun x hx => by
    obtain ⟨m, hm, rfl⟩ := List.mem_map.1 hx
    have := he m hm
    omega
  have h1 : 0 < (idsL s.L).length := by
    rw [List.length_map]
    exact List.length_pos_iff.2 h0
  unfold ownL
  rw [hM]
  split
  · exact sticky_fair h1 hp (ids_rise hr) (by rw [List.length_map]; exact hl) hb hpos
  · exact range_fair h1 hp (ids_rise hr) hpos
theorem own_len {s : GS} (hp : ¬ badParts s.parts) (hr : s.L.Pairwise (fun a b => a.id < b.id)) (he : ∀ m ∈ s.L, 1 ≤ m.id ∧ m.id ≤ 1099511627776) (hl : s.L.length ≤ 1000) : (ownL s).length = s.parts.toNat ∧ ∀ x ∈ ownL s, 0 ≤ x ∧ x ≤ 1099511627776 := by
  by_cases h0 : s.L = []
  · rw [own_none h0]
    refine ⟨by simp, fun x hx => ?_⟩
    rw [List.eq_of_mem_replicate hx]
    omega
  · have hf := own_fair hp hr he hl h0
    refine ⟨hf.len, fun x hx => ?_⟩
    obtain ⟨m, hm, rfl⟩ := List.mem_map.1 (hf.inM x hx)
    have := he m hm
    omega
/-- a turn keeps what is true. -/
theorem GOk.turn {T : Nat} {s : GS} (hT : T ≤ 900) (h : GOk T s) (hg : s.g < 1099511627776) : GOk T (gturned s) := by
  have hp := h.parts
  have hg0 := h.g0
  have hn := h.n0
  obtain ⟨h1, h2⟩ := own_len h.bad h.rise (fun m hm => by have := h.each m hm; omega) (by have := h.len; omega)
  exact ⟨h.parts, by show 0 ≤ s.g + 1 ∧ s.g + 1 ≤ _; omega, h.n0, h.now0, h.len, h.rise, h.each, h.work, h.due, h.once, h1, h2⟩
theorem GOk.pre {T : Nat} {s : GS} (hT : T ≤ 900) (h : GOk T s) : GPre s := ⟨h.parts, by have := h.len; omega, fun m hm => by have := h.each m hm; have := h.n0; omega, h.bO, h.g0⟩
/-- fewer members. -/
theorem GOk.fewer {T : Nat} {s : GS} (h : GOk T s) (p : Mem → Bool) : GOk T { s with L := s.L.filter p } :=
  ⟨h.parts, h.g0, h.n0, h.now0, by have := h.len; have := List.length_filter_le p s.L; show (s.L.filter p).length ≤ T; omega, h.rise.filter _, fun m hm => h.each m (List.mem_filter.1 hm).1, fun m hm => h.work m (List.mem_filter.1 hm).1, fun m hm => h.due m (List.mem_filter.1 hm).1, h.once.filter _, h.olen, h.bO⟩
def joined (s : GS) (wk : Int) : GS := { s with L := (s.L.filter fun m => !decide (m.wk = wk)) ++ [⟨s.n, wk, s.now + 12⟩], n := s.n + 1 }
theorem GOk.join {T : Nat} {s : GS} {wk : Int} (h : GOk T s) (hw : 1 ≤ wk ∧ wk ≤ 8) (hn : s.n < 1099511627776) : GOk (T + 1) (joined s wk) := by
  have hf := h.fewer (fun m => !decide (m.wk = wk))
  have hn0 := h.n0
  have hnow := h.now0
  have hin : ∀ {m : Mem}, m ∈ (joined s wk).L → m ∈ s.L.filter (fun m => !decide (m.wk = wk)) ∨ m = ⟨s.n, wk, s.now + 12⟩ := fun {m} hm => by
    rcases List.mem_append.1 hm with hm | hm
    · exact .inl hm
    · exact .inr (List.mem_singleton.1 hm)
  refine ⟨h.parts, h.g0, by show 1 ≤ s.n + 1 ∧ s.n + 1 ≤ _; omega, by show 0 ≤ s.now ∧ s.now ≤ ((T + 1 : Nat) : Int); omega, ?_, ?_, ?_, ?_, ?_, ?_, h.olen, h.bO⟩
  · have := hf.len
    simp only [joined, List.length_append, List.length_singleton]
    simp only at this
    omega
  · refine List.pairwise_append.2 ⟨hf.rise, List.pairwise_singleton _ _, fun a ha b hb => ?_⟩
    rw [List.mem_singleton.1 hb]
    exact (hf.each a ha).2
  · intro m hm
    show _ ∧ m.id < s.n + 1
    rcases hin hm with hm | rfl
    · have := hf.each m hm
      simp only at this
      omega
    · simp only
      omega
  · intro m hm
    rcases hin hm with hm | rfl
    · exact hf.work m hm
    · exact hw
  · intro m hm
    show _ ∧ _ ≤ s.now + 12
    rcases hin hm with hm | rfl
    · exact hf.due m hm
    · simp only
      omega
  · refine List.pairwise_append.2 ⟨hf.once, List.pairwise_singleton _ _, fun a ha b hb => ?_⟩
    rw [List.mem_singleton.1 hb]
    simpa using (List.mem_filter.1 ha).2
def joinG (s : GS) (wk : Int) : GS := if (wk < 1 ∨ 8 < wk) ∨ (1099511627776 ≤ s.g ∨ 1099511627776 ≤ s.n) then s else gturned (joined s wk)
def joinA (s : GS) (wk : Int) : Int × Int × Int := if wk < 1 ∨ 8 < wk then (0, 0, 1) else if 1099511627776 ≤ s.g ∨ 1099511627776 ≤ s.n then (0, 0, 6) else (s.n, s.g + 1, 0)
theorem joinG_ok {T : Nat} {s : GS} (hT : T < 900) (h : GOk T s) (wk : Int) : GOk (T + 1) (joinG s wk) := by
  unfold joinG
  split
  · exact h.le (by omega)
  · exact (h.join (by omega) (by omega)).turn (by omega) (by show s.g < _; omega)
def leaveG (s : GS) (id : Int) : GS := match atL s.L id with
  | none => s
  | some _ => if 1099511627776 ≤ s.g then s else gturned { s with L := s.L.filter fun m => !decide (m.id = id) }
def leaveA (s : GS) (id : Int) : Int := match atL s.L id with
  | none => 11
  | some _ => if 1099511627776 ≤ s.g then 6 else 0
theorem leaveG_ok {T : Nat} {s : GS} (hT : T < 900) (h : GOk T s) (id : Int) : GOk T (leaveG s id) := by
  unfold leaveG
  split
  · exact h
  · split
    · exact h
    · exact (h.fewer _).turn (by omega) (by show s.g < _; omega)
def later (s : GS) : GS := { s with now := s.now + 1 }
def stays (s : GS) : List Mem := s.L.filter fun m => !decide (m.due ≤ s.now + 1)
def tickG (s : GS) : GS := if 1099511627776 ≤ s.g ∨ ¬ (stays s).length < s.L.length then later s else gturned { later s with L := stays s }
def tickA (s : GS) : Bool := !decide (1099511627776 ≤ s.g) && decide ((stays s).length < s.L.length)
theorem GOk.later {T : Nat} {s : GS} (h : GOk T s) : GOk (T + 1) (later s) := by
  have hnow := h.now0
  exact ⟨h.parts, h.g0, h.n0, by show 0 ≤ s.now + 1 ∧ s.now + 1 ≤ ((T + 1 : Nat) : Int); omega, by have := h.len; show s.L.length ≤ _; omega, h.rise, h.each, h.work, fun m hm => by have := h.due m hm; show _ ∧ _ ≤ s.now + 1 + 12; omega, h.once, h.olen, h.bO⟩
theorem tickG_ok {T : Nat} {s : GS} (hT : T < 900) (h : GOk T s) : GOk (T + 1) (tickG s) := by
  unfold tickG
  split
  · exact h.later
  · exact (h.later.fewer _).turn (by omega) (by show s.g < _; omega)
def heardL (l : List Mem) (i : Nat) (d : Int) : List Mem := match l[i]? with
  | some m => l.set i ⟨m.id, m.wk, d⟩
  | none => l
theorem heardL_at {l : List Mem} {i : Nat} (h : i < l.length) (d : Int) : heardL l i d = l.set i ⟨l[i].id, l[i].wk, d⟩ := by
  unfold heardL
  rw [List.getElem?_eq_getElem h]
theorem heardL_len (l : List Mem) (i : Nat) (d : Int) : (heardL l i d).length = l.length := by
  unfold heardL
  split <;> simp
theorem heardL_get (l : List Mem) (i : Nat) (d : Int) (j : Nat) (h : j < (heardL l i d).length) (h' : j < l.length) : (heardL l i d)[j] = if i = j then ⟨l[j].id, l[j].wk, d⟩ else l[j] := by
  by_cases hi : i < l.length
  · simp only [heardL_at hi, List.getElem_set]
    split
    · rename_i e
      subst e
      rfl
    · rfl
  · have e : heardL l i d = l := by unfold heardL; rw [List.getElem?_eq_none (by omega)]
    simp only [e]
    rw [if_neg (by omega)]
theorem heardL_id (l : List Mem) (i : Nat) (d : Int) : idsL (heardL l i d) = idsL l := by
  refine List.ext_getElem (by simp [heardL_len]) fun j h1 h2 => ?_
  simp only [idsL, List.getElem_map]
  rw [heardL_get l i d j (by simpa using h1) (by simpa using h2)]
  split <;> rfl
theorem heardL_wk (l : List Mem) (i : Nat) (d : Int) : (heardL l i d).map (·.wk) = l.map (·.wk) := by
  refine List.ext_getElem (by simp [heardL_len]) fun j h1 h2 => ?_
  simp only [List.getElem_map]
  rw [heardL_get l i d j (by simpa using h1) (by simpa using h2)]
  split <;> rfl
theorem heardL_in {l : List Mem} {i : Nat} {d : Int} {m : Mem} (hm : m ∈ heardL l i d) : ∃ m0 ∈ l, m.id = m0.id ∧ m.wk = m0.wk ∧ (m.due = m0.due ∨ m.due = d) := by
  obtain ⟨j, hj, rfl⟩ := List.mem_iff_getElem.1 hm
  have hj' : j < l.length := by rw [← heardL_len l i d]; exact hj
  rw [heardL_get l i d j hj hj']
  refine ⟨l[j], List.getElem_mem hj', ?_⟩
  split
  · exact ⟨rfl, rfl, .inr rfl⟩
  · exact ⟨rfl, rfl, .inl rfl⟩
def heard (s : GS) (i : Nat) : GS := { s with L := heardL s.L i (s.now + 12) }
theorem GOk.heard {T : Nat} {s : GS} (h : GOk T s) (i : Nat) : GOk T (heard s i) := by
  have hnow := h.now0
  refine ⟨h.parts, h.g0, h.n0, h.now0, by have := h.len; show (heardL _ _ _).length ≤ _; rw [heardL_len]; exact this, ?_, ?_, ?_, ?_, ?_, h.olen, h.bO⟩
  · have := ids_rise h.rise
    rw [← heardL_id s.L i (s.now + 12)] at this
    exact List.pairwise_map.1 this
  · intro m hm
    obtain ⟨m0, hm0, e, _⟩ := heardL_in hm
    rw [e]
    exact h.each m0 hm0
  · intro m hm
    obtain ⟨m0, hm0, _, e, _⟩ := heardL_in hm
    rw [e]
    exact h.work m0 hm0
  · intro m hm
    obtain ⟨m0, hm0, _, _, e⟩ := heardL_in hm
    have := h.due m0 hm0
    show _ ∧ _ ≤ s.now + 12
    omega
  · have : (s.L.map (·.wk)).Pairwise (· ≠ ·) := List.pairwise_map.2 h.once
    rw [← heardL_wk s.L i (s.now + 12)] at this
    exact List.pairwise_map.1 this
def syncG (s : GS) (id : Int) : GS := match atL s.L id with
  | none => s
  | some i => heard s i
theorem syncG_ok {T : Nat} {s : GS} (h : GOk T s) (id : Int) : GOk T (syncG s id) := by
  unfold syncG
  split
  · exact h
  · exact h.heard _
def ownFrom (id : Int) : Nat → List Int → List Int
  | _, [] => []
  | k, x :: l => if x = id then (k : Int) :: ownFrom id (k + 1) l else ownFrom id (k + 1) l
theorem ownFrom_snoc (id x : Int) : ∀ (l : List Int) (k : Nat), ownFrom id k (l ++ [x]) = ownFrom id k l ++ if x = id then [((k + l.length : Nat) : Int)] else []
  | [], k => by simp [ownFrom]
  | a :: l, k => by
    simp only [List.cons_append, ownFrom, ownFrom_snoc id x l (k + 1), List.length_cons]
    rw [show k + 1 + l.length = k + (l.length + 1) by omega]
    split <;> simp
theorem ownFrom_take (id : Int) (l : List Int) (p : Nat) (h : p < l.length) : ownFrom id 0 (l.take (p + 1)) = ownFrom id 0 (l.take p) ++ if l[p] = id then [(p : Int)] else [] := by
  rw [List.take_succ_eq_append_getElem h, ownFrom_snoc, List.length_take, show 0 + min p l.length = p by omega]
theorem ownFrom_len (id : Int) : ∀ (l : List Int) (k : Nat), (ownFrom id k l).length ≤ l.length
  | [], k => by simp [ownFrom]
  | a :: l, k => by
    have := ownFrom_len id l (k + 1)
    unfold ownFrom
    split <;> simp <;> omega
theorem ownFrom_tm (id : Int) : ∀ (l : List Int) (k : Nat), ((ownFrom id k l).length : Int) = tm l id
  | [], k => rfl
  | a :: l, k => by
    have ih := ownFrom_tm id l (k + 1)
    unfold ownFrom
    unfold tm at ih ⊢
    rw [List.count_cons]
    by_cases e : a = id
    · rw [if_pos e, if_pos (by simpa using e)]
      simp
      omega
    · rw [if_neg e, if_neg (by simpa using e)]
      simpa using ih
theorem ownFrom_mem (id : Int) : ∀ (l : List Int) (k : Nat) (x : Int), x ∈ ownFrom id k l → ∃ (j : Nat) (h : j < l.length), x = ((k + j : Nat) : Int) ∧ l[j] = id
  | [], k, x, h => by cases h
  | a :: l, k, x, h => by
    unfold ownFrom at h
    have rec_ : x ∈ ownFrom id (k + 1) l → ∃ (j : Nat) (h : j < (a :: l).length), x = ((k + j : Nat) : Int) ∧ (a :: l)[j] = id := fun h => by
      obtain ⟨j, hj, e, e2⟩ := ownFrom_mem id l (k + 1) x h
      exact ⟨j + 1, by simpa using hj, by rw [e]; congr 1; omega, by simpa using e2⟩
    split at h
    · rename_i e
      rcases List.mem_cons.1 h with rfl | h
      · exact ⟨0, by simp, by simp, e⟩
      · exact rec_ h
    · exact rec_ h
def syncA (s : GS) (id : Int) : Int × List Int × Int := match atL s.L id with
  | none => (0, [], 11)
  | some _ => (s.g, ownFrom id 0 s.O, 0)
def beatG (s : GS) (id gen : Int) : GS := match atL s.L id with
  | none => s
  | some i => if gen ≠ s.g then s else heard s i
def beatA (s : GS) (id gen : Int) : Int := match atL s.L id with
  | none => 11
  | some _ => if gen ≠ s.g then 12 else 0
theorem beatG_ok {T : Nat} {s : GS} (h : GOk T s) (id gen : Int) : GOk T (beatG s id gen) := by
  unfold beatG
  split
  · exact h
  · split
    · exact h
    · exact h.heard _
def mayA (s : GS) (id gen part : Int) : Int := match atL s.L id with
  | none => 11
  | some _ => if gen ≠ s.g then 12 else if part < 0 ∨ part ≥ s.parts ∨ s.O[part.toNat]? ≠ some id then 13 else 0
def newS (parts : Int) (sticky : Bool) (gen next : Int) : GS := ⟨parts, sticky, gen, next, 0, [], List.replicate parts.toNat 0⟩
def newBad (parts gen next : Int) : Prop := (parts < 1 ∨ 4 < parts) ∨ (gen < 0 ∨ 1099511627776 < gen) ∨ (next < 1 ∨ 1099511627776 < next)
instance (parts gen next : Int) : Decidable (newBad parts gen next) := inferInstanceAs (Decidable (_ ∨ _))
theorem newS_ok {parts gen next : Int} (sticky : Bool) (h : ¬ newBad parts gen next) : GOk 0 (newS parts sticky gen next) := by
  unfold newBad at h
  refine ⟨by show 1 ≤ parts ∧ parts ≤ 4; omega, by show 0 ≤ gen ∧ gen ≤ _; omega, by show 1 ≤ next ∧ next ≤ _; omega, by show (0 : Int) ≤ 0 ∧ (0 : Int) ≤ _; omega, by simp [newS], .nil, fun m hm => (by cases hm), fun m hm => (by cases hm), fun m hm => (by cases hm), .nil, by simp [newS], fun x hx => ?_⟩
  rw [List.eq_of_mem_replicate hx]
  omega

end Go.Proofs.Ytjjmlopmemmobaa.M
