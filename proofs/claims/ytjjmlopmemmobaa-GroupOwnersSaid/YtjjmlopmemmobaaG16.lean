/- At every moment each partition has a member as its owner, if there is any. -/
import Derived.Test.YtjjmlopmemmobaaG15
namespace Go.Proofs.Ytjjmlopmemmobaa.M
open Go.Proofs.Ytjjmlopmemmobaa.F Go.RowKit
set_option linter.unusedVariables false
set_option linter.unusedSimpArgs false
set_option maxRecDepth 100000
set_option maxHeartbeats 2000000
attribute [local irreducible] Res.cells Res.row Res.map Res.any World.cell? World.frozen? Instr.fieldAt Instr.loadAt Instr.storeAt Instr.indexAt Instr.lookup Instr.mapUpdate Instr.box Instr.build Instr.buildSlice Instr.extract Instr.alloc Instr.field Instr.index Instr.sliceAt Instr.makeSlice Instr.makeMap Instr.makeFunc binS Op.unary Sem.run
open Go.Proofs.Ytjjmlopmemmobaa.L Go.Shelf
/-- Each has a share. -/
structure GF (s : GS) : Prop where
  none : s.L = [] → s.O = List.replicate s.parts.toNat 0
  some : s.L ≠ [] → Fair s.parts (idsL s.L) s.O
theorem GOk.turn_fair {T : Nat} {s : GS} (hT : T ≤ 900) (h : GOk T s) : GF (gturned s) :=
  ⟨fun h0 => own_none h0, fun h0 => own_fair h.bad h.rise (fun m hm => by have := h.each m hm; have := h.n0; omega) (by have := h.len; omega) h0⟩
theorem ids_nil {a b : List Mem} (h : idsL a = idsL b) : a = [] ↔ b = [] := by
  have h := congrArg List.length h
  simp only [List.length_map] at h
  rw [← List.length_eq_zero_iff, ← List.length_eq_zero_iff, h]
theorem GF.same {s t : GS} (h : GF s) (hi : idsL t.L = idsL s.L) (ho : t.O = s.O) (hp : t.parts = s.parts) : GF t :=
  ⟨fun h0 => by rw [ho, hp]; exact h.none ((ids_nil hi).1 h0), fun h0 => by rw [ho, hp, hi]; exact h.some fun h1 => h0 ((ids_nil hi).2 h1)⟩
theorem GF.heard {s : GS} (h : GF s) (i : Nat) : GF (heard s i) := h.same (heardL_id _ _ _) rfl rfl
theorem doG_fair {T : Nat} {s : GS} (hT : T < 900) (hs : GOk T s) (h : GF s) (x : Gd) : GF (doG s x) := by
  unfold doG
  split
  · unfold joinG
    split
    · exact h
    · exact (hs.join (by omega) (by omega)).turn_fair (by omega)
  · split
    · unfold syncG
      split
      · exact h
      · exact h.heard _
    · split
      · unfold beatG
        split
        · exact h
        · split
          · exact h
          · exact h.heard _
      · split
        · unfold leaveG
          split
          · exact h
          · split
            · exact h
            · exact (hs.fewer _).turn_fair (by omega)
        · split
          · unfold tickG
            split
            · exact h.same rfl rfl rfl
            · exact (hs.later.fewer _).turn_fair (by omega)
          · exact h
theorem doG_parts (s : GS) (x : Gd) : (doG s x).parts = s.parts := by
  unfold doG
  split
  · unfold joinG
    split <;> rfl
  · split
    · unfold syncG
      split <;> rfl
    · split
      · unfold beatG
        split
        · rfl
        · split <;> rfl
      · split
        · unfold leaveG
          split
          · rfl
          · split <;> rfl
        · split
          · unfold tickG
            split <;> rfl
          · rfl
theorem newS_fair {parts gen next : Int} {st : Bool} : GF (newS parts st gen next) := ⟨fun _ => rfl, fun h => absurd rfl h⟩
/-- as it was, but for when members were heard of. -/
structure GSame (s t : GS) : Prop where
  ids : idsL t.L = idsL s.L
  O : t.O = s.O
  g : t.g = s.g
  parts : t.parts = s.parts
theorem GSame.refl (s : GS) : GSame s s := ⟨rfl, rfl, rfl, rfl⟩
theorem GSame.heard {s t : GS} (h : GSame s t) (i : Nat) : GSame s (heard t i) := ⟨by rw [← h.ids]; exact heardL_id _ _ _, h.O, h.g, h.parts⟩
theorem GSame.sync {s t : GS} (h : GSame s t) (id : Int) : GSame s (syncG t id) := by
  unfold syncG
  split
  · exact h
  · exact h.heard _
theorem atL_in {id : Int} {l : List Mem} (h : id ∈ idsL l) : ∃ j, atL l id = some j := by
  cases ha : atL l id with
  | none =>
    obtain ⟨m, hm, e⟩ := List.mem_map.1 h
    exact absurd e (atL_no ha m hm)
  | some j => exact ⟨j, rfl⟩
theorem may_own {s t : GS} {id q : Int} (hs : GSame s t) (hol : s.O.length = s.parts.toNat) (hi : id ∈ idsL s.L) (hq : q ∈ ownFrom id 0 s.O) : mayA t id t.g q = 0 := by
  obtain ⟨j, ha⟩ := atL_in (l := t.L) (by rw [hs.ids]; exact hi)
  obtain ⟨p, hp, e, ho⟩ := ownFrom_mem _ _ _ _ hq
  rw [Nat.zero_add] at e
  unfold mayA
  rw [ha]
  subst e
  simp only
  rw [if_neg (fun h => h rfl), if_neg]
  rintro (h | h | h)
  · omega
  · rw [hs.parts] at h; omega
  · rw [hs.O, Int.toNat_natCast, List.getElem?_eq_getElem hp, ho] at h
    exact h rfl
theorem tm_zeros0 (n : Nat) : tm (List.replicate n 0) 0 = n := by
  unfold tm
  rw [List.count_replicate_self]
theorem tm_le (l : List Int) (x : Int) : 0 ≤ tm l x ∧ tm l x ≤ l.length := by
  unfold tm
  have := List.count_le_length (a := x) (l := l)
  omega
theorem fair_tot {parts : Int} {M l : List Int} (hr : M.Pairwise (· < ·)) (h0 : ∀ x ∈ M, 0 < x) (h : Fair parts M l) : tot M (tm l) = l.length := by
  have h1 := tot_tm hr h0 l (fun x hx => .inr (h.inM x hx))
  have h2 : tm l 0 = 0 := by
    unfold tm
    rw [List.count_eq_zero.2 fun hx => by have := h0 0 (h.inM 0 hx); omega]
    rfl
  omega
theorem fair_share {parts : Int} {M l : List Int} (hM : 0 < M.length) (h : Fair parts M l) {x : Int} (hx : x ∈ M) : tm l x = parts / M.length ∨ tm l x = parts / M.length + 1 := by
  have h1 := h.lo x hx
  have h2 := h.hi x hx
  have e : baseI parts M = parts / M.length := by unfold baseI; rw [if_neg (by omega)]
  rw [e] at h1 h2
  omega
theorem tot_take {M : List Int} {f : Int → Int} {k : Nat} (h : k < M.length) : tot (M.take (k + 1)) f = tot (M.take k) f + f M[k] := by
  unfold tot
  rw [List.take_succ_eq_append_getElem h, List.map_append, List.sum_append]
  simp
theorem tot_bound {f : Int → Int} {b : Int} (hb : 0 ≤ b) : ∀ {M : List Int}, (∀ x ∈ M, 0 ≤ f x ∧ f x ≤ b) → 0 ≤ tot M f ∧ tot M f ≤ b * M.length
  | [], _ => by simp [tot]
  | a :: M, h => by
    have h1 := h a (.head _)
    have h2 := tot_bound hb (M := M) fun x hx => h x (.tail _ hx)
    rw [tot_cons, List.length_cons, Int.natCast_add, Int.mul_add]
    simp only [Int.natCast_one, Int.mul_one]
    omega

end Go.Proofs.Ytjjmlopmemmobaa.M
