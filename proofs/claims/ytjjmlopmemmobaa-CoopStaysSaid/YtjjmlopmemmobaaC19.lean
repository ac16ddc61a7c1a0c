/- When all have given up what they have to, it rests. -/
import Derived.Test.YtjjmlopmemmobaaCC
namespace Go.Proofs.Ytjjmlopmemmobaa.M
open Go.Proofs.Ytjjmlopmemmobaa.F Go.RowKit
set_option linter.unusedVariables false
set_option linter.unusedSimpArgs false
set_option maxRecDepth 100000
set_option maxHeartbeats 2000000
attribute [local irreducible] Res.cells Res.row Res.map Res.any World.cell? World.frozen? Instr.fieldAt Instr.loadAt Instr.storeAt Instr.indexAt Instr.lookup Instr.mapUpdate Instr.box Instr.build Instr.buildSlice Instr.extract Instr.alloc Instr.field Instr.index Instr.sliceAt Instr.makeSlice Instr.makeMap Instr.makeFunc binS Op.unary Sem.run
open Go.Proofs.Ytjjmlopmemmobaa.L Go.Shelf
theorem done_g {s : CS} {m p : Int} : (doneS s m p).2.g = s.g ∧ (doneS s m p).2.M = s.M ∧ (doneS s m p).2.W = s.W := by
  unfold doneS
  split
  · exact ⟨rfl, rfl, rfl⟩
  · split
    · exact ⟨rfl, rfl, rfl⟩
    · split
      · exact ⟨rfl, rfl, rfl⟩
      · exact ⟨rfl, rfl, rfl⟩
theorem done_keep {s : CS} {k : Nat} {m p : Int} (h : CInv s k) : CInv (doneS s m p).2 k := by
  have h1 := done_inv (m := m) (p := p) h
  exact ⟨h1.pre, by rw [done_g.1]; exact h.g, h1.full⟩
/-- What is given up goes to whom it is to go. -/
theorem done_eff {s : CS} {k p : Nat} {m : Int} (h : CInv s k) (hm : m ∈ s.M) (hp : p < s.H.length) (hp' : p < s.W.length) (h1 : s.H[p] = m) (h2 : s.W[p] ≠ m) : doneS s m p = (0, { s with H := s.H.set p s.W[p] }) := by
  have hf := h.full.some (List.length_pos_of_mem hm)
  have hsame := h.pre.same
  unfold doneS
  rw [if_neg (not_not_intro hm), if_neg (by omega), Int.toNat_natCast, getElem!_pos s.H p hp, getElem!_pos s.W p hp', if_neg (by intro hh; rcases hh with hh | hh; exact hh h1; exact h2 hh)]
  congr 2
  apply List.ext_getElem
  · rw [giveL_len (by rw [List.length_set]; exact hsame), List.length_set, List.length_set]
  · intro i h3 h4
    rw [giveL_at i h3 (by rw [List.length_set] at h4 ⊢; exact h4) (by rw [List.length_set] at h4; omega)]
    rw [List.getElem_set, List.getElem_set]
    by_cases e : p = i
    · subst e
      rw [if_pos rfl, if_pos rfl, if_pos rfl]
    · rw [if_neg e, if_neg e]
      have hi : i < s.H.length := by rw [List.length_set] at h4; exact h4
      have := h.pre.each _ (hf.1 _ (List.getElem_mem hi))
      rw [if_neg (by omega)]
theorem revN_mem {H W : List Int} {m : Int} : ∀ n, n ≤ H.length → n ≤ W.length → ∀ x, x ∈ revN H W m n ↔ ∃ p : Nat, p < n ∧ x = p ∧ H[p]! = m ∧ W[p]! ≠ m
  | 0, _, _, x => by simp [revN]
  | n + 1, h1, h2, x => by
    have ih := revN_mem (H := H) (W := W) (m := m) n (by omega) (by omega) x
    unfold revN
    split
    · rename_i hc
      rw [List.mem_append, ih, List.mem_singleton]
      constructor
      · rintro (⟨p, hp, h⟩ | h)
        · exact ⟨p, by omega, h⟩
        · exact ⟨n, by omega, h, hc⟩
      · rintro ⟨p, hp, hx, hh⟩
        by_cases e : p = n
        · subst e; exact .inr hx
        · exact .inl ⟨p, by omega, hx, hh⟩
    · rename_i hc
      rw [ih]
      constructor
      · rintro ⟨p, hp, h⟩
        exact ⟨p, by omega, h⟩
      · rintro ⟨p, hp, hx, hh⟩
        by_cases e : p = n
        · subst e; exact absurd hh hc
        · exact ⟨p, by omega, hx, hh⟩
theorem revN_rise {H W : List Int} {m : Int} : ∀ n, (revN H W m n).Pairwise (· < ·)
  | 0 => by simp [revN]
  | n + 1 => by
    have ih := revN_rise (H := H) (W := W) (m := m) n
    unfold revN
    split
    · refine List.pairwise_append.2 ⟨ih, by simp, fun a ha b hb => ?_⟩
      have := revN_bound _ _ ha
      have := List.mem_singleton.1 hb
      omega
    · exact ih
/-- What has been given up so far: the members of ms are done; of the one whose number is m, the partitions of ps. -/
structure GaveUp (s0 s : CS) (k : Nat) (done : Nat → Bool) : Prop where
  inv : CInv s k
  M : s.M = s0.M
  W : s.W = s0.W
  g : s.g = s0.g
  len : s.H.length = s0.H.length
  at_ : ∀ p : Nat, p < s0.H.length → s.H[p]! = if done p then s0.W[p]! else s0.H[p]!
theorem GaveUp.one {s0 s : CS} {k p : Nat} {done done' : Nat → Bool} {m : Int} (h : GaveUp s0 s k done) (hm : m ∈ s0.M) (hp : p < s0.H.length) (h1 : s0.H[p]! = m) (h2 : s0.W[p]! ≠ m) (hd : done p = false) (hd' : ∀ q, done' q = (done q || decide (q = p))) :
    ∃ s', doneS s m p = (0, s') ∧ GaveUp s0 s' k done' := by
  have hpl : p < s.H.length := by rw [h.len]; exact hp
  have hsame := h.inv.pre.same
  have hpw : p < s.W.length := by omega
  have ha := h.at_ p hp
  rw [hd, if_neg (by simp), getElem!_pos s.H p hpl, h1] at ha
  have hw : s.W[p] ≠ m := by
    rw [← getElem!_pos s.W p hpw, h.W]; exact h2
  have he := done_eff h.inv (by rw [h.M]; exact hm) hpl hpw ha hw
  have hk := done_keep (m := m) (p := p) h.inv
  rw [he] at hk
  refine ⟨_, he, hk, h.M, h.W, h.g, by simp only [List.length_set]; exact h.len, fun q hq => ?_⟩
  have hql : q < s.H.length := by rw [h.len]; exact hq
  show (s.H.set p s.W[p])[q]! = _
  rw [getElem!_pos _ q (by rw [List.length_set]; exact hql), List.getElem_set, hd' q]
  by_cases e : p = q
  · subst e
    rw [if_pos rfl]
    simp only [decide_true, Bool.or_true, if_true]
    rw [← getElem!_pos s.W p hpw, h.W]
  · rw [if_neg e]
    have := h.at_ q hq
    rw [getElem!_pos s.H q hql] at this
    rw [this]
    have e2 : decide (q = p) = false := decide_eq_false (fun h => e h.symm)
    rw [e2, Bool.or_false]
theorem revL_len (s : CS) (m : Int) : (revL s m).length ≤ s.H.length := by
  unfold revL
  split
  · exact revN_len _ _ _ _
  · simp

end Go.Proofs.Ytjjmlopmemmobaa.M
