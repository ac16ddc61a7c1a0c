/- When all have given up what they have to, it rests, and shares are fair. -/
import Derived.Test.YtjjmlopmemmobaaC19
namespace Go.Proofs.Ytjjmlopmemmobaa.M
open Go.Proofs.Ytjjmlopmemmobaa.F Go.RowKit
set_option linter.unusedVariables false
set_option linter.unusedSimpArgs false
set_option maxRecDepth 100000
set_option maxHeartbeats 2000000
attribute [local irreducible] Res.cells Res.row Res.map Res.any World.cell? World.frozen? Instr.fieldAt Instr.loadAt Instr.storeAt Instr.indexAt Instr.lookup Instr.mapUpdate Instr.box Instr.build Instr.buildSlice Instr.extract Instr.alloc Instr.field Instr.index Instr.sliceAt Instr.makeSlice Instr.makeMap Instr.makeFunc binS Op.unary Sem.run
open Go.Proofs.Ytjjmlopmemmobaa.L Go.Shelf
theorem GaveUp.change {s0 s : CS} {k : Nat} {done done' : Nat → Bool} (h : GaveUp s0 s k done) (hd : ∀ p, p < s0.H.length → done p ≠ done' p → s0.W[p]! = s0.H[p]!) : GaveUp s0 s k done' := by
  refine ⟨h.inv, h.M, h.W, h.g, h.len, fun p hp => ?_⟩
  have h1 := h.at_ p hp
  by_cases e : done p = done' p
  · rw [← e]; exact h1
  · have h2 := hd p hp e
    rw [h2] at h1 ⊢
    simp only [ite_self] at h1 ⊢
    exact h1
def ordN (back : Bool) (n i : Nat) : Nat := if back then n - 1 - i else i
def doneN (s0 : CS) (back : Bool) (i p : Nat) : Bool := (List.range i).any fun j => decide (s0.H[p]! = s0.M[ordN back s0.M.length j]!)
theorem doneN_succ (s0 : CS) (back : Bool) (i p : Nat) : doneN s0 back (i + 1) p = (doneN s0 back i p || decide (s0.H[p]! = s0.M[ordN back s0.M.length i]!)) := by
  unfold doneN
  rw [List.range_succ, List.any_append]
  simp
theorem doneN_all {s0 : CS} {back : Bool} {p : Nat} (h : s0.H[p]! ∈ s0.M) : doneN s0 back s0.M.length p = true := by
  obtain ⟨j, hj, he⟩ := List.mem_iff_getElem.1 h
  unfold doneN
  rw [List.any_eq_true]
  refine ⟨ordN back s0.M.length j, List.mem_range.2 (by unfold ordN; split <;> omega), decide_eq_true ?_⟩
  have e : ordN back s0.M.length (ordN back s0.M.length j) = j := by unfold ordN; cases back <;> simp <;> omega
  rw [e, getElem!_pos s0.M j hj, he]
theorem GaveUp.rests {s0 s : CS} {k : Nat} {back : Bool} (h0 : CInv s0 k) (h : GaveUp s0 s k (doneN s0 back s0.M.length)) : s.H = s.W := by
  have hs := h.inv.pre.same
  have hs0 := h0.pre.same
  have hl := h.len
  apply List.ext_getElem
  · omega
  · intro p h1 h2
    have ha := h.at_ p (by omega)
    rw [getElem!_pos s.H p h1] at ha
    rw [ha]
    have hw : s.W[p] = s0.W[p]! := by
      rw [getElem!_pos s0.W p (by omega)]
      simp only [h.W]
    rw [hw]
    by_cases hM : s0.M.length = 0
    · have hz := h0.full.none hM
      have z1 := hz.1 _ (List.getElem_mem (show p < s0.H.length by omega))
      have z2 := hz.2 _ (List.getElem_mem (show p < s0.W.length by omega))
      rw [getElem!_pos s0.W p (by omega), getElem!_pos s0.H p (by omega), z1, z2]
      simp
    · have hf := h0.full.some (by omega)
      rw [doneN_all (by rw [getElem!_pos s0.H p (by omega)]; exact hf.1 _ (List.getElem_mem _)), if_pos rfl]
/-- The one who is next gives up all that it has to. -/
theorem GaveUp.next {s0 s s' : CS} {k i : Nat} {back : Bool} (h0 : CInv s0 k) (hi : i < s0.M.length) (h : GaveUp s0 s k (doneN s0 back i)) (h' : GaveUp s0 s' k fun p => doneN s0 back i p || decide ((p : Int) ∈ revL s (s0.M[ordN back s0.M.length i]!))) : GaveUp s0 s' k (doneN s0 back (i + 1)) := by
  refine h'.change fun p hp hne => ?_
  rw [doneN_succ] at hne
  have hl := h.len
  have hs0 := h0.pre.same
  have hs := h.inv.pre.same
  generalize s0.M[ordN back s0.M.length i]! = m at *
  cases hd : doneN s0 back i p with
  | true => rw [hd] at hne; simp at hne
  | false =>
    rw [hd, Bool.false_or, Bool.false_or] at hne
    have ha := h.at_ p hp
    rw [hd, if_neg (by simp)] at ha
    by_cases hm : s0.H[p]! = m
    · have hn : ¬ ((p : Int) ∈ revL s m) := fun hh => hne (by rw [decide_eq_true hh, decide_eq_true hm])
      rw [hm]
      apply Classical.byContradiction
      intro hw
      refine hn ?_
      unfold revL
      have hmm : m ∈ s.M := by
        rw [h.M, ← hm, getElem!_pos s0.H p hp]
        have hf := h0.full.some (by omega)
        exact hf.1 _ (List.getElem_mem _)
      rw [if_pos hmm, revN_mem _ (Nat.le_refl _) (by omega)]
      exact ⟨p, by omega, rfl, by rw [ha, hm], by rw [h.W]; exact hw⟩
    · have hn : (p : Int) ∈ revL s m := by
        apply Classical.byContradiction
        intro hh
        exact hne (by rw [decide_eq_false hh, decide_eq_false hm])
      unfold revL at hn
      split at hn
      · obtain ⟨q, hq, he, h1, h2⟩ := (revN_mem _ (Nat.le_refl _) (by omega) _).1 hn
        obtain rfl : p = q := by omega
        rw [ha] at h1
        exact absurd h1 hm
      · cases hn
theorem GaveUp.give {s0 s s' : CS} {k i j : Nat} {back : Bool} {m : Int} (h0 : CInv s0 k) (hm : m ∈ s0.M) (h : GaveUp s0 s k (doneN s0 back i)) (hj : j < (revL s m).length) (h' : GaveUp s0 s' k fun p => doneN s0 back i p || decide ((p : Int) ∈ (revL s m).take j)) :
    ∃ s'', doneS s' m (revL s m)[j] = (0, s'') ∧ GaveUp s0 s'' k fun p => doneN s0 back i p || decide ((p : Int) ∈ (revL s m).take (j + 1)) := by
  have hl := h.len
  have hs0 := h0.pre.same
  have hs := h.inv.pre.same
  have hmm : m ∈ s.M := by rw [h.M]; exact hm
  have hr : revL s m = revN s.H s.W m s.H.length := by unfold revL; rw [if_pos hmm]
  have hrise : (revL s m).Pairwise (· < ·) := by rw [hr]; exact revN_rise _
  have hmem : (revL s m)[j] ∈ revN s.H s.W m s.H.length := by rw [← hr]; exact List.getElem_mem hj
  obtain ⟨p, hp, he, h1, h2⟩ := (revN_mem _ (Nat.le_refl _) (by omega) _).1 hmem
  have ha := h.at_ p (by omega)
  have hd : doneN s0 back i p = false := by
    cases hd : doneN s0 back i p with
    | false => rfl
    | true =>
      rw [hd, if_pos rfl] at ha
      rw [h.W] at h2
      exact absurd (ha.symm.trans h1) h2
  rw [hd, if_neg (by simp)] at ha
  have hnt : ¬ ((p : Int) ∈ (revL s m).take j) := fun hh => by
    rw [← he] at hh
    obtain ⟨q, hq, hqe⟩ := List.mem_iff_getElem.1 hh
    rw [List.getElem_take] at hqe
    rw [List.length_take] at hq
    have := List.pairwise_iff_getElem.1 hrise q j (by omega) hj (by omega)
    omega
  rw [he]
  refine h'.one hm (by omega) (ha.symm.trans h1) (by rw [← h.W]; exact h2) (by rw [hd, decide_eq_false hnt]; rfl) fun q => ?_
  rw [List.take_succ_eq_append_getElem hj, he]
  have : decide ((q : Int) ∈ (revL s m).take j ++ [(p : Int)]) = (decide ((q : Int) ∈ (revL s m).take j) || decide (q = p)) := by
    by_cases e : q = p
    · subst e; simp
    · have : ¬ ((q : Int) = p) := by omega
      simp [e, this]
  rw [this, Bool.or_assoc]

end Go.Proofs.Ytjjmlopmemmobaa.M
