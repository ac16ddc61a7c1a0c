/- Who had a least share or more keeps that many of its own. -/
import Derived.Test.YtjjmlopmemmobaaAA
namespace Go.Proofs.Ytjjmlopmemmobaa.M
open Go.Proofs.Ytjjmlopmemmobaa.F Go.RowKit
set_option linter.unusedVariables false
set_option linter.unusedSimpArgs false
set_option maxRecDepth 100000
set_option maxHeartbeats 2000000
attribute [local irreducible] Res.cells Res.row Res.map Res.any World.cell? World.frozen? Instr.fieldAt Instr.loadAt Instr.storeAt Instr.indexAt Instr.lookup Instr.mapUpdate Instr.box Instr.build Instr.buildSlice Instr.extract Instr.alloc Instr.field Instr.index Instr.sliceAt Instr.makeSlice Instr.makeMap Instr.makeFunc binS Op.unary Sem.run
open Go.Proofs.Ytjjmlopmemmobaa.L Go.Shelf
/-- How many of the first ones one had, and how many of these it has still. -/
def hadN (old : List Int) (m : Int) (p : Nat) : Int := tm (old.take p) m
theorem keeps_own {parts : Int} {M old : List Int} : ∀ p : Nat, p ≤ parts.toNat → ∀ j : Nat, (keepsL parts M old p).l[j]! = 0 ∨ (keepsL parts M old p).l[j]! = old[j]!
  | 0, _, j => .inl (by
      show (List.replicate parts.toNat 0)[j]! = 0
      by_cases h : j < parts.toNat
      · rw [getElem!_pos _ j (by simpa using h)]; simp
      · rw [getElem!_neg _ j (by simpa using h)]; rfl)
  | p + 1, hp, j => by
    have ih := keeps_own (parts := parts) (M := M) (old := old) p (by omega) j
    unfold keepsL
    simp only
    generalize keepsL parts M old p = s at *
    split
    · show (s.l.set p old[p]!)[j]! = 0 ∨ _
      by_cases h : j < s.l.length
      · rw [getElem!_pos _ j (by simpa using h), List.getElem_set]
        by_cases e : p = j
        · rw [if_pos e, e]; exact .inr rfl
        · rw [if_neg e, ← getElem!_pos s.l j h]; exact ih
      · rw [getElem!_neg _ j (by simpa using h)]; exact .inl rfl
    · exact ih
theorem keeps_least {parts : Int} {M old : List Int} (hp : ¬ badParts parts) (hr : M.Pairwise (· < ·)) (hl : M.length ≤ 1000) (hM : ∀ x ∈ M, -9223372036854775808 ≤ x ∧ x ≤ 9223372036854775807) (h0 : ∀ x ∈ M, 0 < x) {m : Int} (hm : m ∈ M) : ∀ p : Nat, p ≤ min parts.toNat old.length → min (tm (old.take p) m) (baseI parts M) ≤ (keepsL parts M old p).C m
  | 0, _ => by
    have : tm (old.take 0) m = 0 := by simp [tm]
    have := share_nums (M := M) hp
    show _ ≤ (0 : Int)
    omega
  | p + 1, hpp => by
    have ih := keeps_least (parts := parts) (M := M) (old := old) hp hr hl hM h0 hm p (by omega)
    have hlt : p < old.length := by omega
    have ht := tm_take hlt m
    unfold keepsL
    simp only
    rw [getElem!_pos old p hlt]
    generalize keepsL parts M old p = s at *
    generalize old[p] = x at *
    split
    · show _ ≤ upC s.C x m
      simp only [upC]
      by_cases e : m = x
      · subst e
        rw [if_pos rfl] at ht
        rw [if_pos rfl]
        omega
      · rw [if_neg (fun h => e h.symm)] at ht
        rw [if_neg e]
        omega
    · rename_i hy
      by_cases e : x = m
      · subst e
        have : ¬ s.C x < baseI parts M := fun h => hy ⟨hm, .inl h⟩
        omega
      · rw [if_neg e] at ht
        omega

end Go.Proofs.Ytjjmlopmemmobaa.M
