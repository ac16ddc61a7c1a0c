/- When one more joins, what is given up goes to it alone. -/
import Derived.Test.YtjjmlopmemmobaaC19
import Derived.Test.YtjjmlopmemmobaaA17
import Derived.Test.YtjjmlopmemmobaaMlb0
namespace Go.Proofs.Ytjjmlopmemmobaa.M
open Go.Proofs.Ytjjmlopmemmobaa.F Go.RowKit
set_option linter.unusedVariables false
set_option linter.unusedSimpArgs false
set_option maxRecDepth 100000
set_option maxHeartbeats 2000000
attribute [local irreducible] Res.cells Res.row Res.map Res.any World.cell? World.frozen? Instr.fieldAt Instr.loadAt Instr.storeAt Instr.indexAt Instr.lookup Instr.mapUpdate Instr.box Instr.build Instr.buildSlice Instr.extract Instr.alloc Instr.field Instr.index Instr.sliceAt Instr.makeSlice Instr.makeMap Instr.makeFunc binS Op.unary Sem.run
open Go.Proofs.Ytjjmlopmemmobaa.L Go.Shelf
/-- As long as some may have one more, each keeps as many as may be. -/
theorem keeps_most {parts : Int} {M old : List Int} (hp : ¬ badParts parts) (hr : M.Pairwise (· < ·)) (hl : M.length ≤ 1000) (hM : ∀ x ∈ M, -9223372036854775808 ≤ x ∧ x ≤ 9223372036854775807) : ∀ p, p ≤ old.length → p ≤ 64 → 0 < (keepsL parts M old p).big → ∀ x ∈ M, (keepsL parts M old p).C x = min (tm (old.take p) x) (baseI parts M + 1)
  | 0, _, _, _, x, _ => by
    have := share_nums (M := M) hp
    have h0 : tm (old.take 0) x = 0 := by simp [tm]
    rw [h0]
    show (0 : Int) = _
    omega
  | p + 1, h1, h2, hb, x, hx => by
    have ih := keeps_most (parts := parts) (M := M) (old := old) hp hr hl hM p (by omega) (by omega)
    have hlt : p < old.length := by omega
    have ht := tm_take hlt x
    obtain ⟨hok, _, _, _⟩ := keepsL_ok (parts := parts) (M := M) (old := old) hp hr hl hM p (by omega)
    unfold keepsL at hb ⊢
    simp only at hb ⊢
    rw [getElem!_pos old p hlt] at hb ⊢
    generalize keepsL parts M old p = s at *
    generalize old[p] = m at *
    by_cases hy : mayI M (baseI parts M) s.big s.C m
    · rw [if_pos hy] at hb ⊢
      simp only at hb ⊢
      have hb0 : 0 < s.big := by
        split at hb
        · omega
        · exact hb
      have ih := ih hb0
      have ihm := ih m hy.1
      have ihx := ih x hx
      simp only [upC]
      by_cases e : x = m
      · subst e
        rw [if_pos rfl] at ht
        rw [if_pos rfl]
        have := hy.2
        omega
      · rw [if_neg (fun h => e h.symm)] at ht
        rw [if_neg e]
        omega
    · rw [if_neg hy] at hb ⊢
      have ih := ih hb
      have ihx := ih x hx
      by_cases e : m = x
      · subst e
        rw [if_pos rfl] at ht
        have hn : ¬ (s.C m < baseI parts M ∨ s.C m = baseI parts M ∧ s.big ≠ 0) := fun h => hy ⟨hx, h⟩
        omega
      · rw [if_neg e] at ht
        omega
theorem shares_add {parts : Int} {M M' : List Int} (hp : ¬ badParts parts) (h0 : 0 < M.length) (h : M'.length = M.length + 1) : baseI parts M' ≤ baseI parts M ∧ bigI parts M' ≤ M.length ∧ (baseI parts M = baseI parts M' → bigI parts M' ≤ bigI parts M) ∧ parts = baseI parts M' * M.length + baseI parts M' + bigI parts M' := by
  obtain ⟨e1, l1⟩ := parts_eq (parts := parts) (M := M) h0
  obtain ⟨e2, l2⟩ := parts_eq (parts := parts) (M := M') (by omega)
  have n1 := share_nums (M := M) hp
  have n2 := share_nums (M := M') hp
  have e3 : ((M'.length : Nat) : Int) = (M.length : Int) + 1 := by omega
  rw [e3, Int.mul_add, Int.mul_one] at e2
  refine ⟨?_, by omega, fun e => ?_, by omega⟩
  · apply Classical.byContradiction
    intro hn
    have h1 : (baseI parts M + 1) * (M.length : Int) ≤ baseI parts M' * (M.length : Int) := Int.mul_le_mul_of_nonneg_right (by omega) (by omega)
    rw [Int.add_mul, Int.one_mul] at h1
    omega
  · rw [e] at e1
    omega
theorem countP_cons_sub {p : Int → Bool} {m : Int} : ∀ {M M' : List Int}, M.Pairwise (· < ·) → M'.Pairwise (· < ·) → (∀ x, x ∈ M' ↔ x ∈ M ∨ x = m) → m ∉ M → M'.countP p = M.countP p + if p m then 1 else 0 := fun {M M'} hr hr' hm hn => by
  have hperm : M'.Perm (m :: M) := by
    refine (List.perm_ext_iff_of_nodup (hr'.imp fun h e => by omega) (List.nodup_cons.2 ⟨hn, hr.imp fun h e => by omega⟩)).2 fun x => ?_
    rw [hm, List.mem_cons]
    constructor
    · rintro (h | h)
      · exact .inr h
      · exact .inl h
    · rintro (h | h)
      · exact .inr h
      · exact .inl h
  rw [hperm.countP_eq, List.countP_cons]
/-- What is kept, when one more comes to fair shares: all have one more who may. -/
theorem join_keeps {parts : Int} {M M' a : List Int} {m : Int} (hp : ¬ badParts parts) (hr : M.Pairwise (· < ·)) (hr' : M'.Pairwise (· < ·)) (hl : M'.length ≤ 1000) (hM' : ∀ x ∈ M', -9223372036854775808 ≤ x ∧ x ≤ 9223372036854775807) (h0 : ∀ x ∈ M', 0 < x) (hmm : ∀ x, x ∈ M' ↔ x ∈ M ∨ x = m) (hn : m ∉ M) (hM0 : 0 < M.length) (hf : Fair parts M a) (hlen : M'.length = M.length + 1) :
    (keepsL parts M' a parts.toNat).big = 0 ∧ ∀ x ∈ M, baseI parts M' ≤ (keepsL parts M' a parts.toNat).C x := by
  have hp64 : parts.toNat ≤ 64 := by unfold badParts at hp; omega
  have hal := hf.len
  obtain ⟨s1, s2, s3, s4⟩ := shares_add (parts := parts) hp hM0 hlen
  obtain ⟨hok, _, _, _⟩ := keepsL_ok (parts := parts) (M := M') (old := a) hp hr' hl hM' parts.toNat hp64
  have hk := KInv.all (old := a) hp hr' hl hM' h0 parts.toNat (Nat.le_refl _)
  have hbig := hok.big0.1
  have hmemb : ∀ x ∈ M, x ∈ M' := fun x hx => (hmm x).2 (.inl hx)
  have hleast := fun x hx => keeps_least (old := a) hp hr' hl hM' h0 (hmemb x hx) parts.toNat (by omega)
  rw [List.take_of_length_le (by omega)] at hleast
  have htm : tm a m = 0 := by
    unfold tm
    rw [List.count_eq_zero.2 (fun h => hn (hf.inM m h))]
    rfl
  refine ⟨?_, fun x hx => ?_⟩
  · apply Classical.byContradiction
    intro hne
    have hmost := keeps_most (old := a) hp hr' hl hM' parts.toNat (by omega) hp64 (by omega)
    rw [List.take_of_length_le (by omega)] at hmost
    have habv := hk.abv
    have hcnt := hk.cnt
    generalize keepsL parts M' a parts.toNat = s at *
    have e1 : aboveN s.l M' (baseI parts M') = ((M'.countP fun x => decide (baseI parts M' < tm a x) : Nat) : Int) := by
      unfold aboveN
      congr 1
      refine List.countP_congr fun x hx => ?_
      rw [← hcnt x hx, hmost x hx]
      simp
      omega
    rw [countP_cons_sub hr hr' hmm hn] at e1
    have hm0 : decide (baseI parts M' < tm a m) = false := by
      rw [htm]
      have := share_nums (M := M') hp
      exact decide_eq_false (by omega)
    rw [hm0, if_neg (by simp)] at e1
    by_cases hb : baseI parts M = baseI parts M'
    · have h3 := hf.abv
      unfold aboveN at h3
      rw [hb] at h3
      have := s3 hb
      omega
    · have : M.countP (fun x => decide (baseI parts M' < tm a x)) = M.length := List.countP_eq_length.2 fun x hx => by
        have := hf.lo x hx
        exact decide_eq_true (by omega)
      omega
  · have h1 := hleast x hx
    have h2 := hf.lo x hx
    omega

end Go.Proofs.Ytjjmlopmemmobaa.M
