/- What is fair stays; side by side is fair. -/
import Derived.Test.YtjjmlopmemmobaaA12
namespace Go.Proofs.Ytjjmlopmemmobaa.M
open Go.Proofs.Ytjjmlopmemmobaa.F Go.RowKit
set_option linter.unusedVariables false
set_option linter.unusedSimpArgs false
set_option maxRecDepth 100000
set_option maxHeartbeats 2000000
attribute [local irreducible] Res.cells Res.row Res.map Res.any World.cell? World.frozen? Instr.fieldAt Instr.loadAt Instr.storeAt Instr.indexAt Instr.lookup Instr.mapUpdate Instr.box Instr.build Instr.buildSlice Instr.extract Instr.alloc Instr.field Instr.index Instr.sliceAt Instr.makeSlice Instr.makeMap Instr.makeFunc binS Op.unary Sem.run
open Go.Proofs.Ytjjmlopmemmobaa.L Go.Shelf
theorem countP_lt {p p' : Int → Bool} {m : Int} {M : List Int} (hr : M.Pairwise (· < ·)) (hm : m ∈ M) (h1 : p m = false) (h2 : p' m = true) (h3 : ∀ x ∈ M, p x = true → p' x = true) : M.countP p < M.countP p' := by
  have e := countP_one (p := p) (p' := fun x => p x || decide (x = m)) hr hm h1 (by simp) (fun x _ hne => by simp [hne])
  have : M.countP (fun x => p x || decide (x = m)) ≤ M.countP p' := List.countP_mono_left fun x hx h => by
    simp at h
    rcases h with h | h
    · exact h3 x hx h
    · rw [h]; exact h2
  omega
theorem tm_append (a b : List Int) (x : Int) : tm (a ++ b) x = tm a x + tm b x := by unfold tm; rw [List.count_append]; omega
theorem tm_zeros {n : Nat} {x : Int} (h : 0 < x) : tm (List.replicate n 0) x = 0 := by
  unfold tm
  rw [List.count_replicate]
  simp
  intro h; omega
theorem keeps_all {parts : Int} {M a : List Int} (hp : ¬ badParts parts) (hr : M.Pairwise (· < ·)) (hl : M.length ≤ 1000) (hM : ∀ x ∈ M, -9223372036854775808 ≤ x ∧ x ≤ 9223372036854775807) (h0 : ∀ x ∈ M, 0 < x) (hf : Fair parts M a) : ∀ p, p ≤ parts.toNat → (keepsL parts M a p).l = a.take p ++ List.replicate (parts.toNat - p) 0
  | 0, _ => by simp [keepsL]
  | p + 1, hpp => by
    have ih := keeps_all hp hr hl hM h0 hf p (by omega)
    have hk := KInv.all (old := a) hp hr hl hM h0 p (by omega)
    have hp64 : parts.toNat ≤ 64 := by unfold badParts at hp; omega
    obtain ⟨hok, _, _, _⟩ := keepsL_ok (parts := parts) (M := M) (old := a) hp hr hl hM p (by omega)
    have hlen := hf.len
    have hlt : p < a.length := by omega
    unfold keepsL
    simp only
    rw [getElem!_pos a p hlt]
    generalize keepsL parts M a p = s at *
    have hmem := hf.inM _ (List.getElem_mem hlt)
    have ha : ∀ x, 0 < x → tm s.l x = tm (a.take p) x ∧ tm a x = tm (a.take p) x + (if a[p] = x then 1 else 0) + tm (a.drop (p + 1)) x := fun x hx => by
      refine ⟨by rw [ih, tm_append, tm_zeros hx]; omega, ?_⟩
      have e : a = a.take p ++ (a[p] :: a.drop (p + 1)) := by rw [← List.drop_eq_getElem_cons hlt, List.take_append_drop]
      have e2 : tm a x = tm (a.take p ++ (a[p] :: a.drop (p + 1))) x := congrArg (tm · x) e
      rw [e2, tm_append]
      have : tm (a[p] :: a.drop (p + 1)) x = (if a[p] = x then 1 else 0) + tm (a.drop (p + 1)) x := by
        unfold tm
        rw [List.count_cons]
        by_cases h : a[p] = x <;> simp [h]; omega
      omega
    have etk : a.take (p + 1) = a.take p ++ [a[p]] := List.take_succ_eq_append_getElem hlt
    generalize a[p] = m at *
    have hm0 := h0 m hmem
    have hhi := hf.hi m hmem
    have hnn : ∀ x, 0 ≤ tm (a.drop (p + 1)) x := fun x => by unfold tm; omega
    have hmm := ha m hm0
    rw [if_pos rfl] at hmm
    have hnm := hnn m
    have hy : mayI M (baseI parts M) s.big s.C m := by
      rw [may_iff hk hmem hok.big0.1]
      by_cases e : tm s.l m = baseI parts M
      · refine .inr ⟨e, ?_⟩
        rw [← hf.abv]
        have := countP_lt (p := fun x => decide (baseI parts M < tm s.l x)) (p' := fun x => decide (baseI parts M < tm a x)) hr hmem (by simp; omega) (by simp; omega) (fun x hx h => by
          simp at h ⊢
          obtain ⟨q1, q2⟩ := ha x (h0 x hx)
          have := hnn x
          split at q2 <;> omega)
        unfold aboveN
        omega
      · exact .inl (by omega)
    rw [if_pos hy]
    show s.l.set p m = _
    have hlp : (a.take p).length = p := by rw [List.length_take]; omega
    have ek : parts.toNat - p = (parts.toNat - (p + 1)) + 1 := by omega
    rw [ih, etk, List.set_append_right _ _ (by omega), hlp, Nat.sub_self, ek, List.replicate_succ, List.set_cons_zero, List.append_assoc]
    rfl
theorem fills_id {M : List Int} {s0 : Sk} : ∀ q, (∀ j, j < q → s0.l[j]! ≠ 0) → fillsL M s0 q = s0
  | 0, _ => rfl
  | q + 1, h => by
    unfold fillsL
    simp only
    rw [fills_id q (fun j hj => h j (by omega)), if_neg (h q (by omega))]
theorem sticky_id {parts : Int} {M a : List Int} (hM0 : 0 < M.length) (hp : ¬ badParts parts) (hr : M.Pairwise (· < ·)) (hl : M.length ≤ 1000) (hM : ∀ x ∈ M, -9223372036854775808 ≤ x ∧ x ≤ 9223372036854775807) (h0 : ∀ x ∈ M, 0 < x) (hf : Fair parts M a) : stickyL parts M a = a := by
  have hlen := hf.len
  have hk := keeps_all hp hr hl hM h0 hf parts.toNat (Nat.le_refl _)
  rw [Nat.sub_self, List.replicate_zero, List.append_nil, List.take_of_length_le (by omega)] at hk
  unfold stickyL
  rw [if_neg (by omega), hlen, Nat.min_self, fills_id, hk]
  intro j hj
  rw [hk, getElem!_pos a j (by omega)]
  have := h0 _ (hf.inM _ (List.getElem_mem (show j < a.length by omega)))
  omega

end Go.Proofs.Ytjjmlopmemmobaa.M
