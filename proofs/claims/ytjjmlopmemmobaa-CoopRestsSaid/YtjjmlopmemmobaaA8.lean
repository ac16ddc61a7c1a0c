/- What the shares know is what the list says. -/
import Derived.Test.YtjjmlopmemmobaaA6
namespace Go.Proofs.Ytjjmlopmemmobaa.M
open Go.Proofs.Ytjjmlopmemmobaa.F Go.RowKit
set_option linter.unusedVariables false
set_option linter.unusedSimpArgs false
set_option maxRecDepth 100000
set_option maxHeartbeats 2000000
attribute [local irreducible] Res.cells Res.row Res.map Res.any World.cell? World.frozen? Instr.fieldAt Instr.loadAt Instr.storeAt Instr.indexAt Instr.lookup Instr.mapUpdate Instr.box Instr.build Instr.buildSlice Instr.extract Instr.alloc Instr.field Instr.index Instr.sliceAt Instr.makeSlice Instr.makeMap Instr.makeFunc binS Op.unary Sem.run
open Go.Proofs.Ytjjmlopmemmobaa.L Go.Shelf
theorem tm_set : ∀ (l : List Int) (i : Nat) (hi : i < l.length) (m q : Int), tm (l.set i m) q = tm l q - (if l[i] = q then 1 else 0) + (if m = q then 1 else 0)
  | [], i, hi, _, _ => absurd hi (Nat.not_lt_zero _)
  | a :: l, 0, _, m, q => by
    simp only [List.set_cons_zero, List.getElem_cons_zero, tm, List.count_cons]
    by_cases h1 : a = q <;> by_cases h2 : m = q <;> simp [h1, h2]
  | a :: l, i + 1, hi, m, q => by
    have := tm_set l i (by simpa using hi) m q
    simp only [List.set_cons_succ, List.getElem_cons_succ, tm, List.count_cons] at this ⊢
    by_cases h1 : a = q <;> simp [h1] at this ⊢ <;> omega
/-- How many members have more than so many. -/
abbrev aboveN (l M : List Int) (n : Int) : Int := ((M.countP (fun x => decide (n < tm l x)) : Nat) : Int)
theorem countP_one {p p' : Int → Bool} {m : Int} : ∀ {M : List Int}, M.Pairwise (· < ·) → m ∈ M → p m = false → p' m = true → (∀ x ∈ M, x ≠ m → p' x = p x) → M.countP p' = M.countP p + 1
  | [], _, hm, _, _, _ => by cases hm
  | a :: M, hr, hm, h1, h2, h3 => by
    obtain ⟨ha, hr'⟩ := List.pairwise_cons.1 hr
    rw [List.countP_cons, List.countP_cons]
    rcases List.mem_cons.1 hm with rfl | hm
    · have : M.countP p' = M.countP p := List.countP_congr fun x hx => by rw [h3 x (.tail _ hx) (by have := ha x hx; omega)]
      rw [this, h1, h2]
      simp
    · have := countP_one hr' hm h1 h2 (fun x hx hne => h3 x (.tail _ hx) hne)
      rw [this, h3 a (.head _) (by have := ha m hm; omega)]
      omega
structure KInv (parts : Int) (M : List Int) (s : Sk) (p : Nat) : Prop where
  cnt : ∀ x ∈ M, s.C x = tm s.l x
  zer : ∀ j (hj : j < s.l.length), p ≤ j → s.l[j] = 0
  abv : aboveN s.l M (baseI parts M) + s.big = bigI parts M
  le : ∀ x ∈ M, tm s.l x ≤ baseI parts M + 1
theorem KInv.all {parts : Int} {M old : List Int} (hp : ¬ badParts parts) (hr : M.Pairwise (· < ·)) (hl : M.length ≤ 1000) (hM : ∀ x ∈ M, -9223372036854775808 ≤ x ∧ x ≤ 9223372036854775807) (h0 : ∀ x ∈ M, 0 < x) : ∀ p, p ≤ parts.toNat → KInv parts M (keepsL parts M old p) p
  | 0, _ => by
    have hn := share_nums (M := M) hp
    have hz : ∀ x ∈ M, tm (List.replicate parts.toNat 0) x = 0 := fun x hx => by
      have := h0 x hx
      unfold tm
      rw [List.count_replicate]
      simp
      intro h; omega
    refine ⟨fun x hx => (hz x hx).symm, fun j hj _ => ?_, ?_, fun x hx => ?_⟩
    · simp [keepsL]
    · have : aboveN (List.replicate parts.toNat 0) M (baseI parts M) = 0 := by
        unfold aboveN
        rw [List.countP_eq_zero.2 fun x hx => by
          have := hz x hx
          simp only [decide_eq_true_eq]
          omega]
        rfl
      show aboveN (List.replicate parts.toNat 0) M (baseI parts M) + bigI parts M = _
      omega
    · have := hz x hx
      show tm (List.replicate parts.toNat 0) x ≤ _
      omega
  | p + 1, hpp => by
    have ih := KInv.all (parts := parts) (M := M) (old := old) hp hr hl hM h0 p (by omega)
    have hp64 : parts.toNat ≤ 64 := by unfold badParts at hp; omega
    obtain ⟨hok, _, hll, _⟩ := keepsL_ok (parts := parts) (M := M) (old := old) hp hr hl hM p (by omega)
    unfold keepsL
    simp only
    generalize keepsL parts M old p = s at *
    generalize old[p]! = m at *
    have hlt : p < s.l.length := by omega
    have hz := ih.zer p hlt (Nat.le_refl _)
    split
    · rename_i hy
      have hm0 := h0 m hy.1
      have hset : ∀ x ∈ M, tm (s.l.set p m) x = tm s.l x + (if m = x then 1 else 0) := fun x hx => by
        have := h0 x hx
        rw [tm_set _ _ hlt, if_neg (by omega)]
        omega
      have hcm := ih.cnt m hy.1
      refine ⟨fun x hx => ?_, fun j hj hpj => ?_, ?_, fun x hx => ?_⟩
      · show upC s.C m x = tm (s.l.set p m) x
        rw [hset x hx]
        have := ih.cnt x hx
        simp only [upC]
        by_cases e : x = m
        · rw [if_pos e, if_pos e.symm, ← e]; omega
        · rw [if_neg e, if_neg (fun h => e h.symm)]; omega
      · show (s.l.set p m)[j] = 0
        rw [List.getElem_set, if_neg (by omega)]
        exact ih.zer j (by simpa using hj) (by omega)
      · show aboveN (s.l.set p m) M (baseI parts M) + (if s.C m = baseI parts M then s.big - 1 else s.big) = _
        have hab := ih.abv
        by_cases e : s.C m = baseI parts M
        · rw [if_pos e]
          have : M.countP (fun x => decide (baseI parts M < tm (s.l.set p m) x)) = M.countP (fun x => decide (baseI parts M < tm s.l x)) + 1 :=
            countP_one hr hy.1 (by simp; omega) (by rw [hset m hy.1, if_pos rfl]; simp; omega) (fun x hx hne => by rw [hset x hx, if_neg (fun h => hne h.symm)]; simp)
          unfold aboveN at *
          omega
        · rw [if_neg e]
          have hlt2 : s.C m < baseI parts M := by have := hy.2; omega
          have : M.countP (fun x => decide (baseI parts M < tm (s.l.set p m) x)) = M.countP (fun x => decide (baseI parts M < tm s.l x)) :=
            List.countP_congr fun x hx => by
              rw [hset x hx]
              by_cases e2 : m = x
              · subst e2; rw [if_pos rfl]; simp; omega
              · rw [if_neg e2]; simp
          unfold aboveN at *
          omega
      · show tm (s.l.set p m) x ≤ _
        rw [hset x hx]
        have := ih.le x hx
        have := hok.big0
        have := hy.2
        by_cases e2 : m = x
        · subst e2; rw [if_pos rfl]; omega
        · rw [if_neg e2]; omega
    · exact ⟨ih.cnt, fun j hj hpj => ih.zer j hj (by omega), ih.abv, ih.le⟩
theorem may_iff {parts : Int} {M : List Int} {s : Sk} {p : Nat} {m : Int} (h : KInv parts M s p) (hm : m ∈ M) (hb : 0 ≤ s.big) : mayI M (baseI parts M) s.big s.C m ↔ (tm s.l m < baseI parts M ∨ (tm s.l m = baseI parts M ∧ aboveN s.l M (baseI parts M) < bigI parts M)) := by
  have h1 := h.cnt m hm
  have h2 := h.abv
  unfold mayI
  rw [h1]
  constructor
  · rintro ⟨_, h | ⟨h, h'⟩⟩
    · exact .inl h
    · exact .inr ⟨h, by omega⟩
  · rintro (h | ⟨h, h'⟩)
    · exact ⟨hm, .inl h⟩
    · exact ⟨hm, .inr ⟨h, by omega⟩⟩
theorem fewest_congr {C D : Int → Int} : ∀ (l : List Int) (m : Int), (C m = D m) → (∀ x ∈ l, C x = D x) → fewest C m l = fewest D m l
  | [], m, _, _ => rfl
  | a :: l, m, h1, h2 => by
    have e : (if C a - C m < 0 then a else m) = (if D a - D m < 0 then a else m) := by rw [h1, h2 a (.head _)]
    unfold fewest
    rw [e]
    refine fewest_congr l _ ?_ (fun x hx => h2 x (.tail _ hx))
    split
    · exact h2 a (.head _)
    · exact h1
theorem fills_cnt {M : List Int} {s0 : Sk} (hM0 : 0 < M.length) (h0 : ∀ x ∈ M, 0 < x) (hc : ∀ x ∈ M, s0.C x = tm s0.l x) : ∀ p, p ≤ s0.l.length → (fillsL M s0 p).l.length = s0.l.length ∧ ∀ x ∈ M, (fillsL M s0 p).C x = tm (fillsL M s0 p).l x
  | 0, _ => ⟨rfl, hc⟩
  | p + 1, hp => by
    obtain ⟨h1, h2⟩ := fills_cnt hM0 h0 hc p (by omega)
    unfold fillsL
    simp only
    generalize fillsL M s0 p = s at *
    have hlt : p < s.l.length := by omega
    rw [getElem!_pos _ p hlt]
    have hf := fewest_in (C := s.C) hM0
    generalize fewest s.C M[0]! (M.drop 1) = m at *
    split
    · rename_i hz
      refine ⟨by simp [h1], fun x hx => ?_⟩
      have := h0 x hx
      show upC s.C m x = tm (s.l.set p m) x
      rw [tm_set _ _ hlt, if_neg (by omega)]
      have := h2 x hx
      simp only [upC]
      by_cases e : x = m
      · rw [if_pos e, if_pos e.symm, ← e]; omega
      · rw [if_neg e, if_neg (fun h => e h.symm)]; omega
    · exact ⟨h1, h2⟩

end Go.Proofs.Ytjjmlopmemmobaa.M
