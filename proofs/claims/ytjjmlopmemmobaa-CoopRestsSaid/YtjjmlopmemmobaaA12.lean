/- Whoever the members are, their shares differ by one at the most. -/
import Derived.Test.YtjjmlopmemmobaaA10
namespace Go.Proofs.Ytjjmlopmemmobaa.M
open Go.Proofs.Ytjjmlopmemmobaa.F Go.RowKit
set_option linter.unusedVariables false
set_option linter.unusedSimpArgs false
set_option maxRecDepth 100000
set_option maxHeartbeats 2000000
attribute [local irreducible] Res.cells Res.row Res.map Res.any World.cell? World.frozen? Instr.fieldAt Instr.loadAt Instr.storeAt Instr.indexAt Instr.lookup Instr.mapUpdate Instr.box Instr.build Instr.buildSlice Instr.extract Instr.alloc Instr.field Instr.index Instr.sliceAt Instr.makeSlice Instr.makeMap Instr.makeFunc binS Op.unary Sem.run
open Go.Proofs.Ytjjmlopmemmobaa.L Go.Shelf
abbrev tot (M : List Int) (f : Int → Int) : Int := (M.map f).sum
theorem tot_cons (a : Int) (M : List Int) (f : Int → Int) : tot (a :: M) f = f a + tot M f := by simp [tot]
theorem sum_ind {a : Int} {f g : Int → Int} : ∀ {M : List Int}, M.Pairwise (· < ·) → (∀ x ∈ M, g x = f x + if a = x then 1 else 0) → tot M g = tot M f + if a ∈ M then 1 else 0
  | [], _, _ => by simp [tot]
  | b :: M, hr, h => by
    obtain ⟨hb, hr'⟩ := List.pairwise_cons.1 hr
    have ih := sum_ind (a := a) (f := f) (g := g) hr' (fun x hx => h x (.tail _ hx))
    rw [tot_cons, tot_cons, h b (.head _), ih]
    by_cases e : a = b
    · have hn : a ∉ M := fun hm => by have := hb a hm; omega
      rw [if_pos e, if_neg hn, if_pos (by rw [e]; exact .head _)]
      omega
    · rw [if_neg e]
      by_cases hm : a ∈ M
      · rw [if_pos hm, if_pos (List.mem_cons_of_mem _ hm)]; omega
      · rw [if_neg hm, if_neg (fun h => (List.mem_cons.1 h).elim e hm)]; omega
theorem tot_tm {M : List Int} (hr : M.Pairwise (· < ·)) (h0 : ∀ x ∈ M, 0 < x) : ∀ l : List Int, (∀ x ∈ l, x = 0 ∨ x ∈ M) → tot M (tm l) + tm l 0 = l.length
  | [], _ => by
    have : tot M (tm []) = 0 := by
      have : ∀ M : List Int, tot M (tm []) = 0 := fun M => by
        induction M with
        | nil => rfl
        | cons a M ih => rw [tot_cons, ih]; rfl
      exact this M
    rw [this]; rfl
  | a :: l, h => by
    have ih := tot_tm hr h0 l (fun x hx => h x (.tail _ hx))
    have hc : ∀ q, tm (a :: l) q = tm l q + if a = q then 1 else 0 := fun q => by
      unfold tm
      rw [List.count_cons]
      by_cases e : a = q <;> simp [e]
    have hs := sum_ind (a := a) (f := tm l) (g := tm (a :: l)) hr (fun x _ => hc x)
    rw [hs, hc 0]
    simp only [List.length_cons]
    rcases h a (.head _) with e | e
    · rw [if_pos e, if_neg (fun hm => by have := h0 a hm; omega)]; omega
    · have := h0 a e
      rw [if_pos e, if_neg (by omega)]; omega
theorem tot_ge {f : Int → Int} {m : Int} : ∀ {M : List Int}, (∀ x ∈ M, m ≤ f x) → m * M.length + (M.countP (fun x => decide (m < f x)) : Nat) ≤ tot M f
  | [], _ => by simp [tot]
  | a :: M, h => by
    have ih := tot_ge (f := f) (m := m) (M := M) (fun x hx => h x (.tail _ hx))
    have ha := h a (.head _)
    rw [tot_cons, List.countP_cons, List.length_cons]
    have e : m * ((M.length + 1 : Nat) : Int) = m * M.length + m := by rw [Int.natCast_add, Int.mul_add]; simp
    by_cases hc : m < f a
    · simp only [hc, decide_true, if_true]; omega
    · simp only [hc, decide_false, Bool.false_eq_true, if_false, Nat.add_zero]; omega
theorem tot_le {f : Int → Int} {m : Int} : ∀ {M : List Int}, (∀ x ∈ M, f x ≤ m + 1) → tot M f ≤ m * M.length + (M.countP (fun x => decide (m < f x)) : Nat) ∧ ((∃ x ∈ M, f x < m) → tot M f < m * M.length + (M.countP (fun x => decide (m < f x)) : Nat))
  | [], _ => by simp [tot]
  | a :: M, h => by
    obtain ⟨i1, i2⟩ := tot_le (f := f) (m := m) (M := M) (fun x hx => h x (.tail _ hx))
    have ha := h a (.head _)
    rw [tot_cons, List.countP_cons, List.length_cons]
    have e : m * ((M.length + 1 : Nat) : Int) = m * M.length + m := by rw [Int.natCast_add, Int.mul_add]; simp
    refine ⟨?_, fun ⟨x, hx, hlt⟩ => ?_⟩
    · by_cases hc : m < f a
      · simp only [hc, decide_true, if_true]; omega
      · simp only [hc, decide_false, Bool.false_eq_true, if_false, Nat.add_zero]; omega
    · rcases List.mem_cons.1 hx with rfl | hx
      · have hc : ¬ m < f x := by omega
        simp only [hc, decide_false, Bool.false_eq_true, if_false, Nat.add_zero]; omega
      · have := i2 ⟨x, hx, hlt⟩
        by_cases hc : m < f a
        · simp only [hc, decide_true, if_true]; omega
        · simp only [hc, decide_false, Bool.false_eq_true, if_false, Nat.add_zero]; omega
theorem fewest_le (C : Int → Int) : ∀ (l : List Int) (m : Int), C (fewest C m l) ≤ C m ∧ ∀ x ∈ l, C (fewest C m l) ≤ C x
  | [], m => ⟨Int.le_refl _, by simp⟩
  | a :: l, m => by
    obtain ⟨h1, h2⟩ := fewest_le C l (if C a - C m < 0 then a else m)
    unfold fewest
    by_cases e : C a - C m < 0
    · rw [if_pos e] at h1 h2 ⊢
      exact ⟨by omega, fun x hx => by rcases List.mem_cons.1 hx with rfl | hx; exact h1; exact h2 x hx⟩
    · rw [if_neg e] at h1 h2 ⊢
      exact ⟨h1, fun x hx => by rcases List.mem_cons.1 hx with rfl | hx; omega; exact h2 x hx⟩
/-- How shares are, when all is fair. -/
structure Fair (parts : Int) (M l : List Int) : Prop where
  len : l.length = parts.toNat
  inM : ∀ x ∈ l, x ∈ M
  lo : ∀ x ∈ M, baseI parts M ≤ tm l x
  hi : ∀ x ∈ M, tm l x ≤ baseI parts M + 1
  abv : aboveN l M (baseI parts M) = bigI parts M
theorem parts_eq {parts : Int} {M : List Int} (hM0 : 0 < M.length) : parts = baseI parts M * M.length + bigI parts M ∧ bigI parts M < M.length := by
  unfold baseI bigI
  rw [if_neg (by omega), if_neg (by omega)]
  have := Int.mul_ediv_add_emod parts (M.length : Int)
  have := Int.emod_lt_of_pos parts (show (0 : Int) < M.length by omega)
  rw [Int.mul_comm (parts / (M.length : Int))]
  omega
theorem fills_fair {parts : Int} {M : List Int} {s0 : Sk} (hM0 : 0 < M.length) (hp : ¬ badParts parts) (hr : M.Pairwise (· < ·)) (h0 : ∀ x ∈ M, 0 < x) (hlen : s0.l.length = parts.toNat) (hm : ∀ x ∈ s0.l, x = 0 ∨ x ∈ M) (hc : ∀ x ∈ M, s0.C x = tm s0.l x)
    (hle : ∀ x ∈ M, tm s0.l x ≤ baseI parts M + 1) (hab : aboveN s0.l M (baseI parts M) ≤ bigI parts M) : ∀ q, q ≤ parts.toNat →
    (fillsL M s0 q).l.length = parts.toNat ∧ (∀ x ∈ (fillsL M s0 q).l, x = 0 ∨ x ∈ M) ∧ (∀ x ∈ M, (fillsL M s0 q).C x = tm (fillsL M s0 q).l x) ∧ (∀ x ∈ M, tm (fillsL M s0 q).l x ≤ baseI parts M + 1) ∧ aboveN (fillsL M s0 q).l M (baseI parts M) ≤ bigI parts M ∧
      ∀ j, j < q → (fillsL M s0 q).l[j]! ≠ 0
  | 0, _ => ⟨hlen, hm, hc, hle, hab, fun j h => absurd h (Nat.not_lt_zero _)⟩
  | q + 1, hq => by
    obtain ⟨i1, i2, i3, i4, i5, i6⟩ := fills_fair hM0 hp hr h0 hlen hm hc hle hab q (by omega)
    have hpe := parts_eq (parts := parts) hM0
    have hp1 : 1 ≤ parts := by unfold badParts at hp; omega
    unfold fillsL
    simp only
    generalize fillsL M s0 q = s at *
    have hlt : q < s.l.length := by omega
    rw [getElem!_pos s.l q hlt]
    split
    · rename_i hz
      have hf := fewest_in (C := s.C) hM0
      have hfl := fewest_le s.C (M.drop 1) M[0]!
      have hmin : ∀ x ∈ M, s.C (fewest s.C M[0]! (M.drop 1)) ≤ s.C x := fun x hx => by
        have e : M = M[0]! :: M.drop 1 := by
          rw [getElem!_pos M 0 hM0]
          have := List.drop_eq_getElem_cons hM0
          rw [List.drop_zero] at this
          exact this
        rw [e] at hx
        rcases List.mem_cons.1 hx with h | h
        · rw [h]; exact hfl.1
        · exact hfl.2 x h
      generalize fewest s.C M[0]! (M.drop 1) = m at *
      have hm0 := h0 m hf
      have hset : ∀ x ∈ M, tm (s.l.set q m) x = tm s.l x + (if m = x then 1 else 0) := fun x hx => by
        have := h0 x hx
        rw [tm_set _ _ hlt, if_neg (by omega)]
        omega
      have hcm := i3 m hf
      have hmin' : ∀ x ∈ M, tm s.l m ≤ tm s.l x := fun x hx => by have := hmin x hx; rw [i3 m hf, i3 x hx] at this; exact this
      have htot := tot_tm hr h0 s.l i2
      have hz1 : 1 ≤ tm s.l 0 := by
        have : 0 < s.l.count 0 := List.count_pos_iff.2 (by rw [← hz]; exact List.getElem_mem hlt)
        unfold tm; omega
      have hmb : tm s.l m ≤ baseI parts M := by
        apply Classical.byContradiction
        intro hn
        have := tot_ge (f := tm s.l) (m := baseI parts M + 1) (M := M) (fun x hx => by have := hmin' x hx; omega)
        rw [Int.add_mul] at this
        omega
      refine ⟨by simp [i1], fun x hx => ?_, fun x hx => ?_, fun x hx => ?_, ?_, fun j hjq => ?_⟩
      · rcases List.mem_or_eq_of_mem_set hx with hx | rfl
        · exact i2 x hx
        · exact .inr hf
      · show upC s.C m x = tm (s.l.set q m) x
        rw [hset x hx]
        have := i3 x hx
        simp only [upC]
        by_cases e : x = m
        · rw [if_pos e, if_pos e.symm, ← e]; omega
        · rw [if_neg e, if_neg (fun h => e h.symm)]; omega
      · show tm (s.l.set q m) x ≤ _
        rw [hset x hx]
        have := i4 x hx
        by_cases e : m = x
        · subst e; rw [if_pos rfl]; omega
        · rw [if_neg e]; omega
      · show aboveN (s.l.set q m) M (baseI parts M) ≤ _
        by_cases e : tm s.l m = baseI parts M
        · have hge := tot_ge (f := tm s.l) (m := baseI parts M) (M := M) (fun x hx => by have := hmin' x hx; omega)
          have : M.countP (fun x => decide (baseI parts M < tm (s.l.set q m) x)) = M.countP (fun x => decide (baseI parts M < tm s.l x)) + 1 :=
            countP_one hr hf (by simp; omega) (by rw [hset m hf, if_pos rfl]; simp; omega) (fun x hx hne => by rw [hset x hx, if_neg (fun h => hne h.symm)]; simp)
          unfold aboveN at *
          omega
        · have : M.countP (fun x => decide (baseI parts M < tm (s.l.set q m) x)) = M.countP (fun x => decide (baseI parts M < tm s.l x)) :=
            List.countP_congr fun x hx => by
              rw [hset x hx]
              by_cases e2 : m = x
              · subst e2; rw [if_pos rfl]; simp; omega
              · rw [if_neg e2]; simp
          unfold aboveN at *
          omega
      · show (s.l.set q m)[j]! ≠ 0
        have hj : j < s.l.length := by omega
        rw [getElem!_pos _ j (by simpa using hj), List.getElem_set]
        by_cases e : q = j
        · rw [if_pos e]; omega
        · rw [if_neg e]
          have := i6 j (by omega)
          rwa [getElem!_pos _ j hj] at this
    · rename_i hz
      refine ⟨i1, i2, i3, i4, i5, fun j hjq => ?_⟩
      by_cases e : j = q
      · subst e; rw [getElem!_pos _ j hlt]; exact hz
      · exact i6 j (by omega)
theorem sticky_fair {parts : Int} {M old : List Int} (hM0 : 0 < M.length) (hp : ¬ badParts parts) (hr : M.Pairwise (· < ·)) (hl : M.length ≤ 1000) (hM : ∀ x ∈ M, -9223372036854775808 ≤ x ∧ x ≤ 9223372036854775807) (h0 : ∀ x ∈ M, 0 < x) : Fair parts M (stickyL parts M old) := by
  have hp64 : parts.toNat ≤ 64 := by unfold badParts at hp; omega
  have hp1 : 1 ≤ parts := by unfold badParts at hp; omega
  have hpe := parts_eq (parts := parts) hM0
  obtain ⟨hok, _, hll, hlm⟩ := keepsL_ok (parts := parts) (M := M) (old := old) hp hr hl hM (min parts.toNat old.length) (by omega)
  have hk := KInv.all (old := old) hp hr hl hM h0 (min parts.toNat old.length) (by omega)
  have hb := hok.big0
  have hka := hk.abv
  obtain ⟨i1, i2, i3, i4, i5, i6⟩ := fills_fair hM0 hp hr h0 hll hlm hk.cnt hk.le (by omega) parts.toNat (Nat.le_refl _)
  have e : stickyL parts M old = (fillsL M (keepsL parts M old (min parts.toNat old.length)) parts.toNat).l := by unfold stickyL; rw [if_neg (by omega)]
  rw [e]
  generalize fillsL M (keepsL parts M old (min parts.toNat old.length)) parts.toNat = s at *
  have hno0 : ∀ x ∈ s.l, x ≠ 0 := fun x hx => by
    obtain ⟨j, hj, rfl⟩ := List.mem_iff_getElem.1 hx
    have := i6 j (by omega)
    rwa [getElem!_pos _ j hj] at this
  have hz : tm s.l 0 = 0 := by
    unfold tm
    rw [List.count_eq_zero.2 (fun h => hno0 0 h rfl)]
    rfl
  have htot := tot_tm hr h0 s.l i2
  obtain ⟨t1, t2⟩ := tot_le (f := tm s.l) (m := baseI parts M) (M := M) i4
  refine ⟨i1, fun x hx => (i2 x hx).resolve_left (hno0 x hx), fun x hx => ?_, i4, ?_⟩
  · apply Classical.byContradiction
    intro hn
    have := t2 ⟨x, hx, by omega⟩
    unfold aboveN at i5
    omega
  · unfold aboveN at *
    omega

end Go.Proofs.Ytjjmlopmemmobaa.M
