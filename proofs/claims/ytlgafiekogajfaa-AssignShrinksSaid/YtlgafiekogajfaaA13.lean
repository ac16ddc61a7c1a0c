/- What is fair stays; side by side is fair. -/
import Derived.Test.YtlgafiekogajfaaA12
namespace Go.Proofs.Ytlgafiekogajfaa.M
open Go.Proofs.Ytlgafiekogajfaa.F Go.RowKit
set_option linter.unusedVariables false
set_option linter.unusedSimpArgs false
set_option maxRecDepth 100000
set_option maxHeartbeats 2000000
attribute [local irreducible] Res.cells Res.row Res.map Res.any World.cell? World.frozen? Instr.fieldAt Instr.loadAt Instr.storeAt Instr.indexAt Instr.lookup Instr.mapUpdate Instr.box Instr.build Instr.buildSlice Instr.extract Instr.alloc Instr.field Instr.index Instr.sliceAt Instr.makeSlice Instr.makeMap Instr.makeFunc binS Op.unary Sem.run
open Go.Proofs.Ytlgafiekogajfaa.L Go.Shelf
theorem countP_lt {p p' : Int → Bool} {m : Int} {M : List Int} (hr : M.Pairwise (· < ·)) (hm : m ∈ M) (h1 : p m = false) (h2 : p' m = true) (h3 : ∀ x ∈ M, p x = true → p' x = true) : M.countP p < M.countP p' := by
  have e := countP_one (p := p) (p' := fun x => p x || decide (x = m)) hr hm h1 (by simp) (fun x _ hne => by simp [hne])
  have : M.countP (fun x => p x || decide (x = m)) ≤ M.countP p' := List.countP_mono_left fun x hx h => by
    simp at h
    rcases h with h | h
    · exact h3 x hx h
    · rw [h]; exact h2
  omega
theorem tm_append (a b : List Int) (x : Int) : tm (a ++ b) x = tm a x + tm b x := by unfold tm; rw [List.count_append]; omega
theorem tm_zeros {n : Nat} {x : Int} (h : 0 < x) : tm (List.replicate n 0) x = 0 := by
  unfold tm
  rw [List.count_replicate]
  simp
  intro h; omega
theorem keeps_all {parts : Int} {M a : List Int} (hp : ¬ badParts parts) (hr : M.Pairwise (· < ·)) (hl : M.length ≤ 1000) (hM : ∀ x ∈ M, -9223372036854775808 ≤ x ∧ x ≤ 9223372036854775807) (h0 : ∀ x ∈ M, 0 < x) (hf : Fair parts M a) : ∀ p, p ≤ parts.toNat → (keepsL parts M a p).l = a.take p ++ List.replicate (parts.toNat - p) 0
  | 0, _ => by simp [keepsL]
  | p + 1, hpp => by
    have ih := keeps_all hp hr hl hM h0 hf p (by omega)
    have hk := KInv.all (old := a) hp hr hl hM h0 p (by omega)
    have hp64 : parts.toNat ≤ 64 := by unfold badParts at hp; omega
    obtain ⟨hok, _, _, _⟩ := keepsL_ok (parts := parts) (M := M) (old := a) hp hr hl hM p (by omega)
    have hlen := hf.len
    have hlt : p < a.length := by omega
    unfold keepsL
    simp only
    rw [getElem!_pos a p hlt]
    generalize keepsL parts M a p = s at *
    have hmem := hf.inM _ (List.getElem_mem hlt)
    have ha : ∀ x, 0 < x → tm s.l x = tm (a.take p) x ∧ tm a x = tm (a.take p) x + (if a[p] = x then 1 else 0) + tm (a.drop (p + 1)) x := fun x hx => by
      refine ⟨by rw [ih, tm_append, tm_zeros hx]; omega, ?_⟩
      have e : a = a.take p ++ (a[p] :: a.drop (p + 1)) := by rw [← List.drop_eq_getElem_cons hlt, List.take_append_drop]
      have e2 : tm a x = tm (a.take p ++ (a[p] :: a.drop (p + 1))) x := congrArg (tm · x) e
      rw [e2, tm_append]
      have : tm (a[p] :: a.drop (p + 1)) x = (if a[p] = x then 1 else 0) + tm (a.drop (p + 1)) x := by
        unfold tm
        rw [List.count_cons]
        by_cases h : a[p] = x <;> simp [h]; omega
      omega
    have etk : a.take (p + 1) = a.take p ++ [a[p]] := List.take_succ_eq_append_getElem hlt
    generalize a[p] = m at *
    have hm0 := h0 m hmem
    have hhi := hf.hi m hmem
    have hnn : ∀ x, 0 ≤ tm (a.drop (p + 1)) x := fun x => by unfold tm; omega
    have hmm := ha m hm0
    rw [if_pos rfl] at hmm
    have hnm := hnn m
    have hy : mayI M (baseI parts M) s.big s.C m := by
      rw [may_iff hk hmem hok.big0.1]
      by_cases e : tm s.l m = baseI parts M
      · refine .inr ⟨e, ?_⟩
        rw [← hf.abv]
        have := countP_lt (p := fun x => decide (baseI parts M < tm s.l x)) (p' := fun x => decide (baseI parts M < tm a x)) hr hmem (by simp; omega) (by simp; omega) (fun x hx h => by
          simp at h ⊢
          obtain ⟨q1, q2⟩ := ha x (h0 x hx)
          have := hnn x
          split at q2 <;> omega)
        unfold aboveN
        omega
      · exact .inl (by omega)
    rw [if_pos hy]
    show s.l.set p m = _
    have hlp : (a.take p).length = p := by rw [List.length_take]; omega
    have ek : parts.toNat - p = (parts.toNat - (p + 1)) + 1 := by omega
    rw [ih, etk, List.set_append_right _ _ (by omega), hlp, Nat.sub_self, ek, List.replicate_succ, List.set_cons_zero, List.append_assoc]
    rfl
theorem fills_id {M : List Int} {s0 : Sk} : ∀ q, (∀ j, j < q → s0.l[j]! ≠ 0) → fillsL M s0 q = s0
  | 0, _ => rfl
  | q + 1, h => by
    unfold fillsL
    simp only
    rw [fills_id q (fun j hj => h j (by omega)), if_neg (h q (by omega))]
theorem sticky_id {parts : Int} {M a : List Int} (hM0 : 0 < M.length) (hp : ¬ badParts parts) (hr : M.Pairwise (· < ·)) (hl : M.length ≤ 1000) (hM : ∀ x ∈ M, -9223372036854775808 ≤ x ∧ x ≤ 9223372036854775807) (h0 : ∀ x ∈ M, 0 < x) (hf : Fair parts M a) : stickyL parts M a = a := by
  have hlen := hf.len
  have hk := keeps_all hp hr hl hM h0 hf parts.toNat (Nat.le_refl _)
  rw [Nat.sub_self, List.replicate_zero, List.append_nil, List.take_of_length_le (by omega)] at hk
  unfold stickyL
  rw [if_neg (by omega), hlen, Nat.min_self, fills_id, hk]
  intro j hj
  rw [hk, getElem!_pos a j (by omega)]
  have := h0 _ (hf.inM _ (List.getElem_mem (show j < a.length by omega)))
  omega
theorem rng_len {M : List Int} {B G : Int} (hB : 0 ≤ B) (hG : 0 ≤ G) : ∀ i, ((rngL M B G i).length : Int) = B * i + min (i : Int) G
  | 0 => by simp [rngL]; omega
  | i + 1 => by
    have ih := rng_len (M := M) hB hG i
    unfold rngL
    rw [List.length_append, List.length_replicate]
    have e : B * ((i + 1 : Nat) : Int) = B * i + B := by rw [Int.natCast_add, Int.mul_add]; simp
    split <;> omega
theorem rng_tm {M : List Int} {B G : Int} (hB : 0 ≤ B) (hr : M.Pairwise (· < ·)) : ∀ i, i ≤ M.length → (∀ x ∈ rngL M B G i, x ∈ M) ∧ (∀ j (hj : j < M.length), (j < i → B ≤ tm (rngL M B G i) M[j] ∧ tm (rngL M B G i) M[j] ≤ B + 1) ∧ (i ≤ j → tm (rngL M B G i) M[j] = 0))
  | 0, _ => ⟨by simp [rngL], fun j hj => ⟨fun h => absurd h (Nat.not_lt_zero _), fun _ => by simp [rngL, tm]⟩⟩
  | i + 1, hi => by
    obtain ⟨h1, h2⟩ := rng_tm (B := B) (G := G) hB hr i (by omega)
    have hlt : i < M.length := by omega
    unfold rngL
    rw [getElem!_pos M i hlt]
    generalize hN : (B + if (i : Int) < G then 1 else 0).toNat = N
    have hN' : B ≤ (N : Int) ∧ (N : Int) ≤ B + 1 := by
      by_cases h : (i : Int) < G
      · rw [if_pos h] at hN; omega
      · rw [if_neg h] at hN; omega
    refine ⟨fun x hx => ?_, fun j hj => ⟨fun hji => ?_, fun hij => ?_⟩⟩
    · rcases List.mem_append.1 hx with hx | hx
      · exact h1 x hx
      · rw [List.eq_of_mem_replicate hx]; exact List.getElem_mem hlt
    · rw [tm_append]
      have er : tm (List.replicate N M[i]) M[j] = if i = j then (N : Int) else 0 := by
        unfold tm
        rw [List.count_replicate]
        by_cases e : i = j
        · subst e; simp
        · have : M[i] ≠ M[j] := by
            rcases Nat.lt_or_ge i j with c | c
            · have := (List.pairwise_iff_getElem.1 hr) i j hlt hj c; omega
            · have := (List.pairwise_iff_getElem.1 hr) j i hj hlt (by omega); omega
          simp [e, this]
      rw [er]
      by_cases e : i = j
      · have := (h2 j hj).2 (by omega)
        rw [if_pos e, this]; omega
      · have := (h2 j hj).1 (by omega)
        rw [if_neg e]; omega
    · rw [tm_append, (h2 j hj).2 (by omega)]
      unfold tm
      rw [List.count_replicate]
      have := (List.pairwise_iff_getElem.1 hr) i j hlt hj (by omega)
      have hne : M[i] ≠ M[j] := by omega
      simp [hne]
theorem range_fair {parts : Int} {M : List Int} (hM0 : 0 < M.length) (hp : ¬ badParts parts) (hr : M.Pairwise (· < ·)) (h0 : ∀ x ∈ M, 0 < x) : Fair parts M (rangeL parts M) := by
  have hp1 : 1 ≤ parts := by unfold badParts at hp; omega
  have hnum := share_nums (M := M) hp
  have hpe := parts_eq (parts := parts) hM0
  have hlen := rng_len (M := M) hnum.1 hnum.2.2.1 M.length
  obtain ⟨h1, h2⟩ := rng_tm (B := baseI parts M) (G := bigI parts M) hnum.1 hr M.length (Nat.le_refl _)
  have hl : (rngL M (baseI parts M) (bigI parts M) M.length).length = parts.toNat := by omega
  have e : rangeL parts M = rngL M (baseI parts M) (bigI parts M) M.length := by unfold rangeL; rw [hl, Nat.sub_self, List.replicate_zero, List.append_nil]
  rw [e]
  generalize rngL M (baseI parts M) (bigI parts M) M.length = l at *
  have lo : ∀ x ∈ M, baseI parts M ≤ tm l x ∧ tm l x ≤ baseI parts M + 1 := fun x hx => by
    obtain ⟨j, hj, rfl⟩ := List.mem_iff_getElem.1 hx
    exact (h2 j hj).1 hj
  have hz : tm l 0 = 0 := by
    unfold tm
    rw [List.count_eq_zero.2 (fun h => by have := h0 0 (h1 0 h); omega)]
    rfl
  have ht := tot_tm hr h0 l (fun x hx => .inr (h1 x hx))
  have t1 := (tot_le (f := tm l) (m := baseI parts M) (M := M) (fun x hx => (lo x hx).2)).1
  have t2 := tot_ge (f := tm l) (m := baseI parts M) (M := M) (fun x hx => (lo x hx).1)
  refine ⟨hl, h1, fun x hx => (lo x hx).1, fun x hx => (lo x hx).2, ?_⟩
  unfold aboveN
  omega

end Go.Proofs.Ytlgafiekogajfaa.M
