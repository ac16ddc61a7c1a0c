/- When one more joins, no more has to be given up than its own share. -/
import Derived.Test.YtjjmlopmemmobaaC22
namespace Go.Proofs.Ytjjmlopmemmobaa.M
open Go.Proofs.Ytjjmlopmemmobaa.F Go.RowKit
set_option linter.unusedVariables false
set_option linter.unusedSimpArgs false
set_option maxRecDepth 100000
set_option maxHeartbeats 2000000
attribute [local irreducible] Res.cells Res.row Res.map Res.any World.cell? World.frozen? Instr.fieldAt Instr.loadAt Instr.storeAt Instr.indexAt Instr.lookup Instr.mapUpdate Instr.box Instr.build Instr.buildSlice Instr.extract Instr.alloc Instr.field Instr.index Instr.sliceAt Instr.makeSlice Instr.makeMap Instr.makeFunc binS Op.unary Sem.run
open Go.Proofs.Ytjjmlopmemmobaa.L Go.Shelf
theorem tot_perm {M M' : List Int} {f : Int → Int} (h : M'.Perm M) : tot M' f = tot M f := by
  induction h with
  | nil => rfl
  | cons x _ ih => rw [tot_cons, tot_cons, ih]
  | swap x y l => rw [tot_cons, tot_cons, tot_cons, tot_cons]; omega
  | trans _ _ h1 h2 => rw [h1, h2]
theorem tot_congr {M : List Int} {f g : Int → Int} (h : ∀ x ∈ M, f x = g x) : tot M f = tot M g := by unfold tot; rw [List.map_congr_left h]
theorem add_perm {M M' : List Int} {m : Int} (hr : M.Pairwise (· < ·)) (hr' : M'.Pairwise (· < ·)) (hm : ∀ x, x ∈ M' ↔ x ∈ M ∨ x = m) (hn : m ∉ M) : M'.Perm (m :: M) := by
  refine (List.perm_ext_iff_of_nodup (hr'.imp fun h e => by omega) (List.nodup_cons.2 ⟨hn, hr.imp fun h e => by omega⟩)).2 fun x => ?_
  rw [hm, List.mem_cons]
  constructor
  · rintro (h | h)
    · exact .inr h
    · exact .inl h
  · rintro (h | h)
    · exact .inr h
    · exact .inl h
theorem fills_new {parts : Int} {M M' a : List Int} {m : Int} (hp : ¬ badParts parts) (hr : M.Pairwise (· < ·)) (hr' : M'.Pairwise (· < ·)) (hl : M'.length ≤ 1000) (hM' : ∀ x ∈ M', -9223372036854775808 ≤ x ∧ x ≤ 9223372036854775807) (h0 : ∀ x ∈ M', 0 < x) (hmm : ∀ x, x ∈ M' ↔ x ∈ M ∨ x = m) (hn : m ∉ M) (hM0 : 0 < M.length) (hf : Fair parts M a) (hlen : M'.length = M.length + 1) : ∀ q, q ≤ parts.toNat →
    (fillsL M' (keepsL parts M' a parts.toNat) q).l.length = parts.toNat ∧ (∀ x ∈ M', (fillsL M' (keepsL parts M' a parts.toNat) q).C x = tm (fillsL M' (keepsL parts M' a parts.toNat) q).l x) ∧ (∀ x ∈ M, tm (fillsL M' (keepsL parts M' a parts.toNat) q).l x = tm (keepsL parts M' a parts.toNat).l x) ∧
      (∀ x ∈ (fillsL M' (keepsL parts M' a parts.toNat) q).l, x = 0 ∨ x ∈ M') ∧ ∀ j : Nat, (fillsL M' (keepsL parts M' a parts.toNat) q).l[j]! = (keepsL parts M' a parts.toNat).l[j]! ∨ (fillsL M' (keepsL parts M' a parts.toNat) q).l[j]! = m := by
  have hp64 : parts.toNat ≤ 64 := by unfold badParts at hp; omega
  obtain ⟨_, _, _, s4⟩ := shares_add (parts := parts) hp hM0 hlen
  obtain ⟨_, _, hll, hlm⟩ := keepsL_ok (parts := parts) (M := M') (old := a) hp hr' hl hM' parts.toNat hp64
  have hk := KInv.all (old := a) hp hr' hl hM' h0 parts.toNat (Nat.le_refl _)
  obtain ⟨hb0, hbase⟩ := join_keeps hp hr hr' hl hM' h0 hmm hn hM0 hf hlen
  have habv := hk.abv
  rw [hb0] at habv
  have hle := hk.le
  have hcnt := hk.cnt
  have hown := keeps_own (parts := parts) (M := M') (old := a) parts.toNat (Nat.le_refl _)
  generalize keepsL parts M' a parts.toNat = k at *
  have hmemb : ∀ x ∈ M, x ∈ M' := fun x hx => (hmm x).2 (.inl hx)
  have hkm : tm k.l m = 0 := by
    unfold tm
    rw [List.count_eq_zero.2 fun h => ?_]
    · rfl
    obtain ⟨j, hj, he⟩ := List.mem_iff_getElem.1 h
    have := hown j
    rw [getElem!_pos k.l j hj, he] at this
    have hmp := h0 m ((hmm m).2 (.inr rfl))
    have hja : j < a.length := by have := hf.len; omega
    rcases this with h1 | h1
    · omega
    · rw [getElem!_pos a j hja] at h1
      exact hn (h1 ▸ hf.inM _ (List.getElem_mem hja))
  have hab2 : ((M.countP fun x => decide (baseI parts M' < tm k.l x) : Nat) : Int) = bigI parts M' := by
    have h1 := countP_cons_sub (p := fun x => decide (baseI parts M' < tm k.l x)) hr hr' hmm hn
    have h2 : decide (baseI parts M' < tm k.l m) = false := by
      rw [hkm]
      have := share_nums (M := M') hp
      exact decide_eq_false (by omega)
    rw [h2, if_neg (by simp)] at h1
    unfold aboveN at habv
    omega
  have htot : tot M (tm k.l) = baseI parts M' * M.length + bigI parts M' := by
    have t1 := tot_ge (f := tm k.l) (m := baseI parts M') (M := M) (fun x hx => by rw [← hcnt x (hmemb x hx)]; exact hbase x hx)
    have t2 := (tot_le (f := tm k.l) (m := baseI parts M') (M := M) (fun x hx => hle x (hmemb x hx))).1
    omega
  intro q
  induction q with
  | zero => exact fun _ => ⟨hll, hcnt, fun _ _ => rfl, hlm, fun _ => .inl rfl⟩
  | succ q ih =>
    intro hq
    obtain ⟨i1, i2, i3, i4, i5⟩ := ih (by omega)
    unfold fillsL
    simp only
    generalize fillsL M' k q = s at *
    have hlt : q < s.l.length := by omega
    rw [getElem!_pos s.l q hlt]
    split
    · rename_i hz
      have hfw := fewest_in (C := s.C) (M := M') (by omega)
      have hfl := fewest_le s.C (M'.drop 1) M'[0]!
      have hmin : ∀ x ∈ M', s.C (fewest s.C M'[0]! (M'.drop 1)) ≤ s.C x := fun x hx => by
        have e : M' = M'[0]! :: M'.drop 1 := by
          rw [getElem!_pos M' 0 (by omega)]
          have := List.drop_eq_getElem_cons (show 0 < M'.length by omega)
          rw [List.drop_zero] at this
          exact this
        rw [e] at hx
        rcases List.mem_cons.1 hx with h | h
        · rw [h]; exact hfl.1
        · exact hfl.2 x h
      have htz := tot_tm hr' h0 s.l i4
      rw [tot_perm (add_perm hr hr' hmm hn), tot_cons, tot_congr (g := tm k.l) i3, htot] at htz
      have hz1 : 1 ≤ tm s.l 0 := by
        have : 0 < s.l.count 0 := List.count_pos_iff.2 (by rw [← hz]; exact List.getElem_mem hlt)
        unfold tm; omega
      have hmM' : m ∈ M' := (hmm m).2 (.inr rfl)
      have hfm : fewest s.C M'[0]! (M'.drop 1) = m := by
        rcases (hmm _).1 hfw with h | h
        · have g1 := hmin m hmM'
          rw [i2 m hmM', i2 _ hfw, i3 _ h, ← hcnt _ hfw] at g1
          have g2 := hbase _ h
          have hp1 : (s.l.length : Int) = parts := by unfold badParts at hp; omega
          omega
        · exact h
      rw [hfm]
      have hm0 := h0 m hmM'
      have hset : ∀ x ∈ M', tm (s.l.set q m) x = tm s.l x + (if m = x then 1 else 0) := fun x hx => by
        have := h0 x hx
        rw [tm_set _ _ hlt, if_neg (by omega)]
        omega
      refine ⟨by simp [i1], fun x hx => ?_, fun x hx => ?_, fun x hx => ?_, fun j => ?_⟩
      · show upC s.C m x = tm (s.l.set q m) x
        rw [hset x hx]
        have := i2 x hx
        simp only [upC]
        by_cases e : x = m
        · rw [if_pos e, if_pos e.symm, ← e]; omega
        · rw [if_neg e, if_neg (fun h => e h.symm)]; omega
      · show tm (s.l.set q m) x = _
        rw [hset x (hmemb x hx), if_neg (fun (h : m = x) => hn (h.symm ▸ hx)), i3 x hx]
        omega
      · rcases List.mem_or_eq_of_mem_set hx with hx | rfl
        · exact i4 x hx
        · exact .inr hmM'
      · show (s.l.set q m)[j]! = _ ∨ (s.l.set q m)[j]! = m
        by_cases hj : j < s.l.length
        · rw [getElem!_pos _ j (by simpa using hj), List.getElem_set]
          by_cases e : q = j
          · rw [if_pos e]; exact .inr rfl
          · rw [if_neg e, ← getElem!_pos s.l j hj]; exact i5 j
        · rw [getElem!_neg _ j (by simpa using hj), getElem!_neg _ j (by omega)]
          exact .inl rfl
    · exact ⟨i1, i2, i3, i4, i5⟩
theorem sticky_new {parts : Int} {M M' a : List Int} {m : Int} (hp : ¬ badParts parts) (hr : M.Pairwise (· < ·)) (hr' : M'.Pairwise (· < ·)) (hl : M'.length ≤ 1000) (hM' : ∀ x ∈ M', -9223372036854775808 ≤ x ∧ x ≤ 9223372036854775807) (h0 : ∀ x ∈ M', 0 < x) (hmm : ∀ x, x ∈ M' ↔ x ∈ M ∨ x = m) (hn : m ∉ M) (hM0 : 0 < M.length) (hf : Fair parts M a) (hlen : M'.length = M.length + 1) :
    ∀ j : Nat, j < parts.toNat → (stickyL parts M' a)[j]! = a[j]! ∨ (stickyL parts M' a)[j]! = m := fun j hj => by
  have hal := hf.len
  have hfair := sticky_fair (old := a) (by omega) hp hr' hl hM' h0
  have hin := hfair.inM
  have hbl := hfair.len
  have h1 := (fills_new hp hr hr' hl hM' h0 hmm hn hM0 hf hlen parts.toNat (Nat.le_refl _)).2.2.2.2 j
  have h2 := keeps_own (parts := parts) (M := M') (old := a) parts.toNat (Nat.le_refl _) j
  have e : stickyL parts M' a = (fillsL M' (keepsL parts M' a parts.toNat) parts.toNat).l := by unfold stickyL; rw [if_neg (by omega), hal, Nat.min_self]
  have hpos : 0 < (stickyL parts M' a)[j]! := by
    rw [getElem!_pos _ j (by omega)]
    exact h0 _ (hin _ (List.getElem_mem _))
  rw [e] at hpos ⊢
  rcases h1 with h | h
  · rcases h2 with h3 | h3
    · omega
    · exact .inl (h.trans h3)
  · exact .inr h
theorem give_sum {a b L : List Int} {m : Int} {n : Nat} (hr : L.Pairwise (· < ·)) (ha : n ≤ a.length) (hb : n ≤ b.length) (h : ∀ j : Nat, j < n → b[j]! = a[j]! ∨ b[j]! = m) : ∀ p, p ≤ n → tot L (fun x => (revN a b x p).length) ≤ tm (b.take p) m
  | 0, _ => by
    have : tot L (fun x => ((revN a b x 0).length : Int)) = 0 := by
      have : ∀ L : List Int, tot L (fun x => ((revN a b x 0).length : Int)) = 0 := fun L => by
        induction L with
        | nil => rfl
        | cons x L ih => rw [tot_cons, ih]; rfl
      exact this L
    rw [this]
    simp [tm]
  | p + 1, hp => by
    have ih := give_sum hr ha hb h p (by omega)
    have ht := tm_take (show p < b.length by omega) m
    have hs := h p (by omega)
    rw [getElem!_pos b p (by omega)] at hs
    have hstep : ∀ x, ((revN a b x (p + 1)).length : Int) = (revN a b x p).length + if a[p]! = x ∧ b[p]! ≠ x then 1 else 0 := fun x => by
      rw [show revN a b x (p + 1) = if a[p]! = x ∧ b[p]! ≠ x then revN a b x p ++ [(p : Int)] else revN a b x p from rfl]
      split <;> simp
    rcases hs with hs | hs
    · have : tot L (fun x => ((revN a b x (p + 1)).length : Int)) = tot L (fun x => ((revN a b x p).length : Int)) := tot_congr fun x _ => by
        rw [hstep, getElem!_pos b p (by omega), hs, if_neg (fun h => h.2 h.1)]
        omega
      rw [this]
      split at ht <;> omega
    · rw [if_pos hs] at ht
      have h1 := sum_ind (a := a[p]!) (f := fun x => ((revN a b x p).length : Int)) (g := fun x => ((revN a b x p).length : Int) + if a[p]! = x then 1 else 0) hr (fun x _ => rfl)
      have h2 : ∀ L : List Int, tot L (fun x => ((revN a b x (p + 1)).length : Int)) ≤ tot L (fun x => ((revN a b x p).length : Int) + if a[p]! = x then 1 else 0) := fun L => by
        induction L with
        | nil => exact Int.le_refl _
        | cons x L ih =>
          rw [tot_cons, tot_cons]
          have : ((revN a b x (p + 1)).length : Int) ≤ ((revN a b x p).length : Int) + if a[p]! = x then 1 else 0 := by
            rw [hstep]
            by_cases e : a[p]! = x
            · rw [if_pos e]; split <;> omega
            · rw [if_neg e, if_neg (fun h => e h.1)]; omega
          omega
      have h3 := h2 L
      have : (if a[p]! ∈ L then (1 : Int) else 0) ≤ 1 := by split <;> omega
      omega

end Go.Proofs.Ytjjmlopmemmobaa.M
