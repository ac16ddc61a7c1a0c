/- What is true of tallies behind keys. -/
import Derived.Test.YtcfdalmnhgiaeaaX7
namespace Go.Proofs.Ytcfdalmnhgiaeaa.M
open Go.Proofs.Ytcfdalmnhgiaeaa.F Go.RowKit
set_option linter.unusedVariables false
set_option linter.unusedSimpArgs false
set_option maxRecDepth 100000
set_option maxHeartbeats 2000000
attribute [local irreducible] Res.cells Res.row Res.map Res.any World.cell? World.frozen? Instr.fieldAt Instr.loadAt Instr.storeAt Instr.indexAt Instr.lookup Instr.mapUpdate Instr.box Instr.build Instr.buildSlice Instr.extract Instr.alloc Instr.field Instr.index Instr.sliceAt Instr.makeSlice Instr.makeMap Instr.makeFunc binS Op.unary Sem.run
theorem lightI_lt (a b : Ta) : lightI a b < 0 ↔ (a.n < b.n ∨ (a.n = b.n ∧ a.key < b.key)) := by
  unfold lightI cmpI
  simp only [orI]
  by_cases h1 : a.n < b.n
  · simp [h1]
  · by_cases h2 : b.n < a.n
    · simp [h1, h2]; omega
    · by_cases h3 : a.key < b.key
      · simp [h1, h2, h3]; omega
      · by_cases h4 : b.key < a.key <;> simp [h1, h2, h3, h4]
theorem lightUp_min {l : List Ta} : ∀ i, i ≤ l.length → ∀ j, j < i → (l[lightUp l i]!).n ≤ (l[j]!).n
  | 0, _, j, hj => absurd hj (Nat.not_lt_zero _)
  | i + 1, hi, j, hj => by
    have ih := lightUp_min (l := l) i (by omega)
    unfold lightUp
    split
    · rename_i h
      rw [lightI_lt] at h
      by_cases e : j = i
      · subst e; omega
      · have := ih j (by omega); omega
    · rename_i h
      rw [lightI_lt] at h
      by_cases e : j = i
      · subst e; omega
      · exact ih j (by omega)
theorem light_min {l : List Ta} (h : 0 < l.length) {t : Ta} (ht : t ∈ l) : (l[lightIx l]'(lightIx_lt h)).n ≤ t.n := by
  obtain ⟨j, hj, rfl⟩ := List.mem_iff_getElem.1 ht
  have := lightUp_min (l := l) l.length (Nat.le_refl _) j hj
  rwa [getElem!_pos l j hj, show lightUp l l.length = lightIx l from rfl, getElem!_pos l _ (lightIx_lt h)] at this
theorem tm_snoc (ks : List Int) (key q : Int) : tm (ks ++ [key]) q = tm ks q + if key = q then 1 else 0 := by
  unfold tm
  rw [List.count_append]
  by_cases h : key = q <;> simp [h]
def kindsR : List Int → Nat
  | [] => 0
  | a :: r => if r.count a = 0 then kindsR r + 1 else kindsR r
/-- How many keys there are. -/
def kinds (ks : List Int) : Nat := kindsR ks.reverse
theorem kinds_snoc (ks : List Int) (key : Int) : kinds (ks ++ [key]) = if ks.count key = 0 then kinds ks + 1 else kinds ks := by
  unfold kinds
  rw [List.reverse_append]
  show kindsR (key :: ks.reverse) = _
  rw [kindsR, List.count_reverse]
theorem kinds_take {ks : List Int} {i : Nat} (hi : i < ks.length) : kinds (ks.take (i + 1)) = if tm (ks.take i) ks[i] = 0 then kinds (ks.take i) + 1 else kinds (ks.take i) := by
  rw [List.take_succ_eq_append_getElem hi, kinds_snoc]
  by_cases h : (ks.take i).count ks[i] = 0
  · rw [if_pos h, if_pos (by unfold tm; omega)]
  · rw [if_neg h, if_neg (by unfold tm; omega)]
abbrev sumN (l : List Ta) : Int := (l.map Ta.n).sum
theorem sumN_set : ∀ (l : List Ta) (i : Nat) (hi : i < l.length) (x : Ta), sumN (l.set i x) = sumN l - l[i].n + x.n
  | [], i, hi, _ => absurd hi (Nat.not_lt_zero _)
  | a :: l, 0, _, x => by simp [sumN]; omega
  | a :: l, i + 1, hi, x => by
    have := sumN_set l i (by simpa using hi) x
    simp [sumN] at this ⊢
    omega
theorem mem_set_cases {l : List Ta} {i : Nat} {x t : Ta} (h : t ∈ l.set i x) : t = x ∨ ∃ j, ∃ hj : j < l.length, j ≠ i ∧ t = l[j] := by
  obtain ⟨j, hj, rfl⟩ := List.mem_iff_getElem.1 h
  rw [List.getElem_set]
  rw [List.length_set] at hj
  by_cases e : i = j
  · exact .inl (by rw [if_pos e])
  · exact .inr ⟨j, hj, fun h => e h.symm, by rw [if_neg e]⟩
theorem mem_of_set {l : List Ta} {i j : Nat} {x : Ta} (hj : j < l.length) (h : j ≠ i) : l[j] ∈ l.set i x :=
  List.mem_iff_getElem.2 ⟨j, by rw [List.length_set]; exact hj, by rw [List.getElem_set, if_neg (fun e => h e.symm)]⟩
theorem self_mem_set {l : List Ta} {i : Nat} {x : Ta} (hi : i < l.length) : x ∈ l.set i x :=
  List.mem_iff_getElem.2 ⟨i, by rw [List.length_set]; exact hi, by rw [List.getElem_set, if_pos rfl]⟩
/-- What is true behind keys. -/
structure Inv (k : Int) (ks : List Int) (l : List Ta) : Prop where
  lo : ∀ t ∈ l, t.n - t.over ≤ tm ks t.key ∧ tm ks t.key ≤ t.n
  out0 : (l.length : Int) < k → ∀ q, (∀ t ∈ l, t.key ≠ q) → tm ks q = 0
  out1 : ∀ q, (∀ t ∈ l, t.key ≠ q) → ∀ t ∈ l, tm ks q ≤ t.n
  sum : sumN l = ks.length
  ov : ∀ t ∈ l, ∀ u ∈ l, t.over ≤ u.n
  few : (l.length : Int) < k → ∀ t ∈ l, t.over = 0 ∧ 1 ≤ t.n
  kin0 : (l.length : Int) < k → l.length = kinds ks
  kin1 : l.length ≤ kinds ks
theorem Inv.nil {k : Int} : Inv k [] [] := ⟨by simp, by simp [tm], by simp, by simp [sumN], by simp, by simp, fun _ => rfl, Nat.zero_le _⟩
theorem Inv.step {k n : Int} {ks : List Int} {l : List Ta} (hok : HOk k n l) (h : Inv k ks l) (key : Int) : Inv k (ks ++ [key]) (addOne k l key) := by
  have hkin : kinds ks ≤ kinds (ks ++ [key]) := by rw [kinds_snoc]; split <;> omega
  have hpos : ∀ q, 0 ≤ tm ks q := fun q => by unfold tm; omega
  have hkd := List.pairwise_iff_getElem.1 hok.keys
  unfold addOne
  split
  · rename_i i hi
    obtain ⟨hlt, hkey, _⟩ := List.findIdx?_eq_some_iff_getElem.1 hi
    have hkey : l[i].key = key := by simpa using hkey
    rw [getElem!_pos l i hlt]
    have hmi := List.getElem_mem hlt
    have hother : ∀ j (hj : j < l.length), j ≠ i → l[j].key ≠ key := fun j hj hne => by
      rw [← hkey]
      rcases Nat.lt_or_ge j i with c | c
      · exact hkd j i hj hlt c
      · exact fun e => hkd i j hlt hj (by omega) e.symm
    have hall : ∀ q, (∀ t ∈ l.set i ⟨l[i].key, l[i].n + 1, l[i].over⟩, t.key ≠ q) → ∀ t ∈ l, t.key ≠ q := fun q hq t ht => by
      obtain ⟨j, hj, rfl⟩ := List.mem_iff_getElem.1 ht
      by_cases e : j = i
      · subst e; exact hq ⟨l[j].key, l[j].n + 1, l[j].over⟩ (self_mem_set hlt)
      · exact hq _ (mem_of_set hj e)
    have hnq : ∀ q, (∀ t ∈ l, t.key ≠ q) → key ≠ q := fun q hq e => hq _ hmi (hkey.trans e)
    refine ⟨fun t ht => ?_, fun hf q hq => ?_, fun q hq t ht => ?_, ?_, fun t ht u hu => ?_, fun hf t ht => ?_, fun hf => ?_, ?_⟩
    · rw [tm_snoc]
      rcases mem_set_cases ht with rfl | ⟨j, hj, hne, rfl⟩
      · have := h.lo _ hmi
        simp only
        rw [if_pos hkey.symm]
        omega
      · rw [if_neg (fun e => hother j hj hne e.symm)]
        have := h.lo _ (List.getElem_mem hj)
        omega
    · rw [List.length_set] at hf
      rw [tm_snoc, if_neg (hnq q (hall q hq)), h.out0 hf q (hall q hq)]; rfl
    · rw [tm_snoc, if_neg (hnq q (hall q hq))]
      rcases mem_set_cases ht with rfl | ⟨j, hj, hne, rfl⟩
      · have := h.out1 q (hall q hq) _ hmi
        simp only; omega
      · have := h.out1 q (hall q hq) _ (List.getElem_mem hj)
        omega
    · rw [sumN_set l i hlt, h.sum]; simp; omega
    · have hu' : ∃ u' ∈ l, u'.n ≤ u.n := by
        rcases mem_set_cases hu with rfl | ⟨j, hj, hne, rfl⟩
        · exact ⟨_, hmi, by simp only; omega⟩
        · exact ⟨_, List.getElem_mem hj, Int.le_refl _⟩
      obtain ⟨u', hu', hle⟩ := hu'
      rcases mem_set_cases ht with rfl | ⟨j, hj, hne, rfl⟩
      · have := h.ov _ hmi _ hu'; simp only; omega
      · have := h.ov _ (List.getElem_mem hj) _ hu'; omega
    · rw [List.length_set] at hf
      rcases mem_set_cases ht with rfl | ⟨j, hj, hne, rfl⟩
      · have := h.few hf _ hmi; simp only; omega
      · exact h.few hf _ (List.getElem_mem hj)
    · rw [List.length_set] at hf ⊢
      have h1 := h.few hf _ hmi
      have h2 := h.lo _ hmi
      rw [kinds_snoc, if_neg (by rw [hkey] at h2; unfold tm at h2; omega)]
      exact h.kin0 hf
    · rw [List.length_set]; have := h.kin1; omega
  · rename_i hnf
    have hno : ∀ t ∈ l, t.key ≠ key := fun t ht => by simpa using List.findIdx?_eq_none_iff.1 hnf t ht
    split
    · rename_i hroom
      have h0 := h.out0 hroom key hno
      have hsub : ∀ q, (∀ t ∈ l ++ [(⟨key, 1, 0⟩ : Ta)], t.key ≠ q) → (∀ t ∈ l, t.key ≠ q) ∧ key ≠ q := fun q hq => ⟨fun t ht => hq t (List.mem_append_left _ ht), hq _ (List.mem_append_right _ (.head _))⟩
      have hk : kinds (ks ++ [key]) = kinds ks + 1 := by rw [kinds_snoc, if_pos (by unfold tm at h0; omega)]
      refine ⟨fun t ht => ?_, fun hf q hq => ?_, fun q hq t ht => ?_, ?_, fun t ht u hu => ?_, fun hf t ht => ?_, fun hf => ?_, ?_⟩
      · rw [tm_snoc]
        rcases List.mem_append.1 ht with ht | ht
        · rw [if_neg (fun e => hno t ht e.symm)]
          have := h.lo t ht; omega
        · obtain rfl := List.mem_singleton.1 ht
          simp [h0]
      · obtain ⟨h1, h2⟩ := hsub q hq
        rw [tm_snoc, if_neg h2, h.out0 hroom q h1]; rfl
      · obtain ⟨h1, h2⟩ := hsub q hq
        rw [tm_snoc, if_neg h2, h.out0 hroom q h1]
        rcases List.mem_append.1 ht with ht | ht
        · have := h.few hroom t ht; omega
        · obtain rfl := List.mem_singleton.1 ht
          simp only; omega
      · have := h.sum
        unfold sumN at *
        simp [this]
      · have ho : ∀ t ∈ l ++ [(⟨key, 1, 0⟩ : Ta)], t.over = 0 ∧ 1 ≤ t.n := fun t ht => by
          rcases List.mem_append.1 ht with ht | ht
          · exact h.few hroom t ht
          · obtain rfl := List.mem_singleton.1 ht
            simp
        have := ho t ht; have := ho u hu; omega
      · rcases List.mem_append.1 ht with ht | ht
        · exact h.few hroom t ht
        · obtain rfl := List.mem_singleton.1 ht
          simp
      · rw [hk, List.length_append, ← h.kin0 hroom]; rfl
      · rw [hk, List.length_append]; have := h.kin1; simp; omega
    · rename_i hroom
      have hl0 : 0 < l.length := by have := hok.most1; omega
      have hlt := lightIx_lt hl0
      have hmin : ∀ t ∈ l, (l[lightIx l]'hlt).n ≤ t.n := fun t ht => light_min (t := t) hl0 ht
      rw [getElem!_pos l _ hlt]
      have hmi := List.getElem_mem hlt
      generalize lightIx l = m at hlt hmin hmi ⊢
      have hx := hok.each _ hmi
      have hnoq : ∀ q, (∀ t ∈ l.set m ⟨key, l[m].n + 1, l[m].n⟩, t.key ≠ q) → key ≠ q ∧ tm ks q ≤ l[m].n := fun q hq => by
        refine ⟨hq _ (self_mem_set hlt), ?_⟩
        by_cases e : l[m].key = q
        · rw [← e]; exact (h.lo _ hmi).2
        · refine h.out1 q (fun t ht => ?_) _ hmi
          obtain ⟨j, hj, rfl⟩ := List.mem_iff_getElem.1 ht
          by_cases e' : j = m
          · subst e'; exact e
          · exact hq _ (mem_of_set hj e')
      refine ⟨fun t ht => ?_, fun hf q hq => ?_, fun q hq t ht => ?_, ?_, fun t ht u hu => ?_, fun hf t ht => ?_, fun hf => ?_, ?_⟩
      · rw [tm_snoc]
        rcases mem_set_cases ht with rfl | ⟨j, hj, hne, rfl⟩
        · have := h.out1 key hno _ hmi
          have := hpos key
          simp only [if_true]
          omega
        · rw [if_neg (fun e => hno _ (List.getElem_mem hj) e.symm)]
          have := h.lo _ (List.getElem_mem hj); omega
      · rw [List.length_set] at hf; omega
      · obtain ⟨h1, h2⟩ := hnoq q hq
        rw [tm_snoc, if_neg h1]
        rcases mem_set_cases ht with rfl | ⟨j, hj, hne, rfl⟩
        · simp only; omega
        · have := hmin _ (List.getElem_mem hj); omega
      · rw [sumN_set l m hlt, h.sum]; simp; omega
      · have hu' : l[m].n ≤ u.n := by
          rcases mem_set_cases hu with rfl | ⟨j, hj, hne, rfl⟩
          · simp only; omega
          · exact hmin _ (List.getElem_mem hj)
        rcases mem_set_cases ht with rfl | ⟨j, hj, hne, rfl⟩
        · exact hu'
        · have := h.ov _ (List.getElem_mem hj) _ hmi; omega
      · rw [List.length_set] at hf; omega
      · rw [List.length_set] at hf; omega
      · rw [List.length_set]; have := h.kin1; omega
theorem addAll_snoc (k : Int) (l : List Ta) (ks : List Int) (key : Int) : addAll k l (ks ++ [key]) = addOne k (addAll k l ks) key := by unfold addAll; rw [List.foldl_append]; rfl
theorem inv_all {k : Int} (h1 : 1 ≤ k) (h2 : k ≤ 64) (ks : List Int) (hl : ks.length ≤ 1000000) : Inv k ks (addAll k [] ks) := by
  have : ∀ r : List Int, r.length ≤ 1000000 → Inv k r.reverse (addAll k [] r.reverse) := fun r => by
    induction r with
    | nil => intro _; exact Inv.nil
    | cons a r ih =>
      intro hr
      rw [List.reverse_cons, addAll_snoc]
      simp only [List.length_cons] at hr
      exact Inv.step (n := 0 + r.reverse.length) ((HOk.start h1 h2).all _ (by rw [List.length_reverse]; omega)) (ih (by omega)) a
  have := this ks.reverse (by rw [List.length_reverse]; exact hl)
  rwa [List.reverse_reverse] at this
theorem count_bounds {k : Int} {ks : List Int} {l : List Ta} (hk : 1 ≤ k) (h : Inv k ks l) (key : Int) : (countI k l key).1 ≤ tm ks key ∧ tm ks key ≤ (countI k l key).2 := by
  unfold countI
  have h0 : 0 ≤ tm ks key := by unfold tm; omega
  split
  · rename_i i hi
    obtain ⟨hlt, hkey, _⟩ := List.findIdx?_eq_some_iff_getElem.1 hi
    have hkey : l[i].key = key := by simpa using hkey
    rw [getElem!_pos l i hlt]
    have := h.lo _ (List.getElem_mem hlt)
    rwa [hkey] at this
  · rename_i hnf
    have hno : ∀ t ∈ l, t.key ≠ key := fun t ht => by simpa using List.findIdx?_eq_none_iff.1 hnf t ht
    split
    · rename_i hroom
      rw [h.out0 hroom key hno]; exact ⟨Int.le_refl _, Int.le_refl _⟩
    · have hlt := lightIx_lt (l := l) (by omega)
      rw [getElem!_pos l _ hlt]
      exact ⟨h0, h.out1 key hno _ (List.getElem_mem hlt)⟩
theorem count_of_mem {k n : Int} {l : List Ta} (hok : HOk k n l) {t : Ta} (ht : t ∈ l) : countI k l t.key = (t.n - t.over, t.n) := by
  obtain ⟨j, hj, rfl⟩ := List.mem_iff_getElem.1 ht
  have hkd := List.pairwise_iff_getElem.1 hok.keys
  unfold countI
  rw [List.findIdx?_eq_some_iff_getElem.2 ⟨hj, by simp, fun q hq => by simpa using hkd q j (by omega) hj hq⟩]
  simp only
  rw [getElem!_pos l j hj]

end Go.Proofs.Ytcfdalmnhgiaeaa.M
