/- A key is counted. -/
import Derived.Test.YtcfdalmnhgiaeaaX1
namespace Go.Proofs.Ytcfdalmnhgiaeaa.M
open Go.Proofs.Ytcfdalmnhgiaeaa.F Go.RowKit
set_option linter.unusedVariables false
set_option linter.unusedSimpArgs false
set_option maxRecDepth 100000
set_option maxHeartbeats 2000000
attribute [local irreducible] Res.cells Res.row Res.map Res.any World.cell? World.frozen? Instr.fieldAt Instr.loadAt Instr.storeAt Instr.indexAt Instr.lookup Instr.mapUpdate Instr.box Instr.build Instr.buildSlice Instr.extract Instr.alloc Instr.field Instr.index Instr.sliceAt Instr.makeSlice Instr.makeMap Instr.makeFunc binS Op.unary Sem.run
theorem findI_cases (l : List Ta) (key : Int) : (∃ i, ∃ hi : i < l.length, findI l key = (i : Int) ∧ l[i].key = key ∧ ∀ j (hj : j < l.length), j < i → l[j].key ≠ key) ∨ (findI l key = -1 ∧ ∀ j (hj : j < l.length), l[j].key ≠ key) := by
  unfold findI
  cases h : l.findIdx? (fun t => t.key = key) with
  | some i =>
    obtain ⟨hi, h1, h2⟩ := List.findIdx?_eq_some_iff_getElem.1 h
    exact .inl ⟨i, hi, rfl, by simpa using h1, fun j hj hji => by simpa using h2 j hji⟩
  | none => exact .inr ⟨rfl, fun j hj => by simpa using List.findIdx?_eq_none_iff.1 h l[j] (List.getElem_mem hj)⟩
/-- What is true of one that counts. -/
structure HOk (most n : Int) (l : List Ta) : Prop where
  most1 : 1 ≤ most
  most2 : most ≤ 64
  len : (l.length : Int) ≤ most
  n1 : 0 ≤ n
  n2 : n ≤ 1099511627776
  each : ∀ t ∈ l, 0 ≤ t.n ∧ t.n ≤ n ∧ 0 ≤ t.over ∧ t.over ≤ t.n
  keys : l.Pairwise fun a b => a.key ≠ b.key
/-- A key is counted. -/
def addOne (most : Int) (l : List Ta) (key : Int) : List Ta :=
  match l.findIdx? (fun t => t.key = key) with
  | some i => l.set i ⟨l[i]!.key, l[i]!.n + 1, l[i]!.over⟩
  | none => if (l.length : Int) < most then l ++ [⟨key, 1, 0⟩] else l.set (lightIx l) ⟨key, l[lightIx l]!.n + 1, l[lightIx l]!.n⟩
def addAll (most : Int) (l : List Ta) (keys : List Int) : List Ta := keys.foldl (addOne most) l
theorem lightIx_lt {l : List Ta} (h : 0 < l.length) : lightIx l < l.length := by rcases lightUp_lt l l.length with h' | h' <;> unfold lightIx <;> omega
theorem keys_set {l : List Ta} (h : l.Pairwise fun a b => a.key ≠ b.key) (i : Nat) (t : Ta) (ht : ∀ j (hj : j < l.length), j ≠ i → l[j].key ≠ t.key) : (l.set i t).Pairwise fun a b => a.key ≠ b.key := by
  rw [List.pairwise_iff_getElem] at h ⊢
  intro j k hj hk hjk
  rw [List.length_set] at hj hk
  rw [List.getElem_set, List.getElem_set]
  by_cases e1 : i = j
  · rw [if_pos e1, if_neg (by omega)]
    exact fun e => ht k hk (by omega) e.symm
  · by_cases e2 : i = k
    · rw [if_neg e1, if_pos e2]
      exact ht j hj (by omega)
    · rw [if_neg e1, if_neg e2]
      exact h j k hj hk hjk
theorem HOk.one {most n : Int} {l : List Ta} (h : HOk most n l) (hn : n < 1099511627776) (key : Int) : HOk most (n + 1) (addOne most l key) := by
  obtain ⟨h1, h2, h3, h4, h5, h6, h7⟩ := h
  have up : ∀ t ∈ l, 0 ≤ t.n ∧ t.n ≤ n + 1 ∧ 0 ≤ t.over ∧ t.over ≤ t.n := fun t ht => by have := h6 t ht; omega
  unfold addOne
  split
  · rename_i i hi
    obtain ⟨hlt, _, _⟩ := List.findIdx?_eq_some_iff_getElem.1 hi
    have hm := h6 l[i] (List.getElem_mem hlt)
    refine ⟨h1, h2, by simpa using h3, by omega, by omega, fun t ht => ?_, keys_set h7 i _ fun j hj hne => ?_⟩
    · rcases List.mem_or_eq_of_mem_set ht with ht | rfl
      · exact up t ht
      · rw [getElem!_pos l i hlt]
        simp only
        omega
    · rw [getElem!_pos l i hlt]
      rw [List.pairwise_iff_getElem] at h7
      rcases Nat.lt_or_ge j i with c | c
      · exact h7 j i hj hlt c
      · exact fun e => h7 i j hlt hj (by omega) e.symm
  · rename_i hnf
    have hno : ∀ t ∈ l, t.key ≠ key := fun t ht => by simpa using List.findIdx?_eq_none_iff.1 hnf t ht
    split
    · refine ⟨h1, h2, by simp; omega, by omega, by omega, fun t ht => ?_, ?_⟩
      · rcases List.mem_append.1 ht with ht | ht
        · exact up t ht
        · obtain rfl := List.mem_singleton.1 ht
          simp only
          omega
      · refine List.pairwise_append.2 ⟨h7, by simp, fun a ha b hb => ?_⟩
        obtain rfl := List.mem_singleton.1 hb
        exact hno a ha
    · have hlt : lightIx l < l.length := lightIx_lt (by omega)
      have hm := h6 _ (List.getElem_mem hlt)
      refine ⟨h1, h2, by simpa using h3, by omega, by omega, fun t ht => ?_, keys_set h7 _ _ fun j hj _ => hno _ (List.getElem_mem hj)⟩
      rcases List.mem_or_eq_of_mem_set ht with ht | rfl
      · exact up t ht
      · rw [getElem!_pos l _ hlt]
        simp only
        omega
theorem store45_row {w0 w : World} {F : List Nat} {L : List Res} {g c i : Nat} {l : List Ta} {K : Value → World → Prop} (k : Nat) (hS : St w0 F w L) (hk : L[k]? = some (hrow (.slice (some ⟨g, 0, none⟩) l.length c) l)) (hi : i < l.length) (t : Ta)
    (h : ∀ w', St w0 F w' (L.set k (hrow (.slice (some ⟨g, 0, none⟩) (l.set i t).length c) (l.set i t))) → K undef w') : unitP Try.prog (Instr.storeAt 45 (.pointer (some ⟨g, i * 3, none⟩)) (.agg #[.int .i64 t.key, .int .i64 t.n, .int .i64 t.over])) w K := by
  obtain ⟨h0, h1, h2⟩ := tally_at k hS hk hi
  have hlen : (l.flatMap encT).length = l.length * 3 := flat_len encT 3 encT_len l
  obtain ⟨hkl, _⟩ := List.getElem?_eq_some_iff.1 hk
  have hf := fun j => hS.row_frozen (j := j) k hk
  refine unitP_ok (st45 h0 h1 h2 (hf _) rfl (hf _) rfl (hf _) rfl) (h _ ?_)
  have s1 := hS.row_set (j := i * 3) k (.int .i64 t.key) hk (by rw [hlen]; omega)
  have s2 := s1.row_set (j := i * 3 + 1) k (.int .i64 t.n) (by rw [List.getElem?_set_self hkl]) (by rw [List.length_set, hlen]; omega)
  have s3 := s2.row_set (j := i * 3 + 2) k (.int .i64 t.over) (by rw [List.getElem?_set_self (by rw [List.length_set]; exact hkl)]) (by rw [List.length_set, List.length_set, hlen]; omega)
  simp only [List.set_set] at s3
  have e1 := flat_set encT 3 encT_len l i 0 hi (.int .i64 t.key) ⟨t.key, l[i].n, l[i].over⟩ (by omega) rfl
  have e2 := flat_set encT 3 encT_len (l.set i ⟨t.key, l[i].n, l[i].over⟩) i 1 (by simpa using hi) (.int .i64 t.n) ⟨t.key, t.n, l[i].over⟩ (by omega) (by simp [encT])
  have e3 := flat_set encT 3 encT_len (l.set i ⟨t.key, t.n, l[i].over⟩) i 2 (by simpa using hi) (.int .i64 t.over) t (by omega) (by simp [encT])
  rw [Nat.add_zero] at e1
  rw [List.set_set] at e2 e3
  rw [e1, e2, e3] at s3
  rw [List.length_set]
  unfold hrow
  rw [List.length_set]
  exact s3

end Go.Proofs.Ytcfdalmnhgiaeaa.M
