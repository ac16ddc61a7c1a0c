/- The members of a list: sorted, each once, above 0. -/
import Derived.WalkKit
import Derived.Lib.SlicesCompact
import Derived.Lib.RowBridge
import GoSem.Claim
namespace Go.Proofs.Ytjjmlopmemmobaa.L
open Go.RowKit
set_option linter.unusedVariables false
set_option linter.unusedSimpArgs false

/-! ### The members: sorted, each once, above 0 -/
open Go.Lib in
theorem compact_inv (d : Array Int) (hd : ∀ i j, i ≤ j → j < d.size → d[i]! ≤ d[j]!) : ∀ m, m ≤ d.size → (compactUpTo d m).Pairwise (· < ·) ∧ ∀ x, x ∈ compactUpTo d m ↔ ∃ j, j < m ∧ d[j]! = x := by
  intro m
  induction m with
  | zero => intro _; exact ⟨by simp [compactUpTo], fun x => by simp [compactUpTo]⟩
  | succ m ih =>
    intro hm
    obtain ⟨h1, h2⟩ := ih (by omega)
    rw [compactUpTo_succ]
    by_cases hk : keeps d m = true
    · rw [if_pos hk]
      refine ⟨?_, fun x => ?_⟩
      · rw [List.pairwise_append]
        refine ⟨h1, List.pairwise_singleton _ _, fun x hx y hy => ?_⟩
        rw [List.mem_singleton] at hy
        obtain ⟨j, hj, rfl⟩ := (h2 x).1 hx
        have hne : d[m]! ≠ d[m - 1]! := by
          unfold keeps at hk
          simp at hk
          rcases hk with hk | hk
          · omega
          · exact hk
        have a := hd j (m - 1) (by omega) (by omega)
        have b := hd (m - 1) m (by omega) (by omega)
        rw [hy]; omega
      · rw [List.mem_append, h2, List.mem_singleton]
        constructor
        · rintro (⟨j, hj, e⟩ | e)
          · exact ⟨j, by omega, e⟩
          · exact ⟨m, by omega, e.symm⟩
        · rintro ⟨j, hj, e⟩
          by_cases c : j = m
          · exact .inr (by rw [← e, c])
          · exact .inl ⟨j, by omega, e⟩
    · rw [if_neg hk, List.append_nil]
      refine ⟨h1, fun x => ?_⟩
      rw [h2]
      have he : m ≠ 0 ∧ d[m]! = d[m - 1]! := by
        unfold keeps at hk
        simp at hk
        exact hk
      constructor
      · rintro ⟨j, hj, e⟩; exact ⟨j, by omega, e⟩
      · rintro ⟨j, hj, e⟩
        by_cases c : j = m
        · exact ⟨m - 1, by omega, by rw [← he.2, ← c, e]⟩
        · exact ⟨j, by omega, e⟩
/-- The members of a list. -/
def membersL (l : List Int) : List Int := Lib.compact ((l.mergeSort fun x y => decide (x ≤ y)).filter fun x => !decide (x ≤ 0))
theorem membersL_spec (l : List Int) : (membersL l).Pairwise (· < ·) ∧ ∀ x, x ∈ membersL l ↔ x ∈ l ∧ 0 < x := by
  have hs : (l.mergeSort fun x y => decide (x ≤ y)).Pairwise (fun a b => decide (a ≤ b) = true) :=
    List.pairwise_mergeSort (fun a b c h1 h2 => by simp only [decide_eq_true_eq] at *; omega) (fun a b => by simp only [Bool.or_eq_true, decide_eq_true_eq]; omega) l
  have hf := hs.sublist (List.filter_sublist (p := fun x => !decide (x ≤ 0)))
  unfold membersL Lib.compact
  generalize hg : (l.mergeSort fun x y => decide (x ≤ y)).filter (fun x => !decide (x ≤ 0)) = g at hf ⊢
  have hmem : ∀ x, x ∈ g ↔ x ∈ l ∧ 0 < x := fun x => by
    rw [← hg, List.mem_filter, List.mem_mergeSort]
    simp
  have hd : ∀ i j, i ≤ j → j < g.toArray.size → g.toArray[i]! ≤ g.toArray[j]! := fun i j hij hj => by
    have hj' : j < g.length := hj
    rw [getElem!_pos g.toArray i (by show i < g.length; omega), getElem!_pos g.toArray j hj]
    show g[i] ≤ g[j]
    rcases Nat.lt_or_ge i j with c | c
    · have := List.pairwise_iff_getElem.1 hf i j (by omega) hj' c
      exact of_decide_eq_true this
    · have : i = j := by omega
      subst this; exact Int.le_refl _
  obtain ⟨h1, h2⟩ := compact_inv g.toArray hd g.length (Nat.le_refl _)
  refine ⟨h1, fun x => ?_⟩
  rw [h2, ← hmem]
  constructor
  · rintro ⟨j, hj, rfl⟩
    rw [getElem!_pos g.toArray j hj]; exact List.getElem_mem _
  · intro hx
    obtain ⟨j, hj, e⟩ := List.getElem_of_mem hx
    exact ⟨j, hj, by rw [getElem!_pos g.toArray j hj]; exact e⟩
theorem sorted_unique : ∀ (a b : List Int), a.Pairwise (· < ·) → b.Pairwise (· < ·) → (∀ x, x ∈ a ↔ x ∈ b) → a = b
  | [], [], _, _, _ => rfl
  | [], y :: b, _, _, h => absurd ((h y).2 (List.mem_cons_self ..)) (List.not_mem_nil)
  | x :: a, [], _, _, h => absurd ((h x).1 (List.mem_cons_self ..)) (List.not_mem_nil)
  | x :: a, y :: b, ha, hb, h => by
    rw [List.pairwise_cons] at ha hb
    have e : x = y := by
      rcases List.mem_cons.1 ((h x).1 (List.mem_cons_self ..)) with c | c
      · exact c
      · rcases List.mem_cons.1 ((h y).2 (List.mem_cons_self ..)) with c2 | c2
        · exact c2.symm
        · have := ha.1 y c2; have := hb.1 x c; omega
    subst e
    congr 1
    refine sorted_unique a b ha.2 hb.2 fun z => ?_
    constructor
    · intro hz
      rcases List.mem_cons.1 ((h z).1 (List.mem_cons_of_mem _ hz)) with c | c
      · subst c; exact absurd (ha.1 z hz) (by omega)
      · exact c
    · intro hz
      rcases List.mem_cons.1 ((h z).2 (List.mem_cons_of_mem _ hz)) with c | c
      · subst c; exact absurd (hb.1 z hz) (by omega)
      · exact c
theorem membersL_of {l a : List Int} (hp : a.Pairwise (· < ·)) (hm : ∀ x, x ∈ a ↔ x ∈ l ∧ 0 < x) : membersL l = a :=
  sorted_unique _ _ (membersL_spec l).1 hp fun x => by rw [(membersL_spec l).2, hm]
theorem membersL_len (l : List Int) : (membersL l).length ≤ l.length := by
  unfold membersL
  exact Nat.le_trans (Lib.compact_length_le _) (Nat.le_trans (List.length_filter_le _ _) (by rw [List.length_mergeSort]; exact Nat.le_refl _))
end Go.Proofs.Ytjjmlopmemmobaa.L
