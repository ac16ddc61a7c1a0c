/- What coop.New, Join, Leave, Revoke, Done come to. -/
import Derived.Test.YtjjmlopmemmobaaC4
namespace Go.Proofs.Ytjjmlopmemmobaa.M
open Go.Proofs.Ytjjmlopmemmobaa.F Go.RowKit
set_option linter.unusedVariables false
set_option linter.unusedSimpArgs false
set_option maxRecDepth 100000
set_option maxHeartbeats 2000000
attribute [local irreducible] Res.cells Res.row Res.map Res.any World.cell? World.frozen? Instr.fieldAt Instr.loadAt Instr.storeAt Instr.indexAt Instr.lookup Instr.mapUpdate Instr.box Instr.build Instr.buildSlice Instr.extract Instr.alloc Instr.field Instr.index Instr.sliceAt Instr.makeSlice Instr.makeMap Instr.makeFunc binS Op.unary Sem.run
open Go.Proofs.Ytjjmlopmemmobaa.L Go.Shelf
theorem new_ret {w0 w : World} {F : List Nat} {L : List Res} {parts : Int} (hp : -9223372036854775808 ≤ parts) (hp' : parts ≤ 9223372036854775807) (hS : St w0 F w L) :
    Ret Try.prog 26 #[.int .i64 parts] w fun v w' => if 1 ≤ parts ∧ parts ≤ 16 then ∃ b X, v = .tuple #[.pointer (some ⟨b, 0, none⟩), .int .i64 0] ∧ St w0 F w' (coopL 94 b ⟨0, [], List.replicate parts.toNat 0, List.replicate parts.toNat 0⟩ X ++ L)
      else v = .tuple #[.pointer none, .int .i64 1] ∧ St w0 F w' L := by
  refine s26 _ ?_
  unfold m26
  unfold m26_0
  unfold m26_1
  refine valP_ok (lss_ok _ _ _ _ _ _ _) ?_
  refine cond_split (fun h => ?_) (fun h => ?_)
  · first | refine pick_dt (by first | assumption | omega) ?_ | refine pick_df (by first | assumption | omega) ?_ | refine pick_t (by first | rfl | assumption) ?_ | refine pick_f (by first | rfl | assumption) ?_ | refine pick_dt rfl ?_ | refine pick_df (not_not_intro rfl) ?_
    unfold m26_4
    refine cond_t rfl ?_
    unfold m26_5
    show ite _ _ _
    rw [if_neg (by omega)]
    exact ⟨rfl, hS⟩
  · refine valP_ok (gtr_ok _ _ _ _ _ _ _) ?_
    first | refine pick_dt (by first | assumption | omega) ?_ | refine pick_df (by first | assumption | omega) ?_ | refine pick_t (by first | rfl | assumption) ?_ | refine pick_f (by first | rfl | assumption) ?_ | refine pick_dt rfl ?_ | refine pick_df (not_not_intro rfl) ?_
    unfold m26_4
    refine cond_split (fun h2 => ?_) (fun h2 => ?_)
    · unfold m26_5
      show ite _ _ _
      rw [if_neg (by omega)]
      exact ⟨rfl, hS⟩
    · show m26_2 _ _ _
      have ep : (Value.int .i64 parts) = Value.int .i64 ((parts.toNat : Nat) : Int) := by rw [Int.toNat_of_nonneg (by omega)]
      have hrl : (List.replicate parts.toNat (0 : Int)).length = parts.toNat := by simp
      have fin : ∀ (b1 b2 : Nat) (w : World), St w0 F w (Res.row 3 1 (.slice (some ⟨b1, 0, none⟩) parts.toNat parts.toNat) parts.toNat (madeCells (Value.int .i64 0).cells (parts.toNat * 1)).toList :: Res.row 3 1 (.slice (some ⟨b2, 0, none⟩) parts.toNat parts.toNat) parts.toNat (madeCells (Value.int .i64 0).cells (parts.toNat * 1)).toList :: L) →
          ∀ b3 w', St w0 F w' (Res.cells b3 94 [.int .i64 0, .slice none 0 0, .slice (some ⟨b1, 0, none⟩) parts.toNat parts.toNat, .slice (some ⟨b2, 0, none⟩) parts.toNat parts.toNat] :: Res.row 3 1 (.slice (some ⟨b1, 0, none⟩) parts.toNat parts.toNat) parts.toNat (madeCells (Value.int .i64 0).cells (parts.toNat * 1)).toList :: Res.row 3 1 (.slice (some ⟨b2, 0, none⟩) parts.toNat parts.toNat) parts.toNat (madeCells (Value.int .i64 0).cells (parts.toNat * 1)).toList :: L) →
          St w0 F w' (coopL 94 b3 ⟨0, [], List.replicate parts.toNat 0, List.replicate parts.toNat 0⟩ ⟨none, 0, some ⟨b1, 0, none⟩, parts.toNat, some ⟨b2, 0, none⟩, parts.toNat⟩ ++ L) := fun b1 b2 w _ b3 w' hS => by
        rw [zero_cells] at hS
        have h1 := (hS.row_nil 3 1).pick 4 [1, 0, 2, 3] (by simp) (by decide)
        show St w0 F w' ([_, _, _, _] ++ L)
        simp only [coopC, irow, hrl]
        exact h1
      unfold m26_2
      refine drawn_ok hS ?_
      intro w hS
      rw [ep]
      refine ⟨?_, ?_⟩
      · refine make_ok sl28 hS (by omega) (by unfold maxLen; omega) ?_
        intro b1 w hS
        refine make_ok sl28 hS (by omega) (by unfold maxLen; omega) ?_
        intro b2 w hS
        have hS := hS.pick 2 [1, 0] (by simp) (by decide)
        refine pureP_ok (bd94_2_3 rfl rfl) ?_
        refine new_ok (bx94 _ _ _ _ _) hS ?_
        intro b3 w' hS'
        unfold m26_3
        show ite _ _ _
        rw [if_pos (by omega)]
        exact ⟨b3, _, rfl, fin b1 b2 w hS b3 w' hS'⟩
      · refine make_ok sl28 hS (by omega) (by unfold maxLen; omega) ?_
        intro b2 w hS
        refine make_ok sl28 hS (by omega) (by unfold maxLen; omega) ?_
        intro b1 w hS
        refine pureP_ok (bd94_2_3 rfl rfl) ?_
        refine new_ok (bx94 _ _ _ _ _) hS ?_
        intro b3 w' hS'
        unfold m26_3
        show ite _ _ _
        rw [if_pos (by omega)]
        exact ⟨b3, _, rfl, fin b1 b2 w hS b3 w' hS'⟩
/-- Whom a coop has when some more are to be in; or why they may not be. -/
def addL : List Int → List Int → Int × List Int
  | M, [] => (0, M)
  | M, m :: l => if m < 1 ∨ 1099511627776 < m then (1, M) else if m ∈ M then (9, M) else addL (M ++ [m]) l
def sortL (l : List Int) : List Int := l.mergeSort fun x y => decide (x ≤ y)
def joinF (s : CS) (r : Int × List Int) : Int × CS := if r.1 ≠ 0 then (r.1, s) else if 8 < r.2.length then (5, s) else (0, turned { s with M := sortL r.2 })
def joinS (s : CS) (l : List Int) : Int × CS := if l = [] then (1, s) else joinF s (addL s.M l)
theorem addL_cons (M : List Int) (m : Int) (l : List Int) : addL M (m :: l) = if m < 1 ∨ 1099511627776 < m then (1, M) else if m ∈ M then (9, M) else addL (M ++ [m]) l := rfl
theorem addL_ok {l : List Int} : ∀ {M : List Int}, (addL M l).1 = 0 → (addL M l).2 = M ++ l ∧ (∀ x ∈ l, 1 ≤ x ∧ x ≤ 1099511627776) ∧ (∀ x ∈ l, x ∉ M) ∧ l.Pairwise (· ≠ ·) := by
  induction l with
  | nil => intro M _; simp [addL]
  | cons m l ih =>
    intro M h
    unfold addL at h ⊢
    split at h
    · cases h
    · rename_i hr
      split at h
      · cases h
      · rename_i hm
        rw [if_neg hr, if_neg hm]
        obtain ⟨h1, h2, h3, h4⟩ := ih h
        refine ⟨by rw [h1]; simp, fun x hx => ?_, fun x hx hM => ?_, List.pairwise_cons.2 ⟨fun x hx he => ?_, h4⟩⟩
        · rcases List.mem_cons.1 hx with rfl | hx
          · omega
          · exact h2 x hx
        · rcases List.mem_cons.1 hx with rfl | hx
          · exact hm hM
          · exact h3 x hx (List.mem_append_left _ hM)
        · exact h3 x hx (List.mem_append_right _ (by simp [he]))
theorem addL_len (l : List Int) : ∀ (M : List Int), (addL M l).2.length ≤ M.length + l.length := by
  induction l with
  | nil => intro M; simp [addL]
  | cons m l ih =>
    intro M
    unfold addL
    split
    · simp
    · split
      · simp
      · have := ih (M ++ [m])
        simp at this ⊢
        omega
theorem sortL_rise {M : List Int} (h : M.Pairwise (· ≠ ·)) : (sortL M).Pairwise (· < ·) := by
  have h1 : (sortL M).Pairwise (fun a b => decide (a ≤ b) = true) := List.pairwise_mergeSort (fun a b c h1 h2 => by simp only [decide_eq_true_eq] at *; omega) (fun a b => by simp only [Bool.or_eq_true, decide_eq_true_eq]; omega) M
  have h2 : (sortL M).Pairwise (· ≠ ·) := ((List.mergeSort_perm M _).pairwise_iff (fun h e => h e.symm)).2 h
  exact h1.imp₂ (fun a b h1 h2 => by simp only [decide_eq_true_eq] at h1; omega) h2
theorem sortL_mem {M : List Int} {x : Int} : x ∈ sortL M ↔ x ∈ M := List.mem_mergeSort
theorem sortL_len (M : List Int) : (sortL M).length = M.length := List.length_mergeSort _
theorem add_pre {s : CS} {l : List Int} (hs : CPre s) (h : (addL s.M l).1 = 0) (h8 : ¬ 8 < (addL s.M l).2.length) : CPre { s with M := sortL (addL s.M l).2 } := by
  obtain ⟨h1, h2, h3, h4⟩ := addL_ok h
  have hne : s.M.Pairwise (· ≠ ·) := hs.rise.imp fun h e => by omega
  refine ⟨sortL_rise ?_, by rw [sortL_len]; omega, fun x hx => ?_, hs.parts, hs.same, hs.bH, hs.bW, hs.g0⟩
  · rw [h1]
    exact List.pairwise_append.2 ⟨hne, h4, fun a ha b hb e => h3 b hb (e ▸ ha)⟩
  · rw [sortL_mem, h1] at hx
    rcases List.mem_append.1 hx with hx | hx
    · exact hs.each x hx
    · exact h2 x hx

end Go.Proofs.Ytjjmlopmemmobaa.M
