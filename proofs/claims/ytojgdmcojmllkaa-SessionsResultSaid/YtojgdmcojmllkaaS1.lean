/- Events, sessions; comparisons; the base functions. -/
import Derived.Test.YtojgdmcojmllkaaR
import Derived.Test.YtojgdmcojmllkaaMlib0
import Derived.Test.YtojgdmcojmllkaaMbase0
import Derived.Test.YtojgdmcojmllkaaFwT
import Derived.Test.YtojgdmcojmllkaaFwS
import Derived.Test.YtojgdmcojmllkaaGen
namespace Go.Proofs.Ytojgdmcojmllkaa.M
open Go.Proofs.Ytojgdmcojmllkaa.F Go.RowKit
set_option linter.unusedVariables false
set_option linter.unusedSimpArgs false
set_option maxRecDepth 100000
set_option maxHeartbeats 2000000
attribute [local irreducible] Res.cells Res.row Res.map Res.any World.cell? World.frozen? Instr.fieldAt Instr.loadAt Instr.storeAt Instr.indexAt Instr.lookup Instr.mapUpdate Instr.box Instr.build Instr.buildSlice Instr.extract Instr.alloc Instr.field Instr.index Instr.sliceAt Instr.makeSlice Instr.makeMap Instr.makeFunc binS Op.unary Sem.run
def cmpI (a b : Int) : Int := if a < b then -1 else if b < a then 1 else 0
theorem isnan_ret (a : Int) (w : World) : Ret Try.prog 58 #[.int .i64 a] w fun v w' => v = .bool false ∧ w' = w := by
  refine s58 _ ?_
  unfold m58
  unfold m58_0
  unfold m58_1
  refine valP_ok (ne3 _ _ _ _ _) ?_
  unfold m58_2
  exact ⟨by simp, rfl⟩
theorem compare_ret (a b : Int) (w : World) : Ret Try.prog 48 #[.int .i64 a, .int .i64 b] w fun v w' => v = .int .i64 (cmpI a b) ∧ w' = w := by
  refine s48 _ _ ?_
  unfold m48 m48_0
  unfold m48_1
  refine callR (by kernel_rfl) (isnan_ret _ _) ?_
  rintro v w ⟨rfl, rfl⟩
  unfold m48_2
  refine callR (by kernel_rfl) (isnan_ret _ _) ?_
  rintro v w ⟨rfl, rfl⟩
  unfold m48_3 m48_15
  refine cond_f rfl ?_
  unfold m48_4 m48_13
  refine cond_f rfl ?_
  unfold m48_5
  refine valP_ok (lss_ok _ _ _ _ _ _ _) ?_
  unfold m48_11
  first | refine cond_split (fun hc0 => ?_) (fun hc0 => ?_) | refine cond_bsplit (fun hc0 => ?_) (fun hc0 => ?_)
  · unfold m48_12
    exact ⟨by unfold cmpI; first | (rw [if_pos (by assumption)]; done) | (rw [if_neg (by assumption), if_pos (by assumption)]; done) | rw [if_neg (by assumption), if_neg (by assumption)], rfl⟩
  · unfold m48_6
    refine valP_ok (gtr_ok _ _ _ _ _ _ _) ?_
    unfold m48_9
    first | refine cond_split (fun hc1 => ?_) (fun hc1 => ?_) | refine cond_bsplit (fun hc1 => ?_) (fun hc1 => ?_)
    · unfold m48_10
      exact ⟨by unfold cmpI; first | (rw [if_pos (by assumption)]; done) | (rw [if_neg (by assumption), if_pos (by assumption)]; done) | rw [if_neg (by assumption), if_neg (by assumption)], rfl⟩
    · unfold m48_7
      unfold m48_8
      exact ⟨by unfold cmpI; first | (rw [if_pos (by assumption)]; done) | (rw [if_neg (by assumption), if_pos (by assumption)]; done) | rw [if_neg (by assumption), if_neg (by assumption)], rfl⟩
/-- The first number that is not 0. -/
def orI : List Int → Int
  | [] => 0
  | a :: l => if a = 0 then orI l else a
theorem orI_drop {l : List Int} : ∀ {i : Nat} (hi : i < l.length), (∀ j (hj : j < l.length), j < i → l[j] = 0) → l[i] ≠ 0 → orI l = l[i] := by
  induction l with
  | nil => intro i hi; simp at hi
  | cons a l ih =>
    intro i hi hz hne
    cases i with
    | zero => simp only [List.getElem_cons_zero] at hne ⊢; unfold orI; rw [if_neg hne]
    | succ i =>
      have h0 := hz 0 (by simp) (by omega)
      simp only [List.getElem_cons_zero] at h0
      unfold orI
      rw [if_pos h0]
      simp only [List.getElem_cons_succ] at hne ⊢
      exact ih (by simpa using hi) (fun j hj hji => by have := hz (j + 1) (by simpa using hj) (by omega); simpa using this) hne
theorem orI_zero {l : List Int} (hz : ∀ j (hj : j < l.length), l[j] = 0) : orI l = 0 := by
  induction l with
  | nil => rfl
  | cons a l ih =>
    have h0 := hz 0 (by simp)
    simp only [List.getElem_cons_zero] at h0
    unfold orI
    rw [if_pos h0]
    exact ih fun j hj => by have := hz (j + 1) (by simpa using hj); simpa using this
theorem or_ret (A : Option Addr) (c : Nat) (l : List Int) (w : World) (hr : Rd w 1 A l.length (ints l)) (hl : l.length ≤ 1000000) : Ret Try.prog 47 #[.slice A l.length c] w fun v w' => v = .int .i64 (orI l) ∧ w' = w := by
  refine s47 _ ?_
  unfold m47 m47_0
  unfold m47_1
  unfold m47_2
  refine builtin_ok (len90 _) ?_
  unfold m47_5
  refine loop_in (fun s w' => ∃ i : Nat, s = .int .i64 i ∧ i ≤ l.length ∧ w' = w ∧ ∀ j (hj : j < l.length), j < i → l[j] = 0) (fun s _ => l.length - (intOf s).toNat) ⟨0, rfl, by omega, rfl, fun _ _ h => by omega⟩ ?_
  rintro s w' ⟨i, rfl, hi, rfl, hz⟩
  unfold m47_6
  refine valP_ok (lss_ok _ _ _ _ _ _ _) ?_
  unfold m47_7
  refine cond_split (fun h => ?_) (fun h => ?_)
  · have hlt : i < l.length := by omega
    obtain ⟨g, o, rfl⟩ := hr.some_ (by omega) (by omega)
    have hc := hr.cell_ (ints_get hlt)
    unfold m47_8
    refine valP_ok (ix90 hlt _) ?_
    first | refine valP_ok (ld3 (hS.cell 0 rfl rfl)) ?_ | refine valP_ok (ld3 (hS.cell 1 rfl rfl)) ?_ | refine valP_ok (ld3 (hS.cell 2 rfl rfl)) ?_ | refine valP_ok (ld3 (hS.cell 3 rfl rfl)) ?_ | refine valP_ok (ld3 (hS.cell 4 rfl rfl)) ?_ | refine valP_ok (ld3 (hS.cell 5 rfl rfl)) ?_ | refine valP_ok (ld3 (hS.cell 6 rfl rfl)) ?_ | refine valP_ok (ld3 (hS.cell 7 rfl rfl)) ?_ | refine valP_ok (ld3 (by assumption)) ?_
    unfold m47_10
    refine valP_ok (ne3 _ _ _ _ _) ?_
    unfold m47_11
    refine cond_split (fun hn => ?_) (fun hn => ?_)
    · unfold m47_12
      exact ⟨by rw [orI_drop hlt hz hn], rfl⟩
    · unfold m47_9
      refine valP_ok (add_ok _ _ _ (by omega) (by omega) _) ?_
      refine ⟨⟨i + 1, rfl, by omega, rfl, fun j hj hji => ?_⟩, by simp [intOf]; omega⟩
      by_cases e : j = i
      · subst e; exact Decidable.not_not.1 hn
      · exact hz j hj (by omega)
  · unfold m47_3 m47_4
    exact ⟨by rw [orI_zero fun j hj => hz j hj (by omega)], rfl⟩

end Go.Proofs.Ytojgdmcojmllkaa.M
