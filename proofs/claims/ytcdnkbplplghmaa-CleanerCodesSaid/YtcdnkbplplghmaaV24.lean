/- Check, May, Encode, and the document's. -/
import Derived.Test.YtcdnkbplplghmaaV23
import Derived.Test.YtcdnkbplplghmaaFwW
import Derived.Test.YtcdnkbplplghmaaFwB
import Derived.Test.YtcdnkbplplghmaaMcod0
namespace Go.Proofs.Ytcdnkbplplghmaa.M
open Go.Proofs.Ytcdnkbplplghmaa.F Go.RowKit
set_option linter.unusedVariables false
set_option linter.unusedSimpArgs false
set_option maxRecDepth 100000
set_option maxHeartbeats 2000000
attribute [local irreducible] Res.cells Res.row Res.map Res.any World.cell? World.frozen? Instr.fieldAt Instr.loadAt Instr.storeAt Instr.indexAt Instr.lookup Instr.mapUpdate Instr.box Instr.build Instr.buildSlice Instr.extract Instr.alloc Instr.field Instr.index Instr.sliceAt Instr.makeSlice Instr.makeMap Instr.makeFunc binS Op.unary Sem.run
section
variable {w0 w : World} {F : List Nat} {L : List Res} {l : List Gt} {A : Option Addr} {c : Nat}
theorem check_ret (hm : l.length ≤ 100000) (hg : ∀ g ∈ l, GtS g) (hE : BG w0 F L A l) (hS : St w0 F w L) : Ret Try.prog 18 #[.slice A l.length c] w fun v w' => v = .int .i64 (if MayL l then 0 else 1) ∧ St w0 F w' L := by
  refine s18 _ ?_
  unfold m18
  unfold m18_0
  unfold m18_1
  refine builtin_ok (len22 _) ?_
  unfold m18_7
  refine loop_in (fun u w' => ∃ i : Nat, u = .int .i64 (i : Int) ∧ i ≤ l.length ∧ (∀ j (hj : j < l.length), j < i → MayG l[j]) ∧ St w0 F w' L) (fun u _ => l.length - (intOf u).toNat) ⟨0, rfl, by omega, fun j _ h => by omega, hS⟩ ?_
  clear hS
  rintro u w ⟨i, rfl, hi, hno, hS⟩
  unfold m18_8
  refine valP_ok (lss_ok _ _ _ _ _ _ _) ?_
  unfold m18_9
  refine cond_split (fun h => ?_) (fun h => ?_)
  · have hil : i < l.length := by omega
    have hgi := hg _ (List.getElem_mem hil)
    obtain ⟨gb, o, rfl⟩ := (hE.rd hS).some_ (by omega) (by omega)
    have p := g_at (hE.rd hS) hil
    unfold m18_10
    refine valP_ok (ix22 hil _) ?_
    refine valP_ok (ld40 p.1 p.2.1 p.2.2.1 p.2.2.2) ?_
    refine new_ok (al40 _) hS ?_
    intro b4 w hS
    first | refine ss40 0 hS rfl rfl rfl rfl rfl ?_ | refine ss40 1 hS rfl rfl rfl rfl rfl ?_ | refine ss40 2 hS rfl rfl rfl rfl rfl ?_ | refine ss40 3 hS rfl rfl rfl rfl rfl ?_ | refine ss40 4 hS rfl rfl rfl rfl rfl ?_ | refine ss40 5 hS rfl rfl rfl rfl rfl ?_ | refine ss40 6 hS rfl rfl rfl rfl rfl ?_ | refine ss40 7 hS rfl rfl rfl rfl rfl ?_
    intro w hS
    simp only [List.set_cons_zero, List.set_cons_succ] at hS
    unfold m18_12
    refine valP_ok (fa40_1 _ _) ?_
    refine valP_ok (ld38 (hS.cell 0 rfl rfl) (hS.cell 0 rfl rfl) (hS.cell 0 rfl rfl)) ?_
    refine callR (by kernel_rfl) (putrec_ret (r := l[i].r) hgi.1.1 hgi.1.2 hgi.2 hS) ?_
    rintro _ w ⟨rfl, hS⟩
    refine callR (by kernel_rfl) (takerec_ret hS) ?_
    rintro _ w ⟨rfl, hS⟩
    rw [recV_put hgi.1.1 hgi.1.2 (by have := hgi.2; omega)]
    have leaf : ∀ (K1 : Value → World → Prop), (MayG l[i] → ∀ w', St w0 F w' L → K1 (.int .i64 ((i + 1 : Nat) : Int)) w') → ∀ t : Bool, (t = true ↔ ¬ MayG l[i]) → ∀ w, St w0 F w L → m18_14 (fun v w' => v = .int .i64 (if MayL l then 0 else 1) ∧ St w0 F w' L) K1 (.slice (some ⟨gb, o, none⟩) l.length c) (.slice (some ⟨gb, o, none⟩) l.length c) (.int .i64 (l.length : Int)) (.int .i64 (i : Int)) (.bool t) w := fun K1 hK t ht w hS => by
      unfold m18_14
      cases t with
      | true =>
        refine cond_t rfl ?_
        unfold m18_15
        rw [if_neg (fun h => ht.1 rfl (h.1 _ (List.getElem_mem hil)))]
        exact ⟨rfl, hS⟩
      | false =>
        refine cond_f rfl ?_
        unfold m18_11
        refine valP_ok (add_ok _ _ _ (by omega) (by omega) _) ?_
        exact hK (Classical.byContradiction fun h => by have := ht.2 h; cases this) w hS
    have next : MayG l[i] → ∀ j (hj : j < l.length), j < i + 1 → MayG l[j] := fun hn j hj h3 => by
      rcases Nat.lt_or_ge j i with g | g
      · exact hno j hj g
      · obtain rfl : j = i := by omega
        exact hn
    by_cases hr : MayR l[i].r
    · rw [if_pos hr]
      refine valP_ok (extract_ok _ 0 rfl _) ?_
      refine valP_ok (extract_ok _ 1 rfl _) ?_
      refine valP_ok (extract_ok _ 2 rfl _) ?_
      refine new_ok (al38 _) hS ?_
      intro b5 w hS
      first | refine ss38 0 hS rfl rfl rfl rfl ?_ | refine ss38 1 hS rfl rfl rfl rfl ?_ | refine ss38 2 hS rfl rfl rfl rfl ?_ | refine ss38 3 hS rfl rfl rfl rfl ?_ | refine ss38 4 hS rfl rfl rfl rfl ?_ | refine ss38 5 hS rfl rfl rfl rfl ?_ | refine ss38 6 hS rfl rfl rfl rfl ?_ | refine ss38 7 hS rfl rfl rfl rfl ?_
      intro w hS
      simp only [List.set_cons_zero, List.set_cons_succ] at hS
      unfold m18_13
      refine valP_ok (ne42 _ _ _ _ _) ?_
      refine cond_df (by omega) ?_
      first | refine valP_ok (fa40_0 _ _) ?_ | refine valP_ok (fao40_0 _ _ _) ?_
      first | refine valP_ok (ld3 (hS.cell 0 rfl rfl)) ?_ | refine valP_ok (ld3 (hS.cell 1 rfl rfl)) ?_ | refine valP_ok (ld3 (hS.cell 2 rfl rfl)) ?_ | refine valP_ok (ld3 (hS.cell 3 rfl rfl)) ?_ | refine valP_ok (ld3 (hS.cell 4 rfl rfl)) ?_ | refine valP_ok (ld3 (hS.cell 5 rfl rfl)) ?_ | refine valP_ok (ld3 (hS.cell 6 rfl rfl)) ?_ | refine valP_ok (ld3 (hS.cell 7 rfl rfl)) ?_ | refine valP_ok (ld3 (by assumption)) ?_
      refine valP_ok (lss_ok _ _ _ _ _ _ _) ?_
      first | refine pick_dt (by first | assumption | omega) ?_ | refine pick_df (by first | assumption | omega) ?_ | refine pick_t (by first | rfl | assumption) ?_ | refine pick_f (by first | rfl | assumption) ?_ | refine pick_dt rfl ?_ | refine pick_df (not_not_intro rfl) ?_
      refine cond_split (fun h1 => ?_) (fun h1 => ?_)
      · first | refine pick_dt (by first | assumption | omega) ?_ | refine pick_df (by first | assumption | omega) ?_ | refine pick_t (by first | rfl | assumption) ?_ | refine pick_f (by first | rfl | assumption) ?_ | refine pick_dt rfl ?_ | refine pick_df (not_not_intro rfl) ?_
        refine leaf _ (fun hn w' hS => ⟨⟨i + 1, rfl, by omega, next hn, hS⟩, by simp [intOf]; omega⟩) _ ⟨fun _ h2 => ?_, fun _ => rfl⟩ _ hS.tail.tail
        unfold MayG InM at h2
        omega
      · first | refine valP_ok (fa40_0 _ _) ?_ | refine valP_ok (fao40_0 _ _ _) ?_
        first | refine valP_ok (ld3 (hS.cell 0 rfl rfl)) ?_ | refine valP_ok (ld3 (hS.cell 1 rfl rfl)) ?_ | refine valP_ok (ld3 (hS.cell 2 rfl rfl)) ?_ | refine valP_ok (ld3 (hS.cell 3 rfl rfl)) ?_ | refine valP_ok (ld3 (hS.cell 4 rfl rfl)) ?_ | refine valP_ok (ld3 (hS.cell 5 rfl rfl)) ?_ | refine valP_ok (ld3 (hS.cell 6 rfl rfl)) ?_ | refine valP_ok (ld3 (hS.cell 7 rfl rfl)) ?_ | refine valP_ok (ld3 (by assumption)) ?_
        refine valP_ok (gtr_ok _ _ _ _ _ _ _) ?_
        first | refine pick_dt (by first | assumption | omega) ?_ | refine pick_df (by first | assumption | omega) ?_ | refine pick_t (by first | rfl | assumption) ?_ | refine pick_f (by first | rfl | assumption) ?_ | refine pick_dt rfl ?_ | refine pick_df (not_not_intro rfl) ?_
        refine leaf _ (fun hn w' hS => ⟨⟨i + 1, rfl, by omega, next hn, hS⟩, by simp [intOf]; omega⟩) _ ?_ _ hS.tail.tail
        rw [decide_eq_true_eq]
        unfold MayG InM
        constructor
        · intro h2 h3
          omega
        · intro h2
          exact Classical.byContradiction fun h3 => h2 ⟨by omega, hr⟩
    · rw [if_neg hr]
      refine valP_ok (extract_ok _ 0 rfl _) ?_
      refine valP_ok (extract_ok _ 1 rfl _) ?_
      refine valP_ok (extract_ok _ 2 rfl _) ?_
      refine new_ok (al38 _) hS ?_
      intro b5 w hS
      first | refine ss38 0 hS rfl rfl rfl rfl ?_ | refine ss38 1 hS rfl rfl rfl rfl ?_ | refine ss38 2 hS rfl rfl rfl rfl ?_ | refine ss38 3 hS rfl rfl rfl rfl ?_ | refine ss38 4 hS rfl rfl rfl rfl ?_ | refine ss38 5 hS rfl rfl rfl rfl ?_ | refine ss38 6 hS rfl rfl rfl rfl ?_ | refine ss38 7 hS rfl rfl rfl rfl ?_
      intro w hS
      simp only [List.set_cons_zero, List.set_cons_succ] at hS
      unfold m18_13
      refine valP_ok (ne42 _ _ _ _ _) ?_
      refine cond_dt (by omega) ?_
      first | refine pick_dt (by first | assumption | omega) ?_ | refine pick_df (by first | assumption | omega) ?_ | refine pick_t (by first | rfl | assumption) ?_ | refine pick_f (by first | rfl | assumption) ?_ | refine pick_dt rfl ?_ | refine pick_df (not_not_intro rfl) ?_
      refine cond_t rfl ?_
      first | refine pick_dt (by first | assumption | omega) ?_ | refine pick_df (by first | assumption | omega) ?_ | refine pick_t (by first | rfl | assumption) ?_ | refine pick_f (by first | rfl | assumption) ?_ | refine pick_dt rfl ?_ | refine pick_df (not_not_intro rfl) ?_
      exact leaf _ (fun hn w' hS => ⟨⟨i + 1, rfl, by omega, next hn, hS⟩, by simp [intOf]; omega⟩) _ ⟨fun _ h => hr h.2, fun _ => rfl⟩ _ hS.tail.tail
  · obtain rfl : i = l.length := by omega
    have hall : ∀ g ∈ l, MayG g := fun g hg => by
      obtain ⟨j, hj, rfl⟩ := List.mem_iff_getElem.1 hg
      exact hno j hj hj
    unfold m18_2
    refine builtin_ok (len22 _) ?_
    refine valP_ok (gtr_ok _ _ _ _ _ _ _) ?_
    unfold m18_5
    refine cond_split (fun h1 => ?_) (fun h1 => ?_)
    · unfold m18_6
      rw [if_neg (fun h => by have := h.2; omega)]
      exact ⟨rfl, hS⟩
    · unfold m18_3 m18_4
      rw [if_pos ⟨hall, by omega⟩]
      exact ⟨rfl, hS⟩
theorem rmay_ret (hm : l.length ≤ 100000) (hE : BG w0 F L A l) (hS : St w0 F w L) : Ret Try.prog 36 #[.slice A l.length c] w fun v w' => v = .bool (decide (MayL l)) ∧ St w0 F w' L := by
  refine s36 _ ?_
  unfold m36 m36_0 m36_1 m36_4
  refine loop_in (fun u w' => ∃ i : Nat, u = .int .i64 (i : Int) ∧ i ≤ l.length ∧ (∀ j (hj : j < l.length), j < i → MayG l[j]) ∧ St w0 F w' L) (fun u _ => l.length - (intOf u).toNat) ⟨0, rfl, by omega, fun j _ h => by omega, hS⟩ ?_
  clear hS
  rintro u w ⟨i, rfl, hi, hno, hS⟩
  unfold m36_5
  refine builtin_ok (len22 _) ?_
  refine valP_ok (lss_ok _ _ _ _ _ _ _) ?_
  unfold m36_10
  refine cond_split (fun h => ?_) (fun h => ?_)
  · have hil : i < l.length := by omega
    obtain ⟨gb, o, rfl⟩ := (hE.rd hS).some_ (by omega) (by omega)
    have p := g_at (hE.rd hS) hil
    have leaf : ∀ (K1 : Value → World → Prop), (MayG l[i] → ∀ w', St w0 F w' L → K1 (.int .i64 ((i + 1 : Nat) : Int)) w') → ∀ t : Bool, (t = true ↔ ¬ MayG l[i]) → ∀ w, St w0 F w L → m36_8 (fun v w' => v = .bool (decide (MayL l)) ∧ St w0 F w' L) K1 (.slice (some ⟨gb, o, none⟩) l.length c) (.int .i64 (i : Int)) (.bool t) w := fun K1 hK t ht w hS => by
      unfold m36_8
      cases t with
      | true =>
        refine cond_t rfl ?_
        unfold m36_9
        exact ⟨congrArg Value.bool (decide_eq_false (fun h => ht.1 rfl (h.1 _ (List.getElem_mem hil)))).symm, hS⟩
      | false =>
        refine cond_f rfl ?_
        unfold m36_7
        refine valP_ok (add_ok _ _ _ (by omega) (by omega) _) ?_
        exact hK (Classical.byContradiction fun h => by have := ht.2 h; cases this) w hS
    have next : MayG l[i] → ∀ j (hj : j < l.length), j < i + 1 → MayG l[j] := fun hn j hj h3 => by
      rcases Nat.lt_or_ge j i with g | g
      · exact hno j hj g
      · obtain rfl : j = i := by omega
        exact hn
    have fin : ∀ w, St w0 F w L → ∀ K1, (MayG l[i] → ∀ w', St w0 F w' L → K1 (.int .i64 ((i + 1 : Nat) : Int)) w') → InM l[i].off → ∀ t : Bool, (t = true ↔ MayR l[i].r) → m36_8 (fun v w' => v = .bool (decide (MayL l)) ∧ St w0 F w' L) K1 (.slice (some ⟨gb, o, none⟩) l.length c) (.int .i64 (i : Int)) (.bool (!t)) w := fun w hS K1 hK ho t ht => by
      refine leaf K1 hK _ ?_ w hS
      cases t with
      | true => exact ⟨fun h => (by cases h), fun h => absurd ⟨ho, ht.1 rfl⟩ h⟩
      | false => exact ⟨fun _ h => (by have := ht.2 h.2; cases this), fun _ => rfl⟩
    unfold m36_6
    refine valP_ok (ix22 hil _) ?_
    refine valP_ok (fao40_0 _ _ _) ?_
    refine valP_ok (ld3 p.1) ?_
    refine valP_ok (lss_ok _ _ _ _ _ _ _) ?_
    refine cond_split (fun h1 => ?_) (fun h1 => ?_)
    · first | refine pick_dt (by first | assumption | omega) ?_ | refine pick_df (by first | assumption | omega) ?_ | refine pick_t (by first | rfl | assumption) ?_ | refine pick_f (by first | rfl | assumption) ?_ | refine pick_dt rfl ?_ | refine pick_df (not_not_intro rfl) ?_
      refine cond_t rfl ?_
      first | refine pick_dt (by first | assumption | omega) ?_ | refine pick_df (by first | assumption | omega) ?_ | refine pick_t (by first | rfl | assumption) ?_ | refine pick_f (by first | rfl | assumption) ?_ | refine pick_dt rfl ?_ | refine pick_df (not_not_intro rfl) ?_
      refine leaf _ (fun hn w' hS => ⟨⟨i + 1, rfl, by omega, next hn, hS⟩, by simp [intOf]; omega⟩) _ ⟨fun _ h2 => ?_, fun _ => rfl⟩ _ hS
      unfold MayG InM at h2
      omega
    · refine valP_ok (ix22 hil _) ?_
      refine valP_ok (fao40_0 _ _ _) ?_
      refine valP_ok (ld3 p.1) ?_
      refine valP_ok (gtr_ok _ _ _ _ _ _ _) ?_
      first | refine pick_dt (by first | assumption | omega) ?_ | refine pick_df (by first | assumption | omega) ?_ | refine pick_t (by first | rfl | assumption) ?_ | refine pick_f (by first | rfl | assumption) ?_ | refine pick_dt rfl ?_ | refine pick_df (not_not_intro rfl) ?_
      refine cond_split (fun h2 => ?_) (fun h2 => ?_)
      · first | refine pick_dt (by first | assumption | omega) ?_ | refine pick_df (by first | assumption | omega) ?_ | refine pick_t (by first | rfl | assumption) ?_ | refine pick_f (by first | rfl | assumption) ?_ | refine pick_dt rfl ?_ | refine pick_df (not_not_intro rfl) ?_
        refine leaf _ (fun hn w' hS => ⟨⟨i + 1, rfl, by omega, next hn, hS⟩, by simp [intOf]; omega⟩) _ ⟨fun _ h2 => ?_, fun _ => rfl⟩ _ hS
        unfold MayG InM at h2
        omega
      · refine valP_ok (ix22 hil _) ?_
        refine valP_ok (fao40_1 _ _ _) ?_
        refine valP_ok (ld38 p.2.1 p.2.2.1 p.2.2.2) ?_
        refine callR (by kernel_rfl) (mayrec_ret (r := l[i].r) hS) ?_
        rintro _ w ⟨⟨t, rfl, ht⟩, hS⟩
        first | refine valP_ok (not_ok _ _) ?_ | refine valP_ok (notb_ok _ _) ?_
        first | refine pick_dt (by first | assumption | omega) ?_ | refine pick_df (by first | assumption | omega) ?_ | refine pick_t (by first | rfl | assumption) ?_ | refine pick_f (by first | rfl | assumption) ?_ | refine pick_dt rfl ?_ | refine pick_df (not_not_intro rfl) ?_
        exact fin _ hS _ (fun hn w' hS => ⟨⟨i + 1, rfl, by omega, next hn, hS⟩, by simp [intOf]; omega⟩) ⟨by omega, by omega⟩ t ht
  · obtain rfl : i = l.length := by omega
    have hall : ∀ g ∈ l, MayG g := fun g hg => by
      obtain ⟨j, hj, rfl⟩ := List.mem_iff_getElem.1 hg
      exact hno j hj hj
    unfold m36_2
    refine builtin_ok (len22 _) ?_
    refine valP_ok (leq_ok _ _ _ _ _ _ _) ?_
    unfold m36_3
    refine ⟨congrArg Value.bool (decide_eq_decide.2 ?_), hS⟩
    unfold MayL
    exact ⟨fun h => ⟨hall, by omega⟩, fun h => by have := h.2; omega⟩
end

end Go.Proofs.Ytcdnkbplplghmaa.M
