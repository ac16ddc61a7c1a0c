/- What the document's Leave, Revoke, Done come to. -/
import Derived.Test.YtjjmlopmemmobaaC9
namespace Go.Proofs.Ytjjmlopmemmobaa.M
open Go.Proofs.Ytjjmlopmemmobaa.F Go.RowKit
set_option linter.unusedVariables false
set_option linter.unusedSimpArgs false
set_option maxRecDepth 100000
set_option maxHeartbeats 2000000
attribute [local irreducible] Res.cells Res.row Res.map Res.any World.cell? World.frozen? Instr.fieldAt Instr.loadAt Instr.storeAt Instr.indexAt Instr.lookup Instr.mapUpdate Instr.box Instr.build Instr.buildSlice Instr.extract Instr.alloc Instr.field Instr.index Instr.sliceAt Instr.makeSlice Instr.makeMap Instr.makeFunc binS Op.unary Sem.run
open Go.Proofs.Ytjjmlopmemmobaa.L Go.Shelf
theorem rleave_ret {w0 w : World} {F : List Nat} {L : List Res} {b : Nat} {s : CS} {X : CA} (m : Int) (hs : CPre s) (hS : St w0 F w (coopL 55 b s X ++ L)) :
    Ret Try.prog 30 #[.pointer (some ⟨b, 0, none⟩), .int .i64 m] w (rjoinQ w0 F L b (leaveS s m)) := by
  have hM8 := hs.len
  refine s30 _ _ ?_
  unfold m30
  unfold m30_0
  unfold m30_1
  refine callR (by kernel_rfl) (ris_ret (by omega) hS m) ?_
  rintro v w ⟨rfl, rfl⟩
  first | refine valP_ok (not_ok _ _) ?_ | refine valP_ok (notb_ok _ _) ?_
  unfold m30_14
  unfold leaveS
  refine cond_split (fun h => ?_) (fun h => ?_)
  · rw [if_neg h]
    unfold m30_15
    exact ⟨rfl, X, hS⟩
  rw [if_pos (Decidable.not_not.1 h)]
  unfold m30_2
  have hS := hS.row_nil 3 1
  unfold m30_3
  unfold m30_8
  refine loop_in (fun u w' => ∃ (p : Nat) (A : Option Addr) (c : Nat), u = (.slice A ((s.M.take p).filter fun x => !decide (x = m)).length c, .int .i64 p) ∧ p ≤ s.M.length ∧ St w0 F w' (irow (.slice A ((s.M.take p).filter fun x => !decide (x = m)).length c) ((s.M.take p).filter fun x => !decide (x = m)) :: (coopL 55 b s X ++ L))) (fun u _ => s.M.length - (intOf u.2).toNat)
    ⟨0, none, 0, rfl, by omega, hS⟩ ?_
  clear hS
  rintro u w ⟨p, A, c, rfl, hp, hS⟩
  unfold m30_9
  refine nil_ok ?_
  first | refine valP_ok (fa55_1 _ _) ?_ | refine valP_ok (fao55_1 _ _ _) ?_
  first | refine valP_ok (ld28 (hS.cell 0 rfl rfl)) ?_ | refine valP_ok (ld28 (hS.cell 1 rfl rfl)) ?_ | refine valP_ok (ld28 (hS.cell 2 rfl rfl)) ?_ | refine valP_ok (ld28 (hS.cell 3 rfl rfl)) ?_ | refine valP_ok (ld28 (hS.cell 4 rfl rfl)) ?_ | refine valP_ok (ld28 (by assumption)) ?_
  refine builtin_ok (len28 _) ?_
  refine valP_ok (lss_ok _ _ _ _ _ _ _) ?_
  unfold m30_13
  refine cond_split (fun h => ?_) (fun h => ?_)
  · have hlt : p < s.M.length := by omega
    obtain ⟨g, hg⟩ := hS.row_ptr 2 rfl (by omega)
    obtain ⟨xm, cm, hh, ch, q, cq⟩ := X
    simp only at hg
    subst hg
    have hc := hS.row_cell 2 rfl (ints_get hlt)
    have htk : (s.M.take (p + 1)).filter (fun x => !decide (x = m)) = (s.M.take p).filter (fun x => !decide (x = m)) ++ (if s.M[p] = m then [] else [s.M[p]]) := by
      rw [List.take_succ_eq_append_getElem hlt, List.filter_append]
      congr 1
      by_cases e : s.M[p] = m <;> simp [e]
    have htl : ((s.M.take p).filter fun x => !decide (x = m)).length ≤ 8 := by
      have := List.length_filter_le (fun x => !decide (x = m)) (s.M.take p)
      rw [List.length_take] at this
      omega
    unfold m30_10
    refine nil_ok ?_
    first | refine valP_ok (fa55_1 _ _) ?_ | refine valP_ok (fao55_1 _ _ _) ?_
    first | refine valP_ok (ld28 (hS.cell 0 rfl rfl)) ?_ | refine valP_ok (ld28 (hS.cell 1 rfl rfl)) ?_ | refine valP_ok (ld28 (hS.cell 2 rfl rfl)) ?_ | refine valP_ok (ld28 (hS.cell 3 rfl rfl)) ?_ | refine valP_ok (ld28 (hS.cell 4 rfl rfl)) ?_ | refine valP_ok (ld28 (by assumption)) ?_
    first | refine valP_ok (ixz28 (by first | assumption | omega) _) ?_ | refine valP_ok (ix28 (by first | assumption | omega) _) ?_
    first | refine valP_ok (ld3 (hS.cell 0 rfl rfl)) ?_ | refine valP_ok (ld3 (hS.cell 1 rfl rfl)) ?_ | refine valP_ok (ld3 (hS.cell 2 rfl rfl)) ?_ | refine valP_ok (ld3 (hS.cell 3 rfl rfl)) ?_ | refine valP_ok (ld3 (hS.cell 4 rfl rfl)) ?_ | refine valP_ok (ld3 (by assumption)) ?_
    refine valP_ok (ne3 _ _ _ _ _) ?_
    unfold m30_12
    refine cond_split (fun e => ?_) (fun e => ?_)
    · rw [if_neg e] at htk
      refine nil_ok ?_
      first | refine valP_ok (fa55_1 _ _) ?_ | refine valP_ok (fao55_1 _ _ _) ?_
      first | refine valP_ok (ld28 (hS.cell 0 rfl rfl)) ?_ | refine valP_ok (ld28 (hS.cell 1 rfl rfl)) ?_ | refine valP_ok (ld28 (hS.cell 2 rfl rfl)) ?_ | refine valP_ok (ld28 (hS.cell 3 rfl rfl)) ?_ | refine valP_ok (ld28 (hS.cell 4 rfl rfl)) ?_ | refine valP_ok (ld28 (by assumption)) ?_
      first | refine valP_ok (ixz28 (by first | assumption | omega) _) ?_ | refine valP_ok (ix28 (by first | assumption | omega) _) ?_
      first | refine valP_ok (ld3 (hS.cell 0 rfl rfl)) ?_ | refine valP_ok (ld3 (hS.cell 1 rfl rfl)) ?_ | refine valP_ok (ld3 (hS.cell 2 rfl rfl)) ?_ | refine valP_ok (ld3 (hS.cell 3 rfl rfl)) ?_ | refine valP_ok (ld3 (hS.cell 4 rfl rfl)) ?_ | refine valP_ok (ld3 (by assumption)) ?_
      refine newslice_ok (bs28_1 rfl _) hS ?_
      intro b37 w hS
      refine append_one 0 (by omega) hS rfl ?_
      intro A2 c2 w' hS
      simp only [List.set_cons_zero] at hS
      unfold m30_11
      refine valP_ok (add_ok _ _ _ (by omega) (by omega) _) ?_
      exact ⟨⟨p + 1, A2, c2, by rw [htk]; rfl, by omega, by rw [htk]; exact hS⟩, by simp [intOf]; omega⟩
    · rw [if_pos (Decidable.not_not.1 e), List.append_nil] at htk
      unfold m30_11
      refine valP_ok (add_ok _ _ _ (by omega) (by omega) _) ?_
      exact ⟨⟨p + 1, A, c, by rw [htk]; rfl, by omega, by rw [htk]; exact hS⟩, by simp [intOf]; omega⟩
  · have hpe : p = s.M.length := by omega
    subst hpe
    rw [List.take_length] at hS ⊢
    unfold m30_4
    refine nil_ok ?_
    first | refine valP_ok (fa55_1 _ _) ?_ | refine valP_ok (fao55_1 _ _ _) ?_
    first | refine store_at 0 st28 hS rfl (by simp) rfl ?_ | refine store_at 1 st28 hS rfl (by simp) rfl ?_ | refine store_at 2 st28 hS rfl (by simp) rfl ?_ | refine store_at 3 st28 hS rfl (by simp) rfl ?_ | refine store_at 4 st28 hS rfl (by simp) rfl ?_
    intro w hS
    simp only [List.set_cons_zero, List.set_cons_succ] at hS
    have hS : St w0 F w (coopL 55 b { s with M := s.M.filter fun x => !decide (x = m) } ⟨A, c, X.h, X.ch, X.q, X.cq⟩ ++ L) := hS.pick 5 [1, 0, 3, 4] (by simp) (by decide)
    unfold m30_5
    refine callR (by kernel_rfl) (begin_ret (leave_pre hs m) hS) ?_
    rintro v w ⟨X', hS⟩
    unfold m30_6 m30_7
    exact ⟨rfl, X', hS⟩
theorem rrevoke_ret {w0 w : World} {F : List Nat} {L : List Res} {b : Nat} {s : CS} {X : CA} (m : Int) (hs : CPre s) (hS : St w0 F w (coopL 55 b s X ++ L)) :
    Ret Try.prog 31 #[.pointer (some ⟨b, 0, none⟩), .int .i64 m] w fun v w' => ∃ A c, v = .tuple #[.slice A (revL s m).length c, .int .i64 (if m ∈ s.M then 0 else 11)] ∧ St w0 F w' (irow (.slice A (revL s m).length c) (revL s m) :: (coopL 55 b s X ++ L)) := by
  have hM8 := hs.len
  have hp := hs.parts
  have hsame := hs.same
  refine s31 _ _ ?_
  unfold m31
  unfold m31_0
  unfold m31_1
  refine callR (by kernel_rfl) (ris_ret (by omega) hS m) ?_
  rintro v w ⟨rfl, rfl⟩
  first | refine valP_ok (not_ok _ _) ?_ | refine valP_ok (notb_ok _ _) ?_
  unfold m31_12
  unfold revL
  refine cond_split (fun h => ?_) (fun h => ?_)
  · rw [if_neg h, if_neg h]
    unfold m31_13
    exact ⟨none, 0, rfl, hS.row_nil 3 1⟩
  have h := Decidable.not_not.1 h
  rw [if_pos h, if_pos h]
  unfold m31_2
  have hS := hS.row_nil 3 1
  unfold m31_3
  unfold m31_6
  refine loop_in (fun u w' => ∃ (p : Nat) (A' : Option Addr) (c' : Nat), u = (.slice A' (revN s.H s.W m p).length c', .int .i64 p) ∧ p ≤ s.H.length ∧ St w0 F w' (irow (.slice A' (revN s.H s.W m p).length c') (revN s.H s.W m p) :: (coopL 55 b s X ++ L))) (fun u _ => s.H.length - (intOf u.2).toNat)
    ⟨0, none, 0, rfl, by omega, hS⟩ ?_
  clear hS
  rintro u w ⟨p, A1, c1, rfl, hp, hS⟩
  have hrl := revN_len s.H s.W m p
  unfold m31_7
  refine nil_ok ?_
  first | refine valP_ok (fa55_2 _ _) ?_ | refine valP_ok (fao55_2 _ _ _) ?_
  first | refine valP_ok (ld28 (hS.cell 0 rfl rfl)) ?_ | refine valP_ok (ld28 (hS.cell 1 rfl rfl)) ?_ | refine valP_ok (ld28 (hS.cell 2 rfl rfl)) ?_ | refine valP_ok (ld28 (hS.cell 3 rfl rfl)) ?_ | refine valP_ok (ld28 (hS.cell 4 rfl rfl)) ?_ | refine valP_ok (ld28 (by assumption)) ?_
  refine builtin_ok (len28 _) ?_
  refine valP_ok (lss_ok _ _ _ _ _ _ _) ?_
  unfold m31_11
  refine cond_split (fun h => ?_) (fun h => ?_)
  · have hlt : p < s.H.length := by omega
    have hlw : p < s.W.length := by omega
    have hst : revN s.H s.W m (p + 1) = if s.H[p] = m ∧ s.W[p] ≠ m then revN s.H s.W m p ++ [(p : Int)] else revN s.H s.W m p := by
      show (if s.H[p]! = m ∧ s.W[p]! ≠ m then _ else _) = _
      rw [getElem!_pos s.H p hlt, getElem!_pos s.W p hlw]
    obtain ⟨g, hg⟩ := hS.row_ptr 3 rfl (by omega)
    obtain ⟨xm, cm, hh, ch, q, cq⟩ := X
    simp only at hg
    subst hg
    obtain ⟨g2, hg2⟩ := hS.row_ptr 4 rfl (by omega)
    simp only at hg2
    subst hg2
    have hc := hS.row_cell 3 rfl (ints_get hlt)
    have hc4 := hS.row_cell 4 rfl (ints_get hlw)
    have fin : ∀ (t : Bool) R (K : Value × Value → World → Prop), (t = true ↔ (s.H[p] = m ∧ s.W[p] ≠ m)) →
        (∀ A' c' w', St w0 F w' (irow (.slice A' (revN s.H s.W m (p + 1)).length c') (revN s.H s.W m (p + 1)) :: (coopL 55 b s ⟨xm, cm, some ⟨g, 0, none⟩, ch, some ⟨g2, 0, none⟩, cq⟩ ++ L)) → K (.slice A' (revN s.H s.W m (p + 1)).length c', .int .i64 ((p + 1 : Nat) : Int)) w') →
        m31_10 R K (.pointer (some ⟨b, 0, none⟩)) (.int .i64 m) (.slice A1 (revN s.H s.W m p).length c1) (.int .i64 p) (.bool t) w := fun t R K ht hK => by
      unfold m31_10
      refine cond_bsplit (fun h1 => ?_) (fun h1 => ?_)
      · rw [if_pos (ht.1 h1)] at hst
        rw [hst] at hK
        refine newslice_ok (bs28_1 rfl _) hS ?_
        intro b43 w hS
        refine append_one 0 (by omega) hS rfl ?_
        intro A2 c2 w' hS
        simp only [List.set_cons_zero] at hS
        unfold m31_9
        refine valP_ok (add_ok _ _ _ (by omega) (by omega) _) ?_
        exact hK A2 c2 _ hS
      · rw [if_neg (fun h => by rw [ht.2 h] at h1; cases h1)] at hst
        rw [hst] at hK
        unfold m31_9
        refine valP_ok (add_ok _ _ _ (by omega) (by omega) _) ?_
        exact hK _ _ _ hS
    unfold m31_8
    refine nil_ok ?_
    first | refine valP_ok (fa55_2 _ _) ?_ | refine valP_ok (fao55_2 _ _ _) ?_
    first | refine valP_ok (ld28 (hS.cell 0 rfl rfl)) ?_ | refine valP_ok (ld28 (hS.cell 1 rfl rfl)) ?_ | refine valP_ok (ld28 (hS.cell 2 rfl rfl)) ?_ | refine valP_ok (ld28 (hS.cell 3 rfl rfl)) ?_ | refine valP_ok (ld28 (hS.cell 4 rfl rfl)) ?_ | refine valP_ok (ld28 (by assumption)) ?_
    first | refine valP_ok (ixz28 (by first | assumption | omega) _) ?_ | refine valP_ok (ix28 (by first | assumption | omega) _) ?_
    first | refine valP_ok (ld3 (hS.cell 0 rfl rfl)) ?_ | refine valP_ok (ld3 (hS.cell 1 rfl rfl)) ?_ | refine valP_ok (ld3 (hS.cell 2 rfl rfl)) ?_ | refine valP_ok (ld3 (hS.cell 3 rfl rfl)) ?_ | refine valP_ok (ld3 (hS.cell 4 rfl rfl)) ?_ | refine valP_ok (ld3 (by assumption)) ?_
    refine valP_ok (eq3 _ _ _ _ _) ?_
    refine cond_split (fun h1 => ?_) (fun h1 => ?_)
    · refine nil_ok ?_
      first | refine valP_ok (fa55_3 _ _) ?_ | refine valP_ok (fao55_3 _ _ _) ?_
      first | refine valP_ok (ld28 (hS.cell 0 rfl rfl)) ?_ | refine valP_ok (ld28 (hS.cell 1 rfl rfl)) ?_ | refine valP_ok (ld28 (hS.cell 2 rfl rfl)) ?_ | refine valP_ok (ld28 (hS.cell 3 rfl rfl)) ?_ | refine valP_ok (ld28 (hS.cell 4 rfl rfl)) ?_ | refine valP_ok (ld28 (by assumption)) ?_
      first | refine valP_ok (ixz28 (by first | assumption | omega) _) ?_ | refine valP_ok (ix28 (by first | assumption | omega) _) ?_
      first | refine valP_ok (ld3 (hS.cell 0 rfl rfl)) ?_ | refine valP_ok (ld3 (hS.cell 1 rfl rfl)) ?_ | refine valP_ok (ld3 (hS.cell 2 rfl rfl)) ?_ | refine valP_ok (ld3 (hS.cell 3 rfl rfl)) ?_ | refine valP_ok (ld3 (hS.cell 4 rfl rfl)) ?_ | refine valP_ok (ld3 (by assumption)) ?_
      refine valP_ok (ne3 _ _ _ _ _) ?_
      first | refine pick_dt (by first | assumption | omega) ?_ | refine pick_df (by first | assumption | omega) ?_ | refine pick_t (by first | rfl | assumption) ?_ | refine pick_f (by first | rfl | assumption) ?_ | refine pick_dt rfl ?_ | refine pick_df (not_not_intro rfl) ?_
      exact fin _ _ _ (by simp [h1]) (fun A' c' w' hS => ⟨⟨p + 1, A', c', rfl, by omega, hS⟩, by simp [intOf]; omega⟩)
    · first | refine pick_dt (by first | assumption | omega) ?_ | refine pick_df (by first | assumption | omega) ?_ | refine pick_t (by first | rfl | assumption) ?_ | refine pick_f (by first | rfl | assumption) ?_ | refine pick_dt rfl ?_ | refine pick_df (not_not_intro rfl) ?_
      exact fin _ _ _ (by simp [h1]) (fun A' c' w' hS => ⟨⟨p + 1, A', c', rfl, by omega, hS⟩, by simp [intOf]; omega⟩)
  · have hpe : p = s.H.length := by omega
    subst hpe
    unfold m31_4 m31_5
    exact ⟨A1, c1, rfl, hS⟩
theorem rdone_ret {w0 w : World} {F : List Nat} {L : List Res} {b : Nat} {s : CS} {X : CA} (m p : Int) (hs : CPre s) (hS : St w0 F w (coopL 55 b s X ++ L)) :
    Ret Try.prog 34 #[.pointer (some ⟨b, 0, none⟩), .int .i64 m, .int .i64 p] w (rjoinQ w0 F L b (doneS s m p)) := by
  have hM8 := hs.len
  have hpp := hs.parts
  have hsame := hs.same
  refine s34 _ _ _ ?_
  unfold m34
  unfold m34_0
  unfold m34_1
  refine callR (by kernel_rfl) (ris_ret (by omega) hS m) ?_
  rintro v w ⟨rfl, rfl⟩
  first | refine valP_ok (not_ok _ _) ?_ | refine valP_ok (notb_ok _ _) ?_
  unfold m34_12
  unfold doneS
  refine cond_split (fun h => ?_) (fun h => ?_)
  · rw [if_pos h]
    unfold m34_13
    exact ⟨rfl, X, hS⟩
  rw [if_neg h]
  unfold m34_2
  refine valP_ok (lss_ok _ _ _ _ _ _ _) ?_
  have bad : ∀ t : Bool, (p < 0 ∨ (s.H.length : Int) ≤ p) → t = true → m34_10 (rjoinQ w0 F L b (if p < 0 ∨ (s.H.length : Int) ≤ p then (6, s) else if s.H[p.toNat]! ≠ m ∨ s.W[p.toNat]! = m then (13, s) else (0, { s with H := giveL (s.H.set p.toNat 0) s.W }))) (.pointer (some ⟨b, 0, none⟩)) (.int .i64 m) (.int .i64 p) (.bool t) w := fun t hb ht => by
    unfold m34_10
    refine cond_t ht ?_
    unfold m34_11
    rw [if_pos hb]
    exact ⟨rfl, X, hS⟩
  refine cond_split (fun h1 => ?_) (fun h1 => ?_)
  · first | refine pick_dt (by first | assumption | omega) ?_ | refine pick_df (by first | assumption | omega) ?_ | refine pick_t (by first | rfl | assumption) ?_ | refine pick_f (by first | rfl | assumption) ?_ | refine pick_dt rfl ?_ | refine pick_df (not_not_intro rfl) ?_
    exact bad _ (.inl h1) rfl
  refine nil_ok ?_
  first | refine valP_ok (fa55_2 _ _) ?_ | refine valP_ok (fao55_2 _ _ _) ?_
  first | refine valP_ok (ld28 (hS.cell 0 rfl rfl)) ?_ | refine valP_ok (ld28 (hS.cell 1 rfl rfl)) ?_ | refine valP_ok (ld28 (hS.cell 2 rfl rfl)) ?_ | refine valP_ok (ld28 (hS.cell 3 rfl rfl)) ?_ | refine valP_ok (ld28 (hS.cell 4 rfl rfl)) ?_ | refine valP_ok (ld28 (by assumption)) ?_
  refine builtin_ok (len28 _) ?_
  refine valP_ok (geq_ok _ _ _ _ _ _ _) ?_
  first | refine pick_dt (by first | assumption | omega) ?_ | refine pick_df (by first | assumption | omega) ?_ | refine pick_t (by first | rfl | assumption) ?_ | refine pick_f (by first | rfl | assumption) ?_ | refine pick_dt rfl ?_ | refine pick_df (not_not_intro rfl) ?_
  by_cases h2 : (s.H.length : Int) ≤ p
  · exact bad _ (.inr h2) (decide_eq_true h2)
  rw [if_neg (by omega)]
  obtain ⟨k, rfl⟩ : ∃ k : Nat, p = k := ⟨p.toNat, by omega⟩
  have hlt : k < s.H.length := by omega
  have hlw : k < s.W.length := by omega
  rw [Int.toNat_natCast, getElem!_pos s.H k hlt, getElem!_pos s.W k hlw]
  unfold m34_10
  refine cond_df h2 ?_
  obtain ⟨g, hg⟩ := hS.row_ptr 2 rfl (by omega)
  obtain ⟨xm, cm, hh, ch, q, cq⟩ := X
  simp only at hg
  subst hg
  obtain ⟨g2, hg2⟩ := hS.row_ptr 3 rfl (by omega)
  simp only at hg2
  subst hg2
  have hc := hS.row_cell 2 rfl (ints_get hlt)
  have hc4 := hS.row_cell 3 rfl (ints_get hlw)
  have fin : ∀ t : Bool, (t = true ↔ (s.H[k] ≠ m ∨ s.W[k] = m)) → m34_8 (rjoinQ w0 F L b (if s.H[k] ≠ m ∨ s.W[k] = m then (13, s) else (0, { s with H := giveL (s.H.set k 0) s.W }))) (.pointer (some ⟨b, 0, none⟩)) (.int .i64 k) (.bool t) w := fun t ht => by
    unfold m34_8
    refine cond_bsplit (fun h1 => ?_) (fun h1 => ?_)
    · unfold m34_9
      rw [if_pos (ht.1 h1)]
      exact ⟨rfl, _, hS⟩
    · rw [if_neg (fun h => by rw [ht.2 h] at h1; cases h1)]
      unfold m34_4
      refine nil_ok ?_
      first | refine valP_ok (fa55_2 _ _) ?_ | refine valP_ok (fao55_2 _ _ _) ?_
      first | refine valP_ok (ld28 (hS.cell 0 rfl rfl)) ?_ | refine valP_ok (ld28 (hS.cell 1 rfl rfl)) ?_ | refine valP_ok (ld28 (hS.cell 2 rfl rfl)) ?_ | refine valP_ok (ld28 (hS.cell 3 rfl rfl)) ?_ | refine valP_ok (ld28 (hS.cell 4 rfl rfl)) ?_ | refine valP_ok (ld28 (by assumption)) ?_
      first | refine valP_ok (ixz28 (by first | assumption | omega) _) ?_ | refine valP_ok (ix28 (by first | assumption | omega) _) ?_
      refine set_irow 2 hS rfl hlt ?_
      intro w hS
      simp only [List.set_cons_zero, List.set_cons_succ, List.cons_append, List.nil_append] at hS
      have hS : St w0 F w (coopL 55 b { s with H := s.H.set k 0 } ⟨xm, cm, some ⟨g, 0, none⟩, ch, some ⟨g2, 0, none⟩, cq⟩ ++ L) := by
        show St w0 F w ([_, _, _, _] ++ L)
        simp only [coopC, List.length_set] at hS ⊢
        exact hS
      unfold m34_5
      refine callR (by kernel_rfl) (given_ret (by simp; omega) (by simp; omega) hS) ?_
      intro v w hS
      unfold m34_6 m34_7
      exact ⟨rfl, _, hS⟩
  unfold m34_3
  refine nil_ok ?_
  first | refine valP_ok (fa55_2 _ _) ?_ | refine valP_ok (fao55_2 _ _ _) ?_
  first | refine valP_ok (ld28 (hS.cell 0 rfl rfl)) ?_ | refine valP_ok (ld28 (hS.cell 1 rfl rfl)) ?_ | refine valP_ok (ld28 (hS.cell 2 rfl rfl)) ?_ | refine valP_ok (ld28 (hS.cell 3 rfl rfl)) ?_ | refine valP_ok (ld28 (hS.cell 4 rfl rfl)) ?_ | refine valP_ok (ld28 (by assumption)) ?_
  first | refine valP_ok (ixz28 (by first | assumption | omega) _) ?_ | refine valP_ok (ix28 (by first | assumption | omega) _) ?_
  first | refine valP_ok (ld3 (hS.cell 0 rfl rfl)) ?_ | refine valP_ok (ld3 (hS.cell 1 rfl rfl)) ?_ | refine valP_ok (ld3 (hS.cell 2 rfl rfl)) ?_ | refine valP_ok (ld3 (hS.cell 3 rfl rfl)) ?_ | refine valP_ok (ld3 (hS.cell 4 rfl rfl)) ?_ | refine valP_ok (ld3 (by assumption)) ?_
  refine valP_ok (ne3 _ _ _ _ _) ?_
  refine cond_split (fun h3 => ?_) (fun h3 => ?_)
  · first | refine pick_dt (by first | assumption | omega) ?_ | refine pick_df (by first | assumption | omega) ?_ | refine pick_t (by first | rfl | assumption) ?_ | refine pick_f (by first | rfl | assumption) ?_ | refine pick_dt rfl ?_ | refine pick_df (not_not_intro rfl) ?_
    exact fin true ⟨fun _ => .inl h3, fun _ => rfl⟩
  · refine nil_ok ?_
    first | refine valP_ok (fa55_3 _ _) ?_ | refine valP_ok (fao55_3 _ _ _) ?_
    first | refine valP_ok (ld28 (hS.cell 0 rfl rfl)) ?_ | refine valP_ok (ld28 (hS.cell 1 rfl rfl)) ?_ | refine valP_ok (ld28 (hS.cell 2 rfl rfl)) ?_ | refine valP_ok (ld28 (hS.cell 3 rfl rfl)) ?_ | refine valP_ok (ld28 (hS.cell 4 rfl rfl)) ?_ | refine valP_ok (ld28 (by assumption)) ?_
    first | refine valP_ok (ixz28 (by first | assumption | omega) _) ?_ | refine valP_ok (ix28 (by first | assumption | omega) _) ?_
    first | refine valP_ok (ld3 (hS.cell 0 rfl rfl)) ?_ | refine valP_ok (ld3 (hS.cell 1 rfl rfl)) ?_ | refine valP_ok (ld3 (hS.cell 2 rfl rfl)) ?_ | refine valP_ok (ld3 (hS.cell 3 rfl rfl)) ?_ | refine valP_ok (ld3 (hS.cell 4 rfl rfl)) ?_ | refine valP_ok (ld3 (by assumption)) ?_
    refine valP_ok (eq3 _ _ _ _ _) ?_
    first | refine pick_dt (by first | assumption | omega) ?_ | refine pick_df (by first | assumption | omega) ?_ | refine pick_t (by first | rfl | assumption) ?_ | refine pick_f (by first | rfl | assumption) ?_ | refine pick_dt rfl ?_ | refine pick_df (not_not_intro rfl) ?_
    exact fin _ (by simp; intro h; exact absurd h h3)

end Go.Proofs.Ytjjmlopmemmobaa.M
