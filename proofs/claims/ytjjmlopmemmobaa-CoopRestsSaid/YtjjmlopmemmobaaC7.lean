/- What coop's Leave, Revoke, Done come to. -/
import Derived.Test.YtjjmlopmemmobaaC6
namespace Go.Proofs.Ytjjmlopmemmobaa.M
open Go.Proofs.Ytjjmlopmemmobaa.F Go.RowKit
set_option linter.unusedVariables false
set_option linter.unusedSimpArgs false
set_option maxRecDepth 100000
set_option maxHeartbeats 2000000
attribute [local irreducible] Res.cells Res.row Res.map Res.any World.cell? World.frozen? Instr.fieldAt Instr.loadAt Instr.storeAt Instr.indexAt Instr.lookup Instr.mapUpdate Instr.box Instr.build Instr.buildSlice Instr.extract Instr.alloc Instr.field Instr.index Instr.sliceAt Instr.makeSlice Instr.makeMap Instr.makeFunc binS Op.unary Sem.run
open Go.Proofs.Ytjjmlopmemmobaa.L Go.Shelf
def leaveS (s : CS) (m : Int) : Int × CS := if m ∈ s.M then (0, turned { s with M := s.M.filter fun x => !decide (x = m) }) else (11, s)
theorem leave_pre {s : CS} (hs : CPre s) (m : Int) : CPre { s with M := s.M.filter fun x => !decide (x = m) } :=
  ⟨hs.rise.sublist List.filter_sublist, by have := List.length_filter_le (fun x => !decide (x = m)) s.M; have := hs.len; simp only; omega, fun x hx => hs.each x (List.mem_filter.1 hx).1, hs.parts, hs.same, hs.bH, hs.bW, hs.g0⟩
theorem leave_ret {w0 w : World} {F : List Nat} {L : List Res} {b : Nat} {s : CS} {X : CA} (m : Int) (hs : CPre s) (hS : St w0 F w (coopL 94 b s X ++ L)) :
    Ret Try.prog 29 #[.pointer (some ⟨b, 0, none⟩), .int .i64 m] w (joinQ w0 F L b (leaveS s m)) := by
  have hM8 := hs.len
  refine s29 _ _ ?_
  unfold m29
  unfold m29_0
  refine new_ok (bx3 rfl _) hS ?_
  intro b3 w hS
  unfold m29_1
  first | refine valP_ok (eq23n _ _ _) ?_ | refine valP_ok (eq23s _ _ _ _) ?_
  refine cond_f rfl ?_
  first | refine valP_ok (ld3 (hS.cell 0 rfl rfl)) ?_ | refine valP_ok (ld3 (hS.cell 1 rfl rfl)) ?_ | refine valP_ok (ld3 (hS.cell 2 rfl rfl)) ?_ | refine valP_ok (ld3 (hS.cell 3 rfl rfl)) ?_ | refine valP_ok (ld3 (hS.cell 4 rfl rfl)) ?_ | refine valP_ok (ld3 (by assumption)) ?_
  refine callR (by kernel_rfl) (is_ret (by omega) (hS.pick 5 [1, 2, 3, 4, 0] (by simp) (by decide)) m) ?_
  rintro v w ⟨rfl, rfl⟩
  first | refine valP_ok (not_ok _ _) ?_ | refine valP_ok (notb_ok _ _) ?_
  first | refine pick_dt (by first | assumption | omega) ?_ | refine pick_df (by first | assumption | omega) ?_ | refine pick_t (by first | rfl | assumption) ?_ | refine pick_f (by first | rfl | assumption) ?_ | refine pick_dt rfl ?_ | refine pick_df (not_not_intro rfl) ?_
  unfold m29_6
  unfold leaveS
  refine cond_split (fun h => ?_) (fun h => ?_)
  · rw [if_neg h]
    unfold m29_7
    exact ⟨rfl, X, hS.tail⟩
  rw [if_pos (Decidable.not_not.1 h)]
  unfold m29_2
  refine nil_ok ?_
  first | refine valP_ok (fa94_1 _ _) ?_ | refine valP_ok (fao94_1 _ _ _) ?_
  first | refine valP_ok (ld28 (hS.cell 0 rfl rfl)) ?_ | refine valP_ok (ld28 (hS.cell 1 rfl rfl)) ?_ | refine valP_ok (ld28 (hS.cell 2 rfl rfl)) ?_ | refine valP_ok (ld28 (hS.cell 3 rfl rfl)) ?_ | refine valP_ok (ld28 (hS.cell 4 rfl rfl)) ?_ | refine valP_ok (ld28 (by assumption)) ?_
  refine valP_ok (mf66 _ _) ?_
  have hp : AsksI w0 F (Res.cells b3 3 [.int .i64 m] :: (coopL 94 b s X ++ L)) 2 X.m s.M.length X.cm 66 #[.pointer (some ⟨b3, 0, none⟩)] (fun x => decide (x = m)) := fun x w xs hxs hS => by
    show Ret Try.prog 66 #[_, _] w _
    refine s66 _ _ ?_
    unfold m66
    unfold m66_0
    unfold m66_1
    first | refine valP_ok (ld3 (hS.cell 0 rfl rfl)) ?_ | refine valP_ok (ld3 (hS.cell 1 rfl rfl)) ?_ | refine valP_ok (ld3 (hS.cell 2 rfl rfl)) ?_ | refine valP_ok (ld3 (hS.cell 3 rfl rfl)) ?_ | refine valP_ok (ld3 (hS.cell 4 rfl rfl)) ?_ | refine valP_ok (ld3 (by assumption)) ?_
    refine valP_ok (eq3 _ _ _ _ _) ?_
    unfold m66_2
    exact ⟨rfl, rfl⟩
  refine callR (by kernel_rfl) (delF_ret (by kernel_rfl) (by omega) hS rfl hp) ?_
  rintro v w ⟨rfl, hS⟩
  refine nil_ok ?_
  first | refine valP_ok (fa94_1 _ _) ?_ | refine valP_ok (fao94_1 _ _ _) ?_
  first | refine store_at 0 st28 hS rfl (by simp) rfl ?_ | refine store_at 1 st28 hS rfl (by simp) rfl ?_ | refine store_at 2 st28 hS rfl (by simp) rfl ?_ | refine store_at 3 st28 hS rfl (by simp) rfl ?_ | refine store_at 4 st28 hS rfl (by simp) rfl ?_
  intro w hS
  simp only [List.set_cons_zero, List.set_cons_succ] at hS
  have hS : St w0 F w (coopL 94 b { s with M := s.M.filter fun x => !decide (x = m) } X ++ L) := hS.pick 5 [1, 2, 3, 4] (by simp) (by decide)
  unfold m29_3
  refine callR (by kernel_rfl) (turn_ret (leave_pre hs m) hS) ?_
  rintro v w ⟨X', hS⟩
  unfold m29_4 m29_5
  exact ⟨rfl, X', hS⟩
/-- Which of the first partitions a member has to give up. -/
def revN (H W : List Int) (m : Int) : Nat → List Int
  | 0 => []
  | p + 1 => if H[p]! = m ∧ W[p]! ≠ m then revN H W m p ++ [(p : Int)] else revN H W m p
theorem revN_len (H W : List Int) (m : Int) : ∀ p, (revN H W m p).length ≤ p
  | 0 => by simp [revN]
  | p + 1 => by
    have := revN_len H W m p
    unfold revN
    split
    · simp; omega
    · omega
def revL (s : CS) (m : Int) : List Int := if m ∈ s.M then revN s.H s.W m s.H.length else []
theorem revoke_ret {w0 w : World} {F : List Nat} {L : List Res} {b : Nat} {s : CS} {X : CA} (m : Int) (hs : CPre s) (hS : St w0 F w (coopL 94 b s X ++ L)) :
    Ret Try.prog 25 #[.pointer (some ⟨b, 0, none⟩), .int .i64 m] w fun v w' => ∃ A c, v = .tuple #[.slice A (revL s m).length c, .int .i64 (if m ∈ s.M then 0 else 11)] ∧ St w0 F w' (irow (.slice A (revL s m).length c) (revL s m) :: (coopL 94 b s X ++ L)) := by
  have hM8 := hs.len
  have hp := hs.parts
  have hsame := hs.same
  refine s25 _ _ ?_
  unfold m25
  unfold m25_0
  unfold m25_1
  first | refine valP_ok (eq23n _ _ _) ?_ | refine valP_ok (eq23s _ _ _ _) ?_
  refine cond_f rfl ?_
  refine callR (by kernel_rfl) (is_ret (by omega) hS m) ?_
  rintro v w ⟨rfl, rfl⟩
  first | refine valP_ok (not_ok _ _) ?_ | refine valP_ok (notb_ok _ _) ?_
  first | refine pick_dt (by first | assumption | omega) ?_ | refine pick_df (by first | assumption | omega) ?_ | refine pick_t (by first | rfl | assumption) ?_ | refine pick_f (by first | rfl | assumption) ?_ | refine pick_dt rfl ?_ | refine pick_df (not_not_intro rfl) ?_
  unfold m25_13
  unfold revL
  refine cond_split (fun h => ?_) (fun h => ?_)
  · rw [if_neg h, if_neg h]
    unfold m25_14
    exact ⟨none, 0, rfl, hS.row_nil 3 1⟩
  have h := Decidable.not_not.1 h
  rw [if_pos h, if_pos h]
  unfold m25_2
  have hS := hS.row_nil 3 1
  unfold m25_3
  refine nil_ok ?_
  first | refine valP_ok (fa94_2 _ _) ?_ | refine valP_ok (fao94_2 _ _ _) ?_
  first | refine valP_ok (ld28 (hS.cell 0 rfl rfl)) ?_ | refine valP_ok (ld28 (hS.cell 1 rfl rfl)) ?_ | refine valP_ok (ld28 (hS.cell 2 rfl rfl)) ?_ | refine valP_ok (ld28 (hS.cell 3 rfl rfl)) ?_ | refine valP_ok (ld28 (hS.cell 4 rfl rfl)) ?_ | refine valP_ok (ld28 (by assumption)) ?_
  refine builtin_ok (len28 _) ?_
  unfold m25_6
  refine loop_in (fun u w' => ∃ (p : Nat) (A' : Option Addr) (c' : Nat), u = (.slice A' (revN s.H s.W m p).length c', .int .i64 p) ∧ p ≤ s.H.length ∧ St w0 F w' (irow (.slice A' (revN s.H s.W m p).length c') (revN s.H s.W m p) :: (coopL 94 b s X ++ L))) (fun u _ => s.H.length - (intOf u.2).toNat)
    ⟨0, none, 0, rfl, by omega, hS⟩ ?_
  clear hS
  rintro u w ⟨p, A1, c1, rfl, hp, hS⟩
  have hrl := revN_len s.H s.W m p
  unfold m25_7
  refine valP_ok (lss_ok _ _ _ _ _ _ _) ?_
  unfold m25_8
  refine cond_split (fun h => ?_) (fun h => ?_)
  · have hlt : p < s.H.length := by omega
    have hlw : p < s.W.length := by omega
    have hst : revN s.H s.W m (p + 1) = if s.H[p] = m ∧ s.W[p] ≠ m then revN s.H s.W m p ++ [(p : Int)] else revN s.H s.W m p := by
      show (if s.H[p]! = m ∧ s.W[p]! ≠ m then _ else _) = _
      rw [getElem!_pos s.H p hlt, getElem!_pos s.W p hlw]
    obtain ⟨g, hg⟩ := hS.row_ptr 3 rfl (by omega)
    obtain ⟨xm, cm, hh, ch, q, cq⟩ := X
    simp only at hg
    subst hg
    obtain ⟨g2, hg2⟩ := hS.row_ptr 4 rfl (by omega)
    simp only at hg2
    subst hg2
    have hc := hS.row_cell 3 rfl (ints_get hlt)
    have hc4 := hS.row_cell 4 rfl (ints_get hlw)
    have fin : ∀ (t : Bool) R (K : Value × Value → World → Prop), (t = true ↔ (s.H[p] = m ∧ s.W[p] ≠ m)) →
        (∀ A' c' w', St w0 F w' (irow (.slice A' (revN s.H s.W m (p + 1)).length c') (revN s.H s.W m (p + 1)) :: (coopL 94 b s ⟨xm, cm, some ⟨g, 0, none⟩, ch, some ⟨g2, 0, none⟩, cq⟩ ++ L)) → K (.slice A' (revN s.H s.W m (p + 1)).length c', .int .i64 ((p + 1 : Nat) : Int)) w') →
        m25_12 R K (.pointer (some ⟨b, 0, none⟩)) (.int .i64 m) (.slice A1 (revN s.H s.W m p).length c1) (.int .i64 p) (.slice (some ⟨g, 0, none⟩) s.H.length ch) (.int .i64 s.H.length) (.int .i64 p) (.bool t) w := fun t R K ht hK => by
      unfold m25_12
      refine cond_bsplit (fun h1 => ?_) (fun h1 => ?_)
      · rw [if_pos (ht.1 h1)] at hst
        rw [hst] at hK
        refine newslice_ok (bs28_1 rfl _) hS ?_
        intro b43 w hS
        refine append_one 0 (by omega) hS rfl ?_
        intro A2 c2 w' hS
        simp only [List.set_cons_zero] at hS
        unfold m25_10
        refine valP_ok (add_ok _ _ _ (by omega) (by omega) _) ?_
        exact hK A2 c2 _ hS
      · rw [if_neg (fun h => by rw [ht.2 h] at h1; cases h1)] at hst
        rw [hst] at hK
        unfold m25_10
        refine valP_ok (add_ok _ _ _ (by omega) (by omega) _) ?_
        exact hK _ _ _ hS
    unfold m25_9
    first | refine valP_ok (ixz28 (by first | assumption | omega) _) ?_ | refine valP_ok (ix28 (by first | assumption | omega) _) ?_
    first | refine valP_ok (ld3 (hS.cell 0 rfl rfl)) ?_ | refine valP_ok (ld3 (hS.cell 1 rfl rfl)) ?_ | refine valP_ok (ld3 (hS.cell 2 rfl rfl)) ?_ | refine valP_ok (ld3 (hS.cell 3 rfl rfl)) ?_ | refine valP_ok (ld3 (hS.cell 4 rfl rfl)) ?_ | refine valP_ok (ld3 (by assumption)) ?_
    unfold m25_11
    refine valP_ok (eq3 _ _ _ _ _) ?_
    refine cond_split (fun h1 => ?_) (fun h1 => ?_)
    · refine nil_ok ?_
      first | refine valP_ok (fa94_3 _ _) ?_ | refine valP_ok (fao94_3 _ _ _) ?_
      first | refine valP_ok (ld28 (hS.cell 0 rfl rfl)) ?_ | refine valP_ok (ld28 (hS.cell 1 rfl rfl)) ?_ | refine valP_ok (ld28 (hS.cell 2 rfl rfl)) ?_ | refine valP_ok (ld28 (hS.cell 3 rfl rfl)) ?_ | refine valP_ok (ld28 (hS.cell 4 rfl rfl)) ?_ | refine valP_ok (ld28 (by assumption)) ?_
      first | refine valP_ok (ixz28 (by first | assumption | omega) _) ?_ | refine valP_ok (ix28 (by first | assumption | omega) _) ?_
      first | refine valP_ok (ld3 (hS.cell 0 rfl rfl)) ?_ | refine valP_ok (ld3 (hS.cell 1 rfl rfl)) ?_ | refine valP_ok (ld3 (hS.cell 2 rfl rfl)) ?_ | refine valP_ok (ld3 (hS.cell 3 rfl rfl)) ?_ | refine valP_ok (ld3 (hS.cell 4 rfl rfl)) ?_ | refine valP_ok (ld3 (by assumption)) ?_
      refine valP_ok (ne3 _ _ _ _ _) ?_
      first | refine pick_dt (by first | assumption | omega) ?_ | refine pick_df (by first | assumption | omega) ?_ | refine pick_t (by first | rfl | assumption) ?_ | refine pick_f (by first | rfl | assumption) ?_ | refine pick_dt rfl ?_ | refine pick_df (not_not_intro rfl) ?_
      exact fin _ _ _ (by simp [h1]) (fun A' c' w' hS => ⟨⟨p + 1, A', c', rfl, by omega, hS⟩, by simp [intOf]; omega⟩)
    · first | refine pick_dt (by first | assumption | omega) ?_ | refine pick_df (by first | assumption | omega) ?_ | refine pick_t (by first | rfl | assumption) ?_ | refine pick_f (by first | rfl | assumption) ?_ | refine pick_dt rfl ?_ | refine pick_df (not_not_intro rfl) ?_
      exact fin _ _ _ (by simp [h1]) (fun A' c' w' hS => ⟨⟨p + 1, A', c', rfl, by omega, hS⟩, by simp [intOf]; omega⟩)
  · have hpe : p = s.H.length := by omega
    subst hpe
    unfold m25_4 m25_5
    exact ⟨A1, c1, rfl, hS⟩
def doneS (s : CS) (m p : Int) : Int × CS :=
  if m ∉ s.M then (11, s) else if p < 0 ∨ (s.H.length : Int) ≤ p then (6, s) else if s.H[p.toNat]! ≠ m ∨ s.W[p.toNat]! = m then (13, s) else (0, { s with H := giveL (s.H.set p.toNat 0) s.W })
theorem done_ret {w0 w : World} {F : List Nat} {L : List Res} {b : Nat} {s : CS} {X : CA} (m p : Int) (hs : CPre s) (hS : St w0 F w (coopL 94 b s X ++ L)) :
    Ret Try.prog 33 #[.pointer (some ⟨b, 0, none⟩), .int .i64 m, .int .i64 p] w (joinQ w0 F L b (doneS s m p)) := by
  have hM8 := hs.len
  have hpp := hs.parts
  have hsame := hs.same
  refine s33 _ _ _ ?_
  unfold m33
  unfold m33_0
  unfold m33_1
  first | refine valP_ok (eq23n _ _ _) ?_ | refine valP_ok (eq23s _ _ _ _) ?_
  refine cond_f rfl ?_
  refine callR (by kernel_rfl) (is_ret (by omega) hS m) ?_
  rintro v w ⟨rfl, rfl⟩
  first | refine valP_ok (not_ok _ _) ?_ | refine valP_ok (notb_ok _ _) ?_
  first | refine pick_dt (by first | assumption | omega) ?_ | refine pick_df (by first | assumption | omega) ?_ | refine pick_t (by first | rfl | assumption) ?_ | refine pick_f (by first | rfl | assumption) ?_ | refine pick_dt rfl ?_ | refine pick_df (not_not_intro rfl) ?_
  unfold m33_6
  unfold doneS
  refine cond_split (fun h => ?_) (fun h => ?_)
  · rw [if_pos h]
    unfold m33_7
    exact ⟨rfl, X, hS⟩
  rw [if_neg h]
  refine valP_ok (lss_ok _ _ _ _ _ _ _) ?_
  have bad : ∀ t : Bool, (p < 0 ∨ (s.H.length : Int) ≤ p) → t = true → m33_8 (joinQ w0 F L b (if p < 0 ∨ (s.H.length : Int) ≤ p then (6, s) else if s.H[p.toNat]! ≠ m ∨ s.W[p.toNat]! = m then (13, s) else (0, { s with H := giveL (s.H.set p.toNat 0) s.W }))) (.pointer (some ⟨b, 0, none⟩)) (.int .i64 m) (.int .i64 p) (.bool t) w := fun t hb ht => by
    unfold m33_8
    refine cond_t ht ?_
    unfold m33_9
    rw [if_pos hb]
    exact ⟨rfl, X, hS⟩
  refine cond_split (fun h1 => ?_) (fun h1 => ?_)
  · first | refine pick_dt (by first | assumption | omega) ?_ | refine pick_df (by first | assumption | omega) ?_ | refine pick_t (by first | rfl | assumption) ?_ | refine pick_f (by first | rfl | assumption) ?_ | refine pick_dt rfl ?_ | refine pick_df (not_not_intro rfl) ?_
    exact bad _ (.inl h1) rfl
  refine nil_ok ?_
  first | refine valP_ok (fa94_2 _ _) ?_ | refine valP_ok (fao94_2 _ _ _) ?_
  first | refine valP_ok (ld28 (hS.cell 0 rfl rfl)) ?_ | refine valP_ok (ld28 (hS.cell 1 rfl rfl)) ?_ | refine valP_ok (ld28 (hS.cell 2 rfl rfl)) ?_ | refine valP_ok (ld28 (hS.cell 3 rfl rfl)) ?_ | refine valP_ok (ld28 (hS.cell 4 rfl rfl)) ?_ | refine valP_ok (ld28 (by assumption)) ?_
  refine builtin_ok (len28 _) ?_
  refine valP_ok (geq_ok _ _ _ _ _ _ _) ?_
  first | refine pick_dt (by first | assumption | omega) ?_ | refine pick_df (by first | assumption | omega) ?_ | refine pick_t (by first | rfl | assumption) ?_ | refine pick_f (by first | rfl | assumption) ?_ | refine pick_dt rfl ?_ | refine pick_df (not_not_intro rfl) ?_
  by_cases h2 : (s.H.length : Int) ≤ p
  · exact bad _ (.inr h2) (decide_eq_true h2)
  rw [if_neg (by omega)]
  obtain ⟨k, rfl⟩ : ∃ k : Nat, p = k := ⟨p.toNat, by omega⟩
  have hlt : k < s.H.length := by omega
  have hlw : k < s.W.length := by omega
  rw [Int.toNat_natCast, getElem!_pos s.H k hlt, getElem!_pos s.W k hlw]
  unfold m33_8
  refine cond_df h2 ?_
  obtain ⟨g, hg⟩ := hS.row_ptr 2 rfl (by omega)
  obtain ⟨xm, cm, hh, ch, q, cq⟩ := X
  simp only at hg
  subst hg
  obtain ⟨g2, hg2⟩ := hS.row_ptr 3 rfl (by omega)
  simp only at hg2
  subst hg2
  have hc := hS.row_cell 2 rfl (ints_get hlt)
  have hc4 := hS.row_cell 3 rfl (ints_get hlw)
  have fin : ∀ t : Bool, (t = true ↔ (s.H[k] ≠ m ∨ s.W[k] = m)) → m33_10 (joinQ w0 F L b (if s.H[k] ≠ m ∨ s.W[k] = m then (13, s) else (0, { s with H := giveL (s.H.set k 0) s.W }))) (.pointer (some ⟨b, 0, none⟩)) (.int .i64 k) (.bool t) w := fun t ht => by
    unfold m33_10
    refine cond_bsplit (fun h1 => ?_) (fun h1 => ?_)
    · unfold m33_11
      rw [if_pos (ht.1 h1)]
      exact ⟨rfl, _, hS⟩
    · rw [if_neg (fun h => by rw [ht.2 h] at h1; cases h1)]
      unfold m33_2
      refine nil_ok ?_
      first | refine valP_ok (fa94_2 _ _) ?_ | refine valP_ok (fao94_2 _ _ _) ?_
      first | refine valP_ok (ld28 (hS.cell 0 rfl rfl)) ?_ | refine valP_ok (ld28 (hS.cell 1 rfl rfl)) ?_ | refine valP_ok (ld28 (hS.cell 2 rfl rfl)) ?_ | refine valP_ok (ld28 (hS.cell 3 rfl rfl)) ?_ | refine valP_ok (ld28 (hS.cell 4 rfl rfl)) ?_ | refine valP_ok (ld28 (by assumption)) ?_
      first | refine valP_ok (ixz28 (by first | assumption | omega) _) ?_ | refine valP_ok (ix28 (by first | assumption | omega) _) ?_
      refine set_irow 2 hS rfl hlt ?_
      intro w hS
      simp only [List.set_cons_zero, List.set_cons_succ, List.cons_append, List.nil_append] at hS
      have hS : St w0 F w (coopL 94 b { s with H := s.H.set k 0 } ⟨xm, cm, some ⟨g, 0, none⟩, ch, some ⟨g2, 0, none⟩, cq⟩ ++ L) := by
        show St w0 F w ([_, _, _, _] ++ L)
        simp only [coopC, List.length_set] at hS ⊢
        exact hS
      unfold m33_3
      refine callR (by kernel_rfl) (give_ret (by simp; omega) (by simp; omega) hS) ?_
      intro v w hS
      unfold m33_4 m33_5
      exact ⟨rfl, _, hS⟩
  refine nil_ok ?_
  first | refine valP_ok (fa94_2 _ _) ?_ | refine valP_ok (fao94_2 _ _ _) ?_
  first | refine valP_ok (ld28 (hS.cell 0 rfl rfl)) ?_ | refine valP_ok (ld28 (hS.cell 1 rfl rfl)) ?_ | refine valP_ok (ld28 (hS.cell 2 rfl rfl)) ?_ | refine valP_ok (ld28 (hS.cell 3 rfl rfl)) ?_ | refine valP_ok (ld28 (hS.cell 4 rfl rfl)) ?_ | refine valP_ok (ld28 (by assumption)) ?_
  first | refine valP_ok (ixz28 (by first | assumption | omega) _) ?_ | refine valP_ok (ix28 (by first | assumption | omega) _) ?_
  first | refine valP_ok (ld3 (hS.cell 0 rfl rfl)) ?_ | refine valP_ok (ld3 (hS.cell 1 rfl rfl)) ?_ | refine valP_ok (ld3 (hS.cell 2 rfl rfl)) ?_ | refine valP_ok (ld3 (hS.cell 3 rfl rfl)) ?_ | refine valP_ok (ld3 (hS.cell 4 rfl rfl)) ?_ | refine valP_ok (ld3 (by assumption)) ?_
  refine valP_ok (ne3 _ _ _ _ _) ?_
  refine cond_split (fun h3 => ?_) (fun h3 => ?_)
  · first | refine pick_dt (by first | assumption | omega) ?_ | refine pick_df (by first | assumption | omega) ?_ | refine pick_t (by first | rfl | assumption) ?_ | refine pick_f (by first | rfl | assumption) ?_ | refine pick_dt rfl ?_ | refine pick_df (not_not_intro rfl) ?_
    exact fin true ⟨fun _ => .inl h3, fun _ => rfl⟩
  · refine nil_ok ?_
    first | refine valP_ok (fa94_3 _ _) ?_ | refine valP_ok (fao94_3 _ _ _) ?_
    first | refine valP_ok (ld28 (hS.cell 0 rfl rfl)) ?_ | refine valP_ok (ld28 (hS.cell 1 rfl rfl)) ?_ | refine valP_ok (ld28 (hS.cell 2 rfl rfl)) ?_ | refine valP_ok (ld28 (hS.cell 3 rfl rfl)) ?_ | refine valP_ok (ld28 (hS.cell 4 rfl rfl)) ?_ | refine valP_ok (ld28 (by assumption)) ?_
    first | refine valP_ok (ixz28 (by first | assumption | omega) _) ?_ | refine valP_ok (ix28 (by first | assumption | omega) _) ?_
    first | refine valP_ok (ld3 (hS.cell 0 rfl rfl)) ?_ | refine valP_ok (ld3 (hS.cell 1 rfl rfl)) ?_ | refine valP_ok (ld3 (hS.cell 2 rfl rfl)) ?_ | refine valP_ok (ld3 (hS.cell 3 rfl rfl)) ?_ | refine valP_ok (ld3 (hS.cell 4 rfl rfl)) ?_ | refine valP_ok (ld3 (by assumption)) ?_
    refine valP_ok (eq3 _ _ _ _ _) ?_
    first | refine pick_dt (by first | assumption | omega) ?_ | refine pick_df (by first | assumption | omega) ?_ | refine pick_t (by first | rfl | assumption) ?_ | refine pick_f (by first | rfl | assumption) ?_ | refine pick_dt rfl ?_ | refine pick_df (not_not_intro rfl) ?_
    exact fin _ (by simp; intro h; exact absurd h h3)

end Go.Proofs.Ytjjmlopmemmobaa.M
