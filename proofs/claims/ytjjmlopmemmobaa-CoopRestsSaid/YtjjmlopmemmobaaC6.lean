/- What coop's Join, Leave, Revoke, Done come to. -/
import Derived.Test.YtjjmlopmemmobaaC5
namespace Go.Proofs.Ytjjmlopmemmobaa.M
open Go.Proofs.Ytjjmlopmemmobaa.F Go.RowKit
set_option linter.unusedVariables false
set_option linter.unusedSimpArgs false
set_option maxRecDepth 100000
set_option maxHeartbeats 2000000
attribute [local irreducible] Res.cells Res.row Res.map Res.any World.cell? World.frozen? Instr.fieldAt Instr.loadAt Instr.storeAt Instr.indexAt Instr.lookup Instr.mapUpdate Instr.box Instr.build Instr.buildSlice Instr.extract Instr.alloc Instr.field Instr.index Instr.sliceAt Instr.makeSlice Instr.makeMap Instr.makeFunc binS Op.unary Sem.run
open Go.Proofs.Ytjjmlopmemmobaa.L Go.Shelf
def joinQ (w0 : World) (F : List Nat) (L : List Res) (b : Nat) (r : Int × CS) (v : Value) (w' : World) : Prop := v = .int .i64 r.1 ∧ ∃ X', St w0 F w' (coopL 94 b r.2 X' ++ L)
theorem join_ret {w0 w : World} {F : List Nat} {L : List Res} {b c : Nat} {s : CS} {X : CA} {A : Option Addr} {l : List Int} (hs : CPre s) (hl : l.length ≤ 1000) (hS : St w0 F w (coopL 94 b s X ++ L)) (hA : Bes w0 F (coopL 94 b s X ++ L) 1 A l.length (ints l)) :
    Ret Try.prog 24 #[.pointer (some ⟨b, 0, none⟩), .slice A l.length c] w (joinQ w0 F L b (joinS s l)) := by
  have hM8 := hs.len
  refine s24 _ _ ?_
  unfold m24
  unfold m24_0
  unfold m24_1
  first | refine valP_ok (eq23n _ _ _) ?_ | refine valP_ok (eq23s _ _ _ _) ?_
  refine cond_f rfl ?_
  refine builtin_ok (len28 _) ?_
  refine valP_ok (eq3 _ _ _ _ _) ?_
  first | refine pick_dt (by first | assumption | omega) ?_ | refine pick_df (by first | assumption | omega) ?_ | refine pick_t (by first | rfl | assumption) ?_ | refine pick_f (by first | rfl | assumption) ?_ | refine pick_dt rfl ?_ | refine pick_df (not_not_intro rfl) ?_
  unfold m24_22
  unfold joinS
  refine cond_split (fun h => ?_) (fun h => ?_)
  · unfold m24_23
    rw [if_pos (List.eq_nil_of_length_eq_zero (by omega))]
    exact ⟨rfl, X, hS⟩
  rw [if_neg (fun e => h (by rw [e]; rfl))]
  unfold m24_2
  refine nil_ok ?_
  first | refine valP_ok (fa94_1 _ _) ?_ | refine valP_ok (fao94_1 _ _ _) ?_
  first | refine valP_ok (ld28 (hS.cell 0 rfl rfl)) ?_ | refine valP_ok (ld28 (hS.cell 1 rfl rfl)) ?_ | refine valP_ok (ld28 (hS.cell 2 rfl rfl)) ?_ | refine valP_ok (ld28 (hS.cell 3 rfl rfl)) ?_ | refine valP_ok (ld28 (hS.cell 4 rfl rfl)) ?_ | refine valP_ok (ld28 (by assumption)) ?_
  refine callR (by kernel_rfl) (clone_ret 1 hS rfl (by omega)) ?_
  rintro v w ⟨A1, c1, rfl, hS⟩
  unfold m24_3
  refine builtin_ok (len28 _) ?_
  unfold m24_11
  refine loop_in (fun u w' => ∃ (p : Nat) (M1 : List Int) (A' : Option Addr) (c' : Nat), u = (.slice A' M1.length c', .int .i64 p) ∧ p ≤ l.length ∧ addL s.M l = addL M1 (l.drop p) ∧ M1.length ≤ 8 + p ∧ St w0 F w' (irow (.slice A' M1.length c') M1 :: (coopL 94 b s X ++ L))) (fun u _ => l.length - (intOf u.2).toNat)
    ⟨0, s.M, A1, c1, rfl, by omega, by rw [List.drop_zero], by omega, hS⟩ ?_
  clear hS
  rintro u w ⟨p, M1, A1, c1, rfl, hp, had, hml, hS⟩
  unfold m24_12
  refine valP_ok (lss_ok _ _ _ _ _ _ _) ?_
  unfold m24_13
  refine cond_split (fun h => ?_) (fun h => ?_)
  · have hlt : p < l.length := by omega
    have hr := hA w _ hS (fun r hr => .tail _ hr)
    obtain ⟨g, o, rfl⟩ := hr.some_ (by omega) (by omega)
    have hc := hr.cell_ (ints_get hlt)
    rw [List.drop_eq_getElem_cons hlt, addL_cons] at had
    have fin : ∀ (t : Bool) (K : Value × Value → World → Prop), (t = true ↔ (l[p] < 1 ∨ 1099511627776 < l[p])) →
        (addL s.M l = addL (M1 ++ [l[p]]) (l.drop (p + 1)) → ∀ A' c' w', St w0 F w' (irow (.slice A' (M1 ++ [l[p]]).length c') (M1 ++ [l[p]]) :: (coopL 94 b s X ++ L)) → K (.slice A' (M1 ++ [l[p]]).length c', .int .i64 ((p + 1 : Nat) : Int)) w') →
        m24_18 (joinQ w0 F L b (joinF s (addL s.M l))) K (.pointer (some ⟨b, 0, none⟩)) (.slice A1 M1.length c1) (.int .i64 l[p]) (.slice (some ⟨g, o, none⟩) l.length c) (.int .i64 l.length) (.int .i64 p) (.bool t) w := fun t K ht hK => by
      unfold m24_18
      refine cond_bsplit (fun h1 => ?_) (fun h1 => ?_)
      · rw [if_pos (ht.1 h1)] at had
        unfold m24_19
        rw [had]
        exact ⟨rfl, X, hS.tail⟩
      rw [if_neg (fun h => by rw [ht.2 h] at h1; cases h1)] at had
      refine callR (by kernel_rfl) (contains_ret A1 c1 M1 l[p] w (hS.row_rd 0 rfl) (by omega)) ?_
      rintro v w ⟨rfl, rfl⟩
      unfold m24_20
      refine cond_split (fun hm => ?_) (fun hm => ?_)
      · rw [if_pos hm] at had
        unfold m24_21
        rw [had]
        exact ⟨rfl, X, hS.tail⟩
      · rw [if_neg hm] at had
        unfold m24_17
        refine newslice_ok (bs28_1 rfl _) hS ?_
        intro b39 w hS
        refine append_one 0 (by omega) hS rfl ?_
        intro A2 c2 w' hS
        simp only [List.set_cons_zero] at hS
        unfold m24_15
        refine valP_ok (add_ok _ _ _ (by omega) (by omega) _) ?_
        exact hK had A2 c2 _ hS
    unfold m24_14
    first | refine valP_ok (ixz28 (by first | assumption | omega) _) ?_ | refine valP_ok (ix28 (by first | assumption | omega) _) ?_
    first | refine valP_ok (ld3 (hS.cell 0 rfl rfl)) ?_ | refine valP_ok (ld3 (hS.cell 1 rfl rfl)) ?_ | refine valP_ok (ld3 (hS.cell 2 rfl rfl)) ?_ | refine valP_ok (ld3 (hS.cell 3 rfl rfl)) ?_ | refine valP_ok (ld3 (hS.cell 4 rfl rfl)) ?_ | refine valP_ok (ld3 (by assumption)) ?_
    unfold m24_16
    refine valP_ok (lss_ok _ _ _ _ _ _ _) ?_
    refine cond_split (fun h1 => ?_) (fun h1 => ?_)
    · first | refine pick_dt (by first | assumption | omega) ?_ | refine pick_df (by first | assumption | omega) ?_ | refine pick_t (by first | rfl | assumption) ?_ | refine pick_f (by first | rfl | assumption) ?_ | refine pick_dt rfl ?_ | refine pick_df (not_not_intro rfl) ?_
      exact fin true _ ⟨fun _ => .inl h1, fun _ => rfl⟩ (fun had A' c' w' hS => ⟨⟨p + 1, _, A', c', rfl, by omega, had, by simp; omega, hS⟩, by simp [intOf]; omega⟩)
    · refine valP_ok (gtr_ok _ _ _ _ _ _ _) ?_
      first | refine pick_dt (by first | assumption | omega) ?_ | refine pick_df (by first | assumption | omega) ?_ | refine pick_t (by first | rfl | assumption) ?_ | refine pick_f (by first | rfl | assumption) ?_ | refine pick_dt rfl ?_ | refine pick_df (not_not_intro rfl) ?_
      exact fin _ _ (by simp; omega) (fun had A' c' w' hS => ⟨⟨p + 1, _, A', c', rfl, by omega, had, by simp; omega, hS⟩, by simp [intOf]; omega⟩)
  · have hpe : p = l.length := by omega
    rw [hpe, List.drop_length] at had
    have hj0 : joinF s (addL s.M l) = if 8 < M1.length then (5, s) else (0, turned { s with M := sortL M1 }) := by rw [had]; rfl
    unfold m24_4
    refine builtin_ok (len28 _) ?_
    refine valP_ok (gtr_ok _ _ _ _ _ _ _) ?_
    unfold m24_9
    refine cond_split (fun h8 => ?_) (fun h8 => ?_)
    · rw [hj0, if_pos (by omega)]
      unfold m24_10
      exact ⟨rfl, X, hS.tail⟩
    rw [hj0, if_neg (by omega)]
    have hpre := add_pre (l := l) hs (by rw [had]; rfl) (by rw [had]; show ¬ 8 < M1.length; omega)
    rw [had] at hpre
    have hpre : CPre { s with M := sortL M1 } := hpre
    unfold m24_5
    refine callR (by kernel_rfl) (values_ret A1 M1.length c1 w) ?_
    rintro v w1 ⟨rfl, hw1⟩
    have hS1 : St w0 F w1 (Res.cells w.heap.size 28 [.slice A1 M1.length c1] :: irow (.slice A1 M1.length c1) M1 :: (coopL 94 b s X ++ L)) := by rw [hw1]; exact hS.alloc 28 [.slice A1 M1.length c1]
    have hlt : w.heap.size < w1.heap.size := by rw [hw1]; simp
    have hI := ints_at (hS1.row_rd 1 rfl)
    refine callR (by kernel_rfl) (sorted_ret w.heap.size A1 c1 M1 w1 (by omega) hlt (hS1.cell 0 rfl rfl) hI) ?_
    rintro v w2 ⟨hrow, hb2⟩
    have hS := hS1.row_add (Chg.of_below hb2 []) hrow
    obtain ⟨A3, c3, rfl, _⟩ := hS.row_form 0 rfl
    refine nil_ok ?_
    first | refine valP_ok (fa94_1 _ _) ?_ | refine valP_ok (fao94_1 _ _ _) ?_
    first | refine store_at 0 st28 hS rfl (by simp) rfl ?_ | refine store_at 1 st28 hS rfl (by simp) rfl ?_ | refine store_at 2 st28 hS rfl (by simp) rfl ?_ | refine store_at 3 st28 hS rfl (by simp) rfl ?_ | refine store_at 4 st28 hS rfl (by simp) rfl ?_
    intro w hS
    simp only [List.set_cons_zero, List.set_cons_succ] at hS
    have hS3 : St w0 F w (coopL 94 b { s with M := sortL M1 } ⟨A3, c3, X.h, X.ch, X.q, X.cq⟩ ++ L) := by
      have h1 := hS.pick 7 [3, 0, 5, 6] (by simp) (by decide)
      show St w0 F w ([_, _, _, _] ++ L)
      simp only [coopC, irow, sortL_len]
      exact h1
    unfold m24_6
    refine callR (by kernel_rfl) (turn_ret hpre hS3) ?_
    rintro v w ⟨X', hS⟩
    unfold m24_7 m24_8
    exact ⟨rfl, X', hS⟩

end Go.Proofs.Ytjjmlopmemmobaa.M
