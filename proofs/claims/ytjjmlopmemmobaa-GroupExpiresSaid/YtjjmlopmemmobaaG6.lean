/- What group's Sync, Beat, May come to. -/
import Derived.Test.YtjjmlopmemmobaaG5
namespace Go.Proofs.Ytjjmlopmemmobaa.M
open Go.Proofs.Ytjjmlopmemmobaa.F Go.RowKit
set_option linter.unusedVariables false
set_option linter.unusedSimpArgs false
set_option maxRecDepth 100000
set_option maxHeartbeats 2000000
attribute [local irreducible] Res.cells Res.row Res.map Res.any World.cell? World.frozen? Instr.fieldAt Instr.loadAt Instr.storeAt Instr.indexAt Instr.lookup Instr.mapUpdate Instr.box Instr.build Instr.buildSlice Instr.extract Instr.alloc Instr.field Instr.index Instr.sliceAt Instr.makeSlice Instr.makeMap Instr.makeFunc binS Op.unary Sem.run
open Go.Proofs.Ytjjmlopmemmobaa.L Go.Shelf
theorem heard_St {w0 w : World} {F : List Nat} {L : List Res} {b i g cm : Nat} {s : GS} {o : Option Addr} {co : Nat} (hi : i < s.L.length) (hS : St w0 F w (Res.cells b 103 [.int .i64 s.parts, .bool s.sticky, .int .i64 s.g, .int .i64 s.n, .int .i64 s.now, .slice (some ⟨g, 0, none⟩) s.L.length cm, .slice o s.O.length co] :: mrow (.slice (some ⟨g, 0, none⟩) (s.L.set i ⟨s.L[i].id, s.L[i].wk, s.now + 12⟩).length cm) (s.L.set i ⟨s.L[i].id, s.L[i].wk, s.now + 12⟩) :: irow (.slice o s.O.length co) s.O :: L)) :
    St w0 F w (grpL 103 b (heard s i) ⟨some ⟨g, 0, none⟩, cm, o, co⟩ ++ L) := by
  show St w0 F w ([_, _, _] ++ L)
  simp only [grpC, heard, heardL_at hi, List.length_set]
  simp only [List.length_set] at hS
  exact hS
theorem gsync_ret {w0 w : World} {F : List Nat} {L : List Res} {b T : Nat} {s : GS} {X : GA} {id : Int} (hT : T < 900) (hs : GOk T s) (hS : St w0 F w (grpL 103 b s X ++ L)) :
    Ret Try.prog 41 #[.pointer (some ⟨b, 0, none⟩), .int .i64 id] w fun v w' => ∃ A c, v = .tuple #[.int .i64 (syncA s id).1, .slice A (syncA s id).2.1.length c, .int .i64 (syncA s id).2.2] ∧ St w0 F w' (irow (.slice A (syncA s id).2.1.length c) (syncA s id).2.1 :: (grpL 103 b (syncG s id) X ++ L)) := by
  have hlen := hs.len
  have hnow := hs.now0
  have hol := hs.olen
  have hp := hs.parts
  refine s41 _ _ ?_
  unfold m41
  unfold m41_0
  unfold m41_1
  refine callR (by kernel_rfl) (find_ret (by omega) hS id) ?_
  rintro v w ⟨hv, rfl⟩
  unfold FoundM at hv
  unfold syncA syncG
  split at hv
  · rename_i ha
    subst hv
    unfold m41_2
    first | refine valP_ok (eq105n _ _ _) ?_ | refine valP_ok (eq105s _ _ _ _) ?_
    unfold m41_15
    refine cond_t rfl ?_
    unfold m41_16
    rw [ha]
    exact ⟨none, 0, rfl, hS.row_nil 3 1⟩
  rename_i i ha
  obtain ⟨g, hX, hi, rfl⟩ := hv
  rw [ha]
  obtain ⟨m, cm, o, co⟩ := X
  simp only at hX
  subst hX
  unfold m41_2
  first | refine valP_ok (eq105n _ _ _) ?_ | refine valP_ok (eq105s _ _ _ _) ?_
  unfold m41_15
  refine cond_f rfl ?_
  simp only
  unfold m41_3
  refine nil_ok ?_
  first | refine valP_ok (fa103_4 _ _) ?_ | refine valP_ok (fao103_4 _ _ _) ?_
  first | refine valP_ok (ld3 (hS.cell 0 rfl rfl)) ?_ | refine valP_ok (ld3 (hS.cell 1 rfl rfl)) ?_ | refine valP_ok (ld3 (hS.cell 2 rfl rfl)) ?_ | refine valP_ok (ld3 (hS.cell 3 rfl rfl)) ?_ | refine valP_ok (ld3 (hS.cell 4 rfl rfl)) ?_ | refine valP_ok (ld3 (by assumption)) ?_
  refine valP_ok (add_ok _ _ _ (by omega) (by omega) _) ?_
  refine nil_ok ?_
  first | refine valP_ok (fa69_2 _ _) ?_ | refine valP_ok (fao69_2 _ _ _) ?_
  refine set_due 1 hS rfl hi ?_
  intro w hS
  simp only [List.cons_append, List.nil_append, List.set_cons_zero, List.set_cons_succ] at hS
  have hS := heard_St hi hS
  unfold m41_4
  have hS := hS.row_nil 3 1
  unfold m41_5
  refine nil_ok ?_
  first | refine valP_ok (fa103_6 _ _) ?_ | refine valP_ok (fao103_6 _ _ _) ?_
  first | refine valP_ok (ld28 (hS.cell 0 rfl rfl)) ?_ | refine valP_ok (ld28 (hS.cell 1 rfl rfl)) ?_ | refine valP_ok (ld28 (hS.cell 2 rfl rfl)) ?_ | refine valP_ok (ld28 (hS.cell 3 rfl rfl)) ?_ | refine valP_ok (ld28 (hS.cell 4 rfl rfl)) ?_ | refine valP_ok (ld28 (by assumption)) ?_
  refine builtin_ok (len28 _) ?_
  unfold m41_8
  refine loop_in (fun u w' => ∃ (p : Nat) (A : Option Addr) (c : Nat), u = (.slice A (ownFrom id 0 (s.O.take p)).length c, .int .i64 p) ∧ p ≤ s.O.length ∧ St w0 F w' (irow (.slice A (ownFrom id 0 (s.O.take p)).length c) (ownFrom id 0 (s.O.take p)) :: (grpL 103 b (heard s i) ⟨some ⟨g, 0, none⟩, cm, o, co⟩ ++ L))) (fun u _ => s.O.length - (intOf u.2).toNat) ⟨0, none, 0, rfl, by omega, hS⟩ ?_
  clear hS
  rintro u w ⟨p, A, c, rfl, hpl, hS⟩
  unfold m41_9
  refine valP_ok (lss_ok _ _ _ _ _ _ _) ?_
  unfold m41_10
  simp only
  refine cond_split (fun h => ?_) (fun h => ?_)
  · have hlt : p < s.O.length := by have : (p : Int) < s.O.length := h; omega
    obtain ⟨g2, hg2⟩ := hS.row_ptr 3 rfl (by show 0 < s.O.length; omega)
    simp only at hg2
    subst hg2
    have hc : w.cell? ⟨g2, p, none⟩ = some (.int .i64 s.O[p]) := hS.row_cell 3 rfl (ints_get (l := (heard s i).O) hlt)
    have hlo := ownFrom_len id (s.O.take p) 0
    rw [List.length_take] at hlo
    have htk := ownFrom_take id s.O p hlt
    unfold m41_11
    refine valP_ok (ixz28 hlt _) ?_
    refine valP_ok (ld3 hc) ?_
    unfold m41_13
    refine valP_ok (eq3 _ _ _ _ _) ?_
    unfold m41_14
    refine cond_split (fun e => ?_) (fun e => ?_)
    · refine newslice_ok (bs28_1 rfl _) hS ?_
      intro b39 w hS
      refine append_one 0 (by omega) hS rfl ?_
      intro A' c' w hS
      simp only [List.set_cons_zero] at hS
      rw [if_pos e] at htk
      rw [← htk] at hS
      unfold m41_12
      refine valP_ok (add_ok _ _ _ (by omega) (by omega) _) ?_
      rw [← htk]
      exact ⟨⟨p + 1, A', c', rfl, by omega, hS⟩, by simp [intOf]; omega⟩
    · rw [if_neg e, List.append_nil] at htk
      unfold m41_12
      refine valP_ok (add_ok _ _ _ (by omega) (by omega) _) ?_
      rw [← htk]
      rw [← htk] at hS
      exact ⟨⟨p + 1, A, c, rfl, by omega, hS⟩, by simp [intOf]; omega⟩
  · have hpe : p = s.O.length := by have : ¬ (p : Int) < s.O.length := h; omega
    subst hpe
    rw [List.take_length] at hS
    rw [List.take_length]
    unfold m41_6
    refine nil_ok ?_
    first | refine valP_ok (fa103_2 _ _) ?_ | refine valP_ok (fao103_2 _ _ _) ?_
    first | refine valP_ok (ld3 (hS.cell 0 rfl rfl)) ?_ | refine valP_ok (ld3 (hS.cell 1 rfl rfl)) ?_ | refine valP_ok (ld3 (hS.cell 2 rfl rfl)) ?_ | refine valP_ok (ld3 (hS.cell 3 rfl rfl)) ?_ | refine valP_ok (ld3 (hS.cell 4 rfl rfl)) ?_ | refine valP_ok (ld3 (by assumption)) ?_
    unfold m41_7
    exact ⟨A, c, rfl, hS⟩
theorem gbeat_ret {w0 w : World} {F : List Nat} {L : List Res} {b T : Nat} {s : GS} {X : GA} {id gen : Int} (hT : T < 900) (hs : GOk T s) (hS : St w0 F w (grpL 103 b s X ++ L)) :
    Ret Try.prog 48 #[.pointer (some ⟨b, 0, none⟩), .int .i64 id, .int .i64 gen] w fun v w' => v = .int .i64 (beatA s id gen) ∧ St w0 F w' (grpL 103 b (beatG s id gen) X ++ L) := by
  have hlen := hs.len
  have hnow := hs.now0
  refine s48 _ _ _ ?_
  unfold m48
  unfold m48_0
  unfold m48_1
  refine callR (by kernel_rfl) (find_ret (by omega) hS id) ?_
  rintro v w ⟨hv, rfl⟩
  unfold FoundM at hv
  unfold beatA beatG
  split at hv
  · rename_i ha
    subst hv
    unfold m48_2
    first | refine valP_ok (eq105n _ _ _) ?_ | refine valP_ok (eq105s _ _ _ _) ?_
    unfold m48_6
    refine cond_t rfl ?_
    unfold m48_7
    rw [ha]
    exact ⟨rfl, hS⟩
  rename_i i ha
  obtain ⟨g, hX, hi, rfl⟩ := hv
  rw [ha]
  obtain ⟨m, cm, o, co⟩ := X
  simp only at hX
  subst hX
  unfold m48_2
  first | refine valP_ok (eq105n _ _ _) ?_ | refine valP_ok (eq105s _ _ _ _) ?_
  unfold m48_6
  refine cond_f rfl ?_
  refine nil_ok ?_
  first | refine valP_ok (fa103_2 _ _) ?_ | refine valP_ok (fao103_2 _ _ _) ?_
  first | refine valP_ok (ld3 (hS.cell 0 rfl rfl)) ?_ | refine valP_ok (ld3 (hS.cell 1 rfl rfl)) ?_ | refine valP_ok (ld3 (hS.cell 2 rfl rfl)) ?_ | refine valP_ok (ld3 (hS.cell 3 rfl rfl)) ?_ | refine valP_ok (ld3 (hS.cell 4 rfl rfl)) ?_ | refine valP_ok (ld3 (by assumption)) ?_
  refine valP_ok (ne3 _ _ _ _ _) ?_
  unfold m48_8
  simp only
  refine cond_split (fun h => ?_) (fun h => ?_)
  · unfold m48_9
    rw [if_pos h, if_pos h]
    exact ⟨rfl, hS⟩
  rw [if_neg h, if_neg h]
  unfold m48_3
  refine nil_ok ?_
  first | refine valP_ok (fa103_4 _ _) ?_ | refine valP_ok (fao103_4 _ _ _) ?_
  first | refine valP_ok (ld3 (hS.cell 0 rfl rfl)) ?_ | refine valP_ok (ld3 (hS.cell 1 rfl rfl)) ?_ | refine valP_ok (ld3 (hS.cell 2 rfl rfl)) ?_ | refine valP_ok (ld3 (hS.cell 3 rfl rfl)) ?_ | refine valP_ok (ld3 (hS.cell 4 rfl rfl)) ?_ | refine valP_ok (ld3 (by assumption)) ?_
  refine valP_ok (add_ok _ _ _ (by omega) (by omega) _) ?_
  refine nil_ok ?_
  first | refine valP_ok (fa69_2 _ _) ?_ | refine valP_ok (fao69_2 _ _ _) ?_
  refine set_due 1 hS rfl hi ?_
  intro w hS
  simp only [List.cons_append, List.nil_append, List.set_cons_zero, List.set_cons_succ] at hS
  have hS := heard_St hi hS
  unfold m48_4 m48_5
  exact ⟨rfl, hS⟩
theorem gmay_ret {w0 w : World} {F : List Nat} {L : List Res} {b T : Nat} {s : GS} {X : GA} {id gen part : Int} (hT : T < 900) (hs : GOk T s) (hS : St w0 F w (grpL 103 b s X ++ L)) :
    Ret Try.prog 47 #[.pointer (some ⟨b, 0, none⟩), .int .i64 id, .int .i64 gen, .int .i64 part] w fun v w' => v = .int .i64 (mayA s id gen part) ∧ w' = w := by
  have hlen := hs.len
  have hol := hs.olen
  have hp := hs.parts
  refine s47 _ _ _ _ ?_
  unfold m47
  unfold m47_0
  unfold m47_1
  refine callR (by kernel_rfl) (find_ret (by omega) hS id) ?_
  rintro v w ⟨hv, rfl⟩
  unfold FoundM at hv
  unfold mayA
  split at hv
  · rename_i ha
    subst hv
    first | refine valP_ok (eq105n _ _ _) ?_ | refine valP_ok (eq105s _ _ _ _) ?_
    unfold m47_4
    refine cond_t rfl ?_
    unfold m47_5
    rw [ha]
    exact ⟨rfl, rfl⟩
  rename_i i ha
  obtain ⟨g, hX, hi, rfl⟩ := hv
  rw [ha]
  first | refine valP_ok (eq105n _ _ _) ?_ | refine valP_ok (eq105s _ _ _ _) ?_
  unfold m47_4
  refine cond_f rfl ?_
  refine nil_ok ?_
  first | refine valP_ok (fa103_2 _ _) ?_ | refine valP_ok (fao103_2 _ _ _) ?_
  first | refine valP_ok (ld3 (hS.cell 0 rfl rfl)) ?_ | refine valP_ok (ld3 (hS.cell 1 rfl rfl)) ?_ | refine valP_ok (ld3 (hS.cell 2 rfl rfl)) ?_ | refine valP_ok (ld3 (hS.cell 3 rfl rfl)) ?_ | refine valP_ok (ld3 (hS.cell 4 rfl rfl)) ?_ | refine valP_ok (ld3 (by assumption)) ?_
  refine valP_ok (ne3 _ _ _ _ _) ?_
  unfold m47_6
  simp only
  refine cond_split (fun h => ?_) (fun h => ?_)
  · unfold m47_7
    rw [if_pos h]
    exact ⟨rfl, rfl⟩
  rw [if_neg h]
  have yes : ∀ t, (part < 0 ∨ part ≥ s.parts ∨ s.O[part.toNat]? ≠ some id) → t = true → m47_8 (fun v w' => v = .int .i64 (if part < 0 ∨ part ≥ s.parts ∨ s.O[part.toNat]? ≠ some id then 13 else 0) ∧ w' = w) (.bool t) w := fun t hb ht => by
    unfold m47_8
    refine cond_t ht ?_
    unfold m47_9
    rw [if_pos hb]
    exact ⟨rfl, rfl⟩
  refine valP_ok (lss_ok _ _ _ _ _ _ _) ?_
  refine cond_split (fun h1 => ?_) (fun h1 => ?_)
  · first | refine pick_dt (by first | assumption | omega) ?_ | refine pick_df (by first | assumption | omega) ?_ | refine pick_t (by first | rfl | assumption) ?_ | refine pick_f (by first | rfl | assumption) ?_ | refine pick_dt rfl ?_ | refine pick_df (not_not_intro rfl) ?_
    refine cond_t (by simp [h1]) ?_
    first | refine pick_dt (by first | assumption | omega) ?_ | refine pick_df (by first | assumption | omega) ?_ | refine pick_t (by first | rfl | assumption) ?_ | refine pick_f (by first | rfl | assumption) ?_ | refine pick_dt rfl ?_ | refine pick_df (not_not_intro rfl) ?_
    exact yes _ (.inl h1) (by simp [h1])
  refine nil_ok ?_
  first | refine valP_ok (fa103_0 _ _) ?_ | refine valP_ok (fao103_0 _ _ _) ?_
  first | refine valP_ok (ld3 (hS.cell 0 rfl rfl)) ?_ | refine valP_ok (ld3 (hS.cell 1 rfl rfl)) ?_ | refine valP_ok (ld3 (hS.cell 2 rfl rfl)) ?_ | refine valP_ok (ld3 (hS.cell 3 rfl rfl)) ?_ | refine valP_ok (ld3 (hS.cell 4 rfl rfl)) ?_ | refine valP_ok (ld3 (by assumption)) ?_
  refine valP_ok (geq_ok _ _ _ _ _ _ _) ?_
  first | refine pick_dt (by first | assumption | omega) ?_ | refine pick_df (by first | assumption | omega) ?_ | refine pick_t (by first | rfl | assumption) ?_ | refine pick_f (by first | rfl | assumption) ?_ | refine pick_dt rfl ?_ | refine pick_df (not_not_intro rfl) ?_
  refine cond_split (fun h2 => ?_) (fun h2 => ?_)
  · first | refine pick_dt (by first | assumption | omega) ?_ | refine pick_df (by first | assumption | omega) ?_ | refine pick_t (by first | rfl | assumption) ?_ | refine pick_f (by first | rfl | assumption) ?_ | refine pick_dt rfl ?_ | refine pick_df (not_not_intro rfl) ?_
    exact yes _ (.inr (.inl h2)) (by simp [h2])
  have hlt : part.toNat < s.O.length := by omega
  have ep : part = ((part.toNat : Nat) : Int) := by rw [Int.toNat_of_nonneg (by omega)]
  obtain ⟨m, cm, o, co⟩ := X
  obtain ⟨g2, hg2⟩ := hS.row_ptr 2 rfl (by omega)
  simp only at hg2
  subst hg2
  have hc : w.cell? ⟨g2, part.toNat, none⟩ = some (.int .i64 s.O[part.toNat]) := hS.row_cell 2 rfl (ints_get hlt)
  refine nil_ok ?_
  first | refine valP_ok (fa103_6 _ _) ?_ | refine valP_ok (fao103_6 _ _ _) ?_
  first | refine valP_ok (ld28 (hS.cell 0 rfl rfl)) ?_ | refine valP_ok (ld28 (hS.cell 1 rfl rfl)) ?_ | refine valP_ok (ld28 (hS.cell 2 rfl rfl)) ?_ | refine valP_ok (ld28 (hS.cell 3 rfl rfl)) ?_ | refine valP_ok (ld28 (hS.cell 4 rfl rfl)) ?_ | refine valP_ok (ld28 (by assumption)) ?_
  rw [ep]
  refine valP_ok (ixz28 hlt _) ?_
  refine valP_ok (ld3 hc) ?_
  rw [← ep]
  refine valP_ok (ne3 _ _ _ _ _) ?_
  first | refine pick_dt (by first | assumption | omega) ?_ | refine pick_df (by first | assumption | omega) ?_ | refine pick_t (by first | rfl | assumption) ?_ | refine pick_f (by first | rfl | assumption) ?_ | refine pick_dt rfl ?_ | refine pick_df (not_not_intro rfl) ?_
  have hget : s.O[part.toNat]? = some s.O[part.toNat] := List.getElem?_eq_getElem hlt
  by_cases h3 : s.O[part.toNat] = id
  · unfold m47_8
    refine cond_df (not_not_intro h3) ?_
    unfold m47_2 m47_3
    rw [if_neg]
    · exact ⟨rfl, rfl⟩
    · rintro (h | h | h)
      · exact h1 h
      · exact h2 h
      · exact h (by rw [hget, h3])
  · exact yes _ (.inr (.inr fun h => h3 (by rw [hget] at h; injection h))) (decide_eq_true h3)

end Go.Proofs.Ytjjmlopmemmobaa.M
