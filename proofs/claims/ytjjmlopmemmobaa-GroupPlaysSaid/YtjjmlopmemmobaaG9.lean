/- What the document's group comes to: Leave, Sync, Beat, May. -/
import Derived.Test.YtjjmlopmemmobaaG8
namespace Go.Proofs.Ytjjmlopmemmobaa.M
open Go.Proofs.Ytjjmlopmemmobaa.F Go.RowKit
set_option linter.unusedVariables false
set_option linter.unusedSimpArgs false
set_option maxRecDepth 100000
set_option maxHeartbeats 2000000
attribute [local irreducible] Res.cells Res.row Res.map Res.any World.cell? World.frozen? Instr.fieldAt Instr.loadAt Instr.storeAt Instr.indexAt Instr.lookup Instr.mapUpdate Instr.box Instr.build Instr.buildSlice Instr.extract Instr.alloc Instr.field Instr.index Instr.sliceAt Instr.makeSlice Instr.makeMap Instr.makeFunc binS Op.unary Sem.run
open Go.Proofs.Ytjjmlopmemmobaa.L Go.Shelf
theorem rdM_take {w : World} {A : Option Addr} {l : List Mem} (k : Nat) (h : Rd w 3 A l.length (l.flatMap encM)) : Rd w 3 A (l.take k).length ((l.take k).flatMap encM) := by
  refine ⟨flatM_len _, fun hp => ?_⟩
  have hf : (l.take k).flatMap encM = (l.flatMap encM).take (k * 3) := (flatM_take l k).symm
  have hp2 : 0 < (l.flatMap encM).length := by
    rw [flatM_len] at hp ⊢
    rw [List.length_take] at hp
    omega
  obtain ⟨g, o, hA, hc⟩ := h.2 hp2
  refine ⟨g, o, hA, fun j u hj => hc j u ?_⟩
  rw [hf, List.getElem?_take] at hj
  split at hj
  · exact hj
  · cases hj
theorem flatM_drop : ∀ (l : List Mem) (i : Nat), (l.flatMap encM).drop (i * 3) = (l.drop i).flatMap encM
  | l, 0 => by simp
  | [], i + 1 => by simp
  | a :: l, i + 1 => by
    rw [show (i + 1) * 3 = i * 3 + 1 + 1 + 1 by omega]
    show (l.flatMap encM).drop (i * 3) = _
    rw [flatM_drop l i]
    rfl
theorem rdM_drop {w : World} {A : Option Addr} {l : List Mem} {c : Nat} (k : Nat) (hk : k ≤ l.length) (hc : l.length ≤ c) (h : Rd w 3 A l.length (l.flatMap encM)) : Rd w 3 (if c = k then A else A.map (·.add (k * 3))) (l.drop k).length ((l.drop k).flatMap encM) := by
  refine ⟨flatM_len _, fun hp => ?_⟩
  rw [flatM_len, List.length_drop] at hp
  have hp2 : 0 < (l.flatMap encM).length := by
    rw [flatM_len]
    omega
  obtain ⟨g, o, hA, hcc⟩ := h.2 hp2
  rw [if_neg (by omega), hA]
  refine ⟨g, o + k * 3, by simp [Addr.add], fun j u hj => ?_⟩
  rw [← flatM_drop, List.getElem?_drop] at hj
  rw [Nat.add_assoc]
  exact hcc _ u hj
theorem erase_filter {id : Int} : ∀ {l : List Mem} {i : Nat}, l.Pairwise (fun a b => a.id < b.id) → atL l id = some i → l.take i ++ l.drop (i + 1) = l.filter fun m => !decide (m.id = id)
  | [], i, _, h => by cases h
  | a :: l, i, hr, h => by
    obtain ⟨ha, hr⟩ := List.pairwise_cons.1 hr
    unfold atL at h
    split at h
    · rename_i e
      injection h with h
      subst h
      rw [List.filter_cons, if_neg (by rw [decide_eq_true e]; decide)]
      simp only [List.take_zero, List.nil_append, List.drop_succ_cons, List.drop_zero]
      rw [List.filter_eq_self.2]
      intro m hm
      have := ha m hm
      rw [decide_eq_false (by omega)]
      rfl
    · rename_i e
      cases hh : atL l id with
      | none => rw [hh] at h; cases h
      | some j =>
        rw [hh] at h
        injection h with h
        simp only at h
        subst h
        rw [List.filter_cons, if_pos (by rw [decide_eq_false e]; rfl), ← erase_filter hr hh]
        rfl
theorem rleave_ret {w0 w : World} {F : List Nat} {L : List Res} {b T : Nat} {s : GS} {X : GA} {id : Int} (hT : T < 900) (hs : GOk T s) (hS : St w0 F w (grpL 86 b s X ++ L)) :
    Ret Try.prog 79 #[.pointer (some ⟨b, 0, none⟩), .int .i64 id] w fun v w' => v = .int .i64 (leaveA s id) ∧ ∃ X', St w0 F w' (grpL 86 b (leaveG s id) X' ++ L) := by
  have hlen := hs.len
  refine s79 _ _ ?_
  unfold m79
  unfold m79_0
  unfold m79_1
  refine callR (by kernel_rfl) (at_ret (by omega) hS id) ?_
  rintro v w ⟨hv, rfl⟩
  unfold leaveA leaveG
  split at hv
  · rename_i ha
    subst hv
    unfold m79_2
    refine valP_ok (lss_ok _ _ _ _ _ _ _) ?_
    unfold m79_13
    refine cond_dt (by decide) ?_
    unfold m79_14
    rw [ha]
    exact ⟨rfl, X, hS⟩
  rename_i i ha
  subst hv
  rw [ha]
  obtain ⟨hi, -, -⟩ := atL_spec ha
  have hef := erase_filter hs.rise ha
  unfold m79_2
  refine valP_ok (lss_ok _ _ _ _ _ _ _) ?_
  unfold m79_13
  refine cond_df (by omega) ?_
  unfold m79_3
  refine nil_ok ?_
  first | refine valP_ok (fa86_2 _ _) ?_ | refine valP_ok (fao86_2 _ _ _) ?_
  first | refine valP_ok (ld3 (hS.cell 0 rfl rfl)) ?_ | refine valP_ok (ld3 (hS.cell 1 rfl rfl)) ?_ | refine valP_ok (ld3 (hS.cell 2 rfl rfl)) ?_ | refine valP_ok (ld3 (hS.cell 3 rfl rfl)) ?_ | refine valP_ok (ld3 (hS.cell 4 rfl rfl)) ?_ | refine valP_ok (ld3 (by assumption)) ?_
  refine valP_ok (geq_ok _ _ _ _ _ _ _) ?_
  unfold m79_11
  refine cond_split (fun h => ?_) (fun h => ?_)
  · unfold m79_12
    simp only
    rw [if_pos h, if_pos h]
    exact ⟨rfl, X, hS⟩
  simp only
  rw [if_neg (by omega), if_neg (by omega)]
  obtain ⟨m, cm, o, co⟩ := X
  unfold m79_4
  have hS := hS.row_nil 69 3
  have hmx := hS.row_max 2 rfl
  unfold m79_5
  refine nil_ok ?_
  first | refine valP_ok (fa86_5 _ _) ?_ | refine valP_ok (fao86_5 _ _ _) ?_
  first | refine valP_ok (ld66 (hS.cell 0 rfl rfl)) ?_ | refine valP_ok (ld66 (hS.cell 1 rfl rfl)) ?_ | refine valP_ok (ld66 (hS.cell 2 rfl rfl)) ?_ | refine valP_ok (ld66 (hS.cell 3 rfl rfl)) ?_ | refine valP_ok (ld66 (hS.cell 4 rfl rfl)) ?_ | refine valP_ok (ld66 (by assumption)) ?_
  refine valP_ok (sh66 (by omega) _) ?_
  have hti : (s.L.take i).length = i := by rw [List.length_take]; omega
  have hr := rdM_take i (hS.row_rd (A := m) (n := s.L.length) 2 rfl)
  have hz := mrow_nilcap (l := s.L) 2 hS rfl
  rw [show (Value.slice m i cm) = Value.slice m (s.L.take i).length cm by rw [hti]]
  refine append_anyM (l0 := []) 0 (by simp) (by omega) hS rfl hr hz ?_
  intro A1 c1 w hS
  simp only [List.set_cons_zero, List.nil_append] at hS
  rw [List.nil_append]
  have hr := rdM_drop (c := cm) (i + 1) hi hmx.1 (hS.row_rd (A := m) (n := s.L.length) 2 rfl)
  unfold m79_6
  refine nil_ok ?_
  first | refine valP_ok (fa86_5 _ _) ?_ | refine valP_ok (fao86_5 _ _ _) ?_
  first | refine valP_ok (ld66 (hS.cell 0 rfl rfl)) ?_ | refine valP_ok (ld66 (hS.cell 1 rfl rfl)) ?_ | refine valP_ok (ld66 (hS.cell 2 rfl rfl)) ?_ | refine valP_ok (ld66 (hS.cell 3 rfl rfl)) ?_ | refine valP_ok (ld66 (hS.cell 4 rfl rfl)) ?_ | refine valP_ok (ld66 (by assumption)) ?_
  refine valP_ok (add_ok _ _ _ (by omega) (by omega) _) ?_
  refine valP_ok (so66 hi hmx.1 _) ?_
  have hdl : (s.L.drop (i + 1)).length = s.L.length - (i + 1) := List.length_drop
  rw [← hdl]
  refine append_anyM (l0 := s.L.take i) 0 (by omega) (by omega) hS rfl hr (fun hA => ?_) ?_
  · cases m with
    | none => have := hz rfl; omega
    | some a => split at hA <;> cases hA
  intro A2 c2 w hS
  simp only [List.set_cons_zero] at hS
  rw [hef] at hS
  rw [hef]
  unfold m79_7
  refine nil_ok ?_
  first | refine valP_ok (fa86_5 _ _) ?_ | refine valP_ok (fao86_5 _ _ _) ?_
  first | refine store_at 0 st66 hS rfl (by simp) rfl ?_ | refine store_at 1 st66 hS rfl (by simp) rfl ?_ | refine store_at 2 st66 hS rfl (by simp) rfl ?_ | refine store_at 3 st66 hS rfl (by simp) rfl ?_ | refine store_at 4 st66 hS rfl (by simp) rfl ?_
  intro w hS
  simp only [List.set_cons_zero, List.set_cons_succ] at hS
  have hS : St w0 F w (grpL 86 b { s with L := s.L.filter fun m => !decide (m.id = id) } ⟨A2, c2, o, co⟩ ++ L) := hS.pick 4 [1, 0, 3] (by simp) (by decide)
  have hf := hs.fewer (fun m => !decide (m.id = id))
  unfold m79_8
  refine callR (by kernel_rfl) (rbegin_ret (hf.pre (by omega)) hS) ?_
  rintro v w ⟨X', hS⟩
  unfold m79_9 m79_10
  exact ⟨rfl, X', hS⟩
theorem rsync_ret {w0 w : World} {F : List Nat} {L : List Res} {b T : Nat} {s : GS} {X : GA} {id : Int} (hT : T < 900) (hs : GOk T s) (hS : St w0 F w (grpL 86 b s X ++ L)) :
    Ret Try.prog 77 #[.pointer (some ⟨b, 0, none⟩), .int .i64 id] w fun v w' => ∃ A c, v = .tuple #[.int .i64 (syncA s id).1, .slice A (syncA s id).2.1.length c, .int .i64 (syncA s id).2.2] ∧ St w0 F w' (irow (.slice A (syncA s id).2.1.length c) (syncA s id).2.1 :: (grpL 86 b (syncG s id) X ++ L)) := by
  have hlen := hs.len
  have hnow := hs.now0
  have hol := hs.olen
  have hp := hs.parts
  refine s77 _ _ ?_
  unfold m77
  unfold m77_0
  unfold m77_1
  refine callR (by kernel_rfl) (at_ret (by omega) hS id) ?_
  rintro v w ⟨hv, rfl⟩
  unfold syncA syncG
  split at hv
  · rename_i ha
    subst hv
    unfold m77_2
    refine valP_ok (lss_ok _ _ _ _ _ _ _) ?_
    unfold m77_14
    refine cond_dt (by decide) ?_
    unfold m77_15
    rw [ha]
    exact ⟨none, 0, rfl, hS.row_nil 3 1⟩
  rename_i i ha
  subst hv
  rw [ha]
  obtain ⟨hi, -, -⟩ := atL_spec ha
  unfold m77_2
  refine valP_ok (lss_ok _ _ _ _ _ _ _) ?_
  unfold m77_14
  refine cond_df (by omega) ?_
  unfold m77_3
  refine callR (by kernel_rfl) (rheard_ret hT hs hi hS) ?_
  intro v w hS
  simp only
  unfold m77_4 m77_5 m77_8
  have hS := hS.row_nil 3 1
  refine loop_in (fun u w' => ∃ (p : Nat) (A : Option Addr) (c : Nat), u = (.slice A (ownFrom id 0 (s.O.take p)).length c, .int .i64 p) ∧ p ≤ s.O.length ∧ St w0 F w' (irow (.slice A (ownFrom id 0 (s.O.take p)).length c) (ownFrom id 0 (s.O.take p)) :: (grpL 86 b (heard s i) X ++ L))) (fun u _ => s.O.length - (intOf u.2).toNat) ⟨0, none, 0, rfl, by omega, hS⟩ ?_
  clear hS
  rintro u w ⟨p, A, c, rfl, hpl, hS⟩
  unfold m77_9
  refine nil_ok ?_
  first | refine valP_ok (fa86_6 _ _) ?_ | refine valP_ok (fao86_6 _ _ _) ?_
  first | refine valP_ok (ld28 (hS.cell 0 rfl rfl)) ?_ | refine valP_ok (ld28 (hS.cell 1 rfl rfl)) ?_ | refine valP_ok (ld28 (hS.cell 2 rfl rfl)) ?_ | refine valP_ok (ld28 (hS.cell 3 rfl rfl)) ?_ | refine valP_ok (ld28 (hS.cell 4 rfl rfl)) ?_ | refine valP_ok (ld28 (by assumption)) ?_
  refine builtin_ok (len28 _) ?_
  refine valP_ok (lss_ok _ _ _ _ _ _ _) ?_
  unfold m77_13
  simp only
  refine cond_split (fun h => ?_) (fun h => ?_)
  · have hlt : p < s.O.length := by have : (p : Int) < s.O.length := h; omega
    obtain ⟨m, cm, o, co⟩ := X
    obtain ⟨g2, hg2⟩ := hS.row_ptr 3 rfl (by show 0 < s.O.length; omega)
    simp only at hg2
    subst hg2
    have hc : w.cell? ⟨g2, p, none⟩ = some (.int .i64 s.O[p]) := hS.row_cell 3 rfl (ints_get (l := (heard s i).O) hlt)
    have hlo := ownFrom_len id (s.O.take p) 0
    rw [List.length_take] at hlo
    have htk := ownFrom_take id s.O p hlt
    unfold m77_10
    refine nil_ok ?_
    first | refine valP_ok (fa86_6 _ _) ?_ | refine valP_ok (fao86_6 _ _ _) ?_
    first | refine valP_ok (ld28 (hS.cell 0 rfl rfl)) ?_ | refine valP_ok (ld28 (hS.cell 1 rfl rfl)) ?_ | refine valP_ok (ld28 (hS.cell 2 rfl rfl)) ?_ | refine valP_ok (ld28 (hS.cell 3 rfl rfl)) ?_ | refine valP_ok (ld28 (hS.cell 4 rfl rfl)) ?_ | refine valP_ok (ld28 (by assumption)) ?_
    refine valP_ok (ixz28 hlt _) ?_
    refine valP_ok (ld3 hc) ?_
    refine valP_ok (eq3 _ _ _ _ _) ?_
    unfold m77_12
    refine cond_split (fun e => ?_) (fun e => ?_)
    · refine newslice_ok (bs28_1 rfl _) hS ?_
      intro b38 w hS
      refine append_one 0 (by omega) hS rfl ?_
      intro A' c' w hS
      simp only [List.set_cons_zero] at hS
      rw [if_pos e] at htk
      rw [← htk] at hS
      unfold m77_11
      refine valP_ok (add_ok _ _ _ (by omega) (by omega) _) ?_
      rw [← htk]
      exact ⟨⟨p + 1, A', c', rfl, by omega, hS⟩, by simp [intOf]; omega⟩
    · rw [if_neg e, List.append_nil] at htk
      unfold m77_11
      refine valP_ok (add_ok _ _ _ (by omega) (by omega) _) ?_
      rw [← htk]
      rw [← htk] at hS
      exact ⟨⟨p + 1, A, c, rfl, by omega, hS⟩, by simp [intOf]; omega⟩
  · have hpe : p = s.O.length := by have : ¬ (p : Int) < s.O.length := h; omega
    subst hpe
    rw [List.take_length] at hS
    rw [List.take_length]
    unfold m77_6
    refine nil_ok ?_
    first | refine valP_ok (fa86_2 _ _) ?_ | refine valP_ok (fao86_2 _ _ _) ?_
    first | refine valP_ok (ld3 (hS.cell 0 rfl rfl)) ?_ | refine valP_ok (ld3 (hS.cell 1 rfl rfl)) ?_ | refine valP_ok (ld3 (hS.cell 2 rfl rfl)) ?_ | refine valP_ok (ld3 (hS.cell 3 rfl rfl)) ?_ | refine valP_ok (ld3 (hS.cell 4 rfl rfl)) ?_ | refine valP_ok (ld3 (by assumption)) ?_
    unfold m77_7
    exact ⟨A, c, rfl, hS⟩
theorem rbeat_ret {w0 w : World} {F : List Nat} {L : List Res} {b T : Nat} {s : GS} {X : GA} {id gen : Int} (hT : T < 900) (hs : GOk T s) (hS : St w0 F w (grpL 86 b s X ++ L)) :
    Ret Try.prog 78 #[.pointer (some ⟨b, 0, none⟩), .int .i64 id, .int .i64 gen] w fun v w' => v = .int .i64 (beatA s id gen) ∧ St w0 F w' (grpL 86 b (beatG s id gen) X ++ L) := by
  have hlen := hs.len
  refine s78 _ _ _ ?_
  unfold m78
  unfold m78_0
  unfold m78_1
  refine callR (by kernel_rfl) (at_ret (by omega) hS id) ?_
  rintro v w ⟨hv, rfl⟩
  unfold beatA beatG
  split at hv
  · rename_i ha
    subst hv
    unfold m78_2
    refine valP_ok (lss_ok _ _ _ _ _ _ _) ?_
    unfold m78_9
    refine cond_dt (by decide) ?_
    unfold m78_10
    rw [ha]
    exact ⟨rfl, hS⟩
  rename_i i ha
  subst hv
  rw [ha]
  obtain ⟨hi, -, -⟩ := atL_spec ha
  unfold m78_2
  refine valP_ok (lss_ok _ _ _ _ _ _ _) ?_
  unfold m78_9
  refine cond_df (by omega) ?_
  unfold m78_3
  refine nil_ok ?_
  first | refine valP_ok (fa86_2 _ _) ?_ | refine valP_ok (fao86_2 _ _ _) ?_
  first | refine valP_ok (ld3 (hS.cell 0 rfl rfl)) ?_ | refine valP_ok (ld3 (hS.cell 1 rfl rfl)) ?_ | refine valP_ok (ld3 (hS.cell 2 rfl rfl)) ?_ | refine valP_ok (ld3 (hS.cell 3 rfl rfl)) ?_ | refine valP_ok (ld3 (hS.cell 4 rfl rfl)) ?_ | refine valP_ok (ld3 (by assumption)) ?_
  refine valP_ok (ne3 _ _ _ _ _) ?_
  unfold m78_7
  simp only
  refine cond_split (fun h => ?_) (fun h => ?_)
  · unfold m78_8
    rw [if_pos h, if_pos h]
    exact ⟨rfl, hS⟩
  rw [if_neg h, if_neg h]
  unfold m78_4
  refine callR (by kernel_rfl) (rheard_ret hT hs hi hS) ?_
  intro v w hS
  unfold m78_5 m78_6
  exact ⟨rfl, hS⟩
theorem rmay_ret {w0 w : World} {F : List Nat} {L : List Res} {b T : Nat} {s : GS} {X : GA} {id gen part : Int} (hT : T < 900) (hs : GOk T s) (hS : St w0 F w (grpL 86 b s X ++ L)) :
    Ret Try.prog 81 #[.pointer (some ⟨b, 0, none⟩), .int .i64 id, .int .i64 gen, .int .i64 part] w fun v w' => v = .int .i64 (mayA s id gen part) ∧ w' = w := by
  have hlen := hs.len
  have hol := hs.olen
  have hp := hs.parts
  refine s81 _ _ _ _ ?_
  unfold m81
  unfold m81_0
  unfold m81_1
  refine callR (by kernel_rfl) (at_ret (by omega) hS id) ?_
  rintro v w ⟨hv, rfl⟩
  unfold mayA
  split at hv
  · rename_i ha
    subst hv
    refine valP_ok (lss_ok _ _ _ _ _ _ _) ?_
    unfold m81_10
    refine cond_dt (by decide) ?_
    unfold m81_11
    rw [ha]
    exact ⟨rfl, rfl⟩
  rename_i i ha
  subst hv
  rw [ha]
  refine valP_ok (lss_ok _ _ _ _ _ _ _) ?_
  unfold m81_10
  refine cond_df (by omega) ?_
  unfold m81_2
  refine nil_ok ?_
  first | refine valP_ok (fa86_2 _ _) ?_ | refine valP_ok (fao86_2 _ _ _) ?_
  first | refine valP_ok (ld3 (hS.cell 0 rfl rfl)) ?_ | refine valP_ok (ld3 (hS.cell 1 rfl rfl)) ?_ | refine valP_ok (ld3 (hS.cell 2 rfl rfl)) ?_ | refine valP_ok (ld3 (hS.cell 3 rfl rfl)) ?_ | refine valP_ok (ld3 (hS.cell 4 rfl rfl)) ?_ | refine valP_ok (ld3 (by assumption)) ?_
  refine valP_ok (ne3 _ _ _ _ _) ?_
  unfold m81_8
  simp only
  refine cond_split (fun h => ?_) (fun h => ?_)
  · unfold m81_9
    rw [if_pos h]
    exact ⟨rfl, rfl⟩
  rw [if_neg h]
  have yes : ∀ t, (part < 0 ∨ part ≥ s.parts ∨ s.O[part.toNat]? ≠ some id) → t = true → m81_6 (fun v w' => v = .int .i64 (if part < 0 ∨ part ≥ s.parts ∨ s.O[part.toNat]? ≠ some id then 13 else 0) ∧ w' = w) (.bool t) w := fun t hb ht => by
    unfold m81_6
    refine cond_t ht ?_
    unfold m81_7
    rw [if_pos hb]
    exact ⟨rfl, rfl⟩
  unfold m81_3
  refine valP_ok (lss_ok _ _ _ _ _ _ _) ?_
  refine cond_split (fun h1 => ?_) (fun h1 => ?_)
  · first | refine pick_dt (by first | assumption | omega) ?_ | refine pick_df (by first | assumption | omega) ?_ | refine pick_t (by first | rfl | assumption) ?_ | refine pick_f (by first | rfl | assumption) ?_ | refine pick_dt rfl ?_ | refine pick_df (not_not_intro rfl) ?_
    refine cond_t (by simp [h1]) ?_
    first | refine pick_dt (by first | assumption | omega) ?_ | refine pick_df (by first | assumption | omega) ?_ | refine pick_t (by first | rfl | assumption) ?_ | refine pick_f (by first | rfl | assumption) ?_ | refine pick_dt rfl ?_ | refine pick_df (not_not_intro rfl) ?_
    exact yes _ (.inl h1) (by simp [h1])
  refine nil_ok ?_
  first | refine valP_ok (fa86_0 _ _) ?_ | refine valP_ok (fao86_0 _ _ _) ?_
  first | refine valP_ok (ld3 (hS.cell 0 rfl rfl)) ?_ | refine valP_ok (ld3 (hS.cell 1 rfl rfl)) ?_ | refine valP_ok (ld3 (hS.cell 2 rfl rfl)) ?_ | refine valP_ok (ld3 (hS.cell 3 rfl rfl)) ?_ | refine valP_ok (ld3 (hS.cell 4 rfl rfl)) ?_ | refine valP_ok (ld3 (by assumption)) ?_
  refine valP_ok (geq_ok _ _ _ _ _ _ _) ?_
  first | refine pick_dt (by first | assumption | omega) ?_ | refine pick_df (by first | assumption | omega) ?_ | refine pick_t (by first | rfl | assumption) ?_ | refine pick_f (by first | rfl | assumption) ?_ | refine pick_dt rfl ?_ | refine pick_df (not_not_intro rfl) ?_
  refine cond_split (fun h2 => ?_) (fun h2 => ?_)
  · first | refine pick_dt (by first | assumption | omega) ?_ | refine pick_df (by first | assumption | omega) ?_ | refine pick_t (by first | rfl | assumption) ?_ | refine pick_f (by first | rfl | assumption) ?_ | refine pick_dt rfl ?_ | refine pick_df (not_not_intro rfl) ?_
    exact yes _ (.inr (.inl h2)) (by simp [h2])
  have hlt : part.toNat < s.O.length := by omega
  have ep : part = ((part.toNat : Nat) : Int) := by rw [Int.toNat_of_nonneg (by omega)]
  obtain ⟨m, cm, o, co⟩ := X
  obtain ⟨g2, hg2⟩ := hS.row_ptr 2 rfl (by omega)
  simp only at hg2
  subst hg2
  have hc : w.cell? ⟨g2, part.toNat, none⟩ = some (.int .i64 s.O[part.toNat]) := hS.row_cell 2 rfl (ints_get hlt)
  refine nil_ok ?_
  first | refine valP_ok (fa86_6 _ _) ?_ | refine valP_ok (fao86_6 _ _ _) ?_
  first | refine valP_ok (ld28 (hS.cell 0 rfl rfl)) ?_ | refine valP_ok (ld28 (hS.cell 1 rfl rfl)) ?_ | refine valP_ok (ld28 (hS.cell 2 rfl rfl)) ?_ | refine valP_ok (ld28 (hS.cell 3 rfl rfl)) ?_ | refine valP_ok (ld28 (hS.cell 4 rfl rfl)) ?_ | refine valP_ok (ld28 (by assumption)) ?_
  rw [ep]
  refine valP_ok (ixz28 hlt _) ?_
  refine valP_ok (ld3 hc) ?_
  rw [← ep]
  refine valP_ok (ne3 _ _ _ _ _) ?_
  first | refine pick_dt (by first | assumption | omega) ?_ | refine pick_df (by first | assumption | omega) ?_ | refine pick_t (by first | rfl | assumption) ?_ | refine pick_f (by first | rfl | assumption) ?_ | refine pick_dt rfl ?_ | refine pick_df (not_not_intro rfl) ?_
  have hget : s.O[part.toNat]? = some s.O[part.toNat] := List.getElem?_eq_getElem hlt
  by_cases h3 : s.O[part.toNat] = id
  · unfold m81_6
    refine cond_df (not_not_intro h3) ?_
    unfold m81_4 m81_5
    rw [if_neg]
    · exact ⟨rfl, rfl⟩
    · rintro (h | h | h)
      · exact h1 h
      · exact h2 h
      · exact h (by rw [hget, h3])
  · exact yes _ (.inr (.inr fun h => h3 (by rw [hget] at h; injection h))) (decide_eq_true h3)

end Go.Proofs.Ytjjmlopmemmobaa.M
