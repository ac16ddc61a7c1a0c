/- The document's put and set. -/
import Derived.Test.YtojgdmcojmllkaaS14
namespace Go.Proofs.Ytojgdmcojmllkaa.M
open Go.Proofs.Ytojgdmcojmllkaa.F Go.RowKit
set_option linter.unusedVariables false
set_option linter.unusedSimpArgs false
set_option maxRecDepth 100000
set_option maxHeartbeats 2000000
attribute [local irreducible] Res.cells Res.row Res.map Res.any World.cell? World.frozen? Instr.fieldAt Instr.loadAt Instr.storeAt Instr.indexAt Instr.lookup Instr.mapUpdate Instr.box Instr.build Instr.buildSlice Instr.extract Instr.alloc Instr.field Instr.index Instr.sliceAt Instr.makeSlice Instr.makeMap Instr.makeFunc binS Op.unary Sem.run
section
variable {w0 w : World} {F : List Nat} {L : List Res} {A : Option Addr} {c : Nat}
theorem drop_nil {k n : Nat} (hz : A = none → c = 0) : (if c = k then A else A.map (·.add (k * n))) = none → c - k = 0 := fun h => by
  split at h
  · omega
  · cases A with
    | none => have := hz rfl; omega
    | some a => cases h
theorem put_ret {l : List Ev} {e : Ev} (hl : l.length ≤ 100000) (hc : l.length ≤ c) (hz : A = none → c = 0) (hS : St w0 F w L) (hE : BE w0 F L A l) :
    Ret Try.prog 30 #[.slice A l.length c, ev e] w fun v w' => ∃ A' c', v = .slice A' (putE l e).length c' ∧ St w0 F w' (erow (.slice A' (putE l e).length c') (putE l e) :: L) := by
  refine s30 _ _ ?_
  unfold m30
  unfold m30_0
  refine new_ok (bx28 _ _ _) hS ?_
  intro b3 w hS
  unfold m30_1 m30_2 m30_3
  have hS : St w0 F w (erow (.slice none (l.take 0).length 0) (l.take 0) :: Res.cells b3 28 (encE e) :: L) := hS.row_nil 28 2
  refine loop_in (fun u w' => ∃ (i : Nat) (Ao : Option Addr) (co : Nat), u = (.slice Ao (l.take i).length co, .int .i64 (i : Int)) ∧ i ≤ l.length ∧ (∀ j (h : j < l.length), j < i → ¬ AheadE e l[j]) ∧ St w0 F w' (erow (.slice Ao (l.take i).length co) (l.take i) :: Res.cells b3 28 (encE e) :: L)) (fun u _ => l.length - (intOf u.2).toNat) ⟨0, none, 0, rfl, by omega, fun _ _ h => by omega, hS⟩ ?_
  clear hS
  rintro u w ⟨i, Ao, co, rfl, hi, hI, hS⟩
  simp only
  have tl : (l.take i).length ≤ 100000 := by rw [List.length_take]; omega
  have fin : ∀ w, (∀ h : i < l.length, AheadE e l[i]) → St w0 F w (erow (.slice Ao (l.take i).length co) (l.take i) :: Res.cells b3 28 (encE e) :: L) → m30_4 (fun v w' => ∃ A' c', v = .slice A' (putE l e).length c' ∧ St w0 F w' (erow (.slice A' (putE l e).length c') (putE l e) :: L)) (.slice A l.length c) (.pointer (some ⟨b3, 0, none⟩)) (.slice Ao (l.take i).length co) (.int .i64 i) w := fun w h2 hS => by
    have hput := putE_at hi hI h2
    unfold m30_4
    first | refine ls28 0 hS rfl ?_ | refine ls28 1 hS rfl ?_ | refine ls28 2 hS rfl ?_ | refine ls28 3 hS rfl ?_ | refine ls28 4 hS rfl ?_ | refine ls28 5 hS rfl ?_ | refine ls28 6 hS rfl ?_ | refine ls28 7 hS rfl ?_ | refine valP_ok (ld28 (by assumption) (by assumption)) ?_
    refine newslice_ok (bs31_1 _) hS ?_
    intro b31 w hS
    refine append_one1 0 e sl31 encE_len encE_one (by unfold maxLen; omega) (by omega) hS rfl ?_
    intro A1 c1 w hS
    simp only [List.set_cons_zero, List.set_cons_succ] at hS
    unfold m30_5
    refine valP_ok (so31 hi hc _) ?_
    have hr : Rd w 2 A l.length (l.flatMap encE) := ((hE.cons _).cons _).rd hS
    have hr2 := Rd.dropS encE_len hi hc hr
    have hdl : (l.drop i).length = l.length - i := by simp
    rw [← hdl]
    refine append_anyS (l0 := l.take i ++ [e]) (l := l.drop i) 0 sl31 encE_len encE_one (by simp; unfold maxLen; omega) (by simp; omega) hS rfl hr2 (drop_nil hz) ?_
    intro A2 c2 w hS
    simp only [List.set_cons_zero, List.set_cons_succ] at hS
    have e1 : l.take i ++ [e] ++ l.drop i = putE l e := by rw [hput]; simp
    rw [e1] at hS ⊢
    unfold m30_6 m30_7
    exact ⟨A2, c2, rfl, hS.pick 2 [0] (by simp) (by decide)⟩
  unfold m30_8
  refine drawn_ok hS ?_
  intro w hS
  refine builtinS_ok (len31 _) ?_
  refine valS_ok (lss_ok _ _ _ _ _ _ _) ?_
  refine cond_split (fun h => ?_) (fun h => ?_)
  · have hlt : i < l.length := by omega
    have hr := ((hE.cons (Res.cells b3 28 (encE e))).cons (erow (.slice Ao (l.take i).length co) (l.take i))).rd hS
    obtain ⟨b, o, rfl⟩ := hr.some_ (by omega) (by omega)
    have p := ev_at hr hlt
    refine valS_ok (ld28 (hS.cell 1 rfl rfl) (hS.cell 1 rfl rfl)) ?_
    refine valS_ok (ix31 hlt _) ?_
    refine valS_ok (ld28 p.1 p.2) ?_
    refine callR (by kernel_rfl) (ahead_ret (a := e) (b := l[i]) hS) ?_
    rintro v w ⟨⟨t, rfl, ht⟩, hS⟩
    have hr := ((hE.cons (Res.cells b3 28 (encE e))).cons (erow (.slice Ao (l.take i).length co) (l.take i))).rd hS
    have p := ev_at hr hlt
    first | refine valP_ok (not_ok _ _) ?_ | refine valP_ok (notb_ok _ _) ?_
    first | refine pick_dt (by first | assumption | omega) ?_ | refine pick_df (by first | assumption | omega) ?_ | refine pick_t (by first | rfl | assumption) ?_ | refine pick_f (by first | rfl | assumption) ?_ | refine pick_dt rfl ?_ | refine pick_df (not_not_intro rfl) ?_
    unfold m30_11
    cases t with
    | true =>
      refine cond_f rfl ?_
      exact fin w (fun _ => ht.1 rfl) hS
    | false =>
      have hno : ¬ AheadE e l[i] := fun h => by have := ht.2 h; cases this
      refine cond_t rfl ?_
      unfold m30_9
      refine valP_ok (ix31 hlt _) ?_
      refine valP_ok (ld28 p.1 p.2) ?_
      refine newslice_ok (bs31_1 _) hS ?_
      intro b25 w hS
      refine append_one1 0 l[i] sl31 encE_len encE_one (by unfold maxLen; omega) (by omega) hS rfl ?_
      intro A1 c1 w hS
      simp only [List.set_cons_zero, List.set_cons_succ] at hS
      rw [show l.take i ++ [l[i]] = l.take (i + 1) from (List.take_succ_eq_append_getElem hlt).symm] at hS ⊢
      unfold m30_10
      refine valP_ok (add_ok _ _ _ (by omega) (by omega) _) ?_
      refine ⟨⟨i + 1, A1, c1, rfl, by omega, fun j hj hji => ?_, hS⟩, by simp [intOf]; omega⟩
      by_cases e : j = i
      · subst e
        exact hno
      · exact hI j hj (by omega)
  · first | refine pick_dt (by first | assumption | omega) ?_ | refine pick_df (by first | assumption | omega) ?_ | refine pick_t (by first | rfl | assumption) ?_ | refine pick_f (by first | rfl | assumption) ?_ | refine pick_dt rfl ?_ | refine pick_df (not_not_intro rfl) ?_
    unfold m30_11
    refine cond_f rfl ?_
    exact fin w (fun h' => by omega) hS
theorem set_ret {l : List Sq} {s : Sq} (hl : l.length ≤ 100000) (hne : ∀ x ∈ l, 0 < x.s.l.length) (hs0 : 0 < s.s.l.length) (ho : SOk w0 F L A c l) (hS : St w0 F w L) (hE : BE w0 F L s.A s.s.l) :
    Ret Try.prog 31 #[.slice A l.length c, sv s] w fun v w' => ∃ A' c' l', v = .slice A' l'.length c' ∧ ses l' = setS (ses l) s.s ∧ (∀ x ∈ l', x ∈ l ∨ x = s) ∧ St w0 F w' (srow (.slice A' l'.length c') l' :: L) := by
  obtain ⟨hB, hc, hz⟩ := ho
  refine s31 _ _ ?_
  unfold m31
  unfold m31_0
  refine new_ok (bx33 _ _ _) hS ?_
  intro b3 w hS
  unfold m31_1 m31_2 m31_3
  have hS : St w0 F w (srow (.slice none (l.take 0).length 0) (l.take 0) :: Res.cells b3 33 (encS s) :: L) := hS.row_nil 33 2
  refine loop_in (fun u w' => ∃ (i : Nat) (Ao : Option Addr) (co : Nat), u = (.slice Ao (l.take i).length co, .int .i64 (i : Int)) ∧ i ≤ l.length ∧ (∀ j (h : j < l.length), j < i → Bef l[j].s s.s) ∧ St w0 F w' (srow (.slice Ao (l.take i).length co) (l.take i) :: Res.cells b3 33 (encS s) :: L)) (fun u _ => l.length - (intOf u.2).toNat) ⟨0, none, 0, rfl, by omega, fun _ _ h => by omega, hS⟩ ?_
  clear hS
  rintro u w ⟨i, Ao, co, rfl, hi, hI, hS⟩
  simp only
  have tl : (l.take i).length ≤ 100000 := by rw [List.length_take]; omega
  have fin : ∀ w, (∀ h : i < l.length, ¬ Bef l[i].s s.s) → St w0 F w (srow (.slice Ao (l.take i).length co) (l.take i) :: Res.cells b3 33 (encS s) :: L) → m31_4 (fun v w' => ∃ A' c' l', v = .slice A' (List.length l') c' ∧ ses l' = setS (ses l) s.s ∧ (∀ x ∈ l', x ∈ l ∨ x = s) ∧ St w0 F w' (srow (.slice A' l'.length c') l' :: L)) (.slice A l.length c) (.pointer (some ⟨b3, 0, none⟩)) (.slice Ao (l.take i).length co) (.int .i64 i) w := fun w h2 hS => by
    have hset := setS_at (s := s.s) (l := ses l) (i := i) (by simpa using hi) (fun j h hj => by simp only [List.getElem_map]; exact hI j (by simpa using h) hj) (fun h => by simp only [List.getElem_map]; exact h2 (by simpa using h))
    unfold m31_4
    first | refine ls33 0 hS rfl ?_ | refine ls33 1 hS rfl ?_ | refine ls33 2 hS rfl ?_ | refine ls33 3 hS rfl ?_ | refine ls33 4 hS rfl ?_ | refine ls33 5 hS rfl ?_ | refine ls33 6 hS rfl ?_ | refine ls33 7 hS rfl ?_ | refine valP_ok (ld33 (by assumption) (by assumption)) ?_
    refine newslice_ok (bs24_1 _) hS ?_
    intro b30 w hS
    refine append_one1 0 s sl24 encS_len encS_one (by unfold maxLen; omega) (by omega) hS rfl ?_
    intro A1 c1 w hS
    simp only [List.set_cons_zero, List.set_cons_succ] at hS
    unfold m31_5
    refine valP_ok (so24 hi hc _) ?_
    have hr : Rd w 2 A l.length (l.flatMap encS) := ((hB.row.cons _).cons _).rd hS
    have hr2 := Rd.dropS encS_len hi hc hr
    have hdl : (l.drop i).length = l.length - i := by simp
    rw [← hdl]
    refine append_anyS (l0 := l.take i ++ [s]) (l := l.drop i) 0 sl24 encS_len encS_one (by simp; unfold maxLen; omega) (by simp; omega) hS rfl hr2 (drop_nil hz) ?_
    intro A2 c2 w hS
    simp only [List.set_cons_zero, List.set_cons_succ] at hS
    unfold m31_6 m31_7
    refine ⟨A2, c2, l.take i ++ [s] ++ l.drop i, rfl, ?_, fun x hx => ?_, hS.pick 2 [0] (by simp) (by decide)⟩
    · rw [hset]
      unfold ses
      simp [List.map_take, List.map_drop]
    · simp only [List.append_assoc, List.mem_append, List.mem_singleton] at hx
      rcases hx with hx | rfl | hx
      · exact .inl (List.mem_of_mem_take hx)
      · exact .inr rfl
      · exact .inl (List.mem_of_mem_drop hx)
  unfold m31_8
  refine drawn_ok hS ?_
  intro w hS
  refine builtinS_ok (len24 _) ?_
  refine valS_ok (lss_ok _ _ _ _ _ _ _) ?_
  refine cond_split (fun h => ?_) (fun h => ?_)
  · have hlt : i < l.length := by omega
    have hB2 := (hB.cons (Res.cells b3 33 (encS s))).cons (srow (.slice Ao (l.take i).length co) (l.take i))
    obtain ⟨b, o, rfl⟩ := (hB2.row.rd hS).some_ (by omega) (by omega)
    have p := sp_at (hB2.row.rd hS) hlt
    have hmem := List.getElem_mem hlt
    refine valS_ok (ix24 hlt _) ?_
    refine valS_ok (ld33 p.1 p.2) ?_
    refine valS_ok (ld33 (hS.cell 1 rfl rfl) (hS.cell 1 rfl rfl)) ?_
    refine callR (by kernel_rfl) (before_ret (key := l[i].s.key) (c := l[i].c) (hne _ hmem) hs0 hS (hB2.evs _ hmem) ((hE.cons _).cons _)) ?_
    rintro v w ⟨⟨t, rfl, ht⟩, hS⟩
    have p := sp_at (hB2.row.rd hS) hlt
    first | refine pick_dt (by first | assumption | omega) ?_ | refine pick_df (by first | assumption | omega) ?_ | refine pick_t (by first | rfl | assumption) ?_ | refine pick_f (by first | rfl | assumption) ?_ | refine pick_dt rfl ?_ | refine pick_df (not_not_intro rfl) ?_
    unfold m31_11
    cases t with
    | false =>
      refine cond_f rfl ?_
      exact fin w (fun _ h => by have := ht.2 h; cases this) hS
    | true =>
      have hb := ht.1 rfl
      refine cond_t rfl ?_
      unfold m31_9
      refine valP_ok (ix24 hlt _) ?_
      refine valP_ok (ld33 p.1 p.2) ?_
      refine newslice_ok (bs24_1 _) hS ?_
      intro b24 w hS
      refine append_one1 0 l[i] sl24 encS_len encS_one (by unfold maxLen; omega) (by omega) hS rfl ?_
      intro A1 c1 w hS
      simp only [List.set_cons_zero, List.set_cons_succ] at hS
      rw [show l.take i ++ [l[i]] = l.take (i + 1) from (List.take_succ_eq_append_getElem hlt).symm] at hS ⊢
      unfold m31_10
      refine valP_ok (add_ok _ _ _ (by omega) (by omega) _) ?_
      refine ⟨⟨i + 1, A1, c1, rfl, by omega, fun j hj hji => ?_, hS⟩, by simp [intOf]; omega⟩
      by_cases e : j = i
      · subst e
        exact hb
      · exact hI j hj (by omega)
  · first | refine pick_dt (by first | assumption | omega) ?_ | refine pick_df (by first | assumption | omega) ?_ | refine pick_t (by first | rfl | assumption) ?_ | refine pick_f (by first | rfl | assumption) ?_ | refine pick_dt rfl ?_ | refine pick_df (not_not_intro rfl) ?_
    unfold m31_11
    refine cond_f rfl ?_
    exact fin w (fun h' => by omega) hS
end

end Go.Proofs.Ytojgdmcojmllkaa.M
