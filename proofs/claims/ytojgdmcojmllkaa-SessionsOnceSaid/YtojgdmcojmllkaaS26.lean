/- SessionsOnce: each event is dropped, or in just one session. -/
import Derived.Test.YtojgdmcojmllkaaS25
import Derived.Test.YtojgdmcojmllkaaMlc0
namespace Go.Proofs.Ytojgdmcojmllkaa.M
open Go.Proofs.Ytojgdmcojmllkaa.F Go.RowKit
set_option linter.unusedVariables false
set_option linter.unusedSimpArgs false
set_option maxRecDepth 100000
set_option maxHeartbeats 2000000
attribute [local irreducible] Res.cells Res.row Res.map Res.any World.cell? World.frozen? Instr.fieldAt Instr.loadAt Instr.storeAt Instr.indexAt Instr.lookup Instr.mapUpdate Instr.box Instr.build Instr.buildSlice Instr.extract Instr.alloc Instr.field Instr.index Instr.sliceAt Instr.makeSlice Instr.makeMap Instr.makeFunc binS Op.unary Sem.run
theorem false_cells (n : Nat) : (madeCells (Value.bool false).cells (n * 1)).toList = (List.replicate n false).map Value.bool := by
  simp [madeCells, Value.cells]
  refine List.ext_getElem (by simp) fun i h1 h2 => ?_
  simp [Nat.mod_one]
abbrev brow (v : Value) (u : List Bool) : Res := Res.row 4 1 v u.length (u.map Value.bool)
/-- those that are used. -/
def usedL : List In → List Bool → List In
  | x :: l, true :: u => x :: usedL l u
  | _ :: l, false :: u => usedL l u
  | _, _ => []
theorem usedL_none : ∀ (l : List In) (n : Nat), usedL l (List.replicate n false) = []
  | [], n => by cases n <;> rfl
  | x :: l, 0 => rfl
  | x :: l, n + 1 => usedL_none l n
theorem usedL_set : ∀ {l : List In} {u : List Bool} {j : Nat} (hj : j < l.length) (hu : j < u.length), u[j] = false → (usedL l (u.set j true)).Perm (l[j] :: usedL l u)
  | x :: l, b :: u, 0, _, _, h => by
    simp only [List.getElem_cons_zero] at h
    subst h
    exact .refl _
  | x :: l, b :: u, j + 1, hj, hu, h => by
    have ih := usedL_set (l := l) (u := u) (j := j) (by simpa using hj) (by simpa using hu) (by simpa using h)
    have hj' : j < l.length := by simpa using hj
    cases b with
    | true =>
      show (x :: usedL l (u.set j true)).Perm (l[j] :: x :: usedL l u)
      exact (ih.cons x).trans (.swap _ _ _)
    | false => exact ih
theorem unused : ∀ {l : List In} {u : List Bool} {x : In}, u.length = l.length → (usedL l u).count x < l.count x → ∃ (j : Nat) (hj : j < l.length) (hu : j < u.length), u[j] = false ∧ l[j] = x
  | [], u, x, _, h => by simp at h
  | y :: l, b :: u, x, hl, h => by
    have hl' : u.length = l.length := by simpa using hl
    cases b with
    | false =>
      by_cases e : y = x
      · exact ⟨0, by simp, by simp, rfl, e⟩
      · have h : (usedL l u).count x < (y :: l).count x := h
        rw [List.count_cons_of_ne e] at h
        obtain ⟨j, hj, hu, h1, h2⟩ := unused hl' h
        exact ⟨j + 1, by simpa using hj, by simpa using hu, by simpa using h1, by simpa using h2⟩
    | true =>
      have h : (y :: usedL l u).count x < (y :: l).count x := h
      rw [List.count_cons, List.count_cons] at h
      obtain ⟨j, hj, hu, h1, h2⟩ := unused hl' (Nat.lt_of_add_lt_add_right h)
      exact ⟨j + 1, by simpa using hj, by simpa using hu, by simpa using h1, by simpa using h2⟩
theorem evs_snoc (l : List Sq) (i : Nat) (h : i < l.length) : evs (ses (l.take (i + 1))) = evs (ses (l.take i)) ++ evK l[i].s := by
  rw [List.take_succ_eq_append_getElem h]
  unfold ses evs
  rw [List.map_append, List.flatMap_append]
  simp
section
variable {w0 : World} {A : Option Addr} {c : Nat} {l : List In} {g : Gp}
theorem sonce_ret (hl : Rd w0 3 A l.length (l.flatMap encI)) (hc : l.length ≤ c) : Ret Try.prog 5 #[gv g, .slice A l.length c] w0 fun v w' => v = .bool true ∧ Below w0.heap.size w0 w' := by
  have hS := St.start w0
  refine s5 _ _ ?_
  unfold m5
  unfold m5_0
  refine new_ok (bx23 _ _ _) hS ?_
  intro b2 w hS
  unfold m5_1
  refine callR (by kernel_rfl) (some_ret hc) ?_
  rintro v w ⟨rfl, rfl⟩
  have hl2 := Rd.takeS encI_len 100 hl
  have hll : (l.take 100).length ≤ 100 := by rw [List.length_take]; omega
  generalize l.take 100 = ls at *
  unfold m5_2
  first | refine ls23 0 hS rfl ?_ | refine ls23 1 hS rfl ?_ | refine ls23 2 hS rfl ?_ | refine ls23 3 hS rfl ?_ | refine ls23 4 hS rfl ?_ | refine ls23 5 hS rfl ?_ | refine ls23 6 hS rfl ?_ | refine ls23 7 hS rfl ?_ | refine valP_ok (ld23 (by assumption) (by assumption)) ?_
  refine callR (by kernel_rfl) (run_ret (g := g) (l := ls) (by omega) hS (Bes.of_old0 hl2)) ?_
  rintro v w (⟨f, all, A1, c1, l1, A2, c2, l2, N, hr, rfl, e1, e2, hn, hS, ho, hE⟩ | ⟨er, he, hno, rfl, hS⟩)
  · have hS := front_g hS
    refine valP_ok (extract_ok _ 0 rfl _) ?_
    refine valP_ok (extract_ok _ 1 rfl _) ?_
    refine valP_ok (extract_ok _ 2 rfl _) ?_
    refine new_ok (al26 _) hS ?_
    intro b5 w hS
    first | refine ss26 0 hS rfl rfl rfl rfl ?_ | refine ss26 1 hS rfl rfl rfl rfl ?_ | refine ss26 2 hS rfl rfl rfl rfl ?_ | refine ss26 3 hS rfl rfl rfl rfl ?_ | refine ss26 4 hS rfl rfl rfl rfl ?_ | refine ss26 5 hS rfl rfl rfl rfl ?_ | refine ss26 6 hS rfl rfl rfl rfl ?_ | refine ss26 7 hS rfl rfl rfl rfl ?_
    intro w hS
    simp only [List.set_cons_zero, List.set_cons_succ] at hS
    unfold m5_3
    refine valP_ok (ne34 _ _ _ _ _) ?_
    unfold m5_32
    refine cond_df (by simp) ?_
    have hl1 : l1.length ≤ 64 := by
      have h1 : l1.length = f.L.length := by rw [← e1]; simp
      rw [h1]
      cases hr with
      | nil => simp [zeroF]
      | snoc h1 h2 => exact (add_flow h2.1 h2.2).len
    unfold m5_4
    first | refine valP_ok (fa26_2 _ _) ?_ | refine valP_ok (fao26_2 _ _ _) ?_
    first | refine valP_ok (ld24 (hS.cell 0 rfl rfl)) ?_ | refine valP_ok (ld24 (hS.cell 1 rfl rfl)) ?_ | refine valP_ok (ld24 (hS.cell 2 rfl rfl)) ?_ | refine valP_ok (ld24 (hS.cell 3 rfl rfl)) ?_ | refine valP_ok (ld24 (hS.cell 4 rfl rfl)) ?_ | refine valP_ok (ld24 (hS.cell 5 rfl rfl)) ?_ | refine valP_ok (ld24 (hS.cell 6 rfl rfl)) ?_ | refine valP_ok (ld24 (hS.cell 7 rfl rfl)) ?_ | refine valP_ok (ld24 (by assumption)) ?_
    have hr1 : Rd w 2 A1 l1.length (l1.flatMap encS) := ((((ho.bes.row.mono fun r hr => List.mem_append_left [] hr).cons _).cons _).cons _).rd hS
    refine append_anyS (l0 := l2) (l := l1) 2 sl24 encS_len encS_one (by unfold maxLen; omega) (by omega) hS rfl hr1 ho.nil ?_
    intro A3 c3 w hS
    simp only [List.set_cons_zero, List.set_cons_succ] at hS
    have e3 : ses (l2 ++ l1) = all ++ f.L := by unfold ses at *; rw [List.map_append, e1, e2]
    obtain ⟨dr, hdl, hdp⟩ := hr.evs
    rw [← e3] at hdp
    have hE3 : ∀ s ∈ l2 ++ l1, BE w0 [] N s.A s.s.l ∧ s.s.l.length ≤ 140737488351232 := fun s hs => by
      rcases List.mem_append.1 hs with hs | hs
      · exact hE s hs
      · exact ⟨ho.bes.evs s hs, ho.bes.emax s hs⟩
    have hn3 : (l2 ++ l1).length ≤ 10000 := by simp; omega
    generalize l2 ++ l1 = l3 at *
    have hB3 : BesS w0 [] (srow (.slice A3 l3.length c3) l3 :: (N ++ [])) A3 l3 := ⟨Bes.of_row 0 rfl, fun s hs => ((hE3 s hs).1.mono fun r hr => List.mem_append_left _ hr).cons _, by omega, fun s hs => (hE3 s hs).2⟩
    have elen : (evs (ses l3)).length + dr.length = ls.length := by
      have := hdp.length_eq
      rw [List.length_append] at this
      exact this
    unfold m5_5
    first | refine valP_ok (fa26_1 _ _) ?_ | refine valP_ok (fao26_1 _ _ _) ?_
    first | refine valP_ok (ld3 (hS.cell 0 rfl rfl)) ?_ | refine valP_ok (ld3 (hS.cell 1 rfl rfl)) ?_ | refine valP_ok (ld3 (hS.cell 2 rfl rfl)) ?_ | refine valP_ok (ld3 (hS.cell 3 rfl rfl)) ?_ | refine valP_ok (ld3 (hS.cell 4 rfl rfl)) ?_ | refine valP_ok (ld3 (hS.cell 5 rfl rfl)) ?_ | refine valP_ok (ld3 (hS.cell 6 rfl rfl)) ?_ | refine valP_ok (ld3 (hS.cell 7 rfl rfl)) ?_ | refine valP_ok (ld3 (by assumption)) ?_
    unfold m5_6
    refine builtin_ok (len44 _) ?_
    refine make_ok sl52 hS (by omega) (by unfold maxLen; omega) ?_
    intro bu w hS
    rw [false_cells] at hS
    have hul : (List.replicate ls.length false).length = ls.length := by simp
    have hS : St w0 [] w (brow (.slice (some ⟨bu, 0, none⟩) (List.replicate ls.length false).length ls.length) (List.replicate ls.length false) :: srow (.slice A3 l3.length c3) l3 :: (N ++ [])) := by
      have h := hS.pick 4 [0, 3] (by simp) (by decide)
      rw [hul]
      unfold brow
      rw [hul]
      exact h
    have hBc : ∀ a, BesS w0 [] (a :: srow (.slice A3 l3.length c3) l3 :: (N ++ [])) A3 l3 := fun a => hB3.cons a
    generalize hY : N ++ [] = Y at *
    unfold m5_7 m5_10
    refine loop_in (fun u w' => ∃ (i : Nat) (n : Int) (us : List Bool), u = (.int .i64 n, .int .i64 (i : Int)) ∧ i ≤ l3.length ∧ us.length = ls.length ∧ n = f.late + (evs (ses (l3.take i))).length ∧ (usedL ls us).Perm (evs (ses (l3.take i))) ∧ St w0 [] w' (brow (.slice (some ⟨bu, 0, none⟩) us.length ls.length) us :: srow (.slice A3 l3.length c3) l3 :: Y)) (fun u _ => l3.length - (intOf u.2).toNat) ⟨0, f.late, _, rfl, by omega, hul, by simp [evs], by rw [usedL_none]; exact .refl _, hS⟩ ?_
    clear hS hul
    rintro u w ⟨i, n, us, rfl, hi, hul, hnn, hup, hS⟩
    simp only
    unfold m5_11
    refine builtin_ok (len24 _) ?_
    refine valP_ok (lss_ok _ _ _ _ _ _ _) ?_
    unfold m5_31
    refine cond_split (fun h => ?_) (fun h => ?_)
    · have hil : i < l3.length := by omega
      have hmem := List.getElem_mem hil
      have hemx := (hE3 _ hmem).2
      obtain ⟨b, o, rfl⟩ := ((hBc _).row.rd hS).some_ (by omega) (by omega)
      have hsuf : ∀ k (hk : k < l3[i].s.l.length), ∃ R, evs (ses l3) = (evs (ses (l3.take i)) ++ (l3[i].s.l.take k).map (fun e => (⟨l3[i].s.key, e⟩ : In))) ++ ⟨l3[i].s.key, l3[i].s.l[k]⟩ :: R := fun k hk => by
        refine ⟨(l3[i].s.l.drop (k + 1)).map (fun e => (⟨l3[i].s.key, e⟩ : In)) ++ evs (ses (l3.drop (i + 1))), ?_⟩
        have h1 : evs (ses l3) = evs (ses (l3.take i)) ++ (evK l3[i].s ++ evs (ses (l3.drop (i + 1)))) := by
          have h2 : l3 = l3.take i ++ (l3[i] :: l3.drop (i + 1)) := by rw [← List.drop_eq_getElem_cons hil, List.take_append_drop]
          conv => lhs; rw [h2]
          unfold ses evs
          rw [List.map_append, List.flatMap_append, List.map_cons, List.flatMap_cons]
        have h3 : evK l3[i].s = (l3[i].s.l.take k).map (fun e => (⟨l3[i].s.key, e⟩ : In)) ++ ⟨l3[i].s.key, l3[i].s.l[k]⟩ :: (l3[i].s.l.drop (k + 1)).map (fun e => (⟨l3[i].s.key, e⟩ : In)) := by
          unfold evK
          conv => lhs; rw [← List.take_append_drop k l3[i].s.l, List.drop_eq_getElem_cons hk]
          rw [List.map_append, List.map_cons]
        rw [h1, h3]
        simp
      unfold m5_12 m5_14
      refine loop_in (fun u w' => ∃ (k : Nat) (n : Int) (us : List Bool), u = (.int .i64 n, .int .i64 (k : Int)) ∧ k ≤ l3[i].s.l.length ∧ us.length = ls.length ∧ n = f.late + (evs (ses (l3.take i))).length + k ∧ (usedL ls us).Perm (evs (ses (l3.take i)) ++ (l3[i].s.l.take k).map (fun e => (⟨l3[i].s.key, e⟩ : In))) ∧ St w0 [] w' (brow (.slice (some ⟨bu, 0, none⟩) us.length ls.length) us :: srow (.slice (some ⟨b, o, none⟩) l3.length c3) l3 :: Y)) (fun u _ => l3[i].s.l.length - (intOf u.2).toNat) ⟨0, n, us, rfl, by omega, hul, by omega, by simpa using hup, hS⟩ ?_
      clear hS hul hup us hnn n
      rintro u w ⟨k, n, us, rfl, hk, hul, hnn, hup, hS⟩
      simp only
      have p := sp_at ((hBc _).row.rd hS) hil
      unfold m5_15
      refine valP_ok (ix24 hil _) ?_
      refine valP_ok (fao33_1 _ _ _) ?_
      refine valP_ok (ld31 p.2) ?_
      refine builtin_ok (len31 _) ?_
      refine valP_ok (lss_ok _ _ _ _ _ _ _) ?_
      unfold m5_30
      refine cond_split (fun h2 => ?_) (fun h2 => ?_)
      · have hkl : k < l3[i].s.l.length := by omega
        obtain ⟨R, hR⟩ := hsuf k hkl
        have hcount : (usedL ls us).count ⟨l3[i].s.key, l3[i].s.l[k]⟩ < ls.count ⟨l3[i].s.key, l3[i].s.l[k]⟩ := by
          have q1 := List.perm_iff_count.1 hdp ⟨l3[i].s.key, l3[i].s.l[k]⟩
          have q2 := List.perm_iff_count.1 hup ⟨l3[i].s.key, l3[i].s.l[k]⟩
          rw [List.count_append, hR, List.count_append, List.count_cons_self] at q1
          omega
        obtain ⟨j0, hj0, hj0', hu0, hx0⟩ := unused hul hcount
        have hlen1 : (evs (ses (l3.take i))).length + k + 1 ≤ ls.length := by
          have := congrArg List.length hR
          simp only [List.length_append, List.length_cons, List.length_map, List.length_take] at this
          omega
        have hlate : 0 ≤ f.late ∧ f.late ≤ 1000 := by omega
        unfold m5_16 m5_18 m5_23
        refine loop_in (fun u w' => ∃ (j : Nat) (is : Bool) (us' : List Bool), u = (.bool is, .int .i64 (j : Int)) ∧ j ≤ ls.length ∧ us'.length = ls.length ∧ (is = false → us' = us ∧ ∀ j' (h1 : j' < us.length) (h2 : j' < ls.length), j' < j → ¬ (us[j'] = false ∧ ls[j'] = ⟨l3[i].s.key, l3[i].s.l[k]⟩)) ∧ (is = true → (usedL ls us').Perm (⟨l3[i].s.key, l3[i].s.l[k]⟩ :: usedL ls us)) ∧ St w0 [] w' (brow (.slice (some ⟨bu, 0, none⟩) us'.length ls.length) us' :: srow (.slice (some ⟨b, o, none⟩) l3.length c3) l3 :: Y)) (fun u _ => ls.length - (intOf u.2).toNat) ⟨0, false, us, rfl, by omega, hul, fun _ => ⟨rfl, fun _ _ _ h => by omega⟩, (fun h => by cases h), hS⟩ ?_
        clear hS p
        rintro u w ⟨j, is, us', rfl, hj, hul', hF1, hT1, hS⟩
        simp only
        have out : ∀ w, is = true → St w0 [] w (brow (.slice (some ⟨bu, 0, none⟩) us'.length ls.length) us' :: srow (.slice (some ⟨b, o, none⟩) l3.length c3) l3 :: Y) → ∀ K1 (K2 : Value × Value → World → Prop), (∀ w us', us'.length = ls.length → (usedL ls us').Perm (evs (ses (l3.take i)) ++ (l3[i].s.l.take (k + 1)).map (fun e => (⟨l3[i].s.key, e⟩ : In))) → St w0 [] w (brow (.slice (some ⟨bu, 0, none⟩) us'.length ls.length) us' :: srow (.slice (some ⟨b, o, none⟩) l3.length c3) l3 :: Y) → K2 (.int .i64 (n + 1), .int .i64 ((k + 1 : Nat) : Int)) w) → m5_19 (fun v w' => v = .bool true ∧ Below w0.heap.size w0 w') K1 K2 (.slice A ls.length c) (.slice (some ⟨b, o, none⟩) l3.length c3) (.int .i64 n) (.slice (some ⟨bu, 0, none⟩) ls.length ls.length) (.int .i64 i) (.int .i64 k) (.bool is) w := by
          clear hS
          intro w his hS K1 K2 hK
          subst his
          unfold m5_19
          first | refine valP_ok (not_ok _ _) ?_ | refine valP_ok (notb_ok _ _) ?_
          unfold m5_21
          refine cond_f rfl ?_
          unfold m5_20
          refine valP_ok (add_ok _ _ _ (by omega) (by omega) _) ?_
          unfold m5_17
          refine valP_ok (add_ok _ _ _ (by omega) (by omega) _) ?_
          refine hK w us' hul' ?_ hS
          refine (hT1 rfl).trans ?_
          rw [List.take_succ_eq_append_getElem hkl, List.map_append, ← List.append_assoc]
          exact ((hup.cons _).trans (List.perm_append_comm (l₁ := [_])))
        have inv2 : ∀ w us', us'.length = ls.length → (usedL ls us').Perm (evs (ses (l3.take i)) ++ (l3[i].s.l.take (k + 1)).map (fun e => (⟨l3[i].s.key, e⟩ : In))) → St w0 [] w (brow (.slice (some ⟨bu, 0, none⟩) us'.length ls.length) us' :: srow (.slice (some ⟨b, o, none⟩) l3.length c3) l3 :: Y) → (∃ (k' : Nat) (n' : Int) (us : List Bool), ((Value.int .i64 (n + 1), Value.int .i64 ((k + 1 : Nat) : Int)) : Value × Value) = (.int .i64 n', .int .i64 (k' : Int)) ∧ k' ≤ l3[i].s.l.length ∧ us.length = ls.length ∧ n' = f.late + (evs (ses (l3.take i))).length + k' ∧ (usedL ls us).Perm (evs (ses (l3.take i)) ++ (l3[i].s.l.take k').map (fun e => (⟨l3[i].s.key, e⟩ : In))) ∧ St w0 [] w (brow (.slice (some ⟨bu, 0, none⟩) us.length ls.length) us :: srow (.slice (some ⟨b, o, none⟩) l3.length c3) l3 :: Y)) ∧ l3[i].s.l.length - (intOf (.int .i64 ((k + 1 : Nat) : Int))).toNat < l3[i].s.l.length - (intOf (.int .i64 (k : Int))).toNat := fun w us' a1 a2 a3 =>
          ⟨⟨k + 1, n + 1, us', rfl, by omega, a1, by omega, a2, a3⟩, by simp [intOf]; omega⟩
        have hS' := hS
        rw [hul'] at hS'
        unfold m5_24
        refine builtin_ok (len44 _) ?_
        refine valP_ok (lss_ok _ _ _ _ _ _ _) ?_
        refine cond_split (fun h4 => ?_) (fun h4 => ?_)
        · first | refine valP_ok (not_ok _ _) ?_ | refine valP_ok (notb_ok _ _) ?_
          first | refine pick_dt (by first | assumption | omega) ?_ | refine pick_df (by first | assumption | omega) ?_ | refine pick_t (by first | rfl | assumption) ?_ | refine pick_f (by first | rfl | assumption) ?_ | refine pick_dt rfl ?_ | refine pick_df (not_not_intro rfl) ?_
          unfold m5_29
          cases is with
          | true =>
            refine cond_f rfl ?_
            exact out w rfl hS _ _ inv2
          | false =>
            obtain ⟨rfl, hno⟩ := hF1 rfl
            clear hF1 hT1 out
            refine cond_t rfl ?_
            have hjl : j < ls.length := by omega
            have hju : j < us'.length := by omega
            have hcell : w.cell? ⟨bu, j, none⟩ = some (.bool us'[j]) := by
              refine hS'.row_cell (n := ls.length) 0 (by rw [← hul']; rfl) ?_
              simp [hju]
            have hla := Rd.old0 hl2 hS
            obtain ⟨bl, ol, rfl⟩ := hla.some_ (by omega) (by omega)
            have q0 := hla.struct encI_len hjl (j := 0) (by omega) rfl
            have q1 := hla.struct encI_len hjl (j := 1) (by omega) rfl
            have q2 := hla.struct encI_len hjl (j := 2) (by omega) rfl
            rw [Nat.add_zero] at q0
            have p := sp_at ((hBc _).row.rd hS) hil
            have r1 := ((hBc _).evs _ hmem).rd hS
            obtain ⟨a1, o1, hA1⟩ := r1.some_ (by omega) (by omega)
            rw [hA1] at r1
            have s := ev_at r1 hkl
            have next : ∀ w, St w0 [] w (brow (.slice (some ⟨bu, 0, none⟩) us'.length ls.length) us' :: srow (.slice (some ⟨b, o, none⟩) l3.length c3) l3 :: Y) → ¬ (us'[j] = false ∧ ls[j] = ⟨l3[i].s.key, l3[i].s.l[k]⟩) → ∀ t, t = false → ∀ K1 K2 (K3 : Value × Value → World → Prop), (∀ w, St w0 [] w (brow (.slice (some ⟨bu, 0, none⟩) us'.length ls.length) us' :: srow (.slice (some ⟨b, o, none⟩) l3.length c3) l3 :: Y) → K3 (.bool false, .int .i64 ((j + 1 : Nat) : Int)) w) → m5_27 (fun v w' => v = .bool true ∧ Below w0.heap.size w0 w') K1 K2 K3 (.slice (some ⟨bl, ol, none⟩) ls.length c) (.slice (some ⟨b, o, none⟩) l3.length c3) (.int .i64 n) (.slice (some ⟨bu, 0, none⟩) ls.length ls.length) (.int .i64 i) (.int .i64 k) (.bool false) (.int .i64 j) (.bool t) w := by
              clear hS hS' hcell q0 q1 q2 p r1 s
              intro w hS hn t ht K1 K2 K3 hK
              unfold m5_27
              refine cond_f ht ?_
              unfold m5_26
              refine valP_ok (add_ok _ _ _ (by omega) (by omega) _) ?_
              exact hK w hS
            have inv3 : ¬ (us'[j] = false ∧ ls[j] = ⟨l3[i].s.key, l3[i].s.l[k]⟩) → ∀ w, St w0 [] w (brow (.slice (some ⟨bu, 0, none⟩) us'.length ls.length) us' :: srow (.slice (some ⟨b, o, none⟩) l3.length c3) l3 :: Y) → (∃ (j2 : Nat) (is : Bool) (us2 : List Bool), ((Value.bool false, Value.int .i64 ((j + 1 : Nat) : Int)) : Value × Value) = (.bool is, .int .i64 (j2 : Int)) ∧ j2 ≤ ls.length ∧ us2.length = ls.length ∧ (is = false → us2 = us' ∧ ∀ j' (h1 : j' < us'.length) (h2 : j' < ls.length), j' < j2 → ¬ (us'[j'] = false ∧ ls[j'] = ⟨l3[i].s.key, l3[i].s.l[k]⟩)) ∧ (is = true → (usedL ls us2).Perm (⟨l3[i].s.key, l3[i].s.l[k]⟩ :: usedL ls us')) ∧ St w0 [] w (brow (.slice (some ⟨bu, 0, none⟩) us2.length ls.length) us2 :: srow (.slice (some ⟨b, o, none⟩) l3.length c3) l3 :: Y)) ∧ ls.length - (intOf (.int .i64 ((j + 1 : Nat) : Int))).toNat < ls.length - (intOf (.int .i64 (j : Int))).toNat := fun hnj w hS => by
              refine ⟨⟨j + 1, false, us', rfl, by omega, hul', fun _ => ⟨rfl, fun j' h1 h2 h3 => ?_⟩, (fun h => by cases h), hS⟩, by simp [intOf]; omega⟩
              by_cases e : j' = j
              · subst e
                exact hnj
              · exact hno j' h1 h2 (by omega)
            unfold m5_25
            refine valQ_ok (ixz52 hjl) ?_
            refine valQ_load ld4 hcell ?_
            refine valQ_ok (notb_ok _) ?_
            cases hb : us'[j] with
            | true =>
              have hnj : ¬ (us'[j] = false ∧ ls[j] = ⟨l3[i].s.key, l3[i].s.l[k]⟩) := fun h => by rw [hb] at h; cases h.1
              refine cond_f rfl ?_
              refine pick_f rfl ?_
              refine cond_f rfl ?_
              refine pick_f rfl ?_
              refine drawn_ok hS ?_
              intro w hS
              exact next w hS hnj _ rfl _ _ _ (inv3 hnj)
            | false =>
              refine cond_t rfl ?_
              refine valQ_ok (ix44 hjl) ?_
              refine valQ_ok (fao54_0 _ _) ?_
              refine valQ_load ld3 q0 ?_
              refine valQ_ok (ix24 hil) ?_
              refine valQ_ok (fao33_0 _ _) ?_
              refine valQ_load ld3 p.1 ?_
              refine valQ_ok (eq3 _ _ _ _) ?_
              refine pick_t rfl ?_
              refine cond_split (fun h5 => ?_) (fun h5 => ?_)
              · refine valQ_ok (ix44 hjl) ?_
                refine valQ_ok (fao54_1 _ _) ?_
                refine valQ_at (fun n => ld28 (cellD q1 n) (cellD q2 n)) ?_
                refine valQ_ok (ix24 hil) ?_
                refine valQ_ok (fao33_1 _ _) ?_
                refine valQ_load ld31 p.2 ?_
                refine valQ_ok (ix31A hA1 hkl) ?_
                refine valQ_at (fun n => ld28 (cellD s.1 n) (cellD s.2 n)) ?_
                refine valQ_ok (eq28 _ _ _ _ _ _) ?_
                refine pick_dt h5 ?_
                refine drawn_ok hS ?_
                intro w hS
                by_cases h6 : ls[j].e.t = l3[i].s.l[k].t ∧ ls[j].e.v = l3[i].s.l[k].v
                · have heq : ls[j] = ⟨l3[i].s.key, l3[i].s.l[k]⟩ := by
                    have h7 := ev_ext.2 h6
                    obtain ⟨k1, e1⟩ : ∃ x, x = ls[j] := ⟨_, rfl⟩
                    cases hx : ls[j] with
                    | mk kk ee =>
                      rw [hx] at h5 h7
                      simp only at h5 h7
                      rw [h5, h7]
                  unfold m5_27
                  refine cond_dt h6 ?_
                  refine valP_ok (ixz52 hjl _) ?_
                  refine store_row (n := us'.length) (c := ls.length) (xs := us'.map Value.bool) 0 st4 hS rfl (by simp; omega) rfl ?_
                  intro w hS
                  simp only [List.set_cons_zero] at hS
                  unfold m5_28
                  unfold m5_26
                  refine valP_ok (add_ok _ _ _ (by omega) (by omega) _) ?_
                  have hset : (us'.map Value.bool).set j (.bool true) = (us'.set j true).map Value.bool := by rw [List.map_set]
                  have hsl : (us'.set j true).length = us'.length := by simp
                  refine ⟨⟨j + 1, true, us'.set j true, rfl, by omega, by rw [hsl]; exact hul', (fun h => by cases h), fun _ => ?_, ?_⟩, by simp [intOf]; omega⟩
                  · have := usedL_set (l := ls) (u := us') hjl hju hb
                    rw [heq] at this
                    exact this
                  · unfold brow
                    rw [← hset, hsl]
                    exact hS
                · have hnj : ¬ (us'[j] = false ∧ ls[j] = ⟨l3[i].s.key, l3[i].s.l[k]⟩) := fun h => h6 (by rw [h.2]; exact ⟨rfl, rfl⟩)
                  exact next w hS hnj _ (decide_eq_false h6) _ _ _ (inv3 hnj)
              · have hnj : ¬ (us'[j] = false ∧ ls[j] = ⟨l3[i].s.key, l3[i].s.l[k]⟩) := fun h => h5 (by rw [h.2])
                refine pick_df h5 ?_
                refine drawn_ok hS ?_
                intro w hS
                exact next w hS hnj _ rfl _ _ _ (inv3 hnj)
        · first | refine pick_dt (by first | assumption | omega) ?_ | refine pick_df (by first | assumption | omega) ?_ | refine pick_t (by first | rfl | assumption) ?_ | refine pick_f (by first | rfl | assumption) ?_ | refine pick_dt rfl ?_ | refine pick_df (not_not_intro rfl) ?_
          unfold m5_29
          refine cond_f rfl ?_
          cases is with
          | true => exact out w rfl hS _ _ inv2
          | false =>
            obtain ⟨rfl, hno⟩ := hF1 rfl
            exact absurd ⟨hu0, hx0⟩ (hno j0 hj0' hj0 (by omega))
      · obtain rfl : k = l3[i].s.l.length := by omega
        rw [List.take_length] at hup
        unfold m5_13
        refine valP_ok (add_ok _ _ _ (by omega) (by omega) _) ?_
        have h6 := evs_snoc l3 i hil
        have h7 : evK l3[i].s = l3[i].s.l.map (fun e => (⟨l3[i].s.key, e⟩ : In)) := rfl
        refine ⟨⟨i + 1, n, us, rfl, by omega, hul, ?_, ?_, hS⟩, by simp [intOf]; omega⟩
        · rw [h6, h7, List.length_append, List.length_map]
          omega
        · rw [h6, h7]
          exact hup
    · obtain rfl : i = l3.length := by omega
      rw [List.take_length] at hnn
      unfold m5_8
      refine builtin_ok (len44 _) ?_
      refine valP_ok (eq3 _ _ _ _ _) ?_
      refine cond_dt (by omega) ?_
      refine callR (by kernel_rfl) (awake_ret hS) ?_
      rintro v w ⟨rfl, hS⟩
      refine pick_dt (by omega) ?_
      unfold m5_9
      exact ⟨rfl, hS.below⟩
  · refine valP_ok (extract_ok _ 0 rfl _) ?_
    refine valP_ok (extract_ok _ 1 rfl _) ?_
    refine valP_ok (extract_ok _ 2 rfl _) ?_
    refine new_ok (al26 _) hS ?_
    intro b5 w hS
    first | refine ss26 0 hS rfl rfl rfl rfl ?_ | refine ss26 1 hS rfl rfl rfl rfl ?_ | refine ss26 2 hS rfl rfl rfl rfl ?_ | refine ss26 3 hS rfl rfl rfl rfl ?_ | refine ss26 4 hS rfl rfl rfl rfl ?_ | refine ss26 5 hS rfl rfl rfl rfl ?_ | refine ss26 6 hS rfl rfl rfl rfl ?_ | refine ss26 7 hS rfl rfl rfl rfl ?_
    intro w hS
    simp only [List.set_cons_zero, List.set_cons_succ] at hS
    unfold m5_3
    refine valP_ok (ne34 _ _ _ _ _) ?_
    unfold m5_32
    refine cond_dt he ?_
    refine builtin_ok (len24 _) ?_
    refine valP_ok (eq3 _ _ _ _ _) ?_
    refine cond_dt rfl ?_
    refine callR (by kernel_rfl) (awake_ret hS) ?_
    rintro v w ⟨rfl, hS⟩
    first | refine pick_dt (by first | assumption | omega) ?_ | refine pick_df (by first | assumption | omega) ?_ | refine pick_t (by first | rfl | assumption) ?_ | refine pick_f (by first | rfl | assumption) ?_ | refine pick_dt rfl ?_ | refine pick_df (not_not_intro rfl) ?_
    unfold m5_33
    exact ⟨rfl, hS.below⟩
end

end Go.Proofs.Ytojgdmcojmllkaa.M
