/- SessionsAdd: any event, added to any state. -/
import Derived.Test.YtojgdmcojmllkaaS23
import Derived.Test.YtojgdmcojmllkaaMla0
namespace Go.Proofs.Ytojgdmcojmllkaa.M
open Go.Proofs.Ytojgdmcojmllkaa.F Go.RowKit
set_option linter.unusedVariables false
set_option linter.unusedSimpArgs false
set_option maxRecDepth 100000
set_option maxHeartbeats 2000000
attribute [local irreducible] Res.cells Res.row Res.map Res.any World.cell? World.frozen? Instr.fieldAt Instr.loadAt Instr.storeAt Instr.indexAt Instr.lookup Instr.mapUpdate Instr.box Instr.build Instr.buildSlice Instr.extract Instr.alloc Instr.field Instr.index Instr.sliceAt Instr.makeSlice Instr.makeMap Instr.makeFunc binS Op.unary Sem.run
open Classical in
noncomputable def outR (g : Gp) (f : Fl) (key : Int) (e : Ev) : Fl × List Se × Int := if AddOk g f key e then (if f.late = 1099511627776 then (⟨0, 0, []⟩, [], 6) else (addS g f key e, shutS g f key e, 0)) else (⟨0, 0, []⟩, [], 1)
section
variable {w0 w : World} {F : List Nat} {L : List Res} {g : Gp} {key : Int} {e : Ev}
theorem nil_sok {L : List Res} : SOk w0 F L none 0 [] := ⟨⟨fun w L' hS hL => Rd.nil_ _ _ _, by simp, by simp, by simp⟩, by simp, fun _ => rfl⟩
theorem AddRes.out {K : List Res} {f : Fl} {v : Value} {w' : World} (h : AddRes w0 F L K g f key e v w') : ∃ A1 c1 l1 A2 c2 l2 N, v = .tuple #[.agg #[.int .i64 (outR g f key e).1.mark, .int .i64 (outR g f key e).1.late, .slice A1 (List.length l1) c1], .slice A2 (List.length l2) c2, .int .i64 (outR g f key e).2.2] ∧
    ses l1 = (outR g f key e).1.L ∧ ses l2 = (outR g f key e).2.1 ∧ St w0 F w' (N ++ L) ∧ SOk w0 F (N ++ K) A1 c1 l1 ∧ SOk w0 F (N ++ K) A2 c2 l2 := by
  obtain ⟨h1, h2, h3⟩ := h
  unfold outR
  by_cases ho : AddOk g f key e
  · by_cases hl : f.late = 1099511627776
    · obtain ⟨rfl, hS⟩ := h2 ho hl
      rw [if_pos ho, if_pos hl]
      exact ⟨none, 0, [], none, 0, [], [], rfl, rfl, rfl, hS, nil_sok, nil_sok⟩
    · obtain ⟨A1, c1, l1, A2, c2, l2, N, rfl, e1, e2, hS, o1, o2⟩ := h3 ho hl
      rw [if_pos ho, if_neg hl]
      exact ⟨A1, c1, l1, A2, c2, l2, N, rfl, e1, e2, hS, o1, o2⟩
  · obtain ⟨rfl, hS⟩ := h1 ho
    rw [if_neg ho]
    exact ⟨none, 0, [], none, 0, [], [], rfl, rfl, rfl, hS, nil_sok, nil_sok⟩
end
theorem sadd_ret {w0 : World} {g : Gp} {f : Fq} {key : Int} {e : Ev} (hA : FArg w0 f) : Ret Try.prog 3 #[gv g, fv f, .int .i64 key, ev e] w0 fun v w' => v = .bool true ∧ Below w0.heap.size w0 w' := by
  have hsok := hA.sok
  obtain ⟨fm, fl, fA, fc, fL⟩ := f
  have hmax := hA.max
  have hemax := hA.emax
  have henil := hA.enil
  simp only at hmax hemax henil hsok
  have hS := St.start w0
  refine s3 _ _ _ _ ?_
  show m3 _ (gv g) (.agg #[.int .i64 fm, .int .i64 fl, .slice fA fL.length fc]) (.int .i64 key) (ev e) w0
  unfold m3
  unfold m3_0
  refine new_ok (bx23 _ _ _) hS ?_
  intro b4 w hS
  refine new_ok (bx26 _ _ _ _) hS ?_
  intro b5 w hS
  refine new_ok (bx28 _ _ _) hS ?_
  intro b7 w hS
  unfold m3_1
  first | refine ls26 0 hS rfl ?_ | refine ls26 1 hS rfl ?_ | refine ls26 2 hS rfl ?_ | refine ls26 3 hS rfl ?_ | refine ls26 4 hS rfl ?_ | refine ls26 5 hS rfl ?_ | refine ls26 6 hS rfl ?_ | refine ls26 7 hS rfl ?_ | refine valP_ok (ld26 (by assumption) (by assumption) (by assumption)) ?_
  refine callR (by kernel_rfl) (light_ret (f := ⟨fm, fl, fA, fc, fL⟩) (hsok _).bes hS) ?_
  rintro v w ⟨⟨t, rfl, ht⟩, hS⟩
  first | refine valP_ok (not_ok _ _) ?_ | refine valP_ok (notb_ok _ _) ?_
  unfold m3_15
  cases t with
  | false =>
    refine cond_t rfl ?_
    refine callR (by kernel_rfl) (awake_ret hS) ?_
    rintro v w ⟨rfl, hS⟩
    unfold m3_16
    exact ⟨rfl, hS.below⟩
  | true =>
    have h70 : fL.length ≤ 70 := ht rfl
    refine cond_f rfl ?_
    unfold m3_2
    first | refine valP_ok (fa26_0 _ _) ?_ | refine valP_ok (fao26_0 _ _ _) ?_
    first | refine valP_ok (ld3 (hS.cell 0 rfl rfl)) ?_ | refine valP_ok (ld3 (hS.cell 1 rfl rfl)) ?_ | refine valP_ok (ld3 (hS.cell 2 rfl rfl)) ?_ | refine valP_ok (ld3 (hS.cell 3 rfl rfl)) ?_ | refine valP_ok (ld3 (hS.cell 4 rfl rfl)) ?_ | refine valP_ok (ld3 (hS.cell 5 rfl rfl)) ?_ | refine valP_ok (ld3 (hS.cell 6 rfl rfl)) ?_ | refine valP_ok (ld3 (hS.cell 7 rfl rfl)) ?_ | refine valP_ok (ld3 (by assumption)) ?_
    first | refine valP_ok (fa26_1 _ _) ?_ | refine valP_ok (fao26_1 _ _ _) ?_
    first | refine valP_ok (ld3 (hS.cell 0 rfl rfl)) ?_ | refine valP_ok (ld3 (hS.cell 1 rfl rfl)) ?_ | refine valP_ok (ld3 (hS.cell 2 rfl rfl)) ?_ | refine valP_ok (ld3 (hS.cell 3 rfl rfl)) ?_ | refine valP_ok (ld3 (hS.cell 4 rfl rfl)) ?_ | refine valP_ok (ld3 (hS.cell 5 rfl rfl)) ?_ | refine valP_ok (ld3 (hS.cell 6 rfl rfl)) ?_ | refine valP_ok (ld3 (hS.cell 7 rfl rfl)) ?_ | refine valP_ok (ld3 (by assumption)) ?_
    refine valP_ok (bd26_0_1 rfl rfl _) ?_
    refine new_ok (al26 _) hS ?_
    intro b9 w hS
    first | refine ss26 0 hS rfl rfl rfl rfl ?_ | refine ss26 1 hS rfl rfl rfl rfl ?_ | refine ss26 2 hS rfl rfl rfl rfl ?_ | refine ss26 3 hS rfl rfl rfl rfl ?_ | refine ss26 4 hS rfl rfl rfl rfl ?_ | refine ss26 5 hS rfl rfl rfl rfl ?_ | refine ss26 6 hS rfl rfl rfl rfl ?_ | refine ss26 7 hS rfl rfl rfl rfl ?_
    intro w hS
    simp only [List.set_cons_zero, List.set_cons_succ] at hS
    unfold m3_3 m3_8
    have hS : St w0 [] w (Res.cells b9 26 [.int .i64 fm, .int .i64 fl, .slice none ([] : List Sq).length 0] :: srow (.slice none ([] : List Sq).length 0) [] :: Res.cells b7 28 (encE e) :: Res.cells b5 26 [.int .i64 fm, .int .i64 fl, .slice fA fL.length fc] :: gC b4 g :: []) := (hS.row_nil 33 2).pick 5 [1, 0, 2, 3, 4] (by simp) (by decide)
    refine loop_in (fun u w' => ∃ (i : Nat) (Ak : Option Addr) (ck : Nat) (kl : List Sq) (X : List Res), u = .int .i64 (i : Int) ∧ i ≤ fL.length ∧ ses kl = ses (fL.take i) ∧ (∀ s ∈ kl, BE w0 [] X s.A s.s.l ∧ s.s.l.length ≤ 140737488351232) ∧ St w0 [] w' (Res.cells b9 26 [.int .i64 fm, .int .i64 fl, .slice Ak kl.length ck] :: srow (.slice Ak kl.length ck) kl :: Res.cells b7 28 (encE e) :: Res.cells b5 26 [.int .i64 fm, .int .i64 fl, .slice fA fL.length fc] :: gC b4 g :: X)) (fun u _ => fL.length - (intOf u).toNat) ⟨0, none, 0, [], [], rfl, by omega, rfl, by simp, hS⟩ ?_
    clear hS
    rintro u w ⟨i, Ak, ck, kl, X, rfl, hi, hkl, hE, hS⟩
    have hkn : kl.length ≤ 70 := by
      have := congrArg List.length hkl
      rw [List.length_map, List.length_map, List.length_take] at this
      omega
    unfold m3_9
    first | refine valP_ok (fa26_2 _ _) ?_ | refine valP_ok (fao26_2 _ _ _) ?_
    first | refine valP_ok (ld24 (hS.cell 0 rfl rfl)) ?_ | refine valP_ok (ld24 (hS.cell 1 rfl rfl)) ?_ | refine valP_ok (ld24 (hS.cell 2 rfl rfl)) ?_ | refine valP_ok (ld24 (hS.cell 3 rfl rfl)) ?_ | refine valP_ok (ld24 (hS.cell 4 rfl rfl)) ?_ | refine valP_ok (ld24 (hS.cell 5 rfl rfl)) ?_ | refine valP_ok (ld24 (hS.cell 6 rfl rfl)) ?_ | refine valP_ok (ld24 (hS.cell 7 rfl rfl)) ?_ | refine valP_ok (ld24 (by assumption)) ?_
    refine builtin_ok (len24 _) ?_
    refine valP_ok (lss_ok _ _ _ _ _ _ _) ?_
    unfold m3_14
    refine cond_split (fun h => ?_) (fun h => ?_)
    · have hlt : i < fL.length := by omega
      have hmem := List.getElem_mem hlt
      obtain ⟨b, o, rfl⟩ := ((hsok _).bes.row.rd hS).some_ (by omega) (by omega)
      have p := sp_at ((hsok _).bes.row.rd hS) hlt
      have hem := hemax _ hmem
      unfold m3_10
      unfold m3_12
      first | refine valP_ok (fa26_2 _ _) ?_ | refine valP_ok (fao26_2 _ _ _) ?_
      first | refine valP_ok (ld24 (hS.cell 0 rfl rfl)) ?_ | refine valP_ok (ld24 (hS.cell 1 rfl rfl)) ?_ | refine valP_ok (ld24 (hS.cell 2 rfl rfl)) ?_ | refine valP_ok (ld24 (hS.cell 3 rfl rfl)) ?_ | refine valP_ok (ld24 (hS.cell 4 rfl rfl)) ?_ | refine valP_ok (ld24 (hS.cell 5 rfl rfl)) ?_ | refine valP_ok (ld24 (hS.cell 6 rfl rfl)) ?_ | refine valP_ok (ld24 (hS.cell 7 rfl rfl)) ?_ | refine valP_ok (ld24 (by assumption)) ?_
      refine valP_ok (ix24 hlt _) ?_
      refine valP_ok (fao33_1 _ _ _) ?_
      refine valP_ok (ld31 p.2) ?_
      have hS := hS.row_nil 28 2
      refine append_anyS (l0 := ([] : List Ev)) (l := fL[i].s.l) 0 sl31 encE_len encE_one (by simp; unfold maxLen; omega) (by simp; omega) hS rfl (((hsok _).bes.evs _ hmem).rd hS) (henil _ hmem) ?_
      intro A' c' w hS
      simp only [List.set_cons_zero, List.nil_append] at hS ⊢
      have hS : St w0 [] w (Res.cells b9 26 [.int .i64 fm, .int .i64 fl, .slice Ak kl.length ck] :: srow (.slice Ak kl.length ck) kl :: Res.cells b7 28 (encE e) :: Res.cells b5 26 [.int .i64 fm, .int .i64 fl, .slice (some ⟨b, o, none⟩) fL.length fc] :: gC b4 g :: (erow (.slice A' fL[i].s.l.length c') fL[i].s.l :: X)) := hS.pick 6 [1, 2, 3, 4, 5, 0] (by simp) (by decide)
      unfold m3_13
      refine drawn_ok hS ?_
      intro w hS
      have p := sp_at ((hsok _).bes.row.rd hS) hlt
      have last : ∀ w bb, St w0 [] w (Res.cells bb 33 [.int .i64 fL[i].s.key, .slice A' fL[i].s.l.length c'] :: Res.cells b9 26 [.int .i64 fm, .int .i64 fl, .slice Ak kl.length ck] :: srow (.slice Ak kl.length ck) kl :: Res.cells b7 28 (encE e) :: Res.cells b5 26 [.int .i64 fm, .int .i64 fl, .slice (some ⟨b, o, none⟩) fL.length fc] :: gC b4 g :: (erow (.slice A' fL[i].s.l.length c') fL[i].s.l :: X)) → ∀ K : Value → World → Prop, (∀ w A3 c3, St w0 [] w (Res.cells b9 26 [.int .i64 fm, .int .i64 fl, .slice A3 (kl ++ [(⟨fL[i].s, A', c'⟩ : Sq)]).length c3] :: srow (.slice A3 (kl ++ [(⟨fL[i].s, A', c'⟩ : Sq)]).length c3) (kl ++ [(⟨fL[i].s, A', c'⟩ : Sq)]) :: Res.cells b7 28 (encE e) :: Res.cells b5 26 [.int .i64 fm, .int .i64 fl, .slice (some ⟨b, o, none⟩) fL.length fc] :: gC b4 g :: (erow (.slice A' fL[i].s.l.length c') fL[i].s.l :: X)) → K (.int .i64 ((i + 1 : Nat) : Int)) w) →
          builtinP Try.prog Builtin.append #[24, 24] 24 #[false, false] #[.slice Ak kl.length ck, .slice (some ⟨bb, 0, none⟩) 1 1] w fun t53 w => pureP Try.prog (Instr.fieldAt 26 (.pointer (some ⟨b9, 0, none⟩)) 2) fun t54 => unitP Try.prog (Instr.storeAt 24 t54 t53) w fun _ w => m3_11 (fun v w' => v = .bool true ∧ Below w0.heap.size w0 w') K (.int .i64 key) (.pointer (some ⟨b4, 0, none⟩)) (.pointer (some ⟨b5, 0, none⟩)) (.pointer (some ⟨b7, 0, none⟩)) (.pointer (some ⟨b9, 0, none⟩)) (.int .i64 i) w := fun w bb hS K hK => by
        refine append_one1 1 (⟨fL[i].s, A', c'⟩ : Sq) sl24 encS_len encS_one (by unfold maxLen; omega) (by omega) hS rfl ?_
        intro A3 c3 w hS
        simp only [List.set_cons_zero, List.set_cons_succ] at hS
        refine pureP_ok (fa26_2 _) ?_
        refine store_at 0 st24 hS rfl (by simp) rfl ?_
        intro w hS
        simp only [List.set_cons_zero, List.set_cons_succ] at hS
        unfold m3_11
        refine valP_ok (add_ok _ _ _ (by omega) (by omega) _) ?_
        exact hK w A3 c3 hS
      have inv : ∀ w A3 c3, St w0 [] w (Res.cells b9 26 [.int .i64 fm, .int .i64 fl, .slice A3 (kl ++ [(⟨fL[i].s, A', c'⟩ : Sq)]).length c3] :: srow (.slice A3 (kl ++ [(⟨fL[i].s, A', c'⟩ : Sq)]).length c3) (kl ++ [(⟨fL[i].s, A', c'⟩ : Sq)]) :: Res.cells b7 28 (encE e) :: Res.cells b5 26 [.int .i64 fm, .int .i64 fl, .slice (some ⟨b, o, none⟩) fL.length fc] :: gC b4 g :: (erow (.slice A' fL[i].s.l.length c') fL[i].s.l :: X)) → (∃ (i' : Nat) (Ak : Option Addr) (ck : Nat) (kl : List Sq) (X : List Res), Value.int .i64 ((i + 1 : Nat) : Int) = .int .i64 (i' : Int) ∧ i' ≤ fL.length ∧ ses kl = ses (fL.take i') ∧ (∀ s ∈ kl, BE w0 [] X s.A s.s.l ∧ s.s.l.length ≤ 140737488351232) ∧ St w0 [] w (Res.cells b9 26 [.int .i64 fm, .int .i64 fl, .slice Ak kl.length ck] :: srow (.slice Ak kl.length ck) kl :: Res.cells b7 28 (encE e) :: Res.cells b5 26 [.int .i64 fm, .int .i64 fl, .slice (some ⟨b, o, none⟩) fL.length fc] :: gC b4 g :: X)) ∧ fL.length - (intOf (.int .i64 ((i + 1 : Nat) : Int))).toNat < fL.length - (intOf (.int .i64 (i : Int))).toNat := fun w A3 c3 hS => by
        refine ⟨⟨i + 1, A3, c3, kl ++ [(⟨fL[i].s, A', c'⟩ : Sq)], _, rfl, by omega, ?_, fun s hs => ?_, hS⟩, by simp [intOf]; omega⟩
        · unfold ses at *
          rw [List.map_append, hkl, List.take_succ_eq_append_getElem hlt, List.map_append]
          rfl
        · rcases List.mem_append.1 hs with hs | hs
          · exact ⟨(hE s hs).1.cons _, (hE s hs).2⟩
          · obtain rfl := List.mem_singleton.1 hs
            exact ⟨Bes.of_row 0 rfl, by simp only; omega⟩
      refine pureP_ok (fa26_2 _) ?_
      refine pureP_ok (fa26_2 _) ?_
      refine ⟨?_, ?_⟩
      · refine valP_ok (ld24 (hS.cell 0 rfl rfl)) ?_
        refine valP_ok (ld24 (hS.cell 3 rfl rfl)) ?_
        refine pureP_ok (ix24 hlt) ?_
        refine pureP_ok (fao33_0 _ _) ?_
        refine valP_ok (ld3 p.1) ?_
        refine pureP_ok (bd33_0_1 rfl rfl) ?_
        refine newslice_ok (bs24_1 _) hS ?_
        intro bb w hS
        exact last w bb hS _ inv
      · refine valP_ok (ld24 (hS.cell 3 rfl rfl)) ?_
        refine pureP_ok (ix24 hlt) ?_
        refine pureP_ok (fao33_0 _ _) ?_
        refine ⟨?_, ?_⟩
        · refine valP_ok (ld24 (hS.cell 0 rfl rfl)) ?_
          refine valP_ok (ld3 p.1) ?_
          refine pureP_ok (bd33_0_1 rfl rfl) ?_
          refine newslice_ok (bs24_1 _) hS ?_
          intro bb w hS
          exact last w bb hS _ inv
        · refine valP_ok (ld3 p.1) ?_
          refine pureP_ok (bd33_0_1 rfl rfl) ?_
          refine ⟨?_, ?_⟩
          · refine valP_ok (ld24 (hS.cell 0 rfl rfl)) ?_
            refine newslice_ok (bs24_1 _) hS ?_
            intro bb w hS
            exact last w bb hS _ inv
          · refine newslice_ok (bs24_1 _) hS ?_
            intro bb w hS
            refine valP_ok (ld24 (hS.cell 1 rfl rfl)) ?_
            exact last w bb hS _ inv
    · obtain rfl : i = fL.length := by omega
      rw [List.take_length] at hkl
      have hkn2 : kl.length = fL.length := by
        have := congrArg List.length hkl
        simpa using this
      have kn := row_nil 1 hS rfl
      have km := (hS.row_max 1 rfl).1
      unfold m3_4
      first | refine ls23 0 hS rfl ?_ | refine ls23 1 hS rfl ?_ | refine ls23 2 hS rfl ?_ | refine ls23 3 hS rfl ?_ | refine ls23 4 hS rfl ?_ | refine ls23 5 hS rfl ?_ | refine ls23 6 hS rfl ?_ | refine ls23 7 hS rfl ?_ | refine valP_ok (ld23 (by assumption) (by assumption)) ?_
      first | refine ls26 0 hS rfl ?_ | refine ls26 1 hS rfl ?_ | refine ls26 2 hS rfl ?_ | refine ls26 3 hS rfl ?_ | refine ls26 4 hS rfl ?_ | refine ls26 5 hS rfl ?_ | refine ls26 6 hS rfl ?_ | refine ls26 7 hS rfl ?_ | refine valP_ok (ld26 (by assumption) (by assumption) (by assumption)) ?_
      first | refine ls28 0 hS rfl ?_ | refine ls28 1 hS rfl ?_ | refine ls28 2 hS rfl ?_ | refine ls28 3 hS rfl ?_ | refine ls28 4 hS rfl ?_ | refine ls28 5 hS rfl ?_ | refine ls28 6 hS rfl ?_ | refine ls28 7 hS rfl ?_ | refine valP_ok (ld28 (by assumption) (by assumption)) ?_
      refine callR (by kernel_rfl) (add_ret (f := ⟨fm, fl, fA, fc, fL⟩) (key := key) (e := e) (hsok _) hS) ?_
      intro v w hres
      obtain ⟨A1, c1, l1, A2, c2, l2, N1, rfl, e1, e2, hS, o1, o2⟩ := hres.out
      rw [List.append_nil] at o1 o2
      have hS : St w0 [] w (Res.cells b9 26 [.int .i64 fm, .int .i64 fl, .slice Ak kl.length ck] :: srow (.slice Ak kl.length ck) kl :: Res.cells b7 28 (encE e) :: Res.cells b5 26 [.int .i64 fm, .int .i64 fl, .slice fA fL.length fc] :: gC b4 g :: (N1 ++ X)) := St.swap (A := N1) (B := [_, _, _, _, _]) hS
      refine valP_ok (extract_ok _ 0 rfl _) ?_
      refine valP_ok (extract_ok _ 1 rfl _) ?_
      refine valP_ok (extract_ok _ 2 rfl _) ?_
      refine new_ok (al26 _) hS ?_
      intro b12 w hS
      first | refine ss26 0 hS rfl rfl rfl rfl ?_ | refine ss26 1 hS rfl rfl rfl rfl ?_ | refine ss26 2 hS rfl rfl rfl rfl ?_ | refine ss26 3 hS rfl rfl rfl rfl ?_ | refine ss26 4 hS rfl rfl rfl rfl ?_ | refine ss26 5 hS rfl rfl rfl rfl ?_ | refine ss26 6 hS rfl rfl rfl rfl ?_ | refine ss26 7 hS rfl rfl rfl rfl ?_
      intro w hS
      simp only [List.set_cons_zero, List.set_cons_succ] at hS
      unfold m3_5
      first | refine ls23 0 hS rfl ?_ | refine ls23 1 hS rfl ?_ | refine ls23 2 hS rfl ?_ | refine ls23 3 hS rfl ?_ | refine ls23 4 hS rfl ?_ | refine ls23 5 hS rfl ?_ | refine ls23 6 hS rfl ?_ | refine ls23 7 hS rfl ?_ | refine valP_ok (ld23 (by assumption) (by assumption)) ?_
      first | refine ls26 0 hS rfl ?_ | refine ls26 1 hS rfl ?_ | refine ls26 2 hS rfl ?_ | refine ls26 3 hS rfl ?_ | refine ls26 4 hS rfl ?_ | refine ls26 5 hS rfl ?_ | refine ls26 6 hS rfl ?_ | refine ls26 7 hS rfl ?_ | refine valP_ok (ld26 (by assumption) (by assumption) (by assumption)) ?_
      first | refine ls28 0 hS rfl ?_ | refine ls28 1 hS rfl ?_ | refine ls28 2 hS rfl ?_ | refine ls28 3 hS rfl ?_ | refine ls28 4 hS rfl ?_ | refine ls28 5 hS rfl ?_ | refine ls28 6 hS rfl ?_ | refine ls28 7 hS rfl ?_ | refine valP_ok (ld28 (by assumption) (by assumption)) ?_
      refine callR (by kernel_rfl) (radd_ret (f := ⟨fm, fl, Ak, ck, kl⟩) (key := key) (e := e) ⟨⟨Bes.of_row 2 rfl, fun s hs => (hE s hs).1.mono fun r hr => ?_, by simp only; omega, fun s hs => (hE s hs).2⟩, km, kn⟩ hS) ?_
      · exact .tail _ (.tail _ (.tail _ (.tail _ (.tail _ (.tail _ (List.mem_append_right _ hr))))))
      intro v w hres
      obtain ⟨A3, c3, l3, A4, c4, l4, N2, rfl, e3, e4, hS, o3, o4⟩ := hres.out
      have efl : Fq.fl ⟨fm, fl, Ak, ck, kl⟩ = Fq.fl ⟨fm, fl, fA, fc, fL⟩ := by unfold Fq.fl; simp only [hkl]
      rw [efl] at e3 e4 ⊢
      have hS : St w0 [] w (Res.cells b12 26 [.int .i64 (outR g (Fq.fl ⟨fm, fl, fA, fc, fL⟩) key e).1.mark, .int .i64 (outR g (Fq.fl ⟨fm, fl, fA, fc, fL⟩) key e).1.late, .slice A1 l1.length c1] :: Res.cells b9 26 [.int .i64 fm, .int .i64 fl, .slice Ak kl.length ck] :: srow (.slice Ak kl.length ck) kl :: Res.cells b7 28 (encE e) :: Res.cells b5 26 [.int .i64 fm, .int .i64 fl, .slice fA fL.length fc] :: gC b4 g :: (N2 ++ (N1 ++ X))) := St.swap (A := N2) (B := [_, _, _, _, _, _]) hS
      generalize outR g (Fq.fl ⟨fm, fl, fA, fc, fL⟩) key e = O at *
      refine valP_ok (extract_ok _ 0 rfl _) ?_
      refine valP_ok (extract_ok _ 1 rfl _) ?_
      refine valP_ok (extract_ok _ 2 rfl _) ?_
      refine new_ok (al26 _) hS ?_
      intro b15 w hS
      first | refine ss26 0 hS rfl rfl rfl rfl ?_ | refine ss26 1 hS rfl rfl rfl rfl ?_ | refine ss26 2 hS rfl rfl rfl rfl ?_ | refine ss26 3 hS rfl rfl rfl rfl ?_ | refine ss26 4 hS rfl rfl rfl rfl ?_ | refine ss26 5 hS rfl rfl rfl rfl ?_ | refine ss26 6 hS rfl rfl rfl rfl ?_ | refine ss26 7 hS rfl rfl rfl rfl ?_
      intro w hS
      simp only [List.set_cons_zero, List.set_cons_succ] at hS
      have sub1 : ∀ r ∈ N1, r ∈ Res.cells b15 26 [.int .i64 O.1.mark, .int .i64 O.1.late, .slice A3 l3.length c3] :: Res.cells b12 26 [.int .i64 O.1.mark, .int .i64 O.1.late, .slice A1 l1.length c1] :: Res.cells b9 26 [.int .i64 fm, .int .i64 fl, .slice Ak kl.length ck] :: srow (.slice Ak kl.length ck) kl :: Res.cells b7 28 (encE e) :: Res.cells b5 26 [.int .i64 fm, .int .i64 fl, .slice fA fL.length fc] :: gC b4 g :: (N2 ++ (N1 ++ X)) := fun r hr => by simp [hr]
      have subX : ∀ r ∈ X, r ∈ Res.cells b15 26 [.int .i64 O.1.mark, .int .i64 O.1.late, .slice A3 l3.length c3] :: Res.cells b12 26 [.int .i64 O.1.mark, .int .i64 O.1.late, .slice A1 l1.length c1] :: Res.cells b9 26 [.int .i64 fm, .int .i64 fl, .slice Ak kl.length ck] :: srow (.slice Ak kl.length ck) kl :: Res.cells b7 28 (encE e) :: Res.cells b5 26 [.int .i64 fm, .int .i64 fl, .slice fA fL.length fc] :: gC b4 g :: (N2 ++ (N1 ++ X)) := fun r hr => by simp [hr]
      have sub2 : ∀ r ∈ N2 ++ (Res.cells b12 26 [.int .i64 O.1.mark, .int .i64 O.1.late, .slice A1 l1.length c1] :: Res.cells b9 26 [.int .i64 fm, .int .i64 fl, .slice Ak kl.length ck] :: srow (.slice Ak kl.length ck) kl :: Res.cells b7 28 (encE e) :: Res.cells b5 26 [.int .i64 fm, .int .i64 fl, .slice fA fL.length fc] :: gC b4 g :: (N1 ++ X)), r ∈ Res.cells b15 26 [.int .i64 O.1.mark, .int .i64 O.1.late, .slice A3 l3.length c3] :: Res.cells b12 26 [.int .i64 O.1.mark, .int .i64 O.1.late, .slice A1 l1.length c1] :: Res.cells b9 26 [.int .i64 fm, .int .i64 fl, .slice Ak kl.length ck] :: srow (.slice Ak kl.length ck) kl :: Res.cells b7 28 (encE e) :: Res.cells b5 26 [.int .i64 fm, .int .i64 fl, .slice fA fL.length fc] :: gC b4 g :: (N2 ++ (N1 ++ X)) := fun r hr => by
        simp only [List.mem_cons, List.mem_append] at hr ⊢
        rcases hr with h | h | h | h | h | h | h | h <;> simp [h]
      have B1 := o1.bes.mono sub1
      have B2 := o2.bes.mono sub1
      have B3 := o3.bes.mono sub2
      have B4 := o4.bes.mono sub2
      have Bf := (hsok (Res.cells b15 26 [.int .i64 O.1.mark, .int .i64 O.1.late, .slice A3 l3.length c3] :: Res.cells b12 26 [.int .i64 O.1.mark, .int .i64 O.1.late, .slice A1 l1.length c1] :: Res.cells b9 26 [.int .i64 fm, .int .i64 fl, .slice Ak kl.length ck] :: srow (.slice Ak kl.length ck) kl :: Res.cells b7 28 (encE e) :: Res.cells b5 26 [.int .i64 fm, .int .i64 fl, .slice fA fL.length fc] :: gC b4 g :: (N2 ++ (N1 ++ X)))).bes
      have Bk : BesS w0 [] (Res.cells b15 26 [.int .i64 O.1.mark, .int .i64 O.1.late, .slice A3 l3.length c3] :: Res.cells b12 26 [.int .i64 O.1.mark, .int .i64 O.1.late, .slice A1 l1.length c1] :: Res.cells b9 26 [.int .i64 fm, .int .i64 fl, .slice Ak kl.length ck] :: srow (.slice Ak kl.length ck) kl :: Res.cells b7 28 (encE e) :: Res.cells b5 26 [.int .i64 fm, .int .i64 fl, .slice fA fL.length fc] :: gC b4 g :: (N2 ++ (N1 ++ X))) Ak kl := ⟨Bes.of_row 3 rfl, fun s hs => (hE s hs).1.mono subX, by omega, fun s hs => (hE s hs).2⟩
      unfold m3_6
      refine drawn_ok hS ?_
      intro w hS
      refine held_Hs hS ?_
      first | refine valJ_at (fun w hw => ld26 (Hs.cell 0 rfl rfl w hw) (Hs.cell 0 rfl rfl w hw) (Hs.cell 0 rfl rfl w hw)) ?_ | refine valJ_at (fun w hw => ld26 (Hs.cell 1 rfl rfl w hw) (Hs.cell 1 rfl rfl w hw) (Hs.cell 1 rfl rfl w hw)) ?_ | refine valJ_at (fun w hw => ld26 (Hs.cell 2 rfl rfl w hw) (Hs.cell 2 rfl rfl w hw) (Hs.cell 2 rfl rfl w hw)) ?_ | refine valJ_at (fun w hw => ld26 (Hs.cell 3 rfl rfl w hw) (Hs.cell 3 rfl rfl w hw) (Hs.cell 3 rfl rfl w hw)) ?_ | refine valJ_at (fun w hw => ld26 (Hs.cell 4 rfl rfl w hw) (Hs.cell 4 rfl rfl w hw) (Hs.cell 4 rfl rfl w hw)) ?_ | refine valJ_at (fun w hw => ld26 (Hs.cell 5 rfl rfl w hw) (Hs.cell 5 rfl rfl w hw) (Hs.cell 5 rfl rfl w hw)) ?_ | refine valJ_at (fun w hw => ld26 (Hs.cell 6 rfl rfl w hw) (Hs.cell 6 rfl rfl w hw) (Hs.cell 6 rfl rfl w hw)) ?_ | refine valJ_at (fun w hw => ld26 (Hs.cell 7 rfl rfl w hw) (Hs.cell 7 rfl rfl w hw) (Hs.cell 7 rfl rfl w hw)) ?_
      first | refine valJ_at (fun w hw => ld26 (Hs.cell 0 rfl rfl w hw) (Hs.cell 0 rfl rfl w hw) (Hs.cell 0 rfl rfl w hw)) ?_ | refine valJ_at (fun w hw => ld26 (Hs.cell 1 rfl rfl w hw) (Hs.cell 1 rfl rfl w hw) (Hs.cell 1 rfl rfl w hw)) ?_ | refine valJ_at (fun w hw => ld26 (Hs.cell 2 rfl rfl w hw) (Hs.cell 2 rfl rfl w hw) (Hs.cell 2 rfl rfl w hw)) ?_ | refine valJ_at (fun w hw => ld26 (Hs.cell 3 rfl rfl w hw) (Hs.cell 3 rfl rfl w hw) (Hs.cell 3 rfl rfl w hw)) ?_ | refine valJ_at (fun w hw => ld26 (Hs.cell 4 rfl rfl w hw) (Hs.cell 4 rfl rfl w hw) (Hs.cell 4 rfl rfl w hw)) ?_ | refine valJ_at (fun w hw => ld26 (Hs.cell 5 rfl rfl w hw) (Hs.cell 5 rfl rfl w hw) (Hs.cell 5 rfl rfl w hw)) ?_ | refine valJ_at (fun w hw => ld26 (Hs.cell 6 rfl rfl w hw) (Hs.cell 6 rfl rfl w hw) (Hs.cell 6 rfl rfl w hw)) ?_ | refine valJ_at (fun w hw => ld26 (Hs.cell 7 rfl rfl w hw) (Hs.cell 7 rfl rfl w hw) (Hs.cell 7 rfl rfl w hw)) ?_
      refine callR (by kernel_rfl) (same_ret (f := ⟨O.1.mark, O.1.late, A1, c1, l1⟩) (f2 := ⟨O.1.mark, O.1.late, A3, c3, l3⟩) hS B1 B3) ?_
      rintro v w ⟨⟨t, rfl, ht⟩, hS⟩
      have ht : t = true := ht.2 ⟨rfl, rfl, by simp only [e1, e3]⟩
      subst ht
      refine stay_Hs hS (by first | exact fun _ h => h | exact fun _ h => .tail _ h | exact fun _ h => .tail _ (.tail _ h) | simp) ?_
      refine cond_t rfl ?_
      refine callR (by kernel_rfl) (samespans_ret hS B2 B4) ?_
      rintro v w ⟨⟨t, rfl, ht⟩, hS⟩
      have ht : t = true := ht.2 (by rw [e2, e4])
      subst ht
      refine stay_Hs hS (by first | exact fun _ h => h | exact fun _ h => .tail _ h | exact fun _ h => .tail _ (.tail _ h) | simp) ?_
      first | refine pick_dt (by first | assumption | omega) ?_ | refine pick_df (by first | assumption | omega) ?_ | refine pick_t (by first | rfl | assumption) ?_ | refine pick_f (by first | rfl | assumption) ?_ | refine pick_dt rfl ?_ | refine pick_df (not_not_intro rfl) ?_
      refine cond_t rfl ?_
      refine valJ_ok (eq3 _ _ _ _) ?_
      first | refine pick_dt (by first | assumption | omega) ?_ | refine pick_df (by first | assumption | omega) ?_ | refine pick_t (by first | rfl | assumption) ?_ | refine pick_f (by first | rfl | assumption) ?_ | refine pick_dt rfl ?_ | refine pick_df (not_not_intro rfl) ?_
      refine cond_dt rfl ?_
      first | refine valJ_at (fun w hw => ld26 (Hs.cell 0 rfl rfl w hw) (Hs.cell 0 rfl rfl w hw) (Hs.cell 0 rfl rfl w hw)) ?_ | refine valJ_at (fun w hw => ld26 (Hs.cell 1 rfl rfl w hw) (Hs.cell 1 rfl rfl w hw) (Hs.cell 1 rfl rfl w hw)) ?_ | refine valJ_at (fun w hw => ld26 (Hs.cell 2 rfl rfl w hw) (Hs.cell 2 rfl rfl w hw) (Hs.cell 2 rfl rfl w hw)) ?_ | refine valJ_at (fun w hw => ld26 (Hs.cell 3 rfl rfl w hw) (Hs.cell 3 rfl rfl w hw) (Hs.cell 3 rfl rfl w hw)) ?_ | refine valJ_at (fun w hw => ld26 (Hs.cell 4 rfl rfl w hw) (Hs.cell 4 rfl rfl w hw) (Hs.cell 4 rfl rfl w hw)) ?_ | refine valJ_at (fun w hw => ld26 (Hs.cell 5 rfl rfl w hw) (Hs.cell 5 rfl rfl w hw) (Hs.cell 5 rfl rfl w hw)) ?_ | refine valJ_at (fun w hw => ld26 (Hs.cell 6 rfl rfl w hw) (Hs.cell 6 rfl rfl w hw) (Hs.cell 6 rfl rfl w hw)) ?_ | refine valJ_at (fun w hw => ld26 (Hs.cell 7 rfl rfl w hw) (Hs.cell 7 rfl rfl w hw) (Hs.cell 7 rfl rfl w hw)) ?_
      first | refine valJ_at (fun w hw => ld26 (Hs.cell 0 rfl rfl w hw) (Hs.cell 0 rfl rfl w hw) (Hs.cell 0 rfl rfl w hw)) ?_ | refine valJ_at (fun w hw => ld26 (Hs.cell 1 rfl rfl w hw) (Hs.cell 1 rfl rfl w hw) (Hs.cell 1 rfl rfl w hw)) ?_ | refine valJ_at (fun w hw => ld26 (Hs.cell 2 rfl rfl w hw) (Hs.cell 2 rfl rfl w hw) (Hs.cell 2 rfl rfl w hw)) ?_ | refine valJ_at (fun w hw => ld26 (Hs.cell 3 rfl rfl w hw) (Hs.cell 3 rfl rfl w hw) (Hs.cell 3 rfl rfl w hw)) ?_ | refine valJ_at (fun w hw => ld26 (Hs.cell 4 rfl rfl w hw) (Hs.cell 4 rfl rfl w hw) (Hs.cell 4 rfl rfl w hw)) ?_ | refine valJ_at (fun w hw => ld26 (Hs.cell 5 rfl rfl w hw) (Hs.cell 5 rfl rfl w hw) (Hs.cell 5 rfl rfl w hw)) ?_ | refine valJ_at (fun w hw => ld26 (Hs.cell 6 rfl rfl w hw) (Hs.cell 6 rfl rfl w hw) (Hs.cell 6 rfl rfl w hw)) ?_ | refine valJ_at (fun w hw => ld26 (Hs.cell 7 rfl rfl w hw) (Hs.cell 7 rfl rfl w hw) (Hs.cell 7 rfl rfl w hw)) ?_
      refine callR (by kernel_rfl) (same_ret (f := ⟨fm, fl, fA, fc, fL⟩) (f2 := ⟨fm, fl, Ak, ck, kl⟩) hS Bf Bk) ?_
      rintro v w ⟨⟨t, rfl, ht⟩, hS⟩
      have ht : t = true := ht.2 ⟨rfl, rfl, hkl.symm⟩
      subst ht
      refine stay_Hs hS (by first | exact fun _ h => h | exact fun _ h => .tail _ h | exact fun _ h => .tail _ (.tail _ h) | simp) ?_
      first | refine pick_dt (by first | assumption | omega) ?_ | refine pick_df (by first | assumption | omega) ?_ | refine pick_t (by first | rfl | assumption) ?_ | refine pick_f (by first | rfl | assumption) ?_ | refine pick_dt rfl ?_ | refine pick_df (not_not_intro rfl) ?_
      refine cond_t rfl ?_
      first | refine valJ_at (fun w hw => ld23 (Hs.cell 0 rfl rfl w hw) (Hs.cell 0 rfl rfl w hw)) ?_ | refine valJ_at (fun w hw => ld23 (Hs.cell 1 rfl rfl w hw) (Hs.cell 1 rfl rfl w hw)) ?_ | refine valJ_at (fun w hw => ld23 (Hs.cell 2 rfl rfl w hw) (Hs.cell 2 rfl rfl w hw)) ?_ | refine valJ_at (fun w hw => ld23 (Hs.cell 3 rfl rfl w hw) (Hs.cell 3 rfl rfl w hw)) ?_ | refine valJ_at (fun w hw => ld23 (Hs.cell 4 rfl rfl w hw) (Hs.cell 4 rfl rfl w hw)) ?_ | refine valJ_at (fun w hw => ld23 (Hs.cell 5 rfl rfl w hw) (Hs.cell 5 rfl rfl w hw)) ?_ | refine valJ_at (fun w hw => ld23 (Hs.cell 6 rfl rfl w hw) (Hs.cell 6 rfl rfl w hw)) ?_ | refine valJ_at (fun w hw => ld23 (Hs.cell 7 rfl rfl w hw) (Hs.cell 7 rfl rfl w hw)) ?_
      first | refine valJ_at (fun w hw => ld26 (Hs.cell 0 rfl rfl w hw) (Hs.cell 0 rfl rfl w hw) (Hs.cell 0 rfl rfl w hw)) ?_ | refine valJ_at (fun w hw => ld26 (Hs.cell 1 rfl rfl w hw) (Hs.cell 1 rfl rfl w hw) (Hs.cell 1 rfl rfl w hw)) ?_ | refine valJ_at (fun w hw => ld26 (Hs.cell 2 rfl rfl w hw) (Hs.cell 2 rfl rfl w hw) (Hs.cell 2 rfl rfl w hw)) ?_ | refine valJ_at (fun w hw => ld26 (Hs.cell 3 rfl rfl w hw) (Hs.cell 3 rfl rfl w hw) (Hs.cell 3 rfl rfl w hw)) ?_ | refine valJ_at (fun w hw => ld26 (Hs.cell 4 rfl rfl w hw) (Hs.cell 4 rfl rfl w hw) (Hs.cell 4 rfl rfl w hw)) ?_ | refine valJ_at (fun w hw => ld26 (Hs.cell 5 rfl rfl w hw) (Hs.cell 5 rfl rfl w hw) (Hs.cell 5 rfl rfl w hw)) ?_ | refine valJ_at (fun w hw => ld26 (Hs.cell 6 rfl rfl w hw) (Hs.cell 6 rfl rfl w hw) (Hs.cell 6 rfl rfl w hw)) ?_ | refine valJ_at (fun w hw => ld26 (Hs.cell 7 rfl rfl w hw) (Hs.cell 7 rfl rfl w hw) (Hs.cell 7 rfl rfl w hw)) ?_
      first | refine valJ_at (fun w hw => ld23 (Hs.cell 0 rfl rfl w hw) (Hs.cell 0 rfl rfl w hw)) ?_ | refine valJ_at (fun w hw => ld23 (Hs.cell 1 rfl rfl w hw) (Hs.cell 1 rfl rfl w hw)) ?_ | refine valJ_at (fun w hw => ld23 (Hs.cell 2 rfl rfl w hw) (Hs.cell 2 rfl rfl w hw)) ?_ | refine valJ_at (fun w hw => ld23 (Hs.cell 3 rfl rfl w hw) (Hs.cell 3 rfl rfl w hw)) ?_ | refine valJ_at (fun w hw => ld23 (Hs.cell 4 rfl rfl w hw) (Hs.cell 4 rfl rfl w hw)) ?_ | refine valJ_at (fun w hw => ld23 (Hs.cell 5 rfl rfl w hw) (Hs.cell 5 rfl rfl w hw)) ?_ | refine valJ_at (fun w hw => ld23 (Hs.cell 6 rfl rfl w hw) (Hs.cell 6 rfl rfl w hw)) ?_ | refine valJ_at (fun w hw => ld23 (Hs.cell 7 rfl rfl w hw) (Hs.cell 7 rfl rfl w hw)) ?_
      first | refine valJ_at (fun w hw => ld26 (Hs.cell 0 rfl rfl w hw) (Hs.cell 0 rfl rfl w hw) (Hs.cell 0 rfl rfl w hw)) ?_ | refine valJ_at (fun w hw => ld26 (Hs.cell 1 rfl rfl w hw) (Hs.cell 1 rfl rfl w hw) (Hs.cell 1 rfl rfl w hw)) ?_ | refine valJ_at (fun w hw => ld26 (Hs.cell 2 rfl rfl w hw) (Hs.cell 2 rfl rfl w hw) (Hs.cell 2 rfl rfl w hw)) ?_ | refine valJ_at (fun w hw => ld26 (Hs.cell 3 rfl rfl w hw) (Hs.cell 3 rfl rfl w hw) (Hs.cell 3 rfl rfl w hw)) ?_ | refine valJ_at (fun w hw => ld26 (Hs.cell 4 rfl rfl w hw) (Hs.cell 4 rfl rfl w hw) (Hs.cell 4 rfl rfl w hw)) ?_ | refine valJ_at (fun w hw => ld26 (Hs.cell 5 rfl rfl w hw) (Hs.cell 5 rfl rfl w hw) (Hs.cell 5 rfl rfl w hw)) ?_ | refine valJ_at (fun w hw => ld26 (Hs.cell 6 rfl rfl w hw) (Hs.cell 6 rfl rfl w hw) (Hs.cell 6 rfl rfl w hw)) ?_ | refine valJ_at (fun w hw => ld26 (Hs.cell 7 rfl rfl w hw) (Hs.cell 7 rfl rfl w hw) (Hs.cell 7 rfl rfl w hw)) ?_
      refine callR (by kernel_rfl) (check_ret (f := ⟨fm, fl, fA, fc, fL⟩) (hsok []).cap Bf hS) ?_
      rintro v w ⟨⟨x, rfl, _, hx⟩, hS⟩
      refine stay_Hs hS (by first | exact fun _ h => h | exact fun _ h => .tail _ h | exact fun _ h => .tail _ (.tail _ h) | simp) ?_
      refine valJ_ok (eq34 _ _ _ _) ?_
      refine callR (by kernel_rfl) (mayflow_ret (f := ⟨fm, fl, Ak, ck, kl⟩) Bk hS) ?_
      rintro v w ⟨⟨t, rfl, ht⟩, hS⟩
      have hxt : decide (x = 0) = t := by
        have hx : x = 0 ↔ FlowOk g fm fl (ses fL) := hx
        have ht : t = true ↔ FlowOk g fm fl (ses kl) := ht
        rw [hkl] at ht
        cases t with
        | true => exact decide_eq_true (hx.2 (ht.1 rfl))
        | false => exact decide_eq_false fun h => by have := ht.2 (hx.1 h); cases this
      rw [hxt]
      refine stay_Hs hS (by first | exact fun _ h => h | exact fun _ h => .tail _ h | exact fun _ h => .tail _ (.tail _ h) | simp) ?_
      refine valJ_ok (eq4 _ _ _ _) ?_
      first | refine pick_dt (by first | assumption | omega) ?_ | refine pick_df (by first | assumption | omega) ?_ | refine pick_t (by first | rfl | assumption) ?_ | refine pick_f (by first | rfl | assumption) ?_ | refine pick_dt rfl ?_ | refine pick_df (not_not_intro rfl) ?_
      refine cond_dt rfl ?_
      refine callR (by kernel_rfl) (awake_ret hS) ?_
      rintro v w ⟨rfl, hS⟩
      refine stay_Hs hS (by first | exact fun _ h => h | exact fun _ h => .tail _ h | exact fun _ h => .tail _ (.tail _ h) | simp) ?_
      first | refine pick_dt (by first | assumption | omega) ?_ | refine pick_df (by first | assumption | omega) ?_ | refine pick_t (by first | rfl | assumption) ?_ | refine pick_f (by first | rfl | assumption) ?_ | refine pick_dt rfl ?_ | refine pick_df (not_not_intro rfl) ?_
      unfold m3_7
      exact ⟨rfl, hS.below⟩

end Go.Proofs.Ytojgdmcojmllkaa.M
