/- The document's Add. -/
import Derived.Test.YtojgdmcojmllkaaS15
namespace Go.Proofs.Ytojgdmcojmllkaa.M
open Go.Proofs.Ytojgdmcojmllkaa.F Go.RowKit
set_option linter.unusedVariables false
set_option linter.unusedSimpArgs false
set_option maxRecDepth 100000
set_option maxHeartbeats 2000000
attribute [local irreducible] Res.cells Res.row Res.map Res.any World.cell? World.frozen? Instr.fieldAt Instr.loadAt Instr.storeAt Instr.indexAt Instr.lookup Instr.mapUpdate Instr.box Instr.build Instr.buildSlice Instr.extract Instr.alloc Instr.field Instr.index Instr.sliceAt Instr.makeSlice Instr.makeMap Instr.makeFunc binS Op.unary Sem.run
section
variable {w0 w : World} {F : List Nat} {L : List Res} {g : Gp} {key : Int} {e : Ev}
theorem radd_rest {R : Value → World → Prop} {m lt : Int} {b4 b17 b8 : Nat} {lA : Option Addr} {lc : Nat} {lm : List Sq} {N : List Res} (hg : GapOk g) (hm : -1 ≤ m ∧ m ≤ 1099511627776) (hlm : lm.length ≤ 64) (hsp : ∀ s ∈ lm, 1 ≤ s.s.l.length ∧ s.s.l.length ≤ 5000)
    (hS : St w0 F w (Res.cells b17 26 [.int .i64 m, .int .i64 lt, .slice none 0 0] :: Res.cells b8 26 [.int .i64 0, .int .i64 0, .slice none 0 0] :: gC b4 g :: (N ++ L))) (hB : BesS w0 F (N ++ L) lA lm)
    (hR : ∀ w A1 c1 l1 A2 c2 l2 N, ses l1 = (ses lm).filter (fun s => !overB g m s) → ses l2 = (ses lm).filter (overB g m) → St w0 F w (N ++ L) → SOk w0 F (N ++ L) A1 c1 l1 → SOk w0 F (N ++ L) A2 c2 l2 → R (.tuple #[.agg #[.int .i64 m, .int .i64 lt, .slice A1 l1.length c1], .slice A2 l2.length c2, .int .i64 0]) w) :
    m12_12 R (.pointer (some ⟨b4, 0, none⟩)) (.pointer (some ⟨b8, 0, none⟩)) (.slice lA lm.length lc) (.pointer (some ⟨b17, 0, none⟩)) w := by
  unfold m12_12 m12_13 m12_16
  have hS : St w0 F w (Res.cells b17 26 [.int .i64 m, .int .i64 lt, .slice none ([] : List Sq).length 0] :: srow (.slice none ([] : List Sq).length 0) [] :: srow (.slice none ([] : List Sq).length 0) [] :: Res.cells b8 26 [.int .i64 0, .int .i64 0, .slice none 0 0] :: gC b4 g :: (N ++ L)) := ((hS.row_nil 33 2).row_nil 33 2).pick 5 [2, 0, 1, 3, 4] (by simp) (by decide)
  refine loop_in (fun u w' => ∃ (k : Nat) (Ac Ao : Option Addr) (cc co : Nat) (cl ol : List Sq), u = (.slice Ac cl.length cc, .int .i64 (k : Int)) ∧ k ≤ lm.length ∧ cl = (lm.take k).filter (fun s => overB g m s.s) ∧ ol = (lm.take k).filter (fun s => !overB g m s.s) ∧
    St w0 F w' (Res.cells b17 26 [.int .i64 m, .int .i64 lt, .slice Ao ol.length co] :: srow (.slice Ac cl.length cc) cl :: srow (.slice Ao ol.length co) ol :: Res.cells b8 26 [.int .i64 0, .int .i64 0, .slice none 0 0] :: gC b4 g :: (N ++ L))) (fun u _ => lm.length - (intOf u.2).toNat) ⟨0, none, none, 0, 0, [], [], rfl, by omega, rfl, rfl, hS⟩ ?_
  clear hS
  rintro u w ⟨k, Ac, Ao, cc, co, cl, ol, rfl, hk, hcl, hol, hS⟩
  simp only
  have hcn : cl.length ≤ 64 := by
    rw [hcl]
    refine Nat.le_trans (List.length_filter_le _ _) ?_
    rw [List.length_take]
    omega
  have hon : ol.length ≤ 64 := by
    rw [hol]
    refine Nat.le_trans (List.length_filter_le _ _) ?_
    rw [List.length_take]
    omega
  unfold m12_17
  refine builtin_ok (len24 _) ?_
  refine valP_ok (lss_ok _ _ _ _ _ _ _) ?_
  unfold m12_21
  refine cond_split (fun h => ?_) (fun h => ?_)
  · have hlt : k < lm.length := by omega
    have hmem := List.getElem_mem hlt
    have hs := hsp _ hmem
    have hB5 : ∀ a b c d e', BesS w0 F (a :: b :: c :: d :: e' :: (N ++ L)) lA lm := fun a b c d e' => ((((hB.cons e').cons d).cons c).cons b).cons a
    obtain ⟨b, o, rfl⟩ := ((hB5 _ _ _ _ _).row.rd hS).some_ (by omega) (by omega)
    have f1 := filter_take (p := fun s : Sq => overB g m s.s) hlt
    have f2 := filter_take (p := fun s : Sq => !overB g m s.s) hlt
    unfold m12_18
    refine drawn_ok hS ?_
    intro w hS
    refine held_Hs hS ?_
    first | refine valJ_at (fun w hw => ld23 (Hs.cell 0 rfl rfl w hw) (Hs.cell 0 rfl rfl w hw)) ?_ | refine valJ_at (fun w hw => ld23 (Hs.cell 1 rfl rfl w hw) (Hs.cell 1 rfl rfl w hw)) ?_ | refine valJ_at (fun w hw => ld23 (Hs.cell 2 rfl rfl w hw) (Hs.cell 2 rfl rfl w hw)) ?_ | refine valJ_at (fun w hw => ld23 (Hs.cell 3 rfl rfl w hw) (Hs.cell 3 rfl rfl w hw)) ?_ | refine valJ_at (fun w hw => ld23 (Hs.cell 4 rfl rfl w hw) (Hs.cell 4 rfl rfl w hw)) ?_ | refine valJ_at (fun w hw => ld23 (Hs.cell 5 rfl rfl w hw) (Hs.cell 5 rfl rfl w hw)) ?_ | refine valJ_at (fun w hw => ld23 (Hs.cell 6 rfl rfl w hw) (Hs.cell 6 rfl rfl w hw)) ?_ | refine valJ_at (fun w hw => ld23 (Hs.cell 7 rfl rfl w hw) (Hs.cell 7 rfl rfl w hw)) ?_
    refine valJ_ok (ix24 hlt) ?_
    have p := fun w (hw : Hs w0 F (Res.cells b17 26 [.int .i64 m, .int .i64 lt, .slice Ao ol.length co] :: srow (.slice Ac cl.length cc) cl :: srow (.slice Ao ol.length co) ol :: Res.cells b8 26 [.int .i64 0, .int .i64 0, .slice none 0 0] :: gC b4 g :: (N ++ L)) w) => sp_at (Hs.rd (hB5 _ _ _ _ _).row w hw) hlt
    refine valJ_at (fun w hw => ld33 (p w hw).1 (p w hw).2) ?_
    first | refine valJ_ok (fa26_0 _) ?_ | refine valJ_ok (fao26_0 _ _) ?_
    first | refine valJ_load ld3 (Hs.cell 0 rfl rfl) ?_ | refine valJ_load ld3 (Hs.cell 1 rfl rfl) ?_ | refine valJ_load ld3 (Hs.cell 2 rfl rfl) ?_ | refine valJ_load ld3 (Hs.cell 3 rfl rfl) ?_ | refine valJ_load ld3 (Hs.cell 4 rfl rfl) ?_ | refine valJ_load ld3 (Hs.cell 5 rfl rfl) ?_ | refine valJ_load ld3 (Hs.cell 6 rfl rfl) ?_ | refine valJ_load ld3 (Hs.cell 7 rfl rfl) ?_ | refine valJ_load ld3 (by assumption) ?_
    refine callR (by kernel_rfl) (last_ret (key := lm[k].s.key) (c := lm[k].c) hS ((hB5 _ _ _ _ _).evs _ hmem) (by omega) (by omega)) ?_
    rintro v w ⟨rfl, hS⟩
    refine stay_Hs hS (by first | exact fun _ h => h | exact fun _ h => .tail _ h | exact fun _ h => .tail _ (.tail _ h) | simp) ?_
    refine callR (by kernel_rfl) (rover_ret hg ⟨by omega, hm.2⟩ hS) ?_
    rintro v w ⟨⟨t, rfl, ht⟩, hS⟩
    refine stay_Hs hS (by first | exact fun _ h => h | exact fun _ h => .tail _ h | exact fun _ h => .tail _ (.tail _ h) | simp) ?_
    have hob : overB g m lm[k].s = t := by
      unfold overB
      cases t with
      | true => exact decide_eq_true (ht.1 rfl)
      | false => exact decide_eq_false fun h => by have := ht.2 h; cases this
    rw [hob] at f1 f2
    have q := sp_at ((hB5 _ _ _ _ _).row.rd hS) hlt
    unfold m12_20
    cases t with
    | true =>
      refine cond_t rfl ?_
      refine valP_ok (ix24 hlt _) ?_
      refine valP_ok (ld33 q.1 q.2) ?_
      refine newslice_ok (bs24_1 _) hS ?_
      intro b160 w hS
      refine append_one1 1 lm[k] sl24 encS_len encS_one (by unfold maxLen; omega) (by omega) hS rfl ?_
      intro A3 c3 w hS
      simp only [List.set_cons_zero, List.set_cons_succ] at hS
      unfold m12_19
      refine valP_ok (add_ok _ _ _ (by omega) (by omega) _) ?_
      exact ⟨⟨k + 1, A3, Ao, c3, co, cl ++ [lm[k]], ol, rfl, by omega, by rw [f1, hcl]; rfl, by rw [f2, hol]; simp, hS⟩, by simp [intOf]; omega⟩
    | false =>
      refine cond_f rfl ?_
      refine drawn_ok hS ?_
      intro w hS
      have q := sp_at ((hB5 _ _ _ _ _).row.rd hS) hlt
      refine pureP_ok (fa26_2 _) ?_
      refine pureP_ok (ix24 hlt) ?_
      have last : ∀ w bb, St w0 F w (Res.cells bb 33 (encS lm[k]) :: Res.cells b17 26 [.int .i64 m, .int .i64 lt, .slice Ao ol.length co] :: srow (.slice Ac cl.length cc) cl :: srow (.slice Ao ol.length co) ol :: Res.cells b8 26 [.int .i64 0, .int .i64 0, .slice none 0 0] :: gC b4 g :: (N ++ L)) → ∀ (K : Value × Value → World → Prop), (∀ w A3 c3, St w0 F w (Res.cells b17 26 [.int .i64 m, .int .i64 lt, .slice A3 (ol ++ [lm[k]]).length c3] :: srow (.slice Ac cl.length cc) cl :: srow (.slice A3 (ol ++ [lm[k]]).length c3) (ol ++ [lm[k]]) :: Res.cells b8 26 [.int .i64 0, .int .i64 0, .slice none 0 0] :: gC b4 g :: (N ++ L)) → K (.slice Ac cl.length cc, .int .i64 ((k + 1 : Nat) : Int)) w) →
          builtinP Try.prog Builtin.append #[24, 24] 24 #[false, false] #[.slice Ao ol.length co, .slice (some ⟨bb, 0, none⟩) 1 1] w fun t169 w => pureP Try.prog (Instr.fieldAt 26 (.pointer (some ⟨b17, 0, none⟩)) 2) fun t170 => unitP Try.prog (Instr.storeAt 24 t170 t169) w fun _ w => m12_19 R K (.pointer (some ⟨b4, 0, none⟩)) (.pointer (some ⟨b8, 0, none⟩)) (.slice (some ⟨b, o, none⟩) lm.length lc) (.pointer (some ⟨b17, 0, none⟩)) (.slice Ac cl.length cc) (.int .i64 k) w := fun w bb hS K hK => by
        refine append_one1 2 lm[k] sl24 encS_len encS_one (by unfold maxLen; omega) (by omega) hS rfl ?_
        intro A3 c3 w hS
        simp only [List.set_cons_zero, List.set_cons_succ] at hS
        refine pureP_ok (fa26_2 _) ?_
        refine store_at 0 st24 hS rfl (by simp) rfl ?_
        intro w hS
        simp only [List.set_cons_zero, List.set_cons_succ] at hS
        unfold m12_19
        refine valP_ok (add_ok _ _ _ (by omega) (by omega) _) ?_
        exact hK w A3 c3 hS
      have inv : ∀ w A3 c3, St w0 F w (Res.cells b17 26 [.int .i64 m, .int .i64 lt, .slice A3 (ol ++ [lm[k]]).length c3] :: srow (.slice Ac cl.length cc) cl :: srow (.slice A3 (ol ++ [lm[k]]).length c3) (ol ++ [lm[k]]) :: Res.cells b8 26 [.int .i64 0, .int .i64 0, .slice none 0 0] :: gC b4 g :: (N ++ L)) → (∃ (k' : Nat) (Ac' Ao' : Option Addr) (cc' co' : Nat) (cl' ol' : List Sq), ((Value.slice Ac cl.length cc, Value.int .i64 ((k + 1 : Nat) : Int)) : Value × Value) = (.slice Ac' cl'.length cc', .int .i64 (k' : Int)) ∧ k' ≤ lm.length ∧ cl' = (lm.take k').filter (fun s => overB g m s.s) ∧ ol' = (lm.take k').filter (fun s => !overB g m s.s) ∧ St w0 F w (Res.cells b17 26 [.int .i64 m, .int .i64 lt, .slice Ao' ol'.length co'] :: srow (.slice Ac' cl'.length cc') cl' :: srow (.slice Ao' ol'.length co') ol' :: Res.cells b8 26 [.int .i64 0, .int .i64 0, .slice none 0 0] :: gC b4 g :: (N ++ L))) ∧ lm.length - (intOf (.int .i64 ((k + 1 : Nat) : Int))).toNat < lm.length - (intOf (.int .i64 (k : Int))).toNat := fun w A3 c3 hS =>
        ⟨⟨k + 1, Ac, A3, cc, c3, cl, ol ++ [lm[k]], rfl, by omega, by rw [f1, hcl]; simp, by rw [f2, hol]; rfl, hS⟩, by simp [intOf]; omega⟩
      refine ⟨?_, ?_⟩
      · refine valP_ok (ld24 (hS.cell 0 rfl rfl)) ?_
        refine valP_ok (ld33 q.1 q.2) ?_
        refine newslice_ok (bs24_1 _) hS ?_
        intro bb w hS
        exact last w bb hS _ inv
      · refine valP_ok (ld33 q.1 q.2) ?_
        refine ⟨?_, ?_⟩
        · refine valP_ok (ld24 (hS.cell 0 rfl rfl)) ?_
          refine newslice_ok (bs24_1 _) hS ?_
          intro bb w hS
          exact last w bb hS _ inv
        · refine newslice_ok (bs24_1 _) hS ?_
          intro bb w hS
          refine valP_ok (ld24 (hS.cell 1 rfl rfl)) ?_
          exact last w bb hS _ inv
  · obtain rfl : k = lm.length := by omega
    rw [List.take_length] at hcl hol
    unfold m12_14
    first | refine ls26 0 hS rfl ?_ | refine ls26 1 hS rfl ?_ | refine ls26 2 hS rfl ?_ | refine ls26 3 hS rfl ?_ | refine ls26 4 hS rfl ?_ | refine ls26 5 hS rfl ?_ | refine ls26 6 hS rfl ?_ | refine ls26 7 hS rfl ?_ | refine valP_ok (ld26 (by assumption) (by assumption) (by assumption)) ?_
    first | refine ss26 0 hS rfl rfl rfl rfl ?_ | refine ss26 1 hS rfl rfl rfl rfl ?_ | refine ss26 2 hS rfl rfl rfl rfl ?_ | refine ss26 3 hS rfl rfl rfl rfl ?_ | refine ss26 4 hS rfl rfl rfl rfl ?_ | refine ss26 5 hS rfl rfl rfl rfl ?_ | refine ss26 6 hS rfl rfl rfl rfl ?_ | refine ss26 7 hS rfl rfl rfl rfl ?_
    intro w hS
    simp only [List.set_cons_zero, List.set_cons_succ] at hS
    unfold m12_15
    refine valS_ok (lc26 (hS.cell 3 rfl rfl) (hS.cell 3 rfl rfl) (hS.cell 3 rfl rfl)) ?_
    have n1 := row_nil 2 hS rfl
    have n2 := row_nil 1 hS rfl
    have m1 := (hS.row_max 2 rfl).1
    have m2 := (hS.row_max 1 rfl).1
    have hS : St w0 F w (([srow (.slice Ac cl.length cc) cl, srow (.slice Ao ol.length co) ol] ++ N) ++ L) := hS.pick 5 [1, 2] (by simp) (by decide)
    have h1 : ∀ s ∈ ol, s ∈ lm := fun s hs => by rw [hol] at hs; exact (List.mem_filter.1 hs).1
    have h2 : ∀ s ∈ cl, s ∈ lm := fun s hs => by rw [hcl] at hs; exact (List.mem_filter.1 hs).1
    refine hR w Ao co ol Ac cc cl _ ?_ ?_ hS ⟨⟨Bes.of_row 1 rfl, fun s hs => ((hB.evs s (h1 s hs)).cons _).cons _, by omega, fun s hs => hB.emax s (h1 s hs)⟩, m1, n1⟩ ⟨⟨Bes.of_row 0 rfl, fun s hs => ((hB.evs s (h2 s hs)).cons _).cons _, by omega, fun s hs => hB.emax s (h2 s hs)⟩, m2, n2⟩
    · unfold ses
      rw [hol, List.filter_map]
      rfl
    · unfold ses
      rw [hcl, List.filter_map]
      rfl
end

end Go.Proofs.Ytojgdmcojmllkaa.M
