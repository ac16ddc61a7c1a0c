/- Add: an event, and the sessions that are over by it. -/
import Derived.Test.YtojgdmcojmllkaaS12
namespace Go.Proofs.Ytojgdmcojmllkaa.M
open Go.Proofs.Ytojgdmcojmllkaa.F Go.RowKit
set_option linter.unusedVariables false
set_option linter.unusedSimpArgs false
set_option maxRecDepth 100000
set_option maxHeartbeats 2000000
attribute [local irreducible] Res.cells Res.row Res.map Res.any World.cell? World.frozen? Instr.fieldAt Instr.loadAt Instr.storeAt Instr.indexAt Instr.lookup Instr.mapUpdate Instr.box Instr.build Instr.buildSlice Instr.extract Instr.alloc Instr.field Instr.index Instr.sliceAt Instr.makeSlice Instr.makeMap Instr.makeFunc binS Op.unary Sem.run
structure SOk (w0 : World) (F : List Nat) (L : List Res) (A : Option Addr) (c : Nat) (l : List Sq) : Prop where
  bes : BesS w0 F L A l
  cap : l.length ≤ c
  nil : A = none → c = 0
structure AddOk (g : Gp) (f : Fl) (key : Int) (e : Ev) : Prop where
  flow : FlowOk g f.mark f.late f.L
  key : 0 ≤ key ∧ key ≤ 1048576
  time : 0 ≤ e.t ∧ e.t ≤ 1099511627776
abbrev Fq.fl (f : Fq) : Fl := ⟨f.mark, f.late, ses f.l⟩
theorem row_nil {w0 w : World} {F : List Nat} {L : List Res} {A : Option Addr} {c n e size : Nat} {xs : List Value} (k : Nat) (hS : St w0 F w L) (hk : L[k]? = some (Res.row e size (.slice A n c) n xs)) : A = none → c = 0 := fun hA => by
  subst hA
  have h := hS.own_row k hk
  rcases h.2 with ⟨e, h0⟩ | ⟨g, cap, cur, hv, _⟩
  · injection e
  · cases hv
theorem filt_take {α β : Type} {p : β → Bool} {f : α → β} {l : List α} {k : Nat} (h : k < l.length) : ((l.take (k + 1)).map f).filter p = ((l.take k).map f).filter p ++ if p (f l[k]) then [f l[k]] else [] := by
  rw [List.take_succ_eq_append_getElem h, List.map_append, List.filter_append]
  congr 1
  by_cases hp : p (f l[k]) <;> simp [hp]
section
variable {w0 w : World} {F : List Nat} {L : List Res} {g : Gp} {key : Int} {e : Ev}
/-- The last part: sessions that are over, and those that stay. -/
theorem add_rest {R : Value → World → Prop} {m lt : Int} {b4 b5 b8 : Nat} {lA : Option Addr} {lc : Nat} {lm : List Sq} {N : List Res} (hg : GapOk g) (hm : -1 ≤ m ∧ m ≤ 1099511627776) (hlm : lm.length ≤ 64) (hsp : ∀ s ∈ lm, 1 ≤ s.s.l.length ∧ s.s.l.length ≤ 5000)
    (hS : St w0 F w (Res.cells b5 26 [.int .i64 m, .int .i64 lt, .slice none 0 0] :: Res.cells b8 26 [.int .i64 0, .int .i64 0, .slice none 0 0] :: gC b4 g :: (N ++ L))) (hB : BesS w0 F (N ++ L) lA lm)
    (hR : ∀ w A1 c1 l1 A2 c2 l2 N, ses l1 = (ses lm).filter (fun s => !overB g m s) → ses l2 = (ses lm).filter (overB g m) → St w0 F w (N ++ L) → SOk w0 F N A1 c1 l1 → SOk w0 F N A2 c2 l2 → R (.tuple #[.agg #[.int .i64 m, .int .i64 lt, .slice A1 l1.length c1], .slice A2 l2.length c2, .int .i64 0]) w) :
    m11_7 R (.pointer (some ⟨b4, 0, none⟩)) (.pointer (some ⟨b5, 0, none⟩)) (.pointer (some ⟨b8, 0, none⟩)) (.slice lA lm.length lc) w := by
  unfold m11_7
  unfold m11_8
  refine builtin_ok (len24 _) ?_
  unfold m11_11
  have hS : St w0 F w (Res.cells b5 26 [.int .i64 m, .int .i64 lt, .slice none ([] : List Sq).length 0] :: srow (.slice none ([] : List Sq).length 0) [] :: srow (.slice none ([] : List Sq).length 0) [] :: Res.cells b8 26 [.int .i64 0, .int .i64 0, .slice none 0 0] :: gC b4 g :: (N ++ L)) := ((hS.row_nil 33 2).row_nil 33 2).pick 5 [2, 0, 1, 3, 4] (by simp) (by decide)
  refine loop_in (fun u w' => ∃ (k : Nat) (Ac Ao : Option Addr) (cc co : Nat) (cl ol : List Sq) (M : List Res), u = (.slice Ac cl.length cc, .int .i64 (k : Int)) ∧ k ≤ lm.length ∧ ses cl = (ses (lm.take k)).filter (overB g m) ∧ ses ol = (ses (lm.take k)).filter (fun s => !overB g m s) ∧ (∀ s ∈ cl ++ ol, BE w0 F M s.A s.s.l ∧ s.s.l.length ≤ 5000) ∧
    St w0 F w' (Res.cells b5 26 [.int .i64 m, .int .i64 lt, .slice Ao ol.length co] :: srow (.slice Ac cl.length cc) cl :: srow (.slice Ao ol.length co) ol :: Res.cells b8 26 [.int .i64 0, .int .i64 0, .slice none 0 0] :: gC b4 g :: (M ++ (N ++ L)))) (fun u _ => lm.length - (intOf u.2).toNat) ⟨0, none, none, 0, 0, [], [], [], rfl, by omega, rfl, rfl, by simp, hS⟩ ?_
  clear hS
  rintro u w ⟨k, Ac, Ao, cc, co, cl, ol, M, rfl, hk, hcl, hol, hE, hS⟩
  simp only
  have hcn : cl.length ≤ 64 := by
    have := congrArg List.length hcl
    rw [List.length_map] at this
    rw [this]
    refine Nat.le_trans (List.length_filter_le _ _) ?_
    rw [List.length_map, List.length_take]
    omega
  have hon : ol.length ≤ 64 := by
    have := congrArg List.length hol
    rw [List.length_map] at this
    rw [this]
    refine Nat.le_trans (List.length_filter_le _ _) ?_
    rw [List.length_map, List.length_take]
    omega
  unfold m11_12
  refine valP_ok (lss_ok _ _ _ _ _ _ _) ?_
  unfold m11_13
  refine cond_split (fun h => ?_) (fun h => ?_)
  · have hlt : k < lm.length := by omega
    have hmem := List.getElem_mem hlt
    have hs := hsp _ hmem
    have hB5 : ∀ a b c d e', BesS w0 F (a :: b :: c :: d :: e' :: (M ++ (N ++ L))) lA lm := fun a b c d e' => (((((hB.mono fun r hr => List.mem_append_right M hr).cons e').cons d).cons c).cons b).cons a
    obtain ⟨b, o, rfl⟩ := ((hB5 _ _ _ _ _).row.rd hS).some_ (by omega) (by omega)
    have p := sp_at ((hB5 _ _ _ _ _).row.rd hS) hlt
    unfold m11_14
    refine valP_ok (ix24 hlt _) ?_
    refine valP_ok (ld33 p.1 p.2) ?_
    refine new_ok (al33 _) hS ?_
    intro b15 w hS
    first | refine ss33 0 hS rfl rfl rfl ?_ | refine ss33 1 hS rfl rfl rfl ?_ | refine ss33 2 hS rfl rfl rfl ?_ | refine ss33 3 hS rfl rfl rfl ?_ | refine ss33 4 hS rfl rfl rfl ?_ | refine ss33 5 hS rfl rfl rfl ?_ | refine ss33 6 hS rfl rfl rfl ?_ | refine ss33 7 hS rfl rfl rfl ?_
    intro w hS
    simp only [List.set_cons_zero, List.set_cons_succ] at hS
    unfold m11_16
    first | refine valP_ok (fa33_1 _ _) ?_ | refine valP_ok (fao33_1 _ _ _) ?_
    first | refine valP_ok (ld31 (hS.cell 0 rfl rfl)) ?_ | refine valP_ok (ld31 (hS.cell 1 rfl rfl)) ?_ | refine valP_ok (ld31 (hS.cell 2 rfl rfl)) ?_ | refine valP_ok (ld31 (hS.cell 3 rfl rfl)) ?_ | refine valP_ok (ld31 (hS.cell 4 rfl rfl)) ?_ | refine valP_ok (ld31 (hS.cell 5 rfl rfl)) ?_ | refine valP_ok (ld31 (hS.cell 6 rfl rfl)) ?_ | refine valP_ok (ld31 (hS.cell 7 rfl rfl)) ?_ | refine valP_ok (ld31 (by assumption)) ?_
    refine callR (by kernel_rfl) (eclone_ret (by omega) (by omega) hS (((hB5 _ _ _ _ _).cons _).evs _ hmem)) ?_
    rintro v w ⟨A', c', rfl, hS⟩
    first | refine valP_ok (fa33_1 _ _) ?_ | refine valP_ok (fao33_1 _ _ _) ?_
    first | refine store_at 0 st31 hS rfl (by simp) rfl ?_ | refine store_at 1 st31 hS rfl (by simp) rfl ?_ | refine store_at 2 st31 hS rfl (by simp) rfl ?_ | refine store_at 3 st31 hS rfl (by simp) rfl ?_ | refine store_at 4 st31 hS rfl (by simp) rfl ?_ | refine store_at 5 st31 hS rfl (by simp) rfl ?_ | refine store_at 6 st31 hS rfl (by simp) rfl ?_ | refine store_at 7 st31 hS rfl (by simp) rfl ?_
    intro w hS
    simp only [List.set_cons_zero, List.set_cons_succ] at hS
    unfold m11_17
    first | refine ls33 0 hS rfl ?_ | refine ls33 1 hS rfl ?_ | refine ls33 2 hS rfl ?_ | refine ls33 3 hS rfl ?_ | refine ls33 4 hS rfl ?_ | refine ls33 5 hS rfl ?_ | refine ls33 6 hS rfl ?_ | refine ls33 7 hS rfl ?_ | refine valP_ok (ld33 (by assumption) (by assumption)) ?_
    refine callR (by kernel_rfl) (ends_ret hS (Bes.of_row 0 rfl) (by omega) (by omega)) ?_
    rintro v w ⟨rfl, hS⟩
    refine valP_ok (extract_ok _ 0 rfl _) ?_
    refine valP_ok (extract_ok _ 1 rfl _) ?_
    unfold m11_18
    first | refine ls23 0 hS rfl ?_ | refine ls23 1 hS rfl ?_ | refine ls23 2 hS rfl ?_ | refine ls23 3 hS rfl ?_ | refine ls23 4 hS rfl ?_ | refine ls23 5 hS rfl ?_ | refine ls23 6 hS rfl ?_ | refine ls23 7 hS rfl ?_ | refine valP_ok (ld23 (by assumption) (by assumption)) ?_
    first | refine valP_ok (fa26_0 _ _) ?_ | refine valP_ok (fao26_0 _ _ _) ?_
    first | refine valP_ok (ld3 (hS.cell 0 rfl rfl)) ?_ | refine valP_ok (ld3 (hS.cell 1 rfl rfl)) ?_ | refine valP_ok (ld3 (hS.cell 2 rfl rfl)) ?_ | refine valP_ok (ld3 (hS.cell 3 rfl rfl)) ?_ | refine valP_ok (ld3 (hS.cell 4 rfl rfl)) ?_ | refine valP_ok (ld3 (hS.cell 5 rfl rfl)) ?_ | refine valP_ok (ld3 (hS.cell 6 rfl rfl)) ?_ | refine valP_ok (ld3 (hS.cell 7 rfl rfl)) ?_ | refine valP_ok (ld3 (by assumption)) ?_
    refine callR (by kernel_rfl) (over_ret hg ⟨by omega, hm.2⟩ hS) ?_
    rintro v w ⟨⟨t, rfl, ht⟩, hS⟩
    have hob : overB g m lm[k].s = t := by
      unfold overB
      cases t with
      | true => exact decide_eq_true (ht.1 rfl)
      | false => exact decide_eq_false fun h => by have := ht.2 h; cases this
    have f1 := filt_take (p := overB g m) (f := fun x : Sq => x.s) hlt
    have f2 := filt_take (p := fun s => !overB g m s) (f := fun x : Sq => x.s) hlt
    rw [hob] at f1 f2
    have hEx : ∀ (X : List Sq), (∀ s ∈ X, s ∈ cl ++ ol ∨ s = ⟨lm[k].s, A', c'⟩) → ∀ s ∈ X, BE w0 F ([erow (.slice A' lm[k].s.l.length c') lm[k].s.l] ++ M) s.A s.s.l ∧ s.s.l.length ≤ 5000 := fun X hX s hs' => by
      rcases hX s hs' with h | rfl
      · exact ⟨(hE s h).1.cons _, (hE s h).2⟩
      · exact ⟨Bes.of_row 0 rfl, hs.2⟩
    unfold m11_19
    cases t with
    | true =>
      refine cond_t rfl ?_
      first | refine ls33 0 hS rfl ?_ | refine ls33 1 hS rfl ?_ | refine ls33 2 hS rfl ?_ | refine ls33 3 hS rfl ?_ | refine ls33 4 hS rfl ?_ | refine ls33 5 hS rfl ?_ | refine ls33 6 hS rfl ?_ | refine ls33 7 hS rfl ?_ | refine valP_ok (ld33 (by assumption) (by assumption)) ?_
      refine newslice_ok (bs24_1 _) hS ?_
      intro b99 w hS
      refine append_one1 3 (⟨lm[k].s, A', c'⟩ : Sq) sl24 encS_len encS_one (by unfold maxLen; omega) (by omega) hS rfl ?_
      intro A3 c3 w hS
      simp only [List.set_cons_zero, List.set_cons_succ] at hS
      have hS : St w0 F w (Res.cells b5 26 [.int .i64 m, .int .i64 lt, .slice Ao ol.length co] :: srow (.slice A3 (cl ++ [(⟨lm[k].s, A', c'⟩ : Sq)]).length c3) (cl ++ [(⟨lm[k].s, A', c'⟩ : Sq)]) :: srow (.slice Ao ol.length co) ol :: Res.cells b8 26 [.int .i64 0, .int .i64 0, .slice none 0 0] :: gC b4 g :: (([erow (.slice A' lm[k].s.l.length c') lm[k].s.l] ++ M) ++ (N ++ L))) := hS.pick 7 [2, 3, 4, 5, 6, 0] (by simp) (by decide)
      unfold m11_15
      refine valP_ok (add_ok _ _ _ (by omega) (by omega) _) ?_
      refine ⟨⟨k + 1, A3, Ao, c3, co, cl ++ [(⟨lm[k].s, A', c'⟩ : Sq)], ol, _, rfl, by omega, ?_, ?_, hEx _ fun s hs => ?_, hS⟩, by simp [intOf]; omega⟩
      · unfold ses at hcl ⊢
        rw [f1, List.map_append, hcl]
        rfl
      · unfold ses at hol ⊢
        rw [f2, hol]
        simp
      · simp only [List.mem_append, List.mem_singleton] at hs ⊢
        rcases hs with (h | h) | h
        · exact .inl (.inl h)
        · exact .inr h
        · exact .inl (.inr h)
    | false =>
      refine cond_f rfl ?_
      first | refine valP_ok (fa26_2 _ _) ?_ | refine valP_ok (fao26_2 _ _ _) ?_
      first | refine valP_ok (ld24 (hS.cell 0 rfl rfl)) ?_ | refine valP_ok (ld24 (hS.cell 1 rfl rfl)) ?_ | refine valP_ok (ld24 (hS.cell 2 rfl rfl)) ?_ | refine valP_ok (ld24 (hS.cell 3 rfl rfl)) ?_ | refine valP_ok (ld24 (hS.cell 4 rfl rfl)) ?_ | refine valP_ok (ld24 (hS.cell 5 rfl rfl)) ?_ | refine valP_ok (ld24 (hS.cell 6 rfl rfl)) ?_ | refine valP_ok (ld24 (hS.cell 7 rfl rfl)) ?_ | refine valP_ok (ld24 (by assumption)) ?_
      first | refine ls33 0 hS rfl ?_ | refine ls33 1 hS rfl ?_ | refine ls33 2 hS rfl ?_ | refine ls33 3 hS rfl ?_ | refine ls33 4 hS rfl ?_ | refine ls33 5 hS rfl ?_ | refine ls33 6 hS rfl ?_ | refine ls33 7 hS rfl ?_ | refine valP_ok (ld33 (by assumption) (by assumption)) ?_
      refine newslice_ok (bs24_1 _) hS ?_
      intro b104 w hS
      refine append_one1 4 (⟨lm[k].s, A', c'⟩ : Sq) sl24 encS_len encS_one (by unfold maxLen; omega) (by omega) hS rfl ?_
      intro A3 c3 w hS
      simp only [List.set_cons_zero, List.set_cons_succ] at hS
      first | refine valP_ok (fa26_2 _ _) ?_ | refine valP_ok (fao26_2 _ _ _) ?_
      first | refine store_at 0 st24 hS rfl (by simp) rfl ?_ | refine store_at 1 st24 hS rfl (by simp) rfl ?_ | refine store_at 2 st24 hS rfl (by simp) rfl ?_ | refine store_at 3 st24 hS rfl (by simp) rfl ?_ | refine store_at 4 st24 hS rfl (by simp) rfl ?_ | refine store_at 5 st24 hS rfl (by simp) rfl ?_ | refine store_at 6 st24 hS rfl (by simp) rfl ?_ | refine store_at 7 st24 hS rfl (by simp) rfl ?_
      intro w hS
      simp only [List.set_cons_zero, List.set_cons_succ] at hS
      have hS : St w0 F w (Res.cells b5 26 [.int .i64 m, .int .i64 lt, .slice A3 (ol ++ [(⟨lm[k].s, A', c'⟩ : Sq)]).length c3] :: srow (.slice Ac cl.length cc) cl :: srow (.slice A3 (ol ++ [(⟨lm[k].s, A', c'⟩ : Sq)]).length c3) (ol ++ [(⟨lm[k].s, A', c'⟩ : Sq)]) :: Res.cells b8 26 [.int .i64 0, .int .i64 0, .slice none 0 0] :: gC b4 g :: (([erow (.slice A' lm[k].s.l.length c') lm[k].s.l] ++ M) ++ (N ++ L))) := hS.pick 7 [2, 3, 4, 5, 6, 0] (by simp) (by decide)
      unfold m11_15
      refine valP_ok (add_ok _ _ _ (by omega) (by omega) _) ?_
      refine ⟨⟨k + 1, Ac, A3, cc, c3, cl, ol ++ [(⟨lm[k].s, A', c'⟩ : Sq)], _, rfl, by omega, ?_, ?_, hEx _ fun s hs => ?_, hS⟩, by simp [intOf]; omega⟩
      · unfold ses at hcl ⊢
        rw [f1, hcl]
        simp
      · unfold ses at hol ⊢
        rw [f2, List.map_append, hol]
        rfl
      · simp only [List.mem_append, List.mem_singleton] at hs ⊢
        rcases hs with h | h | h
        · exact .inl (.inl h)
        · exact .inl (.inr h)
        · exact .inr h
  · obtain rfl : k = lm.length := by omega
    rw [List.take_length] at hcl hol
    unfold m11_9
    first | refine ls26 0 hS rfl ?_ | refine ls26 1 hS rfl ?_ | refine ls26 2 hS rfl ?_ | refine ls26 3 hS rfl ?_ | refine ls26 4 hS rfl ?_ | refine ls26 5 hS rfl ?_ | refine ls26 6 hS rfl ?_ | refine ls26 7 hS rfl ?_ | refine valP_ok (ld26 (by assumption) (by assumption) (by assumption)) ?_
    first | refine ss26 0 hS rfl rfl rfl rfl ?_ | refine ss26 1 hS rfl rfl rfl rfl ?_ | refine ss26 2 hS rfl rfl rfl rfl ?_ | refine ss26 3 hS rfl rfl rfl rfl ?_ | refine ss26 4 hS rfl rfl rfl rfl ?_ | refine ss26 5 hS rfl rfl rfl rfl ?_ | refine ss26 6 hS rfl rfl rfl rfl ?_ | refine ss26 7 hS rfl rfl rfl rfl ?_
    intro w hS
    simp only [List.set_cons_zero, List.set_cons_succ] at hS
    unfold m11_10
    refine valS_ok (lc26 (hS.cell 3 rfl rfl) (hS.cell 3 rfl rfl) (hS.cell 3 rfl rfl)) ?_
    have n1 := row_nil 2 hS rfl
    have n2 := row_nil 1 hS rfl
    have m1 := (hS.row_max 2 rfl).1
    have m2 := (hS.row_max 1 rfl).1
    have hS : St w0 F w (([srow (.slice Ac cl.length cc) cl, srow (.slice Ao ol.length co) ol] ++ M) ++ (N ++ L)) := hS.pick 5 [1, 2] (by simp) (by decide)
    have hS := hS.mid
    refine hR w Ao co ol Ac cc cl _ hol hcl hS ⟨⟨Bes.of_row 1 rfl, fun s hs => ?_, by omega, fun s hs => ?_⟩, m1, n1⟩ ⟨⟨Bes.of_row 0 rfl, fun s hs => ?_, by omega, fun s hs => ?_⟩, m2, n2⟩
    · exact ((hE s (List.mem_append_right _ hs)).1.cons _).cons _
    · have := (hE s (List.mem_append_right _ hs)).2
      omega
    · exact ((hE s (List.mem_append_left _ hs)).1.cons _).cons _
    · have := (hE s (List.mem_append_left _ hs)).2
      omega
end

end Go.Proofs.Ytojgdmcojmllkaa.M
