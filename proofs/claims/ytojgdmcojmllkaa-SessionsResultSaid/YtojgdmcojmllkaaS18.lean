/- Events one behind the other: run. -/
import Derived.Test.YtojgdmcojmllkaaS17
namespace Go.Proofs.Ytojgdmcojmllkaa.M
open Go.Proofs.Ytojgdmcojmllkaa.F Go.RowKit
set_option linter.unusedVariables false
set_option linter.unusedSimpArgs false
set_option maxRecDepth 100000
set_option maxHeartbeats 2000000
attribute [local irreducible] Res.cells Res.row Res.map Res.any World.cell? World.frozen? Instr.fieldAt Instr.loadAt Instr.storeAt Instr.indexAt Instr.lookup Instr.mapUpdate Instr.box Instr.build Instr.buildSlice Instr.extract Instr.alloc Instr.field Instr.index Instr.sliceAt Instr.makeSlice Instr.makeMap Instr.makeFunc binS Op.unary Sem.run
structure In where
  key : Int
  e : Ev
deriving DecidableEq
abbrev encI (x : In) : List Value := [.int .i64 x.key, .int .i64 x.e.t, .int .i64 x.e.v]
theorem encI_len : ∀ x, (encI x).length = 3 := fun _ => rfl
def zeroF : Fl := ⟨-1, 0, []⟩
def Can (g : Gp) (f : Fl) (x : In) : Prop := AddOk g f x.key x.e ∧ f.late ≠ 1099511627776
/-- the state behind events, and all that were told. -/
inductive Runs (g : Gp) : List In → Fl → List Se → Prop
  | nil : Runs g [] zeroF []
  | snoc {l : List In} {f : Fl} {all : List Se} {x : In} : Runs g l f all → Can g f x → Runs g (l ++ [x]) (addS g f x.key x.e) (all ++ shutS g f x.key x.e)
theorem snoc_inj {α : Type} {a b : List α} {x y : α} (h : a ++ [x] = b ++ [y]) : a = b ∧ x = y := by
  have := List.append_inj' h rfl
  exact ⟨this.1, by simpa using this.2⟩
theorem Runs.det {g : Gp} {l : List In} {f f' : Fl} {a a' : List Se} (h : Runs g l f a) (h' : Runs g l f' a') : f = f' ∧ a = a' := by
  induction h generalizing f' a' with
  | nil =>
    generalize hl : ([] : List In) = l at h'
    cases h' with
    | nil => exact ⟨rfl, rfl⟩
    | snoc h1 h2 => simp at hl
  | @snoc l f all x h1 h2 ih =>
    generalize hl : l ++ [x] = l' at h'
    cases h' with
    | nil => simp at hl
    | @snoc l2 f2 all2 x2 h3 h4 =>
      obtain ⟨rfl, rfl⟩ := snoc_inj hl
      obtain ⟨rfl, rfl⟩ := ih h3
      exact ⟨rfl, rfl⟩
theorem Runs.pre {g : Gp} {l m : List In} {f : Fl} {a : List Se} (h : Runs g (l ++ m) f a) : ∃ f' a', Runs g l f' a' := by
  generalize hk : l ++ m = k at h
  induction h generalizing l m with
  | nil =>
    obtain ⟨rfl, _⟩ := List.append_eq_nil_iff.1 hk
    exact ⟨_, _, .nil⟩
  | @snoc k f all x h1 h2 ih =>
    rcases List.eq_nil_or_concat m with rfl | ⟨m', y, rfl⟩
    · rw [List.append_nil] at hk
      subst hk
      exact ⟨_, _, .snoc h1 h2⟩
    · rw [List.concat_eq_append, ← List.append_assoc] at hk
      obtain ⟨hk, _⟩ := snoc_inj hk
      exact ih hk
theorem Runs.can {g : Gp} {l m : List In} {x : In} {f f' : Fl} {a a' : List Se} (h : Runs g (l ++ x :: m) f a) (h' : Runs g l f' a') : Can g f' x := by
  rw [show l ++ x :: m = (l ++ [x]) ++ m by simp] at h
  obtain ⟨f2, a2, h2⟩ := h.pre
  generalize hl : l ++ [x] = l' at h2
  cases h2 with
  | nil => simp at hl
  | snoc h3 h4 =>
    obtain ⟨rfl, rfl⟩ := snoc_inj hl
    obtain ⟨rfl, rfl⟩ := h3.det h'
    exact h4
section
variable {w0 w : World} {F : List Nat} {L : List Res} {g : Gp}
theorem mem4 {a b c d r : Res} {N X : List Res} (h : r ∈ a :: b :: c :: d :: X) : r ∈ a :: b :: c :: d :: (N ++ X) := by
  simp only [List.mem_cons, List.mem_append] at h ⊢
  rcases h with h | h | h | h | h <;> simp [h]
theorem AddRes.form {K : List Res} {f : Fl} {x : In} {v : Value} {w' : World} (h : AddRes w0 F L K g f x.key x.e v w') : ∃ m lt A1 n1 c1 A2 n2 c2 er N, v = .tuple #[.agg #[.int .i64 m, .int .i64 lt, .slice A1 n1 c1], .slice A2 n2 c2, .int .i64 er] ∧ St w0 F w' (N ++ L) ∧
    ((er ≠ 0 ∧ ¬ Can g f x) ∨ (er = 0 ∧ Can g f x ∧ m = (addS g f x.key x.e).mark ∧ lt = (addS g f x.key x.e).late ∧ ∃ l1 l2, n1 = l1.length ∧ n2 = l2.length ∧ ses l1 = (addS g f x.key x.e).L ∧ ses l2 = shutS g f x.key x.e ∧ SOk w0 F (N ++ K) A1 c1 l1 ∧ SOk w0 F (N ++ K) A2 c2 l2)) := by
  obtain ⟨h1, h2, h3⟩ := h
  by_cases ho : AddOk g f x.key x.e
  · by_cases hl : f.late = 1099511627776
    · obtain ⟨rfl, hS⟩ := h2 ho hl
      exact ⟨0, 0, none, 0, 0, none, 0, 0, 6, [], rfl, hS, .inl ⟨by omega, fun h => h.2 hl⟩⟩
    · obtain ⟨A1, c1, l1, A2, c2, l2, N, rfl, e1, e2, hS, o1, o2⟩ := h3 ho hl
      exact ⟨_, _, A1, _, c1, A2, _, c2, 0, N, rfl, hS, .inr ⟨rfl, ⟨ho, hl⟩, rfl, rfl, l1, l2, rfl, rfl, e1, e2, o1, o2⟩⟩
  · obtain ⟨rfl, hS⟩ := h1 ho
    exact ⟨0, 0, none, 0, 0, none, 0, 0, 1, [], rfl, hS, .inl ⟨by omega, fun h => ho h.1⟩⟩
theorem zero_ret (hS : St w0 F w L) : Ret Try.prog 39 #[] w fun v w' => v = .agg #[.int .i64 (-1), .int .i64 0, .slice none 0 0] ∧ St w0 F w' L := by
  refine s39 ?_
  unfold m39
  unfold m39_0
  refine new_ok (al26 _) hS ?_
  intro b0 w hS
  unfold m39_1
  refine valP_ok (bd26_0 rfl _) ?_
  first | refine ss26 0 hS rfl rfl rfl rfl ?_ | refine ss26 1 hS rfl rfl rfl rfl ?_ | refine ss26 2 hS rfl rfl rfl rfl ?_ | refine ss26 3 hS rfl rfl rfl rfl ?_ | refine ss26 4 hS rfl rfl rfl rfl ?_ | refine ss26 5 hS rfl rfl rfl rfl ?_ | refine ss26 6 hS rfl rfl rfl rfl ?_ | refine ss26 7 hS rfl rfl rfl rfl ?_
  intro w hS
  simp only [List.set_cons_zero, List.set_cons_succ] at hS
  unfold m39_2
  refine valS_ok (lc26 (hS.cell 0 rfl rfl) (hS.cell 0 rfl rfl) (hS.cell 0 rfl rfl)) ?_
  exact ⟨rfl, hS.tail⟩
theorem some_ret {A : Option Addr} {c : Nat} {l : List In} (hc : l.length ≤ c) : Ret Try.prog 17 #[.slice A l.length c] w fun v w' => v = .slice A (l.take 100).length c ∧ w' = w := by
  refine s17 _ ?_
  unfold m17
  unfold m17_0
  unfold m17_1
  refine builtin_ok (len44 _) ?_
  refine valP_ok (gtr_ok _ _ _ _ _ _ _) ?_
  unfold m17_4
  refine cond_split (fun h => ?_) (fun h => ?_)
  · refine valP_ok (sh44 (k := 100) (by omega) _) ?_
    unfold m17_5
    exact ⟨by rw [List.length_take, Nat.min_eq_left (by omega)], rfl⟩
  · unfold m17_2 m17_3
    exact ⟨by rw [List.take_of_length_le (by omega)], rfl⟩
theorem mid_len {f : Fl} {key : Int} {e : Ev} (h : FlowOk g f.mark f.late f.L) : (shutS g f key e).length ≤ 64 := by
  have := (mid_ok (key := key) (e := e) h).1
  unfold shutS
  exact Nat.le_trans (List.length_filter_le _ _) this
/-- what run tells. -/
def RunRes (w0 : World) (F : List Nat) (L : List Res) (g : Gp) (l : List In) (v : Value) (w' : World) : Prop :=
  (∃ f all A1 c1 l1 A2 c2 l2 N, Runs g l f all ∧ v = .tuple #[.agg #[.int .i64 f.mark, .int .i64 f.late, .slice A1 (List.length l1) c1], .slice A2 (List.length l2) c2, .int .i64 0] ∧ ses l1 = f.L ∧ ses l2 = all ∧ l2.length ≤ 64 * l.length ∧
    St w0 F w' (srow (.slice A2 l2.length c2) l2 :: (N ++ L)) ∧ SOk w0 F N A1 c1 l1 ∧ ∀ s ∈ l2, BE w0 F N s.A s.s.l ∧ s.s.l.length ≤ 140737488351232) ∨
  (∃ er : Int, er ≠ 0 ∧ (¬ ∃ f all, Runs g l f all) ∧ v = .tuple #[.agg #[.int .i64 0, .int .i64 0, .slice none 0 0], .slice none 0 0, .int .i64 er] ∧ St w0 F w' L)
theorem run_m {R : Value → World → Prop} {A : Option Addr} {c : Nat} {l : List In} (hl : l.length ≤ 1000) (hS : St w0 F w L) (hA : Bes w0 F L 3 A l.length (l.flatMap encI)) (hR : ∀ v w, RunRes w0 F L g l v w → R v w) : m18 R (gv g) (.slice A l.length c) w := by
  unfold m18
  unfold m18_0
  refine new_ok (bx23 _ _ _) hS ?_
  intro b2 w hS
  refine new_ok (al26 _) hS ?_
  intro b4 w hS
  unfold m18_1
  refine callR (by kernel_rfl) (zero_ret hS) ?_
  rintro v w ⟨rfl, hS⟩
  refine new_ok (al26 _) hS ?_
  intro b7 w hS
  first | refine ss26 0 hS rfl rfl rfl rfl ?_ | refine ss26 1 hS rfl rfl rfl rfl ?_ | refine ss26 2 hS rfl rfl rfl rfl ?_ | refine ss26 3 hS rfl rfl rfl rfl ?_ | refine ss26 4 hS rfl rfl rfl rfl ?_ | refine ss26 5 hS rfl rfl rfl rfl ?_ | refine ss26 6 hS rfl rfl rfl rfl ?_ | refine ss26 7 hS rfl rfl rfl rfl ?_
  intro w hS
  simp only [List.set_cons_zero, List.set_cons_succ] at hS
  unfold m18_2 m18_3 m18_6
  have hS : St w0 F w (Res.cells b7 26 [.int .i64 zeroF.mark, .int .i64 zeroF.late, .slice none ([] : List Sq).length 0] :: srow (.slice none ([] : List Sq).length 0) [] :: Res.cells b4 26 [.int .i64 0, .int .i64 0, .slice none 0 0] :: gC b2 g :: ([] ++ L)) := (hS.row_nil 33 2).pick 4 [1, 0, 2, 3] (by simp) (by decide)
  have nilok : SOk w0 F ([] : List Res) none 0 [] := ⟨⟨fun w L' hS hL => Rd.nil_ _ _ _, by simp, by simp, by simp⟩, by simp, fun _ => rfl⟩
  refine loop_in (fun u w' => ∃ (i : Nat) (f : Fl) (all : List Se) (A1 A2 : Option Addr) (c1 c2 : Nat) (l1 l2 : List Sq) (N : List Res), u = (.slice A2 l2.length c2, .int .i64 (i : Int)) ∧ i ≤ l.length ∧ Runs g (l.take i) f all ∧ ses l1 = f.L ∧ ses l2 = all ∧ l2.length ≤ 64 * i ∧ SOk w0 F N A1 c1 l1 ∧ (∀ s ∈ l2, BE w0 F N s.A s.s.l ∧ s.s.l.length ≤ 140737488351232) ∧
    St w0 F w' (Res.cells b7 26 [.int .i64 f.mark, .int .i64 f.late, .slice A1 l1.length c1] :: srow (.slice A2 l2.length c2) l2 :: Res.cells b4 26 [.int .i64 0, .int .i64 0, .slice none 0 0] :: gC b2 g :: (N ++ L))) (fun u _ => l.length - (intOf u.2).toNat)
    ⟨0, zeroF, [], none, none, 0, 0, [], [], [], rfl, by omega, .nil, rfl, rfl, by simp, nilok, by simp, hS⟩ ?_
  clear hS
  rintro u w ⟨i, f, all, A1, A2, c1, c2, l1, l2, N, rfl, hi, hrun, h1, h2, hn2, ho1, hE2, hS⟩
  simp only
  unfold m18_7
  refine builtin_ok (len44 _) ?_
  refine valP_ok (lss_ok _ _ _ _ _ _ _) ?_
  unfold m18_15
  refine cond_split (fun h => ?_) (fun h => ?_)
  · have hlt : i < l.length := by omega
    have hA5 : ∀ a b c d, Bes w0 F (a :: b :: c :: d :: (N ++ L)) 3 A l.length (l.flatMap encI) := fun a b c d => ((((hA.mono fun r hr => List.mem_append_right N hr).cons d).cons c).cons b).cons a
    obtain ⟨b, o, rfl⟩ := ((hA5 _ _ _ _).rd hS).some_ (by omega) (by omega)
    have p := fun w (hw : Hs w0 F (Res.cells b7 26 [.int .i64 f.mark, .int .i64 f.late, .slice A1 l1.length c1] :: srow (.slice A2 l2.length c2) l2 :: Res.cells b4 26 [.int .i64 0, .int .i64 0, .slice none 0 0] :: gC b2 g :: (N ++ L)) w) => Hs.rd (hA5 _ _ _ _) w hw
    have q0 := fun w hw => (p w hw).struct encI_len hlt (j := 0) (by omega) rfl
    have q1 := fun w hw => (p w hw).struct encI_len hlt (j := 1) (by omega) rfl
    have q2 := fun w hw => (p w hw).struct encI_len hlt (j := 2) (by omega) rfl
    have ho1' : ∀ a b c d, SOk w0 F (a :: b :: c :: d :: (N ++ L)) A1 c1 l1 := fun a b c d => ⟨((((ho1.bes.mono fun r hr => List.mem_append_left L hr).cons d).cons c).cons b).cons a, ho1.cap, ho1.nil⟩
    have step : ∀ w b10 m lt A1' n1 c1' A2' n2 c2' er N', ((er ≠ 0 ∧ ¬ Can g f l[i]) ∨ (er = 0 ∧ Can g f l[i] ∧ m = (addS g f l[i].key l[i].e).mark ∧ lt = (addS g f l[i].key l[i].e).late ∧ ∃ l1 l2, n1 = l1.length ∧ n2 = l2.length ∧ ses l1 = (addS g f l[i].key l[i].e).L ∧ ses l2 = shutS g f l[i].key l[i].e ∧ SOk w0 F N' A1' c1' l1 ∧ SOk w0 F N' A2' c2' l2)) →
        St w0 F w (Res.cells b10 26 [.int .i64 m, .int .i64 lt, .slice A1' n1 c1'] :: Res.cells b7 26 [.int .i64 f.mark, .int .i64 f.late, .slice A1 l1.length c1] :: srow (.slice A2 l2.length c2) l2 :: Res.cells b4 26 [.int .i64 0, .int .i64 0, .slice none 0 0] :: gC b2 g :: (N' ++ (N ++ L))) →
        ∀ K : Value × Value → World → Prop, (∀ w f all A1 A2 c1 c2 l1 l2 N, Runs g (l.take (i + 1)) f all → ses l1 = f.L → ses l2 = all → l2.length ≤ 64 * (i + 1) → SOk w0 F N A1 c1 l1 → (∀ s ∈ l2, BE w0 F N s.A s.s.l ∧ s.s.l.length ≤ 140737488351232) →
          St w0 F w (Res.cells b7 26 [.int .i64 f.mark, .int .i64 f.late, .slice A1 l1.length c1] :: srow (.slice A2 l2.length c2) l2 :: Res.cells b4 26 [.int .i64 0, .int .i64 0, .slice none 0 0] :: gC b2 g :: (N ++ L)) → K (.slice A2 l2.length c2, .int .i64 ((i + 1 : Nat) : Int)) w) →
        m18_10 R K (.slice (some ⟨b, o, none⟩) l.length c) (.pointer (some ⟨b2, 0, none⟩)) (.pointer (some ⟨b4, 0, none⟩)) (.pointer (some ⟨b7, 0, none⟩)) (.slice A2 l2.length c2) (.int .i64 i) (.pointer (some ⟨b10, 0, none⟩)) (.slice A2' n2 c2') (.int .i64 er) w := by
      clear hS
      intro w b10 m lt A1' n1 c1' A2' n2 c2' er N' hcase hS K hK
      unfold m18_10
      refine valP_ok (ne34 _ _ _ _ _) ?_
      unfold m18_13
      rcases hcase with ⟨he, hno⟩ | ⟨rfl, hcan, rfl, rfl, l1', l2', rfl, rfl, e1, e2, o1, o2⟩
      · refine cond_dt he ?_
        refine valP_ok (bd26 _) ?_
        first | refine ss26 0 hS rfl rfl rfl rfl ?_ | refine ss26 1 hS rfl rfl rfl rfl ?_ | refine ss26 2 hS rfl rfl rfl rfl ?_ | refine ss26 3 hS rfl rfl rfl rfl ?_ | refine ss26 4 hS rfl rfl rfl rfl ?_ | refine ss26 5 hS rfl rfl rfl rfl ?_ | refine ss26 6 hS rfl rfl rfl rfl ?_ | refine ss26 7 hS rfl rfl rfl rfl ?_
        intro w hS
        simp only [List.set_cons_zero, List.set_cons_succ] at hS
        unfold m18_14
        refine valS_ok (lc26 (hS.cell 3 rfl rfl) (hS.cell 3 rfl rfl) (hS.cell 3 rfl rfl)) ?_
        refine hR _ _ (.inr ⟨er, he, fun ⟨f2, all2, hr⟩ => hno ?_, rfl, ?_⟩)
        · rw [← List.take_append_drop i l, List.drop_eq_getElem_cons hlt] at hr
          exact hr.can hrun
        · have hS5 := hS.tail.tail.tail.tail.tail
          exact hS5.sub ((List.sublist_append_right N L).trans (List.sublist_append_right N' _))
      · refine cond_df (by simp) ?_
        unfold m18_11
        first | refine ls26 0 hS rfl ?_ | refine ls26 1 hS rfl ?_ | refine ls26 2 hS rfl ?_ | refine ls26 3 hS rfl ?_ | refine ls26 4 hS rfl ?_ | refine ls26 5 hS rfl ?_ | refine ls26 6 hS rfl ?_ | refine ls26 7 hS rfl ?_ | refine valP_ok (ld26 (by assumption) (by assumption) (by assumption)) ?_
        first | refine ss26 0 hS rfl rfl rfl rfl ?_ | refine ss26 1 hS rfl rfl rfl rfl ?_ | refine ss26 2 hS rfl rfl rfl rfl ?_ | refine ss26 3 hS rfl rfl rfl rfl ?_ | refine ss26 4 hS rfl rfl rfl rfl ?_ | refine ss26 5 hS rfl rfl rfl rfl ?_ | refine ss26 6 hS rfl rfl rfl rfl ?_ | refine ss26 7 hS rfl rfl rfl rfl ?_
        intro w hS
        simp only [List.set_cons_zero, List.set_cons_succ] at hS
        unfold m18_12
        have hsh : l2'.length ≤ 64 := by
          have := congrArg List.length e2
          rw [List.length_map] at this
          rw [this]
          exact mid_len hcan.1.flow
        have hr : Rd w 2 A2' l2'.length (l2'.flatMap encS) := (((((o2.bes.row.mono fun r hr => List.mem_append_left (N ++ L) hr).cons _).cons _).cons _).cons _).cons _ |>.rd hS
        refine append_anyS (l0 := l2) (l := l2') 2 sl24 encS_len encS_one (by unfold maxLen; omega) (by omega) hS rfl hr o2.nil ?_
        intro A3 c3 w hS
        simp only [List.set_cons_zero, List.set_cons_succ] at hS
        have hS : St w0 F w (Res.cells b7 26 [.int .i64 (addS g f l[i].key l[i].e).mark, .int .i64 (addS g f l[i].key l[i].e).late, .slice A1' l1'.length c1'] :: srow (.slice A3 (l2 ++ l2').length c3) (l2 ++ l2') :: Res.cells b4 26 [.int .i64 0, .int .i64 0, .slice none 0 0] :: gC b2 g :: ((N' ++ N) ++ L)) := by
          rw [List.append_assoc]
          exact hS.tail
        unfold m18_9
        refine valP_ok (add_ok _ _ _ (by omega) (by omega) _) ?_
        refine hK w _ (all ++ shutS g f l[i].key l[i].e) _ _ _ _ l1' (l2 ++ l2') (N' ++ N) ?_ e1 ?_ (by simp; omega) ⟨o1.bes.mono fun r hr => List.mem_append_left _ hr, o1.cap, o1.nil⟩ (fun s hs => ?_) hS
        · rw [List.take_succ_eq_append_getElem hlt]
          exact .snoc hrun hcan
        · unfold ses at *
          rw [List.map_append, h2, e2]
        · rcases List.mem_append.1 hs with hs | hs
          · exact ⟨(hE2 s hs).1.mono fun r hr => List.mem_append_right _ hr, (hE2 s hs).2⟩
          · exact ⟨(o2.bes.evs s hs).mono fun r hr => List.mem_append_left _ hr, o2.bes.emax s hs⟩
    have inv : ∀ w f all A1 A2 c1 c2 l1 l2 N, Runs g (l.take (i + 1)) f all → ses l1 = f.L → ses l2 = all → l2.length ≤ 64 * (i + 1) → SOk w0 F N A1 c1 l1 → (∀ s ∈ l2, BE w0 F N s.A s.s.l ∧ s.s.l.length ≤ 140737488351232) →
          St w0 F w (Res.cells b7 26 [.int .i64 f.mark, .int .i64 f.late, .slice A1 l1.length c1] :: srow (.slice A2 l2.length c2) l2 :: Res.cells b4 26 [.int .i64 0, .int .i64 0, .slice none 0 0] :: gC b2 g :: (N ++ L)) → (∃ (i' : Nat) (f : Fl) (all : List Se) (A1' A2' : Option Addr) (c1 c2' : Nat) (l1 l2' : List Sq) (N : List Res), ((Value.slice A2 l2.length c2, Value.int .i64 ((i + 1 : Nat) : Int)) : Value × Value) = (.slice A2' l2'.length c2', .int .i64 (i' : Int)) ∧ i' ≤ l.length ∧ Runs g (l.take i') f all ∧ ses l1 = f.L ∧ ses l2' = all ∧ l2'.length ≤ 64 * i' ∧ SOk w0 F N A1' c1 l1 ∧ (∀ s ∈ l2', BE w0 F N s.A s.s.l ∧ s.s.l.length ≤ 140737488351232) ∧
    St w0 F w (Res.cells b7 26 [.int .i64 f.mark, .int .i64 f.late, .slice A1' l1.length c1] :: srow (.slice A2' l2'.length c2') l2' :: Res.cells b4 26 [.int .i64 0, .int .i64 0, .slice none 0 0] :: gC b2 g :: (N ++ L))) ∧ l.length - (intOf (.int .i64 ((i + 1 : Nat) : Int))).toNat < l.length - (intOf (.int .i64 (i : Int))).toNat := fun w f all A1 A2 c1 c2 l1 l2 N a1 a2 a3 a4 a5 a6 a7 =>
      ⟨⟨i + 1, f, all, A1, A2, c1, c2, l1, l2, N, rfl, by omega, a1, a2, a3, a4, a5, a6, a7⟩, by simp [intOf]; omega⟩
    unfold m18_8
    refine drawn_ok hS ?_
    intro w hS
    refine held_Hs hS ?_
    first | refine valJ_at (fun w hw => ld23 (Hs.cell 0 rfl rfl w hw) (Hs.cell 0 rfl rfl w hw)) ?_ | refine valJ_at (fun w hw => ld23 (Hs.cell 1 rfl rfl w hw) (Hs.cell 1 rfl rfl w hw)) ?_ | refine valJ_at (fun w hw => ld23 (Hs.cell 2 rfl rfl w hw) (Hs.cell 2 rfl rfl w hw)) ?_ | refine valJ_at (fun w hw => ld23 (Hs.cell 3 rfl rfl w hw) (Hs.cell 3 rfl rfl w hw)) ?_ | refine valJ_at (fun w hw => ld23 (Hs.cell 4 rfl rfl w hw) (Hs.cell 4 rfl rfl w hw)) ?_ | refine valJ_at (fun w hw => ld23 (Hs.cell 5 rfl rfl w hw) (Hs.cell 5 rfl rfl w hw)) ?_ | refine valJ_at (fun w hw => ld23 (Hs.cell 6 rfl rfl w hw) (Hs.cell 6 rfl rfl w hw)) ?_ | refine valJ_at (fun w hw => ld23 (Hs.cell 7 rfl rfl w hw) (Hs.cell 7 rfl rfl w hw)) ?_
    first | refine valJ_at (fun w hw => ld26 (Hs.cell 0 rfl rfl w hw) (Hs.cell 0 rfl rfl w hw) (Hs.cell 0 rfl rfl w hw)) ?_ | refine valJ_at (fun w hw => ld26 (Hs.cell 1 rfl rfl w hw) (Hs.cell 1 rfl rfl w hw) (Hs.cell 1 rfl rfl w hw)) ?_ | refine valJ_at (fun w hw => ld26 (Hs.cell 2 rfl rfl w hw) (Hs.cell 2 rfl rfl w hw) (Hs.cell 2 rfl rfl w hw)) ?_ | refine valJ_at (fun w hw => ld26 (Hs.cell 3 rfl rfl w hw) (Hs.cell 3 rfl rfl w hw) (Hs.cell 3 rfl rfl w hw)) ?_ | refine valJ_at (fun w hw => ld26 (Hs.cell 4 rfl rfl w hw) (Hs.cell 4 rfl rfl w hw) (Hs.cell 4 rfl rfl w hw)) ?_ | refine valJ_at (fun w hw => ld26 (Hs.cell 5 rfl rfl w hw) (Hs.cell 5 rfl rfl w hw) (Hs.cell 5 rfl rfl w hw)) ?_ | refine valJ_at (fun w hw => ld26 (Hs.cell 6 rfl rfl w hw) (Hs.cell 6 rfl rfl w hw) (Hs.cell 6 rfl rfl w hw)) ?_ | refine valJ_at (fun w hw => ld26 (Hs.cell 7 rfl rfl w hw) (Hs.cell 7 rfl rfl w hw) (Hs.cell 7 rfl rfl w hw)) ?_
    refine valJ_ok (ix44 hlt) ?_
    refine valJ_ok (fao54_0 _ _) ?_
    refine valJ_load ld3 q0 ?_
    refine valJ_ok (ix44 hlt) ?_
    refine valJ_ok (fao54_1 _ _) ?_
    refine valJ_at (fun w hw => ld28 (q1 w hw) (q2 w hw)) ?_
    refine ⟨?_, ?_⟩
    · refine callR (by kernel_rfl) (add_ret (f := ⟨f.mark, f.late, A1, c1, l1⟩) (key := l[i].key) (e := l[i].e) (ho1' _ _ _ _) hS) ?_
      intro v w hres
      have e0 : Fq.fl ⟨f.mark, f.late, A1, c1, l1⟩ = f := by unfold Fq.fl; rw [h1]
      rw [e0] at hres
      obtain ⟨m, lt, A1', n1, c1', A2', n2, c2', er, N', rfl, hS, hcase⟩ := AddRes.form (x := l[i]) hres
      rw [List.append_nil] at hcase
      have hS : St w0 F w (Res.cells b7 26 [.int .i64 f.mark, .int .i64 f.late, .slice A1 l1.length c1] :: srow (.slice A2 l2.length c2) l2 :: Res.cells b4 26 [.int .i64 0, .int .i64 0, .slice none 0 0] :: gC b2 g :: (N' ++ (N ++ L))) := St.swap (A := N') (B := [_, _, _, _]) hS
      refine stay_Hs hS (fun r hr => mem4 hr) ?_
      refine valJ_ok (extract_ok _ 0 rfl) ?_
      refine valJ_ok (extract_ok _ 1 rfl) ?_
      refine valJ_ok (extract_ok _ 2 rfl) ?_
      refine new_ok (al26 _) hS ?_
      intro b10 w hS
      refine stay_Hs hS (fun r hr => .tail _ (mem4 hr)) ?_
      first | refine ss26 0 hS rfl rfl rfl rfl ?_ | refine ss26 1 hS rfl rfl rfl rfl ?_ | refine ss26 2 hS rfl rfl rfl rfl ?_ | refine ss26 3 hS rfl rfl rfl rfl ?_ | refine ss26 4 hS rfl rfl rfl rfl ?_ | refine ss26 5 hS rfl rfl rfl rfl ?_ | refine ss26 6 hS rfl rfl rfl rfl ?_ | refine ss26 7 hS rfl rfl rfl rfl ?_
      intro w hS
      simp only [List.set_cons_zero, List.set_cons_succ] at hS
      refine stay_Hs hS (fun r hr => .tail _ (mem4 hr)) ?_
      exact step w _ m lt A1' n1 c1' A2' n2 c2' er N' hcase hS _ inv
    · refine new_ok (al26 _) hS ?_
      intro b10 w hS
      refine stay_Hs hS (fun r hr => .tail _ hr) ?_
      refine callR (by kernel_rfl) (add_ret (f := ⟨f.mark, f.late, A1, c1, l1⟩) (key := l[i].key) (e := l[i].e) ⟨(ho1' _ _ _ _).bes.cons _, ho1.cap, ho1.nil⟩ hS) ?_
      intro v w hres
      have e0 : Fq.fl ⟨f.mark, f.late, A1, c1, l1⟩ = f := by unfold Fq.fl; rw [h1]
      rw [e0] at hres
      obtain ⟨m, lt, A1', n1, c1', A2', n2, c2', er, N', rfl, hS, hcase⟩ := AddRes.form (x := l[i]) hres
      rw [List.append_nil] at hcase
      have hS : St w0 F w (Res.cells b10 26 [.int .i64 0, .int .i64 0, .slice none 0 0] :: Res.cells b7 26 [.int .i64 f.mark, .int .i64 f.late, .slice A1 l1.length c1] :: srow (.slice A2 l2.length c2) l2 :: Res.cells b4 26 [.int .i64 0, .int .i64 0, .slice none 0 0] :: gC b2 g :: (N' ++ (N ++ L))) := St.swap (A := N') (B := [_, _, _, _, _]) hS
      refine stay_Hs hS (fun r hr => .tail _ (mem4 hr)) ?_
      refine valJ_ok (extract_ok _ 0 rfl) ?_
      refine valJ_ok (extract_ok _ 1 rfl) ?_
      refine valJ_ok (extract_ok _ 2 rfl) ?_
      first | refine ss26 0 hS rfl rfl rfl rfl ?_ | refine ss26 1 hS rfl rfl rfl rfl ?_ | refine ss26 2 hS rfl rfl rfl rfl ?_ | refine ss26 3 hS rfl rfl rfl rfl ?_ | refine ss26 4 hS rfl rfl rfl rfl ?_ | refine ss26 5 hS rfl rfl rfl rfl ?_ | refine ss26 6 hS rfl rfl rfl rfl ?_ | refine ss26 7 hS rfl rfl rfl rfl ?_
      intro w hS
      simp only [List.set_cons_zero, List.set_cons_succ] at hS
      refine stay_Hs hS (fun r hr => .tail _ (mem4 hr)) ?_
      exact step w _ m lt A1' n1 c1' A2' n2 c2' er N' hcase hS _ inv
  · obtain rfl : i = l.length := by omega
    rw [List.take_length] at hrun
    unfold m18_4
    first | refine ls26 0 hS rfl ?_ | refine ls26 1 hS rfl ?_ | refine ls26 2 hS rfl ?_ | refine ls26 3 hS rfl ?_ | refine ls26 4 hS rfl ?_ | refine ls26 5 hS rfl ?_ | refine ls26 6 hS rfl ?_ | refine ls26 7 hS rfl ?_ | refine valP_ok (ld26 (by assumption) (by assumption) (by assumption)) ?_
    first | refine ss26 0 hS rfl rfl rfl rfl ?_ | refine ss26 1 hS rfl rfl rfl rfl ?_ | refine ss26 2 hS rfl rfl rfl rfl ?_ | refine ss26 3 hS rfl rfl rfl rfl ?_ | refine ss26 4 hS rfl rfl rfl rfl ?_ | refine ss26 5 hS rfl rfl rfl rfl ?_ | refine ss26 6 hS rfl rfl rfl rfl ?_ | refine ss26 7 hS rfl rfl rfl rfl ?_
    intro w hS
    simp only [List.set_cons_zero, List.set_cons_succ] at hS
    unfold m18_5
    refine valS_ok (lc26 (hS.cell 2 rfl rfl) (hS.cell 2 rfl rfl) (hS.cell 2 rfl rfl)) ?_
    exact hR _ _ (.inl ⟨f, all, A1, c1, l1, A2, c2, l2, N, hrun, rfl, h1, h2, hn2, hS.pick 4 [1] (by simp) (by decide), ho1, hE2⟩)
theorem run_ret {A : Option Addr} {c : Nat} {l : List In} (hl : l.length ≤ 1000) (hS : St w0 F w L) (hA : Bes w0 F L 3 A l.length (l.flatMap encI)) : Ret Try.prog 18 #[gv g, .slice A l.length c] w fun v w' => RunRes w0 F L g l v w' :=
  s18 _ _ (run_m hl hS hA fun v w h => h)
end

end Go.Proofs.Ytojgdmcojmllkaa.M
