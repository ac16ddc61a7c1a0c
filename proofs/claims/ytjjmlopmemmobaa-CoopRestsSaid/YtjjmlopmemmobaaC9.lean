/- What the document's New, Join, Leave, Revoke, Done come to. -/
import Derived.Test.YtjjmlopmemmobaaC8
namespace Go.Proofs.Ytjjmlopmemmobaa.M
open Go.Proofs.Ytjjmlopmemmobaa.F Go.RowKit
set_option linter.unusedVariables false
set_option linter.unusedSimpArgs false
set_option maxRecDepth 100000
set_option maxHeartbeats 2000000
attribute [local irreducible] Res.cells Res.row Res.map Res.any World.cell? World.frozen? Instr.fieldAt Instr.loadAt Instr.storeAt Instr.indexAt Instr.lookup Instr.mapUpdate Instr.box Instr.build Instr.buildSlice Instr.extract Instr.alloc Instr.field Instr.index Instr.sliceAt Instr.makeSlice Instr.makeMap Instr.makeFunc binS Op.unary Sem.run
open Go.Proofs.Ytjjmlopmemmobaa.L Go.Shelf
theorem rnew_ret {w0 w : World} {F : List Nat} {L : List Res} {parts : Int} (hp : -9223372036854775808 ≤ parts) (hp' : parts ≤ 9223372036854775807) (hS : St w0 F w L) :
    Ret Try.prog 27 #[.int .i64 parts] w fun v w' => if 1 ≤ parts ∧ parts ≤ 16 then ∃ b X, v = .tuple #[.pointer (some ⟨b, 0, none⟩), .int .i64 0] ∧ St w0 F w' (coopL 55 b ⟨0, [], List.replicate parts.toNat 0, List.replicate parts.toNat 0⟩ X ++ L)
      else v = .tuple #[.pointer none, .int .i64 1] ∧ St w0 F w' L := by
  refine s27 _ ?_
  unfold m27
  unfold m27_0
  unfold m27_1
  refine valP_ok (lss_ok _ _ _ _ _ _ _) ?_
  refine cond_split (fun h => ?_) (fun h => ?_)
  · first | refine pick_dt (by first | assumption | omega) ?_ | refine pick_df (by first | assumption | omega) ?_ | refine pick_t (by first | rfl | assumption) ?_ | refine pick_f (by first | rfl | assumption) ?_ | refine pick_dt rfl ?_ | refine pick_df (not_not_intro rfl) ?_
    unfold m27_12
    refine cond_t rfl ?_
    unfold m27_13
    show ite _ _ _
    rw [if_neg (by omega)]
    exact ⟨rfl, hS⟩
  · refine valP_ok (gtr_ok _ _ _ _ _ _ _) ?_
    first | refine pick_dt (by first | assumption | omega) ?_ | refine pick_df (by first | assumption | omega) ?_ | refine pick_t (by first | rfl | assumption) ?_ | refine pick_f (by first | rfl | assumption) ?_ | refine pick_dt rfl ?_ | refine pick_df (not_not_intro rfl) ?_
    unfold m27_12
    refine cond_split (fun h2 => ?_) (fun h2 => ?_)
    · unfold m27_13
      show ite _ _ _
      rw [if_neg (by omega)]
      exact ⟨rfl, hS⟩
    · unfold m27_2
      refine valP_ok (bd55 _) ?_
      refine new_ok (bx55 _ _ _ _ _) hS ?_
      intro b w hS
      unfold m27_3
      unfold m27_6
      refine loop_in (fun u w' => ∃ (p : Nat) (X : CA), u = .int .i64 p ∧ p ≤ parts.toNat ∧ St w0 F w' (coopL 55 b ⟨0, [], List.replicate p 0, List.replicate p 0⟩ X ++ L)) (fun u _ => parts.toNat - (intOf u).toNat) ⟨0, ⟨none, 0, none, 0, none, 0⟩, rfl, by omega, ?_⟩ ?_
      · exact (((hS.row_nil 3 1).row_nil 3 1).row_nil 3 1).pick 4 [3, 0, 1, 2] (by simp) (by decide)
      clear hS
      rintro u w ⟨p, X, rfl, hpp, hS⟩
      have hrl : (List.replicate p (0 : Int)).length = p := by simp
      unfold m27_7
      refine valP_ok (lss_ok _ _ _ _ _ _ _) ?_
      unfold m27_11
      refine cond_split (fun h3 => ?_) (fun h3 => ?_)
      · obtain ⟨m, cm, hh, ch, q, cq⟩ := X
        unfold m27_8
        refine nil_ok ?_
        first | refine valP_ok (fa55_2 _ _) ?_ | refine valP_ok (fao55_2 _ _ _) ?_
        first | refine valP_ok (ld28 (hS.cell 0 rfl rfl)) ?_ | refine valP_ok (ld28 (hS.cell 1 rfl rfl)) ?_ | refine valP_ok (ld28 (hS.cell 2 rfl rfl)) ?_ | refine valP_ok (ld28 (hS.cell 3 rfl rfl)) ?_ | refine valP_ok (ld28 (hS.cell 4 rfl rfl)) ?_ | refine valP_ok (ld28 (by assumption)) ?_
        refine newslice_ok (bs28_1 rfl _) hS ?_
        intro b24 w hS
        refine append_one 2 (by simp only; omega) hS rfl ?_
        intro A1 c1 w hS
        simp only [List.set_cons_zero, List.set_cons_succ, List.cons_append, List.nil_append] at hS
        refine nil_ok ?_
        first | refine valP_ok (fa55_2 _ _) ?_ | refine valP_ok (fao55_2 _ _ _) ?_
        first | refine store_at 0 st28 hS rfl (by simp) rfl ?_ | refine store_at 1 st28 hS rfl (by simp) rfl ?_ | refine store_at 2 st28 hS rfl (by simp) rfl ?_ | refine store_at 3 st28 hS rfl (by simp) rfl ?_ | refine store_at 4 st28 hS rfl (by simp) rfl ?_
        intro w hS
        simp only [List.set_cons_zero, List.set_cons_succ] at hS
        unfold m27_10
        refine nil_ok ?_
        first | refine valP_ok (fa55_3 _ _) ?_ | refine valP_ok (fao55_3 _ _ _) ?_
        first | refine valP_ok (ld28 (hS.cell 0 rfl rfl)) ?_ | refine valP_ok (ld28 (hS.cell 1 rfl rfl)) ?_ | refine valP_ok (ld28 (hS.cell 2 rfl rfl)) ?_ | refine valP_ok (ld28 (hS.cell 3 rfl rfl)) ?_ | refine valP_ok (ld28 (hS.cell 4 rfl rfl)) ?_ | refine valP_ok (ld28 (by assumption)) ?_
        refine newslice_ok (bs28_1 rfl _) hS ?_
        intro b33 w hS
        refine append_one 3 (by omega) hS rfl ?_
        intro A2 c2 w hS
        simp only [List.set_cons_zero, List.set_cons_succ, List.cons_append, List.nil_append] at hS
        refine nil_ok ?_
        first | refine valP_ok (fa55_3 _ _) ?_ | refine valP_ok (fao55_3 _ _ _) ?_
        first | refine store_at 0 st28 hS rfl (by simp) rfl ?_ | refine store_at 1 st28 hS rfl (by simp) rfl ?_ | refine store_at 2 st28 hS rfl (by simp) rfl ?_ | refine store_at 3 st28 hS rfl (by simp) rfl ?_ | refine store_at 4 st28 hS rfl (by simp) rfl ?_
        intro w hS
        simp only [List.set_cons_zero, List.set_cons_succ] at hS
        unfold m27_9
        refine valP_ok (add_ok _ _ _ (by omega) (by omega) _) ?_
        refine ⟨⟨p + 1, ⟨m, cm, A1, c1, A2, c2⟩, rfl, by omega, ?_⟩, by simp [intOf]; omega⟩
        rw [List.replicate_succ']
        exact hS
      · have hpe : p = parts.toNat := by omega
        subst hpe
        unfold m27_4 m27_5
        show ite _ _ _
        rw [if_pos (by omega)]
        exact ⟨b, X, rfl, hS⟩
theorem sortL_members {s : CS} {l : List Int} (hs : CPre s) (h : (addL s.M l).1 = 0) : membersL (s.M ++ l) = sortL (addL s.M l).2 := by
  obtain ⟨h1, h2, h3, h4⟩ := addL_ok h
  have hne : s.M.Pairwise (· ≠ ·) := hs.rise.imp fun h e => by omega
  refine membersL_of (sortL_rise ?_) fun x => ?_
  · rw [h1]
    exact List.pairwise_append.2 ⟨hne, h4, fun a ha b hb e => h3 b hb (e ▸ ha)⟩
  · rw [sortL_mem, h1]
    refine ⟨fun hx => ⟨hx, ?_⟩, fun hx => hx.1⟩
    rcases List.mem_append.1 hx with hx | hx
    · have := hs.each x hx; omega
    · have := h2 x hx; omega
def rjoinQ (w0 : World) (F : List Nat) (L : List Res) (b : Nat) (r : Int × CS) (v : Value) (w' : World) : Prop := v = .int .i64 r.1 ∧ ∃ X', St w0 F w' (coopL 55 b r.2 X' ++ L)
theorem rjoin_ret {w0 w : World} {F : List Nat} {L : List Res} {b c : Nat} {s : CS} {X : CA} {A : Option Addr} {l : List Int} (hs : CPre s) (hl : l.length ≤ 800) (hc : l.length ≤ c) (hnil : A = none → c = 0) (hS : St w0 F w (coopL 55 b s X ++ L)) (hA : Bes w0 F L 1 A l.length (ints l)) :
    Ret Try.prog 28 #[.pointer (some ⟨b, 0, none⟩), .slice A l.length c] w (rjoinQ w0 F L b (joinS s l)) := by
  have hM8 := hs.len
  have hr := hA w _ hS (fun r hr => List.mem_append_right _ hr)
  refine s28 _ _ ?_
  unfold m28
  unfold m28_0
  unfold m28_1
  refine builtin_ok (len28 _) ?_
  refine valP_ok (eq3 _ _ _ _ _) ?_
  unfold m28_23
  unfold joinS
  refine cond_split (fun h => ?_) (fun h => ?_)
  · unfold m28_24
    rw [if_pos (List.eq_nil_of_length_eq_zero (by omega))]
    exact ⟨rfl, X, hS⟩
  rw [if_neg (fun e => h (by rw [e]; rfl))]
  unfold m28_2
  unfold m28_13
  refine loop_in (fun u w' => ∃ (p : Nat), u = .int .i64 p ∧ p ≤ l.length ∧ addL s.M l = addL (s.M ++ l.take p) (l.drop p) ∧ St w0 F w' (coopL 55 b s X ++ L)) (fun u _ => l.length - (intOf u).toNat)
    ⟨0, rfl, by omega, by simp, hS⟩ ?_
  clear hS hr
  rintro u w ⟨p, rfl, hp, had, hS⟩
  have hr := hA w _ hS (fun r hr => List.mem_append_right _ hr)
  unfold m28_14
  refine builtin_ok (len28 _) ?_
  refine valP_ok (lss_ok _ _ _ _ _ _ _) ?_
  unfold m28_22
  refine cond_split (fun h => ?_) (fun h => ?_)
  · have hlt : p < l.length := by omega
    obtain ⟨g, o, rfl⟩ := hr.some_ (by omega) (by omega)
    have hcl := hr.cell_ (ints_get hlt)
    rw [List.drop_eq_getElem_cons hlt, addL_cons, List.append_assoc, ← List.take_succ_eq_append_getElem hlt] at had
    have fin : ∀ (t : Bool) (K : Value → World → Prop), (t = true ↔ (l[p] < 1 ∨ 1099511627776 < l[p])) →
        (addL s.M l = addL (s.M ++ l.take (p + 1)) (l.drop (p + 1)) → ∀ w', St w0 F w' (coopL 55 b s X ++ L) → K (.int .i64 ((p + 1 : Nat) : Int)) w') →
        m28_20 (rjoinQ w0 F L b (joinF s (addL s.M l))) K (.pointer (some ⟨b, 0, none⟩)) (.slice (some ⟨g, o, none⟩) l.length c) (.int .i64 p) (.bool t) w := fun t K ht hK => by
      unfold m28_20
      refine cond_bsplit (fun h1 => ?_) (fun h1 => ?_)
      · rw [if_pos (ht.1 h1)] at had
        unfold m28_21
        rw [had]
        exact ⟨rfl, X, hS⟩
      rw [if_neg (fun h => by rw [ht.2 h] at h1; cases h1)] at had
      unfold m28_17
      refine drawn_ok hS ?_
      intro w hS
      have hr := hA w _ hS (fun r hr => List.mem_append_right _ hr)
      have hcl := hr.cell_ (ints_get hlt)
      first | refine pureP_ok (ixz28 (by first | assumption | omega)) ?_ | refine pureP_ok (ix28 (by first | assumption | omega)) ?_
      first | refine valP_ok (ld3 (hS.cell 0 rfl rfl)) ?_ | refine valP_ok (ld3 (hS.cell 1 rfl rfl)) ?_ | refine valP_ok (ld3 (hS.cell 2 rfl rfl)) ?_ | refine valP_ok (ld3 (hS.cell 3 rfl rfl)) ?_ | refine valP_ok (ld3 (hS.cell 4 rfl rfl)) ?_ | refine valP_ok (ld3 (by assumption)) ?_
      refine callR (by kernel_rfl) (ris_ret (by omega) hS l[p]) ?_
      rintro v w ⟨rfl, rfl⟩
      have fin2 : ∀ t : Bool, (t = true ↔ l[p] ∈ s.M ++ l.take p) → m28_18 (rjoinQ w0 F L b (joinF s (addL s.M l))) K (.pointer (some ⟨b, 0, none⟩)) (.slice (some ⟨g, o, none⟩) l.length c) (.int .i64 p) (.bool t) w := fun t ht => by
        unfold m28_18
        refine cond_bsplit (fun h1 => ?_) (fun h1 => ?_)
        · rw [if_pos (ht.1 h1)] at had
          unfold m28_19
          rw [had]
          exact ⟨rfl, X, hS⟩
        · rw [if_neg (fun h => by rw [ht.2 h] at h1; cases h1)] at had
          unfold m28_16
          refine valP_ok (add_ok _ _ _ (by omega) (by omega) _) ?_
          exact hK had _ hS
      refine cond_split (fun hm => ?_) (fun hm => ?_)
      · first | refine pick_dt (by first | assumption | omega) ?_ | refine pick_df (by first | assumption | omega) ?_ | refine pick_t (by first | rfl | assumption) ?_ | refine pick_f (by first | rfl | assumption) ?_ | refine pick_dt rfl ?_ | refine pick_df (not_not_intro rfl) ?_
        exact fin2 true ⟨fun _ => List.mem_append_left _ hm, fun _ => rfl⟩
      · refine pureP_ok (sh28 (by omega) ) ?_
        first | refine pureP_ok (ixz28 (by first | assumption | omega)) ?_ | refine pureP_ok (ix28 (by first | assumption | omega)) ?_
        first | refine valP_ok (ld3 (hS.cell 0 rfl rfl)) ?_ | refine valP_ok (ld3 (hS.cell 1 rfl rfl)) ?_ | refine valP_ok (ld3 (hS.cell 2 rfl rfl)) ?_ | refine valP_ok (ld3 (hS.cell 3 rfl rfl)) ?_ | refine valP_ok (ld3 (hS.cell 4 rfl rfl)) ?_ | refine valP_ok (ld3 (by assumption)) ?_
        have hrt := Rd.take_ints hr p
        have htl : (l.take p).length = p := by rw [List.length_take]; omega
        have hct := count_ret (some ⟨g, o, none⟩) c (l.take p) l[p] w hrt (by omega)
        rw [htl] at hct
        refine callR (by kernel_rfl) hct ?_
        rintro v w ⟨rfl, rfl⟩
        refine pureP_ok (gtr_ok _ _ _ _ _ _) ?_
        first | refine pick_dt (by first | assumption | omega) ?_ | refine pick_df (by first | assumption | omega) ?_ | refine pick_t (by first | rfl | assumption) ?_ | refine pick_f (by first | rfl | assumption) ?_ | refine pick_dt rfl ?_ | refine pick_df (not_not_intro rfl) ?_
        refine fin2 _ ?_
        rw [decide_eq_true_iff, List.mem_append]
        have h1 : 0 < tm (l.take p) l[p] ↔ l[p] ∈ l.take p := by
          rw [← List.count_pos_iff]
          unfold tm
          omega
        rw [h1]
        exact ⟨.inr, fun h => h.resolve_left hm⟩
    unfold m28_15
    first | refine valP_ok (ixz28 (by first | assumption | omega) _) ?_ | refine valP_ok (ix28 (by first | assumption | omega) _) ?_
    first | refine valP_ok (ld3 (hS.cell 0 rfl rfl)) ?_ | refine valP_ok (ld3 (hS.cell 1 rfl rfl)) ?_ | refine valP_ok (ld3 (hS.cell 2 rfl rfl)) ?_ | refine valP_ok (ld3 (hS.cell 3 rfl rfl)) ?_ | refine valP_ok (ld3 (hS.cell 4 rfl rfl)) ?_ | refine valP_ok (ld3 (by assumption)) ?_
    refine valP_ok (lss_ok _ _ _ _ _ _ _) ?_
    refine cond_split (fun h1 => ?_) (fun h1 => ?_)
    · first | refine pick_dt (by first | assumption | omega) ?_ | refine pick_df (by first | assumption | omega) ?_ | refine pick_t (by first | rfl | assumption) ?_ | refine pick_f (by first | rfl | assumption) ?_ | refine pick_dt rfl ?_ | refine pick_df (not_not_intro rfl) ?_
      exact fin true _ ⟨fun _ => .inl h1, fun _ => rfl⟩ (fun had w' hS => ⟨⟨p + 1, rfl, by omega, had, hS⟩, by simp [intOf]; omega⟩)
    · first | refine valP_ok (ixz28 (by first | assumption | omega) _) ?_ | refine valP_ok (ix28 (by first | assumption | omega) _) ?_
      first | refine valP_ok (ld3 (hS.cell 0 rfl rfl)) ?_ | refine valP_ok (ld3 (hS.cell 1 rfl rfl)) ?_ | refine valP_ok (ld3 (hS.cell 2 rfl rfl)) ?_ | refine valP_ok (ld3 (hS.cell 3 rfl rfl)) ?_ | refine valP_ok (ld3 (hS.cell 4 rfl rfl)) ?_ | refine valP_ok (ld3 (by assumption)) ?_
      refine valP_ok (gtr_ok _ _ _ _ _ _ _) ?_
      first | refine pick_dt (by first | assumption | omega) ?_ | refine pick_df (by first | assumption | omega) ?_ | refine pick_t (by first | rfl | assumption) ?_ | refine pick_f (by first | rfl | assumption) ?_ | refine pick_dt rfl ?_ | refine pick_df (not_not_intro rfl) ?_
      exact fin _ _ (by simp; omega) (fun had w' hS => ⟨⟨p + 1, rfl, by omega, had, hS⟩, by simp [intOf]; omega⟩)
  · have hpe : p = l.length := by omega
    rw [hpe, List.drop_length, List.take_length] at had
    have ha0 : (addL s.M l).1 = 0 := by rw [had]; rfl
    have hj0 : joinF s (addL s.M l) = if 8 < (s.M ++ l).length then (5, s) else (0, turned { s with M := sortL (s.M ++ l) }) := by rw [had]; rfl
    have hsm := sortL_members hs ha0
    unfold m28_3
    refine nil_ok ?_
    first | refine valP_ok (fa55_1 _ _) ?_ | refine valP_ok (fao55_1 _ _ _) ?_
    first | refine valP_ok (ld28 (hS.cell 0 rfl rfl)) ?_ | refine valP_ok (ld28 (hS.cell 1 rfl rfl)) ?_ | refine valP_ok (ld28 (hS.cell 2 rfl rfl)) ?_ | refine valP_ok (ld28 (hS.cell 3 rfl rfl)) ?_ | refine valP_ok (ld28 (hS.cell 4 rfl rfl)) ?_ | refine valP_ok (ld28 (by assumption)) ?_
    refine builtin_ok (len28 _) ?_
    refine builtin_ok (len28 _) ?_
    refine valP_ok (add_ok _ _ _ (by omega) (by omega) _) ?_
    refine valP_ok (gtr_ok _ _ _ _ _ _ _) ?_
    unfold m28_11
    refine cond_split (fun h8 => ?_) (fun h8 => ?_)
    · rw [hj0, if_pos (by simp; omega)]
      unfold m28_12
      exact ⟨rfl, X, hS⟩
    rw [hj0, if_neg (by simp; omega)]
    have hpre := add_pre (l := l) hs ha0 (by rw [had]; show ¬ 8 < (s.M ++ l).length; simp; omega)
    rw [had] at hpre hsm
    have hpre : CPre { s with M := sortL (s.M ++ l) } := hpre
    have hsm : membersL (s.M ++ l) = sortL (s.M ++ l) := hsm
    unfold m28_4
    have hS := hS.row_nil 3 1
    unfold m28_5
    refine nil_ok ?_
    first | refine valP_ok (fa55_1 _ _) ?_ | refine valP_ok (fao55_1 _ _ _) ?_
    first | refine valP_ok (ld28 (hS.cell 0 rfl rfl)) ?_ | refine valP_ok (ld28 (hS.cell 1 rfl rfl)) ?_ | refine valP_ok (ld28 (hS.cell 2 rfl rfl)) ?_ | refine valP_ok (ld28 (hS.cell 3 rfl rfl)) ?_ | refine valP_ok (ld28 (hS.cell 4 rfl rfl)) ?_ | refine valP_ok (ld28 (by assumption)) ?_
    refine append_any (l0 := []) 0 (by simp) (by omega) hS rfl (hS.row_rd 2 rfl) (irow_nilcap 2 hS rfl) ?_
    intro A1 c1 w hS
    simp only [List.set_cons_zero, List.nil_append] at hS
    unfold m28_6
    refine append_any (l0 := s.M) 0 (by omega) (by omega) hS rfl (hA w _ hS (fun r hr => .tail _ (List.mem_append_right _ hr))) hnil ?_
    intro A2 c2 w hS
    simp only [List.set_cons_zero] at hS
    unfold m28_7
    refine callR (by kernel_rfl) (members_ret (by simp; omega) hS (Bes.of_row 0 rfl)) ?_
    rintro v w ⟨A3, c3, rfl, hS⟩
    rw [hsm] at hS ⊢
    refine nil_ok ?_
    first | refine valP_ok (fa55_1 _ _) ?_ | refine valP_ok (fao55_1 _ _ _) ?_
    first | refine store_at 0 st28 hS rfl (by simp) rfl ?_ | refine store_at 1 st28 hS rfl (by simp) rfl ?_ | refine store_at 2 st28 hS rfl (by simp) rfl ?_ | refine store_at 3 st28 hS rfl (by simp) rfl ?_ | refine store_at 4 st28 hS rfl (by simp) rfl ?_
    intro w hS
    simp only [List.set_cons_zero, List.set_cons_succ] at hS
    have hS : St w0 F w (coopL 55 b { s with M := sortL (s.M ++ l) } ⟨A3, c3, X.h, X.ch, X.q, X.cq⟩ ++ L) := hS.pick 6 [2, 0, 4, 5] (by simp) (by decide)
    unfold m28_8
    refine callR (by kernel_rfl) (begin_ret hpre hS) ?_
    rintro v w ⟨X', hS⟩
    unfold m28_9 m28_10
    exact ⟨rfl, X', hS⟩

end Go.Proofs.Ytjjmlopmemmobaa.M
