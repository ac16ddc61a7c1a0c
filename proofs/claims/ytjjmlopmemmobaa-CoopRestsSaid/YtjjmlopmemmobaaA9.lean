/- The document's own Sticky. -/
import Derived.Test.YtjjmlopmemmobaaA8
namespace Go.Proofs.Ytjjmlopmemmobaa.M
open Go.Proofs.Ytjjmlopmemmobaa.F Go.RowKit
set_option linter.unusedVariables false
set_option linter.unusedSimpArgs false
set_option maxRecDepth 100000
set_option maxHeartbeats 2000000
attribute [local irreducible] Res.cells Res.row Res.map Res.any World.cell? World.frozen? Instr.fieldAt Instr.loadAt Instr.storeAt Instr.indexAt Instr.lookup Instr.mapUpdate Instr.box Instr.build Instr.buildSlice Instr.extract Instr.alloc Instr.field Instr.index Instr.sliceAt Instr.makeSlice Instr.makeMap Instr.makeFunc binS Op.unary Sem.run
open Go.Proofs.Ytjjmlopmemmobaa.L Go.Shelf
theorem above_take {l M : List Int} {n : Int} {i : Nat} (hi : i < M.length) : aboveN l (M.take (i + 1)) n = if n < tm l M[i] then aboveN l (M.take i) n + 1 else aboveN l (M.take i) n := by
  unfold aboveN
  rw [List.take_succ_eq_append_getElem hi, List.countP_append, List.countP_singleton]
  by_cases h : n < tm l M[i]
  · rw [if_pos h, if_pos (by simpa using h)]; rfl
  · rw [if_neg h, if_neg (by simpa using h)]; rfl
theorem above_ret (A B : Option Addr) (c d : Nat) (l M : List Int) (n : Int) (w : World) (hr : Rd w 1 A l.length (ints l)) (hm : Rd w 1 B M.length (ints M)) (hl : l.length ≤ 1000000) (hM : M.length ≤ 1000000) :
    Ret Try.prog 103 #[.slice A l.length c, .slice B M.length d, .int .i64 n] w fun v w' => v = .int .i64 (aboveN l M n) ∧ w' = w := by
  refine s103 _ _ _ ?_
  unfold m103
  unfold m103_0
  unfold m103_1
  unfold m103_2
  unfold m103_5
  refine loop_in (fun s w' => ∃ i : Nat, s = (.int .i64 (aboveN l (M.take i) n), .int .i64 i) ∧ i ≤ M.length ∧ w' = w) (fun s _ => M.length - (intOf s.2).toNat) ⟨0, by simp [aboveN], by omega, rfl⟩ ?_
  rintro s w' ⟨i, rfl, hi, rfl⟩
  unfold m103_6
  refine builtin_ok (len28 _) ?_
  refine valP_ok (lss_ok _ _ _ _ _ _ _) ?_
  unfold m103_10
  refine cond_split (fun h => ?_) (fun h => ?_)
  · have hlt : i < M.length := by omega
    obtain ⟨g, o, rfl⟩ := hm.some_ (by omega) (by omega)
    have hc := hm.cell_ (ints_get hlt)
    have hs := above_take (l := l) (n := n) hlt
    have hcl : aboveN l (M.take i) n ≤ 1000000 := by
      have := List.countP_le_length (p := fun x => decide (n < tm l x)) (l := M.take i)
      rw [List.length_take] at this
      unfold aboveN
      omega
    have hc0 : 0 ≤ aboveN l (M.take i) n := by unfold aboveN; omega
    unfold m103_7
    first | refine valP_ok (ixz28 (by first | assumption | omega) _) ?_ | refine valP_ok (ix28 (by first | assumption | omega) _) ?_
    first | refine valP_ok (ld3 (hS.cell 0 rfl rfl)) ?_ | refine valP_ok (ld3 (hS.cell 1 rfl rfl)) ?_ | refine valP_ok (ld3 (hS.cell 2 rfl rfl)) ?_ | refine valP_ok (ld3 (hS.cell 3 rfl rfl)) ?_ | refine valP_ok (ld3 (hS.cell 4 rfl rfl)) ?_ | refine valP_ok (ld3 (by assumption)) ?_
    refine callR (by kernel_rfl) (count_ret A c l M[i] _ hr hl) ?_
    rintro v w ⟨rfl, rfl⟩
    refine valP_ok (gtr_ok _ _ _ _ _ _ _) ?_
    unfold m103_9
    refine cond_split (fun hk => ?_) (fun hk => ?_)
    · rw [if_pos hk] at hs
      refine valP_ok (add_ok _ _ _ (by omega) (by omega) _) ?_
      unfold m103_8
      refine valP_ok (add_ok _ _ _ (by omega) (by omega) _) ?_
      exact ⟨⟨i + 1, by rw [hs]; rfl, by omega, rfl⟩, by simp [intOf]; omega⟩
    · rw [if_neg hk] at hs
      unfold m103_8
      refine valP_ok (add_ok _ _ _ (by omega) (by omega) _) ?_
      exact ⟨⟨i + 1, by rw [hs]; rfl, by omega, rfl⟩, by simp [intOf]; omega⟩
  · unfold m103_3 m103_4
    exact ⟨by rw [List.take_of_length_le (by omega)], rfl⟩
theorem rkeep_leaf {w0 w : World} {F : List Nat} {L : List Res} {R : Value → World → Prop} {K : Value → World → Prop} {B : Option Addr} {g c d p : Nat} {mv : Value} {parts least : Int} {l old : List Int} {t : Bool} (hp : p < l.length) (hl64 : l.length ≤ 64) (hlt : p < old.length) (hO : Bes w0 F L 1 B old.length (ints old))
    (hS : St w0 F w (irow (.slice (some ⟨g, 0, none⟩) l.length c) l :: L))
    (h1 : t = true → ∀ w, St w0 F w (irow (.slice (some ⟨g, 0, none⟩) (l.set p old[p]).length c) (l.set p old[p]) :: L) → K (.int .i64 ((p + 1 : Nat) : Int)) w)
    (h2 : t = false → ∀ w, St w0 F w (irow (.slice (some ⟨g, 0, none⟩) l.length c) l :: L) → K (.int .i64 ((p + 1 : Nat) : Int)) w) :
    m89_32 R K (.int .i64 parts) (.slice B old.length d) mv (.slice (some ⟨g, 0, none⟩) l.length c) (.int .i64 least) (.int .i64 p) (.bool t) w := by
  unfold m89_32
  refine cond_bsplit (fun h => ?_) (fun h => ?_)
  · have hr := hO.rd1 hS
    obtain ⟨g2, o, rfl⟩ := hr.some_ (by omega) (by omega)
    have hc := hr.cell_ (ints_get hlt)
    refine valP_ok (ix28 hlt _) ?_
    first | refine valP_ok (ld3 (hS.cell 0 rfl rfl)) ?_ | refine valP_ok (ld3 (hS.cell 1 rfl rfl)) ?_ | refine valP_ok (ld3 (hS.cell 2 rfl rfl)) ?_ | refine valP_ok (ld3 (hS.cell 3 rfl rfl)) ?_ | refine valP_ok (ld3 (hS.cell 4 rfl rfl)) ?_ | refine valP_ok (ld3 (by assumption)) ?_
    refine valP_ok (ixz28 hp _) ?_
    refine set_irow 0 hS rfl hp ?_
    intro w hS
    simp only [List.set_cons_zero] at hS
    unfold m89_29
    refine valP_ok (add_ok _ _ _ (by omega) (by omega) _) ?_
    exact h1 h _ hS
  · unfold m89_29
    refine valP_ok (add_ok _ _ _ (by omega) (by omega) _) ?_
    exact h2 h _ hS
theorem rsticky_ret {w0 w : World} {F : List Nat} {L : List Res} {A B : Option Addr} {c d : Nat} {zs old : List Int} {parts : Int} (hS : St w0 F w L) (hI : Bes w0 F L 1 A zs.length (ints zs)) (hO : Bes w0 F L 1 B old.length (ints old)) (hz : zs.length ≤ 1000)
    (hzb : ∀ x ∈ zs, -9223372036854775808 ≤ x ∧ x ≤ 9223372036854775807) :
    Ret Try.prog 89 #[.int .i64 parts, .slice A zs.length c, .slice B old.length d] w fun v w' => if badParts parts then v = .tuple #[.slice none 0 0, .int .i64 1] ∧ St w0 F w' L
      else ∃ A' c', v = .tuple #[.slice A' (stickyL parts (membersL zs) old).length c', .int .i64 0] ∧ St w0 F w' (irow (.slice A' (stickyL parts (membersL zs) old).length c') (stickyL parts (membersL zs) old) :: L) := by
  refine s89 _ _ _ ?_
  unfold m89
  unfold m89_0
  unfold m89_1
  refine valP_ok (lss_ok _ _ _ _ _ _ _) ?_
  have hbad : ∀ w, St w0 F w L → badParts parts → ∀ R, (R (.tuple #[.slice none 0 0, .int .i64 1]) w) → m89_42 R (.int .i64 parts) (.slice A zs.length c) (.slice B old.length d) (.bool true) w := fun w hS hb R hR => by
    unfold m89_42
    refine cond_t rfl ?_
    unfold m89_43
    exact hR
  by_cases h1 : parts < 1
  · refine cond_dt h1 ?_
    first | refine pick_dt (by first | assumption | omega) ?_ | refine pick_df (by first | assumption | omega) ?_ | refine pick_t (by first | rfl | assumption) ?_ | refine pick_f (by first | rfl | assumption) ?_ | refine pick_dt rfl ?_ | refine pick_df (not_not_intro rfl) ?_
    refine hbad _ hS (.inl h1) _ ?_
    show ite _ _ _
    rw [if_pos (.inl h1)]
    exact ⟨rfl, hS⟩
  refine cond_df h1 ?_
  refine valP_ok (gtr_ok _ _ _ _ _ _ _) ?_
  first | refine pick_dt (by first | assumption | omega) ?_ | refine pick_df (by first | assumption | omega) ?_ | refine pick_t (by first | rfl | assumption) ?_ | refine pick_f (by first | rfl | assumption) ?_ | refine pick_dt rfl ?_ | refine pick_df (not_not_intro rfl) ?_
  by_cases h2 : 64 < parts
  · rw [decide_eq_true h2]
    refine hbad _ hS (.inr h2) _ ?_
    show ite _ _ _
    rw [if_pos (.inr h2)]
    exact ⟨rfl, hS⟩
  have hnb : ¬ badParts parts := by unfold badParts; omega
  unfold m89_42
  refine cond_df h2 ?_
  unfold m89_2
  refine callR (by kernel_rfl) (members_ret hz hS hI) ?_
  rintro v w ⟨A1, c1, rfl, hS⟩
  have hspec := membersL_spec zs
  have hMl : (membersL zs).length ≤ 1000 := by have := membersL_len zs; omega
  have hMb : ∀ x ∈ membersL zs, -9223372036854775808 ≤ x ∧ x ≤ 9223372036854775807 := fun x hx => hzb x ((hspec.2 x).1 hx).1
  have hM1 : ∀ x ∈ membersL zs, 0 < x := fun x hx => ((hspec.2 x).1 hx).2
  have hrise := hspec.1
  clear hspec
  generalize membersL zs = M at *
  have hS := hS.row_nil 3 1
  unfold m89_3
  unfold m89_4
  unfold m89_37
  refine loop_in (fun s w' => ∃ i : Nat, ∃ A' c', s = (.slice A' (List.replicate i (0 : Int)).length c', .int .i64 i) ∧ i ≤ parts.toNat ∧ St w0 F w' (irow (.slice A' (List.replicate i (0 : Int)).length c') (List.replicate i 0) :: irow (.slice A1 M.length c1) M :: L))
    (fun s _ => parts.toNat - (intOf s.2).toNat) ⟨0, none, 0, rfl, by omega, hS⟩ ?_
  clear hS
  rintro s w ⟨i, A2, c2, rfl, hi, hS⟩
  unfold m89_38
  refine valP_ok (lss_ok _ _ _ _ _ _ _) ?_
  unfold m89_41
  refine cond_split (fun h => ?_) (fun h => ?_)
  · unfold m89_39
    refine newslice_ok (bs28_1 rfl _) hS ?_
    intro b31 w hS
    have e2 : List.replicate i (0 : Int) ++ [0] = List.replicate (i + 1) 0 := by rw [List.replicate_succ']
    refine append_one 0 (by simp; omega) hS rfl ?_
    intro A' c' w hS
    simp only [List.set_cons_zero] at hS
    rw [e2] at hS ⊢
    unfold m89_40
    refine valP_ok (add_ok _ _ _ (by omega) (by omega) _) ?_
    exact ⟨⟨i + 1, A', c', rfl, by omega, hS⟩, by simp [intOf]; omega⟩
  have hi2 : i = parts.toNat := by omega
  subst hi2
  clear h hi
  unfold m89_5
  refine builtin_ok (len28 _) ?_
  refine valP_ok (eq3 _ _ _ _ _) ?_
  unfold m89_35
  by_cases hM0 : M.length = 0
  · refine cond_dt (by omega) ?_
    unfold m89_36
    show ite _ _ _
    rw [if_neg hnb]
    have hS := St_sub hS (.cons_cons _ (.cons _ (.refl L)))
    unfold stickyL
    rw [if_pos hM0]
    exact ⟨_, _, rfl, hS⟩
  refine cond_df (by omega) ?_
  have eb : baseI parts M = parts / M.length := by unfold baseI; rw [if_neg hM0]
  have eg : bigI parts M = parts % M.length := by unfold bigI; rw [if_neg hM0]
  unfold m89_6
  refine builtin_ok (len28 _) ?_
  refine valP_ok (quo_ok _ _ _ (by omega) (by omega) (by omega) _) ?_
  rw [← eb]
  obtain ⟨g, rfl⟩ := hS.row_ptr 0 rfl (by simp; omega)
  have hKok := fun p hp => keepsL_ok (parts := parts) (M := M) (old := old) hnb hrise hMl hMb p hp
  have hKi := fun p hp => KInv.all (parts := parts) (M := M) (old := old) hnb hrise hMl hMb hM1 p hp
  unfold m89_7
  unfold m89_26
  refine loop_in (fun s w' => ∃ p : Nat, s = .int .i64 p ∧ p ≤ min parts.toNat old.length ∧
      St w0 F w' (irow (.slice (some ⟨g, 0, none⟩) (keepsL parts M old p).l.length c2) (keepsL parts M old p).l :: irow (.slice A1 M.length c1) M :: L))
    (fun s _ => parts.toNat - (intOf s).toNat) ⟨0, rfl, by omega, hS⟩ ?_
  clear hS
  rintro s w ⟨p, rfl, hpn, hS⟩
  obtain ⟨hok, hcp, hll, hlm⟩ := hKok p (by omega)
  have hki := hKi p (by omega)
  have hlr : (List.replicate parts.toNat (0 : Int)).length = (keepsL parts M old p).l.length := by simp; omega
  rw [hlr]
  have hcond : ∀ R K w, ((p < parts.toNat ∧ p < old.length) → m89_28 R K (.int .i64 parts) (.slice B old.length d) (.slice A1 M.length c1) (.slice (some ⟨g, 0, none⟩) (keepsL parts M old p).l.length c2) (.int .i64 (baseI parts M)) (.int .i64 p) w) →
      (¬ (p < parts.toNat ∧ p < old.length) → m89_8 R (.int .i64 parts) (.slice A1 M.length c1) (.slice (some ⟨g, 0, none⟩) (keepsL parts M old p).l.length c2) w) →
      m89_27 R K (.int .i64 parts) (.slice B old.length d) (.slice A1 M.length c1) (.slice (some ⟨g, 0, none⟩) (keepsL parts M old p).l.length c2) (.int .i64 (baseI parts M)) (.int .i64 p) w := fun R K w hy hn => by
    unfold m89_27
    refine valP_ok (lss_ok _ _ _ _ _ _ _) ?_
    refine cond_split (fun ha => ?_) (fun ha => ?_)
    · refine builtin_ok (len28 _) ?_
      refine valP_ok (lss_ok _ _ _ _ _ _ _) ?_
      first | refine pick_dt (by first | assumption | omega) ?_ | refine pick_df (by first | assumption | omega) ?_ | refine pick_t (by first | rfl | assumption) ?_ | refine pick_f (by first | rfl | assumption) ?_ | refine pick_dt rfl ?_ | refine pick_df (not_not_intro rfl) ?_
      unfold m89_34
      refine cond_split (fun hb => ?_) (fun hb => ?_)
      · exact hy ⟨by omega, by omega⟩
      · exact hn (fun h => by omega)
    · first | refine pick_dt (by first | assumption | omega) ?_ | refine pick_df (by first | assumption | omega) ?_ | refine pick_t (by first | rfl | assumption) ?_ | refine pick_f (by first | rfl | assumption) ?_ | refine pick_dt rfl ?_ | refine pick_df (not_not_intro rfl) ?_
      unfold m89_34
      refine cond_f rfl ?_
      exact hn (fun h => by omega)
  refine hcond _ _ _ (fun hy => ?_) (fun hn => ?_)
  · obtain ⟨hpp, hlt⟩ := hy
    have hO' : Bes w0 F (irow (.slice A1 M.length c1) M :: L) 1 B old.length (ints old) := hO.mono fun r hr => .tail _ hr
    have hstep : keepsL parts M old (p + 1) = (let s := keepsL parts M old p
      if mayI M (baseI parts M) s.big s.C old[p] then ⟨if s.C old[p] = baseI parts M then s.big - 1 else s.big, upC s.C old[p], s.l.set p old[p]⟩ else s) := by
      show (let s := keepsL parts M old p
        if mayI M (baseI parts M) s.big s.C old[p]! then _ else _) = _
      rw [getElem!_pos old p hlt]
    simp only at hstep
    clear hKok hKi hcond
    have hmay := fun (h : old[p]'hlt ∈ M) => may_iff hki h hok.big0.1
    generalize keepsL parts M old p = s at *
    have hr := hO'.rd1 hS
    obtain ⟨g2, o, rfl⟩ := hr.some_ (by omega) (by omega)
    have hc := hr.cell_ (ints_get hlt)
    unfold m89_28
    refine valP_ok (ix28 hlt _) ?_
    first | refine valP_ok (ld3 (hS.cell 0 rfl rfl)) ?_ | refine valP_ok (ld3 (hS.cell 1 rfl rfl)) ?_ | refine valP_ok (ld3 (hS.cell 2 rfl rfl)) ?_ | refine valP_ok (ld3 (hS.cell 3 rfl rfl)) ?_ | refine valP_ok (ld3 (hS.cell 4 rfl rfl)) ?_ | refine valP_ok (ld3 (by assumption)) ?_
    refine callR (by kernel_rfl) (has_ret A1 c1 M old[p] _ (hS.row_rd 1 rfl) (by omega)) ?_
    rintro v w ⟨rfl, rfl⟩
    first | refine valP_ok (not_ok _ _) ?_ | refine valP_ok (notb_ok _ _) ?_
    unfold m89_33
    refine cond_split (fun hmem => ?_) (fun hmem => ?_)
    · have hno : ¬ mayI M (baseI parts M) s.big s.C old[p] := fun h => hmem h.1
      rw [if_neg hno] at hstep
      unfold m89_29
      refine valP_ok (add_ok _ _ _ (by omega) (by omega) _) ?_
      exact ⟨⟨p + 1, rfl, by omega, by rw [hstep]; exact hS⟩, by simp [intOf]; omega⟩
    · have hmem := Decidable.not_not.1 hmem
      have hmay := hmay hmem
      unfold m89_30
      refine valP_ok (ix28 hlt _) ?_
      first | refine valP_ok (ld3 (hS.cell 0 rfl rfl)) ?_ | refine valP_ok (ld3 (hS.cell 1 rfl rfl)) ?_ | refine valP_ok (ld3 (hS.cell 2 rfl rfl)) ?_ | refine valP_ok (ld3 (hS.cell 3 rfl rfl)) ?_ | refine valP_ok (ld3 (hS.cell 4 rfl rfl)) ?_ | refine valP_ok (ld3 (by assumption)) ?_
      refine callR (by kernel_rfl) (count_ret _ c2 s.l old[p] _ (hS.row_rd 0 rfl) (by omega)) ?_
      rintro v w ⟨rfl, rfl⟩
      have fin : ∀ (t : Bool) (w : World) R K, (t = true ↔ mayI M (baseI parts M) s.big s.C old[p]) → St w0 F w (irow (.slice (some ⟨g, 0, none⟩) s.l.length c2) s.l :: irow (.slice A1 M.length c1) M :: L) →
          (∀ w, St w0 F w (irow (.slice (some ⟨g, 0, none⟩) (keepsL parts M old (p + 1)).l.length c2) (keepsL parts M old (p + 1)).l :: irow (.slice A1 M.length c1) M :: L) → K (.int .i64 ((p + 1 : Nat) : Int)) w) →
          m89_32 R K (.int .i64 parts) (.slice (some ⟨g2, o, none⟩) old.length d) (.slice A1 M.length c1) (.slice (some ⟨g, 0, none⟩) s.l.length c2) (.int .i64 (baseI parts M)) (.int .i64 p) (.bool t) w := fun t w R K ht hS hK => by
        refine rkeep_leaf (by omega) (by omega) hlt hO' hS (fun h w hS => hK w ?_) (fun h w hS => hK w ?_)
        · rw [hstep, if_pos (ht.1 h)]; exact hS
        · rw [hstep, if_neg (fun hh => by rw [ht.2 hh] at h; cases h)]; exact hS
      have hfin : ∀ (t : Bool) (w : World), (t = true ↔ (tm s.l old[p] < baseI parts M ∨ (tm s.l old[p] = baseI parts M ∧ aboveN s.l M (baseI parts M) < bigI parts M))) → (t = true ↔ mayI M (baseI parts M) s.big s.C old[p]) := fun t w h => h.trans hmay.symm
      unfold m89_31
      refine drawn_ok hS ?_
      intro w hS
      refine held_St [] hS (by simp) ?_
      refine valJ_ok (lss_ok _ _ _ _ _ _) ?_
      refine cond_split (fun ha => ?_) (fun ha => ?_)
      · first | refine pick_dt (by first | assumption | omega) ?_ | refine pick_df (by first | assumption | omega) ?_ | refine pick_t (by first | rfl | assumption) ?_ | refine pick_f (by first | rfl | assumption) ?_ | refine pick_dt rfl ?_ | refine pick_df (not_not_intro rfl) ?_
        exact fin _ _ _ _ (hfin _ w (by simp; omega)) hS (fun w hS => ⟨⟨p + 1, rfl, by omega, hS⟩, by simp [intOf]; omega⟩)
      · refine valJ_ok (eq3 _ _ _ _) ?_
        refine cond_split (fun he => ?_) (fun he => ?_)
        · refine builtinJ_ok (len28) ?_
          refine valJ_ok (rem_ok _ _ _ (by omega) (by omega) (by omega)) ?_
          refine callR (by kernel_rfl) (above_ret _ _ c2 c1 s.l M (baseI parts M) _ (hS.row_rd 0 rfl) (hS.row_rd 1 rfl) (by omega) (by omega)) ?_
          rintro v w ⟨rfl, rfl⟩
          refine stay_St hS (by simp) ?_
          refine valJ_ok (lss_ok _ _ _ _ _ _) ?_
          refine pick_dt he ?_
          refine pick_df ha ?_
          exact fin _ _ _ _ (hfin _ w (by rw [← eg]; simp; omega)) hS (fun w hS => ⟨⟨p + 1, rfl, by omega, hS⟩, by simp [intOf]; omega⟩)
        · first | refine pick_dt (by first | assumption | omega) ?_ | refine pick_df (by first | assumption | omega) ?_ | refine pick_t (by first | rfl | assumption) ?_ | refine pick_f (by first | rfl | assumption) ?_ | refine pick_dt rfl ?_ | refine pick_df (not_not_intro rfl) ?_
          first | refine pick_dt (by first | assumption | omega) ?_ | refine pick_df (by first | assumption | omega) ?_ | refine pick_t (by first | rfl | assumption) ?_ | refine pick_f (by first | rfl | assumption) ?_ | refine pick_dt rfl ?_ | refine pick_df (not_not_intro rfl) ?_
          exact fin _ _ _ _ (hfin _ w (by simp; omega)) hS (fun w hS => ⟨⟨p + 1, rfl, by omega, hS⟩, by simp [intOf]; omega⟩)
  · have hpe : p = min parts.toNat old.length := by omega
    have hst : stickyL parts M old = (fillsL M (keepsL parts M old p) parts.toNat).l := by unfold stickyL; rw [if_neg hM0, ← hpe]
    have hFok := fun q hq => fillsL_ok (n := parts.toNat) (q := p) (base := baseI parts M) (by omega : 0 < M.length) (by omega) ⟨hok, hcp, hll, hlm⟩ q hq
    have hFc := fun q hq => fills_cnt (M := M) (s0 := keepsL parts M old p) (by omega) hM1 hki.cnt q hq
    rw [hll] at hFc
    clear hKok hKi hcond
    generalize keepsL parts M old p = s0 at *
    unfold m89_8
    unfold m89_11
    refine loop_in (fun s w' => ∃ q : Nat, s = .int .i64 q ∧ q ≤ parts.toNat ∧
        St w0 F w' (irow (.slice (some ⟨g, 0, none⟩) (fillsL M s0 q).l.length c2) (fillsL M s0 q).l :: irow (.slice A1 M.length c1) M :: L))
      (fun s _ => parts.toNat - (intOf s).toNat) ⟨0, rfl, by omega, hS⟩ ?_
    clear hS
    rintro s w ⟨q, rfl, hq, hS⟩
    obtain ⟨hok, hcp, hll2, hlm⟩ := hFok q (by omega)
    obtain ⟨_, hcnt⟩ := hFc q (by omega)
    have hl2 : s0.l.length = (fillsL M s0 q).l.length := by omega
    rw [hl2]
    unfold m89_12
    refine valP_ok (lss_ok _ _ _ _ _ _ _) ?_
    unfold m89_25
    refine cond_split (fun h => ?_) (fun h => ?_)
    · have hMlt : 0 < M.length := by omega
      have hlt : q < (fillsL M s0 q).l.length := by omega
      have hstep : fillsL M s0 (q + 1) = (let s := fillsL M s0 q
        if s.l[q]'hlt = 0 then ⟨s.big, upC s.C (fewest s.C (M[0]'hMlt) (M.drop 1)), s.l.set q (fewest s.C (M[0]'hMlt) (M.drop 1))⟩ else s) := by
        show (let s := fillsL M s0 q
          if s.l[q]! = 0 then _ else _) = _
        simp only
        rw [getElem!_pos _ q hlt, getElem!_pos M 0 hMlt]
      simp only at hstep
      generalize fillsL M s0 q = s at *
      have hfc : fewest s.C M[0] (M.drop 1) = fewest (tm s.l) M[0] (M.drop 1) := fewest_congr _ _ (hcnt _ (List.getElem_mem hMlt)) (fun x hx => hcnt x (List.mem_of_mem_drop hx))
      rw [hfc] at hstep
      have hc := hS.row_cell 0 rfl (ints_get hlt)
      have hlq := hlm _ (List.getElem_mem hlt)
      unfold m89_13
      refine valP_ok (ixz28 hlt _) ?_
      first | refine valP_ok (ld3 (hS.cell 0 rfl rfl)) ?_ | refine valP_ok (ld3 (hS.cell 1 rfl rfl)) ?_ | refine valP_ok (ld3 (hS.cell 2 rfl rfl)) ?_ | refine valP_ok (ld3 (hS.cell 3 rfl rfl)) ?_ | refine valP_ok (ld3 (hS.cell 4 rfl rfl)) ?_ | refine valP_ok (ld3 (by assumption)) ?_
      refine valP_ok (gtr_ok _ _ _ _ _ _ _) ?_
      unfold m89_24
      refine cond_split (fun hp0 => ?_) (fun hp0 => ?_)
      · rw [if_neg (by omega)] at hstep
        unfold m89_14
        refine valP_ok (add_ok _ _ _ (by omega) (by omega) _) ?_
        exact ⟨⟨q + 1, rfl, by omega, by rw [hstep]; exact hS⟩, by simp [intOf]; omega⟩
      · have hz : s.l[q] = 0 := by
          rcases hlq with h | h
          · exact h
          · have := hM1 _ h; omega
        rw [if_pos hz] at hstep
        obtain ⟨g3, rfl⟩ := hS.row_ptr 1 rfl hMlt
        have hc0 := hS.row_cell 1 rfl (ints_get hMlt)
        unfold m89_15
        refine valP_ok (ixz28 (k := 0) hMlt _) ?_
        first | refine valP_ok (ld3 (hS.cell 0 rfl rfl)) ?_ | refine valP_ok (ld3 (hS.cell 1 rfl rfl)) ?_ | refine valP_ok (ld3 (hS.cell 2 rfl rfl)) ?_ | refine valP_ok (ld3 (hS.cell 3 rfl rfl)) ?_ | refine valP_ok (ld3 (hS.cell 4 rfl rfl)) ?_ | refine valP_ok (ld3 (by assumption)) ?_
        unfold m89_16
        unfold m89_18
        refine loop_in (fun u w' => ∃ k : Nat, u = (.int .i64 (fewest (tm s.l) M[0] ((M.take k).drop 1)), .int .i64 k) ∧ 1 ≤ k ∧ k ≤ M.length ∧ St w0 F w' (irow (.slice (some ⟨g, 0, none⟩) s.l.length c2) s.l :: irow (.slice (some ⟨g3, 0, none⟩) M.length c1) M :: L))
          (fun u _ => M.length - (intOf u.2).toNat) ⟨1, by simp [fewest], by omega, by omega, hS⟩ ?_
        clear hS hc hc0
        rintro u w ⟨k, rfl, hk1, hk, hS⟩
        unfold m89_19
        refine builtin_ok (len28 _) ?_
        refine valP_ok (lss_ok _ _ _ _ _ _ _) ?_
        unfold m89_23
        refine cond_split (fun h => ?_) (fun h => ?_)
        · have hltk : k < M.length := by omega
          have hck := hS.row_cell 1 rfl (ints_get hltk)
          have e : (M.take (k + 1)).drop 1 = (M.take k).drop 1 ++ [M[k]] := by
            rw [List.take_succ_eq_append_getElem hltk, List.drop_append_of_le_length (by rw [List.length_take]; omega)]
          have e2 := fewest_snoc (tm s.l) ((M.take k).drop 1) M[0] M[k]
          rw [← e] at e2
          unfold m89_20
          refine valP_ok (ixz28 hltk _) ?_
          first | refine valP_ok (ld3 (hS.cell 0 rfl rfl)) ?_ | refine valP_ok (ld3 (hS.cell 1 rfl rfl)) ?_ | refine valP_ok (ld3 (hS.cell 2 rfl rfl)) ?_ | refine valP_ok (ld3 (hS.cell 3 rfl rfl)) ?_ | refine valP_ok (ld3 (hS.cell 4 rfl rfl)) ?_ | refine valP_ok (ld3 (by assumption)) ?_
          refine callR (by kernel_rfl) (count_ret _ c2 s.l M[k] _ (hS.row_rd 0 rfl) (by omega)) ?_
          rintro v w ⟨rfl, rfl⟩
          refine callR (by kernel_rfl) (count_ret _ c2 s.l (fewest (tm s.l) M[0] ((M.take k).drop 1)) _ (hS.row_rd 0 rfl) (by omega)) ?_
          rintro v w ⟨rfl, rfl⟩
          refine valP_ok (lss_ok _ _ _ _ _ _ _) ?_
          unfold m89_22
          refine cond_split (fun hless => ?_) (fun hless => ?_)
          · rw [if_pos (by omega)] at e2
            refine valP_ok (ixz28 hltk _) ?_
            first | refine valP_ok (ld3 (hS.cell 0 rfl rfl)) ?_ | refine valP_ok (ld3 (hS.cell 1 rfl rfl)) ?_ | refine valP_ok (ld3 (hS.cell 2 rfl rfl)) ?_ | refine valP_ok (ld3 (hS.cell 3 rfl rfl)) ?_ | refine valP_ok (ld3 (hS.cell 4 rfl rfl)) ?_ | refine valP_ok (ld3 (by assumption)) ?_
            unfold m89_21
            refine valP_ok (add_ok _ _ _ (by omega) (by omega) _) ?_
            exact ⟨⟨k + 1, by rw [e2]; rfl, by omega, by omega, hS⟩, by simp [intOf]; omega⟩
          · rw [if_neg (by omega)] at e2
            unfold m89_21
            refine valP_ok (add_ok _ _ _ (by omega) (by omega) _) ?_
            exact ⟨⟨k + 1, by rw [e2]; rfl, by omega, by omega, hS⟩, by simp [intOf]; omega⟩
        · have : k = M.length := by omega
          subst this
          rw [List.take_length]
          unfold m89_17
          refine valP_ok (ixz28 hlt _) ?_
          refine set_irow 0 hS rfl hlt ?_
          intro w hS
          simp only [List.set_cons_zero] at hS
          unfold m89_14
          refine valP_ok (add_ok _ _ _ (by omega) (by omega) _) ?_
          exact ⟨⟨q + 1, rfl, by omega, by rw [hstep]; exact hS⟩, by simp [intOf]; omega⟩
    · have hqe : q = parts.toNat := by omega
      subst hqe
      unfold m89_9 m89_10
      show ite _ _ _
      rw [if_neg hnb, hst]
      have hS := St_sub hS (.cons_cons _ (.cons _ (.refl L)))
      exact ⟨_, _, rfl, hS⟩

end Go.Proofs.Ytjjmlopmemmobaa.M
