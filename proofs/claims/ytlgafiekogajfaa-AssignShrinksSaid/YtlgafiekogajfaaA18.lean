/- Each member that had a least share or more keeps that many of its own. -/
import Derived.Test.YtlgafiekogajfaaA17
namespace Go.Proofs.Ytlgafiekogajfaa.M
open Go.Proofs.Ytlgafiekogajfaa.F Go.RowKit
set_option linter.unusedVariables false
set_option linter.unusedSimpArgs false
set_option maxRecDepth 100000
set_option maxHeartbeats 2000000
attribute [local irreducible] Res.cells Res.row Res.map Res.any World.cell? World.frozen? Instr.fieldAt Instr.loadAt Instr.storeAt Instr.indexAt Instr.lookup Instr.mapUpdate Instr.box Instr.build Instr.buildSlice Instr.extract Instr.alloc Instr.field Instr.index Instr.sliceAt Instr.makeSlice Instr.makeMap Instr.makeFunc binS Op.unary Sem.run
open Go.Proofs.Ytlgafiekogajfaa.L Go.Shelf
/-- How many of the first ones one had, and has. -/
def keptN (old l : List Int) (m : Int) : Nat → Int
  | 0 => 0
  | p + 1 => keptN old l m p + if old[p]! = m ∧ l[p]! = m then 1 else 0
theorem keptN_le (old l : List Int) (m : Int) : ∀ p : Nat, 0 ≤ keptN old l m p ∧ keptN old l m p ≤ p
  | 0 => by simp [keptN]
  | p + 1 => by
    have := keptN_le old l m p
    unfold keptN
    split <;> omega
theorem fills_keep {M : List Int} {s0 : Sk} : ∀ (q j : Nat), s0.l[j]! ≠ 0 → (fillsL M s0 q).l[j]! = s0.l[j]!
  | 0, _, _ => rfl
  | q + 1, j, h => by
    have ih := fills_keep (M := M) (s0 := s0) q j h
    unfold fillsL
    simp only
    generalize fillsL M s0 q = s at *
    split
    · rename_i hz
      have hne : q ≠ j := fun e => by subst e; rw [ih] at hz; exact h hz
      show (s.l.set q _)[j]! = _
      rw [← ih]
      by_cases hj : j < s.l.length
      · rw [getElem!_pos _ j (by simpa using hj), getElem!_pos _ j hj, List.getElem_set, if_neg hne]
      · rw [getElem!_neg _ j (by simpa using hj), getElem!_neg _ j hj]
    · exact ih
theorem tm_kept {old l k : List Int} {m : Int} (hm : 0 < m) (h1 : ∀ j : Nat, k[j]! = 0 ∨ k[j]! = old[j]!) (h2 : ∀ j : Nat, k[j]! ≠ 0 → l[j]! = k[j]!) : ∀ p, p ≤ k.length → tm (k.take p) m ≤ keptN old l m p
  | 0, _ => by simp [tm, keptN]
  | p + 1, hp => by
    have ih := tm_kept hm h1 h2 p (by omega)
    have ht := tm_take (show p < k.length by omega) m
    unfold keptN
    have a := h1 p
    have b := h2 p
    rw [getElem!_pos k p (by omega)] at a b
    by_cases e : k[p] = m
    · rw [if_pos e] at ht
      have hb := b (by omega)
      rw [if_pos ⟨by omega, by omega⟩]
      omega
    · rw [if_neg e] at ht
      have : (0 : Int) ≤ if old[p]! = m ∧ l[p]! = m then 1 else 0 := by split <;> omega
      omega
theorem kept_least {parts : Int} {M old : List Int} (hM0 : 0 < M.length) (hp : ¬ badParts parts) (hr : M.Pairwise (· < ·)) (hl : M.length ≤ 1000) (hM : ∀ x ∈ M, -9223372036854775808 ≤ x ∧ x ≤ 9223372036854775807) (h0 : ∀ x ∈ M, 0 < x) {m : Int} (hm : m ∈ M) :
    min (tm (old.take (min parts.toNat old.length)) m) (baseI parts M) ≤ keptN old (stickyL parts M old) m (min parts.toNat old.length) := by
  have hp64 : parts.toNat ≤ 64 := by unfold badParts at hp; omega
  have h1 := keeps_least (old := old) hp hr hl hM h0 hm (min parts.toNat old.length) (Nat.le_refl _)
  have hk := KInv.all (old := old) hp hr hl hM h0 (min parts.toNat old.length) (by omega)
  obtain ⟨_, _, hll, _⟩ := keepsL_ok (parts := parts) (M := M) (old := old) hp hr hl hM (min parts.toNat old.length) (by omega)
  have e : stickyL parts M old = (fillsL M (keepsL parts M old (min parts.toNat old.length)) parts.toNat).l := by unfold stickyL; rw [if_neg (by omega)]
  have ho := keeps_own (parts := parts) (M := M) (old := old) (min parts.toNat old.length) (by omega)
  rw [e]
  have hf := fun j => fills_keep (M := M) (s0 := keepsL parts M old (min parts.toNat old.length)) parts.toNat j
  generalize hn : min parts.toNat old.length = n at *
  generalize keepsL parts M old n = s at *
  have h2 := tm_kept (old := old) (l := (fillsL M s parts.toNat).l) (h0 m hm) ho hf n (by omega)
  have h3 : tm s.l m = tm (s.l.take n) m := by
    have e2 : s.l = s.l.take n ++ s.l.drop n := (List.take_append_drop n s.l).symm
    have e3 : tm s.l m = tm (s.l.take n ++ s.l.drop n) m := congrArg (tm · m) e2
    rw [e3, tm_append]
    have : tm (s.l.drop n) m = 0 := by
      unfold tm
      rw [List.count_eq_zero.2 (fun h => ?_)]
      · rfl
      · obtain ⟨j, hj, he⟩ := List.mem_iff_getElem.1 h
        rw [List.getElem_drop] at he
        have := hk.zer (n + j) (by simpa [Nat.add_comm] using (by rw [List.length_drop] at hj; omega : n + j < s.l.length)) (by omega)
        have := h0 m hm
        omega
    omega
  have h4 := hk.cnt m hm
  omega
theorem keepslaw_ret {w : World} {A B : Option Addr} {c d : Nat} {l r : List Int} {parts : Int} (hp : -9223372036854775808 ≤ parts) (hp' : parts ≤ 9223372036854775807) (hc : l.length ≤ c) (hd : r.length ≤ d) (hr : Rd w 1 A l.length (ints l)) (hrr : Rd w 1 B r.length (ints r))
    (hb : ∀ x ∈ l, -9223372036854775808 ≤ x ∧ x ≤ 9223372036854775807) (hbr : ∀ x ∈ r, -9223372036854775808 ≤ x ∧ x ≤ 9223372036854775807) :
    Ret Try.prog 6 #[.int .i64 parts, .slice A l.length c, .slice B r.length d] w fun v w' => v = .bool true ∧ Below w.heap.size w w' := by
  refine s6 _ _ _ ?_
  unfold m6 m6_0
  unfold m6_1
  refine callR (by kernel_rfl) (some_ret A c l w hc) ?_
  rintro v w ⟨rfl, rfl⟩
  refine callR (by kernel_rfl) (some_ret B d r w hd) ?_
  rintro v w ⟨rfl, rfl⟩
  have hS := St.start w
  have hr := Rd.take_ints hr 70
  have hrr := Rd.take_ints hrr 70
  have hb : ∀ x ∈ l.take 70, -9223372036854775808 ≤ x ∧ x ≤ 9223372036854775807 := fun x hx => hb x (List.mem_of_mem_take hx)
  have hbr : ∀ x ∈ r.take 70, -9223372036854775808 ≤ x ∧ x ≤ 9223372036854775807 := fun x hx => hbr x (List.mem_of_mem_take hx)
  have hl : (l.take 70).length ≤ 70 := by rw [List.length_take]; omega
  have hl2 : (r.take 70).length ≤ 70 := by rw [List.length_take]; omega
  generalize l.take 70 = l at hr hl hb ⊢
  generalize r.take 70 = r at hrr hl2 hbr ⊢
  have hspec := membersL_spec l
  have hMl : (membersL l).length ≤ 1000 := by have := membersL_len l; omega
  have hMb : ∀ x ∈ membersL l, -9223372036854775808 ≤ x ∧ x ≤ 9223372036854775807 := fun x hx => hb x ((hspec.2 x).1 hx).1
  have hM1 : ∀ x ∈ membersL l, 0 < x := fun x hx => ((hspec.2 x).1 hx).2
  unfold m6_2
  refine callR (by kernel_rfl) (sticky_ret hp hp' hS (Bes.of_old0 hr) (Bes.of_old0 hrr) (by omega) hb hbr) ?_
  intro v w2 hv
  by_cases hbad : badParts parts
  · rw [if_pos hbad] at hv
    obtain ⟨rfl, hS⟩ := hv
    refine valP_ok (extract_ok _ 0 rfl _) ?_
    refine valP_ok (extract_ok _ 1 rfl _) ?_
    unfold m6_3
    refine callR (by kernel_rfl) (members_ret (by omega) hS (Bes.of_old0 hr)) ?_
    rintro v w3 ⟨A1, c1, rfl, hS⟩
    unfold m6_4
    refine valP_ok (ne24 _ _ _ _ _) ?_
    refine cond_dt (by decide) ?_
    first | refine pick_dt (by first | assumption | omega) ?_ | refine pick_df (by first | assumption | omega) ?_ | refine pick_t (by first | rfl | assumption) ?_ | refine pick_f (by first | rfl | assumption) ?_
    unfold m6_28
    refine cond_t (by rfl) ?_
    refine builtin_ok (len22 _) ?_
    refine valP_ok (eq3 _ _ _ _ _) ?_
    refine cond_dt (by omega) ?_
    first | refine pick_dt (by first | assumption | omega) ?_ | refine pick_df (by first | assumption | omega) ?_ | refine pick_t (by first | rfl | assumption) ?_ | refine pick_f (by first | rfl | assumption) ?_
    unfold m6_29
    exact ⟨rfl, hS.below⟩
  have hlen := stickyL_len (old := r) hbad hspec.1 hMl hMb
  have hp64 : 1 ≤ parts ∧ parts ≤ 64 := by unfold badParts at hbad; omega
  rw [if_neg hbad] at hv
  obtain ⟨B1, d1, rfl, hS⟩ := hv
  refine valP_ok (extract_ok _ 0 rfl _) ?_
  refine valP_ok (extract_ok _ 1 rfl _) ?_
  unfold m6_3
  refine callR (by kernel_rfl) (members_ret (by omega) hS (Bes.of_old0 hr)) ?_
  rintro v w3 ⟨A1, c1, rfl, hS⟩
  have hkl := fun h m hm => kept_least (old := r) (m := m) (M := membersL l) h hbad hspec.1 hMl hMb hM1 hm
  have hrise := hspec.1
  clear hspec
  generalize membersL l = M at *
  generalize stickyL parts M r = a at *
  unfold m6_4
  refine valP_ok (ne24 _ _ _ _ _) ?_
  refine cond_df (by decide) ?_
  refine builtin_ok (len22 _) ?_
  refine valP_ok (eq3 _ _ _ _ _) ?_
  refine pick_df (by decide) ?_
  unfold m6_28
  refine cond_split (fun h0 => ?_) (fun h0 => ?_)
  · refine builtin_ok (len22 _) ?_
    refine valP_ok (eq3 _ _ _ _ _) ?_
    refine cond_df (by omega) ?_
    refine valP_ok (eq24 _ _ _ _ _) ?_
    refine cond_dt rfl ?_
    refine callR (by kernel_rfl) (awake_ret hS) ?_
    rintro v w4 ⟨rfl, hS⟩
    refine pick_dt rfl ?_
    refine pick_df (by omega) ?_
    unfold m6_29
    exact ⟨rfl, hS.below⟩
  have eb : baseI parts M = parts / M.length := by unfold baseI; rw [if_neg (by omega)]
  unfold m6_5
  refine builtin_ok (len22 _) ?_
  refine valP_ok (ne3 _ _ _ _ _) ?_
  unfold m6_26
  refine cond_df (by omega) ?_
  unfold m6_6
  unfold m6_9
  refine loop_in (fun s w' => ∃ i : Nat, s = .int .i64 i ∧ i ≤ M.length ∧ St w [] w' (irow (.slice A1 M.length c1) M :: irow (.slice B1 a.length d1) a :: []))
    (fun s _ => M.length - (intOf s).toNat) ⟨0, rfl, by omega, hS⟩ ?_
  clear hS
  rintro s w1 ⟨i, rfl, hi, hS⟩
  unfold m6_10
  refine builtin_ok (len22 _) ?_
  refine valP_ok (lss_ok _ _ _ _ _ _ _) ?_
  unfold m6_25
  refine cond_split (fun hh => ?_) (fun hh => ?_)
  · have hlt : i < M.length := by omega
    have hmm := hkl (by omega) M[i] (List.getElem_mem hlt)
    obtain ⟨g, rfl⟩ := hS.row_ptr 0 rfl (by omega)
    obtain ⟨g2, rfl⟩ := hS.row_ptr 1 rfl (by omega)
    have hkn := fun p => keptN_le r a M[i] p
    have htn : ∀ p, 0 ≤ tm (r.take p) M[i] ∧ tm (r.take p) M[i] ≤ 70 := fun p => by
      have := List.count_le_length (a := M[i]) (l := r.take p)
      rw [List.length_take] at this
      unfold tm
      omega
    unfold m6_11
    unfold m6_13
    unfold m6_17
    refine loop_in (fun s w' => ∃ p : Nat, s = (.int .i64 (tm (r.take p) M[i]), .int .i64 (keptN r a M[i] p), .int .i64 p) ∧ p ≤ min parts.toNat r.length ∧ St w [] w' (irow (.slice (some ⟨g, 0, none⟩) M.length c1) M :: irow (.slice (some ⟨g2, 0, none⟩) a.length d1) a :: []))
      (fun s _ => 100 - (intOf s.2.2).toNat) ⟨0, rfl, by omega, hS⟩ ?_
    clear hS
    rintro s w2 ⟨p, rfl, hpn, hS⟩
    have hk1 := hkn p
    have ht1 := htn p
    unfold m6_18
    refine valP_ok (lss_ok _ _ _ _ _ _ _) ?_
    have out : ∀ R (K : Value → World → Prop) w', p = min parts.toNat r.length → St w [] w' (irow (.slice (some ⟨g, 0, none⟩) M.length c1) M :: irow (.slice (some ⟨g2, 0, none⟩) a.length d1) a :: []) →
        (∀ w', St w [] w' (irow (.slice (some ⟨g, 0, none⟩) M.length c1) M :: irow (.slice (some ⟨g2, 0, none⟩) a.length d1) a :: []) → K (.int .i64 ((i + 1 : Nat) : Int)) w') →
        m6_14 R K (.int .i64 parts) (.slice B r.length d) (.slice (some ⟨g2, 0, none⟩) a.length d1) (.slice (some ⟨g, 0, none⟩) M.length c1) (.int .i64 i) (.int .i64 (tm (r.take p) M[i])) (.int .i64 (keptN r a M[i] p)) w' := fun R K w' hpe hS hK => by
      subst hpe
      unfold m6_14
      refine builtin_ok (len22 _) ?_
      refine valP_ok (quo_ok _ _ _ (by omega) (by omega) (by omega) _) ?_
      refine builtin_ok (min_run _ _ _) ?_
      refine valP_ok (lss_ok _ _ _ _ _ _ _) ?_
      unfold m6_15
      refine cond_df (by omega) ?_
      unfold m6_12
      refine valP_ok (add_ok _ _ _ (by omega) (by omega) _) ?_
      exact hK _ hS
    refine cond_split (fun h1 => ?_) (fun h1 => ?_)
    · refine builtin_ok (len22 _) ?_
      refine valP_ok (lss_ok _ _ _ _ _ _ _) ?_
      refine pick_dt h1 ?_
      unfold m6_24
      refine cond_split (fun h2 => ?_) (fun h2 => ?_)
      · have hlr : p < r.length := by omega
        have hla : p < a.length := by omega
        have hro := hrr.old0 hS
        obtain ⟨g3, o3, rfl⟩ := hro.some_ (by omega) (by omega)
        have hc1 := hro.cell_ (ints_get hlr)
        have hc2 := hS.row_cell 0 rfl (ints_get hlt)
        have htk := tm_take hlr M[i]
        have hkk : keptN r a M[i] (p + 1) = keptN r a M[i] p + if r[p] = M[i] ∧ a[p] = M[i] then 1 else 0 := by
          show keptN r a M[i] p + (if r[p]! = M[i] ∧ a[p]! = M[i] then 1 else 0) = _
          rw [getElem!_pos r p hlr, getElem!_pos a p hla]
        unfold m6_19
        first | refine valQ_ok (ixz22 (by first | assumption | omega)) ?_ | refine valQ_ok (ix22 (by first | assumption | omega)) ?_
        first | refine valQ_load ld3 (hS.cell 0 rfl rfl) ?_ | refine valQ_load ld3 (hS.cell 1 rfl rfl) ?_ | refine valQ_load ld3 (hS.cell 2 rfl rfl) ?_ | refine valQ_load ld3 (hS.cell 3 rfl rfl) ?_ | refine valQ_load ld3 (hS.cell 4 rfl rfl) ?_ | refine valQ_load ld3 (by assumption) ?_
        first | refine valQ_ok (ixz22 (by first | assumption | omega)) ?_ | refine valQ_ok (ix22 (by first | assumption | omega)) ?_
        first | refine valQ_load ld3 (hS.cell 0 rfl rfl) ?_ | refine valQ_load ld3 (hS.cell 1 rfl rfl) ?_ | refine valQ_load ld3 (hS.cell 2 rfl rfl) ?_ | refine valQ_load ld3 (hS.cell 3 rfl rfl) ?_ | refine valQ_load ld3 (hS.cell 4 rfl rfl) ?_ | refine valQ_load ld3 (by assumption) ?_
        refine valQ_ok (eq3 _ _ _ _) ?_
        refine drawn_ok hS ?_
        intro w hS
        unfold m6_21
        refine cond_split (fun e1 => ?_) (fun e1 => ?_)
        · rw [if_pos e1] at htk
          refine valP_ok (add_ok _ _ _ (by omega) (by omega) _) ?_
          have hc2 := hS.row_cell 0 rfl (ints_get hlt)
          have hc3 := hS.row_cell 1 rfl (ints_get hla)
          unfold m6_22
          first | refine valQ_ok (ixz22 (by first | assumption | omega)) ?_ | refine valQ_ok (ix22 (by first | assumption | omega)) ?_
          first | refine valQ_load ld3 (hS.cell 0 rfl rfl) ?_ | refine valQ_load ld3 (hS.cell 1 rfl rfl) ?_ | refine valQ_load ld3 (hS.cell 2 rfl rfl) ?_ | refine valQ_load ld3 (hS.cell 3 rfl rfl) ?_ | refine valQ_load ld3 (hS.cell 4 rfl rfl) ?_ | refine valQ_load ld3 (by assumption) ?_
          first | refine valQ_ok (ixz22 (by first | assumption | omega)) ?_ | refine valQ_ok (ix22 (by first | assumption | omega)) ?_
          first | refine valQ_load ld3 (hS.cell 0 rfl rfl) ?_ | refine valQ_load ld3 (hS.cell 1 rfl rfl) ?_ | refine valQ_load ld3 (hS.cell 2 rfl rfl) ?_ | refine valQ_load ld3 (hS.cell 3 rfl rfl) ?_ | refine valQ_load ld3 (hS.cell 4 rfl rfl) ?_ | refine valQ_load ld3 (by assumption) ?_
          refine valQ_ok (eq3 _ _ _ _) ?_
          refine drawn_ok hS ?_
          intro w hS
          unfold m6_23
          refine cond_split (fun e2 => ?_) (fun e2 => ?_)
          · rw [if_pos ⟨e1, e2⟩] at hkk
            refine valP_ok (add_ok _ _ _ (by omega) (by omega) _) ?_
            unfold m6_20
            refine valP_ok (add_ok _ _ _ (by omega) (by omega) _) ?_
            exact ⟨⟨p + 1, by rw [htk, hkk]; rfl, by omega, hS⟩, by simp [intOf]; omega⟩
          · rw [if_neg (fun h => e2 h.2)] at hkk
            unfold m6_20
            refine valP_ok (add_ok _ _ _ (by omega) (by omega) _) ?_
            exact ⟨⟨p + 1, by rw [htk, hkk, Int.add_zero]; rfl, by omega, hS⟩, by simp [intOf]; omega⟩
        · rw [if_neg e1] at htk
          rw [if_neg (fun h => e1 h.1)] at hkk
          unfold m6_20
          refine valP_ok (add_ok _ _ _ (by omega) (by omega) _) ?_
          exact ⟨⟨p + 1, by rw [htk, hkk, Int.add_zero]; rfl, by omega, hS⟩, by simp [intOf]; omega⟩
      · exact out _ _ _ (by omega) hS (fun w' hS => ⟨⟨i + 1, rfl, by omega, hS⟩, by simp [intOf]; omega⟩)
    · first | refine pick_dt (by first | assumption | omega) ?_ | refine pick_df (by first | assumption | omega) ?_ | refine pick_t (by first | rfl | assumption) ?_ | refine pick_f (by first | rfl | assumption) ?_
      unfold m6_24
      refine cond_f rfl ?_
      exact out _ _ _ (by omega) hS (fun w' hS => ⟨⟨i + 1, rfl, by omega, hS⟩, by simp [intOf]; omega⟩)
  · unfold m6_7
    refine callR (by kernel_rfl) (awake_ret hS) ?_
    rintro v w4 ⟨rfl, hS⟩
    unfold m6_8
    exact ⟨rfl, hS.below⟩

end Go.Proofs.Ytlgafiekogajfaa.M
