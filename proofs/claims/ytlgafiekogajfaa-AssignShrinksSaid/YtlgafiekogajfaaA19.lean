/- When members go, the others keep all that they had. -/
import Derived.Test.YtlgafiekogajfaaA18
namespace Go.Proofs.Ytlgafiekogajfaa.M
open Go.Proofs.Ytlgafiekogajfaa.F Go.RowKit
set_option linter.unusedVariables false
set_option linter.unusedSimpArgs false
set_option maxRecDepth 100000
set_option maxHeartbeats 2000000
attribute [local irreducible] Res.cells Res.row Res.map Res.any World.cell? World.frozen? Instr.fieldAt Instr.loadAt Instr.storeAt Instr.indexAt Instr.lookup Instr.mapUpdate Instr.box Instr.build Instr.buildSlice Instr.extract Instr.alloc Instr.field Instr.index Instr.sliceAt Instr.makeSlice Instr.makeMap Instr.makeFunc binS Op.unary Sem.run
open Go.Proofs.Ytlgafiekogajfaa.L Go.Shelf
theorem tm_map {M' : List Int} (m : Int) (hm : m ∈ M') (h0 : 0 < m) : ∀ l : List Int, tm (l.map fun x => if x ∈ M' then x else 0) m = tm l m
  | [] => rfl
  | a :: l => by
    have ih := tm_map m hm h0 l
    unfold tm at *
    rw [List.map_cons, List.count_cons, List.count_cons]
    by_cases e : a = m
    · subst e; simp [hm]; simpa using ih
    · have : ¬ ((if a ∈ M' then a else 0) = m) := by split <;> omega
      simp [e, this]; simpa using ih
theorem tm_split {a : List Int} {p : Nat} (hlt : p < a.length) (x : Int) : tm a x = tm (a.take p) x + (if a[p] = x then 1 else 0) + tm (a.drop (p + 1)) x := by
  have e : a = a.take p ++ (a[p] :: a.drop (p + 1)) := by rw [← List.drop_eq_getElem_cons hlt, List.take_append_drop]
  have e2 : tm a x = tm (a.take p ++ (a[p] :: a.drop (p + 1))) x := congrArg (tm · x) e
  rw [e2, tm_append]
  have : tm (a[p] :: a.drop (p + 1)) x = (if a[p] = x then 1 else 0) + tm (a.drop (p + 1)) x := by
    unfold tm
    rw [List.count_cons]
    by_cases h : a[p] = x <;> simp [h]; omega
  omega
theorem above_sub {a : List Int} {B : Int} : ∀ {M' M : List Int}, M'.Sublist M → aboveN a M' B ≤ aboveN a M B := fun {M' M} h => by
  have := h.countP_le (p := fun x => decide (B < tm a x))
  unfold aboveN
  omega
theorem shares_sub {parts : Int} {M' M : List Int} (hp : ¬ badParts parts) (h0 : 0 < M'.length) (h : M'.length ≤ M.length) : baseI parts M ≤ baseI parts M' ∧ (baseI parts M = baseI parts M' → bigI parts M ≤ bigI parts M') := by
  obtain ⟨e1, l1⟩ := parts_eq (parts := parts) (M := M) (by omega)
  obtain ⟨e2, l2⟩ := parts_eq (parts := parts) (M := M') (by omega)
  have n1 := share_nums (M := M) hp
  have n2 := share_nums (M := M') hp
  have hle : baseI parts M' * (M'.length : Int) ≤ baseI parts M' * (M.length : Int) := Int.mul_le_mul_of_nonneg_left (by omega) n2.1
  constructor
  · apply Classical.byContradiction
    intro hn
    have h1 : (baseI parts M' + 1) * (M.length : Int) ≤ baseI parts M * (M.length : Int) := Int.mul_le_mul_of_nonneg_right (by omega) (by omega)
    rw [Int.add_mul, Int.one_mul] at h1
    have h2 : (M'.length : Int) ≤ M.length := by omega
    omega
  · intro e
    rw [e] at e1
    omega
theorem keeps_mem {parts : Int} {M M' a : List Int} (hp : ¬ badParts parts) (hs : M'.Sublist M) (hM' : 0 < M'.length) (hr : M.Pairwise (· < ·)) (hl : M.length ≤ 1000) (hM : ∀ x ∈ M, -9223372036854775808 ≤ x ∧ x ≤ 9223372036854775807) (h0 : ∀ x ∈ M, 0 < x) (hf : Fair parts M a) : ∀ p, p ≤ parts.toNat →
    (keepsL parts M' a p).l = (a.take p).map (fun x => if x ∈ M' then x else 0) ++ List.replicate (parts.toNat - p) 0
  | 0, _ => by simp [keepsL]
  | p + 1, hpp => by
    have ih := keeps_mem hp hs hM' hr hl hM h0 hf p (by omega)
    have hlen' := hs.length_le
    have hr' := hr.sublist hs
    have hl' : M'.length ≤ 1000 := by omega
    have hMx' : ∀ x ∈ M', -9223372036854775808 ≤ x ∧ x ≤ 9223372036854775807 := fun x hx => hM x (hs.subset hx)
    have h0' : ∀ x ∈ M', 0 < x := fun x hx => h0 x (hs.subset hx)
    have hk := KInv.all (old := a) hp hr' hl' hMx' h0' p (by omega)
    have hp64 : parts.toNat ≤ 64 := by unfold badParts at hp; omega
    obtain ⟨hok, _, _, _⟩ := keepsL_ok (parts := parts) (M := M') (old := a) hp hr' hl' hMx' p (by omega)
    obtain ⟨hb1, hb2⟩ := shares_sub (parts := parts) hp hM' hlen'
    have hlen := hf.len
    have hlt : p < a.length := by omega
    unfold keepsL
    simp only
    rw [getElem!_pos a p hlt]
    generalize keepsL parts M' a p = s at *
    have hspl := tm_split hlt
    have hst : ∀ x ∈ M', tm s.l x = tm (a.take p) x := fun x hx => by rw [ih, tm_append, tm_zeros (h0' x hx), tm_map x hx (h0' x hx)]; omega
    have etk : a.take (p + 1) = a.take p ++ [a[p]] := List.take_succ_eq_append_getElem hlt
    generalize a[p] = m at *
    have hlp : ((a.take p).map fun x => if x ∈ M' then x else 0).length = p := by rw [List.length_map, List.length_take]; omega
    have ek : parts.toNat - p = (parts.toNat - (p + 1)) + 1 := by omega
    by_cases hmem : m ∈ M'
    · have hm0 := h0' m hmem
      have hhi := hf.hi m (hs.subset hmem)
      have hnn : ∀ x, 0 ≤ tm (a.drop (p + 1)) x := fun x => by unfold tm; omega
      have hmm := hspl m
      rw [if_pos rfl] at hmm
      have hnm := hnn m
      have hsm := hst m hmem
      have hy : mayI M' (baseI parts M') s.big s.C m := by
        rw [may_iff hk hmem hok.big0.1]
        by_cases e : tm s.l m = baseI parts M'
        · refine .inr ⟨e, ?_⟩
          have eB : baseI parts M = baseI parts M' := by omega
          have h1 := countP_lt (p := fun x => decide (baseI parts M' < tm s.l x)) (p' := fun x => decide (baseI parts M' < tm a x)) hr' hmem (by simp; omega) (by simp; omega) (fun x hx h => by
            simp at h ⊢
            have q1 := hst x hx
            have q2 := hspl x
            have := hnn x
            split at q2 <;> omega)
          have h2 := above_sub (a := a) (B := baseI parts M') hs
          have h3 := hf.abv
          rw [eB] at h3
          have := hb2 eB
          unfold aboveN at *
          omega
        · exact .inl (by omega)
      rw [if_pos hy]
      show s.l.set p m = _
      rw [ih, etk, List.set_append_right _ _ (by omega), hlp, Nat.sub_self, ek, List.replicate_succ, List.set_cons_zero, List.map_append, List.append_assoc]
      simp [hmem]
    · rw [if_neg (fun h => hmem h.1)]
      rw [ih, etk, ek, List.replicate_succ, List.map_append, List.append_assoc]
      simp [hmem]
theorem shrink_keeps {parts : Int} {M M' a : List Int} (hp : ¬ badParts parts) (hs : M'.Sublist M) (hM' : 0 < M'.length) (hr : M.Pairwise (· < ·)) (hl : M.length ≤ 1000) (hM : ∀ x ∈ M, -9223372036854775808 ≤ x ∧ x ≤ 9223372036854775807) (h0 : ∀ x ∈ M, 0 < x) (hf : Fair parts M a) {j : Nat} (hj : j < a.length) (hm : a[j] ∈ M') :
    (stickyL parts M' a)[j]! = a[j] := by
  have hlen := hf.len
  have hk := keeps_mem hp hs hM' hr hl hM h0 hf parts.toNat (Nat.le_refl _)
  rw [Nat.sub_self, List.replicate_zero, List.append_nil, List.take_of_length_le (by omega)] at hk
  unfold stickyL
  rw [if_neg (by omega), hlen, Nat.min_self]
  have e : (keepsL parts M' a parts.toNat).l[j]! = a[j] := by
    rw [hk, getElem!_pos _ j (by simpa using hj)]
    simp [hm]
  have h00 := h0 _ (hs.subset hm)
  rw [fills_keep _ _ (by rw [e]; omega), e]
theorem membersL_self {M : List Int} (hr : M.Pairwise (· < ·)) (h0 : ∀ x ∈ M, 0 < x) : membersL M = M :=
  membersL_of hr fun x => ⟨fun h => ⟨h, h0 x h⟩, fun h => h.1⟩
/-- Who is left. -/
def leftL (M : List Int) (gone : List Bool) : Nat → List Int
  | 0 => []
  | i + 1 => if i < gone.length ∧ gone[i]! = true then leftL M gone i else leftL M gone i ++ [M[i]!]
theorem leftL_sub (M : List Int) (gone : List Bool) : ∀ i, i ≤ M.length → (leftL M gone i).Sublist (M.take i)
  | 0, _ => by simp [leftL]
  | i + 1, h => by
    have ih := leftL_sub M gone i (by omega)
    unfold leftL
    rw [List.take_succ_eq_append_getElem (show i < M.length by omega), getElem!_pos M i (by omega)]
    split
    · exact ih.trans (List.sublist_append_left _ _)
    · exact ih.append_right _
theorem shrinks_ret {w : World} {A B G : Option Addr} {c d e : Nat} {l r : List Int} {gone : List Bool} {parts : Int} (hp : -9223372036854775808 ≤ parts) (hp' : parts ≤ 9223372036854775807) (hc : l.length ≤ c) (hd : r.length ≤ d) (hr : Rd w 1 A l.length (ints l)) (hrr : Rd w 1 B r.length (ints r))
    (hb : ∀ x ∈ l, -9223372036854775808 ≤ x ∧ x ≤ 9223372036854775807) (hbr : ∀ x ∈ r, -9223372036854775808 ≤ x ∧ x ≤ 9223372036854775807) (hg : Rd w 1 G gone.length (gone.map Value.bool)) :
    Ret Try.prog 8 #[.int .i64 parts, .slice A l.length c, .slice B r.length d, .slice G gone.length e] w fun v w' => v = .bool true ∧ Below w.heap.size w w' := by
  refine s8 _ _ _ _ ?_
  unfold m8 m8_0
  unfold m8_1
  refine callR (by kernel_rfl) (some_ret A c l w hc) ?_
  rintro v w ⟨rfl, rfl⟩
  refine callR (by kernel_rfl) (some_ret B d r w hd) ?_
  rintro v w ⟨rfl, rfl⟩
  have hS := St.start w
  have hr := Rd.take_ints hr 70
  have hrr := Rd.take_ints hrr 70
  have hb : ∀ x ∈ l.take 70, -9223372036854775808 ≤ x ∧ x ≤ 9223372036854775807 := fun x hx => hb x (List.mem_of_mem_take hx)
  have hbr : ∀ x ∈ r.take 70, -9223372036854775808 ≤ x ∧ x ≤ 9223372036854775807 := fun x hx => hbr x (List.mem_of_mem_take hx)
  have hl : (l.take 70).length ≤ 70 := by rw [List.length_take]; omega
  have hl2 : (r.take 70).length ≤ 70 := by rw [List.length_take]; omega
  generalize l.take 70 = l at hr hl hb ⊢
  generalize r.take 70 = r at hrr hl2 hbr ⊢
  have hspec := membersL_spec l
  have hMl : (membersL l).length ≤ 1000 := by have := membersL_len l; omega
  have hMb : ∀ x ∈ membersL l, -9223372036854775808 ≤ x ∧ x ≤ 9223372036854775807 := fun x hx => hb x ((hspec.2 x).1 hx).1
  have hM1 : ∀ x ∈ membersL l, 0 < x := fun x hx => ((hspec.2 x).1 hx).2
  unfold m8_2
  refine callR (by kernel_rfl) (sticky_ret hp hp' hS (Bes.of_old0 hr) (Bes.of_old0 hrr) (by omega) hb hbr) ?_
  intro v w2 hv
  by_cases hbad : badParts parts
  · rw [if_pos hbad] at hv
    obtain ⟨rfl, hS⟩ := hv
    refine valP_ok (extract_ok _ 0 rfl _) ?_
    refine valP_ok (extract_ok _ 1 rfl _) ?_
    unfold m8_3
    refine valP_ok (ne24 _ _ _ _ _) ?_
    unfold m8_27
    refine cond_dt (by decide) ?_
    refine builtin_ok (len22 _) ?_
    refine valP_ok (eq3 _ _ _ _ _) ?_
    refine cond_dt rfl ?_
    refine callR (by kernel_rfl) (awake_ret hS) ?_
    rintro v w4 ⟨rfl, hS⟩
    refine pick_dt rfl ?_
    unfold m8_28
    exact ⟨rfl, hS.below⟩
  have hlen := stickyL_len (old := r) hbad hspec.1 hMl hMb
  have hp64 : 1 ≤ parts ∧ parts ≤ 64 := by unfold badParts at hbad; omega
  have hfair := fun h => sticky_fair (old := r) (M := membersL l) h hbad hspec.1 hMl hMb hM1
  have hab : ∀ x ∈ stickyL parts (membersL l) r, -9223372036854775808 ≤ x ∧ x ≤ 9223372036854775807 := fun x hx => by
    by_cases h : (membersL l).length = 0
    · unfold stickyL at hx
      rw [if_pos h] at hx
      have := List.eq_of_mem_replicate hx
      omega
    · exact hMb x ((hfair (by omega)).inM x hx)
  rw [if_neg hbad] at hv
  obtain ⟨B1, d1, rfl, hS⟩ := hv
  refine valP_ok (extract_ok _ 0 rfl _) ?_
  refine valP_ok (extract_ok _ 1 rfl _) ?_
  unfold m8_3
  refine valP_ok (ne24 _ _ _ _ _) ?_
  unfold m8_27
  refine cond_df (by decide) ?_
  unfold m8_4
  refine callR (by kernel_rfl) (members_ret (by omega) hS (Bes.of_old0 hr)) ?_
  rintro v w3 ⟨A1, c1, rfl, hS⟩
  have hrise := hspec.1
  clear hspec
  generalize membersL l = M at *
  generalize stickyL parts M r = a at *
  unfold m8_5
  have hS := hS.row_nil 3 1
  unfold m8_6
  unfold m8_21
  refine loop_in (fun s w' => ∃ i : Nat, ∃ A' c', s = (.slice A' (leftL M gone i).length c', .int .i64 i) ∧ i ≤ M.length ∧ St w [] w' (irow (.slice A' (leftL M gone i).length c') (leftL M gone i) :: irow (.slice A1 M.length c1) M :: irow (.slice B1 a.length d1) a :: []))
    (fun s _ => M.length - (intOf s.2).toNat) ⟨0, none, 0, rfl, by omega, hS⟩ ?_
  clear hS
  rintro s w1 ⟨i, A2, c2, rfl, hi, hS⟩
  unfold m8_22
  refine builtin_ok (len22 _) ?_
  refine valP_ok (lss_ok _ _ _ _ _ _ _) ?_
  unfold m8_26
  refine cond_split (fun hh => ?_) (fun hh => ?_)
  · have hlt : i < M.length := by omega
    obtain ⟨g, rfl⟩ := hS.row_ptr 1 rfl (by omega)
    have fin : ∀ (t : Bool) R (K : Value × Value → World → Prop), (t = false ↔ (i < gone.length ∧ gone[i]! = true)) →
        (∀ w' A' c', St w [] w' (irow (.slice A' (leftL M gone (i + 1)).length c') (leftL M gone (i + 1)) :: irow (.slice (some ⟨g, 0, none⟩) M.length c1) M :: irow (.slice B1 a.length d1) a :: []) → K (.slice A' (leftL M gone (i + 1)).length c', .int .i64 ((i + 1 : Nat) : Int)) w') →
        m8_25 R K (.int .i64 parts) (.slice G gone.length e) (.slice B1 a.length d1) (.slice (some ⟨g, 0, none⟩) M.length c1) (.slice A2 (leftL M gone i).length c2) (.int .i64 i) (.bool t) w1 := fun t R K ht hK => by
      have hll := (leftL_sub M gone i hi).length_le
      rw [List.length_take] at hll
      unfold m8_25
      refine cond_bsplit (fun h => ?_) (fun h => ?_)
      · have e1 : leftL M gone (i + 1) = leftL M gone i ++ [M[i]] := by
          show (if i < gone.length ∧ gone[i]! = true then leftL M gone i else leftL M gone i ++ [M[i]!]) = _
          rw [if_neg (fun hx => by rw [ht.2 hx] at h; cases h), getElem!_pos M i hlt]
        rw [e1] at hK
        have hc := hS.row_cell 1 rfl (ints_get hlt)
        first | refine valP_ok (ixz22 (by first | assumption | omega) _) ?_ | refine valP_ok (ix22 (by first | assumption | omega) _) ?_
        first | refine valP_ok (ld3 (hS.cell 0 rfl rfl)) ?_ | refine valP_ok (ld3 (hS.cell 1 rfl rfl)) ?_ | refine valP_ok (ld3 (hS.cell 2 rfl rfl)) ?_ | refine valP_ok (ld3 (hS.cell 3 rfl rfl)) ?_ | refine valP_ok (ld3 (hS.cell 4 rfl rfl)) ?_ | refine valP_ok (ld3 (by assumption)) ?_
        refine newslice_ok (bs22_1 rfl _) hS ?_
        intro b60 w hS
        refine append_one 0 (by omega) hS rfl ?_
        intro A3 c3 w3 hS
        simp only [List.set_cons_zero] at hS
        unfold m8_24
        refine valP_ok (add_ok _ _ _ (by omega) (by omega) _) ?_
        exact hK _ _ _ hS
      · have e1 : leftL M gone (i + 1) = leftL M gone i := by
          show (if i < gone.length ∧ gone[i]! = true then leftL M gone i else leftL M gone i ++ [M[i]!]) = _
          rw [if_pos (ht.1 h)]
        rw [e1] at hK
        unfold m8_24
        refine valP_ok (add_ok _ _ _ (by omega) (by omega) _) ?_
        exact hK _ _ _ hS
    unfold m8_23
    refine builtin_ok (len36 _) ?_
    refine valP_ok (geq_ok _ _ _ _ _ _ _) ?_
    refine cond_split (fun h1 => ?_) (fun h1 => ?_)
    · first | refine pick_dt (by first | assumption | omega) ?_ | refine pick_df (by first | assumption | omega) ?_ | refine pick_t (by first | rfl | assumption) ?_ | refine pick_f (by first | rfl | assumption) ?_
      exact fin true _ _ ⟨fun h => (by cases h), fun h => (by omega)⟩ (fun w' A' c' hS => ⟨⟨i + 1, A', c', rfl, by omega, hS⟩, by simp [intOf]; omega⟩)
    · have hgl : i < gone.length := by omega
      have hro := hg.old0 hS
      obtain ⟨g3, o3, rfl⟩ := hro.some_ (by omega) (by omega)
      have hc1 := hro.cell_ (u := .bool gone[i]) (i := i) (by simp [hgl])
      first | refine valP_ok (ixz36 (by first | assumption | omega) _) ?_ | refine valP_ok (ix36 (by first | assumption | omega) _) ?_
      first | refine valP_ok (ld4 (hS.cell 0 rfl rfl)) ?_ | refine valP_ok (ld4 (hS.cell 1 rfl rfl)) ?_ | refine valP_ok (ld4 (hS.cell 2 rfl rfl)) ?_ | refine valP_ok (ld4 (hS.cell 3 rfl rfl)) ?_ | refine valP_ok (ld4 (hS.cell 4 rfl rfl)) ?_ | refine valP_ok (ld4 (by assumption)) ?_
      first | refine valP_ok (not_ok _ _) ?_ | refine valP_ok (notb_ok _ _) ?_
      first | refine pick_dt (by first | assumption | omega) ?_ | refine pick_df (by first | assumption | omega) ?_ | refine pick_t (by first | rfl | assumption) ?_ | refine pick_f (by first | rfl | assumption) ?_
      exact fin (!gone[i]) _ _ (by rw [getElem!_pos gone i hgl]; cases gone[i] <;> simp [hgl]) (fun w' A' c' hS => ⟨⟨i + 1, A', c', rfl, by omega, hS⟩, by simp [intOf]; omega⟩)
  have hie : i = M.length := by omega
  have hsub := leftL_sub M gone i hi
  rw [hie, List.take_length, ← hie] at hsub
  generalize leftL M gone i = left at *
  have hlb : ∀ x ∈ left, -9223372036854775808 ≤ x ∧ x ≤ 9223372036854775807 := fun x hx => hMb x (hsub.subset hx)
  have hll : left.length ≤ 1000 := by have := hsub.length_le; omega
  have hlr := hrise.sublist hsub
  have hself := membersL_self hlr (fun x hx => hM1 x (hsub.subset hx))
  unfold m8_7
  refine callR (by kernel_rfl) (sticky_ret hp hp' hS (Bes.of_row 0 rfl) (Bes.of_row 2 rfl) (by omega) hlb hab) ?_
  intro v w5 hv
  rw [if_neg hbad, hself] at hv
  obtain ⟨B2, d2, rfl, hS⟩ := hv
  have hlen2 := stickyL_len (old := a) hbad hlr hll hlb
  have hkeep : ∀ (j : Nat) (hj : j < a.length) (hj' : j < (stickyL parts left a).length), a[j] ∈ left → (stickyL parts left a)[j] = a[j] := fun j hj hj' hm => by
    have h1 : 0 < left.length := List.length_pos_of_mem hm
    have h2 := hsub.length_le
    have := shrink_keeps hbad hsub h1 hrise hMl hMb hM1 (hfair (by omega)) hj hm
    rwa [getElem!_pos _ j hj'] at this
  generalize stickyL parts left a = b at *
  refine valP_ok (extract_ok _ 0 rfl _) ?_
  refine valP_ok (extract_ok _ 1 rfl _) ?_
  unfold m8_8
  refine valP_ok (ne24 _ _ _ _ _) ?_
  refine cond_df (by decide) ?_
  refine builtin_ok (len22 _) ?_
  refine valP_ok (ne3 _ _ _ _ _) ?_
  refine pick_df (by decide) ?_
  refine cond_df (by omega) ?_
  refine builtin_ok (len22 _) ?_
  refine valP_ok (ne3 _ _ _ _ _) ?_
  refine pick_df (by omega) ?_
  unfold m8_19
  refine cond_df (by omega) ?_
  unfold m8_9
  unfold m8_12
  refine loop_in (fun s w' => ∃ p : Nat, s = .int .i64 p ∧ p ≤ parts.toNat ∧ St w [] w' (irow (.slice B2 b.length d2) b :: irow (.slice A2 left.length c2) left :: irow (.slice A1 M.length c1) M :: irow (.slice B1 a.length d1) a :: []))
    (fun s _ => parts.toNat - (intOf s).toNat) ⟨0, rfl, by omega, hS⟩ ?_
  clear hS
  rintro s w6 ⟨p, rfl, hpn, hS⟩
  unfold m8_13
  refine valP_ok (lss_ok _ _ _ _ _ _ _) ?_
  unfold m8_18
  refine cond_split (fun hh => ?_) (fun hh => ?_)
  · have hla : p < a.length := by omega
    have hlb2 : p < b.length := by omega
    obtain ⟨g, rfl⟩ := hS.row_ptr 3 rfl (by omega)
    obtain ⟨g2, rfl⟩ := hS.row_ptr 0 rfl (by omega)
    unfold m8_14
    refine drawn_ok hS ?_
    intro w hS
    have hc1 := hS.row_cell 3 rfl (ints_get hla)
    have hc2 := hS.row_cell 0 rfl (ints_get hlb2)
    first | refine pureP_ok (ixz22 (by first | assumption | omega)) ?_ | refine pureP_ok (ix22 (by first | assumption | omega)) ?_
    first | refine valP_ok (ld3 (hS.cell 0 rfl rfl)) ?_ | refine valP_ok (ld3 (hS.cell 1 rfl rfl)) ?_ | refine valP_ok (ld3 (hS.cell 2 rfl rfl)) ?_ | refine valP_ok (ld3 (hS.cell 3 rfl rfl)) ?_ | refine valP_ok (ld3 (hS.cell 4 rfl rfl)) ?_ | refine valP_ok (ld3 (by assumption)) ?_
    refine callR (by kernel_rfl) (count_ret A2 c2 left a[p] _ (hS.row_rd 1 rfl) (by omega)) ?_
    rintro v w ⟨rfl, rfl⟩
    have fin : ∀ (t : Bool) R (K : Value → World → Prop), t = false → (∀ w', w' = w → K (.int .i64 ((p + 1 : Nat) : Int)) w') →
        m8_16 R K (.int .i64 parts) (.slice (some ⟨g, 0, none⟩) a.length d1) (.slice A2 left.length c2) (.slice (some ⟨g2, 0, none⟩) b.length d2) (.int .i64 p) (.bool t) w := fun t R K ht hK => by
      unfold m8_16
      refine cond_f ht ?_
      unfold m8_15
      refine valP_ok (add_ok _ _ _ (by omega) (by omega) _) ?_
      exact hK _ rfl
    refine pureP_ok (gtr_ok _ _ _ _ _ _) ?_
    refine cond_split (fun h1 => ?_) (fun h1 => ?_)
    · have hm : a[p] ∈ left := List.count_pos_iff.1 (by unfold tm at h1; omega)
      have hk := hkeep p hla hlb2 hm
      first | refine pureP_ok (ixz22 (by first | assumption | omega)) ?_ | refine pureP_ok (ix22 (by first | assumption | omega)) ?_
      first | refine pureP_ok (ixz22 (by first | assumption | omega)) ?_ | refine pureP_ok (ix22 (by first | assumption | omega)) ?_
      refine ⟨?_, ?_⟩
      · first | refine valP_ok (ld3 (hS.cell 0 rfl rfl)) ?_ | refine valP_ok (ld3 (hS.cell 1 rfl rfl)) ?_ | refine valP_ok (ld3 (hS.cell 2 rfl rfl)) ?_ | refine valP_ok (ld3 (hS.cell 3 rfl rfl)) ?_ | refine valP_ok (ld3 (hS.cell 4 rfl rfl)) ?_ | refine valP_ok (ld3 (by assumption)) ?_
        first | refine valP_ok (ld3 (hS.cell 0 rfl rfl)) ?_ | refine valP_ok (ld3 (hS.cell 1 rfl rfl)) ?_ | refine valP_ok (ld3 (hS.cell 2 rfl rfl)) ?_ | refine valP_ok (ld3 (hS.cell 3 rfl rfl)) ?_ | refine valP_ok (ld3 (hS.cell 4 rfl rfl)) ?_ | refine valP_ok (ld3 (by assumption)) ?_
        refine pureP_ok (ne3 _ _ _ _) ?_
        first | refine pick_dt (by first | assumption | omega) ?_ | refine pick_df (by first | assumption | omega) ?_ | refine pick_t (by first | rfl | assumption) ?_ | refine pick_f (by first | rfl | assumption) ?_
        exact fin _ _ _ (decide_eq_false (fun h => h hk)) (fun w' hw => hw ▸ ⟨⟨p + 1, rfl, by omega, hS⟩, by simp [intOf]; omega⟩)
      · first | refine valP_ok (ld3 (hS.cell 0 rfl rfl)) ?_ | refine valP_ok (ld3 (hS.cell 1 rfl rfl)) ?_ | refine valP_ok (ld3 (hS.cell 2 rfl rfl)) ?_ | refine valP_ok (ld3 (hS.cell 3 rfl rfl)) ?_ | refine valP_ok (ld3 (hS.cell 4 rfl rfl)) ?_ | refine valP_ok (ld3 (by assumption)) ?_
        first | refine valP_ok (ld3 (hS.cell 0 rfl rfl)) ?_ | refine valP_ok (ld3 (hS.cell 1 rfl rfl)) ?_ | refine valP_ok (ld3 (hS.cell 2 rfl rfl)) ?_ | refine valP_ok (ld3 (hS.cell 3 rfl rfl)) ?_ | refine valP_ok (ld3 (hS.cell 4 rfl rfl)) ?_ | refine valP_ok (ld3 (by assumption)) ?_
        refine pureP_ok (ne3 _ _ _ _) ?_
        first | refine pick_dt (by first | assumption | omega) ?_ | refine pick_df (by first | assumption | omega) ?_ | refine pick_t (by first | rfl | assumption) ?_ | refine pick_f (by first | rfl | assumption) ?_
        exact fin _ _ _ (decide_eq_false (fun h => h hk)) (fun w' hw => hw ▸ ⟨⟨p + 1, rfl, by omega, hS⟩, by simp [intOf]; omega⟩)
    · refine ⟨?_, ?_⟩
      · first | refine pick_dt (by first | assumption | omega) ?_ | refine pick_df (by first | assumption | omega) ?_ | refine pick_t (by first | rfl | assumption) ?_ | refine pick_f (by first | rfl | assumption) ?_
        exact fin _ _ _ rfl (fun w' hw => hw ▸ ⟨⟨p + 1, rfl, by omega, hS⟩, by simp [intOf]; omega⟩)
      · first | refine pick_dt (by first | assumption | omega) ?_ | refine pick_df (by first | assumption | omega) ?_ | refine pick_t (by first | rfl | assumption) ?_ | refine pick_f (by first | rfl | assumption) ?_
        exact fin _ _ _ rfl (fun w' hw => hw ▸ ⟨⟨p + 1, rfl, by omega, hS⟩, by simp [intOf]; omega⟩)
  · unfold m8_10
    refine callR (by kernel_rfl) (awake_ret hS) ?_
    rintro v w7 ⟨rfl, hS⟩
    unfold m8_11
    exact ⟨rfl, hS.below⟩

end Go.Proofs.Ytlgafiekogajfaa.M
