/- When one more joins, no more has to be given up than its own share, once it rested: the walk. -/
import Derived.Test.YtjjmlopmemmobaaC23
namespace Go.Proofs.Ytjjmlopmemmobaa.M
open Go.Proofs.Ytjjmlopmemmobaa.F Go.RowKit
set_option linter.unusedVariables false
set_option linter.unusedSimpArgs false
set_option maxRecDepth 100000
set_option maxHeartbeats 2000000
attribute [local irreducible] Res.cells Res.row Res.map Res.any World.cell? World.frozen? Instr.fieldAt Instr.loadAt Instr.storeAt Instr.indexAt Instr.lookup Instr.mapUpdate Instr.box Instr.build Instr.buildSlice Instr.extract Instr.alloc Instr.field Instr.index Instr.sliceAt Instr.makeSlice Instr.makeMap Instr.makeFunc binS Op.unary Sem.run
open Go.Proofs.Ytjjmlopmemmobaa.L Go.Shelf
theorem giveL_full {H W : List Int} (h : W.length = H.length) (h0 : ∀ x ∈ H, x ≠ 0) : giveL H W = H := by
  apply List.ext_getElem (giveL_len h)
  intro i h1 h2
  rw [giveL_at i h1 h2 (by omega), if_neg (h0 _ (List.getElem_mem h2))]
theorem stays_key {s : CS} {k : Nat} {m : Int} (h : CInv s k) (hk : k ≤ 1000000) (hrest : s.H = s.W) (hj : (joinS s [m]).1 = 0) :
    CInv (joinS s [m]).2 (k + 1) ∧ m ∈ (joinS s [m]).2.M ∧ revL (joinS s [m]).2 m = [] ∧ tot (joinS s [m]).2.M (fun x => ((revL (joinS s [m]).2 x).length : Int)) ≤ tm (joinS s [m]).2.W m ∧
      (1 < (joinS s [m]).2.M.length ∨ tot (joinS s [m]).2.M (fun x => ((revL (joinS s [m]).2 x).length : Int)) = 0) := by
  have hinv := join_inv (l := [m]) h hk
  have hpre := h.pre
  unfold joinS at hj hinv ⊢
  rw [if_neg (by simp)] at hj hinv ⊢
  have hadd : addL s.M [m] = if m < 1 ∨ 1099511627776 < m then (1, s.M) else if m ∈ s.M then (9, s.M) else (0, s.M ++ [m]) := by
    rw [addL_cons]
    rfl
  by_cases c1 : m < 1 ∨ 1099511627776 < m
  · rw [hadd, if_pos c1] at hj; cases hj
  by_cases c2 : m ∈ s.M
  · rw [hadd, if_neg c1, if_pos c2] at hj; cases hj
  rw [if_neg c1, if_neg c2] at hadd
  have hjf : joinF s (addL s.M [m]) = if 8 < (s.M ++ [m]).length then (5, s) else (0, turned { s with M := sortL (s.M ++ [m]) }) := by rw [hadd]; rfl
  by_cases c3 : 8 < (s.M ++ [m]).length
  · rw [hjf, if_pos c3] at hj; cases hj
  rw [hjf, if_neg c3] at hinv ⊢
  simp only at hinv ⊢
  have hpre2 := add_pre (l := [m]) hpre (by rw [hadd]) (by rw [hadd]; exact c3)
  rw [hadd] at hpre2
  simp only at hpre2
  have hmm : ∀ x, x ∈ sortL (s.M ++ [m]) ↔ x ∈ s.M ∨ x = m := fun x => by rw [sortL_mem, List.mem_append, List.mem_singleton]
  have hlen : (sortL (s.M ++ [m])).length = s.M.length + 1 := by rw [sortL_len]; simp
  have hr' := hpre2.rise
  have hM' := hpre2.bM
  have h0' := hpre2.pos
  have hl8 := hpre2.len
  have hbad := hpre2.bad
  have hwl := hpre2.wlen
  simp only at hr' hM' h0' hl8 hbad hwl
  have hkk := keepH_len { s with M := sortL (s.M ++ [m]) }
  generalize hM2 : sortL (s.M ++ [m]) = M' at *
  have hsame := hpre.same
  have hpp := hpre.parts
  have hmM' : m ∈ M' := (hmm m).2 (.inr rfl)
  have hkk : (keepH { s with M := M' }).length = s.H.length := hkk
  have hwl : (turnW { s with M := M' }).length = s.H.length := hwl
  refine ⟨hinv, hmM', ?_⟩
  by_cases hM0 : s.M.length = 0
  · have hz := h.full.none hM0
    have hkz : ∀ x ∈ keepH { s with M := M' }, x = 0 := fun x hx => by
      obtain ⟨y, hy, rfl⟩ := List.mem_map.1 hx
      have := hz.1 y hy
      split <;> omega
    have hHW : giveL (keepH { s with M := M' }) (turnW { s with M := M' }) = turnW { s with M := M' } := by
      apply List.ext_getElem
      · rw [giveL_len (by omega)]; omega
      · intro i h1 h2
        rw [giveL_at i h1 (by omega) h2, if_pos (hkz _ (List.getElem_mem _))]
    have hrev : ∀ x, revL (turned { s with M := M' }) x = [] := fun x => by
      unfold revL
      split
      · refine List.eq_nil_iff_forall_not_mem.2 fun y hy => ?_
        have hH : (turned { s with M := M' }).H = (turned { s with M := M' }).W := hHW
        rw [hH] at hy
        obtain ⟨p, _, _, z1, z2⟩ := (revN_mem _ (Nat.le_refl _) (Nat.le_refl _) _).1 hy
        exact z2 z1
      · rfl
    have htz : tot M' (fun x => ((revL (turned { s with M := M' }) x).length : Int)) = 0 := by
      have : ∀ L : List Int, tot L (fun x => ((revL (turned { s with M := M' }) x).length : Int)) = 0 := fun L => by
        induction L with
        | nil => rfl
        | cons x L ih => rw [tot_cons, ih, hrev]; rfl
      exact this M'
    refine ⟨hrev m, ?_, .inr htz⟩
    show tot M' _ ≤ _
    rw [htz]
    unfold tm
    omega
  · have hf := h.full.some (by omega)
    have hpos : ∀ x ∈ s.H, x ≠ 0 := fun x hx => by have := hpre.each x (hf.1 x hx); omega
    have hkH : keepH { s with M := M' } = s.H := by
      unfold keepH
      simp only
      rw [List.map_congr_left (g := id) (fun x hx => by rw [if_pos ((hmm x).2 (.inl (hf.1 x hx)))]; rfl), List.map_id]
    have hW2 : turnW { s with M := M' } = stickyL s.H.length M' s.H := by
      unfold turnW
      rw [hkH, giveL_full hsame hpos]
    rw [hW2] at hwl
    have hH2 : (turned { s with M := M' }).H = s.H := by
      show giveL (keepH _) (turnW _) = _
      rw [hkH, hW2, giveL_full (by exact hwl) hpos]
    have hWW : (turned { s with M := M' }).W = stickyL s.H.length M' s.H := hW2
    have hfa : Fair s.H.length s.M s.H := by
      have := hf.2
      rw [← hrest] at this
      exact this
    have hnew := sticky_new hbad hpre.rise hr' (by omega) hM' h0' hmm c2 (by omega) hfa hlen
    rw [Int.toNat_natCast] at hnew
    have hrevx : ∀ x ∈ M', revL (turned { s with M := M' }) x = revN s.H (stickyL s.H.length M' s.H) x s.H.length := fun x hx => by
      have hxm : x ∈ (turned { s with M := M' }).M := hx
      unfold revL
      rw [if_pos hxm, hH2, hWW]
    refine ⟨?_, ?_, .inl (by show 1 < M'.length; omega)⟩
    · rw [hrevx m hmM']
      refine List.eq_nil_iff_forall_not_mem.2 fun y hy => ?_
      obtain ⟨p, hp, _, z1, z2⟩ := (revN_mem _ (Nat.le_refl _) (by omega) _).1 hy
      rw [getElem!_pos s.H p hp] at z1
      exact c2 (z1 ▸ hf.1 _ (List.getElem_mem hp))
    · show tot M' _ ≤ tm (turned { s with M := M' }).W m
      rw [tot_congr (g := fun x => ((revN s.H (stickyL s.H.length M' s.H) x s.H.length).length : Int)) (fun x hx => by rw [hrevx x hx]), hWW]
      have := give_sum (L := M') (m := m) hr' (Nat.le_refl s.H.length) (by omega) hnew s.H.length (Nat.le_refl _)
      rw [List.take_of_length_le (by omega)] at this
      exact this
theorem tot_take {M : List Int} {f : Int → Int} {i : Nat} (hi : i < M.length) : tot (M.take (i + 1)) f = tot (M.take i) f + f M[i] := by
  unfold tot
  rw [List.take_succ_eq_append_getElem hi, List.map_append, List.sum_append]
  simp
theorem cstays_ret {w0 : World} {A : Option Addr} {c : Nat} {l : List Dd} {parts m : Int} (hp : -9223372036854775808 ≤ parts) (hp' : parts ≤ 9223372036854775807) (hl : Rd w0 5 A l.length (l.flatMap encD)) (hc : l.length ≤ c) (hok : ∀ x ∈ l, DOk w0 x) :
    Ret Try.prog 4 #[.int .i64 parts, .slice A l.length c, .int .i64 m] w0 fun v w' => v = .bool true ∧ Below w0.heap.size w0 w' := by
  have hS := St.start w0
  have hn := ofN_le parts
  refine s4 _ _ _ ?_
  unfold m4 m4_0
  unfold m4_1
  refine callR (by kernel_rfl) (of_ret hp hp' hS) ?_
  rintro v w1 ⟨b, X, rfl, hS⟩
  unfold m4_2
  first | refine valP_ok (eq23n _ _ _) ?_ | refine valP_ok (eq23s _ _ _ _) ?_
  unfold m4_28
  refine cond_f rfl ?_
  unfold m4_3
  refine callR (by kernel_rfl) (dsome_ret hl hc hok hS) ?_
  rintro v w2 ⟨A1, c1, rfl, hS⟩
  obtain ⟨hll, hlx⟩ := cut_facts hok
  generalize (l.take 100).map cutD = ls at *
  unfold m4_4
  unfold m4_23
  refine loop_in (fun u w' => ∃ (i : Nat) (s : CS) (X : CA), u = .int .i64 i ∧ i ≤ ls.length ∧ CInv s i ∧ St w0 [] w' (coopL 94 b s X ++ [drow (.slice A1 ls.length c1) ls])) (fun u _ => ls.length - (intOf u).toNat) ⟨0, _, X, rfl, by omega, new_inv hn, hS.pick 5 [1, 2, 3, 4, 0] (by simp) (by decide)⟩ ?_
  clear hS
  rintro u w3 ⟨i, s, X, rfl, hi, hinv, hS⟩
  unfold m4_24
  refine builtin_ok (len22 _) ?_
  refine valP_ok (lss_ok _ _ _ _ _ _ _) ?_
  unfold m4_27
  refine cond_split (fun h => ?_) (fun h => ?_)
  · have hlt : i < ls.length := by omega
    obtain ⟨g, rfl⟩ := hS.row_ptr 4 rfl (by omega)
    have h0 := hS.row_struct 4 encD_len rfl hlt (j := 0) (by omega) rfl
    have h1 := hS.row_struct 4 encD_len rfl hlt (j := 1) (by omega) rfl
    have h2 := hS.row_struct 4 encD_len rfl hlt (j := 2) (by omega) rfl
    have h3 := hS.row_struct 4 encD_len rfl hlt (j := 3) (by omega) rfl
    have h4 := hS.row_struct 4 encD_len rfl hlt (j := 4) (by omega) rfl
    obtain ⟨hx, hx12⟩ := hlx _ (List.getElem_mem hlt)
    generalize ls[i] = x at *
    unfold m4_25
    first | refine valP_ok (ixz22 (by first | assumption | omega) _) ?_ | refine valP_ok (ix22 (by first | assumption | omega) _) ?_
    first | refine ls30 0 hS rfl ?_ | refine ls30 1 hS rfl ?_ | refine ls30 2 hS rfl ?_ | refine ls30 3 hS rfl ?_ | refine ls30 4 hS rfl ?_ | refine valP_ok (ld30 (by assumption) (by assumption) (by assumption) (by assumption) (by assumption)) ?_
    refine callR (by kernel_rfl) (aimed_ret hinv.pre hx hS) ?_
    rintro v w ⟨rfl, hS⟩
    obtain ⟨ha1, ha2⟩ := aimD_ok hinv.pre hx
    refine callR (by kernel_rfl) (does_ret hinv.pre ha1 (by rw [ha2]; omega) hS) ?_
    rintro v w ⟨rfl, X2, hS⟩
    unfold m4_26
    refine valP_ok (add_ok _ _ _ (by omega) (by omega) _) ?_
    exact ⟨⟨i + 1, _, X2, rfl, by omega, deed_inv (x := aimD s x) hinv (by omega), hS⟩, by simp [intOf]; omega⟩
  have hpre := hinv.pre
  have hM8 := hpre.len
  have hpp := hpre.parts
  have hsame := hpre.same
  have hS : St w0 [] w3 (coopL 94 b s X ++ []) := hS.pick 5 [0, 1, 2, 3] (by simp) (by decide)
  have awk : ∀ t w (L : List Res), t = .bool true → St w0 [] w L → m4_21 (fun v w' => v = .bool true ∧ Below w0.heap.size w0 w') (.int .i64 m) (.pointer (some ⟨b, 0, none⟩)) t w := fun t w L ht hS => by
    subst ht
    unfold m4_21
    refine cond_t rfl ?_
    refine callR (by kernel_rfl) (cawake_ret hS) ?_
    rintro v w4 ⟨rfl, hS⟩
    unfold m4_22
    exact ⟨rfl, hS.below⟩
  unfold m4_5
  refine callR (by kernel_rfl) (rests_ret (by omega) hS) ?_
  rintro v w ⟨rfl, hS⟩
  refine valP_ok (not_ok _ _) ?_
  refine cond_split (fun hr => ?_) (fun hr => ?_)
  · first | refine pick_dt (by first | assumption | omega) ?_ | refine pick_df (by first | assumption | omega) ?_ | refine pick_t (by first | rfl | assumption) ?_ | refine pick_f (by first | rfl | assumption) ?_ | refine pick_dt rfl ?_ | refine pick_df (not_not_intro rfl) ?_
    exact awk _ _ _ rfl hS
  have hrest := Decidable.not_not.1 hr
  refine newslice_ok (bs28_1 rfl _) hS ?_
  intro b41 w hS
  have hS := hS.pick 5 [1, 2, 3, 4, 0] (by simp) (by decide)
  refine callR (by kernel_rfl) (join_ret (s := s) (X := X) (l := [m]) (L := [Res.cells b41 3 [.int .i64 m]]) hpre (by simp) hS (Bes.of_cells 4 rfl rfl)) ?_
  rintro v w ⟨rfl, X2, hS⟩
  refine valP_ok (ne26 _ _ _ _ _) ?_
  by_cases hj : (joinS s [m]).1 = 0
  case neg =>
    refine pick_df (by simpa using hrest) ?_
    rw [decide_eq_true hj]
    exact awk _ _ _ rfl hS
  refine pick_df (by simpa using hrest) ?_
  unfold m4_21
  refine cond_df (not_not_intro hj) ?_
  obtain ⟨hinv2, hmM, hrm, hle, hone⟩ := stays_key hinv (by omega) hrest hj
  generalize (joinS s [m]).2 = s2 at *
  have hS : St w0 [] w (coopL 94 b s2 X2 ++ []) := hS.pick 5 [0, 1, 2, 3] (by simp) (by decide)
  have hpre2 := hinv2.pre
  have hM82 := hpre2.len
  have hpp2 := hpre2.parts
  have hsame2 := hpre2.same
  have hrl := fun x => revL_len s2 x
  unfold m4_6
  refine callR (by kernel_rfl) (members_clone (by omega) hS) ?_
  rintro v w ⟨A2, c2, rfl, hS⟩
  have hS : St w0 [] w (coopL 94 b s2 X2 ++ [irow (.slice A2 s2.M.length c2) s2.M]) := hS.pick 5 [1, 2, 3, 4, 0] (by simp) (by decide)
  unfold m4_7
  unfold m4_8
  unfold m4_12
  refine loop_in (fun u w' => ∃ (q : Nat), u = (.int .i64 (tot (s2.M.take q) (fun x => ((revL s2 x).length : Int))), .int .i64 q) ∧ q ≤ s2.M.length ∧ 0 ≤ tot (s2.M.take q) (fun x => ((revL s2 x).length : Int)) ∧ tot (s2.M.take q) (fun x => ((revL s2 x).length : Int)) ≤ 16 * q ∧ St w0 [] w' (coopL 94 b s2 X2 ++ [irow (.slice A2 s2.M.length c2) s2.M])) (fun u _ => s2.M.length - (intOf u.2).toNat)
    ⟨0, rfl, by omega, by simp [tot], by simp [tot], hS⟩ ?_
  clear hS
  rintro u w6 ⟨q, rfl, hq, ht0, ht1, hS⟩
  unfold m4_13
  refine builtin_ok (len28 _) ?_
  refine valP_ok (lss_ok _ _ _ _ _ _ _) ?_
  unfold m4_20
  refine cond_split (fun h3 => ?_) (fun h3 => ?_)
  · have hql : q < s2.M.length := by omega
    have hst := tot_take (f := fun x => ((revL s2 x).length : Int)) hql
    have hrq := hrl s2.M[q]
    obtain ⟨g, rfl⟩ := hS.row_ptr 4 rfl (by omega)
    have hcm := hS.row_cell 4 rfl (ints_get hql)
    have hmm2 : s2.M[q] ∈ s2.M := List.getElem_mem hql
    unfold m4_14
    first | refine valP_ok (ixz28 (by first | assumption | omega) _) ?_ | refine valP_ok (ix28 (by first | assumption | omega) _) ?_
    first | refine valP_ok (ld3 (hS.cell 0 rfl rfl)) ?_ | refine valP_ok (ld3 (hS.cell 1 rfl rfl)) ?_ | refine valP_ok (ld3 (hS.cell 2 rfl rfl)) ?_ | refine valP_ok (ld3 (hS.cell 3 rfl rfl)) ?_ | refine valP_ok (ld3 (hS.cell 4 rfl rfl)) ?_ | refine valP_ok (ld3 (by assumption)) ?_
    refine callR (by kernel_rfl) (revoke_ret _ hpre2 hS) ?_
    rintro v w ⟨A3, c3, rfl, hS⟩
    rw [if_pos hmm2]
    have hcm := hS.row_cell 5 rfl (ints_get hql)
    have fin : ∀ (t : Bool) R (K1 : Value × Value → World → Prop), t = false → (∀ w', St w0 [] w' (coopL 94 b s2 X2 ++ [irow (.slice (some ⟨g, 0, none⟩) s2.M.length c2) s2.M]) → K1 (.int .i64 (tot (s2.M.take (q + 1)) (fun x => ((revL s2 x).length : Int))), .int .i64 ((q + 1 : Nat) : Int)) w') →
        m4_18 R K1 (.int .i64 m) (.pointer (some ⟨b, 0, none⟩)) (.slice (some ⟨g, 0, none⟩) s2.M.length c2) (.int .i64 (tot (s2.M.take q) (fun x => ((revL s2 x).length : Int)))) (.int .i64 q) (.slice A3 (revL s2 s2.M[q]).length c3) (.bool t) w := fun t R K1 ht hK => by
      unfold m4_18
      refine cond_f ht ?_
      unfold m4_17
      refine builtin_ok (len28 _) ?_
      refine valP_ok (add_ok _ _ _ (by omega) (by omega) _) ?_
      rw [← hst]
      unfold m4_15
      refine valP_ok (add_ok _ _ _ (by omega) (by omega) _) ?_
      exact hK _ hS.tail
    refine valP_ok (extract_ok _ 0 rfl _) ?_
    refine valP_ok (extract_ok _ 1 rfl _) ?_
    unfold m4_16
    refine valP_ok (ne26 _ _ _ _ _) ?_
    refine cond_df (not_not_intro rfl) ?_
    first | refine valP_ok (ixz28 (by first | assumption | omega) _) ?_ | refine valP_ok (ix28 (by first | assumption | omega) _) ?_
    first | refine valP_ok (ld3 (hS.cell 0 rfl rfl)) ?_ | refine valP_ok (ld3 (hS.cell 1 rfl rfl)) ?_ | refine valP_ok (ld3 (hS.cell 2 rfl rfl)) ?_ | refine valP_ok (ld3 (hS.cell 3 rfl rfl)) ?_ | refine valP_ok (ld3 (hS.cell 4 rfl rfl)) ?_ | refine valP_ok (ld3 (by assumption)) ?_
    refine valP_ok (eq3 _ _ _ _ _) ?_
    refine cond_split (fun h4 => ?_) (fun h4 => ?_)
    · refine builtin_ok (len28 _) ?_
      refine valP_ok (gtr_ok _ _ _ _ _ _ _) ?_
      first | refine pick_dt (by first | assumption | omega) ?_ | refine pick_df (by first | assumption | omega) ?_ | refine pick_t (by first | rfl | assumption) ?_ | refine pick_f (by first | rfl | assumption) ?_ | refine pick_dt rfl ?_ | refine pick_df (not_not_intro rfl) ?_
      first | refine pick_dt (by first | assumption | omega) ?_ | refine pick_df (by first | assumption | omega) ?_ | refine pick_t (by first | rfl | assumption) ?_ | refine pick_f (by first | rfl | assumption) ?_ | refine pick_dt rfl ?_ | refine pick_df (not_not_intro rfl) ?_
      refine fin _ _ _ ?_ (fun w' hS => ⟨⟨q + 1, rfl, by omega, by omega, by omega, hS⟩, by simp [intOf]; omega⟩)
      rw [h4, hrm]
      rfl
    · first | refine pick_dt (by first | assumption | omega) ?_ | refine pick_df (by first | assumption | omega) ?_ | refine pick_t (by first | rfl | assumption) ?_ | refine pick_f (by first | rfl | assumption) ?_ | refine pick_dt rfl ?_ | refine pick_df (not_not_intro rfl) ?_
      first | refine pick_dt (by first | assumption | omega) ?_ | refine pick_df (by first | assumption | omega) ?_ | refine pick_t (by first | rfl | assumption) ?_ | refine pick_f (by first | rfl | assumption) ?_ | refine pick_dt rfl ?_ | refine pick_df (not_not_intro rfl) ?_
      exact fin _ _ _ rfl (fun w' hS => ⟨⟨q + 1, rfl, by omega, by omega, by omega, hS⟩, by simp [intOf]; omega⟩)
  have hqe : q = s2.M.length := by omega
  rw [hqe, List.take_length]
  unfold m4_9
  refine callR (by kernel_rfl) (want_clone (by omega) hS) ?_
  rintro v w ⟨A5, c5, rfl, hS⟩
  refine callR (by kernel_rfl) (count_ret A5 c5 s2.W m _ (hS.row_rd 0 rfl) (by omega)) ?_
  rintro v w ⟨rfl, rfl⟩
  unfold m4_10
  refine valP_ok (leq_ok _ _ _ _ _ _ _) ?_
  refine cond_dt hle ?_
  refine builtin_ok (len28 _) ?_
  refine valP_ok (gtr_ok _ _ _ _ _ _ _) ?_
  have aw : ∀ R, (∀ w', St w0 [] w' (irow (.slice A5 s2.W.length c5) s2.W :: (coopL 94 b s2 X2 ++ [irow (.slice A2 s2.M.length c2) s2.M])) → R (.bool true) w') → callP Try.prog (fnV 22) #[] w fun t99 w => pickP (.bool true) t99 (.bool false) fun t100 => m4_11 R t100 w := fun R hR => by
    refine callR (by kernel_rfl) (cawake_ret hS) ?_
    rintro v w4 ⟨rfl, hS⟩
    refine pick_t rfl ?_
    unfold m4_11
    exact hR _ hS
  refine cond_split (fun h4 => ?_) (fun h4 => ?_)
  · first | refine pick_dt (by first | assumption | omega) ?_ | refine pick_df (by first | assumption | omega) ?_ | refine pick_t (by first | rfl | assumption) ?_ | refine pick_f (by first | rfl | assumption) ?_ | refine pick_dt rfl ?_ | refine pick_df (not_not_intro rfl) ?_
    first | refine pick_dt (by first | assumption | omega) ?_ | refine pick_df (by first | assumption | omega) ?_ | refine pick_t (by first | rfl | assumption) ?_ | refine pick_f (by first | rfl | assumption) ?_ | refine pick_dt rfl ?_ | refine pick_df (not_not_intro rfl) ?_
    refine cond_t rfl ?_
    exact aw _ (fun w' hS => ⟨rfl, hS.below⟩)
  · have hz : tot s2.M (fun x => ((revL s2 x).length : Int)) = 0 := hone.resolve_left (by omega)
    refine valP_ok (eq3 _ _ _ _ _) ?_
    first | refine pick_dt (by first | assumption | omega) ?_ | refine pick_df (by first | assumption | omega) ?_ | refine pick_t (by first | rfl | assumption) ?_ | refine pick_f (by first | rfl | assumption) ?_ | refine pick_dt rfl ?_ | refine pick_df (not_not_intro rfl) ?_
    first | refine pick_dt (by first | assumption | omega) ?_ | refine pick_df (by first | assumption | omega) ?_ | refine pick_t (by first | rfl | assumption) ?_ | refine pick_f (by first | rfl | assumption) ?_ | refine pick_dt rfl ?_ | refine pick_df (not_not_intro rfl) ?_
    rw [decide_eq_true hz]
    refine cond_t rfl ?_
    exact aw _ (fun w' hS => ⟨rfl, hS.below⟩)

end Go.Proofs.Ytjjmlopmemmobaa.M
