/- The document's own Range; any partitions go to any members side by side. -/
import Derived.Test.YtlgafiekogajfaaA6
namespace Go.Proofs.Ytlgafiekogajfaa.M
open Go.Proofs.Ytlgafiekogajfaa.F Go.RowKit
set_option linter.unusedVariables false
set_option linter.unusedSimpArgs false
set_option maxRecDepth 100000
set_option maxHeartbeats 2000000
attribute [local irreducible] Res.cells Res.row Res.map Res.any World.cell? World.frozen? Instr.fieldAt Instr.loadAt Instr.storeAt Instr.indexAt Instr.lookup Instr.mapUpdate Instr.box Instr.build Instr.buildSlice Instr.extract Instr.alloc Instr.field Instr.index Instr.sliceAt Instr.makeSlice Instr.makeMap Instr.makeFunc binS Op.unary Sem.run
open Go.Proofs.Ytlgafiekogajfaa.L Go.Shelf
theorem rzeros_ret {w0 w : World} {F : List Nat} {L : List Res} {R : Value → World → Prop} {A : Option Addr} {c : Nat} {l : List Int} {parts : Int} (hp : 0 ≤ parts ∧ parts ≤ 64) (hl : l.length ≤ 100000) (hS : St w0 F w (irow (.slice A l.length c) l :: L))
    (hR : ∀ A' c' w', St w0 F w' (irow (.slice A' (l ++ List.replicate (parts.toNat - l.length) 0).length c') (l ++ List.replicate (parts.toNat - l.length) 0) :: L) → R (.tuple #[.slice A' (l ++ List.replicate (parts.toNat - l.length) 0).length c', .int .i64 0]) w') :
    m12_5 R (.int .i64 parts) (.slice A l.length c) w := by
  unfold m12_5
  refine loop_in (fun s w' => ∃ q : Nat, ∃ A' c', s = .slice A' (l ++ List.replicate q 0).length c' ∧ q ≤ parts.toNat - l.length ∧ St w0 F w' (irow (.slice A' (l ++ List.replicate q 0).length c') (l ++ List.replicate q 0) :: L))
    (fun s _ => match s with | .slice _ n _ => parts.toNat - n | _ => 0) ⟨0, A, c, by simp, by omega, by simpa using hS⟩ ?_
  clear hS
  rintro s w ⟨q, A, c, rfl, hq, hS⟩
  have e : (l ++ List.replicate q 0).length = l.length + q := by simp
  unfold m12_8
  refine builtin_ok (len22 _) ?_
  refine valP_ok (lss_ok _ _ _ _ _ _ _) ?_
  unfold m12_10
  refine cond_split (fun h => ?_) (fun h => ?_)
  · unfold m12_9
    refine newslice_ok (bs22_1 rfl _) hS ?_
    intro b54 w hS
    have e2 : l ++ List.replicate q 0 ++ [0] = l ++ List.replicate (q + 1) 0 := by rw [List.append_assoc, List.replicate_succ']
    refine append_one 0 (by omega) hS rfl ?_
    intro A' c' w hS
    simp only [List.set_cons_zero] at hS
    rw [e2] at hS ⊢
    refine ⟨⟨q + 1, A', c', rfl, by omega, hS⟩, ?_⟩
    simp
    omega
  · have : q = parts.toNat - l.length := by omega
    subst this
    unfold m12_6 m12_7
    exact hR _ _ _ hS
theorem rrange_ret {w0 w : World} {F : List Nat} {L : List Res} {A : Option Addr} {c : Nat} {zs : List Int} {parts : Int} (hS : St w0 F w L) (hI : Bes w0 F L 1 A zs.length (ints zs)) (hz : zs.length ≤ 1000) :
    Ret Try.prog 12 #[.int .i64 parts, .slice A zs.length c] w fun v w' => if badParts parts then v = .tuple #[.slice none 0 0, .int .i64 1] ∧ St w0 F w' L
      else ∃ A' c', v = .tuple #[.slice A' (rangeL parts (membersL zs)).length c', .int .i64 0] ∧ St w0 F w' (irow (.slice A' (rangeL parts (membersL zs)).length c') (rangeL parts (membersL zs)) :: L) := by
  refine s12 _ _ ?_
  unfold m12
  unfold m12_0
  unfold m12_1
  refine valP_ok (lss_ok _ _ _ _ _ _ _) ?_
  have hbad : ∀ w, St w0 F w L → badParts parts → ∀ R, (R (.tuple #[.slice none 0 0, .int .i64 1]) w) → m12_24 R (.int .i64 parts) (.slice A zs.length c) (.bool true) w := fun w hS hb R hR => by
    unfold m12_24
    refine cond_t rfl ?_
    unfold m12_25
    exact hR
  by_cases h1 : parts < 1
  · refine cond_dt h1 ?_
    first | refine pick_dt (by first | assumption | omega) ?_ | refine pick_df (by first | assumption | omega) ?_ | refine pick_t (by first | rfl | assumption) ?_ | refine pick_f (by first | rfl | assumption) ?_
    refine hbad _ hS (.inl h1) _ ?_
    show ite _ _ _
    rw [if_pos (.inl h1)]
    exact ⟨rfl, hS⟩
  refine cond_df h1 ?_
  refine valP_ok (gtr_ok _ _ _ _ _ _ _) ?_
  first | refine pick_dt (by first | assumption | omega) ?_ | refine pick_df (by first | assumption | omega) ?_ | refine pick_t (by first | rfl | assumption) ?_ | refine pick_f (by first | rfl | assumption) ?_
  by_cases h2 : 64 < parts
  · rw [decide_eq_true h2]
    refine hbad _ hS (.inr h2) _ ?_
    show ite _ _ _
    rw [if_pos (.inr h2)]
    exact ⟨rfl, hS⟩
  have hnb : ¬ badParts parts := by unfold badParts; omega
  unfold m12_24
  refine cond_df h2 ?_
  unfold m12_2
  refine callR (by kernel_rfl) (members_ret hz hS hI) ?_
  rintro v w ⟨A1, c1, rfl, hS⟩
  have hMl : (membersL zs).length ≤ 1000 := by have := membersL_len zs; omega
  have hnum := share_nums (M := membersL zs) hnb
  generalize membersL zs = M at *
  have hS := hS.row_nil 3 1
  unfold m12_3
  unfold m12_4
  unfold m12_11
  refine loop_in (fun s w' => ∃ i : Nat, ∃ A' c', s = (.slice A' (rngL M (baseI parts M) (bigI parts M) i).length c', .int .i64 i) ∧ i ≤ M.length ∧ St w0 F w' (irow (.slice A' (rngL M (baseI parts M) (bigI parts M) i).length c') (rngL M (baseI parts M) (bigI parts M) i) :: irow (.slice A1 M.length c1) M :: L))
    (fun s _ => M.length - (intOf s.2).toNat) ⟨0, none, 0, rfl, by omega, hS⟩ ?_
  clear hS
  rintro s w ⟨i, A2, c2, rfl, hi, hS⟩
  have hlen := rngL_len (M := M) (big := bigI parts M) hnum.2.1 i
  unfold m12_12
  refine builtin_ok (len22 _) ?_
  refine valP_ok (lss_ok _ _ _ _ _ _ _) ?_
  unfold m12_23
  refine cond_split (fun h => ?_) (fun h => ?_)
  · have hlt : i < M.length := by omega
    have eb : baseI parts M = parts / M.length := by unfold baseI; rw [if_neg (by omega)]
    have eg : bigI parts M = parts % M.length := by unfold bigI; rw [if_neg (by omega)]
    obtain ⟨B, hB⟩ : ∃ B, B = baseI parts M := ⟨_, rfl⟩
    obtain ⟨G, hG⟩ : ∃ G, G = bigI parts M := ⟨_, rfl⟩
    rw [← hB, ← hG] at hS hnum hlen ⊢
    obtain ⟨g, rfl⟩ := hS.row_ptr 1 rfl (by omega)
    have fin : ∀ n : Int, n = B + (if (i : Int) < G then 1 else 0) → ∀ w R K, St w0 F w (irow (.slice A2 (rngL M B G i).length c2) (rngL M B G i) :: irow (.slice (some ⟨g, 0, none⟩) M.length c1) M :: L) →
        (∀ A' c' w', St w0 F w' (irow (.slice A' (rngL M B G (i + 1)).length c') (rngL M B G (i + 1)) :: irow (.slice (some ⟨g, 0, none⟩) M.length c1) M :: L) → K (.slice A' (rngL M B G (i + 1)).length c', .int .i64 ((i + 1 : Nat) : Int)) w') →
        m12_16 R K (.int .i64 parts) (.slice (some ⟨g, 0, none⟩) M.length c1) (.slice A2 (rngL M B G i).length c2) (.int .i64 i) (.int .i64 n) w := fun n hn w R K hS hK => by
      unfold m12_16
      unfold m12_17
      have hn0 : 0 ≤ n ∧ n ≤ 65 := by rw [hn]; split <;> omega
      refine loop_in (fun s w' => ∃ q : Nat, ∃ A' c', s = (.slice A' (rngL M B G i ++ List.replicate q M[i]).length c', .int .i64 q) ∧ q ≤ n.toNat ∧ St w0 F w' (irow (.slice A' (rngL M B G i ++ List.replicate q M[i]).length c') (rngL M B G i ++ List.replicate q M[i]) :: irow (.slice (some ⟨g, 0, none⟩) M.length c1) M :: L))
        (fun s _ => n.toNat - (intOf s.2).toNat) ⟨0, A2, c2, by simp, by omega, by simpa using hS⟩ ?_
      rintro s w ⟨q, A3, c3, rfl, hq, hS⟩
      have eq1 : (rngL M B G i ++ List.replicate q M[i]).length = (rngL M B G i).length + q := by simp
      unfold m12_18
      refine valP_ok (lss_ok _ _ _ _ _ _ _) ?_
      unfold m12_21
      refine cond_split (fun h => ?_) (fun h => ?_)
      · have hc := hS.row_cell 1 rfl (ints_get hlt)
        unfold m12_19
        refine valP_ok (ixz22 hlt _) ?_
        first | refine valP_ok (ld3 (hS.cell 0 rfl rfl)) ?_ | refine valP_ok (ld3 (hS.cell 1 rfl rfl)) ?_ | refine valP_ok (ld3 (hS.cell 2 rfl rfl)) ?_ | refine valP_ok (ld3 (hS.cell 3 rfl rfl)) ?_ | refine valP_ok (ld3 (hS.cell 4 rfl rfl)) ?_ | refine valP_ok (ld3 (by assumption)) ?_
        refine newslice_ok (bs22_1 rfl _) hS ?_
        intro b47 w hS
        refine append_one 0 (by omega) hS rfl ?_
        intro A' c' w hS
        simp only [List.set_cons_zero] at hS
        have e2 : rngL M B G i ++ List.replicate q M[i] ++ [M[i]] = rngL M B G i ++ List.replicate (q + 1) M[i] := by rw [List.append_assoc, List.replicate_succ']
        rw [e2] at hS ⊢
        unfold m12_20
        refine valP_ok (add_ok _ _ _ (by omega) (by omega) _) ?_
        exact ⟨⟨q + 1, A', c', rfl, by omega, hS⟩, by simp [intOf]; omega⟩
      · have hqn : q = n.toNat := by omega
        subst hqn
        have e3 : rngL M B G i ++ List.replicate n.toNat M[i] = rngL M B G (i + 1) := by
          show _ = rngL M B G i ++ List.replicate (B + if (i : Int) < G then 1 else 0).toNat M[i]!
          rw [← hn, getElem!_pos M i hlt]
        rw [e3] at hS ⊢
        unfold m12_14
        refine valP_ok (add_ok _ _ _ (by omega) (by omega) _) ?_
        exact hK _ _ _ hS
    unfold m12_13
    refine builtin_ok (len22 _) ?_
    refine valP_ok (quo_ok _ _ _ (by omega) (by omega) (by omega) _) ?_
    unfold m12_15
    refine builtin_ok (len22 _) ?_
    refine valP_ok (rem_ok _ _ _ (by omega) (by omega) (by omega) _) ?_
    refine valP_ok (lss_ok _ _ _ _ _ _ _) ?_
    rw [← eb, ← eg, ← hB, ← hG]
    unfold m12_22
    refine cond_split (fun hg => ?_) (fun hg => ?_)
    · refine valP_ok (add_ok _ _ _ (by omega) (by omega) _) ?_
      exact fin _ (by rw [if_pos hg]) _ _ _ hS (fun A' c' w' hS => ⟨⟨i + 1, A', c', rfl, by omega, hS⟩, by simp [intOf]; omega⟩)
    · exact fin _ (by rw [if_neg hg]; omega) _ _ _ hS (fun A' c' w' hS => ⟨⟨i + 1, A', c', rfl, by omega, hS⟩, by simp [intOf]; omega⟩)
  · have : i = M.length := by omega
    subst this
    have hS := St_sub hS (.cons_cons _ (.cons _ (.refl L)))
    refine rzeros_ret (by omega) (by omega) hS ?_
    intro A' c' w' hS
    show ite _ _ _
    rw [if_neg hnb]
    exact ⟨A', c', rfl, hS⟩
theorem rangeL_len {parts : Int} {M : List Int} (h : ¬ badParts parts) (hM : M.length ≤ 1000) : (rangeL parts M).length ≤ 1000000 := by
  have hnum := share_nums (M := M) h
  have := rngL_len (M := M) (big := bigI parts M) hnum.2.1 M.length
  unfold badParts at h
  unfold rangeL
  rw [List.length_append, List.length_replicate]
  omega
theorem ranges_ret {w : World} {A : Option Addr} {c : Nat} {l : List Int} {parts : Int} (hp : -9223372036854775808 ≤ parts) (hp' : parts ≤ 9223372036854775807) (hc : l.length ≤ c) (hr : Rd w 1 A l.length (ints l)) (hb : ∀ x ∈ l, -9223372036854775808 ≤ x ∧ x ≤ 9223372036854775807) :
    Ret Try.prog 3 #[.int .i64 parts, .slice A l.length c] w fun v w' => v = .bool true ∧ Below w.heap.size w w' := by
  refine s3 _ _ ?_
  unfold m3 m3_0
  unfold m3_1
  refine callR (by kernel_rfl) (some_ret A c l w hc) ?_
  rintro v w ⟨rfl, rfl⟩
  have hS := St.start w
  have hr := Rd.take_ints hr 70
  have hb : ∀ x ∈ l.take 70, -9223372036854775808 ≤ x ∧ x ≤ 9223372036854775807 := fun x hx => hb x (List.mem_of_mem_take hx)
  have hl : (l.take 70).length ≤ 70 := by rw [List.length_take]; omega
  generalize l.take 70 = l at hr hl hb ⊢
  have hMl : (membersL l).length ≤ 1000 := by have := membersL_len l; omega
  unfold m3_2
  refine callR (by kernel_rfl) (range_ret hp hp' hS (Bes.of_old0 hr) (by omega) hb) ?_
  intro v w1 hv
  by_cases hbad : badParts parts
  · rw [if_pos hbad] at hv
    obtain ⟨rfl, hS⟩ := hv
    refine valP_ok (extract_ok _ 0 rfl _) ?_
    refine valP_ok (extract_ok _ 1 rfl _) ?_
    unfold m3_3
    refine callR (by kernel_rfl) (rrange_ret hS (Bes.of_old0 hr) (by omega)) ?_
    intro v w2 hv
    rw [if_pos hbad] at hv
    obtain ⟨rfl, hS⟩ := hv
    refine valP_ok (extract_ok _ 0 rfl _) ?_
    refine valP_ok (extract_ok _ 1 rfl _) ?_
    unfold m3_4
    refine callR (by kernel_rfl) (same_ret (a := []) (b := []) (by simp) hS (Bes.of_old0 (Rd.nil_ _ _ _)) (Bes.of_old0 (Rd.nil_ _ _ _))) ?_
    rintro v w3 ⟨rfl, hS⟩
    refine cond_dt rfl ?_
    refine valP_ok (eq3 _ _ _ _ _) ?_
    refine pick_dt rfl ?_
    refine cond_dt rfl ?_
    refine callR (by kernel_rfl) (awake_ret hS) ?_
    rintro v w4 ⟨rfl, hS⟩
    refine pick_dt rfl ?_
    unfold m3_5
    exact ⟨rfl, hS.below⟩
  · have hlen := rangeL_len hbad hMl
    rw [if_neg hbad] at hv
    obtain ⟨A1, c1, rfl, hS⟩ := hv
    refine valP_ok (extract_ok _ 0 rfl _) ?_
    refine valP_ok (extract_ok _ 1 rfl _) ?_
    unfold m3_3
    refine callR (by kernel_rfl) (rrange_ret hS (Bes.of_old0 hr) (by omega)) ?_
    intro v w2 hv
    rw [if_neg hbad] at hv
    obtain ⟨A2, c2, rfl, hS⟩ := hv
    refine valP_ok (extract_ok _ 0 rfl _) ?_
    refine valP_ok (extract_ok _ 1 rfl _) ?_
    unfold m3_4
    refine callR (by kernel_rfl) (same_ret (a := rangeL parts (membersL l)) (b := rangeL parts (membersL l)) (by omega) hS (Bes.of_row 1 rfl) (Bes.of_row 0 rfl)) ?_
    rintro v w3 ⟨rfl, hS⟩
    refine cond_dt rfl ?_
    refine valP_ok (eq3 _ _ _ _ _) ?_
    refine pick_dt rfl ?_
    refine cond_dt rfl ?_
    refine callR (by kernel_rfl) (awake_ret hS) ?_
    rintro v w4 ⟨rfl, hS⟩
    refine pick_dt rfl ?_
    unfold m3_5
    exact ⟨rfl, hS.below⟩

end Go.Proofs.Ytlgafiekogajfaa.M
