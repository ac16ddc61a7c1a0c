/- Side by side. -/
import Derived.Test.YtjjmlopmemmobaaAA
import Derived.Test.YtjjmlopmemmobaaMrng0
namespace Go.Proofs.Ytjjmlopmemmobaa.M
open Go.Proofs.Ytjjmlopmemmobaa.F Go.RowKit
set_option linter.unusedVariables false
set_option linter.unusedSimpArgs false
set_option maxRecDepth 100000
set_option maxHeartbeats 2000000
attribute [local irreducible] Res.cells Res.row Res.map Res.any World.cell? World.frozen? Instr.fieldAt Instr.loadAt Instr.storeAt Instr.indexAt Instr.lookup Instr.mapUpdate Instr.box Instr.build Instr.buildSlice Instr.extract Instr.alloc Instr.field Instr.index Instr.sliceAt Instr.makeSlice Instr.makeMap Instr.makeFunc binS Op.unary Sem.run
open Go.Proofs.Ytjjmlopmemmobaa.L Go.Shelf
/-- The first i members' partitions, side by side. -/
def rngL (M : List Int) (base big : Int) : Nat → List Int
  | 0 => []
  | i + 1 => rngL M base big i ++ List.replicate (base + if (i : Int) < big then 1 else 0).toNat M[i]!
def rangeL (parts : Int) (M : List Int) : List Int :=
  rngL M (baseI parts M) (bigI parts M) M.length ++ List.replicate (parts.toNat - (rngL M (baseI parts M) (bigI parts M) M.length).length) 0
theorem rngL_len {M : List Int} {base big : Int} (h1 : base ≤ 64) : ∀ i, (rngL M base big i).length ≤ 65 * i
  | 0 => by simp [rngL]
  | i + 1 => by
    have := rngL_len (M := M) (big := big) h1 i
    unfold rngL
    rw [List.length_append, List.length_replicate]
    split <;> omega
theorem zeros_ret {w0 w : World} {F : List Nat} {L : List Res} {R : Value → World → Prop} {A : Option Addr} {c : Nat} {l : List Int} {parts : Int} (hp : 0 ≤ parts ∧ parts ≤ 64) (hl : l.length ≤ 100000) (hS : St w0 F w (irow (.slice A l.length c) l :: L))
    (hR : ∀ A' c' w', St w0 F w' (irow (.slice A' (l ++ List.replicate (parts.toNat - l.length) 0).length c') (l ++ List.replicate (parts.toNat - l.length) 0) :: L) → R (.tuple #[.slice A' (l ++ List.replicate (parts.toNat - l.length) 0).length c', .int .i64 0]) w') :
    m92_5 R (.int .i64 parts) (.slice A l.length c) w := by
  unfold m92_5
  refine loop_in (fun s w' => ∃ q : Nat, ∃ A' c', s = .slice A' (l ++ List.replicate q 0).length c' ∧ q ≤ parts.toNat - l.length ∧ St w0 F w' (irow (.slice A' (l ++ List.replicate q 0).length c') (l ++ List.replicate q 0) :: L))
    (fun s _ => match s with | .slice _ n _ => parts.toNat - n | _ => 0) ⟨0, A, c, by simp, by omega, by simpa using hS⟩ ?_
  clear hS
  rintro s w ⟨q, A, c, rfl, hq, hS⟩
  have e : (l ++ List.replicate q 0).length = l.length + q := by simp
  unfold m92_8
  refine builtin_ok (len28 _) ?_
  refine valP_ok (lss_ok _ _ _ _ _ _ _) ?_
  unfold m92_10
  refine cond_split (fun h => ?_) (fun h => ?_)
  · unfold m92_9
    refine newslice_ok (bs28_1 rfl _) hS ?_
    intro b58 w hS
    have e2 : l ++ List.replicate q 0 ++ [0] = l ++ List.replicate (q + 1) 0 := by rw [List.append_assoc, List.replicate_succ']
    refine append_one 0 (by omega) hS rfl ?_
    intro A' c' w hS
    simp only [List.set_cons_zero] at hS
    rw [e2] at hS ⊢
    refine ⟨⟨q + 1, A', c', rfl, by omega, hS⟩, ?_⟩
    simp
    omega
  · have : q = parts.toNat - l.length := by omega
    subst this
    unfold m92_6 m92_7
    exact hR _ _ _ hS
theorem range_ret {w0 w : World} {F : List Nat} {L : List Res} {A : Option Addr} {c : Nat} {zs : List Int} {parts : Int} (hp : -9223372036854775808 ≤ parts) (hp' : parts ≤ 9223372036854775807) (hS : St w0 F w L) (hI : Bes w0 F L 1 A zs.length (ints zs)) (hz : zs.length ≤ 1000) (hzb : ∀ x ∈ zs, -9223372036854775808 ≤ x ∧ x ≤ 9223372036854775807) :
    Ret Try.prog 92 #[.int .i64 parts, .slice A zs.length c] w fun v w' => if badParts parts then v = .tuple #[.slice none 0 0, .int .i64 1] ∧ St w0 F w' L
      else ∃ A' c', v = .tuple #[.slice A' (rangeL parts (membersL zs)).length c', .int .i64 0] ∧ St w0 F w' (irow (.slice A' (rangeL parts (membersL zs)).length c') (rangeL parts (membersL zs)) :: L) := by
  refine s92 _ _ ?_
  unfold m92
  unfold m92_0
  unfold m92_1
  refine callR (by kernel_rfl) (share_ret hp hp' hS hI (by omega)) ?_
  intro v w hv
  by_cases hbad : badParts parts
  · rw [if_pos hbad] at hv
    obtain ⟨rfl, hS⟩ := hv
    refine valP_ok (extract_ok _ 0 rfl _) ?_
    refine valP_ok (extract_ok _ 1 rfl _) ?_
    unfold m92_2
    first | refine valP_ok (not_ok _ _) ?_ | refine valP_ok (notb_ok _ _) ?_
    unfold m92_25
    refine cond_t rfl ?_
    unfold m92_26
    show ite _ _ _
    rw [if_pos hbad]
    exact ⟨rfl, hS⟩
  rw [if_neg hbad] at hv
  obtain ⟨b, mb, A1, c1, Mv, rfl, hMv, hS⟩ := hv
  have hnum := share_nums (M := membersL zs) hbad
  have hMl : (membersL zs).length ≤ 1000 := by have := membersL_len zs; omega
  generalize hMM : membersL zs = M at *
  have hpp : 0 ≤ parts ∧ parts ≤ 64 := by unfold badParts at hbad; omega
  refine valP_ok (extract_ok _ 0 rfl _) ?_
  refine valP_ok (extract_ok _ 1 rfl _) ?_
  unfold m92_2
  first | refine valP_ok (not_ok _ _) ?_ | refine valP_ok (notb_ok _ _) ?_
  unfold m92_25
  refine cond_f rfl ?_
  unfold m92_3
  have ep : (Value.int .i64 parts) = Value.int .i64 ((parts.toNat : Nat) : Int) := by rw [Int.toNat_of_nonneg hpp.1]
  have hR0 : ∀ R : Value → World → Prop, R = R := fun _ => rfl
  rw [ep]
  refine make0_ok sl28 hS (by omega) (by unfold maxLen; omega) ?_
  intro b2 w hS
  rw [← ep]
  unfold m92_4
  refine nil_ok ?_
  first | refine valP_ok (fa131_0 _ _) ?_ | refine valP_ok (fao131_0 _ _ _) ?_
  first | refine valP_ok (ld28 (hS.cell 0 rfl rfl)) ?_ | refine valP_ok (ld28 (hS.cell 1 rfl rfl)) ?_ | refine valP_ok (ld28 (hS.cell 2 rfl rfl)) ?_ | refine valP_ok (ld28 (hS.cell 3 rfl rfl)) ?_ | refine valP_ok (ld28 (hS.cell 4 rfl rfl)) ?_ | refine valP_ok (ld28 (by assumption)) ?_
  refine builtin_ok (len28 _) ?_
  unfold m92_11
  obtain ⟨B, hB⟩ : ∃ B, B = baseI parts M := ⟨_, rfl⟩
  obtain ⟨G, hG⟩ : ∃ G, G = bigI parts M := ⟨_, rfl⟩
  rw [← hB, ← hG] at hS hnum
  refine loop_in (fun s w' => ∃ i : Nat, ∃ A' c', s = (.slice A' (rngL M B G i).length c', .int .i64 i) ∧ i ≤ M.length ∧ St w0 F w' (irow (.slice A' (rngL M B G i).length c') (rngL M B G i) :: shc b (.slice A1 M.length c1) mb B G :: mapI mb 0 Mv :: Res.rd 1 A1 M.length (ints M) :: L))
    (fun s _ => M.length - (intOf s.2).toNat) ⟨0, some ⟨b2, 0, none⟩, parts.toNat, rfl, by omega, hS⟩ ?_
  clear hS
  rintro s w ⟨i, A2, c2, rfl, hi, hS⟩
  have hlen := rngL_len (M := M) (big := G) hnum.2.1 i
  unfold m92_12
  refine valP_ok (lss_ok _ _ _ _ _ _ _) ?_
  unfold m92_13
  refine cond_split (fun h => ?_) (fun h => ?_)
  · have hlt : i < M.length := by omega
    have hR : Rd w 1 A1 M.length (ints M) := hS.get 3 rfl
    obtain ⟨g, o, rfl⟩ := hR.some_ (by omega) (by omega)
    have hc := hR.cell_ (ints_get hlt)
    unfold m92_14
    first | refine valP_ok (ixz28 (by first | assumption | omega) _) ?_ | refine valP_ok (ix28 (by first | assumption | omega) _) ?_
    first | refine valP_ok (ld3 (hS.cell 0 rfl rfl)) ?_ | refine valP_ok (ld3 (hS.cell 1 rfl rfl)) ?_ | refine valP_ok (ld3 (hS.cell 2 rfl rfl)) ?_ | refine valP_ok (ld3 (hS.cell 3 rfl rfl)) ?_ | refine valP_ok (ld3 (hS.cell 4 rfl rfl)) ?_ | refine valP_ok (ld3 (by assumption)) ?_
    unfold m92_16
    refine nil_ok ?_
    first | refine valP_ok (fa131_2 _ _) ?_ | refine valP_ok (fao131_2 _ _ _) ?_
    first | refine valP_ok (ld3 (hS.cell 0 rfl rfl)) ?_ | refine valP_ok (ld3 (hS.cell 1 rfl rfl)) ?_ | refine valP_ok (ld3 (hS.cell 2 rfl rfl)) ?_ | refine valP_ok (ld3 (hS.cell 3 rfl rfl)) ?_ | refine valP_ok (ld3 (hS.cell 4 rfl rfl)) ?_ | refine valP_ok (ld3 (by assumption)) ?_
    unfold m92_17
    refine nil_ok ?_
    first | refine valP_ok (fa131_3 _ _) ?_ | refine valP_ok (fao131_3 _ _ _) ?_
    first | refine valP_ok (ld3 (hS.cell 0 rfl rfl)) ?_ | refine valP_ok (ld3 (hS.cell 1 rfl rfl)) ?_ | refine valP_ok (ld3 (hS.cell 2 rfl rfl)) ?_ | refine valP_ok (ld3 (hS.cell 3 rfl rfl)) ?_ | refine valP_ok (ld3 (hS.cell 4 rfl rfl)) ?_ | refine valP_ok (ld3 (by assumption)) ?_
    refine valP_ok (lss_ok _ _ _ _ _ _ _) ?_
    have fin : ∀ n : Int, n = B + (if (i : Int) < G then 1 else 0) → ∀ R K, (∀ A' c' w', St w0 F w' (irow (.slice A' (rngL M B G (i + 1)).length c') (rngL M B G (i + 1)) :: shc b (.slice (some ⟨g, o, none⟩) M.length c1) mb B G :: mapI mb 0 Mv :: Res.rd 1 (some ⟨g, o, none⟩) M.length (ints M) :: L) → K (.slice A' (rngL M B G (i + 1)).length c', .int .i64 ((i + 1 : Nat) : Int)) w') →
        m92_18 R K (.int .i64 parts) (.pointer (some ⟨b, 0, none⟩)) (.slice A2 (rngL M B G i).length c2) (.int .i64 M[i]) (.int .i64 n) (.slice (some ⟨g, o, none⟩) M.length c1) (.int .i64 M.length) (.int .i64 i) w := fun n hn R K hK => by
      unfold m92_18
      unfold m92_19
      have hn0 : 0 ≤ n ∧ n ≤ 65 := by rw [hn]; split <;> omega
      refine loop_in (fun s w' => ∃ q : Nat, ∃ A' c', s = (.slice A' (rngL M B G i ++ List.replicate q M[i]).length c', .int .i64 q) ∧ q ≤ n.toNat ∧ St w0 F w' (irow (.slice A' (rngL M B G i ++ List.replicate q M[i]).length c') (rngL M B G i ++ List.replicate q M[i]) :: shc b (.slice (some ⟨g, o, none⟩) M.length c1) mb B G :: mapI mb 0 Mv :: Res.rd 1 (some ⟨g, o, none⟩) M.length (ints M) :: L))
        (fun s _ => n.toNat - (intOf s.2).toNat) ⟨0, A2, c2, by simp, by omega, by simpa using hS⟩ ?_
      rintro s w ⟨q, A3, c3, rfl, hq, hS⟩
      have eq1 : (rngL M B G i ++ List.replicate q M[i]).length = (rngL M B G i).length + q := by simp
      unfold m92_20
      refine valP_ok (lss_ok _ _ _ _ _ _ _) ?_
      unfold m92_21
      refine cond_split (fun h => ?_) (fun h => ?_)
      · unfold m92_22
        refine newslice_ok (bs28_1 rfl _) hS ?_
        intro b49 w hS
        refine append_one 0 (by omega) hS rfl ?_
        intro A' c' w hS
        simp only [List.set_cons_zero] at hS
        have e2 : rngL M B G i ++ List.replicate q M[i] ++ [M[i]] = rngL M B G i ++ List.replicate (q + 1) M[i] := by rw [List.append_assoc, List.replicate_succ']
        rw [e2] at hS ⊢
        unfold m92_23
        refine valP_ok (add_ok _ _ _ (by omega) (by omega) _) ?_
        exact ⟨⟨q + 1, A', c', rfl, by omega, hS⟩, by simp [intOf]; omega⟩
      · have hqn : q = n.toNat := by omega
        subst hqn
        have e3 : rngL M B G i ++ List.replicate n.toNat M[i] = rngL M B G (i + 1) := by
          show _ = rngL M B G i ++ List.replicate (B + if (i : Int) < G then 1 else 0).toNat M[i]!
          rw [← hn, getElem!_pos M i hlt]
        rw [e3] at hS ⊢
        unfold m92_15
        refine valP_ok (add_ok _ _ _ (by omega) (by omega) _) ?_
        exact hK _ _ _ hS
    unfold m92_24
    refine cond_split (fun hg => ?_) (fun hg => ?_)
    · refine valP_ok (add_ok _ _ _ (by omega) (by omega) _) ?_
      exact fin _ (by rw [if_pos hg]) _ _ (fun A' c' w' hS => ⟨⟨i + 1, A', c', rfl, by omega, hS⟩, by simp [intOf]; omega⟩)
    · exact fin _ (by rw [if_neg hg]; omega) _ _ (fun A' c' w' hS => ⟨⟨i + 1, A', c', rfl, by omega, hS⟩, by simp [intOf]; omega⟩)
  · have : i = M.length := by omega
    subst this
    have hS := St_sub hS (.cons_cons _ (.cons _ (.cons _ (.cons _ (.refl L)))))
    refine zeros_ret hpp (by omega) hS ?_
    intro A' c' w' hS
    show ite _ _ _
    rw [if_neg hbad]
    rw [hB, hG] at hS ⊢
    exact ⟨A', c', rfl, hS⟩

theorem rzeros_ret {w0 w : World} {F : List Nat} {L : List Res} {R : Value → World → Prop} {A : Option Addr} {c : Nat} {l : List Int} {parts : Int} (hp : 0 ≤ parts ∧ parts ≤ 64) (hl : l.length ≤ 100000) (hS : St w0 F w (irow (.slice A l.length c) l :: L))
    (hR : ∀ A' c' w', St w0 F w' (irow (.slice A' (l ++ List.replicate (parts.toNat - l.length) 0).length c') (l ++ List.replicate (parts.toNat - l.length) 0) :: L) → R (.tuple #[.slice A' (l ++ List.replicate (parts.toNat - l.length) 0).length c', .int .i64 0]) w') :
    m105_5 R (.int .i64 parts) (.slice A l.length c) w := by
  unfold m105_5
  refine loop_in (fun s w' => ∃ q : Nat, ∃ A' c', s = .slice A' (l ++ List.replicate q 0).length c' ∧ q ≤ parts.toNat - l.length ∧ St w0 F w' (irow (.slice A' (l ++ List.replicate q 0).length c') (l ++ List.replicate q 0) :: L))
    (fun s _ => match s with | .slice _ n _ => parts.toNat - n | _ => 0) ⟨0, A, c, by simp, by omega, by simpa using hS⟩ ?_
  clear hS
  rintro s w ⟨q, A, c, rfl, hq, hS⟩
  have e : (l ++ List.replicate q 0).length = l.length + q := by simp
  unfold m105_8
  refine builtin_ok (len28 _) ?_
  refine valP_ok (lss_ok _ _ _ _ _ _ _) ?_
  unfold m105_10
  refine cond_split (fun h => ?_) (fun h => ?_)
  · unfold m105_9
    refine newslice_ok (bs28_1 rfl _) hS ?_
    intro b54 w hS
    have e2 : l ++ List.replicate q 0 ++ [0] = l ++ List.replicate (q + 1) 0 := by rw [List.append_assoc, List.replicate_succ']
    refine append_one 0 (by omega) hS rfl ?_
    intro A' c' w hS
    simp only [List.set_cons_zero] at hS
    rw [e2] at hS ⊢
    refine ⟨⟨q + 1, A', c', rfl, by omega, hS⟩, ?_⟩
    simp
    omega
  · have : q = parts.toNat - l.length := by omega
    subst this
    unfold m105_6 m105_7
    exact hR _ _ _ hS
theorem rrange_ret {w0 w : World} {F : List Nat} {L : List Res} {A : Option Addr} {c : Nat} {zs : List Int} {parts : Int} (hS : St w0 F w L) (hI : Bes w0 F L 1 A zs.length (ints zs)) (hz : zs.length ≤ 1000) :
    Ret Try.prog 105 #[.int .i64 parts, .slice A zs.length c] w fun v w' => if badParts parts then v = .tuple #[.slice none 0 0, .int .i64 1] ∧ St w0 F w' L
      else ∃ A' c', v = .tuple #[.slice A' (rangeL parts (membersL zs)).length c', .int .i64 0] ∧ St w0 F w' (irow (.slice A' (rangeL parts (membersL zs)).length c') (rangeL parts (membersL zs)) :: L) := by
  refine s105 _ _ ?_
  unfold m105
  unfold m105_0
  unfold m105_1
  refine valP_ok (lss_ok _ _ _ _ _ _ _) ?_
  have hbad : ∀ w, St w0 F w L → badParts parts → ∀ R, (R (.tuple #[.slice none 0 0, .int .i64 1]) w) → m105_24 R (.int .i64 parts) (.slice A zs.length c) (.bool true) w := fun w hS hb R hR => by
    unfold m105_24
    refine cond_t rfl ?_
    unfold m105_25
    exact hR
  by_cases h1 : parts < 1
  · refine cond_dt h1 ?_
    first | refine pick_dt (by first | assumption | omega) ?_ | refine pick_df (by first | assumption | omega) ?_ | refine pick_t (by first | rfl | assumption) ?_ | refine pick_f (by first | rfl | assumption) ?_ | refine pick_dt rfl ?_ | refine pick_df (not_not_intro rfl) ?_
    refine hbad _ hS (.inl h1) _ ?_
    show ite _ _ _
    rw [if_pos (.inl h1)]
    exact ⟨rfl, hS⟩
  refine cond_df h1 ?_
  refine valP_ok (gtr_ok _ _ _ _ _ _ _) ?_
  first | refine pick_dt (by first | assumption | omega) ?_ | refine pick_df (by first | assumption | omega) ?_ | refine pick_t (by first | rfl | assumption) ?_ | refine pick_f (by first | rfl | assumption) ?_ | refine pick_dt rfl ?_ | refine pick_df (not_not_intro rfl) ?_
  by_cases h2 : 64 < parts
  · rw [decide_eq_true h2]
    refine hbad _ hS (.inr h2) _ ?_
    show ite _ _ _
    rw [if_pos (.inr h2)]
    exact ⟨rfl, hS⟩
  have hnb : ¬ badParts parts := by unfold badParts; omega
  unfold m105_24
  refine cond_df h2 ?_
  unfold m105_2
  refine callR (by kernel_rfl) (members_ret hz hS hI) ?_
  rintro v w ⟨A1, c1, rfl, hS⟩
  have hMl : (membersL zs).length ≤ 1000 := by have := membersL_len zs; omega
  have hnum := share_nums (M := membersL zs) hnb
  generalize membersL zs = M at *
  have hS := hS.row_nil 3 1
  unfold m105_3
  unfold m105_4
  unfold m105_11
  refine loop_in (fun s w' => ∃ i : Nat, ∃ A' c', s = (.slice A' (rngL M (baseI parts M) (bigI parts M) i).length c', .int .i64 i) ∧ i ≤ M.length ∧ St w0 F w' (irow (.slice A' (rngL M (baseI parts M) (bigI parts M) i).length c') (rngL M (baseI parts M) (bigI parts M) i) :: irow (.slice A1 M.length c1) M :: L))
    (fun s _ => M.length - (intOf s.2).toNat) ⟨0, none, 0, rfl, by omega, hS⟩ ?_
  clear hS
  rintro s w ⟨i, A2, c2, rfl, hi, hS⟩
  have hlen := rngL_len (M := M) (big := bigI parts M) hnum.2.1 i
  unfold m105_12
  refine builtin_ok (len28 _) ?_
  refine valP_ok (lss_ok _ _ _ _ _ _ _) ?_
  unfold m105_23
  refine cond_split (fun h => ?_) (fun h => ?_)
  · have hlt : i < M.length := by omega
    have eb : baseI parts M = parts / M.length := by unfold baseI; rw [if_neg (by omega)]
    have eg : bigI parts M = parts % M.length := by unfold bigI; rw [if_neg (by omega)]
    obtain ⟨B, hB⟩ : ∃ B, B = baseI parts M := ⟨_, rfl⟩
    obtain ⟨G, hG⟩ : ∃ G, G = bigI parts M := ⟨_, rfl⟩
    rw [← hB, ← hG] at hS hnum hlen ⊢
    obtain ⟨g, rfl⟩ := hS.row_ptr 1 rfl (by omega)
    have fin : ∀ n : Int, n = B + (if (i : Int) < G then 1 else 0) → ∀ w R K, St w0 F w (irow (.slice A2 (rngL M B G i).length c2) (rngL M B G i) :: irow (.slice (some ⟨g, 0, none⟩) M.length c1) M :: L) →
        (∀ A' c' w', St w0 F w' (irow (.slice A' (rngL M B G (i + 1)).length c') (rngL M B G (i + 1)) :: irow (.slice (some ⟨g, 0, none⟩) M.length c1) M :: L) → K (.slice A' (rngL M B G (i + 1)).length c', .int .i64 ((i + 1 : Nat) : Int)) w') →
        m105_16 R K (.int .i64 parts) (.slice (some ⟨g, 0, none⟩) M.length c1) (.slice A2 (rngL M B G i).length c2) (.int .i64 i) (.int .i64 n) w := fun n hn w R K hS hK => by
      unfold m105_16
      unfold m105_17
      have hn0 : 0 ≤ n ∧ n ≤ 65 := by rw [hn]; split <;> omega
      refine loop_in (fun s w' => ∃ q : Nat, ∃ A' c', s = (.slice A' (rngL M B G i ++ List.replicate q M[i]).length c', .int .i64 q) ∧ q ≤ n.toNat ∧ St w0 F w' (irow (.slice A' (rngL M B G i ++ List.replicate q M[i]).length c') (rngL M B G i ++ List.replicate q M[i]) :: irow (.slice (some ⟨g, 0, none⟩) M.length c1) M :: L))
        (fun s _ => n.toNat - (intOf s.2).toNat) ⟨0, A2, c2, by simp, by omega, by simpa using hS⟩ ?_
      rintro s w ⟨q, A3, c3, rfl, hq, hS⟩
      have eq1 : (rngL M B G i ++ List.replicate q M[i]).length = (rngL M B G i).length + q := by simp
      unfold m105_18
      refine valP_ok (lss_ok _ _ _ _ _ _ _) ?_
      unfold m105_21
      refine cond_split (fun h => ?_) (fun h => ?_)
      · have hc := hS.row_cell 1 rfl (ints_get hlt)
        unfold m105_19
        refine valP_ok (ixz28 hlt _) ?_
        first | refine valP_ok (ld3 (hS.cell 0 rfl rfl)) ?_ | refine valP_ok (ld3 (hS.cell 1 rfl rfl)) ?_ | refine valP_ok (ld3 (hS.cell 2 rfl rfl)) ?_ | refine valP_ok (ld3 (hS.cell 3 rfl rfl)) ?_ | refine valP_ok (ld3 (hS.cell 4 rfl rfl)) ?_ | refine valP_ok (ld3 (by assumption)) ?_
        refine newslice_ok (bs28_1 rfl _) hS ?_
        intro b47 w hS
        refine append_one 0 (by omega) hS rfl ?_
        intro A' c' w hS
        simp only [List.set_cons_zero] at hS
        have e2 : rngL M B G i ++ List.replicate q M[i] ++ [M[i]] = rngL M B G i ++ List.replicate (q + 1) M[i] := by rw [List.append_assoc, List.replicate_succ']
        rw [e2] at hS ⊢
        unfold m105_20
        refine valP_ok (add_ok _ _ _ (by omega) (by omega) _) ?_
        exact ⟨⟨q + 1, A', c', rfl, by omega, hS⟩, by simp [intOf]; omega⟩
      · have hqn : q = n.toNat := by omega
        subst hqn
        have e3 : rngL M B G i ++ List.replicate n.toNat M[i] = rngL M B G (i + 1) := by
          show _ = rngL M B G i ++ List.replicate (B + if (i : Int) < G then 1 else 0).toNat M[i]!
          rw [← hn, getElem!_pos M i hlt]
        rw [e3] at hS ⊢
        unfold m105_14
        refine valP_ok (add_ok _ _ _ (by omega) (by omega) _) ?_
        exact hK _ _ _ hS
    unfold m105_13
    refine builtin_ok (len28 _) ?_
    refine valP_ok (quo_ok _ _ _ (by omega) (by omega) (by omega) _) ?_
    unfold m105_15
    refine builtin_ok (len28 _) ?_
    refine valP_ok (rem_ok _ _ _ (by omega) (by omega) (by omega) _) ?_
    refine valP_ok (lss_ok _ _ _ _ _ _ _) ?_
    rw [← eb, ← eg, ← hB, ← hG]
    unfold m105_22
    refine cond_split (fun hg => ?_) (fun hg => ?_)
    · refine valP_ok (add_ok _ _ _ (by omega) (by omega) _) ?_
      exact fin _ (by rw [if_pos hg]) _ _ _ hS (fun A' c' w' hS => ⟨⟨i + 1, A', c', rfl, by omega, hS⟩, by simp [intOf]; omega⟩)
    · exact fin _ (by rw [if_neg hg]; omega) _ _ _ hS (fun A' c' w' hS => ⟨⟨i + 1, A', c', rfl, by omega, hS⟩, by simp [intOf]; omega⟩)
  · have : i = M.length := by omega
    subst this
    have hS := St_sub hS (.cons_cons _ (.cons _ (.refl L)))
    refine rzeros_ret (by omega) (by omega) hS ?_
    intro A' c' w' hS
    show ite _ _ _
    rw [if_neg hnb]
    exact ⟨A', c', rfl, hS⟩
theorem rangeL_len {parts : Int} {M : List Int} (h : ¬ badParts parts) (hM : M.length ≤ 1000) : (rangeL parts M).length ≤ 1000000 := by
  have hnum := share_nums (M := M) h
  have := rngL_len (M := M) (big := bigI parts M) hnum.2.1 M.length
  unfold badParts at h
  unfold rangeL
  rw [List.length_append, List.length_replicate]
  omega
theorem rng_len {M : List Int} {B G : Int} (hB : 0 ≤ B) (hG : 0 ≤ G) : ∀ i, ((rngL M B G i).length : Int) = B * i + min (i : Int) G
  | 0 => by simp [rngL]; omega
  | i + 1 => by
    have ih := rng_len (M := M) hB hG i
    unfold rngL
    rw [List.length_append, List.length_replicate]
    have e : B * ((i + 1 : Nat) : Int) = B * i + B := by rw [Int.natCast_add, Int.mul_add]; simp
    split <;> omega
theorem rng_tm {M : List Int} {B G : Int} (hB : 0 ≤ B) (hr : M.Pairwise (· < ·)) : ∀ i, i ≤ M.length → (∀ x ∈ rngL M B G i, x ∈ M) ∧ (∀ j (hj : j < M.length), (j < i → B ≤ tm (rngL M B G i) M[j] ∧ tm (rngL M B G i) M[j] ≤ B + 1) ∧ (i ≤ j → tm (rngL M B G i) M[j] = 0))
  | 0, _ => ⟨by simp [rngL], fun j hj => ⟨fun h => absurd h (Nat.not_lt_zero _), fun _ => by simp [rngL, tm]⟩⟩
  | i + 1, hi => by
    obtain ⟨h1, h2⟩ := rng_tm (B := B) (G := G) hB hr i (by omega)
    have hlt : i < M.length := by omega
    unfold rngL
    rw [getElem!_pos M i hlt]
    generalize hN : (B + if (i : Int) < G then 1 else 0).toNat = N
    have hN' : B ≤ (N : Int) ∧ (N : Int) ≤ B + 1 := by
      by_cases h : (i : Int) < G
      · rw [if_pos h] at hN; omega
      · rw [if_neg h] at hN; omega
    refine ⟨fun x hx => ?_, fun j hj => ⟨fun hji => ?_, fun hij => ?_⟩⟩
    · rcases List.mem_append.1 hx with hx | hx
      · exact h1 x hx
      · rw [List.eq_of_mem_replicate hx]; exact List.getElem_mem hlt
    · rw [tm_append]
      have er : tm (List.replicate N M[i]) M[j] = if i = j then (N : Int) else 0 := by
        unfold tm
        rw [List.count_replicate]
        by_cases e : i = j
        · subst e; simp
        · have : M[i] ≠ M[j] := by
            rcases Nat.lt_or_ge i j with c | c
            · have := (List.pairwise_iff_getElem.1 hr) i j hlt hj c; omega
            · have := (List.pairwise_iff_getElem.1 hr) j i hj hlt (by omega); omega
          simp [e, this]
      rw [er]
      by_cases e : i = j
      · have := (h2 j hj).2 (by omega)
        rw [if_pos e, this]; omega
      · have := (h2 j hj).1 (by omega)
        rw [if_neg e]; omega
    · rw [tm_append, (h2 j hj).2 (by omega)]
      unfold tm
      rw [List.count_replicate]
      have := (List.pairwise_iff_getElem.1 hr) i j hlt hj (by omega)
      have hne : M[i] ≠ M[j] := by omega
      simp [hne]
theorem range_fair {parts : Int} {M : List Int} (hM0 : 0 < M.length) (hp : ¬ badParts parts) (hr : M.Pairwise (· < ·)) (h0 : ∀ x ∈ M, 0 < x) : Fair parts M (rangeL parts M) := by
  have hp1 : 1 ≤ parts := by unfold badParts at hp; omega
  have hnum := share_nums (M := M) hp
  have hpe := parts_eq (parts := parts) hM0
  have hlen := rng_len (M := M) hnum.1 hnum.2.2.1 M.length
  obtain ⟨h1, h2⟩ := rng_tm (B := baseI parts M) (G := bigI parts M) hnum.1 hr M.length (Nat.le_refl _)
  have hl : (rngL M (baseI parts M) (bigI parts M) M.length).length = parts.toNat := by omega
  have e : rangeL parts M = rngL M (baseI parts M) (bigI parts M) M.length := by unfold rangeL; rw [hl, Nat.sub_self, List.replicate_zero, List.append_nil]
  rw [e]
  generalize rngL M (baseI parts M) (bigI parts M) M.length = l at *
  have lo : ∀ x ∈ M, baseI parts M ≤ tm l x ∧ tm l x ≤ baseI parts M + 1 := fun x hx => by
    obtain ⟨j, hj, rfl⟩ := List.mem_iff_getElem.1 hx
    exact (h2 j hj).1 hj
  have hz : tm l 0 = 0 := by
    unfold tm
    rw [List.count_eq_zero.2 (fun h => by have := h0 0 (h1 0 h); omega)]
    rfl
  have ht := tot_tm hr h0 l (fun x hx => .inr (h1 x hx))
  have t1 := (tot_le (f := tm l) (m := baseI parts M) (M := M) (fun x hx => (lo x hx).2)).1
  have t2 := tot_ge (f := tm l) (m := baseI parts M) (M := M) (fun x hx => (lo x hx).1)
  refine ⟨hl, h1, fun x hx => (lo x hx).1, fun x hx => (lo x hx).2, ?_⟩
  unfold aboveN
  omega


end Go.Proofs.Ytjjmlopmemmobaa.M
