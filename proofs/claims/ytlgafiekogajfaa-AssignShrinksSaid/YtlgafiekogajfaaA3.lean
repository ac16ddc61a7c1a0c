/- What assign.Range comes to. -/
import Derived.Test.YtlgafiekogajfaaA2
namespace Go.Proofs.Ytlgafiekogajfaa.M
open Go.Proofs.Ytlgafiekogajfaa.F Go.RowKit
set_option linter.unusedVariables false
set_option linter.unusedSimpArgs false
set_option maxRecDepth 100000
set_option maxHeartbeats 2000000
attribute [local irreducible] Res.cells Res.row Res.map Res.any World.cell? World.frozen? Instr.fieldAt Instr.loadAt Instr.storeAt Instr.indexAt Instr.lookup Instr.mapUpdate Instr.box Instr.build Instr.buildSlice Instr.extract Instr.alloc Instr.field Instr.index Instr.sliceAt Instr.makeSlice Instr.makeMap Instr.makeFunc binS Op.unary Sem.run
open Go.Proofs.Ytlgafiekogajfaa.L Go.Shelf
theorem St_sub {w0 w : World} {F : List Nat} {L L' : List Res} (h : St w0 F w L) (hs : L'.Sublist L) : St w0 F w L' :=
  ⟨h.chg, fun r hr => h.H r (hs.subset hr), fun r hr => h.lt r (hs.subset hr), fun r hr => h.own r (hs.subset hr), h.apart.sublist hs⟩
abbrev irow (v : Value) (l : List Int) : Res := Res.row 3 1 v l.length (ints l)
/-- The first i members' partitions, side by side. -/
def rngL (M : List Int) (base big : Int) : Nat → List Int
  | 0 => []
  | i + 1 => rngL M base big i ++ List.replicate (base + if (i : Int) < big then 1 else 0).toNat M[i]!
def rangeL (parts : Int) (M : List Int) : List Int :=
  rngL M (baseI parts M) (bigI parts M) M.length ++ List.replicate (parts.toNat - (rngL M (baseI parts M) (bigI parts M) M.length).length) 0
theorem share_nums {parts : Int} {M : List Int} (h : ¬ badParts parts) : 0 ≤ baseI parts M ∧ baseI parts M ≤ 64 ∧ 0 ≤ bigI parts M ∧ bigI parts M ≤ 64 := by
  unfold badParts at h
  unfold baseI bigI
  by_cases h0 : M.length = 0
  · rw [if_pos h0, if_pos h0]; omega
  · rw [if_neg h0, if_neg h0]
    have h1 : (0 : Int) < M.length := by omega
    have := Int.ediv_nonneg (show 0 ≤ parts by omega) (show (0 : Int) ≤ M.length by omega)
    have := Int.ediv_le_self (M.length : Int) (show 0 ≤ parts by omega)
    have := Int.emod_nonneg parts (show (M.length : Int) ≠ 0 by omega)
    have := Int.mul_ediv_add_emod parts (M.length : Int)
    have := Int.mul_nonneg (show (0 : Int) ≤ M.length by omega) (Int.ediv_nonneg (show 0 ≤ parts by omega) (show (0 : Int) ≤ M.length by omega))
    omega
theorem rngL_len {M : List Int} {base big : Int} (h1 : base ≤ 64) : ∀ i, (rngL M base big i).length ≤ 65 * i
  | 0 => by simp [rngL]
  | i + 1 => by
    have := rngL_len (M := M) (big := big) h1 i
    unfold rngL
    rw [List.length_append, List.length_replicate]
    split <;> omega
theorem append_one {K : Value → World → Prop} {w0 w : World} {F : List Nat} {L : List Res} {cs : Array Bool} {b c : Nat} {A : Option Addr} {l : List Int} {x : Int} (k : Nat) (hl : l.length ≤ 1000000) (hS : St w0 F w (Res.cells b 3 [.int .i64 x] :: L)) (hk : L[k]? = some (irow (.slice A l.length c) l))
    (h : ∀ A' c' w', St w0 F w' (L.set k (irow (.slice A' (l ++ [x]).length c') (l ++ [x]))) → K (.slice A' (l ++ [x]).length c') w') :
    builtinP Try.prog .append #[22, 22] 22 cs #[.slice A l.length c, .slice (some ⟨b, 0, none⟩) 1 1] w K := by
  refine append_ok (k + 1) sl22 hS (by simpa using hk) (m := 1) (news := [.int .i64 x]) rfl (fun j u hj => ?_) (by simp [Value.oneCell']) (by unfold maxLen; omega) (by omega) ?_
  · rw [add_none, Nat.zero_add]
    exact hS.cell 0 rfl hj
  intro A' c' w' hS
  simp only [List.set_cons_succ] at hS
  have e1 : l.length + 1 = (l ++ [x]).length := by simp
  have e2 : ints l ++ [.int .i64 x] = ints (l ++ [x]) := by simp [ints]
  have hS := hS.tail
  rw [e1, e2] at hS
  rw [e1]
  exact h _ _ _ hS
theorem zeros_ret {w0 w : World} {F : List Nat} {L : List Res} {R : Value → World → Prop} {A : Option Addr} {c : Nat} {l : List Int} {parts : Int} (hp : 0 ≤ parts ∧ parts ≤ 64) (hl : l.length ≤ 100000) (hS : St w0 F w (irow (.slice A l.length c) l :: L))
    (hR : ∀ A' c' w', St w0 F w' (irow (.slice A' (l ++ List.replicate (parts.toNat - l.length) 0).length c') (l ++ List.replicate (parts.toNat - l.length) 0) :: L) → R (.tuple #[.slice A' (l ++ List.replicate (parts.toNat - l.length) 0).length c', .int .i64 0]) w') :
    m11_5 R (.int .i64 parts) (.slice A l.length c) w := by
  unfold m11_5
  refine loop_in (fun s w' => ∃ q : Nat, ∃ A' c', s = .slice A' (l ++ List.replicate q 0).length c' ∧ q ≤ parts.toNat - l.length ∧ St w0 F w' (irow (.slice A' (l ++ List.replicate q 0).length c') (l ++ List.replicate q 0) :: L))
    (fun s _ => match s with | .slice _ n _ => parts.toNat - n | _ => 0) ⟨0, A, c, by simp, by omega, by simpa using hS⟩ ?_
  clear hS
  rintro s w ⟨q, A, c, rfl, hq, hS⟩
  have e : (l ++ List.replicate q 0).length = l.length + q := by simp
  unfold m11_8
  refine builtin_ok (len22 _) ?_
  refine valP_ok (lss_ok _ _ _ _ _ _ _) ?_
  unfold m11_10
  refine cond_split (fun h => ?_) (fun h => ?_)
  · unfold m11_9
    refine newslice_ok (bs22_1 rfl _) hS ?_
    intro b58 w hS
    have e2 : l ++ List.replicate q 0 ++ [0] = l ++ List.replicate (q + 1) 0 := by rw [List.append_assoc, List.replicate_succ']
    refine append_one 0 (by omega) hS rfl ?_
    intro A' c' w hS
    simp only [List.set_cons_zero] at hS
    rw [e2] at hS ⊢
    refine ⟨⟨q + 1, A', c', rfl, by omega, hS⟩, ?_⟩
    simp
    omega
  · have : q = parts.toNat - l.length := by omega
    subst this
    unfold m11_6 m11_7
    exact hR _ _ _ hS
theorem range_ret {w0 w : World} {F : List Nat} {L : List Res} {A : Option Addr} {c : Nat} {zs : List Int} {parts : Int} (hp : -9223372036854775808 ≤ parts) (hp' : parts ≤ 9223372036854775807) (hS : St w0 F w L) (hI : Bes w0 F L 1 A zs.length (ints zs)) (hz : zs.length ≤ 1000) (hzb : ∀ x ∈ zs, -9223372036854775808 ≤ x ∧ x ≤ 9223372036854775807) :
    Ret Try.prog 11 #[.int .i64 parts, .slice A zs.length c] w fun v w' => if badParts parts then v = .tuple #[.slice none 0 0, .int .i64 1] ∧ St w0 F w' L
      else ∃ A' c', v = .tuple #[.slice A' (rangeL parts (membersL zs)).length c', .int .i64 0] ∧ St w0 F w' (irow (.slice A' (rangeL parts (membersL zs)).length c') (rangeL parts (membersL zs)) :: L) := by
  refine s11 _ _ ?_
  unfold m11
  unfold m11_0
  unfold m11_1
  refine callR (by kernel_rfl) (share_ret hp hp' hS hI (by omega)) ?_
  intro v w hv
  by_cases hbad : badParts parts
  · rw [if_pos hbad] at hv
    obtain ⟨rfl, hS⟩ := hv
    refine valP_ok (extract_ok _ 0 rfl _) ?_
    refine valP_ok (extract_ok _ 1 rfl _) ?_
    unfold m11_2
    first | refine valP_ok (not_ok _ _) ?_ | refine valP_ok (notb_ok _ _) ?_
    unfold m11_25
    refine cond_t rfl ?_
    unfold m11_26
    show ite _ _ _
    rw [if_pos hbad]
    exact ⟨rfl, hS⟩
  rw [if_neg hbad] at hv
  obtain ⟨b, mb, A1, c1, Mv, rfl, hMv, hS⟩ := hv
  have hnum := share_nums (M := membersL zs) hbad
  have hMl : (membersL zs).length ≤ 1000 := by have := membersL_len zs; omega
  generalize hMM : membersL zs = M at *
  have hpp : 0 ≤ parts ∧ parts ≤ 64 := by unfold badParts at hbad; omega
  refine valP_ok (extract_ok _ 0 rfl _) ?_
  refine valP_ok (extract_ok _ 1 rfl _) ?_
  unfold m11_2
  first | refine valP_ok (not_ok _ _) ?_ | refine valP_ok (notb_ok _ _) ?_
  unfold m11_25
  refine cond_f rfl ?_
  unfold m11_3
  have ep : (Value.int .i64 parts) = Value.int .i64 ((parts.toNat : Nat) : Int) := by rw [Int.toNat_of_nonneg hpp.1]
  have hR0 : ∀ R : Value → World → Prop, R = R := fun _ => rfl
  rw [ep]
  refine make0_ok sl22 hS (by omega) (by unfold maxLen; omega) ?_
  intro b2 w hS
  rw [← ep]
  unfold m11_4
  refine nil_ok ?_
  first | refine valP_ok (fa45_0 _ _) ?_ | refine valP_ok (fao45_0 _ _ _) ?_
  first | refine valP_ok (ld22 (hS.cell 0 rfl rfl)) ?_ | refine valP_ok (ld22 (hS.cell 1 rfl rfl)) ?_ | refine valP_ok (ld22 (hS.cell 2 rfl rfl)) ?_ | refine valP_ok (ld22 (hS.cell 3 rfl rfl)) ?_ | refine valP_ok (ld22 (hS.cell 4 rfl rfl)) ?_ | refine valP_ok (ld22 (by assumption)) ?_
  refine builtin_ok (len22 _) ?_
  unfold m11_11
  obtain ⟨B, hB⟩ : ∃ B, B = baseI parts M := ⟨_, rfl⟩
  obtain ⟨G, hG⟩ : ∃ G, G = bigI parts M := ⟨_, rfl⟩
  rw [← hB, ← hG] at hS hnum
  refine loop_in (fun s w' => ∃ i : Nat, ∃ A' c', s = (.slice A' (rngL M B G i).length c', .int .i64 i) ∧ i ≤ M.length ∧ St w0 F w' (irow (.slice A' (rngL M B G i).length c') (rngL M B G i) :: shc b (.slice A1 M.length c1) mb B G :: mapI mb 0 Mv :: Res.rd 1 A1 M.length (ints M) :: L))
    (fun s _ => M.length - (intOf s.2).toNat) ⟨0, some ⟨b2, 0, none⟩, parts.toNat, rfl, by omega, hS⟩ ?_
  clear hS
  rintro s w ⟨i, A2, c2, rfl, hi, hS⟩
  have hlen := rngL_len (M := M) (big := G) hnum.2.1 i
  unfold m11_12
  refine valP_ok (lss_ok _ _ _ _ _ _ _) ?_
  unfold m11_13
  refine cond_split (fun h => ?_) (fun h => ?_)
  · have hlt : i < M.length := by omega
    have hR : Rd w 1 A1 M.length (ints M) := hS.get 3 rfl
    obtain ⟨g, o, rfl⟩ := hR.some_ (by omega) (by omega)
    have hc := hR.cell_ (ints_get hlt)
    unfold m11_14
    first | refine valP_ok (ixz22 (by first | assumption | omega) _) ?_ | refine valP_ok (ix22 (by first | assumption | omega) _) ?_
    first | refine valP_ok (ld3 (hS.cell 0 rfl rfl)) ?_ | refine valP_ok (ld3 (hS.cell 1 rfl rfl)) ?_ | refine valP_ok (ld3 (hS.cell 2 rfl rfl)) ?_ | refine valP_ok (ld3 (hS.cell 3 rfl rfl)) ?_ | refine valP_ok (ld3 (hS.cell 4 rfl rfl)) ?_ | refine valP_ok (ld3 (by assumption)) ?_
    unfold m11_16
    refine nil_ok ?_
    first | refine valP_ok (fa45_2 _ _) ?_ | refine valP_ok (fao45_2 _ _ _) ?_
    first | refine valP_ok (ld3 (hS.cell 0 rfl rfl)) ?_ | refine valP_ok (ld3 (hS.cell 1 rfl rfl)) ?_ | refine valP_ok (ld3 (hS.cell 2 rfl rfl)) ?_ | refine valP_ok (ld3 (hS.cell 3 rfl rfl)) ?_ | refine valP_ok (ld3 (hS.cell 4 rfl rfl)) ?_ | refine valP_ok (ld3 (by assumption)) ?_
    unfold m11_17
    refine nil_ok ?_
    first | refine valP_ok (fa45_3 _ _) ?_ | refine valP_ok (fao45_3 _ _ _) ?_
    first | refine valP_ok (ld3 (hS.cell 0 rfl rfl)) ?_ | refine valP_ok (ld3 (hS.cell 1 rfl rfl)) ?_ | refine valP_ok (ld3 (hS.cell 2 rfl rfl)) ?_ | refine valP_ok (ld3 (hS.cell 3 rfl rfl)) ?_ | refine valP_ok (ld3 (hS.cell 4 rfl rfl)) ?_ | refine valP_ok (ld3 (by assumption)) ?_
    refine valP_ok (lss_ok _ _ _ _ _ _ _) ?_
    have fin : ∀ n : Int, n = B + (if (i : Int) < G then 1 else 0) → ∀ R K, (∀ A' c' w', St w0 F w' (irow (.slice A' (rngL M B G (i + 1)).length c') (rngL M B G (i + 1)) :: shc b (.slice (some ⟨g, o, none⟩) M.length c1) mb B G :: mapI mb 0 Mv :: Res.rd 1 (some ⟨g, o, none⟩) M.length (ints M) :: L) → K (.slice A' (rngL M B G (i + 1)).length c', .int .i64 ((i + 1 : Nat) : Int)) w') →
        m11_18 R K (.int .i64 parts) (.pointer (some ⟨b, 0, none⟩)) (.slice A2 (rngL M B G i).length c2) (.int .i64 M[i]) (.int .i64 n) (.slice (some ⟨g, o, none⟩) M.length c1) (.int .i64 M.length) (.int .i64 i) w := fun n hn R K hK => by
      unfold m11_18
      unfold m11_19
      have hn0 : 0 ≤ n ∧ n ≤ 65 := by rw [hn]; split <;> omega
      refine loop_in (fun s w' => ∃ q : Nat, ∃ A' c', s = (.slice A' (rngL M B G i ++ List.replicate q M[i]).length c', .int .i64 q) ∧ q ≤ n.toNat ∧ St w0 F w' (irow (.slice A' (rngL M B G i ++ List.replicate q M[i]).length c') (rngL M B G i ++ List.replicate q M[i]) :: shc b (.slice (some ⟨g, o, none⟩) M.length c1) mb B G :: mapI mb 0 Mv :: Res.rd 1 (some ⟨g, o, none⟩) M.length (ints M) :: L))
        (fun s _ => n.toNat - (intOf s.2).toNat) ⟨0, A2, c2, by simp, by omega, by simpa using hS⟩ ?_
      rintro s w ⟨q, A3, c3, rfl, hq, hS⟩
      have eq1 : (rngL M B G i ++ List.replicate q M[i]).length = (rngL M B G i).length + q := by simp
      unfold m11_20
      refine valP_ok (lss_ok _ _ _ _ _ _ _) ?_
      unfold m11_21
      refine cond_split (fun h => ?_) (fun h => ?_)
      · unfold m11_22
        refine newslice_ok (bs22_1 rfl _) hS ?_
        intro b49 w hS
        refine append_one 0 (by omega) hS rfl ?_
        intro A' c' w hS
        simp only [List.set_cons_zero] at hS
        have e2 : rngL M B G i ++ List.replicate q M[i] ++ [M[i]] = rngL M B G i ++ List.replicate (q + 1) M[i] := by rw [List.append_assoc, List.replicate_succ']
        rw [e2] at hS ⊢
        unfold m11_23
        refine valP_ok (add_ok _ _ _ (by omega) (by omega) _) ?_
        exact ⟨⟨q + 1, A', c', rfl, by omega, hS⟩, by simp [intOf]; omega⟩
      · have hqn : q = n.toNat := by omega
        subst hqn
        have e3 : rngL M B G i ++ List.replicate n.toNat M[i] = rngL M B G (i + 1) := by
          show _ = rngL M B G i ++ List.replicate (B + if (i : Int) < G then 1 else 0).toNat M[i]!
          rw [← hn, getElem!_pos M i hlt]
        rw [e3] at hS ⊢
        unfold m11_15
        refine valP_ok (add_ok _ _ _ (by omega) (by omega) _) ?_
        exact hK _ _ _ hS
    unfold m11_24
    refine cond_split (fun hg => ?_) (fun hg => ?_)
    · refine valP_ok (add_ok _ _ _ (by omega) (by omega) _) ?_
      exact fin _ (by rw [if_pos hg]) _ _ (fun A' c' w' hS => ⟨⟨i + 1, A', c', rfl, by omega, hS⟩, by simp [intOf]; omega⟩)
    · exact fin _ (by rw [if_neg hg]; omega) _ _ (fun A' c' w' hS => ⟨⟨i + 1, A', c', rfl, by omega, hS⟩, by simp [intOf]; omega⟩)
  · have : i = M.length := by omega
    subst this
    have hS := St_sub hS (.cons_cons _ (.cons _ (.cons _ (.cons _ (.refl L)))))
    refine zeros_ret hpp (by omega) hS ?_
    intro A' c' w' hS
    show ite _ _ _
    rw [if_neg hbad]
    rw [hB, hG] at hS ⊢
    exact ⟨A', c', rfl, hS⟩

end Go.Proofs.Ytlgafiekogajfaa.M
