/- What a coop's turn, its beginning, and what members do to it come to. -/
import Derived.Test.YtjjmlopmemmobaaC3
namespace Go.Proofs.Ytjjmlopmemmobaa.M
open Go.Proofs.Ytjjmlopmemmobaa.F Go.RowKit
set_option linter.unusedVariables false
set_option linter.unusedSimpArgs false
set_option maxRecDepth 100000
set_option maxHeartbeats 2000000
attribute [local irreducible] Res.cells Res.row Res.map Res.any World.cell? World.frozen? Instr.fieldAt Instr.loadAt Instr.storeAt Instr.indexAt Instr.lookup Instr.mapUpdate Instr.box Instr.build Instr.buildSlice Instr.extract Instr.alloc Instr.field Instr.index Instr.sliceAt Instr.makeSlice Instr.makeMap Instr.makeFunc binS Op.unary Sem.run
open Go.Proofs.Ytjjmlopmemmobaa.L Go.Shelf
/-- What a coop is ahead of a turn. -/
structure CPre (s : CS) : Prop where
  rise : s.M.Pairwise (· < ·)
  len : s.M.length ≤ 8
  each : ∀ x ∈ s.M, 1 ≤ x ∧ x ≤ 1099511627776
  parts : 1 ≤ s.H.length ∧ s.H.length ≤ 16
  same : s.W.length = s.H.length
  bH : ∀ x ∈ s.H, 0 ≤ x ∧ x ≤ 1099511627776
  bW : ∀ x ∈ s.W, 0 ≤ x ∧ x ≤ 1099511627776
  g0 : 0 ≤ s.g ∧ s.g ≤ 1000000000
def keepH (s : CS) : List Int := s.H.map fun m => if m ∈ s.M then m else 0
def turnW (s : CS) : List Int := stickyL s.H.length s.M (giveL (keepH s) s.W)
def turned (s : CS) : CS := ⟨s.g + 1, s.M, giveL (keepH s) (turnW s), turnW s⟩
theorem giveL_in {H W : List Int} {p : Int → Prop} (h1 : ∀ x ∈ H, p x) (h2 : ∀ x ∈ W, p x) : ∀ x ∈ giveL H W, p x := fun x hx => by
  obtain ⟨i, hi, rfl⟩ := List.mem_iff_getElem.1 hx
  have hi2 : i < H.length ∧ i < W.length := by simp [giveL] at hi; omega
  rw [giveL_at i hi hi2.1 hi2.2]
  split
  · exact h2 _ (List.getElem_mem _)
  · exact h1 _ (List.getElem_mem _)
theorem keepH_len (s : CS) : (keepH s).length = s.H.length := by simp [keepH]
theorem keepH_at (s : CS) (i : Nat) (h : i < (keepH s).length) (h1 : i < s.H.length) : (keepH s)[i] = if s.H[i] ∈ s.M then s.H[i] else 0 := by simp [keepH]
theorem CPre.bad {s : CS} (h : CPre s) : ¬ badParts s.H.length := by have := h.parts; unfold badParts; omega
theorem CPre.bM {s : CS} (h : CPre s) : ∀ x ∈ s.M, -9223372036854775808 ≤ x ∧ x ≤ 9223372036854775807 := fun x hx => by have := h.each x hx; omega
theorem CPre.pos {s : CS} (h : CPre s) : ∀ x ∈ s.M, 0 < x := fun x hx => by have := h.each x hx; omega
theorem CPre.mem {s : CS} (h : CPre s) : membersL s.M = s.M := membersL_of h.rise fun x => ⟨fun hx => ⟨hx, h.pos x hx⟩, fun hx => hx.1⟩
theorem CPre.wlen {s : CS} (h : CPre s) : (turnW s).length = s.H.length := by
  have := stickyL_len (old := giveL (keepH s) s.W) h.bad h.rise (by have := h.len; omega) h.bM
  unfold turnW
  rw [this]
  omega
theorem turn_ret {w0 w : World} {F : List Nat} {L : List Res} {b : Nat} {s : CS} {X : CA} (hs : CPre s) (hS : St w0 F w (coopL 94 b s X ++ L)) :
    Ret Try.prog 60 #[.pointer (some ⟨b, 0, none⟩)] w fun v w' => ∃ X', St w0 F w' (coopL 94 b (turned s) X' ++ L) := by
  have hg := hs.g0
  have hp := hs.parts
  have hkl := keepH_len s
  have hsame := hs.same
  have hwl := hs.wlen
  refine s60 _ ?_
  unfold m60
  unfold m60_0
  refine nil_ok ?_
  first | refine valP_ok (fa94_0 _ _) ?_ | refine valP_ok (fao94_0 _ _ _) ?_
  first | refine valP_ok (ld3 (hS.cell 0 rfl rfl)) ?_ | refine valP_ok (ld3 (hS.cell 1 rfl rfl)) ?_ | refine valP_ok (ld3 (hS.cell 2 rfl rfl)) ?_ | refine valP_ok (ld3 (hS.cell 3 rfl rfl)) ?_ | refine valP_ok (ld3 (hS.cell 4 rfl rfl)) ?_ | refine valP_ok (ld3 (by assumption)) ?_
  refine valP_ok (add_ok _ _ _ (by omega) (by omega) _) ?_
  refine nil_ok ?_
  first | refine valP_ok (fa94_0 _ _) ?_ | refine valP_ok (fao94_0 _ _ _) ?_
  first | refine store_at 0 st3 hS rfl (by simp) rfl ?_ | refine store_at 1 st3 hS rfl (by simp) rfl ?_ | refine store_at 2 st3 hS rfl (by simp) rfl ?_ | refine store_at 3 st3 hS rfl (by simp) rfl ?_ | refine store_at 4 st3 hS rfl (by simp) rfl ?_
  intro w hS
  simp only [List.set_cons_zero, List.set_cons_succ] at hS
  unfold m60_1
  refine nil_ok ?_
  first | refine valP_ok (fa94_2 _ _) ?_ | refine valP_ok (fao94_2 _ _ _) ?_
  first | refine valP_ok (ld28 (hS.cell 0 rfl rfl)) ?_ | refine valP_ok (ld28 (hS.cell 1 rfl rfl)) ?_ | refine valP_ok (ld28 (hS.cell 2 rfl rfl)) ?_ | refine valP_ok (ld28 (hS.cell 3 rfl rfl)) ?_ | refine valP_ok (ld28 (hS.cell 4 rfl rfl)) ?_ | refine valP_ok (ld28 (by assumption)) ?_
  refine builtin_ok (len28 _) ?_
  unfold m60_13
  have hS : St w0 F w (coopL 94 b { s with g := s.g + 1 } X ++ L) := hS
  have hlen : s.M.length ≤ 8 := hs.len
  refine loop_in (fun u w' => ∃ p : Nat, u = .int .i64 p ∧ p ≤ s.H.length ∧ St w0 F w' (coopL 94 b { s with g := s.g + 1, H := partW s.H (keepH s) p } X ++ L)) (fun u _ => s.H.length - (intOf u).toNat) ⟨0, rfl, by omega, by rw [partW_zero]; exact hS⟩ ?_
  clear hS
  rintro u w ⟨p, rfl, hpp, hS⟩
  have hpl := partW_len hkl hpp
  unfold m60_14
  refine valP_ok (lss_ok _ _ _ _ _ _ _) ?_
  unfold m60_15
  refine cond_split (fun h => ?_) (fun h => ?_)
  · have hlt : p < s.H.length := by omega
    have hpt : p < (partW s.H (keepH s) p).length := by omega
    obtain ⟨g, hg2⟩ := hS.row_ptr 2 rfl (by simp only; omega)
    obtain ⟨m, cm, hh, ch, q, cq⟩ := X
    simp only at hg2
    subst hg2
    have hc := hS.row_cell 2 rfl (ints_get hpt)
    rw [partW_at hkl hlt] at hc
    have hga := keepH_at s p (by omega) hlt
    unfold m60_16
    first | refine valP_ok (ixz28 (by first | assumption | omega) _) ?_ | refine valP_ok (ix28 (by first | assumption | omega) _) ?_
    first | refine valP_ok (ld3 (hS.cell 0 rfl rfl)) ?_ | refine valP_ok (ld3 (hS.cell 1 rfl rfl)) ?_ | refine valP_ok (ld3 (hS.cell 2 rfl rfl)) ?_ | refine valP_ok (ld3 (hS.cell 3 rfl rfl)) ?_ | refine valP_ok (ld3 (hS.cell 4 rfl rfl)) ?_ | refine valP_ok (ld3 (by assumption)) ?_
    unfold m60_18
    refine callR (by kernel_rfl) (is_ret (by simp only; omega) hS _) ?_
    rintro v w ⟨rfl, rfl⟩
    first | refine valP_ok (not_ok _ _) ?_ | refine valP_ok (notb_ok _ _) ?_
    unfold m60_19
    refine cond_split (fun e => ?_) (fun e => ?_)
    · rw [if_neg e] at hga
      refine nil_ok ?_
      first | refine valP_ok (fa94_2 _ _) ?_ | refine valP_ok (fao94_2 _ _ _) ?_
      first | refine valP_ok (ld28 (hS.cell 0 rfl rfl)) ?_ | refine valP_ok (ld28 (hS.cell 1 rfl rfl)) ?_ | refine valP_ok (ld28 (hS.cell 2 rfl rfl)) ?_ | refine valP_ok (ld28 (hS.cell 3 rfl rfl)) ?_ | refine valP_ok (ld28 (hS.cell 4 rfl rfl)) ?_ | refine valP_ok (ld28 (by assumption)) ?_
      first | refine valP_ok (ixz28 (by first | assumption | omega) _) ?_ | refine valP_ok (ix28 (by first | assumption | omega) _) ?_
      refine set_irow 2 hS rfl hpt ?_
      intro w hS
      simp only [List.set_cons_zero, List.set_cons_succ, List.cons_append, List.nil_append] at hS
      unfold m60_17
      refine valP_ok (add_ok _ _ _ (by omega) (by omega) _) ?_
      refine ⟨⟨p + 1, rfl, by omega, ?_⟩, by simp [intOf]; omega⟩
      rw [partW_succ hkl hlt, hga]
      show St w0 F w ([_, _, _, _] ++ L)
      simp only [coopC, List.length_set] at hS ⊢
      exact hS
    · rw [if_pos (Decidable.not_not.1 e)] at hga
      unfold m60_17
      refine valP_ok (add_ok _ _ _ (by omega) (by omega) _) ?_
      refine ⟨⟨p + 1, rfl, by omega, ?_⟩, by simp [intOf]; omega⟩
      rw [partW_same hkl hlt hga]
      exact hS
  have hpe : p = s.H.length := by omega
  rw [hpe, partW_all hkl] at hS
  clear hpl h hpp hpe p
  unfold m60_2
  refine nil_ok ?_
  first | refine valP_ok (fa94_3 _ _) ?_ | refine valP_ok (fao94_3 _ _ _) ?_
  first | refine valP_ok (ld28 (hS.cell 0 rfl rfl)) ?_ | refine valP_ok (ld28 (hS.cell 1 rfl rfl)) ?_ | refine valP_ok (ld28 (hS.cell 2 rfl rfl)) ?_ | refine valP_ok (ld28 (hS.cell 3 rfl rfl)) ?_ | refine valP_ok (ld28 (hS.cell 4 rfl rfl)) ?_ | refine valP_ok (ld28 (by assumption)) ?_
  refine callR (by kernel_rfl) (clone_ret 3 hS rfl (by simp only; omega)) ?_
  rintro v w ⟨A, c, rfl, hS⟩
  simp only at hS
  unfold m60_3
  refine nil_ok ?_
  first | refine valP_ok (fa94_2 _ _) ?_ | refine valP_ok (fao94_2 _ _ _) ?_
  first | refine valP_ok (ld28 (hS.cell 0 rfl rfl)) ?_ | refine valP_ok (ld28 (hS.cell 1 rfl rfl)) ?_ | refine valP_ok (ld28 (hS.cell 2 rfl rfl)) ?_ | refine valP_ok (ld28 (hS.cell 3 rfl rfl)) ?_ | refine valP_ok (ld28 (hS.cell 4 rfl rfl)) ?_ | refine valP_ok (ld28 (by assumption)) ?_
  refine builtin_ok (len28 _) ?_
  unfold m60_6
  have hgw : (giveL (keepH s) s.W).length = s.W.length := by rw [giveL_len (by omega)]; omega
  refine loop_in (fun u w' => ∃ p : Nat, u = .int .i64 p ∧ p ≤ s.H.length ∧ St w0 F w' (irow (.slice A (partW s.W (giveL (keepH s) s.W) p).length c) (partW s.W (giveL (keepH s) s.W) p) :: (coopL 94 b { s with g := s.g + 1, H := keepH s } X ++ L))) (fun u _ => s.H.length - (intOf u).toNat) ⟨0, rfl, by omega, by rw [partW_zero]; exact hS⟩ ?_
  clear hS
  rintro u w ⟨p, rfl, hpp, hS⟩
  have hpl := partW_len hgw (p := p) (by omega)
  unfold m60_7
  refine valP_ok (lss_ok _ _ _ _ _ _ _) ?_
  unfold m60_8
  simp only
  refine cond_split (fun h => ?_) (fun h => ?_)
  · have hlt : p < s.H.length := by omega
    have hlk : p < (keepH s).length := by omega
    have hlw : p < s.W.length := by omega
    have hpt : p < (partW s.W (giveL (keepH s) s.W) p).length := by omega
    obtain ⟨g, hg2⟩ := hS.row_ptr 3 rfl (by simp only; omega)
    obtain ⟨m, cm, hh, ch, q, cq⟩ := X
    simp only at hg2
    subst hg2
    obtain ⟨g3, rfl⟩ := hS.row_ptr 0 rfl (by omega)
    have hc := hS.row_cell 3 rfl (ints_get hlk)
    have hga := giveL_at (H := keepH s) (W := s.W) p (by omega) hlk hlw
    unfold m60_9
    first | refine valP_ok (ixz28 (by first | assumption | omega) _) ?_ | refine valP_ok (ix28 (by first | assumption | omega) _) ?_
    first | refine valP_ok (ld3 (hS.cell 0 rfl rfl)) ?_ | refine valP_ok (ld3 (hS.cell 1 rfl rfl)) ?_ | refine valP_ok (ld3 (hS.cell 2 rfl rfl)) ?_ | refine valP_ok (ld3 (hS.cell 3 rfl rfl)) ?_ | refine valP_ok (ld3 (hS.cell 4 rfl rfl)) ?_ | refine valP_ok (ld3 (by assumption)) ?_
    unfold m60_11
    refine valP_ok (ne3 _ _ _ _ _) ?_
    unfold m60_12
    refine cond_split (fun e => ?_) (fun e => ?_)
    · rw [if_neg e] at hga
      refine valP_ok (ixz28 (by omega) _) ?_
      refine set_irow 0 hS rfl hpt ?_
      intro w hS
      simp only [List.set_cons_zero] at hS
      unfold m60_10
      refine valP_ok (add_ok _ _ _ (by omega) (by omega) _) ?_
      refine ⟨⟨p + 1, rfl, by omega, ?_⟩, by simp [intOf]; omega⟩
      rw [partW_succ hgw hlw, hga]
      exact hS
    · rw [if_pos (Decidable.not_not.1 e)] at hga
      unfold m60_10
      refine valP_ok (add_ok _ _ _ (by omega) (by omega) _) ?_
      refine ⟨⟨p + 1, rfl, by omega, ?_⟩, by simp [intOf]; omega⟩
      rw [partW_same hgw hlw hga]
      exact hS
  have hpe : p = s.W.length := by omega
  rw [hpe, partW_all hgw] at hS
  clear hpl h hpp hpe p
  rw [← hgw]
  unfold m60_4
  refine drawn_ok hS ?_
  intro w hS
  obtain ⟨J, hJ0, hj1, hj2, hJs⟩ : ∃ J : World → Prop, J w ∧ (∀ w, J w → w.cell? ⟨b, 2, none⟩ = some (.slice X.h (keepH s).length X.ch)) ∧ (∀ w, J w → w.cell? ⟨b, 1, none⟩ = some (.slice X.m s.M.length X.cm)) ∧
      (∀ w, w.cell? ⟨b, 2, none⟩ = some (.slice X.h (keepH s).length X.ch) → w.cell? ⟨b, 1, none⟩ = some (.slice X.m s.M.length X.cm) → J w) :=
    ⟨fun w => w.cell? ⟨b, 2, none⟩ = some (.slice X.h (keepH s).length X.ch) ∧ w.cell? ⟨b, 1, none⟩ = some (.slice X.m s.M.length X.cm), ⟨hS.cell 1 rfl rfl, hS.cell 1 rfl rfl⟩, fun w h => h.1, fun w h => h.2, fun w h1 h2 => ⟨h1, h2⟩⟩
  refine ⟨J, hJ0, ?_⟩
  refine nil_ok ?_
  first | refine valJ_ok (fa94_2 _) ?_ | refine valJ_ok (fao94_2 _ _) ?_
  first | refine valJ_load ld28 (AllH.cell 0 rfl rfl) ?_ | refine valJ_load ld28 (AllH.cell 1 rfl rfl) ?_ | refine valJ_load ld28 (AllH.cell 2 rfl rfl) ?_ | refine valJ_load ld28 (AllH.cell 3 rfl rfl) ?_ | refine valJ_load ld28 (AllH.cell 4 rfl rfl) ?_ | refine valJ_load ld28 (by assumption) ?_
  refine builtinJ_ok (len28) ?_
  refine nil_ok ?_
  first | refine valJ_ok (fa94_1 _) ?_ | refine valJ_ok (fao94_1 _ _) ?_
  first | refine valJ_load ld28 (AllH.cell 0 rfl rfl) ?_ | refine valJ_load ld28 (AllH.cell 1 rfl rfl) ?_ | refine valJ_load ld28 (AllH.cell 2 rfl rfl) ?_ | refine valJ_load ld28 (AllH.cell 3 rfl rfl) ?_ | refine valJ_load ld28 (AllH.cell 4 rfl rfl) ?_ | refine valJ_load ld28 (by assumption) ?_
  have hbo : ∀ x ∈ giveL (keepH s) s.W, -9223372036854775808 ≤ x ∧ x ≤ 9223372036854775807 := giveL_in (fun x hx => by
    obtain ⟨y, hy, rfl⟩ := List.mem_map.1 hx
    have := hs.bH y hy
    split <;> omega) (fun x hx => by have := hs.bW x hx; omega)
  refine callR (by kernel_rfl) (sticky_ret (by omega) (by omega) hS (Bes.of_row 2 rfl) (Bes.of_row 0 rfl) (by omega) hs.bM hbo) ?_
  intro v w hv
  have hbad : ¬ badParts ((keepH s).length : Int) := by rw [hkl]; exact hs.bad
  rw [if_neg hbad, hs.mem] at hv
  have eW : stickyL ((keepH s).length : Int) s.M (giveL (keepH s) s.W) = turnW s := by rw [hkl]; rfl
  rw [eW] at hv
  obtain ⟨A2, c2, rfl, hS⟩ := hv
  refine ⟨hJs w (hS.cell 2 rfl rfl) (hS.cell 2 rfl rfl), ?_⟩
  refine valJ_ok (extract_ok _ 0 rfl) ?_
  refine valJ_ok (extract_ok _ 1 rfl) ?_
  refine nil_ok ?_
  first | refine valJ_ok (fa94_3 _) ?_ | refine valJ_ok (fao94_3 _ _) ?_
  first | refine store_at 0 st28 hS rfl (by simp) rfl ?_ | refine store_at 1 st28 hS rfl (by simp) rfl ?_ | refine store_at 2 st28 hS rfl (by simp) rfl ?_ | refine store_at 3 st28 hS rfl (by simp) rfl ?_ | refine store_at 4 st28 hS rfl (by simp) rfl ?_
  intro w hS
  simp only [List.set_cons_zero, List.set_cons_succ] at hS
  refine ⟨hJs w (hS.cell 2 rfl rfl) (hS.cell 2 rfl rfl), ?_⟩
  have hS : St w0 F w (coopL 94 b ⟨s.g + 1, s.M, keepH s, turnW s⟩ ⟨X.m, X.cm, X.h, X.ch, A2, c2⟩ ++ L) := hS.pick 6 [2, 3, 4, 0] (by simp) (by decide)
  unfold m60_5
  refine callR (by kernel_rfl) (give_ret (by simp only; omega) (by simp only; omega) hS) ?_
  intro v w hS
  exact ⟨_, hS⟩

end Go.Proofs.Ytjjmlopmemmobaa.M
