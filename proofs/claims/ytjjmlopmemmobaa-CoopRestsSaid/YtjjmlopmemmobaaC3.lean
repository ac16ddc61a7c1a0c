/- What coop's own functions come to: who is a member, what is given, a generation. -/
import Derived.Test.YtjjmlopmemmobaaC2
namespace Go.Proofs.Ytjjmlopmemmobaa.M
open Go.Proofs.Ytjjmlopmemmobaa.F Go.RowKit
set_option linter.unusedVariables false
set_option linter.unusedSimpArgs false
set_option maxRecDepth 100000
set_option maxHeartbeats 2000000
attribute [local irreducible] Res.cells Res.row Res.map Res.any World.cell? World.frozen? Instr.fieldAt Instr.loadAt Instr.storeAt Instr.indexAt Instr.lookup Instr.mapUpdate Instr.box Instr.build Instr.buildSlice Instr.extract Instr.alloc Instr.field Instr.index Instr.sliceAt Instr.makeSlice Instr.makeMap Instr.makeFunc binS Op.unary Sem.run
open Go.Proofs.Ytjjmlopmemmobaa.L Go.Shelf
/-- A coop: its generation, its members, who has and who is to have each partition. -/
structure CS where
  g : Int
  M : List Int
  H : List Int
  W : List Int
structure CA where
  m : Option Addr
  cm : Nat
  h : Option Addr
  ch : Nat
  q : Option Addr
  cq : Nat
abbrev coopC (t b : Nat) (s : CS) (X : CA) : Res := Res.cells b t [.int .i64 s.g, .slice X.m s.M.length X.cm, .slice X.h s.H.length X.ch, .slice X.q s.W.length X.cq]
abbrev coopL (t b : Nat) (s : CS) (X : CA) : List Res := [coopC t b s X, irow (.slice X.m s.M.length X.cm) s.M, irow (.slice X.h s.H.length X.ch) s.H, irow (.slice X.q s.W.length X.cq) s.W]
theorem is_ret {w0 w : World} {F : List Nat} {L : List Res} {b : Nat} {s : CS} {X : CA} (hl : s.M.length ≤ 1000) (hS : St w0 F w (coopL 94 b s X ++ L)) (m : Int) :
    Ret Try.prog 61 #[.pointer (some ⟨b, 0, none⟩), .int .i64 m] w fun v w' => v = .bool (decide (m ∈ s.M)) ∧ w' = w := by
  refine s61 _ _ ?_
  unfold m61
  unfold m61_0
  unfold m61_1
  refine nil_ok ?_
  first | refine valP_ok (fa94_1 _ _) ?_ | refine valP_ok (fao94_1 _ _ _) ?_
  first | refine valP_ok (ld28 (hS.cell 0 rfl rfl)) ?_ | refine valP_ok (ld28 (hS.cell 1 rfl rfl)) ?_ | refine valP_ok (ld28 (hS.cell 2 rfl rfl)) ?_ | refine valP_ok (ld28 (hS.cell 3 rfl rfl)) ?_ | refine valP_ok (ld28 (hS.cell 4 rfl rfl)) ?_ | refine valP_ok (ld28 (by assumption)) ?_
  refine callR (by kernel_rfl) (contains_ret _ _ s.M m w (hS.row_rd 1 rfl) (by omega)) ?_
  rintro v w ⟨rfl, rfl⟩
  unfold m61_2
  exact ⟨rfl, rfl⟩
theorem gen_ret {w0 w : World} {F : List Nat} {L : List Res} {b : Nat} {s : CS} {X : CA} (hS : St w0 F w (coopL 94 b s X ++ L)) :
    Ret Try.prog 35 #[.pointer (some ⟨b, 0, none⟩)] w fun v w' => v = .int .i64 s.g ∧ w' = w := by
  refine s35 _ ?_
  unfold m35
  unfold m35_0
  unfold m35_1
  first | refine valP_ok (eq23n _ _ _) ?_ | refine valP_ok (eq23s _ _ _ _) ?_
  unfold m35_4
  refine cond_f rfl ?_
  unfold m35_2
  refine nil_ok ?_
  first | refine valP_ok (fa94_0 _ _) ?_ | refine valP_ok (fao94_0 _ _ _) ?_
  first | refine valP_ok (ld3 (hS.cell 0 rfl rfl)) ?_ | refine valP_ok (ld3 (hS.cell 1 rfl rfl)) ?_ | refine valP_ok (ld3 (hS.cell 2 rfl rfl)) ?_ | refine valP_ok (ld3 (hS.cell 3 rfl rfl)) ?_ | refine valP_ok (ld3 (hS.cell 4 rfl rfl)) ?_ | refine valP_ok (ld3 (by assumption)) ?_
  unfold m35_3
  exact ⟨rfl, rfl⟩
theorem members_clone {w0 w : World} {F : List Nat} {L : List Res} {b : Nat} {s : CS} {X : CA} (hl : s.M.length ≤ 1000) (hS : St w0 F w (coopL 94 b s X ++ L)) :
    Ret Try.prog 18 #[.pointer (some ⟨b, 0, none⟩)] w fun v w' => ∃ A c, v = .slice A s.M.length c ∧ St w0 F w' (irow (.slice A s.M.length c) s.M :: (coopL 94 b s X ++ L)) := by
  refine s18 _ ?_
  unfold m18
  unfold m18_0
  unfold m18_1
  first | refine valP_ok (eq23n _ _ _) ?_ | refine valP_ok (eq23s _ _ _ _) ?_
  unfold m18_4
  refine cond_f rfl ?_
  unfold m18_2
  refine nil_ok ?_
  first | refine valP_ok (fa94_1 _ _) ?_ | refine valP_ok (fao94_1 _ _ _) ?_
  first | refine valP_ok (ld28 (hS.cell 0 rfl rfl)) ?_ | refine valP_ok (ld28 (hS.cell 1 rfl rfl)) ?_ | refine valP_ok (ld28 (hS.cell 2 rfl rfl)) ?_ | refine valP_ok (ld28 (hS.cell 3 rfl rfl)) ?_ | refine valP_ok (ld28 (hS.cell 4 rfl rfl)) ?_ | refine valP_ok (ld28 (by assumption)) ?_
  refine callR (by kernel_rfl) (clone_ret 1 hS rfl (by omega)) ?_
  rintro v w ⟨A, c, rfl, hS⟩
  unfold m18_3
  exact ⟨A, c, rfl, hS⟩
theorem have_clone {w0 w : World} {F : List Nat} {L : List Res} {b : Nat} {s : CS} {X : CA} (hl : s.H.length ≤ 1000) (hS : St w0 F w (coopL 94 b s X ++ L)) :
    Ret Try.prog 19 #[.pointer (some ⟨b, 0, none⟩)] w fun v w' => ∃ A c, v = .slice A s.H.length c ∧ St w0 F w' (irow (.slice A s.H.length c) s.H :: (coopL 94 b s X ++ L)) := by
  refine s19 _ ?_
  unfold m19
  unfold m19_0
  unfold m19_1
  first | refine valP_ok (eq23n _ _ _) ?_ | refine valP_ok (eq23s _ _ _ _) ?_
  unfold m19_4
  refine cond_f rfl ?_
  unfold m19_2
  refine nil_ok ?_
  first | refine valP_ok (fa94_2 _ _) ?_ | refine valP_ok (fao94_2 _ _ _) ?_
  first | refine valP_ok (ld28 (hS.cell 0 rfl rfl)) ?_ | refine valP_ok (ld28 (hS.cell 1 rfl rfl)) ?_ | refine valP_ok (ld28 (hS.cell 2 rfl rfl)) ?_ | refine valP_ok (ld28 (hS.cell 3 rfl rfl)) ?_ | refine valP_ok (ld28 (hS.cell 4 rfl rfl)) ?_ | refine valP_ok (ld28 (by assumption)) ?_
  refine callR (by kernel_rfl) (clone_ret 2 hS rfl (by omega)) ?_
  rintro v w ⟨A, c, rfl, hS⟩
  unfold m19_3
  exact ⟨A, c, rfl, hS⟩
theorem want_clone {w0 w : World} {F : List Nat} {L : List Res} {b : Nat} {s : CS} {X : CA} (hl : s.W.length ≤ 1000) (hS : St w0 F w (coopL 94 b s X ++ L)) :
    Ret Try.prog 20 #[.pointer (some ⟨b, 0, none⟩)] w fun v w' => ∃ A c, v = .slice A s.W.length c ∧ St w0 F w' (irow (.slice A s.W.length c) s.W :: (coopL 94 b s X ++ L)) := by
  refine s20 _ ?_
  unfold m20
  unfold m20_0
  unfold m20_1
  first | refine valP_ok (eq23n _ _ _) ?_ | refine valP_ok (eq23s _ _ _ _) ?_
  unfold m20_4
  refine cond_f rfl ?_
  unfold m20_2
  refine nil_ok ?_
  first | refine valP_ok (fa94_3 _ _) ?_ | refine valP_ok (fao94_3 _ _ _) ?_
  first | refine valP_ok (ld28 (hS.cell 0 rfl rfl)) ?_ | refine valP_ok (ld28 (hS.cell 1 rfl rfl)) ?_ | refine valP_ok (ld28 (hS.cell 2 rfl rfl)) ?_ | refine valP_ok (ld28 (hS.cell 3 rfl rfl)) ?_ | refine valP_ok (ld28 (hS.cell 4 rfl rfl)) ?_ | refine valP_ok (ld28 (by assumption)) ?_
  refine callR (by kernel_rfl) (clone_ret 3 hS rfl (by omega)) ?_
  rintro v w ⟨A, c, rfl, hS⟩
  unfold m20_3
  exact ⟨A, c, rfl, hS⟩
theorem rests_ret {w0 w : World} {F : List Nat} {L : List Res} {b : Nat} {s : CS} {X : CA} (hl : s.H.length ≤ 1000) (hS : St w0 F w (coopL 94 b s X ++ L)) :
    Ret Try.prog 23 #[.pointer (some ⟨b, 0, none⟩)] w fun v w' => v = .bool (decide (s.H = s.W)) ∧ St w0 F w' (coopL 94 b s X ++ L) := by
  refine s23 _ ?_
  unfold m23
  unfold m23_0
  unfold m23_1
  refine drawn_ok hS ?_
  intro w hS
  first | refine valS_ok (ne23n _ _ _) ?_ | refine valS_ok (ne23s _ _ _ _) ?_
  refine cond_t rfl ?_
  refine nil_ok ?_
  first | refine valS_ok (fa94_2 _ _) ?_ | refine valS_ok (fao94_2 _ _ _) ?_
  first | refine valS_ok (ld28 (hS.cell 0 rfl rfl)) ?_ | refine valS_ok (ld28 (hS.cell 1 rfl rfl)) ?_ | refine valS_ok (ld28 (hS.cell 2 rfl rfl)) ?_ | refine valS_ok (ld28 (hS.cell 3 rfl rfl)) ?_ | refine valS_ok (ld28 (hS.cell 4 rfl rfl)) ?_ | refine valS_ok (ld28 (by assumption)) ?_
  refine nil_ok ?_
  first | refine valS_ok (fa94_3 _ _) ?_ | refine valS_ok (fao94_3 _ _ _) ?_
  first | refine valS_ok (ld28 (hS.cell 0 rfl rfl)) ?_ | refine valS_ok (ld28 (hS.cell 1 rfl rfl)) ?_ | refine valS_ok (ld28 (hS.cell 2 rfl rfl)) ?_ | refine valS_ok (ld28 (hS.cell 3 rfl rfl)) ?_ | refine valS_ok (ld28 (hS.cell 4 rfl rfl)) ?_ | refine valS_ok (ld28 (by assumption)) ?_
  refine callR (by kernel_rfl) (equal_ret (by omega) hS (Bes.of_row 2 rfl) (Bes.of_row 3 rfl)) ?_
  rintro v w ⟨rfl, hS⟩
  first | refine pick_dt (by first | assumption | omega) ?_ | refine pick_df (by first | assumption | omega) ?_ | refine pick_t (by first | rfl | assumption) ?_ | refine pick_f (by first | rfl | assumption) ?_ | refine pick_dt rfl ?_ | refine pick_df (not_not_intro rfl) ?_
  unfold m23_2
  exact ⟨rfl, hS⟩
/-- What nobody has goes to whom it is to go. -/
def giveL (H W : List Int) : List Int := List.zipWith (fun h w => if h = 0 then w else h) H W
theorem giveL_len {H W : List Int} (h : W.length = H.length) : (giveL H W).length = H.length := by simp [giveL, h]
theorem giveL_at {H W : List Int} (i : Nat) (h : i < (giveL H W).length) (h1 : i < H.length) (h2 : i < W.length) : (giveL H W)[i] = if H[i] = 0 then W[i] else H[i] := by simp [giveL]
theorem give_ret {w0 w : World} {F : List Nat} {L : List Res} {b : Nat} {s : CS} {X : CA} (hl : s.H.length ≤ 1000) (hw : s.W.length = s.H.length) (hS : St w0 F w (coopL 94 b s X ++ L)) :
    Ret Try.prog 67 #[.pointer (some ⟨b, 0, none⟩)] w fun v w' => St w0 F w' (coopL 94 b { s with H := giveL s.H s.W } X ++ L) := by
  have hgl := giveL_len hw
  refine s67 _ ?_
  unfold m67
  unfold m67_0
  refine nil_ok ?_
  first | refine valP_ok (fa94_2 _ _) ?_ | refine valP_ok (fao94_2 _ _ _) ?_
  first | refine valP_ok (ld28 (hS.cell 0 rfl rfl)) ?_ | refine valP_ok (ld28 (hS.cell 1 rfl rfl)) ?_ | refine valP_ok (ld28 (hS.cell 2 rfl rfl)) ?_ | refine valP_ok (ld28 (hS.cell 3 rfl rfl)) ?_ | refine valP_ok (ld28 (hS.cell 4 rfl rfl)) ?_ | refine valP_ok (ld28 (by assumption)) ?_
  refine builtin_ok (len28 _) ?_
  unfold m67_1
  refine loop_in (fun u w' => ∃ p : Nat, u = .int .i64 p ∧ p ≤ s.H.length ∧ St w0 F w' (coopL 94 b { s with H := partW s.H (giveL s.H s.W) p } X ++ L)) (fun u _ => s.H.length - (intOf u).toNat) ⟨0, rfl, by omega, by rw [partW_zero]; exact hS⟩ ?_
  clear hS
  rintro u w ⟨p, rfl, hp, hS⟩
  have hpl := partW_len hgl hp
  unfold m67_2
  refine valP_ok (lss_ok _ _ _ _ _ _ _) ?_
  unfold m67_3
  refine cond_split (fun h => ?_) (fun h => ?_)
  · have hlt : p < s.H.length := by omega
    have hlw : p < s.W.length := by omega
    have hpt : p < (partW s.H (giveL s.H s.W) p).length := by omega
    obtain ⟨g, hg⟩ := hS.row_ptr 2 rfl (by simp only; omega)
    obtain ⟨m, cm, hh, ch, q, cq⟩ := X
    simp only at hg
    subst hg
    obtain ⟨g2, hg2⟩ := hS.row_ptr 3 rfl (by simp only; omega)
    simp only at hg2
    subst hg2
    have hc := hS.row_cell 2 rfl (ints_get hpt)
    rw [partW_at hgl hlt] at hc
    have hga := giveL_at (H := s.H) (W := s.W) p (by omega) hlt hlw
    unfold m67_4
    first | refine valP_ok (ixz28 (by first | assumption | omega) _) ?_ | refine valP_ok (ix28 (by first | assumption | omega) _) ?_
    first | refine valP_ok (ld3 (hS.cell 0 rfl rfl)) ?_ | refine valP_ok (ld3 (hS.cell 1 rfl rfl)) ?_ | refine valP_ok (ld3 (hS.cell 2 rfl rfl)) ?_ | refine valP_ok (ld3 (hS.cell 3 rfl rfl)) ?_ | refine valP_ok (ld3 (hS.cell 4 rfl rfl)) ?_ | refine valP_ok (ld3 (by assumption)) ?_
    unfold m67_6
    refine valP_ok (eq3 _ _ _ _ _) ?_
    unfold m67_7
    refine cond_split (fun e => ?_) (fun e => ?_)
    · refine drawn_ok hS ?_
      intro w hS
      have hc3 := hS.row_cell 3 rfl (ints_get hlw)
      refine nil_ok ?_
      first | refine valS_ok (fa94_2 _ _) ?_ | refine valS_ok (fao94_2 _ _ _) ?_
      first | refine valS_ok (ld28 (hS.cell 0 rfl rfl)) ?_ | refine valS_ok (ld28 (hS.cell 1 rfl rfl)) ?_ | refine valS_ok (ld28 (hS.cell 2 rfl rfl)) ?_ | refine valS_ok (ld28 (hS.cell 3 rfl rfl)) ?_ | refine valS_ok (ld28 (hS.cell 4 rfl rfl)) ?_ | refine valS_ok (ld28 (by assumption)) ?_
      refine nil_ok ?_
      first | refine valS_ok (fa94_3 _ _) ?_ | refine valS_ok (fao94_3 _ _ _) ?_
      first | refine valS_ok (ld28 (hS.cell 0 rfl rfl)) ?_ | refine valS_ok (ld28 (hS.cell 1 rfl rfl)) ?_ | refine valS_ok (ld28 (hS.cell 2 rfl rfl)) ?_ | refine valS_ok (ld28 (hS.cell 3 rfl rfl)) ?_ | refine valS_ok (ld28 (hS.cell 4 rfl rfl)) ?_ | refine valS_ok (ld28 (by assumption)) ?_
      first | refine valS_ok (ixz28 (by first | assumption | omega) _) ?_ | refine valS_ok (ix28 (by first | assumption | omega) _) ?_
      first | refine valS_ok (ld3 (hS.cell 0 rfl rfl)) ?_ | refine valS_ok (ld3 (hS.cell 1 rfl rfl)) ?_ | refine valS_ok (ld3 (hS.cell 2 rfl rfl)) ?_ | refine valS_ok (ld3 (hS.cell 3 rfl rfl)) ?_ | refine valS_ok (ld3 (hS.cell 4 rfl rfl)) ?_ | refine valS_ok (ld3 (by assumption)) ?_
      first | refine valS_ok (ixz28 (by first | assumption | omega) _) ?_ | refine valS_ok (ix28 (by first | assumption | omega) _) ?_
      refine set_irow 2 hS rfl hpt ?_
      intro w hS
      simp only [List.set_cons_zero, List.set_cons_succ, List.cons_append, List.nil_append] at hS
      rw [if_pos e] at hga
      unfold m67_5
      refine valP_ok (add_ok _ _ _ (by omega) (by omega) _) ?_
      refine ⟨⟨p + 1, rfl, by omega, ?_⟩, by simp [intOf]; omega⟩
      rw [partW_succ hgl hlt, hga]
      show St w0 F w ([_, _, _, _] ++ L)
      simp only [coopC, List.length_set] at hS ⊢
      exact hS
    · rw [if_neg e] at hga
      unfold m67_5
      refine valP_ok (add_ok _ _ _ (by omega) (by omega) _) ?_
      refine ⟨⟨p + 1, rfl, by omega, ?_⟩, by simp [intOf]; omega⟩
      rw [partW_same hgl hlt hga]
      exact hS
  · have hpe : p = s.H.length := by omega
    subst hpe
    rw [partW_all hgl] at hS
    exact hS

end Go.Proofs.Ytjjmlopmemmobaa.M
