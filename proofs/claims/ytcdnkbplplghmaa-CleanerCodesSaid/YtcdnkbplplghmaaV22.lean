/- Records, taken. -/
import Derived.Test.YtcdnkbplplghmaaV21
import Derived.Test.YtcdnkbplplghmaaFwW
import Derived.Test.YtcdnkbplplghmaaFwB
import Derived.Test.YtcdnkbplplghmaaMrec0
namespace Go.Proofs.Ytcdnkbplplghmaa.M
open Go.Proofs.Ytcdnkbplplghmaa.F Go.RowKit
set_option linter.unusedVariables false
set_option linter.unusedSimpArgs false
set_option maxRecDepth 100000
set_option maxHeartbeats 2000000
attribute [local irreducible] Res.cells Res.row Res.map Res.any World.cell? World.frozen? Instr.fieldAt Instr.loadAt Instr.storeAt Instr.indexAt Instr.lookup Instr.mapUpdate Instr.box Instr.build Instr.buildSlice Instr.extract Instr.alloc Instr.field Instr.index Instr.sliceAt Instr.makeSlice Instr.makeMap Instr.makeFunc binS Op.unary Sem.run
/-- the record with which bytes begin, and what is behind it. -/
def takeRec (s : ByteArray) : Option (Rc × ByteArray) := match takeS s with
  | none => none
  | some (k, s1) => match takeS s1 with
    | none => none
    | some (t, s2) => match textS s2 512 with
      | none => none
      | some (x, s3) => if MayR ⟨k, t, x⟩ then some (⟨k, t, x⟩, s3) else none
abbrev noRec : Value := .tuple #[rv ⟨0, 0, ⟨#[]⟩⟩, .string ⟨#[]⟩, .int .i64 2]
def recV (s : ByteArray) : Value := match takeRec s with
  | none => noRec
  | some (r, x) => .tuple #[rv r, .string x, .int .i64 0]
theorem takeAll2 (s : ByteArray) : takeAllS 2 s = match takeS s with
  | none => none
  | some (k, s1) => match takeS s1 with
    | none => none
    | some (t, s2) => some ([k, t], s2) := by
  rw [takeAllS_succ]
  cases takeS s with
  | none => rfl
  | some p =>
    obtain ⟨k, s1⟩ := p
    simp only
    rw [takeAllS_succ]
    cases takeS s1 with
    | none => rfl
    | some q => rfl
section
variable {w0 w : World} {F : List Nat} {L : List Res} {s : ByteArray}
theorem takerec_ret (hS : St w0 F w L) : Ret Try.prog 41 #[.string s] w fun v w' => v = recV s ∧ St w0 F w' L := by
  refine s41 _ ?_
  unfold m41
  unfold m41_0
  refine new_ok (al38 _) hS ?_
  intro b2 w hS
  unfold m41_1
  refine callR (by kernel_rfl) (takeall_ret (n := 2) (by omega) hS) ?_
  intro v w hR
  rw [takeAll2] at hR
  have e : recV s = (match takeAllS 2 s with
    | some ([k, t], s2) => (match textS s2 512 with
      | none => noRec
      | some (x, s3) => if MayR ⟨k, t, x⟩ then .tuple #[rv ⟨k, t, x⟩, .string s3, .int .i64 0] else noRec)
    | _ => noRec) := by
    rw [takeAll2]
    unfold recV takeRec
    cases takeS s with
    | none => rfl
    | some p =>
      obtain ⟨k, s1⟩ := p
      simp only
      cases takeS s1 with
      | none => rfl
      | some q =>
        obtain ⟨t, s2⟩ := q
        simp only
        cases textS s2 512 with
        | none => rfl
        | some q =>
          obtain ⟨x, s3⟩ := q
          simp only
          by_cases h : MayR ⟨k, t, x⟩
          · rw [if_pos h, if_pos h]
          · rw [if_neg h, if_neg h]
  rw [e]
  rw [← takeAll2] at hR
  clear e
  have bad : ∀ e w, (e : Int) = 2 → St w0 F w (Res.cells b2 38 (encR ⟨0, 0, ⟨#[]⟩⟩) :: L) → ∀ (t5 t6 : Value), m41_13 (fun v w' => v = noRec ∧ St w0 F w' L) (.pointer (some ⟨b2, 0, none⟩)) (.string ⟨#[]⟩) (.int .i64 e) w := fun e w he hS _ _ => by
    subst he
    unfold m41_13
    refine valS_ok (lc38 (hS.cell 0 rfl rfl) (hS.cell 0 rfl rfl) (hS.cell 0 rfl rfl)) ?_
    exact ⟨rfl, hS.tail⟩
  cases hh : takeAllS 2 s with
  | none =>
    rw [hh] at hR
    obtain ⟨rfl, hS⟩ := hR
    simp only
    refine valP_ok (extract_ok _ 0 rfl _) ?_
    refine valP_ok (extract_ok _ 1 rfl _) ?_
    refine valP_ok (extract_ok _ 2 rfl _) ?_
    unfold m41_2
    refine valP_ok (ne42 _ _ _ _ _) ?_
    unfold m41_12
    refine cond_dt (by omega) ?_
    refine valP_ok (bd38 _) ?_
    first | refine ss38 0 hS rfl rfl rfl rfl ?_ | refine ss38 1 hS rfl rfl rfl rfl ?_ | refine ss38 2 hS rfl rfl rfl rfl ?_ | refine ss38 3 hS rfl rfl rfl rfl ?_ | refine ss38 4 hS rfl rfl rfl rfl ?_ | refine ss38 5 hS rfl rfl rfl rfl ?_ | refine ss38 6 hS rfl rfl rfl rfl ?_ | refine ss38 7 hS rfl rfl rfl rfl ?_
    intro w hS
    simp only [List.set_cons_zero, List.set_cons_succ] at hS
    exact bad _ _ rfl hS .nilIface .nilIface
  | some p =>
    obtain ⟨l, s2⟩ := p
    rw [hh] at hR
    obtain ⟨A, c, rfl, hl, hS⟩ := hR
    obtain ⟨k, t, rfl⟩ : ∃ k t, l = [k, t] := by
      match l, hl with
      | [k, t], _ => exact ⟨k, t, rfl⟩
    simp only
    refine valP_ok (extract_ok _ 0 rfl _) ?_
    refine valP_ok (extract_ok _ 1 rfl _) ?_
    refine valP_ok (extract_ok _ 2 rfl _) ?_
    unfold m41_2
    refine valP_ok (ne42 _ _ _ _ _) ?_
    unfold m41_12
    refine cond_df (by omega) ?_
    unfold m41_3
    refine callR (by kernel_rfl) (text_ret hS) ?_
    rintro _ w ⟨rfl, hS⟩
    have bad2 : ∀ (r9 : Rc) b9 w x, St w0 F w (Res.cells b9 38 (encR r9) :: iRow A c [k, t] :: Res.cells b2 38 (encR ⟨0, 0, ⟨#[]⟩⟩) :: L) → m41_9 (fun v w' => v = noRec ∧ St w0 F w' L) (.pointer (some ⟨b2, 0, none⟩)) (.string x) (.pointer (some ⟨b9, 0, none⟩)) (.bool true) w := fun r9 b9 w x hS => by
      unfold m41_9
      refine cond_t rfl ?_
      refine valP_ok (bd38 _) ?_
      first | refine ss38 0 hS rfl rfl rfl rfl ?_ | refine ss38 1 hS rfl rfl rfl rfl ?_ | refine ss38 2 hS rfl rfl rfl rfl ?_ | refine ss38 3 hS rfl rfl rfl rfl ?_ | refine ss38 4 hS rfl rfl rfl rfl ?_ | refine ss38 5 hS rfl rfl rfl rfl ?_ | refine ss38 6 hS rfl rfl rfl rfl ?_ | refine ss38 7 hS rfl rfl rfl rfl ?_
      intro w hS
      simp only [List.set_cons_zero, List.set_cons_succ] at hS
      unfold m41_10
      refine valS_ok (lc38 (hS.cell 2 rfl rfl) (hS.cell 2 rfl rfl) (hS.cell 2 rfl rfl)) ?_
      exact ⟨rfl, hS.tail.tail.tail⟩
    unfold textV
    cases hx : textS s2 512 with
    | none =>
      simp only
      refine valP_ok (extract_ok _ 0 rfl _) ?_
      refine valP_ok (extract_ok _ 1 rfl _) ?_
      refine valP_ok (extract_ok _ 2 rfl _) ?_
      unfold m41_4
      refine valP_ok (bd38 _) ?_
      refine new_ok (al38 _) hS ?_
      intro b9 w hS
      first | refine ss38 0 hS rfl rfl rfl rfl ?_ | refine ss38 1 hS rfl rfl rfl rfl ?_ | refine ss38 2 hS rfl rfl rfl rfl ?_ | refine ss38 3 hS rfl rfl rfl rfl ?_ | refine ss38 4 hS rfl rfl rfl rfl ?_ | refine ss38 5 hS rfl rfl rfl rfl ?_ | refine ss38 6 hS rfl rfl rfl rfl ?_ | refine ss38 7 hS rfl rfl rfl rfl ?_
      intro w hS
      simp only [List.set_cons_zero, List.set_cons_succ] at hS
      unfold m41_5
      refine valP_ok (eq42 _ _ _ _ _) ?_
      unfold m41_11
      refine cond_df (by omega) ?_
      unfold m41_6
      refine valP_ok (ne42 _ _ _ _ _) ?_
      refine cond_dt (by omega) ?_
      first | refine pick_dt (by first | assumption | omega) ?_ | refine pick_df (by first | assumption | omega) ?_ | refine pick_t (by first | rfl | assumption) ?_ | refine pick_f (by first | rfl | assumption) ?_ | refine pick_dt rfl ?_ | refine pick_df (not_not_intro rfl) ?_
      exact bad2 ⟨0, 0, ⟨#[]⟩⟩ _ _ _ hS
    | some q =>
      obtain ⟨x, s3⟩ := q
      simp only
      refine valP_ok (extract_ok _ 0 rfl _) ?_
      refine valP_ok (extract_ok _ 1 rfl _) ?_
      refine valP_ok (extract_ok _ 2 rfl _) ?_
      unfold m41_4
      refine valP_ok (bd38 _) ?_
      refine new_ok (al38 _) hS ?_
      intro b9 w hS
      first | refine ss38 0 hS rfl rfl rfl rfl ?_ | refine ss38 1 hS rfl rfl rfl rfl ?_ | refine ss38 2 hS rfl rfl rfl rfl ?_ | refine ss38 3 hS rfl rfl rfl rfl ?_ | refine ss38 4 hS rfl rfl rfl rfl ?_ | refine ss38 5 hS rfl rfl rfl rfl ?_ | refine ss38 6 hS rfl rfl rfl rfl ?_ | refine ss38 7 hS rfl rfl rfl rfl ?_
      intro w hS
      simp only [List.set_cons_zero, List.set_cons_succ] at hS
      unfold m41_5
      refine valP_ok (eq42 _ _ _ _ _) ?_
      unfold m41_11
      refine cond_dt (by omega) ?_
      obtain ⟨g, rfl⟩ := hS.row_ptr 1 rfl (by simp)
      refine drawn_ok hS ?_
      intro w hS
      refine valS_ok (ixz63 (k := 0) (by simp) _) ?_
      refine valS_ok (ld3 (hS.row_cell 1 rfl (u := .int .i64 k) rfl)) ?_
      refine valS_ok (ixz63 (k := 1) (by simp) _) ?_
      refine valS_ok (ld3 (hS.row_cell 1 rfl (u := .int .i64 t) rfl)) ?_
      refine valS_ok (bd38_0_1_2 rfl rfl rfl _) ?_
      first | refine ss38 0 hS rfl rfl rfl rfl ?_ | refine ss38 1 hS rfl rfl rfl rfl ?_ | refine ss38 2 hS rfl rfl rfl rfl ?_ | refine ss38 3 hS rfl rfl rfl rfl ?_ | refine ss38 4 hS rfl rfl rfl rfl ?_ | refine ss38 5 hS rfl rfl rfl rfl ?_ | refine ss38 6 hS rfl rfl rfl rfl ?_ | refine ss38 7 hS rfl rfl rfl rfl ?_
      intro w hS
      simp only [List.set_cons_zero, List.set_cons_succ] at hS
      unfold m41_6
      refine valP_ok (ne42 _ _ _ _ _) ?_
      refine cond_df (by omega) ?_
      first | refine ls38 0 hS rfl ?_ | refine ls38 1 hS rfl ?_ | refine ls38 2 hS rfl ?_ | refine ls38 3 hS rfl ?_ | refine ls38 4 hS rfl ?_ | refine ls38 5 hS rfl ?_ | refine ls38 6 hS rfl ?_ | refine ls38 7 hS rfl ?_ | refine valP_ok (ld38 (by assumption) (by assumption) (by assumption)) ?_
      refine callR (by kernel_rfl) (may_ret (r := ⟨k, t, x⟩) hS) ?_
      rintro _ w ⟨⟨m, rfl, hm⟩, hS⟩
      first | refine valP_ok (not_ok _ _) ?_ | refine valP_ok (notb_ok _ _) ?_
      first | refine pick_dt (by first | assumption | omega) ?_ | refine pick_df (by first | assumption | omega) ?_ | refine pick_t (by first | rfl | assumption) ?_ | refine pick_f (by first | rfl | assumption) ?_ | refine pick_dt rfl ?_ | refine pick_df (not_not_intro rfl) ?_
      cases m with
      | true =>
        rw [if_pos (hm.1 rfl)]
        unfold m41_9
        refine cond_f rfl ?_
        unfold m41_7
        first | refine ls38 0 hS rfl ?_ | refine ls38 1 hS rfl ?_ | refine ls38 2 hS rfl ?_ | refine ls38 3 hS rfl ?_ | refine ls38 4 hS rfl ?_ | refine ls38 5 hS rfl ?_ | refine ls38 6 hS rfl ?_ | refine ls38 7 hS rfl ?_ | refine valP_ok (ld38 (by assumption) (by assumption) (by assumption)) ?_
        first | refine ss38 0 hS rfl rfl rfl rfl ?_ | refine ss38 1 hS rfl rfl rfl rfl ?_ | refine ss38 2 hS rfl rfl rfl rfl ?_ | refine ss38 3 hS rfl rfl rfl rfl ?_ | refine ss38 4 hS rfl rfl rfl rfl ?_ | refine ss38 5 hS rfl rfl rfl rfl ?_ | refine ss38 6 hS rfl rfl rfl rfl ?_ | refine ss38 7 hS rfl rfl rfl rfl ?_
        intro w hS
        simp only [List.set_cons_zero, List.set_cons_succ] at hS
        unfold m41_8
        refine valS_ok (lc38 (hS.cell 2 rfl rfl) (hS.cell 2 rfl rfl) (hS.cell 2 rfl rfl)) ?_
        exact ⟨rfl, hS.tail.tail.tail⟩
      | false =>
        rw [if_neg (fun h => by have := hm.2 h; cases this)]
        exact bad2 ⟨k, t, x⟩ _ _ _ hS
theorem rec_main {e1 e2 e3 : Int} {r : Rc} {q : ByteArray} {b14 b2 : Nat} (hS : St w0 F w (Res.cells b14 38 (encR r) :: Res.cells b2 38 (encR ⟨0, 0, ⟨#[]⟩⟩) :: L)) : m44_5 (fun v w' => v = (if e1 = 0 ∧ e2 = 0 ∧ e3 = 0 ∧ MayR r then .tuple #[rv r, .string q, .int .i64 0] else noRec) ∧ St w0 F w' L) (.pointer (some ⟨b2, 0, none⟩)) (.int .i64 e1) (.int .i64 e2) (.string q) (.int .i64 e3) (.pointer (some ⟨b14, 0, none⟩)) w := by
  have leaf : ∀ t : Bool, (t = true ↔ ¬ (e1 = 0 ∧ e2 = 0 ∧ e3 = 0 ∧ MayR r)) → ∀ w, St w0 F w (Res.cells b14 38 (encR r) :: Res.cells b2 38 (encR ⟨0, 0, ⟨#[]⟩⟩) :: L) → m44_8 (fun v w' => v = (if e1 = 0 ∧ e2 = 0 ∧ e3 = 0 ∧ MayR r then .tuple #[rv r, .string q, .int .i64 0] else noRec) ∧ St w0 F w' L) (.pointer (some ⟨b2, 0, none⟩)) (.string q) (.pointer (some ⟨b14, 0, none⟩)) (.bool t) w := fun t ht w hS => by
    unfold m44_8
    cases t with
    | true =>
      rw [if_neg (ht.1 rfl)]
      refine cond_t rfl ?_
      refine valP_ok (bd38 _) ?_
      first | refine ss38 0 hS rfl rfl rfl rfl ?_ | refine ss38 1 hS rfl rfl rfl rfl ?_ | refine ss38 2 hS rfl rfl rfl rfl ?_ | refine ss38 3 hS rfl rfl rfl rfl ?_ | refine ss38 4 hS rfl rfl rfl rfl ?_ | refine ss38 5 hS rfl rfl rfl rfl ?_ | refine ss38 6 hS rfl rfl rfl rfl ?_ | refine ss38 7 hS rfl rfl rfl rfl ?_
      intro w hS
      simp only [List.set_cons_zero, List.set_cons_succ] at hS
      unfold m44_9
      refine valS_ok (lc38 (hS.cell 1 rfl rfl) (hS.cell 1 rfl rfl) (hS.cell 1 rfl rfl)) ?_
      exact ⟨rfl, hS.tail.tail⟩
    | false =>
      have h : e1 = 0 ∧ e2 = 0 ∧ e3 = 0 ∧ MayR r := Classical.byContradiction fun h => by have := ht.2 h; cases this
      rw [if_pos h]
      refine cond_f rfl ?_
      unfold m44_6
      first | refine ls38 0 hS rfl ?_ | refine ls38 1 hS rfl ?_ | refine ls38 2 hS rfl ?_ | refine ls38 3 hS rfl ?_ | refine ls38 4 hS rfl ?_ | refine ls38 5 hS rfl ?_ | refine ls38 6 hS rfl ?_ | refine ls38 7 hS rfl ?_ | refine valP_ok (ld38 (by assumption) (by assumption) (by assumption)) ?_
      first | refine ss38 0 hS rfl rfl rfl rfl ?_ | refine ss38 1 hS rfl rfl rfl rfl ?_ | refine ss38 2 hS rfl rfl rfl rfl ?_ | refine ss38 3 hS rfl rfl rfl rfl ?_ | refine ss38 4 hS rfl rfl rfl rfl ?_ | refine ss38 5 hS rfl rfl rfl rfl ?_ | refine ss38 6 hS rfl rfl rfl rfl ?_ | refine ss38 7 hS rfl rfl rfl rfl ?_
      intro w hS
      simp only [List.set_cons_zero, List.set_cons_succ] at hS
      unfold m44_7
      refine valS_ok (lc38 (hS.cell 1 rfl rfl) (hS.cell 1 rfl rfl) (hS.cell 1 rfl rfl)) ?_
      exact ⟨rfl, hS.tail.tail⟩
  unfold m44_5
  refine valP_ok (ne3 _ _ _ _ _) ?_
  refine cond_split (fun h1 => ?_) (fun h1 => ?_)
  · first | refine pick_dt (by first | assumption | omega) ?_ | refine pick_df (by first | assumption | omega) ?_ | refine pick_t (by first | rfl | assumption) ?_ | refine pick_f (by first | rfl | assumption) ?_ | refine pick_dt rfl ?_ | refine pick_df (not_not_intro rfl) ?_
    refine cond_t rfl ?_
    first | refine pick_dt (by first | assumption | omega) ?_ | refine pick_df (by first | assumption | omega) ?_ | refine pick_t (by first | rfl | assumption) ?_ | refine pick_f (by first | rfl | assumption) ?_ | refine pick_dt rfl ?_ | refine pick_df (not_not_intro rfl) ?_
    refine cond_t rfl ?_
    first | refine pick_dt (by first | assumption | omega) ?_ | refine pick_df (by first | assumption | omega) ?_ | refine pick_t (by first | rfl | assumption) ?_ | refine pick_f (by first | rfl | assumption) ?_ | refine pick_dt rfl ?_ | refine pick_df (not_not_intro rfl) ?_
    exact leaf _ ⟨fun _ h => h1 h.1, fun _ => rfl⟩ _ hS
  · refine valP_ok (ne3 _ _ _ _ _) ?_
    first | refine pick_dt (by first | assumption | omega) ?_ | refine pick_df (by first | assumption | omega) ?_ | refine pick_t (by first | rfl | assumption) ?_ | refine pick_f (by first | rfl | assumption) ?_ | refine pick_dt rfl ?_ | refine pick_df (not_not_intro rfl) ?_
    refine cond_split (fun h2 => ?_) (fun h2 => ?_)
    · first | refine pick_dt (by first | assumption | omega) ?_ | refine pick_df (by first | assumption | omega) ?_ | refine pick_t (by first | rfl | assumption) ?_ | refine pick_f (by first | rfl | assumption) ?_ | refine pick_dt rfl ?_ | refine pick_df (not_not_intro rfl) ?_
      refine cond_t rfl ?_
      first | refine pick_dt (by first | assumption | omega) ?_ | refine pick_df (by first | assumption | omega) ?_ | refine pick_t (by first | rfl | assumption) ?_ | refine pick_f (by first | rfl | assumption) ?_ | refine pick_dt rfl ?_ | refine pick_df (not_not_intro rfl) ?_
      exact leaf _ ⟨fun _ h => h2 h.2.1, fun _ => rfl⟩ _ hS
    · refine valP_ok (ne3 _ _ _ _ _) ?_
      first | refine pick_dt (by first | assumption | omega) ?_ | refine pick_df (by first | assumption | omega) ?_ | refine pick_t (by first | rfl | assumption) ?_ | refine pick_f (by first | rfl | assumption) ?_ | refine pick_dt rfl ?_ | refine pick_df (not_not_intro rfl) ?_
      refine cond_split (fun h3 => ?_) (fun h3 => ?_)
      · first | refine pick_dt (by first | assumption | omega) ?_ | refine pick_df (by first | assumption | omega) ?_ | refine pick_t (by first | rfl | assumption) ?_ | refine pick_f (by first | rfl | assumption) ?_ | refine pick_dt rfl ?_ | refine pick_df (not_not_intro rfl) ?_
        exact leaf _ ⟨fun _ h => h3 h.2.2.1, fun _ => rfl⟩ _ hS
      · first | refine ls38 0 hS rfl ?_ | refine ls38 1 hS rfl ?_ | refine ls38 2 hS rfl ?_ | refine ls38 3 hS rfl ?_ | refine ls38 4 hS rfl ?_ | refine ls38 5 hS rfl ?_ | refine ls38 6 hS rfl ?_ | refine ls38 7 hS rfl ?_ | refine valP_ok (ld38 (by assumption) (by assumption) (by assumption)) ?_
        refine callR (by kernel_rfl) (mayrec_ret (r := r) hS) ?_
        rintro _ w ⟨⟨m, rfl, hm⟩, hS⟩
        first | refine valP_ok (not_ok _ _) ?_ | refine valP_ok (notb_ok _ _) ?_
        first | refine pick_dt (by first | assumption | omega) ?_ | refine pick_df (by first | assumption | omega) ?_ | refine pick_t (by first | rfl | assumption) ?_ | refine pick_f (by first | rfl | assumption) ?_ | refine pick_dt rfl ?_ | refine pick_df (not_not_intro rfl) ?_
        refine leaf _ ?_ _ hS
        cases m with
        | true => exact ⟨fun h => (by cases h), fun h => absurd ⟨Classical.not_not.1 h1, Classical.not_not.1 h2, Classical.not_not.1 h3, hm.1 rfl⟩ h⟩
        | false => exact ⟨fun _ h => (by have := hm.2 h.2.2.2; cases this), fun _ => rfl⟩
theorem rtakerec_ret (hS : St w0 F w L) : Ret Try.prog 44 #[.string s] w fun v w' => v = recV s ∧ St w0 F w' L := by
  refine s44 _ ?_
  unfold m44
  unfold m44_0
  refine new_ok (al38 _) hS ?_
  intro b2 w hS
  unfold m44_1
  refine callR (by kernel_rfl) (rtake_ret hS) ?_
  rintro _ w ⟨rfl, hS⟩
  have em : takeS ⟨#[]⟩ = none := by
    unfold takeS
    rfl
  have fin : ∀ (e1 e2 k t : Int) (s2 : ByteArray) w, St w0 F w (Res.cells b2 38 (encR ⟨0, 0, ⟨#[]⟩⟩) :: L) → ((e1 = 0 ∧ e2 = 0) → recV s = match textS s2 512 with
      | none => noRec
      | some (x, s3) => if MayR ⟨k, t, x⟩ then .tuple #[rv ⟨k, t, x⟩, .string s3, .int .i64 0] else noRec) → (¬ (e1 = 0 ∧ e2 = 0) → recV s = noRec) → m44_3 (fun v w' => v = recV s ∧ St w0 F w' L) (.pointer (some ⟨b2, 0, none⟩)) (.int .i64 k) (.int .i64 e1) (.int .i64 t) (.string s2) (.int .i64 e2) w := fun e1 e2 k t s2 w hS hy hn => by
    unfold m44_3
    refine callR (by kernel_rfl) (rtext_ret hS) ?_
    rintro _ w ⟨rfl, hS⟩
    unfold textV
    cases hx : textS s2 512 with
    | none =>
      have e : recV s = (if e1 = 0 ∧ e2 = 0 ∧ (2 : Int) = 0 ∧ MayR ⟨k, t, ⟨#[]⟩⟩ then .tuple #[rv ⟨k, t, ⟨#[]⟩⟩, .string ⟨#[]⟩, .int .i64 0] else noRec) := by
        rw [if_neg (by omega)]
        by_cases h : e1 = 0 ∧ e2 = 0
        · rw [hy h, hx]
        · exact hn h
      simp only
      refine valP_ok (extract_ok _ 0 rfl _) ?_
      refine valP_ok (extract_ok _ 1 rfl _) ?_
      refine valP_ok (extract_ok _ 2 rfl _) ?_
      unfold m44_4
      refine valP_ok (bd38_0_1_2 rfl rfl rfl _) ?_
      refine new_ok (al38 _) hS ?_
      intro b14 w hS
      first | refine ss38 0 hS rfl rfl rfl rfl ?_ | refine ss38 1 hS rfl rfl rfl rfl ?_ | refine ss38 2 hS rfl rfl rfl rfl ?_ | refine ss38 3 hS rfl rfl rfl rfl ?_ | refine ss38 4 hS rfl rfl rfl rfl ?_ | refine ss38 5 hS rfl rfl rfl rfl ?_ | refine ss38 6 hS rfl rfl rfl rfl ?_ | refine ss38 7 hS rfl rfl rfl rfl ?_
      intro w hS
      simp only [List.set_cons_zero, List.set_cons_succ] at hS
      rw [e]
      exact rec_main (r := ⟨k, t, ⟨#[]⟩⟩) hS
    | some q =>
      obtain ⟨x, s3⟩ := q
      have e : recV s = (if e1 = 0 ∧ e2 = 0 ∧ (0 : Int) = 0 ∧ MayR ⟨k, t, x⟩ then .tuple #[rv ⟨k, t, x⟩, .string s3, .int .i64 0] else noRec) := by
        by_cases h : e1 = 0 ∧ e2 = 0
        · rw [hy h, hx]
          simp only [h, true_and]
        · rw [hn h, if_neg (fun h1 => h ⟨h1.1, h1.2.1⟩)]
      simp only
      refine valP_ok (extract_ok _ 0 rfl _) ?_
      refine valP_ok (extract_ok _ 1 rfl _) ?_
      refine valP_ok (extract_ok _ 2 rfl _) ?_
      unfold m44_4
      refine valP_ok (bd38_0_1_2 rfl rfl rfl _) ?_
      refine new_ok (al38 _) hS ?_
      intro b14 w hS
      first | refine ss38 0 hS rfl rfl rfl rfl ?_ | refine ss38 1 hS rfl rfl rfl rfl ?_ | refine ss38 2 hS rfl rfl rfl rfl ?_ | refine ss38 3 hS rfl rfl rfl rfl ?_ | refine ss38 4 hS rfl rfl rfl rfl ?_ | refine ss38 5 hS rfl rfl rfl rfl ?_ | refine ss38 6 hS rfl rfl rfl rfl ?_ | refine ss38 7 hS rfl rfl rfl rfl ?_
      intro w hS
      simp only [List.set_cons_zero, List.set_cons_succ] at hS
      rw [e]
      exact rec_main (r := ⟨k, t, x⟩) hS
  unfold tkV
  cases hk : takeS s with
  | none =>
    have hn : recV s = noRec := by unfold recV takeRec; rw [hk]
    simp only
    refine valP_ok (extract_ok _ 0 rfl _) ?_
    refine valP_ok (extract_ok _ 1 rfl _) ?_
    refine valP_ok (extract_ok _ 2 rfl _) ?_
    unfold m44_2
    refine callR (by kernel_rfl) (rtake_ret hS) ?_
    rintro _ w ⟨rfl, hS⟩
    unfold tkV
    rw [em]
    simp only
    refine valP_ok (extract_ok _ 0 rfl _) ?_
    refine valP_ok (extract_ok _ 1 rfl _) ?_
    refine valP_ok (extract_ok _ 2 rfl _) ?_
    exact fin _ _ _ _ _ _ hS (fun h => by omega) (fun _ => hn)
  | some p =>
    obtain ⟨k, s1⟩ := p
    simp only
    refine valP_ok (extract_ok _ 0 rfl _) ?_
    refine valP_ok (extract_ok _ 1 rfl _) ?_
    refine valP_ok (extract_ok _ 2 rfl _) ?_
    unfold m44_2
    refine callR (by kernel_rfl) (rtake_ret hS) ?_
    rintro _ w ⟨rfl, hS⟩
    unfold tkV
    cases ht : takeS s1 with
    | none =>
      have hn : recV s = noRec := by unfold recV takeRec; rw [hk]; simp only; rw [ht]
      simp only
      refine valP_ok (extract_ok _ 0 rfl _) ?_
      refine valP_ok (extract_ok _ 1 rfl _) ?_
      refine valP_ok (extract_ok _ 2 rfl _) ?_
      exact fin _ _ _ _ _ _ hS (fun h => by omega) (fun _ => hn)
    | some q =>
      obtain ⟨t, s2⟩ := q
      simp only
      refine valP_ok (extract_ok _ 0 rfl _) ?_
      refine valP_ok (extract_ok _ 1 rfl _) ?_
      refine valP_ok (extract_ok _ 2 rfl _) ?_
      refine fin _ _ _ _ _ _ hS (fun _ => ?_) (fun h => absurd ⟨rfl, rfl⟩ h)
      unfold recV takeRec
      rw [hk]
      simp only
      rw [ht]
      simp only
      cases textS s2 512 with
      | none => rfl
      | some q =>
        obtain ⟨x, s3⟩ := q
        simp only
        by_cases h : MayR ⟨k, t, x⟩
        · rw [if_pos h, if_pos h]
        · rw [if_neg h, if_neg h]
end

end Go.Proofs.Ytcdnkbplplghmaa.M
