/- Parts of a proof, in one text: what it needs of V22, Mcod0, V23, Mtrim0, D1, D1B. -/
import Derived.Test.YtcldjjmfpmkldaaGreatDoorJCleanerSaves4
import Derived.Test.YtcldjjmfpmkldaaGreatDoorProg
import Derived.Deep.WholeRow
import Derived.Lib.AsciiSet
namespace Go.Proofs.YtcldjjmfpmkldaaGreatDoor.M
open Go.Proofs.YtcldjjmfpmkldaaGreatDoor.F Go.RowKit
set_option linter.unusedVariables false
set_option linter.unusedSimpArgs false
set_option maxRecDepth 100000
set_option maxHeartbeats 2000000
attribute [local irreducible] Res.cells Res.row Res.map Res.any World.cell? World.frozen? Instr.fieldAt Instr.loadAt Instr.storeAt Instr.indexAt Instr.lookup Instr.mapUpdate Instr.box Instr.build Instr.buildSlice Instr.extract Instr.alloc Instr.field Instr.index Instr.sliceAt Instr.makeSlice Instr.makeMap Instr.makeFunc binS Op.unary Sem.run
def takeRec (s : ByteArray) : Option (Rc × ByteArray) := match takeS s with
  | none => none
  | some (k, s1) => match takeS s1 with
    | none => none
    | some (t, s2) => match textS s2 512 with
      | none => none
      | some (x, s3) => if MayR ⟨k, t, x⟩ then some (⟨k, t, x⟩, s3) else none
abbrev noRec : Value := .tuple #[rv ⟨0, 0, ⟨#[]⟩⟩, .string ⟨#[]⟩, .int .i64 2]
def recV (s : ByteArray) : Value := match takeRec s with
  | none => noRec
  | some (r, x) => .tuple #[rv r, .string x, .int .i64 0]
theorem takeAll2 (s : ByteArray) : takeAllS 2 s = match takeS s with
  | none => none
  | some (k, s1) => match takeS s1 with
    | none => none
    | some (t, s2) => some ([k, t], s2) := by
  rw [takeAllS_succ]
  cases takeS s with
  | none => rfl
  | some p =>
    obtain ⟨k, s1⟩ := p
    simp only
    rw [takeAllS_succ]
    cases takeS s1 with
    | none => rfl
    | some q => rfl
section
variable {w0 w : World} {F : List Nat} {L : List Res} {s : ByteArray}
theorem takerec_ret (hS : St w0 F w L) : Ret Tryz.prog 74 #[.string s] w fun v w' => v = recV s ∧ St w0 F w' L := by
  refine s74 _ ?_
  unfold m74
  unfold m74_0
  refine new_ok (al56 _) hS ?_
  intro b2 w hS
  unfold m74_1
  refine callR (by kernel_rfl) (takeall_ret (n := 2) (by omega) hS) ?_
  intro v w hR
  rw [takeAll2] at hR
  have e : recV s = (match takeAllS 2 s with
    | some ([k, t], s2) => (match textS s2 512 with
      | none => noRec
      | some (x, s3) => if MayR ⟨k, t, x⟩ then .tuple #[rv ⟨k, t, x⟩, .string s3, .int .i64 0] else noRec)
    | _ => noRec) := by
    rw [takeAll2]
    unfold recV takeRec
    cases takeS s with
    | none => rfl
    | some p =>
      obtain ⟨k, s1⟩ := p
      simp only
      cases takeS s1 with
      | none => rfl
      | some q =>
        obtain ⟨t, s2⟩ := q
        simp only
        cases textS s2 512 with
        | none => rfl
        | some q =>
          obtain ⟨x, s3⟩ := q
          simp only
          by_cases h : MayR ⟨k, t, x⟩
          · rw [if_pos h, if_pos h]
          · rw [if_neg h, if_neg h]
  rw [e]
  rw [← takeAll2] at hR
  clear e
  have bad : ∀ e w, (e : Int) = 2 → St w0 F w (Res.cells b2 56 (encR ⟨0, 0, ⟨#[]⟩⟩) :: L) → ∀ (t5 t6 : Value), m74_13 (fun v w' => v = noRec ∧ St w0 F w' L) (.pointer (some ⟨b2, 0, none⟩)) (.string ⟨#[]⟩) (.int .i64 e) w := fun e w he hS _ _ => by
    subst he
    unfold m74_13
    refine valS_ok (lc56 (hS.cell 0 rfl rfl) (hS.cell 0 rfl rfl) (hS.cell 0 rfl rfl)) ?_
    exact ⟨rfl, hS.tail⟩
  cases hh : takeAllS 2 s with
  | none =>
    rw [hh] at hR
    obtain ⟨rfl, hS⟩ := hR
    simp only
    refine valP_ok (extract_ok _ 0 rfl _) ?_
    refine valP_ok (extract_ok _ 1 rfl _) ?_
    refine valP_ok (extract_ok _ 2 rfl _) ?_
    unfold m74_2
    refine valP_ok (ne26 _ _ _ _ _) ?_
    unfold m74_12
    refine cond_dt (by omega) ?_
    refine valP_ok (bd56 _) ?_
    refine ss56 0 hS rfl rfl rfl rfl ?_
    intro w hS
    simp only [List.set_cons_zero, List.set_cons_succ] at hS
    exact bad _ _ rfl hS .nilIface .nilIface
  | some p =>
    obtain ⟨l, s2⟩ := p
    rw [hh] at hR
    obtain ⟨A, c, rfl, hl, hS⟩ := hR
    obtain ⟨k, t, rfl⟩ : ∃ k t, l = [k, t] := by
      match l, hl with
      | [k, t], _ => exact ⟨k, t, rfl⟩
    simp only
    refine valP_ok (extract_ok _ 0 rfl _) ?_
    refine valP_ok (extract_ok _ 1 rfl _) ?_
    refine valP_ok (extract_ok _ 2 rfl _) ?_
    unfold m74_2
    refine valP_ok (ne26 _ _ _ _ _) ?_
    unfold m74_12
    refine cond_df (by omega) ?_
    unfold m74_3
    refine callR (by kernel_rfl) (text_ret hS) ?_
    rintro _ w ⟨rfl, hS⟩
    have bad2 : ∀ (r9 : Rc) b9 w x, St w0 F w (Res.cells b9 56 (encR r9) :: iRow A c [k, t] :: Res.cells b2 56 (encR ⟨0, 0, ⟨#[]⟩⟩) :: L) → m74_9 (fun v w' => v = noRec ∧ St w0 F w' L) (.pointer (some ⟨b2, 0, none⟩)) (.string x) (.pointer (some ⟨b9, 0, none⟩)) (.bool true) w := fun r9 b9 w x hS => by
      unfold m74_9
      refine cond_t rfl ?_
      refine valP_ok (bd56 _) ?_
      refine ss56 2 hS rfl rfl rfl rfl ?_
      intro w hS
      simp only [List.set_cons_zero, List.set_cons_succ] at hS
      unfold m74_10
      refine valS_ok (lc56 (hS.cell 2 rfl rfl) (hS.cell 2 rfl rfl) (hS.cell 2 rfl rfl)) ?_
      exact ⟨rfl, hS.tail.tail.tail⟩
    unfold textV
    cases hx : textS s2 512 with
    | none =>
      simp only
      refine valP_ok (extract_ok _ 0 rfl _) ?_
      refine valP_ok (extract_ok _ 1 rfl _) ?_
      refine valP_ok (extract_ok _ 2 rfl _) ?_
      unfold m74_4
      refine valP_ok (bd56 _) ?_
      refine new_ok (al56 _) hS ?_
      intro b9 w hS
      refine ss56 0 hS rfl rfl rfl rfl ?_
      intro w hS
      simp only [List.set_cons_zero, List.set_cons_succ] at hS
      unfold m74_5
      refine valP_ok (eq26 _ _ _ _ _) ?_
      unfold m74_11
      refine cond_df (by omega) ?_
      unfold m74_6
      refine valP_ok (ne26 _ _ _ _ _) ?_
      refine cond_dt (by omega) ?_
      refine pick_dt (by first | assumption | omega) ?_
      exact bad2 ⟨0, 0, ⟨#[]⟩⟩ _ _ _ hS
    | some q =>
      obtain ⟨x, s3⟩ := q
      simp only
      refine valP_ok (extract_ok _ 0 rfl _) ?_
      refine valP_ok (extract_ok _ 1 rfl _) ?_
      refine valP_ok (extract_ok _ 2 rfl _) ?_
      unfold m74_4
      refine valP_ok (bd56 _) ?_
      refine new_ok (al56 _) hS ?_
      intro b9 w hS
      refine ss56 0 hS rfl rfl rfl rfl ?_
      intro w hS
      simp only [List.set_cons_zero, List.set_cons_succ] at hS
      unfold m74_5
      refine valP_ok (eq26 _ _ _ _ _) ?_
      unfold m74_11
      refine cond_dt (by omega) ?_
      obtain ⟨g, rfl⟩ := hS.row_ptr 1 rfl (by simp)
      refine drawn_ok hS ?_
      intro w hS
      refine valS_ok (ixz23 (k := 0) (by simp) _) ?_
      refine valS_ok (ld3 (hS.row_cell 1 rfl (u := .int .i64 k) rfl)) ?_
      refine valS_ok (ixz23 (k := 1) (by simp) _) ?_
      refine valS_ok (ld3 (hS.row_cell 1 rfl (u := .int .i64 t) rfl)) ?_
      refine valS_ok (bd56_0_1_2 rfl rfl rfl _) ?_
      refine ss56 0 hS rfl rfl rfl rfl ?_
      intro w hS
      simp only [List.set_cons_zero, List.set_cons_succ] at hS
      unfold m74_6
      refine valP_ok (ne26 _ _ _ _ _) ?_
      refine cond_df (by omega) ?_
      refine ls56 0 hS rfl ?_
      refine callR (by kernel_rfl) (may_ret (r := ⟨k, t, x⟩) hS) ?_
      rintro _ w ⟨⟨m, rfl, hm⟩, hS⟩
      refine valP_ok (notb_ok _ _) ?_
      refine pick_df (by first | assumption | omega) ?_
      cases m with
      | true =>
        rw [if_pos (hm.1 rfl)]
        unfold m74_9
        refine cond_f rfl ?_
        unfold m74_7
        refine ls56 0 hS rfl ?_
        refine ss56 2 hS rfl rfl rfl rfl ?_
        intro w hS
        simp only [List.set_cons_zero, List.set_cons_succ] at hS
        unfold m74_8
        refine valS_ok (lc56 (hS.cell 2 rfl rfl) (hS.cell 2 rfl rfl) (hS.cell 2 rfl rfl)) ?_
        exact ⟨rfl, hS.tail.tail.tail⟩
      | false =>
        rw [if_neg (fun h => by have := hm.2 h; cases this)]
        exact bad2 ⟨k, t, x⟩ _ _ _ hS
theorem rec_main {e1 e2 e3 : Int} {r : Rc} {q : ByteArray} {b14 b2 : Nat} (hS : St w0 F w (Res.cells b14 56 (encR r) :: Res.cells b2 56 (encR ⟨0, 0, ⟨#[]⟩⟩) :: L)) : m86_5 (fun v w' => v = (if e1 = 0 ∧ e2 = 0 ∧ e3 = 0 ∧ MayR r then .tuple #[rv r, .string q, .int .i64 0] else noRec) ∧ St w0 F w' L) (.pointer (some ⟨b2, 0, none⟩)) (.int .i64 e1) (.int .i64 e2) (.string q) (.int .i64 e3) (.pointer (some ⟨b14, 0, none⟩)) w := by
  have leaf : ∀ t : Bool, (t = true ↔ ¬ (e1 = 0 ∧ e2 = 0 ∧ e3 = 0 ∧ MayR r)) → ∀ w, St w0 F w (Res.cells b14 56 (encR r) :: Res.cells b2 56 (encR ⟨0, 0, ⟨#[]⟩⟩) :: L) → m86_8 (fun v w' => v = (if e1 = 0 ∧ e2 = 0 ∧ e3 = 0 ∧ MayR r then .tuple #[rv r, .string q, .int .i64 0] else noRec) ∧ St w0 F w' L) (.pointer (some ⟨b2, 0, none⟩)) (.string q) (.pointer (some ⟨b14, 0, none⟩)) (.bool t) w := fun t ht w hS => by
    unfold m86_8
    cases t with
    | true =>
      rw [if_neg (ht.1 rfl)]
      refine cond_t rfl ?_
      refine valP_ok (bd56 _) ?_
      refine ss56 1 hS rfl rfl rfl rfl ?_
      intro w hS
      simp only [List.set_cons_zero, List.set_cons_succ] at hS
      unfold m86_9
      refine valS_ok (lc56 (hS.cell 1 rfl rfl) (hS.cell 1 rfl rfl) (hS.cell 1 rfl rfl)) ?_
      exact ⟨rfl, hS.tail.tail⟩
    | false =>
      have h : e1 = 0 ∧ e2 = 0 ∧ e3 = 0 ∧ MayR r := Classical.byContradiction fun h => by have := ht.2 h; cases this
      rw [if_pos h]
      refine cond_f rfl ?_
      unfold m86_6
      refine ls56 0 hS rfl ?_
      refine ss56 1 hS rfl rfl rfl rfl ?_
      intro w hS
      simp only [List.set_cons_zero, List.set_cons_succ] at hS
      unfold m86_7
      refine valS_ok (lc56 (hS.cell 1 rfl rfl) (hS.cell 1 rfl rfl) (hS.cell 1 rfl rfl)) ?_
      exact ⟨rfl, hS.tail.tail⟩
  unfold m86_5
  refine valP_ok (ne3 _ _ _ _ _) ?_
  refine cond_split (fun h1 => ?_) (fun h1 => ?_)
  · refine pick_dt (by first | assumption | omega) ?_
    refine cond_t rfl ?_
    refine pick_t (by first | rfl | assumption) ?_
    refine cond_t rfl ?_
    refine pick_t (by first | rfl | assumption) ?_
    exact leaf _ ⟨fun _ h => h1 h.1, fun _ => rfl⟩ _ hS
  · refine valP_ok (ne3 _ _ _ _ _) ?_
    refine pick_df (by first | assumption | omega) ?_
    refine cond_split (fun h2 => ?_) (fun h2 => ?_)
    · refine pick_dt (by first | assumption | omega) ?_
      refine cond_t rfl ?_
      refine pick_t (by first | rfl | assumption) ?_
      exact leaf _ ⟨fun _ h => h2 h.2.1, fun _ => rfl⟩ _ hS
    · refine valP_ok (ne3 _ _ _ _ _) ?_
      refine pick_df (by first | assumption | omega) ?_
      refine cond_split (fun h3 => ?_) (fun h3 => ?_)
      · refine pick_dt (by first | assumption | omega) ?_
        exact leaf _ ⟨fun _ h => h3 h.2.2.1, fun _ => rfl⟩ _ hS
      · refine ls56 0 hS rfl ?_
        refine callR (by kernel_rfl) (mayrec_ret (r := r) hS) ?_
        rintro _ w ⟨⟨m, rfl, hm⟩, hS⟩
        refine valP_ok (notb_ok _ _) ?_
        refine pick_df (by first | assumption | omega) ?_
        refine leaf _ ?_ _ hS
        cases m with
        | true => exact ⟨fun h => (by cases h), fun h => absurd ⟨Classical.not_not.1 h1, Classical.not_not.1 h2, Classical.not_not.1 h3, hm.1 rfl⟩ h⟩
        | false => exact ⟨fun _ h => (by have := hm.2 h.2.2.2; cases this), fun _ => rfl⟩
theorem rtakerec_ret (hS : St w0 F w L) : Ret Tryz.prog 86 #[.string s] w fun v w' => v = recV s ∧ St w0 F w' L := by
  refine s86 _ ?_
  unfold m86
  unfold m86_0
  refine new_ok (al56 _) hS ?_
  intro b2 w hS
  unfold m86_1
  refine callR (by kernel_rfl) (rtake_ret hS) ?_
  rintro _ w ⟨rfl, hS⟩
  have em : takeS ⟨#[]⟩ = none := by
    unfold takeS
    rfl
  have fin : ∀ (e1 e2 k t : Int) (s2 : ByteArray) w, St w0 F w (Res.cells b2 56 (encR ⟨0, 0, ⟨#[]⟩⟩) :: L) → ((e1 = 0 ∧ e2 = 0) → recV s = match textS s2 512 with
      | none => noRec
      | some (x, s3) => if MayR ⟨k, t, x⟩ then .tuple #[rv ⟨k, t, x⟩, .string s3, .int .i64 0] else noRec) → (¬ (e1 = 0 ∧ e2 = 0) → recV s = noRec) → m86_3 (fun v w' => v = recV s ∧ St w0 F w' L) (.pointer (some ⟨b2, 0, none⟩)) (.int .i64 k) (.int .i64 e1) (.int .i64 t) (.string s2) (.int .i64 e2) w := fun e1 e2 k t s2 w hS hy hn => by
    unfold m86_3
    refine callR (by kernel_rfl) (rtext_ret hS) ?_
    rintro _ w ⟨rfl, hS⟩
    unfold textV
    cases hx : textS s2 512 with
    | none =>
      have e : recV s = (if e1 = 0 ∧ e2 = 0 ∧ (2 : Int) = 0 ∧ MayR ⟨k, t, ⟨#[]⟩⟩ then .tuple #[rv ⟨k, t, ⟨#[]⟩⟩, .string ⟨#[]⟩, .int .i64 0] else noRec) := by
        rw [if_neg (by omega)]
        by_cases h : e1 = 0 ∧ e2 = 0
        · rw [hy h, hx]
        · exact hn h
      simp only
      refine valP_ok (extract_ok _ 0 rfl _) ?_
      refine valP_ok (extract_ok _ 1 rfl _) ?_
      refine valP_ok (extract_ok _ 2 rfl _) ?_
      unfold m86_4
      refine valP_ok (bd56_0_1_2 rfl rfl rfl _) ?_
      refine new_ok (al56 _) hS ?_
      intro b14 w hS
      refine ss56 0 hS rfl rfl rfl rfl ?_
      intro w hS
      simp only [List.set_cons_zero, List.set_cons_succ] at hS
      rw [e]
      exact rec_main (r := ⟨k, t, ⟨#[]⟩⟩) hS
    | some q =>
      obtain ⟨x, s3⟩ := q
      have e : recV s = (if e1 = 0 ∧ e2 = 0 ∧ (0 : Int) = 0 ∧ MayR ⟨k, t, x⟩ then .tuple #[rv ⟨k, t, x⟩, .string s3, .int .i64 0] else noRec) := by
        by_cases h : e1 = 0 ∧ e2 = 0
        · rw [hy h, hx]
          simp only [h, true_and]
        · rw [hn h, if_neg (fun h1 => h ⟨h1.1, h1.2.1⟩)]
      simp only
      refine valP_ok (extract_ok _ 0 rfl _) ?_
      refine valP_ok (extract_ok _ 1 rfl _) ?_
      refine valP_ok (extract_ok _ 2 rfl _) ?_
      unfold m86_4
      refine valP_ok (bd56_0_1_2 rfl rfl rfl _) ?_
      refine new_ok (al56 _) hS ?_
      intro b14 w hS
      refine ss56 0 hS rfl rfl rfl rfl ?_
      intro w hS
      simp only [List.set_cons_zero, List.set_cons_succ] at hS
      rw [e]
      exact rec_main (r := ⟨k, t, x⟩) hS
  unfold tkV
  cases hk : takeS s with
  | none =>
    have hn : recV s = noRec := by unfold recV takeRec; rw [hk]
    simp only
    refine valP_ok (extract_ok _ 0 rfl _) ?_
    refine valP_ok (extract_ok _ 1 rfl _) ?_
    refine valP_ok (extract_ok _ 2 rfl _) ?_
    unfold m86_2
    refine callR (by kernel_rfl) (rtake_ret hS) ?_
    rintro _ w ⟨rfl, hS⟩
    unfold tkV
    rw [em]
    simp only
    refine valP_ok (extract_ok _ 0 rfl _) ?_
    refine valP_ok (extract_ok _ 1 rfl _) ?_
    refine valP_ok (extract_ok _ 2 rfl _) ?_
    exact fin _ _ _ _ _ _ hS (fun h => by omega) (fun _ => hn)
  | some p =>
    obtain ⟨k, s1⟩ := p
    simp only
    refine valP_ok (extract_ok _ 0 rfl _) ?_
    refine valP_ok (extract_ok _ 1 rfl _) ?_
    refine valP_ok (extract_ok _ 2 rfl _) ?_
    unfold m86_2
    refine callR (by kernel_rfl) (rtake_ret hS) ?_
    rintro _ w ⟨rfl, hS⟩
    unfold tkV
    cases ht : takeS s1 with
    | none =>
      have hn : recV s = noRec := by unfold recV takeRec; rw [hk]; simp only; rw [ht]
      simp only
      refine valP_ok (extract_ok _ 0 rfl _) ?_
      refine valP_ok (extract_ok _ 1 rfl _) ?_
      refine valP_ok (extract_ok _ 2 rfl _) ?_
      exact fin _ _ _ _ _ _ hS (fun h => by omega) (fun _ => hn)
    | some q =>
      obtain ⟨t, s2⟩ := q
      simp only
      refine valP_ok (extract_ok _ 0 rfl _) ?_
      refine valP_ok (extract_ok _ 1 rfl _) ?_
      refine valP_ok (extract_ok _ 2 rfl _) ?_
      refine fin _ _ _ _ _ _ hS (fun _ => ?_) (fun h => absurd ⟨rfl, rfl⟩ h)
      unfold recV takeRec
      rw [hk]
      simp only
      rw [ht]
      simp only
      cases textS s2 512 with
      | none => rfl
      | some q =>
        obtain ⟨x, s3⟩ := q
        simp only
        by_cases h : MayR ⟨k, t, x⟩
        · rw [if_pos h, if_pos h]
        · rw [if_neg h, if_neg h]
end
end Go.Proofs.YtcldjjmfpmkldaaGreatDoor.M
namespace Go.Proofs.YtcldjjmfpmkldaaGreatDoor.M
open Go.Proofs.YtcldjjmfpmkldaaGreatDoor.F
set_option linter.unusedVariables false
set_option maxRecDepth 100000
variable {R : VP} {Q : EQ}
def m21_15 (R : VP) (t2 t3 : Value) (w : World) : Prop :=
  R (Value.tuple #[t2, t3]) w
def m21_11 (R : VP) (K1 : VP) (b5 t17 t18 t19 : Value) (w : World) : Prop :=
  valP Tryz.prog (binS BinOp.add 3 (tm 19) (ci 1) t19 (vi 1)) w fun t31 w =>
  K1 t31 w
def m21_12 (R : VP) (K1 : VP) (b5 g7 t17 t18 t19 : Value) (w : World) : Prop :=
  anyDraw w fun w =>
  heldP w fun J =>
  valJ Tryz.prog J (Instr.fieldAt 58 g7 0) fun t23 =>
  valJ Tryz.prog J (Instr.loadAt 3 t23) fun t24 =>
  valJ Tryz.prog J (Instr.fieldAt 58 g7 1) fun t26 =>
  valJ Tryz.prog J (Instr.loadAt 56 t26) fun t27 =>
  callP Tryz.prog (fnV 59) #[t24] w fun t25 w =>
  stayP J w
  (callP Tryz.prog (fnV 60) #[t27] w fun t28 w =>
  stayP J w
  (valJ Tryz.prog J (binS BinOp.add 9 (tm 25) (tm 28) t25 t28) fun t29 =>
  callP Tryz.prog (fnV 58) #[b5, t29] w fun t30 w =>
  stayP J w
  (m21_11 R K1 b5 t17 t18 t19 w)))
def m21_10 (R : VP) (K1 : VP) (b5 t17 t18 t19 : Value) (w : World) : Prop :=
  valP Tryz.prog (Instr.indexAt 22 t17 t19) w fun t21 w =>
  valP Tryz.prog (Instr.loadAt 58 t21) w fun t22 w =>
  valP Tryz.prog (Instr.alloc 58 true (.tuple #[])) w fun g7 w =>
  unitP Tryz.prog (Instr.storeAt 58 g7 t22) w fun _ w =>
  m21_12 R K1 b5 g7 t17 t18 t19 w
def m21_6 (R : VP) (t2 t3 : Value) (w : World) : Prop :=
  R (Value.tuple #[t2, t3]) w
def m21_5 (R : VP) (b5 : Value) (w : World) : Prop :=
  callP Tryz.prog (fnV 62) #[b5] w fun t32 w =>
  callP Tryz.prog (fnV 61) #[t32] w fun t33 w =>
  m21_6 R t33 (vi 0) w
def m21_9 (R : VP) (K1 : VP) (b5 t17 t18 t19 t20 : Value) (w : World) : Prop :=
  condP t20
  (m21_10 R K1 b5 t17 t18 t19 w)
  (m21_5 R b5 w)
def m21_8 (R : VP) (K1 : VP) (b5 t17 t18 t19 : Value) (w : World) : Prop :=
  valP Tryz.prog (binS BinOp.lss 3 (tm 19) (tm 18) t19 t18) w fun t20 w =>
  m21_9 R K1 b5 t17 t18 t19 t20 w
def m21_7 (R : VP) (b5 t17 t18 t19 : Value) (w : World) : Prop :=
  loopP (fun (K1 : VP) (s : Value) w => m21_8 R K1 b5 t17 t18 s w) t19 w
def m21_4 (R : VP) (l0 b5 : Value) (w : World) : Prop :=
  builtinP Tryz.prog Builtin.len #[22] 3 #[false] #[l0] w fun t18 w =>
  m21_7 R b5 l0 t18 (vi 0) w
def m21_3 (R : VP) (l0 b5 : Value) (w : World) : Prop :=
  builtinP Tryz.prog Builtin.len #[22] 3 #[false] #[l0] w fun t14 w =>
  callP Tryz.prog (fnV 59) #[t14] w fun t15 w =>
  callP Tryz.prog (fnV 58) #[b5, t15] w fun t16 w =>
  m21_4 R l0 b5 w
def m21_2 (R : VP) (l0 : Value) (w : World) : Prop :=
  valP Tryz.prog (Instr.alloc 99 true (.tuple #[])) w fun b5 w =>
  m21_3 R l0 b5 w
def m21_14 (R : VP) (l0 e4 t11 : Value) (w : World) : Prop :=
  condP t11
  (m21_15 R (Value.string ⟨#[]⟩) e4 w)
  (m21_2 R l0 w)
def m21_13 (R : VP) (l0 e4 : Value) (w : World) : Prop :=
  valP Tryz.prog (binS BinOp.neq 26 (tm 10) (ci 0) e4 (vi 0)) w fun t11 w =>
  m21_14 R l0 e4 t11 w
def m21_1 (R : VP) (l0 : Value) (w : World) : Prop :=
  callP Tryz.prog (fnV 57) #[l0] w fun t9 w =>
  m21_13 R l0 t9 w
def m21_0 (R : VP) (l0 : Value) (w : World) : Prop :=
  m21_1 R l0 w
abbrev W21 := cwp Tryz.prog (fun i => 0)
noncomputable def k21_0 := bodyOf Tryz.f21
noncomputable def k21_1 := c2 k21_0
noncomputable def k21_2 := c2 k21_1
noncomputable def k21_3 := c2 k21_2
noncomputable def k21_4 := c2 k21_3
noncomputable def k21_5 := c2 k21_4
noncomputable def k21_6 := c2 k21_5
noncomputable def k21_7 := c2 (c1 k21_4)
noncomputable def k21_8 := c1 (c1 k21_7)
noncomputable def k21_9 := c2 k21_8
noncomputable def k21_10 := c2 k21_9
noncomputable def k21_11 := c2 k21_10
noncomputable def k21_12 := c2 (c1 (c1 k21_10))
noncomputable def k21_13 := c2 (c1 k21_1)
noncomputable def k21_14 := c2 k21_13
noncomputable def k21_15 := c2 (c1 k21_14)
abbrev hR21 (R : VP) (Q : EQ) : Prop := ∀ e w, (R (Value.tuple #[(e 2), (e 3)]) w) → Q .ret e w
theorem s21_15 (hR : hR21 R Q) (e : Env) (w : World) (h : m21_15 R (e 2) (e 3) w) : W21 k21_15 Q e w := by
  exact reA (hR _ _ h)
theorem s21_11 {K1 : VP} (hN : ∀ e w, (K1 (e 19) w) → Q .normal e w) (e : Env) (w : World) (h : m21_11 R K1 (e 5) (e 17) (e 18) (e 19) w) : W21 k21_11 Q e w := by
  exact rgA 10 (fun e w => K1 (e 19) w) h hN
theorem s21_12 {K1 : VP} (hN : ∀ e w, (m21_11 R K1 (e 5) (e 17) (e 18) (e 19) w) → Q .normal e w) (e : Env) (w : World) (h : m21_12 R K1 (e 5) (e 7) (e 17) (e 18) (e 19) w) : W21 k21_12 Q e w := by
  exact treeJ_ok 9 8 (bt 8 0) (.take 0 (bt 8 1) (.take 1 (bt 8 3) (.take 3 (bt 8 11) (.take 4 (bt 8 27) (.alt 2 (bt 8 31) (.alt 5 (bt 8 63) (.take 6 (bt 8 127) (.alt 7 (bt 8 255) .done .stop)) .stop) .stop))))) (fun e w => m21_11 R K1 (e 5) (e 17) (e 18) (e 19) w) (by kernel_rfl) (by kernel_rfl) (by kernel_rfl) (by kernel_rfl) (by kernel_rfl) (by kernel_rfl) (kcast (by kernel_rfl) h) hN (by kernel_rfl)
theorem s21_10 {K1 : VP} (hN : ∀ e w, (K1 (e 19) w) → Q .normal e w) (e : Env) (w : World) (h : m21_10 R K1 (e 5) (e 17) (e 18) (e 19) w) : W21 k21_10 Q e w := by
  refine seA ?_
  have hN : ∀ e w, (m21_11 R K1 (e 5) (e 17) (e 18) (e 19) w) → (thenE (W21 k21_11 Q) Q) .normal e w := fun e w h => then_N (s21_11 hN e w h)
  refine block_ok 1 (by kernel_rfl) ?_
  have hN : ∀ e w, (m21_11 R K1 (e 5) (e 17) (e 18) (e 19) w) → (inBlockE 1 (thenE (W21 k21_11 Q) Q)) .normal e w := fun e w h => block_N (hN e w h)
  refine seA ?_
  exact rgA 8 (fun e w => m21_12 R K1 (e 5) (e 7) (e 17) (e 18) (e 19) w) h fun e w h => then_N (s21_12 (R := R) (Q := (inBlockE 1 (thenE (W21 k21_11 Q) Q))) hN e w h)
theorem s21_6 (hR : hR21 R Q) (e : Env) (w : World) (h : m21_6 R (e 2) (e 3) w) : W21 k21_6 Q e w := by
  exact reA (hR _ _ h)
theorem s21_5 (hR : hR21 R Q) (e : Env) (w : World) (h : m21_5 R (e 5) w) : W21 k21_5 Q e w := by
  refine seA ?_
  exact rgA 11 (fun e w => m21_6 R (e 2) (e 3) w) h fun e w h => then_N (s21_6 hR e w h)
theorem s21_9 {K1 : VP} (hN : ∀ e w, (K1 (e 19) w) → Q .normal e w) (hX0 : ∀ e w, (m21_5 R (e 5) w) → Q (.exit 0) e w) (e : Env) (w : World) (h : m21_9 R K1 (e 5) (e 17) (e 18) (e 19) (e 20) w) : W21 k21_9 Q e w := by
  refine seA ?_
  have hN : ∀ e w, (m21_10 R K1 (e 5) (e 17) (e 18) (e 19) w) → (thenE (W21 k21_10 Q) Q) .normal e w := fun e w h => then_N (s21_10 hN e w h)
  have hX0 : ∀ e w, (m21_5 R (e 5) w) → (thenE (W21 k21_10 Q) Q) (.exit 0) e w := fun e w h => then_X (hX0 e w h)
  refine coA (Operand.tmp 20) h (fun h1 => ?_) (fun h1 => ?_)
  · exact skA (hN _ _ h1)
  · exact exA 0 (hX0 _ _ h1)
theorem s21_8 {K1 : VP} (hN : ∀ e w, (K1 (e 19) w) → Q .normal e w) (hX0 : ∀ e w, (m21_5 R (e 5) w) → Q (.exit 0) e w) (e : Env) (w : World) (h : m21_8 R K1 (e 5) (e 17) (e 18) (e 19) w) : W21 k21_8 Q e w := by
  refine seA ?_
  exact rgA 7 (fun e w => m21_9 R K1 (e 5) (e 17) (e 18) (e 19) (e 20) w) h fun e w h => then_N (s21_9 hN hX0 e w h)
theorem s21_7 (hN : ∀ e w, (m21_5 R (e 5) w) → Q .normal e w) (e : Env) (w : World) (h : m21_7 R (e 5) (e 17) (e 18) (e 19) w) : W21 k21_7 Q e w := by
  refine block_ok 0 (by kernel_rfl) ?_
  have hX0 : ∀ e w, (m21_5 R (e 5) w) → (inBlockE 0 Q) (.exit 0) e w := fun e w h => inBlock_same (Q := Q) 0 (hN e w h)
  refine loop_ok' (fun (e : Env) => e 19) [5, 17, 18] (by kernel_rfl) (by kernel_rfl) h (fun K e' w' hk h' => ?_)
  have r5 : e' 5 = e 5 := hk 5 (by decide)
  have r17 : e' 17 = e 17 := hk 17 (by decide)
  have r18 : e' 18 = e 18 := hk 18 (by decide)
  have hX0 : ∀ e w, (m21_5 R (e 5) w) → (thenE (fun (e : Env) w => K (e 19) w) (inBlockE 0 Q)) (.exit 0) e w := fun e w h => then_X (hX0 e w h)
  exact s21_8 (K1 := K) (fun _ _ h => then_N h) hX0 e' w' (by rw [r5, r17, r18]; exact h')
theorem s21_4 (hR : hR21 R Q) (e : Env) (w : World) (h : m21_4 R (e 0) (e 5) w) : W21 k21_4 Q e w := by
  refine seA ?_
  have hN : ∀ e w, (m21_5 R (e 5) w) → (thenE (W21 k21_5 Q) Q) .normal e w := fun e w h => then_N (s21_5 hR e w h)
  refine seA ?_
  exact rgA 6 (fun e w => m21_7 R (e 5) (e 17) (e 18) (e 19) w) h fun e w h => then_N (s21_7 hN e w h)
theorem s21_3 (hR : hR21 R Q) (e : Env) (w : World) (h : m21_3 R (e 0) (e 5) w) : W21 k21_3 Q e w := by
  refine seA ?_
  exact rgA 5 (fun e w => m21_4 R (e 0) (e 5) w) h fun e w h => then_N (s21_4 hR e w h)
theorem s21_2 (hR : hR21 R Q) (e : Env) (w : World) (h : m21_2 R (e 0) w) : W21 k21_2 Q e w := by
  refine seA ?_
  exact rgA 4 (fun e w => m21_3 R (e 0) (e 5) w) h fun e w h => then_N (s21_3 hR e w h)
theorem s21_14 (hN : ∀ e w, (m21_2 R (e 0) w) → Q .normal e w) (hR : hR21 R Q) (e : Env) (w : World) (h : m21_14 R (e 0) (e 4) (e 11) w) : W21 k21_14 Q e w := by
  refine coA (Operand.tmp 11) h (fun h1 => ?_) (fun h1 => ?_)
  · refine seA ?_
    exact rgA 3 (fun e w => m21_15 R (e 2) (e 3) w) h1 fun e w h => then_N (s21_15 hR e w h)
  · exact skA (hN _ _ h1)
theorem s21_13 (hN : ∀ e w, (m21_2 R (e 0) w) → Q .normal e w) (hR : hR21 R Q) (e : Env) (w : World) (h : m21_13 R (e 0) (e 4) w) : W21 k21_13 Q e w := by
  refine seA ?_
  exact rgA 2 (fun e w => m21_14 R (e 0) (e 4) (e 11) w) h fun e w h => then_N (s21_14 hN hR e w h)
theorem s21_1 (hR : hR21 R Q) (e : Env) (w : World) (h : m21_1 R (e 0) w) : W21 k21_1 Q e w := by
  refine seA ?_
  have hN : ∀ e w, (m21_2 R (e 0) w) → (thenE (W21 k21_2 Q) Q) .normal e w := fun e w h => then_N (s21_2 hR e w h)
  have hR : hR21 R (thenE (W21 k21_2 Q) Q) := fun e w h => then_R (hR e w h)
  refine seA ?_
  exact rgA 1 (fun e w => m21_13 R (e 0) (e 4) w) h fun e w h => then_N (s21_13 hN hR e w h)
theorem s21_0 (hR : hR21 R Q) (e : Env) (w : World) (h : m21_0 R (e 0) w) : W21 k21_0 Q e w := by
  refine seA ?_
  exact rgA 0 (fun e w => m21_1 R (e 0) w) h fun e w h => then_N (s21_1 hR e w h)
abbrev m21 (R : VP) (l0 : Value) (w : World) : Prop := m21_0 R l0 w
theorem s21 (l0 : Value) {R : VP} {w : World} (h : m21 R l0 w) :
    Calls Tryz.prog 21 #[l0] w fun e w' => ∃ v, e = .returned v ∧ R v w' :=
  calls_of_cwp (st := (fun i => 0)) (c := k21_0) (by kernel_rfl) Tryz.func21 (by kernel_rfl) (Nat.le_of_ble_eq_true (by kernel_rfl)) (by kernel_rfl)
    (s21_0 (R := R) (Q := endE Tryz.prog Tryz.f21 R) (fun e w h => kcast (by kernel_rfl) h) (argsE #[l0]) w (kcast (by kernel_rfl) h))
def m39_12 (R : VP) (t2 t3 : Value) (w : World) : Prop :=
  R (Value.tuple #[t2, t3]) w
def m39_9 (R : VP) (K1 : (Value × Value) → World → Prop) (l0 s4 i5 : Value) (w : World) : Prop :=
  valP Tryz.prog (binS BinOp.add 3 (tm 16) (ci 1) i5 (vi 1)) w fun t17 w =>
  K1 (s4, t17) w
def m39_8 (R : VP) (K1 : (Value × Value) → World → Prop) (l0 s4 i5 : Value) (w : World) : Prop :=
  anyDraw w fun w =>
  heldP w fun J =>
  valJ Tryz.prog J (Instr.indexAt 22 l0 i5) fun t21 =>
  valJ Tryz.prog J (Instr.fieldAt 58 t21 0) fun t22 =>
  valJ Tryz.prog J (Instr.loadAt 3 t22) fun t23 =>
  valJ Tryz.prog J (Instr.indexAt 22 l0 i5) fun t28 =>
  valJ Tryz.prog J (Instr.fieldAt 58 t28 1) fun t29 =>
  valJ Tryz.prog J (Instr.loadAt 56 t29) fun t30 =>
  callP Tryz.prog (fnV 37) #[t23] w fun t24 w =>
  stayP J w
  (valJ Tryz.prog J (binS BinOp.add 9 (tm 18) (tm 24) s4 t24) fun t25 =>
  callP Tryz.prog (fnV 78) #[t30] w fun t31 w =>
  stayP J w
  (valJ Tryz.prog J (binS BinOp.add 9 (tm 25) (tm 31) t25 t31) fun t32 =>
  m39_9 R K1 l0 t32 i5 w))
def m39_5 (R : VP) (t2 t3 : Value) (w : World) : Prop :=
  R (Value.tuple #[t2, t3]) w
def m39_4 (R : VP) (s4 : Value) (w : World) : Prop :=
  callP Tryz.prog (fnV 79) #[s4] w fun t34 w =>
  m39_5 R t34 (vi 0) w
def m39_10 (R : VP) (K1 : (Value × Value) → World → Prop) (l0 s4 i5 t15 : Value) (w : World) : Prop :=
  condP t15
  (m39_8 R K1 l0 s4 i5 w)
  (m39_4 R s4 w)
def m39_7 (R : VP) (K1 : (Value × Value) → World → Prop) (l0 s4 i5 : Value) (w : World) : Prop :=
  builtinP Tryz.prog Builtin.len #[22] 3 #[false] #[l0] w fun t14 w =>
  valP Tryz.prog (binS BinOp.lss 3 (tm 12) (tm 14) i5 t14) w fun t15 w =>
  m39_10 R K1 l0 s4 i5 t15 w
def m39_6 (R : VP) (l0 s4 i5 : Value) (w : World) : Prop :=
  loopP (fun (K1 : (Value × Value) → World → Prop) (s : Value × Value) w => m39_7 R K1 l0 s.1 s.2 w) (s4, i5) w
def m39_3 (R : VP) (l0 s4 : Value) (w : World) : Prop :=
  m39_6 R l0 s4 (vi 0) w
def m39_2 (R : VP) (l0 : Value) (w : World) : Prop :=
  builtinP Tryz.prog Builtin.len #[22] 3 #[false] #[l0] w fun t10 w =>
  callP Tryz.prog (fnV 37) #[t10] w fun t11 w =>
  m39_3 R l0 t11 w
def m39_11 (R : VP) (l0 t8 : Value) (w : World) : Prop :=
  condP t8
  (m39_12 R (Value.string ⟨#[]⟩) (vi 1) w)
  (m39_2 R l0 w)
def m39_1 (R : VP) (l0 : Value) (w : World) : Prop :=
  callP Tryz.prog (fnV 11) #[l0] w fun t7 w =>
  valP Tryz.prog (Op.unary UnOp.not t7) w fun t8 w =>
  m39_11 R l0 t8 w
def m39_0 (R : VP) (l0 : Value) (w : World) : Prop :=
  m39_1 R l0 w
abbrev W39 := cwp Tryz.prog (fun i => 0)
noncomputable def k39_0 := bodyOf Tryz.f39
noncomputable def k39_1 := c2 k39_0
noncomputable def k39_2 := c2 k39_1
noncomputable def k39_3 := c2 k39_2
noncomputable def k39_4 := c2 k39_3
noncomputable def k39_5 := c2 k39_4
noncomputable def k39_6 := c2 (c1 k39_3)
noncomputable def k39_7 := c1 (c1 k39_6)
noncomputable def k39_8 := c2 k39_7
noncomputable def k39_9 := c2 k39_8
noncomputable def k39_10 := c2 (c1 k39_7)
noncomputable def k39_11 := c2 (c1 k39_1)
noncomputable def k39_12 := c2 (c1 k39_11)
abbrev hR39 (R : VP) (Q : EQ) : Prop := ∀ e w, (R (Value.tuple #[(e 2), (e 3)]) w) → Q .ret e w
theorem s39_12 (hR : hR39 R Q) (e : Env) (w : World) (h : m39_12 R (e 2) (e 3) w) : W39 k39_12 Q e w := by
  exact reA (hR _ _ h)
theorem s39_9 {K1 : (Value × Value) → World → Prop} (hN : ∀ e w, (K1 ((e 4), (e 5)) w) → Q .normal e w) (e : Env) (w : World) (h : m39_9 R K1 (e 0) (e 4) (e 5) w) : W39 k39_9 Q e w := by
  exact rgA 6 (fun e w => K1 ((e 4), (e 5)) w) h hN
theorem s39_8 {K1 : (Value × Value) → World → Prop} (hN : ∀ e w, (K1 ((e 4), (e 5)) w) → Q .normal e w) (e : Env) (w : World) (h : m39_8 R K1 (e 0) (e 4) (e 5) w) : W39 k39_8 Q e w := by
  refine seA ?_
  have hN : ∀ e w, (m39_9 R K1 (e 0) (e 4) (e 5) w) → (thenE (W39 k39_9 Q) Q) .normal e w := fun e w h => then_N (s39_9 hN e w h)
  refine block_ok 1 (by kernel_rfl) ?_
  have hN : ∀ e w, (m39_9 R K1 (e 0) (e 4) (e 5) w) → (inBlockE 1 (thenE (W39 k39_9 Q) Q)) .normal e w := fun e w h => block_N (hN e w h)
  exact treeJ_ok 7 16 (bt 16 0) (.take 0 (bt 16 1) (.take 1 (bt 16 3) (.take 2 (bt 16 7) (.take 3 (bt 16 15) (.take 4 (bt 16 31) (.take 5 (bt 16 63) (.take 8 (bt 16 319) (.take 9 (bt 16 831) (.take 10 (bt 16 1855) (.take 11 (bt 16 3903) (.take 12 (bt 16 7999) (.alt 6 (bt 16 8063) (.take 7 (bt 16 8191) (.alt 13 (bt 16 16383) (.take 14 (bt 16 32767) (.take 15 (bt 16 65535) .done)) .stop)) .stop)))))))))))) (fun e w => m39_9 R K1 (e 0) (e 4) (e 5) w) (by kernel_rfl) (by kernel_rfl) (by kernel_rfl) (by kernel_rfl) (by kernel_rfl) (by kernel_rfl) (kcast (by kernel_rfl) h) hN (by kernel_rfl)
theorem s39_5 (hR : hR39 R Q) (e : Env) (w : World) (h : m39_5 R (e 2) (e 3) w) : W39 k39_5 Q e w := by
  exact reA (hR _ _ h)
theorem s39_4 (hR : hR39 R Q) (e : Env) (w : World) (h : m39_4 R (e 4) w) : W39 k39_4 Q e w := by
  refine seA ?_
  exact rgA 8 (fun e w => m39_5 R (e 2) (e 3) w) h fun e w h => then_N (s39_5 hR e w h)
theorem s39_10 {K1 : (Value × Value) → World → Prop} (hN : ∀ e w, (m39_8 R K1 (e 0) (e 4) (e 5) w) → Q .normal e w) (hX0 : ∀ e w, (m39_4 R (e 4) w) → Q (.exit 0) e w) (e : Env) (w : World) (h : m39_10 R K1 (e 0) (e 4) (e 5) (e 15) w) : W39 k39_10 Q e w := by
  refine coA (Operand.tmp 15) h (fun h1 => ?_) (fun h1 => ?_)
  · exact skA (hN _ _ h1)
  · exact exA 0 (hX0 _ _ h1)
theorem s39_7 {K1 : (Value × Value) → World → Prop} (hN : ∀ e w, (K1 ((e 4), (e 5)) w) → Q .normal e w) (hX0 : ∀ e w, (m39_4 R (e 4) w) → Q (.exit 0) e w) (e : Env) (w : World) (h : m39_7 R K1 (e 0) (e 4) (e 5) w) : W39 k39_7 Q e w := by
  refine seA ?_
  have hN : ∀ e w, (m39_8 R K1 (e 0) (e 4) (e 5) w) → (thenE (W39 k39_8 Q) Q) .normal e w := fun e w h => then_N (s39_8 hN e w h)
  have hX0 : ∀ e w, (m39_4 R (e 4) w) → (thenE (W39 k39_8 Q) Q) (.exit 0) e w := fun e w h => then_X (hX0 e w h)
  refine seA ?_
  exact rgA 5 (fun e w => m39_10 R K1 (e 0) (e 4) (e 5) (e 15) w) h fun e w h => then_N (s39_10 hN hX0 e w h)
theorem s39_6 (hN : ∀ e w, (m39_4 R (e 4) w) → Q .normal e w) (e : Env) (w : World) (h : m39_6 R (e 0) (e 4) (e 5) w) : W39 k39_6 Q e w := by
  refine block_ok 0 (by kernel_rfl) ?_
  have hX0 : ∀ e w, (m39_4 R (e 4) w) → (inBlockE 0 Q) (.exit 0) e w := fun e w h => inBlock_same (Q := Q) 0 (hN e w h)
  refine loop_ok' (fun (e : Env) => (e 4, e 5)) [0] (by kernel_rfl) (by kernel_rfl) h (fun K e' w' hk h' => ?_)
  have r0 : e' 0 = e 0 := hk 0 (by decide)
  have hX0 : ∀ e w, (m39_4 R (e 4) w) → (thenE (fun (e : Env) w => K ((e 4), (e 5)) w) (inBlockE 0 Q)) (.exit 0) e w := fun e w h => then_X (hX0 e w h)
  exact s39_7 (K1 := K) (fun _ _ h => then_N h) hX0 e' w' (by rw [r0]; exact h')
theorem s39_3 (hR : hR39 R Q) (e : Env) (w : World) (h : m39_3 R (e 0) (e 4) w) : W39 k39_3 Q e w := by
  refine seA ?_
  have hN : ∀ e w, (m39_4 R (e 4) w) → (thenE (W39 k39_4 Q) Q) .normal e w := fun e w h => then_N (s39_4 hR e w h)
  refine seA ?_
  exact rgA 4 (fun e w => m39_6 R (e 0) (e 4) (e 5) w) h fun e w h => then_N (s39_6 hN e w h)
theorem s39_2 (hR : hR39 R Q) (e : Env) (w : World) (h : m39_2 R (e 0) w) : W39 k39_2 Q e w := by
  refine seA ?_
  exact rgA 3 (fun e w => m39_3 R (e 0) (e 4) w) h fun e w h => then_N (s39_3 hR e w h)
theorem s39_11 (hN : ∀ e w, (m39_2 R (e 0) w) → Q .normal e w) (hR : hR39 R Q) (e : Env) (w : World) (h : m39_11 R (e 0) (e 8) w) : W39 k39_11 Q e w := by
  refine coA (Operand.tmp 8) h (fun h1 => ?_) (fun h1 => ?_)
  · refine seA ?_
    exact rgA 2 (fun e w => m39_12 R (e 2) (e 3) w) h1 fun e w h => then_N (s39_12 hR e w h)
  · exact skA (hN _ _ h1)
theorem s39_1 (hR : hR39 R Q) (e : Env) (w : World) (h : m39_1 R (e 0) w) : W39 k39_1 Q e w := by
  refine seA ?_
  have hN : ∀ e w, (m39_2 R (e 0) w) → (thenE (W39 k39_2 Q) Q) .normal e w := fun e w h => then_N (s39_2 hR e w h)
  have hR : hR39 R (thenE (W39 k39_2 Q) Q) := fun e w h => then_R (hR e w h)
  refine seA ?_
  exact rgA 1 (fun e w => m39_11 R (e 0) (e 8) w) h fun e w h => then_N (s39_11 hN hR e w h)
theorem s39_0 (hR : hR39 R Q) (e : Env) (w : World) (h : m39_0 R (e 0) w) : W39 k39_0 Q e w := by
  refine seA ?_
  exact rgA 0 (fun e w => m39_1 R (e 0) w) h fun e w h => then_N (s39_1 hR e w h)
abbrev m39 (R : VP) (l0 : Value) (w : World) : Prop := m39_0 R l0 w
theorem s39 (l0 : Value) {R : VP} {w : World} (h : m39 R l0 w) :
    Calls Tryz.prog 39 #[l0] w fun e w' => ∃ v, e = .returned v ∧ R v w' :=
  calls_of_cwp (st := (fun i => 0)) (c := k39_0) (by kernel_rfl) Tryz.func39 (by kernel_rfl) (Nat.le_of_ble_eq_true (by kernel_rfl)) (by kernel_rfl)
    (s39_0 (R := R) (Q := endE Tryz.prog Tryz.f39 R) (fun e w h => kcast (by kernel_rfl) h) (argsE #[l0]) w (kcast (by kernel_rfl) h))
def m34_29 (R : VP) (t2 t3 : Value) (w : World) : Prop :=
  R (Value.tuple #[t2, t3]) w
def m34_27 (R : VP) (t2 t3 : Value) (w : World) : Prop :=
  R (Value.tuple #[t2, t3]) w
def m34_25 (R : VP) (K1 : (Value × Value × Value) → World → Prop) (t2 t3 : Value) (w : World) : Prop :=
  R (Value.tuple #[t2, t3]) w
def m34_23 (R : VP) (K1 : (Value × Value × Value) → World → Prop) (t2 t3 : Value) (w : World) : Prop :=
  R (Value.tuple #[t2, t3]) w
def m34_16 (R : VP) (K1 : (Value × Value × Value) → World → Prop) (t4 l7 t36 t37 : Value) (w : World) : Prop :=
  valP Tryz.prog (binS BinOp.add 3 (tm 37) (ci 1) t37 (vi 1)) w fun t64 w =>
  K1 (t4, l7, t64) w
def m34_21 (R : VP) (K1 : (Value × Value × Value) → World → Prop) (l7 rest9 t36 t37 : Value) (w : World) : Prop :=
  m34_16 R K1 rest9 l7 t36 t37 w
def m34_20 (R : VP) (K1 : (Value × Value × Value) → World → Prop) (l7 off8 rest9 r11 t36 t37 : Value) (w : World) : Prop :=
  valP Tryz.prog (Instr.loadAt 56 r11) w fun t59 w =>
  valP Tryz.prog (Instr.build 58 #[(0, off8), (1, t59)]) w fun t60 w =>
  valP Tryz.prog (Instr.buildSlice 22 1 #[(0, t60)]) w fun t61 w =>
  builtinP Tryz.prog Builtin.append #[22, 22] 22 #[false, false] #[l7, t61] w fun t62 w =>
  m34_21 R K1 t62 rest9 t36 t37 w
def m34_22 (R : VP) (K1 : (Value × Value × Value) → World → Prop) (l7 off8 rest9 e10 r11 t36 t37 t55 : Value) (w : World) : Prop :=
  condP t55
  (m34_23 R K1 (Value.slice none 0 0) e10 w)
  (m34_20 R K1 l7 off8 rest9 r11 t36 t37 w)
def m34_19 (R : VP) (K1 : (Value × Value × Value) → World → Prop) (l7 off8 rest9 e10 r11 t36 t37 : Value) (w : World) : Prop :=
  valP Tryz.prog (binS BinOp.neq 26 (tm 54) (ci 0) e10 (vi 0)) w fun t55 w =>
  m34_22 R K1 l7 off8 rest9 e10 r11 t36 t37 t55 w
def m34_18 (R : VP) (K1 : (Value × Value × Value) → World → Prop) (l7 off8 rest9 t36 t37 : Value) (w : World) : Prop :=
  callP Tryz.prog (fnV 74) #[rest9] w fun t50 w =>
  valP Tryz.prog (Instr.extract t50 0) w fun t51 w =>
  valP Tryz.prog (Instr.extract t50 1) w fun t52 w =>
  valP Tryz.prog (Instr.extract t50 2) w fun t53 w =>
  valP Tryz.prog (Instr.alloc 56 true (.tuple #[])) w fun r11 w =>
  unitP Tryz.prog (Instr.storeAt 56 r11 t51) w fun _ w =>
  m34_19 R K1 l7 off8 t52 t53 r11 t36 t37 w
def m34_24 (R : VP) (K1 : (Value × Value × Value) → World → Prop) (l7 off8 rest9 e10 t36 t37 t46 : Value) (w : World) : Prop :=
  condP t46
  (m34_25 R K1 (Value.slice none 0 0) e10 w)
  (m34_18 R K1 l7 off8 rest9 t36 t37 w)
def m34_17 (R : VP) (K1 : (Value × Value × Value) → World → Prop) (l7 off8 rest9 e10 t36 t37 : Value) (w : World) : Prop :=
  valP Tryz.prog (binS BinOp.neq 26 (tm 45) (ci 0) e10 (vi 0)) w fun t46 w =>
  m34_24 R K1 l7 off8 rest9 e10 t36 t37 t46 w
def m34_15 (R : VP) (K1 : (Value × Value × Value) → World → Prop) (t4 l7 t36 t37 : Value) (w : World) : Prop :=
  callP Tryz.prog (fnV 73) #[t4] w fun t41 w =>
  valP Tryz.prog (Instr.extract t41 0) w fun t42 w =>
  valP Tryz.prog (Instr.extract t41 1) w fun t43 w =>
  valP Tryz.prog (Instr.extract t41 2) w fun t44 w =>
  m34_17 R K1 l7 t42 t43 t44 t36 t37 w
def m34_11 (R : VP) (t2 t3 : Value) (w : World) : Prop :=
  R (Value.tuple #[t2, t3]) w
def m34_9 (R : VP) (t2 t3 : Value) (w : World) : Prop :=
  R (Value.tuple #[t2, t3]) w
def m34_8 (R : VP) (l7 : Value) (w : World) : Prop :=
  m34_9 R l7 (vi 0) w
def m34_10 (R : VP) (l7 t71 : Value) (w : World) : Prop :=
  condP t71
  (m34_11 R (Value.slice none 0 0) (vi 2) w)
  (m34_8 R l7 w)
def m34_7 (R : VP) (t4 l7 : Value) (w : World) : Prop :=
  valP Tryz.prog (binS BinOp.neq 9 (tm 65) (Operand.const (Value.string ⟨#[]⟩)) t4 (Value.string ⟨#[]⟩)) w fun t66 w =>
  condP t66
  (pickP t66 (Value.bool true) undef fun t71 =>
  m34_10 R l7 t71 w)
  (callP Tryz.prog (fnV 57) #[l7] w fun t69 w =>
  valP Tryz.prog (binS BinOp.neq 26 (tm 69) (ci 0) t69 (vi 0)) w fun t70 w =>
  pickP t66 (Value.bool true) t70 fun t71 =>
  m34_10 R l7 t71 w)
def m34_14 (R : VP) (K1 : (Value × Value × Value) → World → Prop) (t4 l7 t36 t37 t38 : Value) (w : World) : Prop :=
  condP t38
  (m34_15 R K1 t4 l7 t36 t37 w)
  (m34_7 R t4 l7 w)
def m34_13 (R : VP) (K1 : (Value × Value × Value) → World → Prop) (t4 l7 t36 t37 : Value) (w : World) : Prop :=
  valP Tryz.prog (binS BinOp.lss 3 (tm 37) (tm 36) t37 t36) w fun t38 w =>
  m34_14 R K1 t4 l7 t36 t37 t38 w
def m34_12 (R : VP) (t4 l7 t36 t37 : Value) (w : World) : Prop :=
  loopP (fun (K1 : (Value × Value × Value) → World → Prop) (s : Value × Value × Value) w => m34_13 R K1 s.1 s.2.1 t36 s.2.2 w) (t4, l7, t37) w
def m34_6 (R : VP) (t4 n6 l7 : Value) (w : World) : Prop :=
  m34_12 R t4 l7 n6 (vi 0) w
def m34_5 (R : VP) (t4 n6 : Value) (w : World) : Prop :=
  m34_6 R t4 n6 (Value.slice none 0 0) w
def m34_26 (R : VP) (t4 n6 t35 : Value) (w : World) : Prop :=
  condP t35
  (m34_27 R (Value.slice none 0 0) (vi 2) w)
  (m34_5 R t4 n6 w)
def m34_4 (R : VP) (t4 e5 n6 : Value) (w : World) : Prop :=
  valP Tryz.prog (binS BinOp.neq 26 (tm 26) (ci 0) e5 (vi 0)) w fun t27 w =>
  condP t27
  (pickP t27 (Value.bool true) undef fun t31 =>
  condP t31
  (pickP t31 (Value.bool true) undef fun t35 =>
  m34_26 R t4 n6 t35 w)
  (valP Tryz.prog (binS BinOp.gtr 3 (tm 33) (ci 4096) n6 (vi 4096)) w fun t34 w =>
  pickP t31 (Value.bool true) t34 fun t35 =>
  m34_26 R t4 n6 t35 w))
  (valP Tryz.prog (binS BinOp.lss 3 (tm 29) (ci 0) n6 (vi 0)) w fun t30 w =>
  pickP t27 (Value.bool true) t30 fun t31 =>
  condP t31
  (pickP t31 (Value.bool true) undef fun t35 =>
  m34_26 R t4 n6 t35 w)
  (valP Tryz.prog (binS BinOp.gtr 3 (tm 33) (ci 4096) n6 (vi 4096)) w fun t34 w =>
  pickP t31 (Value.bool true) t34 fun t35 =>
  m34_26 R t4 n6 t35 w))
def m34_3 (R : VP) (t4 : Value) (w : World) : Prop :=
  callP Tryz.prog (fnV 73) #[t4] w fun t22 w =>
  valP Tryz.prog (Instr.extract t22 0) w fun t23 w =>
  valP Tryz.prog (Instr.extract t22 1) w fun t24 w =>
  valP Tryz.prog (Instr.extract t22 2) w fun t25 w =>
  m34_4 R t24 t25 t23 w
def m34_28 (R : VP) (t4 e5 t18 : Value) (w : World) : Prop :=
  condP t18
  (m34_29 R (Value.slice none 0 0) e5 w)
  (m34_3 R t4 w)
def m34_2 (R : VP) (t4 e5 : Value) (w : World) : Prop :=
  valP Tryz.prog (binS BinOp.neq 26 (tm 17) (ci 0) e5 (vi 0)) w fun t18 w =>
  m34_28 R t4 e5 t18 w
def m34_1 (R : VP) (s0 : Value) (w : World) : Prop :=
  callP Tryz.prog (fnV 72) #[s0] w fun t14 w =>
  valP Tryz.prog (Instr.extract t14 0) w fun t15 w =>
  valP Tryz.prog (Instr.extract t14 1) w fun t16 w =>
  m34_2 R t15 t16 w
def m34_0 (R : VP) (s0 : Value) (w : World) : Prop :=
  m34_1 R s0 w
abbrev W34 := cwp Tryz.prog (fun i => 0)
noncomputable def k34_0 := bodyOf Tryz.f34
noncomputable def k34_1 := c2 k34_0
noncomputable def k34_2 := c2 k34_1
noncomputable def k34_3 := c2 k34_2
noncomputable def k34_4 := c2 k34_3
noncomputable def k34_5 := c2 k34_4
noncomputable def k34_6 := c2 k34_5
noncomputable def k34_7 := c2 k34_6
noncomputable def k34_8 := c2 k34_7
noncomputable def k34_9 := c2 k34_8
noncomputable def k34_10 := c2 (c1 k34_7)
noncomputable def k34_11 := c2 (c1 k34_10)
noncomputable def k34_12 := c2 (c1 k34_6)
noncomputable def k34_13 := c1 (c1 k34_12)
noncomputable def k34_14 := c2 k34_13
noncomputable def k34_15 := c2 k34_14
noncomputable def k34_16 := c2 k34_15
noncomputable def k34_17 := c2 (c1 (c1 k34_15))
noncomputable def k34_18 := c2 k34_17
noncomputable def k34_19 := c2 k34_18
noncomputable def k34_20 := c2 k34_19
noncomputable def k34_21 := c2 k34_20
noncomputable def k34_22 := c2 (c1 k34_19)
noncomputable def k34_23 := c2 (c1 k34_22)
noncomputable def k34_24 := c2 (c1 k34_17)
noncomputable def k34_25 := c2 (c1 k34_24)
noncomputable def k34_26 := c2 (c1 k34_4)
noncomputable def k34_27 := c2 (c1 k34_26)
noncomputable def k34_28 := c2 (c1 k34_2)
noncomputable def k34_29 := c2 (c1 k34_28)
abbrev hR34 (R : VP) (Q : EQ) : Prop := ∀ e w, (R (Value.tuple #[(e 2), (e 3)]) w) → Q .ret e w
theorem s34_29 (hR : hR34 R Q) (e : Env) (w : World) (h : m34_29 R (e 2) (e 3) w) : W34 k34_29 Q e w := by
  exact reA (hR _ _ h)
theorem s34_27 (hR : hR34 R Q) (e : Env) (w : World) (h : m34_27 R (e 2) (e 3) w) : W34 k34_27 Q e w := by
  exact reA (hR _ _ h)
theorem s34_25 {K1 : (Value × Value × Value) → World → Prop} (hR : hR34 R Q) (e : Env) (w : World) (h : m34_25 R K1 (e 2) (e 3) w) : W34 k34_25 Q e w := by
  exact reA (hR _ _ h)
theorem s34_23 {K1 : (Value × Value × Value) → World → Prop} (hR : hR34 R Q) (e : Env) (w : World) (h : m34_23 R K1 (e 2) (e 3) w) : W34 k34_23 Q e w := by
  exact reA (hR _ _ h)
theorem s34_16 {K1 : (Value × Value × Value) → World → Prop} (hN : ∀ e w, (K1 ((e 4), (e 7), (e 37)) w) → Q .normal e w) (e : Env) (w : World) (h : m34_16 R K1 (e 4) (e 7) (e 36) (e 37) w) : W34 k34_16 Q e w := by
  exact rgA 18 (fun e w => K1 ((e 4), (e 7), (e 37)) w) h hN
theorem s34_21 {K1 : (Value × Value × Value) → World → Prop} (hN : ∀ e w, (m34_16 R K1 (e 4) (e 7) (e 36) (e 37) w) → Q .normal e w) (e : Env) (w : World) (h : m34_21 R K1 (e 7) (e 9) (e 36) (e 37) w) : W34 k34_21 Q e w := by
  exact rgA 17 (fun e w => m34_16 R K1 (e 4) (e 7) (e 36) (e 37) w) h hN
theorem s34_20 {K1 : (Value × Value × Value) → World → Prop} (hN : ∀ e w, (m34_16 R K1 (e 4) (e 7) (e 36) (e 37) w) → Q .normal e w) (e : Env) (w : World) (h : m34_20 R K1 (e 7) (e 8) (e 9) (e 11) (e 36) (e 37) w) : W34 k34_20 Q e w := by
  refine seA ?_
  exact rgA 16 (fun e w => m34_21 R K1 (e 7) (e 9) (e 36) (e 37) w) h fun e w h => then_N (s34_21 hN e w h)
theorem s34_22 {K1 : (Value × Value × Value) → World → Prop} (hN : ∀ e w, (m34_20 R K1 (e 7) (e 8) (e 9) (e 11) (e 36) (e 37) w) → Q .normal e w) (hR : hR34 R Q) (e : Env) (w : World) (h : m34_22 R K1 (e 7) (e 8) (e 9) (e 10) (e 11) (e 36) (e 37) (e 55) w) : W34 k34_22 Q e w := by
  refine coA (Operand.tmp 55) h (fun h1 => ?_) (fun h1 => ?_)
  · refine seA ?_
    exact rgA 15 (fun e w => m34_23 R K1 (e 2) (e 3) w) h1 fun e w h => then_N (s34_23 hR e w h)
  · exact skA (hN _ _ h1)
theorem s34_19 {K1 : (Value × Value × Value) → World → Prop} (hN : ∀ e w, (m34_16 R K1 (e 4) (e 7) (e 36) (e 37) w) → Q .normal e w) (hR : hR34 R Q) (e : Env) (w : World) (h : m34_19 R K1 (e 7) (e 8) (e 9) (e 10) (e 11) (e 36) (e 37) w) : W34 k34_19 Q e w := by
  refine seA ?_
  have hN : ∀ e w, (m34_20 R K1 (e 7) (e 8) (e 9) (e 11) (e 36) (e 37) w) → (thenE (W34 k34_20 Q) Q) .normal e w := fun e w h => then_N (s34_20 hN e w h)
  have hR : hR34 R (thenE (W34 k34_20 Q) Q) := fun e w h => then_R (hR e w h)
  refine seA ?_
  exact rgA 14 (fun e w => m34_22 R K1 (e 7) (e 8) (e 9) (e 10) (e 11) (e 36) (e 37) (e 55) w) h fun e w h => then_N (s34_22 hN hR e w h)
theorem s34_18 {K1 : (Value × Value × Value) → World → Prop} (hN : ∀ e w, (m34_16 R K1 (e 4) (e 7) (e 36) (e 37) w) → Q .normal e w) (hR : hR34 R Q) (e : Env) (w : World) (h : m34_18 R K1 (e 7) (e 8) (e 9) (e 36) (e 37) w) : W34 k34_18 Q e w := by
  refine seA ?_
  exact rgA 13 (fun e w => m34_19 R K1 (e 7) (e 8) (e 9) (e 10) (e 11) (e 36) (e 37) w) h fun e w h => then_N (s34_19 hN hR e w h)
theorem s34_24 {K1 : (Value × Value × Value) → World → Prop} (hN : ∀ e w, (m34_18 R K1 (e 7) (e 8) (e 9) (e 36) (e 37) w) → Q .normal e w) (hR : hR34 R Q) (e : Env) (w : World) (h : m34_24 R K1 (e 7) (e 8) (e 9) (e 10) (e 36) (e 37) (e 46) w) : W34 k34_24 Q e w := by
  refine coA (Operand.tmp 46) h (fun h1 => ?_) (fun h1 => ?_)
  · refine seA ?_
    exact rgA 12 (fun e w => m34_25 R K1 (e 2) (e 3) w) h1 fun e w h => then_N (s34_25 hR e w h)
  · exact skA (hN _ _ h1)
theorem s34_17 {K1 : (Value × Value × Value) → World → Prop} (hN : ∀ e w, (m34_16 R K1 (e 4) (e 7) (e 36) (e 37) w) → Q .normal e w) (hR : hR34 R Q) (e : Env) (w : World) (h : m34_17 R K1 (e 7) (e 8) (e 9) (e 10) (e 36) (e 37) w) : W34 k34_17 Q e w := by
  refine seA ?_
  have hN : ∀ e w, (m34_18 R K1 (e 7) (e 8) (e 9) (e 36) (e 37) w) → (thenE (W34 k34_18 Q) Q) .normal e w := fun e w h => then_N (s34_18 hN hR e w h)
  have hR : hR34 R (thenE (W34 k34_18 Q) Q) := fun e w h => then_R (hR e w h)
  refine seA ?_
  exact rgA 11 (fun e w => m34_24 R K1 (e 7) (e 8) (e 9) (e 10) (e 36) (e 37) (e 46) w) h fun e w h => then_N (s34_24 hN hR e w h)
theorem s34_15 {K1 : (Value × Value × Value) → World → Prop} (hN : ∀ e w, (K1 ((e 4), (e 7), (e 37)) w) → Q .normal e w) (hR : hR34 R Q) (e : Env) (w : World) (h : m34_15 R K1 (e 4) (e 7) (e 36) (e 37) w) : W34 k34_15 Q e w := by
  refine seA ?_
  have hN : ∀ e w, (m34_16 R K1 (e 4) (e 7) (e 36) (e 37) w) → (thenE (W34 k34_16 Q) Q) .normal e w := fun e w h => then_N (s34_16 hN e w h)
  have hR : hR34 R (thenE (W34 k34_16 Q) Q) := fun e w h => then_R (hR e w h)
  refine block_ok 1 (by kernel_rfl) ?_
  have hN : ∀ e w, (m34_16 R K1 (e 4) (e 7) (e 36) (e 37) w) → (inBlockE 1 (thenE (W34 k34_16 Q) Q)) .normal e w := fun e w h => block_N (hN e w h)
  have hR : hR34 R (inBlockE 1 (thenE (W34 k34_16 Q) Q)) := fun e w h => block_R (hR e w h)
  refine seA ?_
  exact rgA 10 (fun e w => m34_17 R K1 (e 7) (e 8) (e 9) (e 10) (e 36) (e 37) w) h fun e w h => then_N (s34_17 (R := R) (Q := (inBlockE 1 (thenE (W34 k34_16 Q) Q))) hN hR e w h)
theorem s34_11 (hR : hR34 R Q) (e : Env) (w : World) (h : m34_11 R (e 2) (e 3) w) : W34 k34_11 Q e w := by
  exact reA (hR _ _ h)
theorem s34_9 (hR : hR34 R Q) (e : Env) (w : World) (h : m34_9 R (e 2) (e 3) w) : W34 k34_9 Q e w := by
  exact reA (hR _ _ h)
theorem s34_8 (hR : hR34 R Q) (e : Env) (w : World) (h : m34_8 R (e 7) w) : W34 k34_8 Q e w := by
  refine seA ?_
  exact rgA 21 (fun e w => m34_9 R (e 2) (e 3) w) h fun e w h => then_N (s34_9 hR e w h)
theorem s34_10 (hN : ∀ e w, (m34_8 R (e 7) w) → Q .normal e w) (hR : hR34 R Q) (e : Env) (w : World) (h : m34_10 R (e 7) (e 71) w) : W34 k34_10 Q e w := by
  refine coA (Operand.tmp 71) h (fun h1 => ?_) (fun h1 => ?_)
  · refine seA ?_
    exact rgA 20 (fun e w => m34_11 R (e 2) (e 3) w) h1 fun e w h => then_N (s34_11 hR e w h)
  · exact skA (hN _ _ h1)
theorem s34_7 (hR : hR34 R Q) (e : Env) (w : World) (h : m34_7 R (e 4) (e 7) w) : W34 k34_7 Q e w := by
  refine seA ?_
  have hN : ∀ e w, (m34_8 R (e 7) w) → (thenE (W34 k34_8 Q) Q) .normal e w := fun e w h => then_N (s34_8 hR e w h)
  have hR : hR34 R (thenE (W34 k34_8 Q) Q) := fun e w h => then_R (hR e w h)
  refine seA ?_
  exact rgA 19 (fun e w => m34_10 R (e 7) (e 71) w) h fun e w h => then_N (s34_10 hN hR e w h)
theorem s34_14 {K1 : (Value × Value × Value) → World → Prop} (hN : ∀ e w, (K1 ((e 4), (e 7), (e 37)) w) → Q .normal e w) (hR : hR34 R Q) (hX0 : ∀ e w, (m34_7 R (e 4) (e 7) w) → Q (.exit 0) e w) (e : Env) (w : World) (h : m34_14 R K1 (e 4) (e 7) (e 36) (e 37) (e 38) w) : W34 k34_14 Q e w := by
  refine seA ?_
  have hN : ∀ e w, (m34_15 R K1 (e 4) (e 7) (e 36) (e 37) w) → (thenE (W34 k34_15 Q) Q) .normal e w := fun e w h => then_N (s34_15 hN hR e w h)
  have hX0 : ∀ e w, (m34_7 R (e 4) (e 7) w) → (thenE (W34 k34_15 Q) Q) (.exit 0) e w := fun e w h => then_X (hX0 e w h)
  refine coA (Operand.tmp 38) h (fun h1 => ?_) (fun h1 => ?_)
  · exact skA (hN _ _ h1)
  · exact exA 0 (hX0 _ _ h1)
theorem s34_13 {K1 : (Value × Value × Value) → World → Prop} (hN : ∀ e w, (K1 ((e 4), (e 7), (e 37)) w) → Q .normal e w) (hR : hR34 R Q) (hX0 : ∀ e w, (m34_7 R (e 4) (e 7) w) → Q (.exit 0) e w) (e : Env) (w : World) (h : m34_13 R K1 (e 4) (e 7) (e 36) (e 37) w) : W34 k34_13 Q e w := by
  refine seA ?_
  exact rgA 9 (fun e w => m34_14 R K1 (e 4) (e 7) (e 36) (e 37) (e 38) w) h fun e w h => then_N (s34_14 hN hR hX0 e w h)
theorem s34_12 (hN : ∀ e w, (m34_7 R (e 4) (e 7) w) → Q .normal e w) (hR : hR34 R Q) (e : Env) (w : World) (h : m34_12 R (e 4) (e 7) (e 36) (e 37) w) : W34 k34_12 Q e w := by
  refine block_ok 0 (by kernel_rfl) ?_
  have hX0 : ∀ e w, (m34_7 R (e 4) (e 7) w) → (inBlockE 0 Q) (.exit 0) e w := fun e w h => inBlock_same (Q := Q) 0 (hN e w h)
  have hR : hR34 R (inBlockE 0 Q) := fun e w h => block_R (hR e w h)
  refine loop_ok' (fun (e : Env) => (e 4, e 7, e 37)) [36] (by kernel_rfl) (by kernel_rfl) h (fun K e' w' hk h' => ?_)
  have r36 : e' 36 = e 36 := hk 36 (by decide)
  have hR : hR34 R (thenE (fun (e : Env) w => K ((e 4), (e 7), (e 37)) w) (inBlockE 0 Q)) := fun e w h => then_R (hR e w h)
  have hX0 : ∀ e w, (m34_7 R (e 4) (e 7) w) → (thenE (fun (e : Env) w => K ((e 4), (e 7), (e 37)) w) (inBlockE 0 Q)) (.exit 0) e w := fun e w h => then_X (hX0 e w h)
  exact s34_13 (K1 := K) (fun _ _ h => then_N h) hR hX0 e' w' (by rw [r36]; exact h')
theorem s34_6 (hR : hR34 R Q) (e : Env) (w : World) (h : m34_6 R (e 4) (e 6) (e 7) w) : W34 k34_6 Q e w := by
  refine seA ?_
  have hN : ∀ e w, (m34_7 R (e 4) (e 7) w) → (thenE (W34 k34_7 Q) Q) .normal e w := fun e w h => then_N (s34_7 hR e w h)
  have hR : hR34 R (thenE (W34 k34_7 Q) Q) := fun e w h => then_R (hR e w h)
  refine seA ?_
  exact rgA 8 (fun e w => m34_12 R (e 4) (e 7) (e 36) (e 37) w) h fun e w h => then_N (s34_12 hN hR e w h)
theorem s34_5 (hR : hR34 R Q) (e : Env) (w : World) (h : m34_5 R (e 4) (e 6) w) : W34 k34_5 Q e w := by
  refine seA ?_
  exact rgA 7 (fun e w => m34_6 R (e 4) (e 6) (e 7) w) h fun e w h => then_N (s34_6 hR e w h)
theorem s34_26 (hN : ∀ e w, (m34_5 R (e 4) (e 6) w) → Q .normal e w) (hR : hR34 R Q) (e : Env) (w : World) (h : m34_26 R (e 4) (e 6) (e 35) w) : W34 k34_26 Q e w := by
  refine coA (Operand.tmp 35) h (fun h1 => ?_) (fun h1 => ?_)
  · refine seA ?_
    exact rgA 6 (fun e w => m34_27 R (e 2) (e 3) w) h1 fun e w h => then_N (s34_27 hR e w h)
  · exact skA (hN _ _ h1)
theorem s34_4 (hR : hR34 R Q) (e : Env) (w : World) (h : m34_4 R (e 4) (e 5) (e 6) w) : W34 k34_4 Q e w := by
  refine seA ?_
  have hN : ∀ e w, (m34_5 R (e 4) (e 6) w) → (thenE (W34 k34_5 Q) Q) .normal e w := fun e w h => then_N (s34_5 hR e w h)
  have hR : hR34 R (thenE (W34 k34_5 Q) Q) := fun e w h => then_R (hR e w h)
  refine seA ?_
  exact rgA 5 (fun e w => m34_26 R (e 4) (e 6) (e 35) w) h fun e w h => then_N (s34_26 hN hR e w h)
theorem s34_3 (hR : hR34 R Q) (e : Env) (w : World) (h : m34_3 R (e 4) w) : W34 k34_3 Q e w := by
  refine seA ?_
  exact rgA 4 (fun e w => m34_4 R (e 4) (e 5) (e 6) w) h fun e w h => then_N (s34_4 hR e w h)
theorem s34_28 (hN : ∀ e w, (m34_3 R (e 4) w) → Q .normal e w) (hR : hR34 R Q) (e : Env) (w : World) (h : m34_28 R (e 4) (e 5) (e 18) w) : W34 k34_28 Q e w := by
  refine coA (Operand.tmp 18) h (fun h1 => ?_) (fun h1 => ?_)
  · refine seA ?_
    exact rgA 3 (fun e w => m34_29 R (e 2) (e 3) w) h1 fun e w h => then_N (s34_29 hR e w h)
  · exact skA (hN _ _ h1)
theorem s34_2 (hR : hR34 R Q) (e : Env) (w : World) (h : m34_2 R (e 4) (e 5) w) : W34 k34_2 Q e w := by
  refine seA ?_
  have hN : ∀ e w, (m34_3 R (e 4) w) → (thenE (W34 k34_3 Q) Q) .normal e w := fun e w h => then_N (s34_3 hR e w h)
  have hR : hR34 R (thenE (W34 k34_3 Q) Q) := fun e w h => then_R (hR e w h)
  refine seA ?_
  exact rgA 2 (fun e w => m34_28 R (e 4) (e 5) (e 18) w) h fun e w h => then_N (s34_28 hN hR e w h)
theorem s34_1 (hR : hR34 R Q) (e : Env) (w : World) (h : m34_1 R (e 0) w) : W34 k34_1 Q e w := by
  refine seA ?_
  exact rgA 1 (fun e w => m34_2 R (e 4) (e 5) w) h fun e w h => then_N (s34_2 hR e w h)
theorem s34_0 (hR : hR34 R Q) (e : Env) (w : World) (h : m34_0 R (e 0) w) : W34 k34_0 Q e w := by
  refine seA ?_
  exact rgA 0 (fun e w => m34_1 R (e 0) w) h fun e w h => then_N (s34_1 hR e w h)
abbrev m34 (R : VP) (s0 : Value) (w : World) : Prop := m34_0 R s0 w
theorem s34 (s0 : Value) {R : VP} {w : World} (h : m34 R s0 w) :
    Calls Tryz.prog 34 #[s0] w fun e w' => ∃ v, e = .returned v ∧ R v w' :=
  calls_of_cwp (st := (fun i => 0)) (c := k34_0) (by kernel_rfl) Tryz.func34 (by kernel_rfl) (Nat.le_of_ble_eq_true (by kernel_rfl)) (by kernel_rfl)
    (s34_0 (R := R) (Q := endE Tryz.prog Tryz.f34 R) (fun e w h => kcast (by kernel_rfl) h) (argsE #[s0]) w (kcast (by kernel_rfl) h))
def m53_23 (R : VP) (t2 t3 : Value) (w : World) : Prop :=
  R (Value.tuple #[t2, t3]) w
def m53_20 (R : VP) (K1 : (Value × Value × Value) → World → Prop) (t2 t3 : Value) (w : World) : Prop :=
  R (Value.tuple #[t2, t3]) w
def m53_14 (R : VP) (K1 : (Value × Value × Value) → World → Prop) (n6 rest7 l9 i10 : Value) (w : World) : Prop :=
  valP Tryz.prog (binS BinOp.add 3 (tm 45) (ci 1) i10 (vi 1)) w fun t46 w =>
  K1 (rest7, l9, t46) w
def m53_18 (R : VP) (K1 : (Value × Value × Value) → World → Prop) (n6 l9 i10 b15 : Value) (w : World) : Prop :=
  m53_14 R K1 n6 b15 l9 i10 w
def m53_17 (R : VP) (K1 : (Value × Value × Value) → World → Prop) (n6 l9 i10 off11 r14 b15 : Value) (w : World) : Prop :=
  valP Tryz.prog (Instr.loadAt 56 r14) w fun t67 w =>
  valP Tryz.prog (Instr.build 58 #[(0, off11), (1, t67)]) w fun t68 w =>
  valP Tryz.prog (Instr.buildSlice 22 1 #[(0, t68)]) w fun t69 w =>
  builtinP Tryz.prog Builtin.append #[22, 22] 22 #[false, false] #[l9, t69] w fun t70 w =>
  m53_18 R K1 n6 t70 i10 b15 w
def m53_19 (R : VP) (K1 : (Value × Value × Value) → World → Prop) (n6 l9 i10 off11 r14 b15 t64 : Value) (w : World) : Prop :=
  condP t64
  (m53_20 R K1 (Value.slice none 0 0) (vi 2) w)
  (m53_17 R K1 n6 l9 i10 off11 r14 b15 w)
def m53_16 (R : VP) (K1 : (Value × Value × Value) → World → Prop) (n6 l9 i10 off11 e113 r14 b15 e216 : Value) (w : World) : Prop :=
  valP Tryz.prog (binS BinOp.neq 3 (tm 59) (ci 0) e113 (vi 0)) w fun t60 w =>
  condP t60
  (pickP t60 (Value.bool true) undef fun t64 =>
  m53_19 R K1 n6 l9 i10 off11 r14 b15 t64 w)
  (valP Tryz.prog (binS BinOp.neq 3 (tm 62) (ci 0) e216 (vi 0)) w fun t63 w =>
  pickP t60 (Value.bool true) t63 fun t64 =>
  m53_19 R K1 n6 l9 i10 off11 r14 b15 t64 w)
def m53_15 (R : VP) (K1 : (Value × Value × Value) → World → Prop) (n6 l9 i10 off11 a12 e113 : Value) (w : World) : Prop :=
  callP Tryz.prog (fnV 86) #[a12] w fun t55 w =>
  valP Tryz.prog (Instr.extract t55 0) w fun t56 w =>
  valP Tryz.prog (Instr.extract t55 1) w fun t57 w =>
  valP Tryz.prog (Instr.extract t55 2) w fun t58 w =>
  valP Tryz.prog (Instr.alloc 56 true (.tuple #[])) w fun r14 w =>
  unitP Tryz.prog (Instr.storeAt 56 r14 t56) w fun _ w =>
  m53_16 R K1 n6 l9 i10 off11 e113 r14 t57 t58 w
def m53_13 (R : VP) (K1 : (Value × Value × Value) → World → Prop) (n6 rest7 l9 i10 : Value) (w : World) : Prop :=
  callP Tryz.prog (fnV 85) #[rest7] w fun t49 w =>
  valP Tryz.prog (Instr.extract t49 0) w fun t50 w =>
  valP Tryz.prog (Instr.extract t49 1) w fun t51 w =>
  valP Tryz.prog (Instr.extract t49 2) w fun t52 w =>
  m53_15 R K1 n6 l9 i10 t50 t51 t52 w
def m53_10 (R : VP) (t2 t3 : Value) (w : World) : Prop :=
  R (Value.tuple #[t2, t3]) w
def m53_8 (R : VP) (t2 t3 : Value) (w : World) : Prop :=
  R (Value.tuple #[t2, t3]) w
def m53_7 (R : VP) (l9 : Value) (w : World) : Prop :=
  m53_8 R l9 (vi 0) w
def m53_9 (R : VP) (l9 t79 : Value) (w : World) : Prop :=
  condP t79
  (m53_10 R (Value.slice none 0 0) (vi 2) w)
  (m53_7 R l9 w)
def m53_6 (R : VP) (rest7 l9 : Value) (w : World) : Prop :=
  builtinP Tryz.prog Builtin.len #[9] 3 #[false] #[rest7] w fun t73 w =>
  valP Tryz.prog (binS BinOp.gtr 3 (tm 73) (ci 0) t73 (vi 0)) w fun t74 w =>
  condP t74
  (pickP t74 (Value.bool true) undef fun t79 =>
  m53_9 R l9 t79 w)
  (callP Tryz.prog (fnV 11) #[l9] w fun t77 w =>
  valP Tryz.prog (Op.unary UnOp.not t77) w fun t78 w =>
  pickP t74 (Value.bool true) t78 fun t79 =>
  m53_9 R l9 t79 w)
def m53_21 (R : VP) (K1 : (Value × Value × Value) → World → Prop) (n6 rest7 l9 i10 t44 : Value) (w : World) : Prop :=
  condP t44
  (m53_13 R K1 n6 rest7 l9 i10 w)
  (m53_6 R rest7 l9 w)
def m53_12 (R : VP) (K1 : (Value × Value × Value) → World → Prop) (n6 rest7 l9 i10 : Value) (w : World) : Prop :=
  valP Tryz.prog (binS BinOp.lss 3 (tm 42) (tm 43) i10 n6) w fun t44 w =>
  m53_21 R K1 n6 rest7 l9 i10 t44 w
def m53_11 (R : VP) (n6 rest7 l9 i10 : Value) (w : World) : Prop :=
  loopP (fun (K1 : (Value × Value × Value) → World → Prop) (s : Value × Value × Value) w => m53_12 R K1 n6 s.1 s.2.1 s.2.2 w) (rest7, l9, i10) w
def m53_5 (R : VP) (n6 rest7 l9 : Value) (w : World) : Prop :=
  m53_11 R n6 rest7 l9 (vi 0) w
def m53_4 (R : VP) (n6 rest7 : Value) (w : World) : Prop :=
  m53_5 R n6 rest7 (Value.slice none 0 0) w
def m53_22 (R : VP) (n6 rest7 t41 : Value) (w : World) : Prop :=
  condP t41
  (m53_23 R (Value.slice none 0 0) (vi 2) w)
  (m53_4 R n6 rest7 w)
def m53_3 (R : VP) (e5 n6 rest7 f8 : Value) (w : World) : Prop :=
  valP Tryz.prog (binS BinOp.neq 3 (tm 28) (ci 0) e5 (vi 0)) w fun t29 w =>
  condP t29
  (pickP t29 (Value.bool true) undef fun t33 =>
  condP t33
  (pickP t33 (Value.bool true) undef fun t37 =>
  condP t37
  (pickP t37 (Value.bool true) undef fun t41 =>
  m53_22 R n6 rest7 t41 w)
  (valP Tryz.prog (binS BinOp.gtr 3 (tm 39) (ci 4096) n6 (vi 4096)) w fun t40 w =>
  pickP t37 (Value.bool true) t40 fun t41 =>
  m53_22 R n6 rest7 t41 w))
  (valP Tryz.prog (binS BinOp.lss 3 (tm 35) (ci 0) n6 (vi 0)) w fun t36 w =>
  pickP t33 (Value.bool true) t36 fun t37 =>
  condP t37
  (pickP t37 (Value.bool true) undef fun t41 =>
  m53_22 R n6 rest7 t41 w)
  (valP Tryz.prog (binS BinOp.gtr 3 (tm 39) (ci 4096) n6 (vi 4096)) w fun t40 w =>
  pickP t37 (Value.bool true) t40 fun t41 =>
  m53_22 R n6 rest7 t41 w)))
  (valP Tryz.prog (binS BinOp.neq 3 (tm 31) (ci 0) f8 (vi 0)) w fun t32 w =>
  pickP t29 (Value.bool true) t32 fun t33 =>
  condP t33
  (pickP t33 (Value.bool true) undef fun t37 =>
  condP t37
  (pickP t37 (Value.bool true) undef fun t41 =>
  m53_22 R n6 rest7 t41 w)
  (valP Tryz.prog (binS BinOp.gtr 3 (tm 39) (ci 4096) n6 (vi 4096)) w fun t40 w =>
  pickP t37 (Value.bool true) t40 fun t41 =>
  m53_22 R n6 rest7 t41 w))
  (valP Tryz.prog (binS BinOp.lss 3 (tm 35) (ci 0) n6 (vi 0)) w fun t36 w =>
  pickP t33 (Value.bool true) t36 fun t37 =>
  condP t37
  (pickP t37 (Value.bool true) undef fun t41 =>
  m53_22 R n6 rest7 t41 w)
  (valP Tryz.prog (binS BinOp.gtr 3 (tm 39) (ci 4096) n6 (vi 4096)) w fun t40 w =>
  pickP t37 (Value.bool true) t40 fun t41 =>
  m53_22 R n6 rest7 t41 w)))
def m53_2 (R : VP) (t4 e5 : Value) (w : World) : Prop :=
  callP Tryz.prog (fnV 85) #[t4] w fun t24 w =>
  valP Tryz.prog (Instr.extract t24 0) w fun t25 w =>
  valP Tryz.prog (Instr.extract t24 1) w fun t26 w =>
  valP Tryz.prog (Instr.extract t24 2) w fun t27 w =>
  m53_3 R e5 t25 t26 t27 w
def m53_1 (R : VP) (s0 : Value) (w : World) : Prop :=
  callP Tryz.prog (fnV 84) #[s0] w fun t19 w =>
  valP Tryz.prog (Instr.extract t19 0) w fun t20 w =>
  valP Tryz.prog (Instr.extract t19 1) w fun t21 w =>
  m53_2 R t20 t21 w
def m53_0 (R : VP) (s0 : Value) (w : World) : Prop :=
  m53_1 R s0 w
abbrev W53 := cwp Tryz.prog (fun i => 0)
noncomputable def k53_0 := bodyOf Tryz.f53
noncomputable def k53_1 := c2 k53_0
noncomputable def k53_2 := c2 k53_1
noncomputable def k53_3 := c2 k53_2
noncomputable def k53_4 := c2 k53_3
noncomputable def k53_5 := c2 k53_4
noncomputable def k53_6 := c2 k53_5
noncomputable def k53_7 := c2 k53_6
noncomputable def k53_8 := c2 k53_7
noncomputable def k53_9 := c2 (c1 k53_6)
noncomputable def k53_10 := c2 (c1 k53_9)
noncomputable def k53_11 := c2 (c1 k53_5)
noncomputable def k53_12 := c1 (c1 k53_11)
noncomputable def k53_13 := c2 k53_12
noncomputable def k53_14 := c2 k53_13
noncomputable def k53_15 := c2 (c1 (c1 k53_13))
noncomputable def k53_16 := c2 k53_15
noncomputable def k53_17 := c2 k53_16
noncomputable def k53_18 := c2 k53_17
noncomputable def k53_19 := c2 (c1 k53_16)
noncomputable def k53_20 := c2 (c1 k53_19)
noncomputable def k53_21 := c2 (c1 k53_12)
noncomputable def k53_22 := c2 (c1 k53_3)
noncomputable def k53_23 := c2 (c1 k53_22)
abbrev hR53 (R : VP) (Q : EQ) : Prop := ∀ e w, (R (Value.tuple #[(e 2), (e 3)]) w) → Q .ret e w
theorem s53_23 (hR : hR53 R Q) (e : Env) (w : World) (h : m53_23 R (e 2) (e 3) w) : W53 k53_23 Q e w := by
  exact reA (hR _ _ h)
theorem s53_20 {K1 : (Value × Value × Value) → World → Prop} (hR : hR53 R Q) (e : Env) (w : World) (h : m53_20 R K1 (e 2) (e 3) w) : W53 k53_20 Q e w := by
  exact reA (hR _ _ h)
theorem s53_14 {K1 : (Value × Value × Value) → World → Prop} (hN : ∀ e w, (K1 ((e 7), (e 9), (e 10)) w) → Q .normal e w) (e : Env) (w : World) (h : m53_14 R K1 (e 6) (e 7) (e 9) (e 10) w) : W53 k53_14 Q e w := by
  exact rgA 8 (fun e w => K1 ((e 7), (e 9), (e 10)) w) h hN
theorem s53_18 {K1 : (Value × Value × Value) → World → Prop} (hN : ∀ e w, (m53_14 R K1 (e 6) (e 7) (e 9) (e 10) w) → Q .normal e w) (e : Env) (w : World) (h : m53_18 R K1 (e 6) (e 9) (e 10) (e 15) w) : W53 k53_18 Q e w := by
  exact rgA 14 (fun e w => m53_14 R K1 (e 6) (e 7) (e 9) (e 10) w) h hN
theorem s53_17 {K1 : (Value × Value × Value) → World → Prop} (hN : ∀ e w, (m53_14 R K1 (e 6) (e 7) (e 9) (e 10) w) → Q .normal e w) (e : Env) (w : World) (h : m53_17 R K1 (e 6) (e 9) (e 10) (e 11) (e 14) (e 15) w) : W53 k53_17 Q e w := by
  refine seA ?_
  exact rgA 13 (fun e w => m53_18 R K1 (e 6) (e 9) (e 10) (e 15) w) h fun e w h => then_N (s53_18 hN e w h)
theorem s53_19 {K1 : (Value × Value × Value) → World → Prop} (hN : ∀ e w, (m53_17 R K1 (e 6) (e 9) (e 10) (e 11) (e 14) (e 15) w) → Q .normal e w) (hR : hR53 R Q) (e : Env) (w : World) (h : m53_19 R K1 (e 6) (e 9) (e 10) (e 11) (e 14) (e 15) (e 64) w) : W53 k53_19 Q e w := by
  refine coA (Operand.tmp 64) h (fun h1 => ?_) (fun h1 => ?_)
  · refine seA ?_
    exact rgA 12 (fun e w => m53_20 R K1 (e 2) (e 3) w) h1 fun e w h => then_N (s53_20 hR e w h)
  · exact skA (hN _ _ h1)
theorem s53_16 {K1 : (Value × Value × Value) → World → Prop} (hN : ∀ e w, (m53_14 R K1 (e 6) (e 7) (e 9) (e 10) w) → Q .normal e w) (hR : hR53 R Q) (e : Env) (w : World) (h : m53_16 R K1 (e 6) (e 9) (e 10) (e 11) (e 13) (e 14) (e 15) (e 16) w) : W53 k53_16 Q e w := by
  refine seA ?_
  have hN : ∀ e w, (m53_17 R K1 (e 6) (e 9) (e 10) (e 11) (e 14) (e 15) w) → (thenE (W53 k53_17 Q) Q) .normal e w := fun e w h => then_N (s53_17 hN e w h)
  have hR : hR53 R (thenE (W53 k53_17 Q) Q) := fun e w h => then_R (hR e w h)
  refine seA ?_
  exact rgA 11 (fun e w => m53_19 R K1 (e 6) (e 9) (e 10) (e 11) (e 14) (e 15) (e 64) w) h fun e w h => then_N (s53_19 hN hR e w h)
theorem s53_15 {K1 : (Value × Value × Value) → World → Prop} (hN : ∀ e w, (m53_14 R K1 (e 6) (e 7) (e 9) (e 10) w) → Q .normal e w) (hR : hR53 R Q) (e : Env) (w : World) (h : m53_15 R K1 (e 6) (e 9) (e 10) (e 11) (e 12) (e 13) w) : W53 k53_15 Q e w := by
  refine seA ?_
  exact rgA 10 (fun e w => m53_16 R K1 (e 6) (e 9) (e 10) (e 11) (e 13) (e 14) (e 15) (e 16) w) h fun e w h => then_N (s53_16 hN hR e w h)
theorem s53_13 {K1 : (Value × Value × Value) → World → Prop} (hN : ∀ e w, (K1 ((e 7), (e 9), (e 10)) w) → Q .normal e w) (hR : hR53 R Q) (e : Env) (w : World) (h : m53_13 R K1 (e 6) (e 7) (e 9) (e 10) w) : W53 k53_13 Q e w := by
  refine seA ?_
  have hN : ∀ e w, (m53_14 R K1 (e 6) (e 7) (e 9) (e 10) w) → (thenE (W53 k53_14 Q) Q) .normal e w := fun e w h => then_N (s53_14 hN e w h)
  have hR : hR53 R (thenE (W53 k53_14 Q) Q) := fun e w h => then_R (hR e w h)
  refine block_ok 1 (by kernel_rfl) ?_
  have hN : ∀ e w, (m53_14 R K1 (e 6) (e 7) (e 9) (e 10) w) → (inBlockE 1 (thenE (W53 k53_14 Q) Q)) .normal e w := fun e w h => block_N (hN e w h)
  have hR : hR53 R (inBlockE 1 (thenE (W53 k53_14 Q) Q)) := fun e w h => block_R (hR e w h)
  refine seA ?_
  exact rgA 9 (fun e w => m53_15 R K1 (e 6) (e 9) (e 10) (e 11) (e 12) (e 13) w) h fun e w h => then_N (s53_15 (R := R) (Q := (inBlockE 1 (thenE (W53 k53_14 Q) Q))) hN hR e w h)
theorem s53_10 (hR : hR53 R Q) (e : Env) (w : World) (h : m53_10 R (e 2) (e 3) w) : W53 k53_10 Q e w := by
  exact reA (hR _ _ h)
theorem s53_8 (hR : hR53 R Q) (e : Env) (w : World) (h : m53_8 R (e 2) (e 3) w) : W53 k53_8 Q e w := by
  exact reA (hR _ _ h)
theorem s53_7 (hR : hR53 R Q) (e : Env) (w : World) (h : m53_7 R (e 9) w) : W53 k53_7 Q e w := by
  refine seA ?_
  exact rgA 17 (fun e w => m53_8 R (e 2) (e 3) w) h fun e w h => then_N (s53_8 hR e w h)
theorem s53_9 (hN : ∀ e w, (m53_7 R (e 9) w) → Q .normal e w) (hR : hR53 R Q) (e : Env) (w : World) (h : m53_9 R (e 9) (e 79) w) : W53 k53_9 Q e w := by
  refine coA (Operand.tmp 79) h (fun h1 => ?_) (fun h1 => ?_)
  · refine seA ?_
    exact rgA 16 (fun e w => m53_10 R (e 2) (e 3) w) h1 fun e w h => then_N (s53_10 hR e w h)
  · exact skA (hN _ _ h1)
theorem s53_6 (hR : hR53 R Q) (e : Env) (w : World) (h : m53_6 R (e 7) (e 9) w) : W53 k53_6 Q e w := by
  refine seA ?_
  have hN : ∀ e w, (m53_7 R (e 9) w) → (thenE (W53 k53_7 Q) Q) .normal e w := fun e w h => then_N (s53_7 hR e w h)
  have hR : hR53 R (thenE (W53 k53_7 Q) Q) := fun e w h => then_R (hR e w h)
  refine seA ?_
  exact rgA 15 (fun e w => m53_9 R (e 9) (e 79) w) h fun e w h => then_N (s53_9 hN hR e w h)
theorem s53_21 {K1 : (Value × Value × Value) → World → Prop} (hN : ∀ e w, (m53_13 R K1 (e 6) (e 7) (e 9) (e 10) w) → Q .normal e w) (hX0 : ∀ e w, (m53_6 R (e 7) (e 9) w) → Q (.exit 0) e w) (e : Env) (w : World) (h : m53_21 R K1 (e 6) (e 7) (e 9) (e 10) (e 44) w) : W53 k53_21 Q e w := by
  refine coA (Operand.tmp 44) h (fun h1 => ?_) (fun h1 => ?_)
  · exact skA (hN _ _ h1)
  · exact exA 0 (hX0 _ _ h1)
theorem s53_12 {K1 : (Value × Value × Value) → World → Prop} (hN : ∀ e w, (K1 ((e 7), (e 9), (e 10)) w) → Q .normal e w) (hR : hR53 R Q) (hX0 : ∀ e w, (m53_6 R (e 7) (e 9) w) → Q (.exit 0) e w) (e : Env) (w : World) (h : m53_12 R K1 (e 6) (e 7) (e 9) (e 10) w) : W53 k53_12 Q e w := by
  refine seA ?_
  have hN : ∀ e w, (m53_13 R K1 (e 6) (e 7) (e 9) (e 10) w) → (thenE (W53 k53_13 Q) Q) .normal e w := fun e w h => then_N (s53_13 hN hR e w h)
  have hX0 : ∀ e w, (m53_6 R (e 7) (e 9) w) → (thenE (W53 k53_13 Q) Q) (.exit 0) e w := fun e w h => then_X (hX0 e w h)
  refine seA ?_
  exact rgA 7 (fun e w => m53_21 R K1 (e 6) (e 7) (e 9) (e 10) (e 44) w) h fun e w h => then_N (s53_21 hN hX0 e w h)
theorem s53_11 (hN : ∀ e w, (m53_6 R (e 7) (e 9) w) → Q .normal e w) (hR : hR53 R Q) (e : Env) (w : World) (h : m53_11 R (e 6) (e 7) (e 9) (e 10) w) : W53 k53_11 Q e w := by
  refine block_ok 0 (by kernel_rfl) ?_
  have hX0 : ∀ e w, (m53_6 R (e 7) (e 9) w) → (inBlockE 0 Q) (.exit 0) e w := fun e w h => inBlock_same (Q := Q) 0 (hN e w h)
  have hR : hR53 R (inBlockE 0 Q) := fun e w h => block_R (hR e w h)
  refine loop_ok' (fun (e : Env) => (e 7, e 9, e 10)) [6] (by kernel_rfl) (by kernel_rfl) h (fun K e' w' hk h' => ?_)
  have r6 : e' 6 = e 6 := hk 6 (by decide)
  have hR : hR53 R (thenE (fun (e : Env) w => K ((e 7), (e 9), (e 10)) w) (inBlockE 0 Q)) := fun e w h => then_R (hR e w h)
  have hX0 : ∀ e w, (m53_6 R (e 7) (e 9) w) → (thenE (fun (e : Env) w => K ((e 7), (e 9), (e 10)) w) (inBlockE 0 Q)) (.exit 0) e w := fun e w h => then_X (hX0 e w h)
  exact s53_12 (K1 := K) (fun _ _ h => then_N h) hR hX0 e' w' (by rw [r6]; exact h')
theorem s53_5 (hR : hR53 R Q) (e : Env) (w : World) (h : m53_5 R (e 6) (e 7) (e 9) w) : W53 k53_5 Q e w := by
  refine seA ?_
  have hN : ∀ e w, (m53_6 R (e 7) (e 9) w) → (thenE (W53 k53_6 Q) Q) .normal e w := fun e w h => then_N (s53_6 hR e w h)
  have hR : hR53 R (thenE (W53 k53_6 Q) Q) := fun e w h => then_R (hR e w h)
  refine seA ?_
  exact rgA 6 (fun e w => m53_11 R (e 6) (e 7) (e 9) (e 10) w) h fun e w h => then_N (s53_11 hN hR e w h)
theorem s53_4 (hR : hR53 R Q) (e : Env) (w : World) (h : m53_4 R (e 6) (e 7) w) : W53 k53_4 Q e w := by
  refine seA ?_
  exact rgA 5 (fun e w => m53_5 R (e 6) (e 7) (e 9) w) h fun e w h => then_N (s53_5 hR e w h)
theorem s53_22 (hN : ∀ e w, (m53_4 R (e 6) (e 7) w) → Q .normal e w) (hR : hR53 R Q) (e : Env) (w : World) (h : m53_22 R (e 6) (e 7) (e 41) w) : W53 k53_22 Q e w := by
  refine coA (Operand.tmp 41) h (fun h1 => ?_) (fun h1 => ?_)
  · refine seA ?_
    exact rgA 4 (fun e w => m53_23 R (e 2) (e 3) w) h1 fun e w h => then_N (s53_23 hR e w h)
  · exact skA (hN _ _ h1)
theorem s53_3 (hR : hR53 R Q) (e : Env) (w : World) (h : m53_3 R (e 5) (e 6) (e 7) (e 8) w) : W53 k53_3 Q e w := by
  refine seA ?_
  have hN : ∀ e w, (m53_4 R (e 6) (e 7) w) → (thenE (W53 k53_4 Q) Q) .normal e w := fun e w h => then_N (s53_4 hR e w h)
  have hR : hR53 R (thenE (W53 k53_4 Q) Q) := fun e w h => then_R (hR e w h)
  refine seA ?_
  exact rgA 3 (fun e w => m53_22 R (e 6) (e 7) (e 41) w) h fun e w h => then_N (s53_22 hN hR e w h)
theorem s53_2 (hR : hR53 R Q) (e : Env) (w : World) (h : m53_2 R (e 4) (e 5) w) : W53 k53_2 Q e w := by
  refine seA ?_
  exact rgA 2 (fun e w => m53_3 R (e 5) (e 6) (e 7) (e 8) w) h fun e w h => then_N (s53_3 hR e w h)
theorem s53_1 (hR : hR53 R Q) (e : Env) (w : World) (h : m53_1 R (e 0) w) : W53 k53_1 Q e w := by
  refine seA ?_
  exact rgA 1 (fun e w => m53_2 R (e 4) (e 5) w) h fun e w h => then_N (s53_2 hR e w h)
theorem s53_0 (hR : hR53 R Q) (e : Env) (w : World) (h : m53_0 R (e 0) w) : W53 k53_0 Q e w := by
  refine seA ?_
  exact rgA 0 (fun e w => m53_1 R (e 0) w) h fun e w h => then_N (s53_1 hR e w h)
abbrev m53 (R : VP) (s0 : Value) (w : World) : Prop := m53_0 R s0 w
theorem s53 (s0 : Value) {R : VP} {w : World} (h : m53 R s0 w) :
    Calls Tryz.prog 53 #[s0] w fun e w' => ∃ v, e = .returned v ∧ R v w' :=
  calls_of_cwp (st := (fun i => 0)) (c := k53_0) (by kernel_rfl) Tryz.func53 (by kernel_rfl) (Nat.le_of_ble_eq_true (by kernel_rfl)) (by kernel_rfl)
    (s53_0 (R := R) (Q := endE Tryz.prog Tryz.f53 R) (fun e w h => kcast (by kernel_rfl) h) (argsE #[s0]) w (kcast (by kernel_rfl) h))
def m57_15 (R : VP) (K1 : VP) (t2 : Value) (w : World) : Prop :=
  R t2 w
def m57_11 (R : VP) (K1 : VP) (l0 t8 t9 t10 : Value) (w : World) : Prop :=
  valP Tryz.prog (binS BinOp.add 3 (tm 10) (ci 1) t10 (vi 1)) w fun t34 w =>
  K1 t34 w
def m57_14 (R : VP) (K1 : VP) (l0 t8 t9 t10 t33 : Value) (w : World) : Prop :=
  condP t33
  (m57_15 R K1 (vi 1) w)
  (m57_11 R K1 l0 t8 t9 t10 w)
def m57_13 (R : VP) (K1 : VP) (l0 g4 e7 t8 t9 t10 : Value) (w : World) : Prop :=
  valP Tryz.prog (binS BinOp.neq 26 (tm 22) (ci 0) e7 (vi 0)) w fun t23 w =>
  condP t23
  (pickP t23 (Value.bool true) undef fun t28 =>
  condP t28
  (pickP t28 (Value.bool true) undef fun t33 =>
  m57_14 R K1 l0 t8 t9 t10 t33 w)
  (valP Tryz.prog (Instr.fieldAt 58 g4 0) w fun t30 w =>
  valP Tryz.prog (Instr.loadAt 3 t30) w fun t31 w =>
  valP Tryz.prog (binS BinOp.gtr 3 (tm 31) (ci 1099511627776) t31 (vi 1099511627776)) w fun t32 w =>
  pickP t28 (Value.bool true) t32 fun t33 =>
  m57_14 R K1 l0 t8 t9 t10 t33 w))
  (valP Tryz.prog (Instr.fieldAt 58 g4 0) w fun t25 w =>
  valP Tryz.prog (Instr.loadAt 3 t25) w fun t26 w =>
  valP Tryz.prog (binS BinOp.lss 3 (tm 26) (ci 0) t26 (vi 0)) w fun t27 w =>
  pickP t23 (Value.bool true) t27 fun t28 =>
  condP t28
  (pickP t28 (Value.bool true) undef fun t33 =>
  m57_14 R K1 l0 t8 t9 t10 t33 w)
  (valP Tryz.prog (Instr.fieldAt 58 g4 0) w fun t30 w =>
  valP Tryz.prog (Instr.loadAt 3 t30) w fun t31 w =>
  valP Tryz.prog (binS BinOp.gtr 3 (tm 31) (ci 1099511627776) t31 (vi 1099511627776)) w fun t32 w =>
  pickP t28 (Value.bool true) t32 fun t33 =>
  m57_14 R K1 l0 t8 t9 t10 t33 w))
def m57_12 (R : VP) (K1 : VP) (l0 g4 t8 t9 t10 : Value) (w : World) : Prop :=
  valP Tryz.prog (Instr.fieldAt 58 g4 1) w fun t15 w =>
  valP Tryz.prog (Instr.loadAt 56 t15) w fun t16 w =>
  callP Tryz.prog (fnV 60) #[t16] w fun t17 w =>
  callP Tryz.prog (fnV 74) #[t17] w fun t18 w =>
  valP Tryz.prog (Instr.extract t18 0) w fun t19 w =>
  valP Tryz.prog (Instr.extract t18 1) w fun t20 w =>
  valP Tryz.prog (Instr.extract t18 2) w fun t21 w =>
  valP Tryz.prog (Instr.alloc 56 true (.tuple #[])) w fun t5 w =>
  unitP Tryz.prog (Instr.storeAt 56 t5 t19) w fun _ w =>
  m57_13 R K1 l0 g4 t21 t8 t9 t10 w
def m57_10 (R : VP) (K1 : VP) (l0 t8 t9 t10 : Value) (w : World) : Prop :=
  valP Tryz.prog (Instr.indexAt 22 t8 t10) w fun t12 w =>
  valP Tryz.prog (Instr.loadAt 58 t12) w fun t13 w =>
  valP Tryz.prog (Instr.alloc 58 true (.tuple #[])) w fun g4 w =>
  unitP Tryz.prog (Instr.storeAt 58 g4 t13) w fun _ w =>
  m57_12 R K1 l0 g4 t8 t9 t10 w
def m57_6 (R : VP) (t2 : Value) (w : World) : Prop :=
  R t2 w
def m57_4 (R : VP) (t2 : Value) (w : World) : Prop :=
  R t2 w
def m57_3 (R : VP) (w : World) : Prop :=
  m57_4 R (vi 0) w
def m57_5 (R : VP) (t37 : Value) (w : World) : Prop :=
  condP t37
  (m57_6 R (vi 1) w)
  (m57_3 R w)
def m57_2 (R : VP) (l0 : Value) (w : World) : Prop :=
  builtinP Tryz.prog Builtin.len #[22] 3 #[false] #[l0] w fun t36 w =>
  valP Tryz.prog (binS BinOp.gtr 3 (tm 36) (ci 4096) t36 (vi 4096)) w fun t37 w =>
  m57_5 R t37 w
def m57_9 (R : VP) (K1 : VP) (l0 t8 t9 t10 t11 : Value) (w : World) : Prop :=
  condP t11
  (m57_10 R K1 l0 t8 t9 t10 w)
  (m57_2 R l0 w)
def m57_8 (R : VP) (K1 : VP) (l0 t8 t9 t10 : Value) (w : World) : Prop :=
  valP Tryz.prog (binS BinOp.lss 3 (tm 10) (tm 9) t10 t9) w fun t11 w =>
  m57_9 R K1 l0 t8 t9 t10 t11 w
def m57_7 (R : VP) (l0 t8 t9 t10 : Value) (w : World) : Prop :=
  loopP (fun (K1 : VP) (s : Value) w => m57_8 R K1 l0 t8 t9 s w) t10 w
def m57_1 (R : VP) (l0 : Value) (w : World) : Prop :=
  builtinP Tryz.prog Builtin.len #[22] 3 #[false] #[l0] w fun t9 w =>
  m57_7 R l0 l0 t9 (vi 0) w
def m57_0 (R : VP) (l0 : Value) (w : World) : Prop :=
  m57_1 R l0 w
abbrev W57 := cwp Tryz.prog (fun i => 0)
noncomputable def k57_0 := bodyOf Tryz.f57
noncomputable def k57_1 := c2 k57_0
noncomputable def k57_2 := c2 k57_1
noncomputable def k57_3 := c2 k57_2
noncomputable def k57_4 := c2 k57_3
noncomputable def k57_5 := c2 (c1 k57_2)
noncomputable def k57_6 := c2 (c1 k57_5)
noncomputable def k57_7 := c2 (c1 k57_1)
noncomputable def k57_8 := c1 (c1 k57_7)
noncomputable def k57_9 := c2 k57_8
noncomputable def k57_10 := c2 k57_9
noncomputable def k57_11 := c2 k57_10
noncomputable def k57_12 := c2 (c1 (c1 k57_10))
noncomputable def k57_13 := c2 k57_12
noncomputable def k57_14 := c2 k57_13
noncomputable def k57_15 := c2 (c1 k57_14)
abbrev hR57 (R : VP) (Q : EQ) : Prop := ∀ e w, (R (e 2) w) → Q .ret e w
theorem s57_15 {K1 : VP} (hR : hR57 R Q) (e : Env) (w : World) (h : m57_15 R K1 (e 2) w) : W57 k57_15 Q e w := by
  exact reA (hR _ _ h)
theorem s57_11 {K1 : VP} (hN : ∀ e w, (K1 (e 10) w) → Q .normal e w) (e : Env) (w : World) (h : m57_11 R K1 (e 0) (e 8) (e 9) (e 10) w) : W57 k57_11 Q e w := by
  exact rgA 7 (fun e w => K1 (e 10) w) h hN
theorem s57_14 {K1 : VP} (hN : ∀ e w, (m57_11 R K1 (e 0) (e 8) (e 9) (e 10) w) → Q .normal e w) (hR : hR57 R Q) (e : Env) (w : World) (h : m57_14 R K1 (e 0) (e 8) (e 9) (e 10) (e 33) w) : W57 k57_14 Q e w := by
  refine coA (Operand.tmp 33) h (fun h1 => ?_) (fun h1 => ?_)
  · refine seA ?_
    exact rgA 6 (fun e w => m57_15 R K1 (e 2) w) h1 fun e w h => then_N (s57_15 hR e w h)
  · exact skA (hN _ _ h1)
theorem s57_13 {K1 : VP} (hN : ∀ e w, (m57_11 R K1 (e 0) (e 8) (e 9) (e 10) w) → Q .normal e w) (hR : hR57 R Q) (e : Env) (w : World) (h : m57_13 R K1 (e 0) (e 4) (e 7) (e 8) (e 9) (e 10) w) : W57 k57_13 Q e w := by
  refine seA ?_
  exact rgA 5 (fun e w => m57_14 R K1 (e 0) (e 8) (e 9) (e 10) (e 33) w) h fun e w h => then_N (s57_14 hN hR e w h)
theorem s57_12 {K1 : VP} (hN : ∀ e w, (m57_11 R K1 (e 0) (e 8) (e 9) (e 10) w) → Q .normal e w) (hR : hR57 R Q) (e : Env) (w : World) (h : m57_12 R K1 (e 0) (e 4) (e 8) (e 9) (e 10) w) : W57 k57_12 Q e w := by
  refine seA ?_
  exact rgA 4 (fun e w => m57_13 R K1 (e 0) (e 4) (e 7) (e 8) (e 9) (e 10) w) h fun e w h => then_N (s57_13 hN hR e w h)
theorem s57_10 {K1 : VP} (hN : ∀ e w, (K1 (e 10) w) → Q .normal e w) (hR : hR57 R Q) (e : Env) (w : World) (h : m57_10 R K1 (e 0) (e 8) (e 9) (e 10) w) : W57 k57_10 Q e w := by
  refine seA ?_
  have hN : ∀ e w, (m57_11 R K1 (e 0) (e 8) (e 9) (e 10) w) → (thenE (W57 k57_11 Q) Q) .normal e w := fun e w h => then_N (s57_11 hN e w h)
  have hR : hR57 R (thenE (W57 k57_11 Q) Q) := fun e w h => then_R (hR e w h)
  refine block_ok 1 (by kernel_rfl) ?_
  have hN : ∀ e w, (m57_11 R K1 (e 0) (e 8) (e 9) (e 10) w) → (inBlockE 1 (thenE (W57 k57_11 Q) Q)) .normal e w := fun e w h => block_N (hN e w h)
  have hR : hR57 R (inBlockE 1 (thenE (W57 k57_11 Q) Q)) := fun e w h => block_R (hR e w h)
  refine seA ?_
  exact rgA 3 (fun e w => m57_12 R K1 (e 0) (e 4) (e 8) (e 9) (e 10) w) h fun e w h => then_N (s57_12 (R := R) (Q := (inBlockE 1 (thenE (W57 k57_11 Q) Q))) hN hR e w h)
theorem s57_6 (hR : hR57 R Q) (e : Env) (w : World) (h : m57_6 R (e 2) w) : W57 k57_6 Q e w := by
  exact reA (hR _ _ h)
theorem s57_4 (hR : hR57 R Q) (e : Env) (w : World) (h : m57_4 R (e 2) w) : W57 k57_4 Q e w := by
  exact reA (hR _ _ h)
theorem s57_3 (hR : hR57 R Q) (e : Env) (w : World) (h : m57_3 R w) : W57 k57_3 Q e w := by
  refine seA ?_
  exact rgA 10 (fun e w => m57_4 R (e 2) w) h fun e w h => then_N (s57_4 hR e w h)
theorem s57_5 (hN : ∀ e w, (m57_3 R w) → Q .normal e w) (hR : hR57 R Q) (e : Env) (w : World) (h : m57_5 R (e 37) w) : W57 k57_5 Q e w := by
  refine coA (Operand.tmp 37) h (fun h1 => ?_) (fun h1 => ?_)
  · refine seA ?_
    exact rgA 9 (fun e w => m57_6 R (e 2) w) h1 fun e w h => then_N (s57_6 hR e w h)
  · exact skA (hN _ _ h1)
theorem s57_2 (hR : hR57 R Q) (e : Env) (w : World) (h : m57_2 R (e 0) w) : W57 k57_2 Q e w := by
  refine seA ?_
  have hN : ∀ e w, (m57_3 R w) → (thenE (W57 k57_3 Q) Q) .normal e w := fun e w h => then_N (s57_3 hR e w h)
  have hR : hR57 R (thenE (W57 k57_3 Q) Q) := fun e w h => then_R (hR e w h)
  refine seA ?_
  exact rgA 8 (fun e w => m57_5 R (e 37) w) h fun e w h => then_N (s57_5 hN hR e w h)
theorem s57_9 {K1 : VP} (hN : ∀ e w, (K1 (e 10) w) → Q .normal e w) (hR : hR57 R Q) (hX0 : ∀ e w, (m57_2 R (e 0) w) → Q (.exit 0) e w) (e : Env) (w : World) (h : m57_9 R K1 (e 0) (e 8) (e 9) (e 10) (e 11) w) : W57 k57_9 Q e w := by
  refine seA ?_
  have hN : ∀ e w, (m57_10 R K1 (e 0) (e 8) (e 9) (e 10) w) → (thenE (W57 k57_10 Q) Q) .normal e w := fun e w h => then_N (s57_10 hN hR e w h)
  have hX0 : ∀ e w, (m57_2 R (e 0) w) → (thenE (W57 k57_10 Q) Q) (.exit 0) e w := fun e w h => then_X (hX0 e w h)
  refine coA (Operand.tmp 11) h (fun h1 => ?_) (fun h1 => ?_)
  · exact skA (hN _ _ h1)
  · exact exA 0 (hX0 _ _ h1)
theorem s57_8 {K1 : VP} (hN : ∀ e w, (K1 (e 10) w) → Q .normal e w) (hR : hR57 R Q) (hX0 : ∀ e w, (m57_2 R (e 0) w) → Q (.exit 0) e w) (e : Env) (w : World) (h : m57_8 R K1 (e 0) (e 8) (e 9) (e 10) w) : W57 k57_8 Q e w := by
  refine seA ?_
  exact rgA 2 (fun e w => m57_9 R K1 (e 0) (e 8) (e 9) (e 10) (e 11) w) h fun e w h => then_N (s57_9 hN hR hX0 e w h)
theorem s57_7 (hN : ∀ e w, (m57_2 R (e 0) w) → Q .normal e w) (hR : hR57 R Q) (e : Env) (w : World) (h : m57_7 R (e 0) (e 8) (e 9) (e 10) w) : W57 k57_7 Q e w := by
  refine block_ok 0 (by kernel_rfl) ?_
  have hX0 : ∀ e w, (m57_2 R (e 0) w) → (inBlockE 0 Q) (.exit 0) e w := fun e w h => inBlock_same (Q := Q) 0 (hN e w h)
  have hR : hR57 R (inBlockE 0 Q) := fun e w h => block_R (hR e w h)
  refine loop_ok' (fun (e : Env) => e 10) [0, 8, 9] (by kernel_rfl) (by kernel_rfl) h (fun K e' w' hk h' => ?_)
  have r0 : e' 0 = e 0 := hk 0 (by decide)
  have r8 : e' 8 = e 8 := hk 8 (by decide)
  have r9 : e' 9 = e 9 := hk 9 (by decide)
  have hR : hR57 R (thenE (fun (e : Env) w => K (e 10) w) (inBlockE 0 Q)) := fun e w h => then_R (hR e w h)
  have hX0 : ∀ e w, (m57_2 R (e 0) w) → (thenE (fun (e : Env) w => K (e 10) w) (inBlockE 0 Q)) (.exit 0) e w := fun e w h => then_X (hX0 e w h)
  exact s57_8 (K1 := K) (fun _ _ h => then_N h) hR hX0 e' w' (by rw [r0, r8, r9]; exact h')
theorem s57_1 (hR : hR57 R Q) (e : Env) (w : World) (h : m57_1 R (e 0) w) : W57 k57_1 Q e w := by
  refine seA ?_
  have hN : ∀ e w, (m57_2 R (e 0) w) → (thenE (W57 k57_2 Q) Q) .normal e w := fun e w h => then_N (s57_2 hR e w h)
  have hR : hR57 R (thenE (W57 k57_2 Q) Q) := fun e w h => then_R (hR e w h)
  refine seA ?_
  exact rgA 1 (fun e w => m57_7 R (e 0) (e 8) (e 9) (e 10) w) h fun e w h => then_N (s57_7 hN hR e w h)
theorem s57_0 (hR : hR57 R Q) (e : Env) (w : World) (h : m57_0 R (e 0) w) : W57 k57_0 Q e w := by
  refine seA ?_
  exact rgA 0 (fun e w => m57_1 R (e 0) w) h fun e w h => then_N (s57_1 hR e w h)
abbrev m57 (R : VP) (l0 : Value) (w : World) : Prop := m57_0 R l0 w
theorem s57 (l0 : Value) {R : VP} {w : World} (h : m57 R l0 w) :
    Calls Tryz.prog 57 #[l0] w fun e w' => ∃ v, e = .returned v ∧ R v w' :=
  calls_of_cwp (st := (fun i => 0)) (c := k57_0) (by kernel_rfl) Tryz.func57 (by kernel_rfl) (Nat.le_of_ble_eq_true (by kernel_rfl)) (by kernel_rfl)
    (s57_0 (R := R) (Q := endE Tryz.prog Tryz.f57 R) (fun e w h => kcast (by kernel_rfl) h) (argsE #[l0]) w (kcast (by kernel_rfl) h))
def m11_9 (R : VP) (K1 : VP) (t2 : Value) (w : World) : Prop :=
  R t2 w
def m11_7 (R : VP) (K1 : VP) (l0 i3 : Value) (w : World) : Prop :=
  valP Tryz.prog (binS BinOp.add 3 (tm 8) (ci 1) i3 (vi 1)) w fun t9 w =>
  K1 t9 w
def m11_8 (R : VP) (K1 : VP) (l0 i3 t32 : Value) (w : World) : Prop :=
  condP t32
  (m11_9 R K1 (Value.bool false) w)
  (m11_7 R K1 l0 i3 w)
def m11_6 (R : VP) (K1 : VP) (l0 i3 : Value) (w : World) : Prop :=
  valP Tryz.prog (Instr.indexAt 22 l0 i3) w fun t12 w =>
  valP Tryz.prog (Instr.fieldAt 58 t12 0) w fun t13 w =>
  valP Tryz.prog (Instr.loadAt 3 t13) w fun t14 w =>
  valP Tryz.prog (binS BinOp.lss 3 (tm 14) (ci 0) t14 (vi 0)) w fun t15 w =>
  condP t15
  (pickP t15 (Value.bool true) undef fun t23 =>
  condP t23
  (pickP t23 (Value.bool true) undef fun t32 =>
  m11_8 R K1 l0 i3 t32 w)
  (valP Tryz.prog (Instr.indexAt 22 l0 i3) w fun t27 w =>
  valP Tryz.prog (Instr.fieldAt 58 t27 1) w fun t28 w =>
  valP Tryz.prog (Instr.loadAt 56 t28) w fun t29 w =>
  callP Tryz.prog (fnV 35) #[t29] w fun t30 w =>
  valP Tryz.prog (Op.unary UnOp.not t30) w fun t31 w =>
  pickP t23 (Value.bool true) t31 fun t32 =>
  m11_8 R K1 l0 i3 t32 w))
  (valP Tryz.prog (Instr.indexAt 22 l0 i3) w fun t19 w =>
  valP Tryz.prog (Instr.fieldAt 58 t19 0) w fun t20 w =>
  valP Tryz.prog (Instr.loadAt 3 t20) w fun t21 w =>
  valP Tryz.prog (binS BinOp.gtr 3 (tm 21) (ci 1099511627776) t21 (vi 1099511627776)) w fun t22 w =>
  pickP t15 (Value.bool true) t22 fun t23 =>
  condP t23
  (pickP t23 (Value.bool true) undef fun t32 =>
  m11_8 R K1 l0 i3 t32 w)
  (valP Tryz.prog (Instr.indexAt 22 l0 i3) w fun t27 w =>
  valP Tryz.prog (Instr.fieldAt 58 t27 1) w fun t28 w =>
  valP Tryz.prog (Instr.loadAt 56 t28) w fun t29 w =>
  callP Tryz.prog (fnV 35) #[t29] w fun t30 w =>
  valP Tryz.prog (Op.unary UnOp.not t30) w fun t31 w =>
  pickP t23 (Value.bool true) t31 fun t32 =>
  m11_8 R K1 l0 i3 t32 w))
def m11_3 (R : VP) (t2 : Value) (w : World) : Prop :=
  R t2 w
def m11_2 (R : VP) (l0 : Value) (w : World) : Prop :=
  builtinP Tryz.prog Builtin.len #[22] 3 #[false] #[l0] w fun t34 w =>
  valP Tryz.prog (binS BinOp.leq 3 (tm 34) (ci 4096) t34 (vi 4096)) w fun t35 w =>
  m11_3 R t35 w
def m11_10 (R : VP) (K1 : VP) (l0 i3 t7 : Value) (w : World) : Prop :=
  condP t7
  (m11_6 R K1 l0 i3 w)
  (m11_2 R l0 w)
def m11_5 (R : VP) (K1 : VP) (l0 i3 : Value) (w : World) : Prop :=
  builtinP Tryz.prog Builtin.len #[22] 3 #[false] #[l0] w fun t6 w =>
  valP Tryz.prog (binS BinOp.lss 3 (tm 4) (tm 6) i3 t6) w fun t7 w =>
  m11_10 R K1 l0 i3 t7 w
def m11_4 (R : VP) (l0 i3 : Value) (w : World) : Prop :=
  loopP (fun (K1 : VP) (s : Value) w => m11_5 R K1 l0 s w) i3 w
def m11_1 (R : VP) (l0 : Value) (w : World) : Prop :=
  m11_4 R l0 (vi 0) w
def m11_0 (R : VP) (l0 : Value) (w : World) : Prop :=
  m11_1 R l0 w
abbrev W11 := cwp Tryz.prog (fun i => 0)
noncomputable def k11_0 := bodyOf Tryz.f11
noncomputable def k11_1 := c2 k11_0
noncomputable def k11_2 := c2 k11_1
noncomputable def k11_3 := c2 k11_2
noncomputable def k11_4 := c2 (c1 k11_1)
noncomputable def k11_5 := c1 (c1 k11_4)
noncomputable def k11_6 := c2 k11_5
noncomputable def k11_7 := c2 k11_6
noncomputable def k11_8 := c2 (c1 (c1 k11_6))
noncomputable def k11_9 := c2 (c1 k11_8)
noncomputable def k11_10 := c2 (c1 k11_5)
abbrev hR11 (R : VP) (Q : EQ) : Prop := ∀ e w, (R (e 2) w) → Q .ret e w
theorem s11_9 {K1 : VP} (hR : hR11 R Q) (e : Env) (w : World) (h : m11_9 R K1 (e 2) w) : W11 k11_9 Q e w := by
  exact reA (hR _ _ h)
theorem s11_7 {K1 : VP} (hN : ∀ e w, (K1 (e 3) w) → Q .normal e w) (e : Env) (w : World) (h : m11_7 R K1 (e 0) (e 3) w) : W11 k11_7 Q e w := by
  exact rgA 3 (fun e w => K1 (e 3) w) h hN
theorem s11_8 {K1 : VP} (hN : ∀ e w, (m11_7 R K1 (e 0) (e 3) w) → Q .normal e w) (hR : hR11 R Q) (e : Env) (w : World) (h : m11_8 R K1 (e 0) (e 3) (e 32) w) : W11 k11_8 Q e w := by
  refine coA (Operand.tmp 32) h (fun h1 => ?_) (fun h1 => ?_)
  · refine seA ?_
    exact rgA 5 (fun e w => m11_9 R K1 (e 2) w) h1 fun e w h => then_N (s11_9 hR e w h)
  · exact skA (hN _ _ h1)
theorem s11_6 {K1 : VP} (hN : ∀ e w, (K1 (e 3) w) → Q .normal e w) (hR : hR11 R Q) (e : Env) (w : World) (h : m11_6 R K1 (e 0) (e 3) w) : W11 k11_6 Q e w := by
  refine seA ?_
  have hN : ∀ e w, (m11_7 R K1 (e 0) (e 3) w) → (thenE (W11 k11_7 Q) Q) .normal e w := fun e w h => then_N (s11_7 hN e w h)
  have hR : hR11 R (thenE (W11 k11_7 Q) Q) := fun e w h => then_R (hR e w h)
  refine block_ok 1 (by kernel_rfl) ?_
  have hN : ∀ e w, (m11_7 R K1 (e 0) (e 3) w) → (inBlockE 1 (thenE (W11 k11_7 Q) Q)) .normal e w := fun e w h => block_N (hN e w h)
  have hR : hR11 R (inBlockE 1 (thenE (W11 k11_7 Q) Q)) := fun e w h => block_R (hR e w h)
  refine seA ?_
  exact rgA 4 (fun e w => m11_8 R K1 (e 0) (e 3) (e 32) w) h fun e w h => then_N (s11_8 (R := R) (Q := (inBlockE 1 (thenE (W11 k11_7 Q) Q))) hN hR e w h)
theorem s11_3 (hR : hR11 R Q) (e : Env) (w : World) (h : m11_3 R (e 2) w) : W11 k11_3 Q e w := by
  exact reA (hR _ _ h)
theorem s11_2 (hR : hR11 R Q) (e : Env) (w : World) (h : m11_2 R (e 0) w) : W11 k11_2 Q e w := by
  refine seA ?_
  exact rgA 6 (fun e w => m11_3 R (e 2) w) h fun e w h => then_N (s11_3 hR e w h)
theorem s11_10 {K1 : VP} (hN : ∀ e w, (m11_6 R K1 (e 0) (e 3) w) → Q .normal e w) (hX0 : ∀ e w, (m11_2 R (e 0) w) → Q (.exit 0) e w) (e : Env) (w : World) (h : m11_10 R K1 (e 0) (e 3) (e 7) w) : W11 k11_10 Q e w := by
  refine coA (Operand.tmp 7) h (fun h1 => ?_) (fun h1 => ?_)
  · exact skA (hN _ _ h1)
  · exact exA 0 (hX0 _ _ h1)
theorem s11_5 {K1 : VP} (hN : ∀ e w, (K1 (e 3) w) → Q .normal e w) (hR : hR11 R Q) (hX0 : ∀ e w, (m11_2 R (e 0) w) → Q (.exit 0) e w) (e : Env) (w : World) (h : m11_5 R K1 (e 0) (e 3) w) : W11 k11_5 Q e w := by
  refine seA ?_
  have hN : ∀ e w, (m11_6 R K1 (e 0) (e 3) w) → (thenE (W11 k11_6 Q) Q) .normal e w := fun e w h => then_N (s11_6 hN hR e w h)
  have hX0 : ∀ e w, (m11_2 R (e 0) w) → (thenE (W11 k11_6 Q) Q) (.exit 0) e w := fun e w h => then_X (hX0 e w h)
  refine seA ?_
  exact rgA 2 (fun e w => m11_10 R K1 (e 0) (e 3) (e 7) w) h fun e w h => then_N (s11_10 hN hX0 e w h)
theorem s11_4 (hN : ∀ e w, (m11_2 R (e 0) w) → Q .normal e w) (hR : hR11 R Q) (e : Env) (w : World) (h : m11_4 R (e 0) (e 3) w) : W11 k11_4 Q e w := by
  refine block_ok 0 (by kernel_rfl) ?_
  have hX0 : ∀ e w, (m11_2 R (e 0) w) → (inBlockE 0 Q) (.exit 0) e w := fun e w h => inBlock_same (Q := Q) 0 (hN e w h)
  have hR : hR11 R (inBlockE 0 Q) := fun e w h => block_R (hR e w h)
  refine loop_ok' (fun (e : Env) => e 3) [0] (by kernel_rfl) (by kernel_rfl) h (fun K e' w' hk h' => ?_)
  have r0 : e' 0 = e 0 := hk 0 (by decide)
  have hR : hR11 R (thenE (fun (e : Env) w => K (e 3) w) (inBlockE 0 Q)) := fun e w h => then_R (hR e w h)
  have hX0 : ∀ e w, (m11_2 R (e 0) w) → (thenE (fun (e : Env) w => K (e 3) w) (inBlockE 0 Q)) (.exit 0) e w := fun e w h => then_X (hX0 e w h)
  exact s11_5 (K1 := K) (fun _ _ h => then_N h) hR hX0 e' w' (by rw [r0]; exact h')
theorem s11_1 (hR : hR11 R Q) (e : Env) (w : World) (h : m11_1 R (e 0) w) : W11 k11_1 Q e w := by
  refine seA ?_
  have hN : ∀ e w, (m11_2 R (e 0) w) → (thenE (W11 k11_2 Q) Q) .normal e w := fun e w h => then_N (s11_2 hR e w h)
  have hR : hR11 R (thenE (W11 k11_2 Q) Q) := fun e w h => then_R (hR e w h)
  refine seA ?_
  exact rgA 1 (fun e w => m11_4 R (e 0) (e 3) w) h fun e w h => then_N (s11_4 hN hR e w h)
theorem s11_0 (hR : hR11 R Q) (e : Env) (w : World) (h : m11_0 R (e 0) w) : W11 k11_0 Q e w := by
  refine seA ?_
  exact rgA 0 (fun e w => m11_1 R (e 0) w) h fun e w h => then_N (s11_1 hR e w h)
abbrev m11 (R : VP) (l0 : Value) (w : World) : Prop := m11_0 R l0 w
theorem s11 (l0 : Value) {R : VP} {w : World} (h : m11 R l0 w) :
    Calls Tryz.prog 11 #[l0] w fun e w' => ∃ v, e = .returned v ∧ R v w' :=
  calls_of_cwp (st := (fun i => 0)) (c := k11_0) (by kernel_rfl) Tryz.func11 (by kernel_rfl) (Nat.le_of_ble_eq_true (by kernel_rfl)) (by kernel_rfl)
    (s11_0 (R := R) (Q := endE Tryz.prog Tryz.f11 R) (fun e w h => kcast (by kernel_rfl) h) (argsE #[l0]) w (kcast (by kernel_rfl) h))
end Go.Proofs.YtcldjjmfpmkldaaGreatDoor.M
namespace Go.Proofs.YtcldjjmfpmkldaaGreatDoor.M
open Go.Proofs.YtcldjjmfpmkldaaGreatDoor.F Go.RowKit
set_option linter.unusedVariables false
set_option linter.unusedSimpArgs false
set_option maxRecDepth 100000
set_option maxHeartbeats 2000000
attribute [local irreducible] Res.cells Res.row Res.map Res.any World.cell? World.frozen? Instr.fieldAt Instr.loadAt Instr.storeAt Instr.indexAt Instr.lookup Instr.mapUpdate Instr.box Instr.build Instr.buildSlice Instr.extract Instr.alloc Instr.field Instr.index Instr.sliceAt Instr.makeSlice Instr.makeMap Instr.makeFunc binS Op.unary Sem.run
def MayG (g : Gt) : Prop := InM g.off ∧ MayR g.r
instance (g : Gt) : Decidable (MayG g) := by unfold MayG; infer_instance
def MayL (l : List Gt) : Prop := (∀ g ∈ l, MayG g) ∧ l.length ≤ 4096
instance (l : List Gt) : Decidable (MayL l) := by unfold MayL; infer_instance
def GtS (g : Gt) : Prop := GtOk g ∧ g.r.text.size ≤ 1000
theorem add_empty (a : ByteArray) : a ++ ⟨#[]⟩ = a := bytesN_inj (by rw [bytesN_append]; exact List.append_nil _)
theorem empty_add (a : ByteArray) : ⟨#[]⟩ ++ a = a := bytesN_inj (by rw [bytesN_append]; rfl)
theorem add_assoc' (a b c : ByteArray) : a ++ b ++ c = a ++ (b ++ c) := bytesN_inj (by simp only [bytesN_append, List.append_assoc])
theorem add_take (a b : ByteArray) : (a ++ b).extract 0 a.size = a := bytesN_inj (by rw [bytesN_take, bytesN_append, ← bytesN_length, List.take_left])
theorem add_drop (a b : ByteArray) : (a ++ b).extract a.size (a ++ b).size = b := bytesN_inj (by rw [bytesN_drop, bytesN_append, ← bytesN_length, List.drop_left])
theorem textS_put {x q : ByteArray} (hx : x.size ≤ 1000000) : textS (putTextS x ++ q) 512 = if x.size ≤ 512 then some (x, q) else none := by
  unfold textS putTextS
  rw [add_assoc', takeS_put (by omega)]
  have hz : (x ++ q).size = x.size + q.size := ByteArray.size_append
  simp only
  by_cases h : x.size ≤ 512
  · rw [if_pos (by omega), if_pos h, Int.toNat_natCast, add_take, add_drop]
  · rw [if_neg (by omega), if_neg h]
theorem takeRec_put {r : Rc} {q : ByteArray} (hk : -9223372036854775808 ≤ r.key ∧ r.key ≤ 9223372036854775807) (ht : -9223372036854775808 ≤ r.time ∧ r.time ≤ 9223372036854775807) (hs : r.text.size ≤ 1000000) : takeRec (recS r ++ q) = if MayR r then some (r, q) else none := by
  unfold takeRec recS
  rw [add_assoc', add_assoc', takeS_put hk]
  simp only
  rw [takeS_put ht]
  simp only
  rw [textS_put hs]
  by_cases h : r.text.size ≤ 512
  · rw [if_pos h]
  · rw [if_neg h]
    simp only
    rw [if_neg (fun h1 => h h1.2.2.2)]
theorem recV_put {r : Rc} (hk : -9223372036854775808 ≤ r.key ∧ r.key ≤ 9223372036854775807) (ht : -9223372036854775808 ≤ r.time ∧ r.time ≤ 9223372036854775807) (hs : r.text.size ≤ 1000000) : recV (recS r) = if MayR r then .tuple #[rv r, .string ⟨#[]⟩, .int .i64 0] else noRec := by
  have := takeRec_put (q := ⟨#[]⟩) hk ht hs
  rw [add_empty] at this
  unfold recV
  rw [this]
  by_cases h : MayR r
  · rw [if_pos h, if_pos h]
  · rw [if_neg h, if_neg h]
def bodyL : List Gt → ByteArray
  | [] => ⟨#[]⟩
  | g :: l => (putS g.off ++ recS g.r) ++ bodyL l
theorem bodyL_take {l : List Gt} {i : Nat} (h : i < l.length) : bodyL (l.take (i + 1)) = bodyL (l.take i) ++ (putS l[i].off ++ recS l[i].r) := by
  induction l generalizing i with
  | nil => simp at h
  | cons g l ih =>
    cases i with
    | zero =>
      simp only [List.take_succ_cons, List.take_zero, bodyL, List.getElem_cons_zero]
      rw [add_empty, empty_add]
    | succ i =>
      simp only [List.take_succ_cons, List.getElem_cons_succ, bodyL]
      rw [ih (by simpa using h), add_assoc' (putS g.off ++ recS g.r)]
def encL (l : List Gt) : ByteArray := putS l.length ++ bodyL l
theorem recS_size {r : Rc} (h : MayR r) : (recS r).size ≤ 550 := by
  have h1 := putS_size (n := r.key) (by unfold MayR InM at h; omega)
  have h2 := putS_size (n := r.time) (by unfold MayR InM at h; omega)
  have h3 := putS_size (n := (r.text.size : Int)) (by unfold MayR at h; omega)
  unfold MayR at h
  unfold recS putTextS
  simp only [ByteArray.size_append]
  omega
theorem bodyL_size {l : List Gt} (h : ∀ g ∈ l, MayG g) : (bodyL l).size ≤ 600 * l.length := by
  induction l with
  | nil => exact Nat.le_refl _
  | cons g l ih =>
    have h1 := ih (fun g hg => h g (.tail _ hg))
    have hg := h g (.head _)
    have h2 := recS_size hg.2
    have h3 := putS_size (n := g.off) (by unfold MayG InM at hg; omega)
    simp only [bodyL, ByteArray.size_append, List.length_cons]
    omega
theorem encL_size {l : List Gt} (h : MayL l) : (encL l).size ≤ 3000000 := by
  have h1 := bodyL_size h.1
  have h2 := putS_size (n := (l.length : Int)) (by have := h.2; omega)
  have h3 := h.2
  unfold encL
  rw [ByteArray.size_append]
  omega
def takeGs : Nat → ByteArray → Option (List Gt × ByteArray)
  | 0, s => some ([], s)
  | n + 1, s => match takeS s with
    | none => none
    | some (off, a) => match takeRec a with
      | none => none
      | some (r, b) => (takeGs n b).map fun p => (⟨off, r⟩ :: p.1, p.2)
theorem takeGs_succ (n : Nat) (s : ByteArray) : takeGs (n + 1) s = match takeS s with
    | none => none
    | some (off, a) => match takeRec a with
      | none => none
      | some (r, b) => (takeGs n b).map fun p => (⟨off, r⟩ :: p.1, p.2) := rfl
def decS (s : ByteArray) : Option (List Gt) := match unsealS s with
  | none => none
  | some t => match takeS t with
    | none => none
    | some (n, r) => if 0 ≤ n ∧ n ≤ 4096 then (match takeGs n.toNat r with
      | none => none
      | some (l, q) => if q = ⟨#[]⟩ ∧ MayL l then some l else none) else none
theorem takeGs_ok {n : Nat} {s q : ByteArray} {l : List Gt} (h : takeGs n s = some (l, q)) : l.length = n ∧ ∀ g ∈ l, GtS g := by
  induction n generalizing s l q with
  | zero =>
    obtain ⟨rfl, rfl⟩ := Prod.mk.inj (Option.some.inj h)
    exact ⟨rfl, by simp⟩
  | succ n ih =>
    rw [takeGs_succ] at h
    cases h1 : takeS s with
    | none => rw [h1] at h; cases h
    | some p =>
      obtain ⟨off, a⟩ := p
      rw [h1] at h
      simp only at h
      cases h2 : takeRec a with
      | none => rw [h2] at h; cases h
      | some p =>
        obtain ⟨r, b⟩ := p
        rw [h2] at h
        simp only at h
        cases h3 : takeGs n b with
        | none => rw [h3] at h; cases h
        | some p =>
          obtain ⟨l', q'⟩ := p
          rw [h3] at h
          obtain ⟨rfl, rfl⟩ := Prod.mk.inj (Option.some.inj h)
          obtain ⟨i1, i2⟩ := ih h3
          refine ⟨by simp [i1], fun g hg => ?_⟩
          rcases List.mem_cons.1 hg with rfl | hg
          · have hm : MayR r := by
              unfold takeRec at h2
              split at h2
              · cases h2
              · split at h2
                · cases h2
                · split at h2
                  · cases h2
                  · split at h2
                    · obtain ⟨rfl, _⟩ := Prod.mk.inj (Option.some.inj h2)
                      assumption
                    · cases h2
            unfold MayR InM at hm
            exact ⟨⟨by simp only; omega, by simp only; omega⟩, by simp only; omega⟩
          · exact i2 g hg
end Go.Proofs.YtcldjjmfpmkldaaGreatDoor.M
namespace Go.Proofs.YtcldjjmfpmkldaaGreatDoor.M
open Go.Proofs.YtcldjjmfpmkldaaGreatDoor.F
set_option linter.unusedVariables false
set_option maxRecDepth 100000
variable {R : VP} {Q : EQ}
def m63_12 (R : VP) (t4 : Value) (w : World) : Prop :=
  R t4 w
def m63_10 (R : VP) (t4 : Value) (w : World) : Prop :=
  R t4 w
def m63_8 (R : VP) (t4 : Value) (w : World) : Prop :=
  R t4 w
def m63_5 (R : VP) (t4 : Value) (w : World) : Prop :=
  R t4 w
def m63_4 (R : VP) (s0 cutset1 : Value) (w : World) : Prop :=
  callP Tryz.prog (fnV 97) #[s0, cutset1] w fun t40 w =>
  callP Tryz.prog (fnV 96) #[t40, cutset1] w fun t42 w =>
  m63_5 R t42 w
def m63_7 (R : VP) (s0 cutset1 as5 t34 : Value) (w : World) : Prop :=
  condP t34
  (callP Tryz.prog (fnV 95) #[s0, as5] w fun t36 w =>
  callP Tryz.prog (fnV 94) #[t36, as5] w fun t37 w =>
  m63_8 R t37 w)
  (m63_4 R s0 cutset1 w)
def m63_6 (R : VP) (s0 cutset1 as5 ok6 : Value) (w : World) : Prop :=
  m63_7 R s0 cutset1 as5 ok6 w
def m63_3 (R : VP) (s0 cutset1 : Value) (w : World) : Prop :=
  callP Tryz.prog (fnV 93) #[cutset1] w fun t31 w =>
  valP Tryz.prog (Instr.extract t31 0) w fun t32 w =>
  valP Tryz.prog (Instr.extract t31 1) w fun t33 w =>
  valP Tryz.prog (Instr.alloc 134 true (.tuple #[])) w fun as5 w =>
  unitP Tryz.prog (Instr.storeAt 134 as5 t32) w fun _ w =>
  m63_6 R s0 cutset1 as5 t33 w
def m63_9 (R : VP) (s0 cutset1 t21 : Value) (w : World) : Prop :=
  condP t21
  (anyDraw w fun w =>
  pureP Tryz.prog (Instr.index 9 cutset1 (vi 0)) fun t24 =>
  pureP Tryz.prog (Instr.index 9 cutset1 (vi 0)) fun t27 =>
  callP Tryz.prog (fnV 92) #[s0, t24] w fun t25 w =>
  callP Tryz.prog (fnV 91) #[t25, t27] w fun t28 w =>
  m63_10 R t28 w)
  (m63_3 R s0 cutset1 w)
def m63_2 (R : VP) (s0 cutset1 : Value) (w : World) : Prop :=
  builtinP Tryz.prog Builtin.len #[9] 3 #[false] #[cutset1] w fun t15 w =>
  valP Tryz.prog (binS BinOp.eql 3 (tm 15) (ci 1) t15 (vi 1)) w fun t16 w =>
  condP t16
  (valP Tryz.prog (Instr.index 9 cutset1 (vi 0)) w fun t19 w =>
  valP Tryz.prog (binS BinOp.lss 5 (tm 19) (Operand.const (Value.int IntKind.u8 128)) t19 (Value.int IntKind.u8 128)) w fun t20 w =>
  pickP t16 t20 (Value.bool false) fun t21 =>
  m63_9 R s0 cutset1 t21 w)
  (pickP t16 undef (Value.bool false) fun t21 =>
  m63_9 R s0 cutset1 t21 w)
def m63_11 (R : VP) (s0 cutset1 t12 : Value) (w : World) : Prop :=
  condP t12
  (m63_12 R s0 w)
  (m63_2 R s0 cutset1 w)
def m63_1 (R : VP) (s0 cutset1 : Value) (w : World) : Prop :=
  valP Tryz.prog (binS BinOp.eql 9 (tm 7) (Operand.const (Value.string ⟨#[]⟩)) s0 (Value.string ⟨#[]⟩)) w fun t8 w =>
  condP t8
  (pickP t8 (Value.bool true) undef fun t12 =>
  m63_11 R s0 cutset1 t12 w)
  (valP Tryz.prog (binS BinOp.eql 9 (tm 10) (Operand.const (Value.string ⟨#[]⟩)) cutset1 (Value.string ⟨#[]⟩)) w fun t11 w =>
  pickP t8 (Value.bool true) t11 fun t12 =>
  m63_11 R s0 cutset1 t12 w)
def m63_0 (R : VP) (s0 cutset1 : Value) (w : World) : Prop :=
  m63_1 R s0 cutset1 w
abbrev W63 := cwp Tryz.prog (fun i => 0)
noncomputable def k63_0 := bodyOf Tryz.f63
noncomputable def k63_1 := c2 k63_0
noncomputable def k63_2 := c2 k63_1
noncomputable def k63_3 := c2 k63_2
noncomputable def k63_4 := c2 k63_3
noncomputable def k63_5 := c2 k63_4
noncomputable def k63_6 := c2 (c1 k63_3)
noncomputable def k63_7 := c2 k63_6
noncomputable def k63_8 := c2 (c1 k63_7)
noncomputable def k63_9 := c2 (c1 k63_2)
noncomputable def k63_10 := c2 (c1 k63_9)
noncomputable def k63_11 := c2 (c1 k63_1)
noncomputable def k63_12 := c2 (c1 k63_11)
abbrev hR63 (R : VP) (Q : EQ) : Prop := ∀ e w, (R (e 4) w) → Q .ret e w
theorem s63_12 (hR : hR63 R Q) (e : Env) (w : World) (h : m63_12 R (e 4) w) : W63 k63_12 Q e w := by
  exact reA (hR _ _ h)
theorem s63_10 (hR : hR63 R Q) (e : Env) (w : World) (h : m63_10 R (e 4) w) : W63 k63_10 Q e w := by
  exact reA (hR _ _ h)
theorem s63_8 (hR : hR63 R Q) (e : Env) (w : World) (h : m63_8 R (e 4) w) : W63 k63_8 Q e w := by
  exact reA (hR _ _ h)
theorem s63_5 (hR : hR63 R Q) (e : Env) (w : World) (h : m63_5 R (e 4) w) : W63 k63_5 Q e w := by
  exact reA (hR _ _ h)
theorem s63_4 (hR : hR63 R Q) (e : Env) (w : World) (h : m63_4 R (e 0) (e 1) w) : W63 k63_4 Q e w := by
  refine seA ?_
  exact rgA 8 (fun e w => m63_5 R (e 4) w) h fun e w h => then_N (s63_5 hR e w h)
theorem s63_7 (hN : ∀ e w, (m63_4 R (e 0) (e 1) w) → Q .normal e w) (hR : hR63 R Q) (e : Env) (w : World) (h : m63_7 R (e 0) (e 1) (e 5) (e 34) w) : W63 k63_7 Q e w := by
  refine coA (Operand.tmp 34) h (fun h1 => ?_) (fun h1 => ?_)
  · refine seA ?_
    exact rgA 7 (fun e w => m63_8 R (e 4) w) h1 fun e w h => then_N (s63_8 hR e w h)
  · exact skA (hN _ _ h1)
theorem s63_6 (hN : ∀ e w, (m63_4 R (e 0) (e 1) w) → Q .normal e w) (hR : hR63 R Q) (e : Env) (w : World) (h : m63_6 R (e 0) (e 1) (e 5) (e 6) w) : W63 k63_6 Q e w := by
  refine seA ?_
  exact rgA 6 (fun e w => m63_7 R (e 0) (e 1) (e 5) (e 34) w) h fun e w h => then_N (s63_7 hN hR e w h)
theorem s63_3 (hR : hR63 R Q) (e : Env) (w : World) (h : m63_3 R (e 0) (e 1) w) : W63 k63_3 Q e w := by
  refine seA ?_
  have hN : ∀ e w, (m63_4 R (e 0) (e 1) w) → (thenE (W63 k63_4 Q) Q) .normal e w := fun e w h => then_N (s63_4 hR e w h)
  have hR : hR63 R (thenE (W63 k63_4 Q) Q) := fun e w h => then_R (hR e w h)
  refine seA ?_
  exact rgA 5 (fun e w => m63_6 R (e 0) (e 1) (e 5) (e 6) w) h fun e w h => then_N (s63_6 hN hR e w h)
theorem s63_9 (hN : ∀ e w, (m63_3 R (e 0) (e 1) w) → Q .normal e w) (hR : hR63 R Q) (e : Env) (w : World) (h : m63_9 R (e 0) (e 1) (e 21) w) : W63 k63_9 Q e w := by
  refine coA (Operand.tmp 21) h (fun h1 => ?_) (fun h1 => ?_)
  · refine seA ?_
    have hN : ∀ e w, (m63_10 R (e 4) w) → (thenE (W63 k63_10 Q) Q) .normal e w := fun e w h => then_N (s63_10 hR e w h)
    exact tree_ok 4 8 (bt 8 0) (.take 0 (bt 8 1) (.take 1 (bt 8 3) (.take 2 (bt 8 7) (.take 4 (bt 8 23) (.take 5 (bt 8 55) (.alt 3 (bt 8 63) (.alt 6 (bt 8 127) (.take 7 (bt 8 255) .done) .stop) .stop)))))) (fun e w => m63_10 R (e 4) w) (by kernel_rfl) (by kernel_rfl) (by kernel_rfl) (by kernel_rfl) (by kernel_rfl) (by kernel_rfl) (kcast (by kernel_rfl) h1) hN (by kernel_rfl)
  · exact skA (hN _ _ h1)
theorem s63_2 (hR : hR63 R Q) (e : Env) (w : World) (h : m63_2 R (e 0) (e 1) w) : W63 k63_2 Q e w := by
  refine seA ?_
  have hN : ∀ e w, (m63_3 R (e 0) (e 1) w) → (thenE (W63 k63_3 Q) Q) .normal e w := fun e w h => then_N (s63_3 hR e w h)
  have hR : hR63 R (thenE (W63 k63_3 Q) Q) := fun e w h => then_R (hR e w h)
  refine seA ?_
  exact rgA 3 (fun e w => m63_9 R (e 0) (e 1) (e 21) w) h fun e w h => then_N (s63_9 hN hR e w h)
theorem s63_11 (hN : ∀ e w, (m63_2 R (e 0) (e 1) w) → Q .normal e w) (hR : hR63 R Q) (e : Env) (w : World) (h : m63_11 R (e 0) (e 1) (e 12) w) : W63 k63_11 Q e w := by
  refine coA (Operand.tmp 12) h (fun h1 => ?_) (fun h1 => ?_)
  · refine seA ?_
    exact rgA 2 (fun e w => m63_12 R (e 4) w) h1 fun e w h => then_N (s63_12 hR e w h)
  · exact skA (hN _ _ h1)
theorem s63_1 (hR : hR63 R Q) (e : Env) (w : World) (h : m63_1 R (e 0) (e 1) w) : W63 k63_1 Q e w := by
  refine seA ?_
  have hN : ∀ e w, (m63_2 R (e 0) (e 1) w) → (thenE (W63 k63_2 Q) Q) .normal e w := fun e w h => then_N (s63_2 hR e w h)
  have hR : hR63 R (thenE (W63 k63_2 Q) Q) := fun e w h => then_R (hR e w h)
  refine seA ?_
  exact rgA 1 (fun e w => m63_11 R (e 0) (e 1) (e 12) w) h fun e w h => then_N (s63_11 hN hR e w h)
theorem s63_0 (hR : hR63 R Q) (e : Env) (w : World) (h : m63_0 R (e 0) (e 1) w) : W63 k63_0 Q e w := by
  refine seA ?_
  exact rgA 0 (fun e w => m63_1 R (e 0) (e 1) w) h fun e w h => then_N (s63_1 hR e w h)
abbrev m63 (R : VP) (s0 cutset1 : Value) (w : World) : Prop := m63_0 R s0 cutset1 w
theorem s63 (s0 cutset1 : Value) {R : VP} {w : World} (h : m63 R s0 cutset1 w) :
    Calls Tryz.prog 63 #[s0, cutset1] w fun e w' => ∃ v, e = .returned v ∧ R v w' :=
  calls_of_cwp (st := (fun i => 0)) (c := k63_0) (by kernel_rfl) Tryz.func63 (by kernel_rfl) (Nat.le_of_ble_eq_true (by kernel_rfl)) (by kernel_rfl)
    (s63_0 (R := R) (Q := endE Tryz.prog Tryz.f63 R) (fun e w h => kcast (by kernel_rfl) h) (argsE #[s0, cutset1]) w (kcast (by kernel_rfl) h))
def m94_3 (R : VP) (t4 : Value) (w : World) : Prop :=
  R t4 w
def m94_2 (R : VP) (s0 : Value) (w : World) : Prop :=
  m94_3 R s0 w
def m94_6 (R : VP) (K1 : VP) (s0 as1 : Value) (w : World) : Prop :=
  valP Tryz.prog (Instr.sliceAt 9 s0 (some (vi 1)) none none) w fun t14 w =>
  K1 t14 w
def m94_7 (R : VP) (K1 : VP) (s0 as1 t12 : Value) (w : World) : Prop :=
  condP t12
  (m94_2 R s0 w)
  (m94_6 R K1 s0 as1 w)
def m94_5 (R : VP) (K1 : VP) (s0 as1 : Value) (w : World) : Prop :=
  valP Tryz.prog (Instr.index 9 s0 (vi 0)) w fun t10 w =>
  callP Tryz.prog (fnV 110) #[as1, t10] w fun t11 w =>
  valP Tryz.prog (Op.unary UnOp.not t11) w fun t12 w =>
  m94_7 R K1 s0 as1 t12 w
def m94_8 (R : VP) (K1 : VP) (s0 as1 t7 : Value) (w : World) : Prop :=
  condP t7
  (m94_5 R K1 s0 as1 w)
  (m94_2 R s0 w)
def m94_4 (R : VP) (K1 : VP) (s0 as1 : Value) (w : World) : Prop :=
  builtinP Tryz.prog Builtin.len #[9] 3 #[false] #[s0] w fun t6 w =>
  valP Tryz.prog (binS BinOp.gtr 3 (tm 6) (ci 0) t6 (vi 0)) w fun t7 w =>
  m94_8 R K1 s0 as1 t7 w
def m94_1 (R : VP) (s0 as1 : Value) (w : World) : Prop :=
  loopP (fun (K1 : VP) (s : Value) w => m94_4 R K1 s as1 w) s0 w
def m94_0 (R : VP) (s0 as1 : Value) (w : World) : Prop :=
  m94_1 R s0 as1 w
abbrev W94 := cwp Tryz.prog (fun i => 0)
noncomputable def k94_0 := bodyOf Tryz.f94
noncomputable def k94_1 := c2 k94_0
noncomputable def k94_2 := c2 k94_1
noncomputable def k94_3 := c2 k94_2
noncomputable def k94_4 := c1 (c1 (c1 k94_1))
noncomputable def k94_5 := c2 k94_4
noncomputable def k94_6 := c2 (c1 k94_5)
noncomputable def k94_7 := c2 (c1 (c1 k94_5))
noncomputable def k94_8 := c2 (c1 k94_4)
abbrev hR94 (R : VP) (Q : EQ) : Prop := ∀ e w, (R (e 4) w) → Q .ret e w
theorem s94_3 (hR : hR94 R Q) (e : Env) (w : World) (h : m94_3 R (e 4) w) : W94 k94_3 Q e w := by
  exact reA (hR _ _ h)
theorem s94_2 (hR : hR94 R Q) (e : Env) (w : World) (h : m94_2 R (e 0) w) : W94 k94_2 Q e w := by
  refine seA ?_
  exact rgA 4 (fun e w => m94_3 R (e 4) w) h fun e w h => then_N (s94_3 hR e w h)
theorem s94_6 {K1 : VP} (hN : ∀ e w, (K1 (e 0) w) → Q .normal e w) (e : Env) (w : World) (h : m94_6 R K1 (e 0) (e 1) w) : W94 k94_6 Q e w := by
  exact rgA 3 (fun e w => K1 (e 0) w) h hN
theorem s94_7 {K1 : VP} (hN : ∀ e w, (m94_6 R K1 (e 0) (e 1) w) → Q .normal e w) (hX0 : ∀ e w, (m94_2 R (e 0) w) → Q (.exit 0) e w) (e : Env) (w : World) (h : m94_7 R K1 (e 0) (e 1) (e 12) w) : W94 k94_7 Q e w := by
  refine coA (Operand.tmp 12) h (fun h1 => ?_) (fun h1 => ?_)
  · exact exA 0 (hX0 _ _ h1)
  · exact skA (hN _ _ h1)
theorem s94_5 {K1 : VP} (hN : ∀ e w, (K1 (e 0) w) → Q .normal e w) (hX0 : ∀ e w, (m94_2 R (e 0) w) → Q (.exit 0) e w) (e : Env) (w : World) (h : m94_5 R K1 (e 0) (e 1) w) : W94 k94_5 Q e w := by
  refine block_ok 1 (by kernel_rfl) ?_
  have hX0 : ∀ e w, (m94_2 R (e 0) w) → (inBlockE 1 Q) (.exit 0) e w := fun e w h => inBlock_other (Q := Q) 1 0 (by kernel_rfl) (hX0 e w h)
  have hN : ∀ e w, (K1 (e 0) w) → (inBlockE 1 Q) .normal e w := fun e w h => block_N (hN e w h)
  refine seA ?_
  have hN : ∀ e w, (m94_6 R K1 (e 0) (e 1) w) → (thenE (W94 k94_6 (inBlockE 1 Q)) (inBlockE 1 Q)) .normal e w := fun e w h => then_N (s94_6 (R := R) (Q := (inBlockE 1 Q)) hN e w h)
  have hX0 : ∀ e w, (m94_2 R (e 0) w) → (thenE (W94 k94_6 (inBlockE 1 Q)) (inBlockE 1 Q)) (.exit 0) e w := fun e w h => then_X (hX0 e w h)
  refine seA ?_
  exact rgA 2 (fun e w => m94_7 R K1 (e 0) (e 1) (e 12) w) h fun e w h => then_N (s94_7 hN hX0 e w h)
theorem s94_8 {K1 : VP} (hN : ∀ e w, (m94_5 R K1 (e 0) (e 1) w) → Q .normal e w) (hX0 : ∀ e w, (m94_2 R (e 0) w) → Q (.exit 0) e w) (e : Env) (w : World) (h : m94_8 R K1 (e 0) (e 1) (e 7) w) : W94 k94_8 Q e w := by
  refine coA (Operand.tmp 7) h (fun h1 => ?_) (fun h1 => ?_)
  · exact skA (hN _ _ h1)
  · exact exA 0 (hX0 _ _ h1)
theorem s94_4 {K1 : VP} (hN : ∀ e w, (K1 (e 0) w) → Q .normal e w) (hX0 : ∀ e w, (m94_2 R (e 0) w) → Q (.exit 0) e w) (e : Env) (w : World) (h : m94_4 R K1 (e 0) (e 1) w) : W94 k94_4 Q e w := by
  refine seA ?_
  have hN : ∀ e w, (m94_5 R K1 (e 0) (e 1) w) → (thenE (W94 k94_5 Q) Q) .normal e w := fun e w h => then_N (s94_5 hN hX0 e w h)
  have hX0 : ∀ e w, (m94_2 R (e 0) w) → (thenE (W94 k94_5 Q) Q) (.exit 0) e w := fun e w h => then_X (hX0 e w h)
  refine seA ?_
  exact rgA 1 (fun e w => m94_8 R K1 (e 0) (e 1) (e 7) w) h fun e w h => then_N (s94_8 hN hX0 e w h)
theorem s94_1 (hR : hR94 R Q) (e : Env) (w : World) (h : m94_1 R (e 0) (e 1) w) : W94 k94_1 Q e w := by
  refine seA ?_
  have hN : ∀ e w, (m94_2 R (e 0) w) → (thenE (W94 k94_2 Q) Q) .normal e w := fun e w h => then_N (s94_2 hR e w h)
  refine block_ok 0 (by kernel_rfl) ?_
  have hX0 : ∀ e w, (m94_2 R (e 0) w) → (inBlockE 0 (thenE (W94 k94_2 Q) Q)) (.exit 0) e w := fun e w h => inBlock_same (Q := (thenE (W94 k94_2 Q) Q)) 0 (hN e w h)
  refine loop_ok' (fun (e : Env) => e 0) [1] (by kernel_rfl) (by kernel_rfl) h (fun K e' w' hk h' => ?_)
  have r1 : e' 1 = e 1 := hk 1 (by decide)
  have hX0 : ∀ e w, (m94_2 R (e 0) w) → (thenE (fun (e : Env) w => K (e 0) w) (inBlockE 0 (thenE (W94 k94_2 Q) Q))) (.exit 0) e w := fun e w h => then_X (hX0 e w h)
  exact s94_4 (K1 := K) (fun _ _ h => then_N h) hX0 e' w' (by rw [r1]; exact h')
theorem s94_0 (hR : hR94 R Q) (e : Env) (w : World) (h : m94_0 R (e 0) (e 1) w) : W94 k94_0 Q e w := by
  refine seA ?_
  exact rgA 0 (fun e w => m94_1 R (e 0) (e 1) w) h fun e w h => then_N (s94_1 hR e w h)
abbrev m94 (R : VP) (s0 as1 : Value) (w : World) : Prop := m94_0 R s0 as1 w
theorem s94 (s0 as1 : Value) {R : VP} {w : World} (h : m94 R s0 as1 w) :
    Calls Tryz.prog 94 #[s0, as1] w fun e w' => ∃ v, e = .returned v ∧ R v w' :=
  calls_of_cwp (st := (fun i => 0)) (c := k94_0) (by kernel_rfl) Tryz.func94 (by kernel_rfl) (Nat.le_of_ble_eq_true (by kernel_rfl)) (by kernel_rfl)
    (s94_0 (R := R) (Q := endE Tryz.prog Tryz.f94 R) (fun e w h => kcast (by kernel_rfl) h) (argsE #[s0, as1]) w (kcast (by kernel_rfl) h))
def m95_3 (R : VP) (t4 : Value) (w : World) : Prop :=
  R t4 w
def m95_2 (R : VP) (s0 : Value) (w : World) : Prop :=
  m95_3 R s0 w
def m95_6 (R : VP) (K1 : VP) (s0 as1 : Value) (w : World) : Prop :=
  builtinP Tryz.prog Builtin.len #[9] 3 #[false] #[s0] w fun t18 w =>
  valP Tryz.prog (binS BinOp.sub 3 (tm 18) (ci 1) t18 (vi 1)) w fun t19 w =>
  valP Tryz.prog (Instr.sliceAt 9 s0 none (some t19) none) w fun t20 w =>
  K1 t20 w
def m95_7 (R : VP) (K1 : VP) (s0 as1 t15 : Value) (w : World) : Prop :=
  condP t15
  (m95_2 R s0 w)
  (m95_6 R K1 s0 as1 w)
def m95_5 (R : VP) (K1 : VP) (s0 as1 : Value) (w : World) : Prop :=
  builtinP Tryz.prog Builtin.len #[9] 3 #[false] #[s0] w fun t11 w =>
  valP Tryz.prog (binS BinOp.sub 3 (tm 11) (ci 1) t11 (vi 1)) w fun t12 w =>
  valP Tryz.prog (Instr.index 9 s0 t12) w fun t13 w =>
  callP Tryz.prog (fnV 110) #[as1, t13] w fun t14 w =>
  valP Tryz.prog (Op.unary UnOp.not t14) w fun t15 w =>
  m95_7 R K1 s0 as1 t15 w
def m95_8 (R : VP) (K1 : VP) (s0 as1 t7 : Value) (w : World) : Prop :=
  condP t7
  (m95_5 R K1 s0 as1 w)
  (m95_2 R s0 w)
def m95_4 (R : VP) (K1 : VP) (s0 as1 : Value) (w : World) : Prop :=
  builtinP Tryz.prog Builtin.len #[9] 3 #[false] #[s0] w fun t6 w =>
  valP Tryz.prog (binS BinOp.gtr 3 (tm 6) (ci 0) t6 (vi 0)) w fun t7 w =>
  m95_8 R K1 s0 as1 t7 w
def m95_1 (R : VP) (s0 as1 : Value) (w : World) : Prop :=
  loopP (fun (K1 : VP) (s : Value) w => m95_4 R K1 s as1 w) s0 w
def m95_0 (R : VP) (s0 as1 : Value) (w : World) : Prop :=
  m95_1 R s0 as1 w
abbrev W95 := cwp Tryz.prog (fun i => 0)
noncomputable def k95_0 := bodyOf Tryz.f95
noncomputable def k95_1 := c2 k95_0
noncomputable def k95_2 := c2 k95_1
noncomputable def k95_3 := c2 k95_2
noncomputable def k95_4 := c1 (c1 (c1 k95_1))
noncomputable def k95_5 := c2 k95_4
noncomputable def k95_6 := c2 (c1 k95_5)
noncomputable def k95_7 := c2 (c1 (c1 k95_5))
noncomputable def k95_8 := c2 (c1 k95_4)
abbrev hR95 (R : VP) (Q : EQ) : Prop := ∀ e w, (R (e 4) w) → Q .ret e w
theorem s95_3 (hR : hR95 R Q) (e : Env) (w : World) (h : m95_3 R (e 4) w) : W95 k95_3 Q e w := by
  exact reA (hR _ _ h)
theorem s95_2 (hR : hR95 R Q) (e : Env) (w : World) (h : m95_2 R (e 0) w) : W95 k95_2 Q e w := by
  refine seA ?_
  exact rgA 4 (fun e w => m95_3 R (e 4) w) h fun e w h => then_N (s95_3 hR e w h)
theorem s95_6 {K1 : VP} (hN : ∀ e w, (K1 (e 0) w) → Q .normal e w) (e : Env) (w : World) (h : m95_6 R K1 (e 0) (e 1) w) : W95 k95_6 Q e w := by
  exact rgA 3 (fun e w => K1 (e 0) w) h hN
theorem s95_7 {K1 : VP} (hN : ∀ e w, (m95_6 R K1 (e 0) (e 1) w) → Q .normal e w) (hX0 : ∀ e w, (m95_2 R (e 0) w) → Q (.exit 0) e w) (e : Env) (w : World) (h : m95_7 R K1 (e 0) (e 1) (e 15) w) : W95 k95_7 Q e w := by
  refine coA (Operand.tmp 15) h (fun h1 => ?_) (fun h1 => ?_)
  · exact exA 0 (hX0 _ _ h1)
  · exact skA (hN _ _ h1)
theorem s95_5 {K1 : VP} (hN : ∀ e w, (K1 (e 0) w) → Q .normal e w) (hX0 : ∀ e w, (m95_2 R (e 0) w) → Q (.exit 0) e w) (e : Env) (w : World) (h : m95_5 R K1 (e 0) (e 1) w) : W95 k95_5 Q e w := by
  refine block_ok 1 (by kernel_rfl) ?_
  have hX0 : ∀ e w, (m95_2 R (e 0) w) → (inBlockE 1 Q) (.exit 0) e w := fun e w h => inBlock_other (Q := Q) 1 0 (by kernel_rfl) (hX0 e w h)
  have hN : ∀ e w, (K1 (e 0) w) → (inBlockE 1 Q) .normal e w := fun e w h => block_N (hN e w h)
  refine seA ?_
  have hN : ∀ e w, (m95_6 R K1 (e 0) (e 1) w) → (thenE (W95 k95_6 (inBlockE 1 Q)) (inBlockE 1 Q)) .normal e w := fun e w h => then_N (s95_6 (R := R) (Q := (inBlockE 1 Q)) hN e w h)
  have hX0 : ∀ e w, (m95_2 R (e 0) w) → (thenE (W95 k95_6 (inBlockE 1 Q)) (inBlockE 1 Q)) (.exit 0) e w := fun e w h => then_X (hX0 e w h)
  refine seA ?_
  exact rgA 2 (fun e w => m95_7 R K1 (e 0) (e 1) (e 15) w) h fun e w h => then_N (s95_7 hN hX0 e w h)
theorem s95_8 {K1 : VP} (hN : ∀ e w, (m95_5 R K1 (e 0) (e 1) w) → Q .normal e w) (hX0 : ∀ e w, (m95_2 R (e 0) w) → Q (.exit 0) e w) (e : Env) (w : World) (h : m95_8 R K1 (e 0) (e 1) (e 7) w) : W95 k95_8 Q e w := by
  refine coA (Operand.tmp 7) h (fun h1 => ?_) (fun h1 => ?_)
  · exact skA (hN _ _ h1)
  · exact exA 0 (hX0 _ _ h1)
theorem s95_4 {K1 : VP} (hN : ∀ e w, (K1 (e 0) w) → Q .normal e w) (hX0 : ∀ e w, (m95_2 R (e 0) w) → Q (.exit 0) e w) (e : Env) (w : World) (h : m95_4 R K1 (e 0) (e 1) w) : W95 k95_4 Q e w := by
  refine seA ?_
  have hN : ∀ e w, (m95_5 R K1 (e 0) (e 1) w) → (thenE (W95 k95_5 Q) Q) .normal e w := fun e w h => then_N (s95_5 hN hX0 e w h)
  have hX0 : ∀ e w, (m95_2 R (e 0) w) → (thenE (W95 k95_5 Q) Q) (.exit 0) e w := fun e w h => then_X (hX0 e w h)
  refine seA ?_
  exact rgA 1 (fun e w => m95_8 R K1 (e 0) (e 1) (e 7) w) h fun e w h => then_N (s95_8 hN hX0 e w h)
theorem s95_1 (hR : hR95 R Q) (e : Env) (w : World) (h : m95_1 R (e 0) (e 1) w) : W95 k95_1 Q e w := by
  refine seA ?_
  have hN : ∀ e w, (m95_2 R (e 0) w) → (thenE (W95 k95_2 Q) Q) .normal e w := fun e w h => then_N (s95_2 hR e w h)
  refine block_ok 0 (by kernel_rfl) ?_
  have hX0 : ∀ e w, (m95_2 R (e 0) w) → (inBlockE 0 (thenE (W95 k95_2 Q) Q)) (.exit 0) e w := fun e w h => inBlock_same (Q := (thenE (W95 k95_2 Q) Q)) 0 (hN e w h)
  refine loop_ok' (fun (e : Env) => e 0) [1] (by kernel_rfl) (by kernel_rfl) h (fun K e' w' hk h' => ?_)
  have r1 : e' 1 = e 1 := hk 1 (by decide)
  have hX0 : ∀ e w, (m95_2 R (e 0) w) → (thenE (fun (e : Env) w => K (e 0) w) (inBlockE 0 (thenE (W95 k95_2 Q) Q))) (.exit 0) e w := fun e w h => then_X (hX0 e w h)
  exact s95_4 (K1 := K) (fun _ _ h => then_N h) hX0 e' w' (by rw [r1]; exact h')
theorem s95_0 (hR : hR95 R Q) (e : Env) (w : World) (h : m95_0 R (e 0) (e 1) w) : W95 k95_0 Q e w := by
  refine seA ?_
  exact rgA 0 (fun e w => m95_1 R (e 0) (e 1) w) h fun e w h => then_N (s95_1 hR e w h)
abbrev m95 (R : VP) (s0 as1 : Value) (w : World) : Prop := m95_0 R s0 as1 w
theorem s95 (s0 as1 : Value) {R : VP} {w : World} (h : m95 R s0 as1 w) :
    Calls Tryz.prog 95 #[s0, as1] w fun e w' => ∃ v, e = .returned v ∧ R v w' :=
  calls_of_cwp (st := (fun i => 0)) (c := k95_0) (by kernel_rfl) Tryz.func95 (by kernel_rfl) (Nat.le_of_ble_eq_true (by kernel_rfl)) (by kernel_rfl)
    (s95_0 (R := R) (Q := endE Tryz.prog Tryz.f95 R) (fun e w h => kcast (by kernel_rfl) h) (argsE #[s0, as1]) w (kcast (by kernel_rfl) h))
def m82_2 (R : VP) (t2 : Value) (w : World) : Prop :=
  R t2 w
def m82_1 (R : VP) (name0 : Value) (w : World) : Prop :=
  valP Tryz.prog (binS BinOp.neq 9 (tm 3) (Operand.const (Value.string ⟨#[]⟩)) name0 (Value.string ⟨#[]⟩)) w fun t4 w =>
  condP t4
  (builtinP Tryz.prog Builtin.len #[9] 3 #[false] #[name0] w fun t7 w =>
  valP Tryz.prog (binS BinOp.leq 3 (tm 7) (ci 24) t7 (vi 24)) w fun t8 w =>
  pickP t4 t8 (Value.bool false) fun t9 =>
  condP t9
  (callP Tryz.prog (fnV 63) #[name0, (Value.string ⟨#[97, 98, 99, 100, 101, 102, 103, 104, 105, 106, 107, 108, 109, 110, 111, 112, 113, 114, 115, 116, 117, 118, 119, 120, 121, 122, 48, 49, 50, 51, 52, 53, 54, 55, 56, 57, 46, 45]⟩)] w fun t12 w =>
  valP Tryz.prog (binS BinOp.eql 9 (tm 12) (Operand.const (Value.string ⟨#[]⟩)) t12 (Value.string ⟨#[]⟩)) w fun t13 w =>
  pickP t9 t13 (Value.bool false) fun t14 =>
  m82_2 R t14 w)
  (pickP t9 undef (Value.bool false) fun t14 =>
  m82_2 R t14 w))
  (pickP t4 undef (Value.bool false) fun t9 =>
  condP t9
  (callP Tryz.prog (fnV 63) #[name0, (Value.string ⟨#[97, 98, 99, 100, 101, 102, 103, 104, 105, 106, 107, 108, 109, 110, 111, 112, 113, 114, 115, 116, 117, 118, 119, 120, 121, 122, 48, 49, 50, 51, 52, 53, 54, 55, 56, 57, 46, 45]⟩)] w fun t12 w =>
  valP Tryz.prog (binS BinOp.eql 9 (tm 12) (Operand.const (Value.string ⟨#[]⟩)) t12 (Value.string ⟨#[]⟩)) w fun t13 w =>
  pickP t9 t13 (Value.bool false) fun t14 =>
  m82_2 R t14 w)
  (pickP t9 undef (Value.bool false) fun t14 =>
  m82_2 R t14 w))
def m82_0 (R : VP) (name0 : Value) (w : World) : Prop :=
  m82_1 R name0 w
abbrev W82 := cwp Tryz.prog (fun i => 0)
noncomputable def k82_0 := bodyOf Tryz.f82
noncomputable def k82_1 := c2 k82_0
noncomputable def k82_2 := c2 k82_1
abbrev hR82 (R : VP) (Q : EQ) : Prop := ∀ e w, (R (e 2) w) → Q .ret e w
theorem s82_2 (hR : hR82 R Q) (e : Env) (w : World) (h : m82_2 R (e 2) w) : W82 k82_2 Q e w := by
  exact reA (hR _ _ h)
theorem s82_1 (hR : hR82 R Q) (e : Env) (w : World) (h : m82_1 R (e 0) w) : W82 k82_1 Q e w := by
  refine seA ?_
  exact rgA 1 (fun e w => m82_2 R (e 2) w) h fun e w h => then_N (s82_2 hR e w h)
theorem s82_0 (hR : hR82 R Q) (e : Env) (w : World) (h : m82_0 R (e 0) w) : W82 k82_0 Q e w := by
  refine seA ?_
  exact rgA 0 (fun e w => m82_1 R (e 0) w) h fun e w h => then_N (s82_1 hR e w h)
abbrev m82 (R : VP) (name0 : Value) (w : World) : Prop := m82_0 R name0 w
theorem s82 (name0 : Value) {R : VP} {w : World} (h : m82 R name0 w) :
    Calls Tryz.prog 82 #[name0] w fun e w' => ∃ v, e = .returned v ∧ R v w' :=
  calls_of_cwp (st := (fun i => 0)) (c := k82_0) (by kernel_rfl) Tryz.func82 (by kernel_rfl) (Nat.le_of_ble_eq_true (by kernel_rfl)) (by kernel_rfl)
    (s82_0 (R := R) (Q := endE Tryz.prog Tryz.f82 R) (fun e w h => kcast (by kernel_rfl) h) (argsE #[name0]) w (kcast (by kernel_rfl) h))
end Go.Proofs.YtcldjjmfpmkldaaGreatDoor.M
namespace Go.Proofs.YtcldjjmfpmkldaaGreatDoor.M
open Go.Proofs.YtcldjjmfpmkldaaGreatDoor.F Go.RowKit
set_option linter.unusedVariables false
set_option linter.unusedSimpArgs false
set_option maxRecDepth 100000
set_option maxHeartbeats 2000000
attribute [local irreducible] Res.cells Res.row Res.map Res.any World.cell? World.frozen? Instr.fieldAt Instr.loadAt Instr.storeAt Instr.indexAt Instr.lookup Instr.mapUpdate Instr.box Instr.build Instr.buildSlice Instr.extract Instr.alloc Instr.field Instr.index Instr.sliceAt Instr.makeSlice Instr.makeMap Instr.makeFunc binS Op.unary Sem.run
section
variable (x y : Operand) (w : World)
end
theorem zero81 (w : World) : (zeroValue 134).run Tryz.prog w = .ok (.agg (Array.replicate 256 (.bool false))) w := by
  have e : (Tryz.prog.info? 134).map (·.zero) = some (some (.agg (Array.replicate 256 (.bool false)))) := by kernel_rfl
  obtain ⟨i, h1, h2⟩ := Option.map_eq_some_iff.1 e
  exact zeroValue_ok h1 h2 w
theorem size81 : (Tryz.prog.info? 134).map (·.size) = some 256 := by kernel_rfl
theorem alo81 (w : World) : (Instr.alloc 134 true (.tuple #[])).run Tryz.prog w = .ok (.pointer (some ⟨w.heap.size, 0, none⟩)) (w.alloc (.cells (Array.replicate 256 (.bool false)) 134)) := by
  have e : Tryz.zeroCells134 = Array.replicate 256 (.bool false) := by kernel_rfl
  simp [go_sem, zero81, Value.cells, e]
abbrev letters : ByteArray := ⟨#[97, 98, 99, 100, 101, 102, 103, 104, 105, 106, 107, 108, 109, 110, 111, 112, 113, 114, 115, 116, 117, 118, 119, 120, 121, 122, 48, 49, 50, 51, 52, 53, 54, 55, 56, 57, 46, 45]⟩
abbrev setL : List Value := (Go.Lib.setCells letters.data.toList).toList
def inL (b : UInt8) : Bool := letters.data.toList.contains b
theorem setL_at (b : UInt8) : setL[b.toNat]? = some (.bool (inL b)) := by
  have := Go.Lib.setCells_at letters.data.toList b
  unfold setL inL
  rw [Array.getElem?_toList]
  exact this
theorem sto81 (w : World) : (Instr.storeAt 134 (.pointer (some ⟨w.heap.size, 0, none⟩)) (.agg (Go.Lib.setCells letters.data.toList))).run Tryz.prog (w.alloc (.cells (Array.replicate 256 (.bool false)) 134)) = .ok () (w.alloc (.cells setL.toArray 134)) := by
  have := run_storeVar_new (P := Tryz.prog) w 134 (Array.replicate 256 (.bool false)) (Go.Lib.setCells letters.data.toList) (by rw [Go.Lib.setCells_size]; exact size81) (by rw [Go.Lib.setCells_size]; simp) (Go.Lib.setCells_one _)
  unfold setL
  rw [Array.toArray_toList]
  simpa [go_sem] using this
section
variable {w0 w : World} {F : List Nat} {L : List Res} {s : ByteArray}
theorem contains_ret {b : Nat} (x : UInt8) (hS : St w0 F w (Res.cells b 134 setL :: L)) : Ret Tryz.prog 110 #[.pointer (some ⟨b, 0, none⟩), .int .u8 (x.toNat : Int)] w fun v w' => v = .bool (inL x) ∧ St w0 F w' (Res.cells b 134 setL :: L) :=
  Calls.mono (Tryz.asciiSet_contains b x (inL x) w (hS.cell 0 rfl (setL_at x))) fun e w' ⟨he, hw⟩ => ⟨_, he, rfl, hw ▸ hS⟩
theorem ext_size (s : ByteArray) (i j : Nat) (h : j ≤ s.size) : (s.extract i j).size = j - i := by
  rw [ByteArray.size_extract]
  omega
theorem ext_get (s : ByteArray) (i j k : Nat) (h : j ≤ s.size) (hk : k < (s.extract i j).size) : (s.extract i j)[k] = s[i + k]'(by rw [ext_size s i j h] at hk; omega) := by
  simp [ByteArray.getElem_eq_getElem_data, ByteArray.data_extract]
theorem ext_ext (s : ByteArray) (i j k : Nat) (h : j ≤ s.size) (hk : i + k ≤ j) : (s.extract i j).extract k (s.extract i j).size = s.extract (i + k) j := by
  rw [ext_size s i j h]
  apply ByteArray.ext
  simp only [ByteArray.data_extract, Array.extract_extract]
  congr 1
  omega
theorem ext_take (s : ByteArray) (j k : Nat) (hk : k ≤ j) : (s.extract 0 j).extract 0 k = s.extract 0 k := by
  apply ByteArray.ext
  simp only [ByteArray.data_extract, Array.extract_extract]
  congr 1
  omega
theorem ext_all (s : ByteArray) : s.extract 0 s.size = s := by
  apply ByteArray.ext
  rw [ByteArray.data_extract]
  exact Array.extract_size
def AllL (s : ByteArray) : Prop := ∀ i (h : i < s.size), inL s[i] = true
theorem right_ret {b : Nat} (hs : s.size ≤ 1000000) (hS : St w0 F w (Res.cells b 134 setL :: L)) : Ret Tryz.prog 95 #[.string s, .pointer (some ⟨b, 0, none⟩)] w fun v w' => (∃ k, v = .string (s.extract 0 k) ∧ k ≤ s.size ∧ (∀ i (h : i < s.size), k ≤ i → inL s[i] = true) ∧ (∀ h : k - 1 < s.size, 0 < k → inL s[k - 1] = false)) ∧ St w0 F w' (Res.cells b 134 setL :: L) := by
  refine s95 _ _ ?_
  unfold m95 m95_0 m95_1
  refine loop_in (fun u w' => ∃ k : Nat, u = .string (s.extract 0 k) ∧ k ≤ s.size ∧ (∀ i (h : i < s.size), k ≤ i → inL s[i] = true) ∧ St w0 F w' (Res.cells b 134 setL :: L)) (fun u _ => match u with | .string t => t.size | _ => 0) ⟨s.size, by rw [ext_all], Nat.le_refl _, fun i h h2 => by omega, hS⟩ ?_
  clear hS
  rintro u w ⟨k, rfl, hk, hall, hS⟩
  have hz := ext_size s 0 k hk
  unfold m95_4
  refine builtin_ok (len9 _) ?_
  refine valP_ok (gtr_ok _ _ _ _ _ _ _) ?_
  unfold m95_8
  refine cond_split (fun h => ?_) (fun h => ?_)
  · have hk0 : 0 < k := by omega
    have hk1 : k - 1 < s.size := by omega
    unfold m95_5
    refine builtin_ok (len9 _) ?_
    refine valP_ok (sub_ok _ _ _ (by omega) (by omega) _) ?_
    rw [show (((s.extract 0 k).size : Int) - 1) = ((k - 1 : Nat) : Int) by omega]
    refine valP_ok (sidx _ (by omega)) ?_
    rw [ext_get s 0 k (k - 1) hk (by omega)]
    refine callR (by kernel_rfl) (contains_ret _ hS) ?_
    rintro _ w ⟨rfl, hS⟩
    refine valP_ok (notb_ok _ _) ?_
    have e0 : s[0 + (k - 1)]'(by omega) = s[k - 1] := by congr 1; omega
    rw [e0]
    unfold m95_7
    cases hb : inL s[k - 1] with
    | false =>
      refine cond_t rfl ?_
      unfold m95_2 m95_3
      exact ⟨⟨k, rfl, hk, hall, fun _ _ => hb⟩, hS⟩
    | true =>
      refine cond_f rfl ?_
      unfold m95_6
      refine builtin_ok (len9 _) ?_
      refine valP_ok (sub_ok _ _ _ (by omega) (by omega) _) ?_
      rw [show (((s.extract 0 k).size : Int) - 1) = ((k - 1 : Nat) : Int) by omega]
      refine valP_ok (sto _ (by omega)) ?_
      rw [ext_take s k (k - 1) (by omega)]
      refine ⟨⟨k - 1, rfl, by omega, fun i h1 h2 => ?_, hS⟩, ?_⟩
      · rcases Nat.lt_or_ge i k with g | g
        · obtain rfl : i = k - 1 := by omega
          exact hb
        · exact hall i h1 g
      · simp only
        rw [ext_size s 0 (k - 1) (by omega), hz]
        omega
  · obtain rfl : k = 0 := by omega
    unfold m95_2 m95_3
    exact ⟨⟨0, rfl, hk, hall, fun _ h => by omega⟩, hS⟩
theorem left_ret {b : Nat} (hS : St w0 F w (Res.cells b 134 setL :: L)) : Ret Tryz.prog 94 #[.string s, .pointer (some ⟨b, 0, none⟩)] w fun v w' => (∃ k, v = .string (s.extract k s.size) ∧ k ≤ s.size ∧ (∀ i (h : i < s.size), i < k → inL s[i] = true)) ∧ St w0 F w' (Res.cells b 134 setL :: L) := by
  refine s94 _ _ ?_
  unfold m94 m94_0 m94_1
  refine loop_in (fun u w' => ∃ k : Nat, u = .string (s.extract k s.size) ∧ k ≤ s.size ∧ (∀ i (h : i < s.size), i < k → inL s[i] = true) ∧ St w0 F w' (Res.cells b 134 setL :: L)) (fun u _ => match u with | .string t => t.size | _ => 0) ⟨0, by rw [ext_all], Nat.zero_le _, fun i h h2 => by omega, hS⟩ ?_
  clear hS
  rintro u w ⟨k, rfl, hk, hall, hS⟩
  have hz := ext_size s k s.size (Nat.le_refl _)
  unfold m94_4
  refine builtin_ok (len9 _) ?_
  refine valP_ok (gtr_ok _ _ _ _ _ _ _) ?_
  unfold m94_8
  refine cond_split (fun h => ?_) (fun h => ?_)
  · have hk1 : k < s.size := by omega
    unfold m94_5
    refine valP_ok (sidx (k := 0) _ (by omega)) ?_
    rw [ext_get s k s.size 0 (Nat.le_refl _) (by omega)]
    refine callR (by kernel_rfl) (contains_ret _ hS) ?_
    rintro _ w ⟨rfl, hS⟩
    refine valP_ok (notb_ok _ _) ?_
    have e0 : s[k + 0]'(by omega) = s[k] := rfl
    rw [e0]
    unfold m94_7
    cases hb : inL s[k] with
    | false =>
      refine cond_t rfl ?_
      unfold m94_2 m94_3
      exact ⟨⟨k, rfl, hk, hall⟩, hS⟩
    | true =>
      refine cond_f rfl ?_
      unfold m94_6
      refine valP_ok (sfrom (k := 1) _ (by omega)) ?_
      rw [ext_ext s k s.size 1 (Nat.le_refl _) (by omega)]
      refine ⟨⟨k + 1, rfl, by omega, fun i h1 h2 => ?_, hS⟩, ?_⟩
      · rcases Nat.lt_or_ge i k with g | g
        · exact hall i h1 g
        · obtain rfl : i = k := by omega
          exact hb
      · simp only
        rw [ext_size s (k + 1) s.size (Nat.le_refl _), hz]
        omega
  · unfold m94_2 m94_3
    exact ⟨⟨k, rfl, hk, hall⟩, hS⟩
theorem empty_iff (s : ByteArray) : s = ⟨#[]⟩ ↔ s.size = 0 := by
  constructor
  · rintro rfl; rfl
  · intro h
    apply ByteArray.ext
    exact Array.eq_empty_of_size_eq_zero h
theorem trim_ret (h0 : 0 < s.size) (hs : s.size ≤ 1000000) (hS : St w0 F w L) : Ret Tryz.prog 63 #[.string s, .string letters] w fun v w' => (∃ t, v = .string t ∧ (t = ⟨#[]⟩ ↔ AllL s)) ∧ St w0 F w' L := by
  have hne : ¬ s = ⟨#[]⟩ := fun h => by rw [h] at h0; exact Nat.lt_irrefl 0 h0
  have hl : letters.size = 38 := by decide
  have hln : ¬ letters = ⟨#[]⟩ := fun h => by
    have := congrArg ByteArray.size h
    rw [hl] at this
    exact absurd this (by decide)
  refine s63 _ _ ?_
  unfold m63
  unfold m63_0
  unfold m63_1
  refine valP_ok (eq9 _ _ _ _ _) ?_
  refine cond_df hne ?_
  refine valP_ok (eq9 _ _ _ _ _) ?_
  refine pick_df (by first | assumption | omega) ?_
  unfold m63_11
  refine cond_df hln ?_
  unfold m63_2
  refine builtin_ok (len9 _) ?_
  refine valP_ok (eq3 _ _ _ _ _) ?_
  refine cond_df (by rw [hl]; omega) ?_
  refine pick_df (by first | assumption | omega) ?_
  unfold m63_9
  refine cond_f rfl ?_
  unfold m63_3
  refine call_ok (by kernel_rfl) (Calls.mono (Tryz.strings_makeASCIISet zero81 letters w (by rw [hl]; omega) (by
    have : (letters.data.toList.all fun b => decide (b.toNat < 128)) = true := by decide
    intro j b hb
    exact of_decide_eq_true (List.all_eq_true.1 this b (List.mem_of_getElem? hb)))) fun e w' ⟨he, hw⟩ => ⟨_, he, ?_⟩)
  subst hw
  have hS1 := (hS.alloc 134 setL).tail
  have e1 : setL.toArray = Go.Lib.setCells letters.data.toList := Array.toArray_toList
  rw [e1] at hS1
  generalize w.alloc (.cells (Go.Lib.setCells letters.data.toList) 134) = w1 at *
  refine valP_ok (extract_ok _ 0 rfl _) ?_
  refine valP_ok (extract_ok _ 1 rfl _) ?_
  refine valP_ok (alo81 _) ?_
  refine unitP_ok (sto81 _) ?_
  have hS2 := hS1.alloc 134 setL
  generalize hb : w1.heap.size = b at *
  generalize w1.alloc (.cells setL.toArray 134) = w2 at *
  unfold m63_6 m63_7
  refine cond_t rfl ?_
  refine callR (by kernel_rfl) (right_ret hs hS2) ?_
  rintro _ w ⟨⟨k, rfl, hk, hall, hnot⟩, hS⟩
  refine callR (by kernel_rfl) (left_ret hS) ?_
  rintro _ w ⟨⟨j, rfl, hj, hall2⟩, hS⟩
  unfold m63_8
  refine ⟨⟨_, rfl, ?_⟩, hS.tail⟩
  have hz := ext_size s 0 k hk
  have hz2 := ext_size (s.extract 0 k) j (s.extract 0 k).size (Nat.le_refl _)
  rw [empty_iff, hz2]
  constructor
  · intro h i hi
    rcases Nat.lt_or_ge i k with g | g
    · have hk1 : k - 1 < s.size := by omega
      have h3 := hall2 (k - 1) (by omega) (by omega)
      rw [ext_get s 0 k (k - 1) hk (by omega)] at h3
      have e0 : s[0 + (k - 1)]'(by omega) = s[k - 1] := by congr 1; omega
      rw [e0, hnot hk1 (by omega)] at h3
      cases h3
    · exact hall i hi g
  · intro h
    rcases Nat.eq_zero_or_pos k with g | g
    · omega
    · have hk1 : k - 1 < s.size := by omega
      have := h (k - 1) hk1
      rw [hnot hk1 g] at this
      cases this
def Named (s : ByteArray) : Prop := 0 < s.size ∧ s.size ≤ 24 ∧ AllL s
instance (s : ByteArray) : Decidable (AllL s) := by unfold AllL; infer_instance
instance (s : ByteArray) : Decidable (Named s) := by unfold Named; infer_instance
theorem named_ret (hS : St w0 F w L) : Ret Tryz.prog 82 #[.string s] w fun v w' => v = .bool (decide (Named s)) ∧ St w0 F w' L := by
  refine s82 _ ?_
  unfold m82
  unfold m82_0
  have leaf : ∀ t : Bool, (t = true ↔ Named s) → ∀ w, St w0 F w L → m82_2 (fun v w' => v = .bool (decide (Named s)) ∧ St w0 F w' L) (.bool t) w := fun t ht w hS => by
    unfold m82_2
    refine ⟨congrArg Value.bool ?_, hS⟩
    cases t with
    | true => exact (decide_eq_true (ht.1 rfl)).symm
    | false => exact (decide_eq_false fun h => by have := ht.2 h; cases this).symm
  unfold m82_1
  refine valP_ok (ne9 _ _ _ _ _) ?_
  refine cond_split (fun h => ?_) (fun h => ?_)
  · refine builtin_ok (len9 _) ?_
    refine valP_ok (leq_ok _ _ _ _ _ _ _) ?_
    refine pick_dt (by first | assumption | omega) ?_
    refine cond_split (fun h1 => ?_) (fun h1 => ?_)
    · have h0 : 0 < s.size := by
        rcases Nat.eq_zero_or_pos s.size with g | g
        · exact absurd ((empty_iff s).2 g) h
        · exact g
      refine callR (by kernel_rfl) (trim_ret h0 (by omega) hS) ?_
      rintro _ w ⟨⟨t, rfl, ht⟩, hS⟩
      refine valP_ok (eq9 _ _ _ _ _) ?_
      refine pick_dt (by first | assumption | omega) ?_
      refine leaf _ ?_ _ hS
      rw [decide_eq_true_eq, ht]
      unfold Named
      exact ⟨fun h => ⟨h0, by omega, h⟩, fun h => h.2.2⟩
    · refine pick_df (by first | assumption | omega) ?_
      exact leaf _ (by unfold Named; exact ⟨fun h => (by cases h), fun h => by omega⟩) _ hS
  · refine pick_df (by first | assumption | omega) ?_
    refine cond_f rfl ?_
    refine pick_f (by first | rfl | assumption) ?_
    refine leaf _ ⟨fun h => (by cases h), fun h1 => ?_⟩ _ hS
    exact absurd h1.1 (by rw [(empty_iff s).1 (Classical.not_not.1 h)]; omega)
end
section
variable (x y : Operand) (w : World)
end
abbrev lettersB : ByteArray := ⟨#[97, 98, 99, 100, 101, 102, 103, 104, 105, 106, 107, 108, 109, 110, 111, 112, 113, 114, 115, 116, 117, 118, 119, 120, 121, 122, 48, 49, 50, 51, 52, 53, 54, 55, 56, 57, 45]⟩
abbrev setLB : List Value := (Go.Lib.setCells lettersB.data.toList).toList
def inLB (b : UInt8) : Bool := lettersB.data.toList.contains b
theorem setL_atB (b : UInt8) : setLB[b.toNat]? = some (.bool (inLB b)) := by
  have := Go.Lib.setCells_at lettersB.data.toList b
  unfold setLB inLB
  rw [Array.getElem?_toList]
  exact this
theorem sto81B (w : World) : (Instr.storeAt 134 (.pointer (some ⟨w.heap.size, 0, none⟩)) (.agg (Go.Lib.setCells lettersB.data.toList))).run Tryz.prog (w.alloc (.cells (Array.replicate 256 (.bool false)) 134)) = .ok () (w.alloc (.cells setLB.toArray 134)) := by
  have := run_storeVar_new (P := Tryz.prog) w 134 (Array.replicate 256 (.bool false)) (Go.Lib.setCells lettersB.data.toList) (by rw [Go.Lib.setCells_size]; exact size81) (by rw [Go.Lib.setCells_size]; simp) (Go.Lib.setCells_one _)
  unfold setLB
  rw [Array.toArray_toList]
  simpa [go_sem] using this
section
variable {w0 w : World} {F : List Nat} {L : List Res} {s : ByteArray}
theorem contains_retB {b : Nat} (x : UInt8) (hS : St w0 F w (Res.cells b 134 setLB :: L)) : Ret Tryz.prog 110 #[.pointer (some ⟨b, 0, none⟩), .int .u8 (x.toNat : Int)] w fun v w' => v = .bool (inLB x) ∧ St w0 F w' (Res.cells b 134 setLB :: L) :=
  Calls.mono (Tryz.asciiSet_contains b x (inLB x) w (hS.cell 0 rfl (setL_atB x))) fun e w' ⟨he, hw⟩ => ⟨_, he, rfl, hw ▸ hS⟩
theorem ext_sizeB (s : ByteArray) (i j : Nat) (h : j ≤ s.size) : (s.extract i j).size = j - i := by
  rw [ByteArray.size_extract]
  omega
theorem ext_getB (s : ByteArray) (i j k : Nat) (h : j ≤ s.size) (hk : k < (s.extract i j).size) : (s.extract i j)[k] = s[i + k]'(by rw [ext_sizeB s i j h] at hk; omega) := by
  simp [ByteArray.getElem_eq_getElem_data, ByteArray.data_extract]
theorem ext_extB (s : ByteArray) (i j k : Nat) (h : j ≤ s.size) (hk : i + k ≤ j) : (s.extract i j).extract k (s.extract i j).size = s.extract (i + k) j := by
  rw [ext_sizeB s i j h]
  apply ByteArray.ext
  simp only [ByteArray.data_extract, Array.extract_extract]
  congr 1
  omega
theorem ext_takeB (s : ByteArray) (j k : Nat) (hk : k ≤ j) : (s.extract 0 j).extract 0 k = s.extract 0 k := by
  apply ByteArray.ext
  simp only [ByteArray.data_extract, Array.extract_extract]
  congr 1
  omega
theorem ext_allB (s : ByteArray) : s.extract 0 s.size = s := by
  apply ByteArray.ext
  rw [ByteArray.data_extract]
  exact Array.extract_size
def AllLB (s : ByteArray) : Prop := ∀ i (h : i < s.size), inLB s[i] = true
theorem right_retB {b : Nat} (hs : s.size ≤ 1000000) (hS : St w0 F w (Res.cells b 134 setLB :: L)) : Ret Tryz.prog 95 #[.string s, .pointer (some ⟨b, 0, none⟩)] w fun v w' => (∃ k, v = .string (s.extract 0 k) ∧ k ≤ s.size ∧ (∀ i (h : i < s.size), k ≤ i → inLB s[i] = true) ∧ (∀ h : k - 1 < s.size, 0 < k → inLB s[k - 1] = false)) ∧ St w0 F w' (Res.cells b 134 setLB :: L) := by
  refine s95 _ _ ?_
  unfold m95 m95_0 m95_1
  refine loop_in (fun u w' => ∃ k : Nat, u = .string (s.extract 0 k) ∧ k ≤ s.size ∧ (∀ i (h : i < s.size), k ≤ i → inLB s[i] = true) ∧ St w0 F w' (Res.cells b 134 setLB :: L)) (fun u _ => match u with | .string t => t.size | _ => 0) ⟨s.size, by rw [ext_allB], Nat.le_refl _, fun i h h2 => by omega, hS⟩ ?_
  clear hS
  rintro u w ⟨k, rfl, hk, hall, hS⟩
  have hz := ext_sizeB s 0 k hk
  unfold m95_4
  refine builtin_ok (len9 _) ?_
  refine valP_ok (gtr_ok _ _ _ _ _ _ _) ?_
  unfold m95_8
  refine cond_split (fun h => ?_) (fun h => ?_)
  · have hk0 : 0 < k := by omega
    have hk1 : k - 1 < s.size := by omega
    unfold m95_5
    refine builtin_ok (len9 _) ?_
    refine valP_ok (sub_ok _ _ _ (by omega) (by omega) _) ?_
    rw [show (((s.extract 0 k).size : Int) - 1) = ((k - 1 : Nat) : Int) by omega]
    refine valP_ok (sidx _ (by omega)) ?_
    rw [ext_getB s 0 k (k - 1) hk (by omega)]
    refine callR (by kernel_rfl) (contains_retB _ hS) ?_
    rintro _ w ⟨rfl, hS⟩
    refine valP_ok (notb_ok _ _) ?_
    have e0 : s[0 + (k - 1)]'(by omega) = s[k - 1] := by congr 1; omega
    rw [e0]
    unfold m95_7
    cases hb : inLB s[k - 1] with
    | false =>
      refine cond_t rfl ?_
      unfold m95_2 m95_3
      exact ⟨⟨k, rfl, hk, hall, fun _ _ => hb⟩, hS⟩
    | true =>
      refine cond_f rfl ?_
      unfold m95_6
      refine builtin_ok (len9 _) ?_
      refine valP_ok (sub_ok _ _ _ (by omega) (by omega) _) ?_
      rw [show (((s.extract 0 k).size : Int) - 1) = ((k - 1 : Nat) : Int) by omega]
      refine valP_ok (sto _ (by omega)) ?_
      rw [ext_takeB s k (k - 1) (by omega)]
      refine ⟨⟨k - 1, rfl, by omega, fun i h1 h2 => ?_, hS⟩, ?_⟩
      · rcases Nat.lt_or_ge i k with g | g
        · obtain rfl : i = k - 1 := by omega
          exact hb
        · exact hall i h1 g
      · simp only
        rw [ext_sizeB s 0 (k - 1) (by omega), hz]
        omega
  · obtain rfl : k = 0 := by omega
    unfold m95_2 m95_3
    exact ⟨⟨0, rfl, hk, hall, fun _ h => by omega⟩, hS⟩
theorem left_retB {b : Nat} (hS : St w0 F w (Res.cells b 134 setLB :: L)) : Ret Tryz.prog 94 #[.string s, .pointer (some ⟨b, 0, none⟩)] w fun v w' => (∃ k, v = .string (s.extract k s.size) ∧ k ≤ s.size ∧ (∀ i (h : i < s.size), i < k → inLB s[i] = true)) ∧ St w0 F w' (Res.cells b 134 setLB :: L) := by
  refine s94 _ _ ?_
  unfold m94 m94_0 m94_1
  refine loop_in (fun u w' => ∃ k : Nat, u = .string (s.extract k s.size) ∧ k ≤ s.size ∧ (∀ i (h : i < s.size), i < k → inLB s[i] = true) ∧ St w0 F w' (Res.cells b 134 setLB :: L)) (fun u _ => match u with | .string t => t.size | _ => 0) ⟨0, by rw [ext_allB], Nat.zero_le _, fun i h h2 => by omega, hS⟩ ?_
  clear hS
  rintro u w ⟨k, rfl, hk, hall, hS⟩
  have hz := ext_sizeB s k s.size (Nat.le_refl _)
  unfold m94_4
  refine builtin_ok (len9 _) ?_
  refine valP_ok (gtr_ok _ _ _ _ _ _ _) ?_
  unfold m94_8
  refine cond_split (fun h => ?_) (fun h => ?_)
  · have hk1 : k < s.size := by omega
    unfold m94_5
    refine valP_ok (sidx (k := 0) _ (by omega)) ?_
    rw [ext_getB s k s.size 0 (Nat.le_refl _) (by omega)]
    refine callR (by kernel_rfl) (contains_retB _ hS) ?_
    rintro _ w ⟨rfl, hS⟩
    refine valP_ok (notb_ok _ _) ?_
    have e0 : s[k + 0]'(by omega) = s[k] := rfl
    rw [e0]
    unfold m94_7
    cases hb : inLB s[k] with
    | false =>
      refine cond_t rfl ?_
      unfold m94_2 m94_3
      exact ⟨⟨k, rfl, hk, hall⟩, hS⟩
    | true =>
      refine cond_f rfl ?_
      unfold m94_6
      refine valP_ok (sfrom (k := 1) _ (by omega)) ?_
      rw [ext_extB s k s.size 1 (Nat.le_refl _) (by omega)]
      refine ⟨⟨k + 1, rfl, by omega, fun i h1 h2 => ?_, hS⟩, ?_⟩
      · rcases Nat.lt_or_ge i k with g | g
        · exact hall i h1 g
        · obtain rfl : i = k := by omega
          exact hb
      · simp only
        rw [ext_sizeB s (k + 1) s.size (Nat.le_refl _), hz]
        omega
  · unfold m94_2 m94_3
    exact ⟨⟨k, rfl, hk, hall⟩, hS⟩
theorem empty_iffB (s : ByteArray) : s = ⟨#[]⟩ ↔ s.size = 0 := by
  constructor
  · rintro rfl; rfl
  · intro h
    apply ByteArray.ext
    exact Array.eq_empty_of_size_eq_zero h
theorem trim_retB (h0 : 0 < s.size) (hs : s.size ≤ 1000000) (hS : St w0 F w L) : Ret Tryz.prog 63 #[.string s, .string lettersB] w fun v w' => (∃ t, v = .string t ∧ (t = ⟨#[]⟩ ↔ AllLB s)) ∧ St w0 F w' L := by
  have hne : ¬ s = ⟨#[]⟩ := fun h => by rw [h] at h0; exact Nat.lt_irrefl 0 h0
  have hl : lettersB.size = 37 := by decide
  have hln : ¬ lettersB = ⟨#[]⟩ := fun h => by
    have := congrArg ByteArray.size h
    rw [hl] at this
    exact absurd this (by decide)
  refine s63 _ _ ?_
  unfold m63
  unfold m63_0
  unfold m63_1
  refine valP_ok (eq9 _ _ _ _ _) ?_
  refine cond_df hne ?_
  refine valP_ok (eq9 _ _ _ _ _) ?_
  refine pick_df (by first | assumption | omega) ?_
  unfold m63_11
  refine cond_df hln ?_
  unfold m63_2
  refine builtin_ok (len9 _) ?_
  refine valP_ok (eq3 _ _ _ _ _) ?_
  refine cond_df (by rw [hl]; omega) ?_
  refine pick_df (by first | assumption | omega) ?_
  unfold m63_9
  refine cond_f rfl ?_
  unfold m63_3
  refine call_ok (by kernel_rfl) (Calls.mono (Tryz.strings_makeASCIISet zero81 lettersB w (by rw [hl]; omega) (by
    have : (lettersB.data.toList.all fun b => decide (b.toNat < 128)) = true := by decide
    intro j b hb
    exact of_decide_eq_true (List.all_eq_true.1 this b (List.mem_of_getElem? hb)))) fun e w' ⟨he, hw⟩ => ⟨_, he, ?_⟩)
  subst hw
  have hS1 := (hS.alloc 134 setLB).tail
  have e1 : setLB.toArray = Go.Lib.setCells lettersB.data.toList := Array.toArray_toList
  rw [e1] at hS1
  generalize w.alloc (.cells (Go.Lib.setCells lettersB.data.toList) 134) = w1 at *
  refine valP_ok (extract_ok _ 0 rfl _) ?_
  refine valP_ok (extract_ok _ 1 rfl _) ?_
  refine valP_ok (alo81 _) ?_
  refine unitP_ok (sto81B _) ?_
  have hS2 := hS1.alloc 134 setLB
  generalize hb : w1.heap.size = b at *
  generalize w1.alloc (.cells setLB.toArray 134) = w2 at *
  unfold m63_6 m63_7
  refine cond_t rfl ?_
  refine callR (by kernel_rfl) (right_retB hs hS2) ?_
  rintro _ w ⟨⟨k, rfl, hk, hall, hnot⟩, hS⟩
  refine callR (by kernel_rfl) (left_retB hS) ?_
  rintro _ w ⟨⟨j, rfl, hj, hall2⟩, hS⟩
  unfold m63_8
  refine ⟨⟨_, rfl, ?_⟩, hS.tail⟩
  have hz := ext_sizeB s 0 k hk
  have hz2 := ext_sizeB (s.extract 0 k) j (s.extract 0 k).size (Nat.le_refl _)
  rw [empty_iffB, hz2]
  constructor
  · intro h i hi
    rcases Nat.lt_or_ge i k with g | g
    · have hk1 : k - 1 < s.size := by omega
      have h3 := hall2 (k - 1) (by omega) (by omega)
      rw [ext_getB s 0 k (k - 1) hk (by omega)] at h3
      have e0 : s[0 + (k - 1)]'(by omega) = s[k - 1] := by congr 1; omega
      rw [e0, hnot hk1 (by omega)] at h3
      cases h3
    · exact hall i hi g
  · intro h
    rcases Nat.eq_zero_or_pos k with g | g
    · omega
    · have hk1 : k - 1 < s.size := by omega
      have := h (k - 1) hk1
      rw [hnot hk1 g] at this
      cases this
end
end Go.Proofs.YtcldjjmfpmkldaaGreatDoor.M
