/- Numbers and texts, taken and laid. -/
import Derived.Test.YtcdnkbplplghmaaV19
import Derived.Test.YtcdnkbplplghmaaFwW
import Derived.Test.YtcdnkbplplghmaaFwB
import Derived.Test.YtcdnkbplplghmaaMrec0
namespace Go.Proofs.Ytcdnkbplplghmaa.M
open Go.Proofs.Ytcdnkbplplghmaa.F Go.RowKit
set_option linter.unusedVariables false
set_option linter.unusedSimpArgs false
set_option maxRecDepth 100000
set_option maxHeartbeats 2000000
attribute [local irreducible] Res.cells Res.row Res.map Res.any World.cell? World.frozen? Instr.fieldAt Instr.loadAt Instr.storeAt Instr.indexAt Instr.lookup Instr.mapUpdate Instr.box Instr.build Instr.buildSlice Instr.extract Instr.alloc Instr.field Instr.index Instr.sliceAt Instr.makeSlice Instr.makeMap Instr.makeFunc binS Op.unary Sem.run
abbrev iEnc (x : Int) : List Value := [.int .i64 x]
abbrev iRow (A : Option Addr) (c : Nat) (l : List Int) : Res := Res.row 3 1 (.slice A l.length c) l.length (l.flatMap iEnc)
theorem iFlat (l : List Int) : l.flatMap iEnc = l.map (Value.int .i64) := by
  induction l with
  | nil => rfl
  | cons x l ih => rw [List.flatMap_cons, ih]; rfl
theorem takeS_spec {s r : ByteArray} {n : Int} (h : takeS s = some (n, r)) : (-9223372036854775808 ≤ n ∧ n ≤ 9223372036854775807) ∧ s = putS n ++ r := by
  rw [takeS_L] at h
  cases hh : takeL (bytesN s) with
  | none => rw [hh] at h; cases h
  | some p =>
    obtain ⟨m, rest⟩ := p
    rw [hh] at h
    obtain ⟨rfl, rfl⟩ := Prod.mk.inj (Option.some.inj h)
    obtain ⟨e, h1, h2⟩ := takeL_canon (bytesN_lt s) hh
    refine ⟨⟨h1, h2⟩, bytesN_inj ?_⟩
    rw [bytesN_append, bytesN_putS, bytesN_strN, e]
    intro b hb
    exact bytesN_lt s b (by rw [e]; exact List.mem_append_right _ hb)
theorem takeS_put {n : Int} (h : -9223372036854775808 ≤ n ∧ n ≤ 9223372036854775807) (r : ByteArray) : takeS (putS n ++ r) = some (n, r) := by
  rw [takeS_L, bytesN_append, bytesN_putS, takeL_put n _ h.1 h.2]
  simp only [Option.map_some]
  rw [strN_bytesN]
theorem takeS_size {s r : ByteArray} {n : Int} (h : takeS s = some (n, r)) : r.size ≤ s.size := by
  have := congrArg ByteArray.size (takeS_spec h).2
  rw [ByteArray.size_append] at this
  omega
/-- so many numbers. -/
def takeAllS : Nat → ByteArray → Option (List Int × ByteArray)
  | 0, s => some ([], s)
  | n + 1, s => match takeS s with
    | none => none
    | some (k, r) => (takeAllS n r).map fun p => (k :: p.1, p.2)
theorem takeAllS_succ (n : Nat) (s : ByteArray) : takeAllS (n + 1) s = match takeS s with
    | none => none
    | some (k, r) => (takeAllS n r).map fun p => (k :: p.1, p.2) := rfl
/-- a text of at most so many bytes. -/
def textS (s : ByteArray) (most : Int) : Option (ByteArray × ByteArray) := match takeS s with
  | none => none
  | some (n, r) => if 0 ≤ n ∧ n ≤ most ∧ n ≤ r.size then some (r.extract 0 n.toNat, r.extract n.toNat r.size) else none
abbrev noT : Value := .tuple #[.string ⟨#[]⟩, .string ⟨#[]⟩, .int .i64 2]
def textV (s : ByteArray) (most : Int) : Value := match textS s most with
  | none => noT
  | some (t, r) => .tuple #[.string t, .string r, .int .i64 0]
def textR (e n : Int) (r : ByteArray) (most : Int) : Value := if e = 0 ∧ 0 ≤ n ∧ n ≤ most ∧ n ≤ r.size then .tuple #[.string (r.extract 0 n.toNat), .string (r.extract n.toNat r.size), .int .i64 0] else noT
theorem textV_R (s : ByteArray) (most : Int) : textV s most = (match takeS s with
  | none => textR 2 0 ⟨#[]⟩ most
  | some (n, r) => textR 0 n r most) := by
  unfold textV textS textR
  cases takeS s with
  | none => simp
  | some p =>
    obtain ⟨n, r⟩ := p
    simp only
    by_cases h : 0 ≤ n ∧ n ≤ most ∧ n ≤ r.size
    · rw [if_pos h, if_pos ⟨trivial, h⟩]
    · rw [if_neg h, if_neg (fun h1 => h h1.2)]
def putTextS (s : ByteArray) : ByteArray := putS s.size ++ s
section
variable {w0 w : World} {F : List Nat} {L : List Res} {s : ByteArray}
theorem text_main {e n most : Int} {r : ByteArray} (hS : St w0 F w L) : m66_2 (fun v w' => v = textR e n r most ∧ St w0 F w' L) (.int .i64 most) (.int .i64 n) (.string r) (.int .i64 e) w := by
  have leaf : ∀ t : Bool, (t = true ↔ ¬ (e = 0 ∧ 0 ≤ n ∧ n ≤ most ∧ n ≤ r.size)) → m66_5 (fun v w' => v = textR e n r most ∧ St w0 F w' L) (.int .i64 n) (.string r) (.bool t) w := fun t ht => by
    unfold m66_5 textR
    cases t with
    | true =>
      refine cond_t rfl ?_
      rw [if_neg (ht.1 rfl)]
      unfold m66_6
      exact ⟨rfl, hS⟩
    | false =>
      have h : e = 0 ∧ 0 ≤ n ∧ n ≤ most ∧ n ≤ r.size := Classical.byContradiction fun h => by have := ht.2 h; cases this
      refine cond_f rfl ?_
      rw [if_pos h]
      obtain ⟨k, rfl⟩ : ∃ k : Nat, n = (k : Int) := ⟨n.toNat, by omega⟩
      unfold m66_3
      refine valQ_ok (fun w => sto w (by omega)) ?_
      refine valQ_ok (fun w => sfrom w (by omega)) ?_
      refine drawn_ok hS ?_
      intro w hS
      unfold m66_4
      rw [Int.toNat_natCast]
      exact ⟨rfl, hS⟩
  unfold m66_2
  refine valP_ok (ne42 _ _ _ _ _) ?_
  first | refine cond_split (fun hc0 => ?_) (fun hc0 => ?_) | refine cond_bsplit (fun hc0 => ?_) (fun hc0 => ?_)
  · first | refine pick_dt (by first | assumption | omega) ?_ | refine pick_df (by first | assumption | omega) ?_ | refine pick_t (by first | rfl | assumption) ?_ | refine pick_f (by first | rfl | assumption) ?_ | refine pick_dt rfl ?_ | refine pick_df (not_not_intro rfl) ?_
    first | refine cond_split (fun hc1 => ?_) (fun hc1 => ?_) | refine cond_bsplit (fun hc1 => ?_) (fun hc1 => ?_)
    · first | refine pick_dt (by first | assumption | omega) ?_ | refine pick_df (by first | assumption | omega) ?_ | refine pick_t (by first | rfl | assumption) ?_ | refine pick_f (by first | rfl | assumption) ?_ | refine pick_dt rfl ?_ | refine pick_df (not_not_intro rfl) ?_
      first | refine cond_split (fun hc2 => ?_) (fun hc2 => ?_) | refine cond_bsplit (fun hc2 => ?_) (fun hc2 => ?_)
      · first | refine pick_dt (by first | assumption | omega) ?_ | refine pick_df (by first | assumption | omega) ?_ | refine pick_t (by first | rfl | assumption) ?_ | refine pick_f (by first | rfl | assumption) ?_ | refine pick_dt rfl ?_ | refine pick_df (not_not_intro rfl) ?_
        exact leaf _ (by simp only [decide_eq_true_eq, Bool.false_eq_true, false_iff, true_iff] <;> first | contradiction | omega)
      · refine builtin_ok (len9 _) ?_
        refine valP_ok (gtr_ok _ _ _ _ _ _ _) ?_
        first | refine pick_dt (by first | assumption | omega) ?_ | refine pick_df (by first | assumption | omega) ?_ | refine pick_t (by first | rfl | assumption) ?_ | refine pick_f (by first | rfl | assumption) ?_ | refine pick_dt rfl ?_ | refine pick_df (not_not_intro rfl) ?_
        exact leaf _ (by simp only [decide_eq_true_eq, Bool.false_eq_true, false_iff, true_iff] <;> first | contradiction | omega)
    · refine valP_ok (gtr_ok _ _ _ _ _ _ _) ?_
      first | refine pick_dt (by first | assumption | omega) ?_ | refine pick_df (by first | assumption | omega) ?_ | refine pick_t (by first | rfl | assumption) ?_ | refine pick_f (by first | rfl | assumption) ?_ | refine pick_dt rfl ?_ | refine pick_df (not_not_intro rfl) ?_
      first | refine cond_split (fun hc2 => ?_) (fun hc2 => ?_) | refine cond_bsplit (fun hc2 => ?_) (fun hc2 => ?_)
      · first | refine pick_dt (by first | assumption | omega) ?_ | refine pick_df (by first | assumption | omega) ?_ | refine pick_t (by first | rfl | assumption) ?_ | refine pick_f (by first | rfl | assumption) ?_ | refine pick_dt rfl ?_ | refine pick_df (not_not_intro rfl) ?_
        exact leaf _ (by simp only [decide_eq_true_eq, Bool.false_eq_true, false_iff, true_iff] <;> first | contradiction | omega)
      · refine builtin_ok (len9 _) ?_
        refine valP_ok (gtr_ok _ _ _ _ _ _ _) ?_
        first | refine pick_dt (by first | assumption | omega) ?_ | refine pick_df (by first | assumption | omega) ?_ | refine pick_t (by first | rfl | assumption) ?_ | refine pick_f (by first | rfl | assumption) ?_ | refine pick_dt rfl ?_ | refine pick_df (not_not_intro rfl) ?_
        exact leaf _ (by simp only [decide_eq_true_eq, Bool.false_eq_true, false_iff, true_iff] <;> first | contradiction | omega)
  · refine valP_ok (lss_ok _ _ _ _ _ _ _) ?_
    first | refine pick_dt (by first | assumption | omega) ?_ | refine pick_df (by first | assumption | omega) ?_ | refine pick_t (by first | rfl | assumption) ?_ | refine pick_f (by first | rfl | assumption) ?_ | refine pick_dt rfl ?_ | refine pick_df (not_not_intro rfl) ?_
    first | refine cond_split (fun hc1 => ?_) (fun hc1 => ?_) | refine cond_bsplit (fun hc1 => ?_) (fun hc1 => ?_)
    · first | refine pick_dt (by first | assumption | omega) ?_ | refine pick_df (by first | assumption | omega) ?_ | refine pick_t (by first | rfl | assumption) ?_ | refine pick_f (by first | rfl | assumption) ?_ | refine pick_dt rfl ?_ | refine pick_df (not_not_intro rfl) ?_
      first | refine cond_split (fun hc2 => ?_) (fun hc2 => ?_) | refine cond_bsplit (fun hc2 => ?_) (fun hc2 => ?_)
      · first | refine pick_dt (by first | assumption | omega) ?_ | refine pick_df (by first | assumption | omega) ?_ | refine pick_t (by first | rfl | assumption) ?_ | refine pick_f (by first | rfl | assumption) ?_ | refine pick_dt rfl ?_ | refine pick_df (not_not_intro rfl) ?_
        exact leaf _ (by simp only [decide_eq_true_eq, Bool.false_eq_true, false_iff, true_iff] <;> first | contradiction | omega)
      · refine builtin_ok (len9 _) ?_
        refine valP_ok (gtr_ok _ _ _ _ _ _ _) ?_
        first | refine pick_dt (by first | assumption | omega) ?_ | refine pick_df (by first | assumption | omega) ?_ | refine pick_t (by first | rfl | assumption) ?_ | refine pick_f (by first | rfl | assumption) ?_ | refine pick_dt rfl ?_ | refine pick_df (not_not_intro rfl) ?_
        exact leaf _ (by simp only [decide_eq_true_eq, Bool.false_eq_true, false_iff, true_iff] <;> first | contradiction | omega)
    · refine valP_ok (gtr_ok _ _ _ _ _ _ _) ?_
      first | refine pick_dt (by first | assumption | omega) ?_ | refine pick_df (by first | assumption | omega) ?_ | refine pick_t (by first | rfl | assumption) ?_ | refine pick_f (by first | rfl | assumption) ?_ | refine pick_dt rfl ?_ | refine pick_df (not_not_intro rfl) ?_
      first | refine cond_split (fun hc2 => ?_) (fun hc2 => ?_) | refine cond_bsplit (fun hc2 => ?_) (fun hc2 => ?_)
      · first | refine pick_dt (by first | assumption | omega) ?_ | refine pick_df (by first | assumption | omega) ?_ | refine pick_t (by first | rfl | assumption) ?_ | refine pick_f (by first | rfl | assumption) ?_ | refine pick_dt rfl ?_ | refine pick_df (not_not_intro rfl) ?_
        exact leaf _ (by simp only [decide_eq_true_eq, Bool.false_eq_true, false_iff, true_iff] <;> first | contradiction | omega)
      · refine builtin_ok (len9 _) ?_
        refine valP_ok (gtr_ok _ _ _ _ _ _ _) ?_
        first | refine pick_dt (by first | assumption | omega) ?_ | refine pick_df (by first | assumption | omega) ?_ | refine pick_t (by first | rfl | assumption) ?_ | refine pick_f (by first | rfl | assumption) ?_ | refine pick_dt rfl ?_ | refine pick_df (not_not_intro rfl) ?_
        exact leaf _ (by simp only [decide_eq_true_eq, Bool.false_eq_true, false_iff, true_iff] <;> first | contradiction | omega)
theorem text_ret {most : Int} (hS : St w0 F w L) : Ret Try.prog 66 #[.string s, .int .i64 most] w fun v w' => v = textV s most ∧ St w0 F w' L := by
  refine s66 _ _ ?_
  unfold m66 m66_0 m66_1
  refine callR (by kernel_rfl) (take_ret hS) ?_
  rintro _ w ⟨rfl, hS⟩
  rw [textV_R]
  unfold tkV
  cases takeS s with
  | none =>
    simp only
    refine valP_ok (extract_ok _ 0 rfl _) ?_
    refine valP_ok (extract_ok _ 1 rfl _) ?_
    refine valP_ok (extract_ok _ 2 rfl _) ?_
    exact text_main hS
  | some p =>
    obtain ⟨n, r⟩ := p
    simp only
    refine valP_ok (extract_ok _ 0 rfl _) ?_
    refine valP_ok (extract_ok _ 1 rfl _) ?_
    refine valP_ok (extract_ok _ 2 rfl _) ?_
    exact text_main hS
theorem rtext_main {e n most : Int} {r : ByteArray} (hS : St w0 F w L) : m68_2 (fun v w' => v = textR e n r most ∧ St w0 F w' L) (.int .i64 most) (.int .i64 n) (.string r) (.int .i64 e) w := by
  have leaf : ∀ t : Bool, (t = true ↔ ¬ (e = 0 ∧ 0 ≤ n ∧ n ≤ most ∧ n ≤ r.size)) → m68_5 (fun v w' => v = textR e n r most ∧ St w0 F w' L) (.int .i64 n) (.string r) (.bool t) w := fun t ht => by
    unfold m68_5 textR
    cases t with
    | true =>
      refine cond_t rfl ?_
      rw [if_neg (ht.1 rfl)]
      unfold m68_6
      exact ⟨rfl, hS⟩
    | false =>
      have h : e = 0 ∧ 0 ≤ n ∧ n ≤ most ∧ n ≤ r.size := Classical.byContradiction fun h => by have := ht.2 h; cases this
      refine cond_f rfl ?_
      rw [if_pos h]
      obtain ⟨k, rfl⟩ : ∃ k : Nat, n = (k : Int) := ⟨n.toNat, by omega⟩
      unfold m68_3
      refine valQ_ok (fun w => sto w (by omega)) ?_
      refine valQ_ok (fun w => sfrom w (by omega)) ?_
      refine drawn_ok hS ?_
      intro w hS
      unfold m68_4
      rw [Int.toNat_natCast]
      exact ⟨rfl, hS⟩
  unfold m68_2
  refine valP_ok (ne3 _ _ _ _ _) ?_
  first | refine cond_split (fun hc0 => ?_) (fun hc0 => ?_) | refine cond_bsplit (fun hc0 => ?_) (fun hc0 => ?_)
  · first | refine pick_dt (by first | assumption | omega) ?_ | refine pick_df (by first | assumption | omega) ?_ | refine pick_t (by first | rfl | assumption) ?_ | refine pick_f (by first | rfl | assumption) ?_ | refine pick_dt rfl ?_ | refine pick_df (not_not_intro rfl) ?_
    first | refine cond_split (fun hc1 => ?_) (fun hc1 => ?_) | refine cond_bsplit (fun hc1 => ?_) (fun hc1 => ?_)
    · first | refine pick_dt (by first | assumption | omega) ?_ | refine pick_df (by first | assumption | omega) ?_ | refine pick_t (by first | rfl | assumption) ?_ | refine pick_f (by first | rfl | assumption) ?_ | refine pick_dt rfl ?_ | refine pick_df (not_not_intro rfl) ?_
      first | refine cond_split (fun hc2 => ?_) (fun hc2 => ?_) | refine cond_bsplit (fun hc2 => ?_) (fun hc2 => ?_)
      · first | refine pick_dt (by first | assumption | omega) ?_ | refine pick_df (by first | assumption | omega) ?_ | refine pick_t (by first | rfl | assumption) ?_ | refine pick_f (by first | rfl | assumption) ?_ | refine pick_dt rfl ?_ | refine pick_df (not_not_intro rfl) ?_
        exact leaf _ (by simp only [decide_eq_true_eq, Bool.false_eq_true, false_iff, true_iff] <;> first | contradiction | omega)
      · refine builtin_ok (len9 _) ?_
        refine valP_ok (gtr_ok _ _ _ _ _ _ _) ?_
        first | refine pick_dt (by first | assumption | omega) ?_ | refine pick_df (by first | assumption | omega) ?_ | refine pick_t (by first | rfl | assumption) ?_ | refine pick_f (by first | rfl | assumption) ?_ | refine pick_dt rfl ?_ | refine pick_df (not_not_intro rfl) ?_
        exact leaf _ (by simp only [decide_eq_true_eq, Bool.false_eq_true, false_iff, true_iff] <;> first | contradiction | omega)
    · refine valP_ok (gtr_ok _ _ _ _ _ _ _) ?_
      first | refine pick_dt (by first | assumption | omega) ?_ | refine pick_df (by first | assumption | omega) ?_ | refine pick_t (by first | rfl | assumption) ?_ | refine pick_f (by first | rfl | assumption) ?_ | refine pick_dt rfl ?_ | refine pick_df (not_not_intro rfl) ?_
      first | refine cond_split (fun hc2 => ?_) (fun hc2 => ?_) | refine cond_bsplit (fun hc2 => ?_) (fun hc2 => ?_)
      · first | refine pick_dt (by first | assumption | omega) ?_ | refine pick_df (by first | assumption | omega) ?_ | refine pick_t (by first | rfl | assumption) ?_ | refine pick_f (by first | rfl | assumption) ?_ | refine pick_dt rfl ?_ | refine pick_df (not_not_intro rfl) ?_
        exact leaf _ (by simp only [decide_eq_true_eq, Bool.false_eq_true, false_iff, true_iff] <;> first | contradiction | omega)
      · refine builtin_ok (len9 _) ?_
        refine valP_ok (gtr_ok _ _ _ _ _ _ _) ?_
        first | refine pick_dt (by first | assumption | omega) ?_ | refine pick_df (by first | assumption | omega) ?_ | refine pick_t (by first | rfl | assumption) ?_ | refine pick_f (by first | rfl | assumption) ?_ | refine pick_dt rfl ?_ | refine pick_df (not_not_intro rfl) ?_
        exact leaf _ (by simp only [decide_eq_true_eq, Bool.false_eq_true, false_iff, true_iff] <;> first | contradiction | omega)
  · refine valP_ok (lss_ok _ _ _ _ _ _ _) ?_
    first | refine pick_dt (by first | assumption | omega) ?_ | refine pick_df (by first | assumption | omega) ?_ | refine pick_t (by first | rfl | assumption) ?_ | refine pick_f (by first | rfl | assumption) ?_ | refine pick_dt rfl ?_ | refine pick_df (not_not_intro rfl) ?_
    first | refine cond_split (fun hc1 => ?_) (fun hc1 => ?_) | refine cond_bsplit (fun hc1 => ?_) (fun hc1 => ?_)
    · first | refine pick_dt (by first | assumption | omega) ?_ | refine pick_df (by first | assumption | omega) ?_ | refine pick_t (by first | rfl | assumption) ?_ | refine pick_f (by first | rfl | assumption) ?_ | refine pick_dt rfl ?_ | refine pick_df (not_not_intro rfl) ?_
      first | refine cond_split (fun hc2 => ?_) (fun hc2 => ?_) | refine cond_bsplit (fun hc2 => ?_) (fun hc2 => ?_)
      · first | refine pick_dt (by first | assumption | omega) ?_ | refine pick_df (by first | assumption | omega) ?_ | refine pick_t (by first | rfl | assumption) ?_ | refine pick_f (by first | rfl | assumption) ?_ | refine pick_dt rfl ?_ | refine pick_df (not_not_intro rfl) ?_
        exact leaf _ (by simp only [decide_eq_true_eq, Bool.false_eq_true, false_iff, true_iff] <;> first | contradiction | omega)
      · refine builtin_ok (len9 _) ?_
        refine valP_ok (gtr_ok _ _ _ _ _ _ _) ?_
        first | refine pick_dt (by first | assumption | omega) ?_ | refine pick_df (by first | assumption | omega) ?_ | refine pick_t (by first | rfl | assumption) ?_ | refine pick_f (by first | rfl | assumption) ?_ | refine pick_dt rfl ?_ | refine pick_df (not_not_intro rfl) ?_
        exact leaf _ (by simp only [decide_eq_true_eq, Bool.false_eq_true, false_iff, true_iff] <;> first | contradiction | omega)
    · refine valP_ok (gtr_ok _ _ _ _ _ _ _) ?_
      first | refine pick_dt (by first | assumption | omega) ?_ | refine pick_df (by first | assumption | omega) ?_ | refine pick_t (by first | rfl | assumption) ?_ | refine pick_f (by first | rfl | assumption) ?_ | refine pick_dt rfl ?_ | refine pick_df (not_not_intro rfl) ?_
      first | refine cond_split (fun hc2 => ?_) (fun hc2 => ?_) | refine cond_bsplit (fun hc2 => ?_) (fun hc2 => ?_)
      · first | refine pick_dt (by first | assumption | omega) ?_ | refine pick_df (by first | assumption | omega) ?_ | refine pick_t (by first | rfl | assumption) ?_ | refine pick_f (by first | rfl | assumption) ?_ | refine pick_dt rfl ?_ | refine pick_df (not_not_intro rfl) ?_
        exact leaf _ (by simp only [decide_eq_true_eq, Bool.false_eq_true, false_iff, true_iff] <;> first | contradiction | omega)
      · refine builtin_ok (len9 _) ?_
        refine valP_ok (gtr_ok _ _ _ _ _ _ _) ?_
        first | refine pick_dt (by first | assumption | omega) ?_ | refine pick_df (by first | assumption | omega) ?_ | refine pick_t (by first | rfl | assumption) ?_ | refine pick_f (by first | rfl | assumption) ?_ | refine pick_dt rfl ?_ | refine pick_df (not_not_intro rfl) ?_
        exact leaf _ (by simp only [decide_eq_true_eq, Bool.false_eq_true, false_iff, true_iff] <;> first | contradiction | omega)
theorem rtext_ret {most : Int} (hS : St w0 F w L) : Ret Try.prog 68 #[.string s, .int .i64 most] w fun v w' => v = textV s most ∧ St w0 F w' L := by
  refine s68 _ _ ?_
  unfold m68 m68_0 m68_1
  refine callR (by kernel_rfl) (rtake_ret hS) ?_
  rintro _ w ⟨rfl, hS⟩
  rw [textV_R]
  unfold tkV
  cases takeS s with
  | none =>
    simp only
    refine valP_ok (extract_ok _ 0 rfl _) ?_
    refine valP_ok (extract_ok _ 1 rfl _) ?_
    refine valP_ok (extract_ok _ 2 rfl _) ?_
    exact rtext_main hS
  | some p =>
    obtain ⟨n, r⟩ := p
    simp only
    refine valP_ok (extract_ok _ 0 rfl _) ?_
    refine valP_ok (extract_ok _ 1 rfl _) ?_
    refine valP_ok (extract_ok _ 2 rfl _) ?_
    exact rtext_main hS
theorem takeall_ret {n : Nat} (hn : n ≤ 64) (hS : St w0 F w L) : Ret Try.prog 65 #[.string s, .int .i64 (n : Int)] w fun v w' => match takeAllS n s with
    | none => v = .tuple #[.slice none 0 0, .string ⟨#[]⟩, .int .i64 2] ∧ St w0 F w' L
    | some (l, r) => ∃ A c, v = .tuple #[.slice A l.length c, .string r, .int .i64 0] ∧ l.length = n ∧ St w0 F w' (iRow A c l :: L) := by
  refine s65 _ _ ?_
  unfold m65 m65_0 m65_1
  refine valP_ok (lss_ok _ _ _ _ _ _ _) ?_
  refine cond_df (by omega) ?_
  refine valP_ok (gtr_ok _ _ _ _ _ _ _) ?_
  first | refine pick_dt (by first | assumption | omega) ?_ | refine pick_df (by first | assumption | omega) ?_ | refine pick_t (by first | rfl | assumption) ?_ | refine pick_f (by first | rfl | assumption) ?_ | refine pick_dt rfl ?_ | refine pick_df (not_not_intro rfl) ?_
  unfold m65_16
  refine cond_df (by omega) ?_
  unfold m65_2 m65_3 m65_6
  refine loop_in (fun u w' => ∃ (i : Nat) (l : List Int) (r : ByteArray) (A : Option Addr) (c : Nat), u = (.string r, .slice A l.length c, .int .i64 (i : Int)) ∧ i ≤ n ∧ l.length = i ∧ takeAllS n s = (takeAllS (n - i) r).map (fun p => (l ++ p.1, p.2)) ∧ St w0 F w' (iRow A c l :: L)) (fun u _ => n - (intOf u.2.2).toNat) ⟨0, [], s, none, 0, rfl, by omega, rfl, by simp, hS.row_nil 3 1⟩ ?_
  clear hS
  rintro u w ⟨i, l, r, A, c, rfl, hi, hl, he, hS⟩
  simp only
  unfold m65_7
  refine valP_ok (lss_ok _ _ _ _ _ _ _) ?_
  unfold m65_8
  refine cond_split (fun h => ?_) (fun h => ?_)
  · obtain ⟨m, hm⟩ : ∃ m, n - i = m + 1 := ⟨n - i - 1, by omega⟩
    rw [hm] at he
    unfold m65_9
    refine callR (by kernel_rfl) (take_ret hS) ?_
    rintro _ w ⟨rfl, hS⟩
    rw [takeAllS_succ] at he
    unfold tkV
    cases ht : takeS r with
    | none =>
      rw [ht] at he
      simp only [Option.map_none] at he
      simp only
      refine valP_ok (extract_ok _ 0 rfl _) ?_
      refine valP_ok (extract_ok _ 1 rfl _) ?_
      refine valP_ok (extract_ok _ 2 rfl _) ?_
      unfold m65_11
      refine valP_ok (ne42 _ _ _ _ _) ?_
      unfold m65_14
      refine cond_dt (by omega) ?_
      unfold m65_15
      simp only [he]
      exact ⟨rfl, hS.tail⟩
    | some p =>
      obtain ⟨k, r2⟩ := p
      rw [ht] at he
      simp only at he
      simp only
      refine valP_ok (extract_ok _ 0 rfl _) ?_
      refine valP_ok (extract_ok _ 1 rfl _) ?_
      refine valP_ok (extract_ok _ 2 rfl _) ?_
      unfold m65_11
      refine valP_ok (ne42 _ _ _ _ _) ?_
      unfold m65_14
      refine cond_df (by omega) ?_
      unfold m65_12
      refine newslice_ok (bs63_1 rfl _) hS ?_
      intro b31 w hS
      refine append_one1 (enc := iEnc) 0 k sl63 (fun _ => rfl) (fun _ v hv => by obtain rfl := List.mem_singleton.1 hv; rfl) (by unfold maxLen; omega) (by omega) hS rfl ?_
      intro A' c' w hS
      simp only [List.set_cons_zero] at hS
      unfold m65_13
      unfold m65_10
      refine valP_ok (add_ok _ _ _ (by omega) (by omega) _) ?_
      refine ⟨⟨i + 1, l ++ [k], r2, A', c', rfl, by omega, by simp [hl], ?_, hS⟩, by simp [intOf]; omega⟩
      rw [he, show n - (i + 1) = m by omega, Option.map_map]
      congr 1
      funext p
      simp
  · obtain rfl : i = n := by omega
    rw [Nat.sub_self] at he
    simp only [takeAllS, Option.map_some, List.append_nil] at he
    unfold m65_4 m65_5
    simp only [he]
    exact ⟨A, c, rfl, hl, hS⟩
theorem puttext_ret (hs : s.size ≤ 1000000) (hS : St w0 F w L) : Ret Try.prog 59 #[.string s] w fun v w' => v = .string (putTextS s) ∧ St w0 F w' L := by
  refine s59 _ ?_
  unfold m59
  unfold m59_0
  unfold m59_1
  refine builtin_ok (len9 _) ?_
  refine callR (by kernel_rfl) (put_ret (by omega) hS) ?_
  rintro _ w ⟨rfl, hS⟩
  have := putS_size (n := (s.size : Int)) (by omega)
  refine valP_ok (sadd _ _ (by omega) _) ?_
  unfold m59_2
  exact ⟨rfl, hS⟩
theorem rtextp_ret (hs : s.size ≤ 1000000) (hS : St w0 F w L) : Ret Try.prog 62 #[.string s] w fun v w' => v = .string (putTextS s) ∧ St w0 F w' L := by
  refine s62 _ ?_
  unfold m62
  unfold m62_0
  unfold m62_1
  refine builtin_ok (len9 _) ?_
  refine callR (by kernel_rfl) (rput_ret (by omega) hS) ?_
  rintro _ w ⟨rfl, hS⟩
  have := putS_size (n := (s.size : Int)) (by omega)
  refine valP_ok (sadd _ _ (by omega) _) ?_
  unfold m62_2
  exact ⟨rfl, hS⟩
theorem putS_pos (n : Int) : 0 < (putS n).size := by
  rw [← bytesN_length, bytesN_putS]
  exact lebN_pos _
theorem fold_ge (xs : List Int) (s : ByteArray) : s.size ≤ (xs.foldl (fun s n => s ++ putS n) s).size := by
  induction xs generalizing s with
  | nil => exact Nat.le_refl _
  | cons x xs ih =>
    have h1 := ih (s ++ putS x)
    rw [ByteArray.size_append] at h1
    rw [List.foldl_cons]
    omega
theorem all_pos {l : List Int} (h0 : 0 < l.length) (hx : ∀ x ∈ l, -9223372036854775808 ≤ x ∧ x ≤ 9223372036854775807) : 0 < (allS l).size := by
  cases l with
  | nil => simp at h0
  | cons x xs =>
    have h1 := fold_ge xs (⟨#[]⟩ ++ putS x)
    have h2 := putS_pos x
    rw [ByteArray.size_append] at h1
    unfold allS
    rw [List.foldl_cons]
    omega
theorem putall_ret {l : List Int} {A : Option Addr} {c : Nat} (h0 : 0 < l.length) (hm : l.length ≤ 1000) (hx : ∀ x ∈ l, -9223372036854775808 ≤ x ∧ x ≤ 9223372036854775807) (hE : Bes w0 F L 1 A l.length (l.map (Value.int .i64))) (hS : St w0 F w L) : Ret Try.prog 58 #[.slice A l.length c] w fun v w' => v = .string (allS l) ∧ St w0 F w' L := by
  refine s58 _ ?_
  unfold m58
  unfold m58_0
  unfold m58_1
  refine new_ok (al73 _) hS ?_
  intro b3 w hS
  have hB := Bd.start hS
  clear hS
  unfold m58_2
  refine builtin_ok (len63 _) ?_
  unfold m58_5
  refine loop_in (fun u w' => ∃ i : Nat, u = .int .i64 (i : Int) ∧ i ≤ l.length ∧ Bd w0 F L b3 (allS (l.take i)) w') (fun u _ => l.length - (intOf u).toNat) ⟨0, rfl, by omega, hB⟩ ?_
  clear hB
  rintro u w ⟨i, rfl, hi, hB⟩
  have hsz := fold_size (xs := l.take i) (fun x hx2 => hx x (List.mem_of_mem_take hx2)) ⟨#[]⟩
  have e0 : (⟨#[]⟩ : ByteArray).size = 0 := rfl
  have hlt : (l.take i).length ≤ 1000 := by rw [List.length_take]; omega
  unfold m58_6
  refine valP_ok (lss_ok _ _ _ _ _ _ _) ?_
  unfold m58_7
  refine cond_split (fun h => ?_) (fun h => ?_)
  · have hil : i < l.length := by omega
    have hxi := hx _ (List.getElem_mem hil)
    have hnx : allS (l.take (i + 1)) = allS (l.take i) ++ putS l[i] := by
      unfold allS
      rw [List.take_succ_eq_append_getElem hil, List.foldl_append]
      rfl
    have hpz := putS_size hxi
    obtain ⟨p, A2, c2, hp, hS⟩ := hB
    have hR := hE.rd2 hS
    obtain ⟨gb, o, rfl⟩ := hR.some_ (by omega) (by omega)
    unfold m58_8
    refine valP_ok (ix63 hil _) ?_
    refine valP_ok (ld3 (hR.cell_ (by rw [List.getElem?_map, List.getElem?_eq_getElem hil]; rfl))) ?_
    unfold m58_10
    refine callR (by kernel_rfl) (put_ret hxi hS) ?_
    rintro _ w ⟨rfl, hS⟩
    have hB : Bd w0 F L b3 (allS (l.take i)) w := ⟨p, A2, c2, hp, hS⟩
    refine callR (by kernel_rfl) (write_ret (by unfold allS; omega) hB) ?_
    intro _ w hB
    unfold m58_9
    refine valP_ok (add_ok _ _ _ (by omega) (by omega) _) ?_
    exact ⟨⟨i + 1, rfl, by omega, by rw [hnx]; exact hB⟩, by simp [intOf]; omega⟩
  · obtain rfl : i = l.length := by omega
    rw [List.take_length] at hB
    unfold m58_3
    refine callR (by kernel_rfl) (bstring_ret (all_pos h0 hx) hB) ?_
    rintro _ w ⟨rfl, hS⟩
    unfold m58_4
    exact ⟨rfl, hS⟩
end

end Go.Proofs.Ytcdnkbplplghmaa.M
