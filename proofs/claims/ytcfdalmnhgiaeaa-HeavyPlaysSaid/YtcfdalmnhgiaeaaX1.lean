/- Keys held against one another; the place of a key. -/
import Derived.Test.YtcfdalmnhgiaeaaR
import Derived.Test.YtcfdalmnhgiaeaaM0
namespace Go.Proofs.Ytcfdalmnhgiaeaa.M
open Go.Proofs.Ytcfdalmnhgiaeaa.F Go.RowKit
set_option linter.unusedVariables false
set_option linter.unusedSimpArgs false
set_option maxRecDepth 100000
set_option maxHeartbeats 2000000
attribute [local irreducible] Res.cells Res.row Res.map Res.any World.cell? World.frozen? Instr.fieldAt Instr.loadAt Instr.storeAt Instr.indexAt Instr.lookup Instr.mapUpdate Instr.box Instr.build Instr.buildSlice Instr.extract Instr.alloc Instr.field Instr.index Instr.sliceAt Instr.makeSlice Instr.makeMap Instr.makeFunc binS Op.unary Sem.run
structure Ta where
  key : Int
  n : Int
  over : Int
  deriving DecidableEq
def encT (t : Ta) : List Value := [.int .i64 t.key, .int .i64 t.n, .int .i64 t.over]
theorem encT_len (t : Ta) : (encT t).length = 3 := rfl
abbrev hcl (b : Nat) (most n : Int) (v : Value) : Res := Res.cells b 52 [.int .i64 most, .int .i64 n, v]
abbrev hrow (v : Value) (l : List Ta) : Res := Res.row 45 3 v l.length (l.flatMap encT)
def cmpI (a b : Int) : Int := if a < b then -1 else if b < a then 1 else 0
theorem isnan_ret (a : Int) (w : World) : Ret Try.prog 39 #[.int .i64 a] w fun v w' => v = .bool false ∧ w' = w := by
  refine s39 _ ?_
  unfold m39
  unfold m39_0
  unfold m39_1
  refine valP_ok (ne3 _ _ _ _ _) ?_
  unfold m39_2
  exact ⟨by simp, rfl⟩
theorem compare_ret (a b : Int) (w : World) : Ret Try.prog 32 #[.int .i64 a, .int .i64 b] w fun v w' => v = .int .i64 (cmpI a b) ∧ w' = w := by
  refine s32 _ _ ?_
  unfold m32 m32_0
  unfold m32_1
  refine callR (by kernel_rfl) (isnan_ret _ _) ?_
  rintro v w ⟨rfl, rfl⟩
  unfold m32_2
  refine callR (by kernel_rfl) (isnan_ret _ _) ?_
  rintro v w ⟨rfl, rfl⟩
  unfold m32_3 m32_15
  refine cond_f rfl ?_
  unfold m32_4 m32_13
  refine cond_f rfl ?_
  unfold m32_5
  refine valP_ok (lss_ok _ _ _ _ _ _ _) ?_
  unfold m32_11
  first | refine cond_split (fun hc0 => ?_) (fun hc0 => ?_) | refine cond_bsplit (fun hc0 => ?_) (fun hc0 => ?_)
  · unfold m32_12
    exact ⟨by unfold cmpI; first | (rw [if_pos (by assumption)]; done) | (rw [if_neg (by assumption), if_pos (by assumption)]; done) | rw [if_neg (by assumption), if_neg (by assumption)], rfl⟩
  · unfold m32_6
    refine valP_ok (gtr_ok _ _ _ _ _ _ _) ?_
    unfold m32_9
    first | refine cond_split (fun hc1 => ?_) (fun hc1 => ?_) | refine cond_bsplit (fun hc1 => ?_) (fun hc1 => ?_)
    · unfold m32_10
      exact ⟨by unfold cmpI; first | (rw [if_pos (by assumption)]; done) | (rw [if_neg (by assumption), if_pos (by assumption)]; done) | rw [if_neg (by assumption), if_neg (by assumption)], rfl⟩
    · unfold m32_7
      unfold m32_8
      exact ⟨by unfold cmpI; first | (rw [if_pos (by assumption)]; done) | (rw [if_neg (by assumption), if_pos (by assumption)]; done) | rw [if_neg (by assumption), if_neg (by assumption)], rfl⟩
/-- The first number that is not 0. -/
def orI : List Int → Int
  | [] => 0
  | a :: l => if a = 0 then orI l else a
theorem orI_drop {l : List Int} : ∀ {i : Nat} (hi : i < l.length), (∀ j (hj : j < l.length), j < i → l[j] = 0) → l[i] ≠ 0 → orI l = l[i] := by
  induction l with
  | nil => intro i hi; simp at hi
  | cons a l ih =>
    intro i hi hz hne
    cases i with
    | zero => simp only [List.getElem_cons_zero] at hne ⊢; unfold orI; rw [if_neg hne]
    | succ i =>
      have h0 := hz 0 (by simp) (by omega)
      simp only [List.getElem_cons_zero] at h0
      unfold orI
      rw [if_pos h0]
      simp only [List.getElem_cons_succ] at hne ⊢
      exact ih (by simpa using hi) (fun j hj hji => by have := hz (j + 1) (by simpa using hj) (by omega); simpa using this) hne
theorem orI_zero {l : List Int} (hz : ∀ j (hj : j < l.length), l[j] = 0) : orI l = 0 := by
  induction l with
  | nil => rfl
  | cons a l ih =>
    have h0 := hz 0 (by simp)
    simp only [List.getElem_cons_zero] at h0
    unfold orI
    rw [if_pos h0]
    exact ih fun j hj => by have := hz (j + 1) (by simpa using hj); simpa using this
theorem or_ret (A : Option Addr) (c : Nat) (l : List Int) (w : World) (hr : Rd w 1 A l.length (ints l)) (hl : l.length ≤ 1000000) : Ret Try.prog 31 #[.slice A l.length c] w fun v w' => v = .int .i64 (orI l) ∧ w' = w := by
  refine s31 _ ?_
  unfold m31 m31_0
  unfold m31_1
  unfold m31_2
  refine builtin_ok (len22 _) ?_
  unfold m31_5
  refine loop_in (fun s w' => ∃ i : Nat, s = .int .i64 i ∧ i ≤ l.length ∧ w' = w ∧ ∀ j (hj : j < l.length), j < i → l[j] = 0) (fun s _ => l.length - (intOf s).toNat) ⟨0, rfl, by omega, rfl, fun _ _ h => by omega⟩ ?_
  rintro s w' ⟨i, rfl, hi, rfl, hz⟩
  unfold m31_6
  refine valP_ok (lss_ok _ _ _ _ _ _ _) ?_
  unfold m31_7
  refine cond_split (fun h => ?_) (fun h => ?_)
  · have hlt : i < l.length := by omega
    obtain ⟨g, o, rfl⟩ := hr.some_ (by omega) (by omega)
    have hc := hr.cell_ (ints_get hlt)
    unfold m31_8
    refine valP_ok (ix22 hlt _) ?_
    first | refine valP_ok (ld3 (hS.cell 0 rfl rfl)) ?_ | refine valP_ok (ld3 (hS.cell 1 rfl rfl)) ?_ | refine valP_ok (ld3 (hS.cell 2 rfl rfl)) ?_ | refine valP_ok (ld3 (hS.cell 3 rfl rfl)) ?_ | refine valP_ok (ld3 (hS.cell 4 rfl rfl)) ?_ | refine valP_ok (ld3 (by assumption)) ?_
    unfold m31_10
    refine valP_ok (ne3 _ _ _ _ _) ?_
    unfold m31_11
    refine cond_split (fun hn => ?_) (fun hn => ?_)
    · unfold m31_12
      exact ⟨by rw [orI_drop hlt hz hn], rfl⟩
    · unfold m31_9
      refine valP_ok (add_ok _ _ _ (by omega) (by omega) _) ?_
      refine ⟨⟨i + 1, rfl, by omega, rfl, fun j hj hji => ?_⟩, by simp [intOf]; omega⟩
      by_cases e : j = i
      · subst e; exact Decidable.not_not.1 hn
      · exact hz j hj (by omega)
  · unfold m31_3 m31_4
    exact ⟨by rw [orI_zero fun j hj => hz j hj (by omega)], rfl⟩
theorem find1_ret {w0 w : World} {F : List Nat} {L : List Res} {bk : Nat} {key : Int} (t : Ta) (hS : St w0 F w (Res.cells bk 3 [.int .i64 key] :: L)) :
    Ret Try.prog 34 #[.agg #[.int .i64 t.key, .int .i64 t.n, .int .i64 t.over], .pointer (some ⟨bk, 0, none⟩)] w fun v w' => v = .bool (decide (t.key = key)) ∧ St w0 F w' (Res.cells bk 3 [.int .i64 key] :: L) := by
  refine s34 _ _ ?_
  unfold m34
  unfold m34_0
  refine new_ok (bx45 _ _ _ _) hS ?_
  intro b2 w hS
  unfold m34_1
  first | refine valP_ok (fa45_0 _ _) ?_ | refine valP_ok (fao45_0 _ _ _) ?_
  first | refine valP_ok (ld3 (hS.cell 0 rfl rfl)) ?_ | refine valP_ok (ld3 (hS.cell 1 rfl rfl)) ?_ | refine valP_ok (ld3 (hS.cell 2 rfl rfl)) ?_ | refine valP_ok (ld3 (hS.cell 3 rfl rfl)) ?_ | refine valP_ok (ld3 (hS.cell 4 rfl rfl)) ?_ | refine valP_ok (ld3 (by assumption)) ?_
  first | refine valP_ok (ld3 (hS.cell 0 rfl rfl)) ?_ | refine valP_ok (ld3 (hS.cell 1 rfl rfl)) ?_ | refine valP_ok (ld3 (hS.cell 2 rfl rfl)) ?_ | refine valP_ok (ld3 (hS.cell 3 rfl rfl)) ?_ | refine valP_ok (ld3 (hS.cell 4 rfl rfl)) ?_ | refine valP_ok (ld3 (by assumption)) ?_
  refine valP_ok (eq3 _ _ _ _ _) ?_
  unfold m34_2
  exact ⟨rfl, hS.tail⟩
/-- Where a key stands; -1: nowhere. -/
def findI (l : List Ta) (key : Int) : Int := match l.findIdx? (fun t => t.key = key) with | some i => (i : Int) | none => -1
theorem findI_hit {l : List Ta} {key : Int} {i : Nat} (hi : i < l.length) (hb : ∀ j (hj : j < l.length), j < i → l[j].key ≠ key) (h : l[i].key = key) : findI l key = i := by
  unfold findI
  rw [List.findIdx?_eq_some_iff_getElem.2 ⟨hi, by simpa using h, fun j hj => by simpa using hb j (by omega) hj⟩]
theorem findI_miss {l : List Ta} {key : Int} (hb : ∀ j (hj : j < l.length), l[j].key ≠ key) : findI l key = -1 := by
  unfold findI
  rw [List.findIdx?_eq_none_iff.2 fun t ht => by
    obtain ⟨j, hj, rfl⟩ := List.mem_iff_getElem.1 ht
    simpa using hb j hj]
theorem tally_at {w0 w : World} {F : List Nat} {L : List Res} {g c : Nat} {l : List Ta} (k : Nat) (hS : St w0 F w L) (hk : L[k]? = some (hrow (.slice (some ⟨g, 0, none⟩) l.length c) l)) {i : Nat} (hi : i < l.length) :
    w.cell? ⟨g, i * 3, none⟩ = some (.int .i64 l[i].key) ∧ w.cell? ⟨g, i * 3 + 1, none⟩ = some (.int .i64 l[i].n) ∧ w.cell? ⟨g, i * 3 + 2, none⟩ = some (.int .i64 l[i].over) :=
  ⟨hS.row_cell k hk (flat_get encT 3 encT_len l i 0 hi (by omega)), hS.row_cell k hk (flat_get encT 3 encT_len l i 1 hi (by omega)), hS.row_cell k hk (flat_get encT 3 encT_len l i 2 hi (by omega))⟩
theorem indexFunc_ret {w0 w : World} {F : List Nat} {L : List Res} {bk b : Nat} {most n key : Int} {A : Option Addr} {c : Nat} {l : List Ta} (hl : l.length ≤ 64)
    (hS : St w0 F w (Res.cells bk 3 [.int .i64 key] :: hcl b most n (.slice A l.length c) :: hrow (.slice A l.length c) l :: L)) :
    Ret Try.prog 33 #[.slice A l.length c, .func (.func 34) #[] #[.pointer (some ⟨bk, 0, none⟩)]] w fun v w' => v = .int .i64 (findI l key) ∧ St w0 F w' (Res.cells bk 3 [.int .i64 key] :: hcl b most n (.slice A l.length c) :: hrow (.slice A l.length c) l :: L) := by
  refine s33 _ _ ?_
  unfold m33 m33_0
  unfold m33_1
  refine builtin_ok (len28 _) ?_
  unfold m33_4
  refine loop_in (fun s w' => ∃ i : Nat, s = .int .i64 i ∧ i ≤ l.length ∧ St w0 F w' (Res.cells bk 3 [.int .i64 key] :: hcl b most n (.slice A l.length c) :: hrow (.slice A l.length c) l :: L) ∧ ∀ j (hj : j < l.length), j < i → l[j].key ≠ key) (fun s _ => l.length - (intOf s).toNat)
    ⟨0, rfl, by omega, hS, fun _ _ h => by omega⟩ ?_
  clear hS
  rintro s w ⟨i, rfl, hi, hS, hb⟩
  unfold m33_5
  refine valP_ok (lss_ok _ _ _ _ _ _ _) ?_
  unfold m33_6
  refine cond_split (fun h => ?_) (fun h => ?_)
  · have hlt : i < l.length := by omega
    obtain ⟨g, rfl⟩ := hS.row_ptr 2 rfl (by omega)
    obtain ⟨h0, h1, h2⟩ := tally_at 2 hS rfl hlt
    unfold m33_7 m33_9
    refine valP_ok (ixz28 hlt _) ?_
    refine valP_ok (ld45 h0 h1 h2) ?_
    refine callvR (by kernel_rfl) rfl (find1_ret l[i] hS) ?_
    rintro v w ⟨rfl, hS⟩
    unfold m33_10
    refine cond_split (fun hk => ?_) (fun hk => ?_)
    · unfold m33_11
      exact ⟨by rw [findI_hit hlt hb hk], hS⟩
    · unfold m33_8
      refine valP_ok (add_ok _ _ _ (by omega) (by omega) _) ?_
      refine ⟨⟨i + 1, rfl, by omega, hS, fun j hj hji => ?_⟩, by simp [intOf]; omega⟩
      by_cases e : j = i
      · subst e; exact hk
      · exact hb j hj (by omega)
  · unfold m33_2 m33_3
    exact ⟨by rw [findI_miss fun j hj => hb j hj (by omega)], hS⟩
theorem find_ret {w0 w : World} {F : List Nat} {L : List Res} {b : Nat} {most n key : Int} {A : Option Addr} {c : Nat} {l : List Ta} (hl : l.length ≤ 64) (hS : St w0 F w (hcl b most n (.slice A l.length c) :: hrow (.slice A l.length c) l :: L)) :
    Ret Try.prog 24 #[.pointer (some ⟨b, 0, none⟩), .int .i64 key] w fun v w' => v = .int .i64 (findI l key) ∧ St w0 F w' (hcl b most n (.slice A l.length c) :: hrow (.slice A l.length c) l :: L) := by
  refine s24 _ _ ?_
  unfold m24
  unfold m24_0
  refine new_ok (bx3 rfl _) hS ?_
  intro b3 w hS
  unfold m24_1
  refine nil_ok ?_
  first | refine valP_ok (fa52_2 _ _) ?_ | refine valP_ok (fao52_2 _ _ _) ?_
  first | refine valP_ok (ld28 (hS.cell 0 rfl rfl)) ?_ | refine valP_ok (ld28 (hS.cell 1 rfl rfl)) ?_ | refine valP_ok (ld28 (hS.cell 2 rfl rfl)) ?_ | refine valP_ok (ld28 (hS.cell 3 rfl rfl)) ?_ | refine valP_ok (ld28 (hS.cell 4 rfl rfl)) ?_ | refine valP_ok (ld28 (by assumption)) ?_
  refine valP_ok (mf34 _ _) ?_
  refine callR (by kernel_rfl) (indexFunc_ret hl hS) ?_
  rintro v w ⟨rfl, hS⟩
  unfold m24_2
  exact ⟨rfl, hS.tail⟩
/-- How two tallies stand: the lighter one first. -/
def lightI (a b : Ta) : Int := orI [cmpI a.n b.n, cmpI a.key b.key]
/-- How two tallies stand: the heavier one first. -/
def topI (a b : Ta) : Int := orI [cmpI b.n a.n, cmpI a.key b.key]
theorem light1_ret {w0 w : World} {F : List Nat} {L : List Res} (a b : Ta) (hS : St w0 F w L) :
    Ret Try.prog 36 #[.agg #[.int .i64 a.key, .int .i64 a.n, .int .i64 a.over], .agg #[.int .i64 b.key, .int .i64 b.n, .int .i64 b.over]] w fun v w' => v = .int .i64 (lightI a b) ∧ St w0 F w' L := by
  refine s36 _ _ ?_
  unfold m36
  unfold m36_0
  refine new_ok (bx45 _ _ _ _) hS ?_
  intro b2 w hS
  refine new_ok (bx45 _ _ _ _) hS ?_
  intro b3 w hS
  unfold m36_1
  refine drawn_ok hS ?_
  intro w hS
  first | refine valS_ok (fa45_1 _ _) ?_ | refine valS_ok (fao45_1 _ _ _) ?_
  first | refine valS_ok (ld3 (hS.cell 0 rfl rfl)) ?_ | refine valS_ok (ld3 (hS.cell 1 rfl rfl)) ?_ | refine valS_ok (ld3 (hS.cell 2 rfl rfl)) ?_ | refine valS_ok (ld3 (hS.cell 3 rfl rfl)) ?_ | refine valS_ok (ld3 (hS.cell 4 rfl rfl)) ?_ | refine valS_ok (ld3 (by assumption)) ?_
  first | refine valS_ok (fa45_1 _ _) ?_ | refine valS_ok (fao45_1 _ _ _) ?_
  first | refine valS_ok (ld3 (hS.cell 0 rfl rfl)) ?_ | refine valS_ok (ld3 (hS.cell 1 rfl rfl)) ?_ | refine valS_ok (ld3 (hS.cell 2 rfl rfl)) ?_ | refine valS_ok (ld3 (hS.cell 3 rfl rfl)) ?_ | refine valS_ok (ld3 (hS.cell 4 rfl rfl)) ?_ | refine valS_ok (ld3 (by assumption)) ?_
  refine callSR (by kernel_rfl) (compare_ret _ _ _) ?_
  first | refine valS_ok (fa45_0 _ _) ?_ | refine valS_ok (fao45_0 _ _ _) ?_
  first | refine valS_ok (ld3 (hS.cell 0 rfl rfl)) ?_ | refine valS_ok (ld3 (hS.cell 1 rfl rfl)) ?_ | refine valS_ok (ld3 (hS.cell 2 rfl rfl)) ?_ | refine valS_ok (ld3 (hS.cell 3 rfl rfl)) ?_ | refine valS_ok (ld3 (hS.cell 4 rfl rfl)) ?_ | refine valS_ok (ld3 (by assumption)) ?_
  first | refine valS_ok (fa45_0 _ _) ?_ | refine valS_ok (fao45_0 _ _ _) ?_
  first | refine valS_ok (ld3 (hS.cell 0 rfl rfl)) ?_ | refine valS_ok (ld3 (hS.cell 1 rfl rfl)) ?_ | refine valS_ok (ld3 (hS.cell 2 rfl rfl)) ?_ | refine valS_ok (ld3 (hS.cell 3 rfl rfl)) ?_ | refine valS_ok (ld3 (hS.cell 4 rfl rfl)) ?_ | refine valS_ok (ld3 (by assumption)) ?_
  refine callSR (by kernel_rfl) (compare_ret _ _ _) ?_
  refine newslice_ok (bs22_2 rfl rfl _) hS ?_
  intro b15 w hS
  refine callR (by kernel_rfl) (or_ret _ _ [cmpI a.n b.n, cmpI a.key b.key] w (Rd.of_cells 0 hS rfl rfl) (by simp)) ?_
  rintro v w ⟨rfl, rfl⟩
  unfold m36_2
  exact ⟨rfl, hS.tail.tail.tail⟩
theorem top1_ret {w0 w : World} {F : List Nat} {L : List Res} (a b : Ta) (hS : St w0 F w L) :
    Ret Try.prog 30 #[.agg #[.int .i64 a.key, .int .i64 a.n, .int .i64 a.over], .agg #[.int .i64 b.key, .int .i64 b.n, .int .i64 b.over]] w fun v w' => v = .int .i64 (topI a b) ∧ St w0 F w' L := by
  refine s30 _ _ ?_
  unfold m30
  unfold m30_0
  refine new_ok (bx45 _ _ _ _) hS ?_
  intro b2 w hS
  refine new_ok (bx45 _ _ _ _) hS ?_
  intro b3 w hS
  unfold m30_1
  refine drawn_ok hS ?_
  intro w hS
  first | refine valS_ok (fa45_1 _ _) ?_ | refine valS_ok (fao45_1 _ _ _) ?_
  first | refine valS_ok (ld3 (hS.cell 0 rfl rfl)) ?_ | refine valS_ok (ld3 (hS.cell 1 rfl rfl)) ?_ | refine valS_ok (ld3 (hS.cell 2 rfl rfl)) ?_ | refine valS_ok (ld3 (hS.cell 3 rfl rfl)) ?_ | refine valS_ok (ld3 (hS.cell 4 rfl rfl)) ?_ | refine valS_ok (ld3 (by assumption)) ?_
  first | refine valS_ok (fa45_1 _ _) ?_ | refine valS_ok (fao45_1 _ _ _) ?_
  first | refine valS_ok (ld3 (hS.cell 0 rfl rfl)) ?_ | refine valS_ok (ld3 (hS.cell 1 rfl rfl)) ?_ | refine valS_ok (ld3 (hS.cell 2 rfl rfl)) ?_ | refine valS_ok (ld3 (hS.cell 3 rfl rfl)) ?_ | refine valS_ok (ld3 (hS.cell 4 rfl rfl)) ?_ | refine valS_ok (ld3 (by assumption)) ?_
  refine callSR (by kernel_rfl) (compare_ret _ _ _) ?_
  first | refine valS_ok (fa45_0 _ _) ?_ | refine valS_ok (fao45_0 _ _ _) ?_
  first | refine valS_ok (ld3 (hS.cell 0 rfl rfl)) ?_ | refine valS_ok (ld3 (hS.cell 1 rfl rfl)) ?_ | refine valS_ok (ld3 (hS.cell 2 rfl rfl)) ?_ | refine valS_ok (ld3 (hS.cell 3 rfl rfl)) ?_ | refine valS_ok (ld3 (hS.cell 4 rfl rfl)) ?_ | refine valS_ok (ld3 (by assumption)) ?_
  first | refine valS_ok (fa45_0 _ _) ?_ | refine valS_ok (fao45_0 _ _ _) ?_
  first | refine valS_ok (ld3 (hS.cell 0 rfl rfl)) ?_ | refine valS_ok (ld3 (hS.cell 1 rfl rfl)) ?_ | refine valS_ok (ld3 (hS.cell 2 rfl rfl)) ?_ | refine valS_ok (ld3 (hS.cell 3 rfl rfl)) ?_ | refine valS_ok (ld3 (hS.cell 4 rfl rfl)) ?_ | refine valS_ok (ld3 (by assumption)) ?_
  refine callSR (by kernel_rfl) (compare_ret _ _ _) ?_
  refine newslice_ok (bs22_2 rfl rfl _) hS ?_
  intro b15 w hS
  refine callR (by kernel_rfl) (or_ret _ _ [cmpI b.n a.n, cmpI a.key b.key] w (Rd.of_cells 0 hS rfl rfl) (by simp)) ?_
  rintro v w ⟨rfl, rfl⟩
  unfold m30_2
  exact ⟨rfl, hS.tail.tail.tail⟩
instance : Inhabited Ta := ⟨⟨0, 0, 0⟩⟩
/-- Where the lightest of the first i tallies stands. -/
def lightUp (l : List Ta) : Nat → Nat
  | 0 => 0
  | i + 1 => if lightI l[i]! l[lightUp l i]! < 0 then i else lightUp l i
def lightIx (l : List Ta) : Nat := lightUp l l.length
theorem lightUp_lt (l : List Ta) : ∀ i, lightUp l i < i ∨ lightUp l i = 0
  | 0 => .inr rfl
  | i + 1 => by
    unfold lightUp
    split
    · exact .inl (by omega)
    · rcases lightUp_lt l i with h | h
      · exact .inl (by omega)
      · exact .inr h
theorem first_ret {w0 w : World} {F : List Nat} {L : List Res} {b : Nat} {most n : Int} {A : Option Addr} {c : Nat} {l : List Ta} (hl : l.length ≤ 64)
    (hS : St w0 F w (hcl b most n (.slice A l.length c) :: hrow (.slice A l.length c) l :: L)) :
    Ret Try.prog 35 #[.slice A l.length c, fnV 36] w fun v w' => v = .int .i64 (lightIx l) ∧ St w0 F w' (hcl b most n (.slice A l.length c) :: hrow (.slice A l.length c) l :: L) := by
  refine s35 _ _ ?_
  unfold m35
  unfold m35_0
  unfold m35_1
  unfold m35_2
  refine builtin_ok (len28 _) ?_
  unfold m35_5
  refine loop_in (fun s w' => ∃ i : Nat, s = (.int .i64 (lightUp l i), .int .i64 i) ∧ i ≤ l.length ∧ St w0 F w' (hcl b most n (.slice A l.length c) :: hrow (.slice A l.length c) l :: L)) (fun s _ => l.length - (intOf s.2).toNat)
    ⟨0, rfl, by omega, hS⟩ ?_
  clear hS
  rintro s w ⟨i, rfl, hi, hS⟩
  unfold m35_6
  refine valP_ok (lss_ok _ _ _ _ _ _ _) ?_
  unfold m35_7
  refine cond_split (fun h => ?_) (fun h => ?_)
  · have hlt : i < l.length := by omega
    have hat : lightUp l i < l.length := by rcases lightUp_lt l i with h | h <;> omega
    obtain ⟨g, rfl⟩ := hS.row_ptr 1 rfl (by omega)
    unfold m35_8
    unfold m35_10
    refine drawn_ok hS ?_
    intro w hS
    obtain ⟨h0, h1, h2⟩ := tally_at 1 hS rfl hlt
    obtain ⟨g0, g1, g2⟩ := tally_at 1 hS rfl hat
    refine valS_ok (ixz28 hlt _) ?_
    refine valS_ok (ld45 h0 h1 h2) ?_
    refine valS_ok (ixz28 hat _) ?_
    refine valS_ok (ld45 g0 g1 g2) ?_
    refine callR (by kernel_rfl) (light1_ret l[i] l[lightUp l i] hS) ?_
    rintro v w ⟨rfl, hS⟩
    refine valP_ok (lss_ok _ _ _ _ _ _ _) ?_
    have hup : lightUp l (i + 1) = if lightI l[i] l[lightUp l i] < 0 then i else lightUp l i := by
      show (if lightI l[i]! l[lightUp l i]! < 0 then i else lightUp l i) = _
      rw [getElem!_pos l i hlt, getElem!_pos l _ hat]
    unfold m35_11
    refine cond_split (fun hn => ?_) (fun hn => ?_)
    · rw [if_pos hn] at hup
      unfold m35_9
      refine valP_ok (add_ok _ _ _ (by omega) (by omega) _) ?_
      exact ⟨⟨i + 1, by rw [hup]; rfl, by omega, hS⟩, by simp [intOf]; omega⟩
    · rw [if_neg hn] at hup
      unfold m35_9
      refine valP_ok (add_ok _ _ _ (by omega) (by omega) _) ?_
      exact ⟨⟨i + 1, by rw [hup]; rfl, by omega, hS⟩, by simp [intOf]; omega⟩
  · unfold m35_3 m35_4
    have : i = l.length := by omega
    subst this
    exact ⟨rfl, hS⟩
theorem light_ret {w0 w : World} {F : List Nat} {L : List Res} {b : Nat} {most n : Int} {A : Option Addr} {c : Nat} {l : List Ta} (hl : l.length ≤ 64)
    (hS : St w0 F w (hcl b most n (.slice A l.length c) :: hrow (.slice A l.length c) l :: L)) :
    Ret Try.prog 25 #[.pointer (some ⟨b, 0, none⟩)] w fun v w' => v = .int .i64 (lightIx l) ∧ St w0 F w' (hcl b most n (.slice A l.length c) :: hrow (.slice A l.length c) l :: L) := by
  refine s25 _ ?_
  unfold m25
  unfold m25_0
  unfold m25_1
  refine nil_ok ?_
  first | refine valP_ok (fa52_2 _ _) ?_ | refine valP_ok (fao52_2 _ _ _) ?_
  first | refine valP_ok (ld28 (hS.cell 0 rfl rfl)) ?_ | refine valP_ok (ld28 (hS.cell 1 rfl rfl)) ?_ | refine valP_ok (ld28 (hS.cell 2 rfl rfl)) ?_ | refine valP_ok (ld28 (hS.cell 3 rfl rfl)) ?_ | refine valP_ok (ld28 (hS.cell 4 rfl rfl)) ?_ | refine valP_ok (ld28 (by assumption)) ?_
  refine callR (by kernel_rfl) (first_ret hl hS) ?_
  rintro v w ⟨rfl, hS⟩
  unfold m25_2
  exact ⟨rfl, hS⟩

end Go.Proofs.Ytcfdalmnhgiaeaa.M
