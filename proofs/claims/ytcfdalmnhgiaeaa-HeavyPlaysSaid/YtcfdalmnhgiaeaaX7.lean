/- The laws' helpers: not too many keys, how often, the same tallies, one behind keys. -/
import Derived.Test.YtcfdalmnhgiaeaaX6
import Derived.Test.YtcfdalmnhgiaeaaM0
import Derived.Test.YtcfdalmnhgiaeaaM1
import Derived.Test.YtcfdalmnhgiaeaaM2
import Derived.Test.YtcfdalmnhgiaeaaM3
import Derived.Test.YtcfdalmnhgiaeaaM4
namespace Go.Proofs.Ytcfdalmnhgiaeaa.M
open Go.Proofs.Ytcfdalmnhgiaeaa.F Go.RowKit
set_option linter.unusedVariables false
set_option linter.unusedSimpArgs false
set_option maxRecDepth 100000
set_option maxHeartbeats 2000000
attribute [local irreducible] Res.cells Res.row Res.map Res.any World.cell? World.frozen? Instr.fieldAt Instr.loadAt Instr.storeAt Instr.indexAt Instr.lookup Instr.mapUpdate Instr.box Instr.build Instr.buildSlice Instr.extract Instr.alloc Instr.field Instr.index Instr.sliceAt Instr.makeSlice Instr.makeMap Instr.makeFunc binS Op.unary Sem.run
theorem tmod_in (a : Int) {b : Int} (hb : 0 < b) : -b < a.tmod b ∧ a.tmod b < b := by
  rcases Int.le_total 0 a with h | h
  · rw [Int.tmod_eq_emod_of_nonneg h]
    have := Int.emod_nonneg a (show b ≠ 0 by omega)
    have := Int.emod_lt_of_pos a hb
    omega
  · have e : a.tmod b = -((-a).tmod b) := by rw [Int.neg_tmod]; omega
    rw [e, Int.tmod_eq_emod_of_nonneg (by omega)]
    have := Int.emod_nonneg (-a) (show b ≠ 0 by omega)
    have := Int.emod_lt_of_pos (-a) hb
    omega
theorem remt_ok {T : TypeId} {x y : Operand} {P : Program} {a b : Int} (ha : -9223372036854775808 ≤ a) (ha' : a ≤ 9223372036854775807) (hb : 1 < b) (hb' : b ≤ 1000000) (w : World) : (binS .rem T x y (.int .i64 a) (.int .i64 b)).run P w = .ok (.int .i64 (a.tmod b)) w := by
  rw [binS_run _ _ _ _ _ _ (by simp [eqGuard])]
  have h1 : ¬ b = 0 := by omega
  have h2 : ¬ b = -1 := by omega
  have h3 := tmod_in a (show 0 < b by omega)
  simp [binOp, go_sem, h1]
  first | done | (rw [Lib.i64_norm (by omega) (by omega)]) | skip
theorem some_ret (A : Option Addr) (c : Nat) (l : List Int) (w : World) (hc : l.length ≤ c) : Ret Try.prog 9 #[.slice A l.length c] w fun v w' => v = .slice A (l.take 400).length c ∧ w' = w := by
  refine s9 _ ?_
  unfold m9
  unfold m9_0
  unfold m9_1
  refine builtin_ok (len22 _) ?_
  refine valP_ok (gtr_ok _ _ _ _ _ _ _) ?_
  unfold m9_4
  refine cond_split (fun h => ?_) (fun h => ?_)
  · refine valP_ok (sh22 (k := 400) (by omega) _) ?_
    unfold m9_5
    exact ⟨by rw [List.length_take, Nat.min_eq_left (by omega)], rfl⟩
  · unfold m9_2 m9_3
    exact ⟨by rw [List.take_of_length_le (by omega)], rfl⟩
/-- How often a key came. -/
abbrev tm (l : List Int) (k : Int) : Int := ((l.count k : Nat) : Int)
theorem tm_take {l : List Int} {i : Nat} (hi : i < l.length) (k : Int) : tm (l.take (i + 1)) k = if l[i] = k then tm (l.take i) k + 1 else tm (l.take i) k := by
  unfold tm
  rw [List.take_succ_eq_append_getElem hi, List.count_append]
  by_cases h : l[i] = k
  · rw [if_pos h, h]; simp
  · rw [if_neg h]; simp [h]
theorem times_ret (A : Option Addr) (c : Nat) (l : List Int) (key : Int) (w : World) (hr : Rd w 1 A l.length (ints l)) (hl : l.length ≤ 1000000) : Ret Try.prog 22 #[.slice A l.length c, .int .i64 key] w fun v w' => v = .int .i64 (tm l key) ∧ w' = w := by
  refine s22 _ _ ?_
  unfold m22
  unfold m22_0
  unfold m22_1
  unfold m22_2
  unfold m22_5
  refine loop_in (fun s w' => ∃ i : Nat, s = (.int .i64 (tm (l.take i) key), .int .i64 i) ∧ i ≤ l.length ∧ w' = w) (fun s _ => l.length - (intOf s.2).toNat) ⟨0, by simp [tm], by omega, rfl⟩ ?_
  rintro s w' ⟨i, rfl, hi, rfl⟩
  unfold m22_6
  refine builtin_ok (len22 _) ?_
  refine valP_ok (lss_ok _ _ _ _ _ _ _) ?_
  unfold m22_10
  refine cond_split (fun h => ?_) (fun h => ?_)
  · have hlt : i < l.length := by omega
    obtain ⟨g, o, rfl⟩ := hr.some_ (by omega) (by omega)
    have hc := hr.cell_ (ints_get hlt)
    have hs := tm_take hlt key
    have hcl : tm (l.take i) key ≤ 1000000 := by
      have := List.count_le_length (a := key) (l := l.take i)
      rw [List.length_take] at this
      unfold tm
      omega
    have hc0 : 0 ≤ tm (l.take i) key := by unfold tm; omega
    unfold m22_7
    first | refine valP_ok (ixz22 (by first | assumption | omega) _) ?_ | refine valP_ok (ix22 (by first | assumption | omega) _) ?_
    first | refine valP_ok (ld3 (hS.cell 0 rfl rfl)) ?_ | refine valP_ok (ld3 (hS.cell 1 rfl rfl)) ?_ | refine valP_ok (ld3 (hS.cell 2 rfl rfl)) ?_ | refine valP_ok (ld3 (hS.cell 3 rfl rfl)) ?_ | refine valP_ok (ld3 (hS.cell 4 rfl rfl)) ?_ | refine valP_ok (ld3 (by assumption)) ?_
    refine valP_ok (eq3 _ _ _ _ _) ?_
    unfold m22_9
    refine cond_split (fun hk => ?_) (fun hk => ?_)
    · rw [if_pos hk] at hs
      refine valP_ok (add_ok _ _ _ (by omega) (by omega) _) ?_
      unfold m22_8
      refine valP_ok (add_ok _ _ _ (by omega) (by omega) _) ?_
      exact ⟨⟨i + 1, by rw [hs]; rfl, by omega, rfl⟩, by simp [intOf]; omega⟩
    · rw [if_neg hk] at hs
      unfold m22_8
      refine valP_ok (add_ok _ _ _ (by omega) (by omega) _) ?_
      exact ⟨⟨i + 1, by rw [hs]; rfl, by omega, rfl⟩, by simp [intOf]; omega⟩
  · unfold m22_3 m22_4
    exact ⟨by rw [List.take_of_length_le (by omega)], rfl⟩
theorem Rd.tally {w : World} {g o : Nat} {l : List Ta} (h : Rd w 3 (some ⟨g, o, none⟩) l.length (l.flatMap encT)) {i : Nat} (hi : i < l.length) :
    w.cell? ⟨g, o + i * 3, none⟩ = some (.int .i64 l[i].key) ∧ w.cell? ⟨g, o + i * 3 + 1, none⟩ = some (.int .i64 l[i].n) ∧ w.cell? ⟨g, o + i * 3 + 2, none⟩ = some (.int .i64 l[i].over) := by
  refine ⟨?_, ?_, ?_⟩
  · exact h.cells_ (flat_get encT 3 encT_len l i 0 hi (by omega))
  · have := h.cells_ (flat_get encT 3 encT_len l i 1 hi (by omega)); rwa [Nat.add_assoc]
  · have := h.cells_ (flat_get encT 3 encT_len l i 2 hi (by omega)); rwa [Nat.add_assoc]
theorem same_ret {w0 w : World} {F : List Nat} {L : List Res} {A B : Option Addr} {c d : Nat} {a b : List Ta} (hl : a.length ≤ 1000000) (hS : St w0 F w L) (hA : Bes w0 F L 3 A a.length (a.flatMap encT)) (hB : Bes w0 F L 3 B b.length (b.flatMap encT)) :
    Ret Try.prog 18 #[.slice A a.length c, .slice B b.length d] w fun v w' => v = .bool (decide (a = b)) ∧ St w0 F w' L := by
  refine s18 _ _ ?_
  unfold m18
  unfold m18_0
  unfold m18_1
  refine builtin_ok (len28 _) ?_
  refine builtin_ok (len28 _) ?_
  refine valP_ok (ne3 _ _ _ _ _) ?_
  unfold m18_12
  refine cond_split (fun h => ?_) (fun h => ?_)
  · unfold m18_13
    exact ⟨by rw [decide_eq_false (fun e => h (by rw [e]))], hS⟩
  have hab : a.length = b.length := by omega
  unfold m18_2
  unfold m18_5
  refine loop_in (fun s w' => ∃ i : Nat, s = .int .i64 i ∧ i ≤ a.length ∧ St w0 F w' L ∧ ∀ j (h1 : j < a.length) (h2 : j < b.length), j < i → a[j] = b[j]) (fun s _ => a.length - (intOf s).toNat) ⟨0, rfl, by omega, hS, fun _ _ _ h => by omega⟩ ?_
  clear hS
  rintro s w ⟨i, rfl, hi, hS, hj⟩
  unfold m18_6
  refine builtin_ok (len28 _) ?_
  refine valP_ok (lss_ok _ _ _ _ _ _ _) ?_
  unfold m18_11
  refine cond_split (fun h => ?_) (fun h => ?_)
  · have hlt : i < a.length := by omega
    have hltb : i < b.length := by omega
    have rA := hA.rd hS
    have rB := hB.rd hS
    obtain ⟨g, o, rfl⟩ := rA.some_ (by omega) (by omega)
    obtain ⟨g', o', rfl⟩ := rB.some_ (by omega) (by omega)
    obtain ⟨a0, a1, a2⟩ := Rd.tally rA hlt
    obtain ⟨b0, b1, b2⟩ := Rd.tally rB hltb
    unfold m18_7
    refine valQ_ok (ix28 hlt) ?_
    refine valQ_at (fun n => ld45 (cellD a0 n) (cellD a1 n) (cellD a2 n)) ?_
    refine valQ_ok (ix28 hltb) ?_
    refine valQ_at (fun n => ld45 (cellD b0 n) (cellD b1 n) (cellD b2 n)) ?_
    refine valQ_ok (ne45 _ _ _ _ _ _ _ _) ?_
    refine drawn_ok hS ?_
    intro w hS
    unfold m18_9
    refine cond_split (fun hk => ?_) (fun hk => ?_)
    · unfold m18_10
      refine ⟨?_, hS⟩
      rw [decide_eq_false]
      rintro rfl
      exact hk ⟨rfl, rfl, rfl⟩
    · unfold m18_8
      refine valP_ok (add_ok _ _ _ (by omega) (by omega) _) ?_
      refine ⟨⟨i + 1, rfl, by omega, hS, fun j h1 h2 hji => ?_⟩, by simp [intOf]; omega⟩
      by_cases e : j = i
      · subst e
        obtain ⟨e1, e2, e3⟩ := Decidable.not_not.1 hk
        generalize a[j] = x at *
        generalize b[j] = y at *
        cases x; cases y
        simp only at e1 e2 e3
        subst e1; subst e2; subst e3; rfl
      · exact hj j h1 h2 (by omega)
  · unfold m18_3 m18_4
    exact ⟨by rw [decide_eq_true (List.ext_getElem hab fun j h1 h2 => hj j h1 h2 (by omega))], hS⟩
/-- How many may be counted, behind any number. -/
def manyI (most : Int) : Int := 1 + ((most.tmod 16) + 16).tmod 16
theorem manyI_in (most : Int) : 1 ≤ manyI most ∧ manyI most ≤ 16 := by
  unfold manyI
  have h1 := tmod_in most (show (0 : Int) < 16 by omega)
  generalize most.tmod 16 = a at *
  have h2 := tmod_in (a + 16) (show (0 : Int) < 16 by omega)
  have h3 := Int.tmod_nonneg 16 (show 0 ≤ a + 16 by omega)
  omega
/-- The tallies behind keys. -/
abbrev madeL (most : Int) (l : List Int) : List Ta := addAll (manyI most) [] l
theorem HOk.start {most : Int} (h1 : 1 ≤ most) (h2 : most ≤ 64) : HOk most 0 [] := ⟨h1, h2, by simp; omega, by omega, by omega, by simp, .nil⟩
theorem HOk.all {most n : Int} {l : List Ta} (h : HOk most n l) (keys : List Int) (hn : n + keys.length ≤ 1099511627776) : HOk most (n + keys.length) (addAll most l keys) := by
  induction keys generalizing n l with
  | nil => simpa [addAll] using h
  | cons k keys ih =>
    simp only [List.length_cons] at hn ⊢
    have := ih (h.one (by omega) k) (by omega)
    unfold addAll at this ⊢
    rw [List.foldl_cons, show n + ((keys.length + 1 : Nat) : Int) = n + 1 + keys.length by omega]
    exact this
theorem made_ret {w0 w : World} {F : List Nat} {L : List Res} {most : Int} {A : Option Addr} {c : Nat} {l : List Int} (hm : -9223372036854775808 ≤ most) (hm' : most ≤ 9223372036854775807) (hl : l.length ≤ 400) (hS : St w0 F w L) (hk : Bes w0 F L 1 A l.length (ints l)) :
    Ret Try.prog 21 #[.int .i64 most, .slice A l.length c] w fun v w' => ∃ b A' c', v = .pointer (some ⟨b, 0, none⟩) ∧ HOk (manyI most) l.length (madeL most l) ∧
      St w0 F w' (hcl b (manyI most) l.length (.slice A' (madeL most l).length c') :: hrow (.slice A' (madeL most l).length c') (madeL most l) :: L) := by
  have hin := manyI_in most
  have q1 := tmod_in most (show (0 : Int) < 16 by omega)
  have q2 := tmod_in (most.tmod 16 + 16) (show (0 : Int) < 16 by omega)
  refine s21 _ _ ?_
  unfold m21
  unfold m21_0
  unfold m21_1
  refine valP_ok (remt_ok hm hm' (by omega) (by omega) _) ?_
  refine valP_ok (add_ok _ _ _ (by omega) (by omega) _) ?_
  refine valP_ok (remt_ok (by omega) (by omega) (by omega) (by omega) _) ?_
  refine valP_ok (add_ok _ _ _ (by omega) (by omega) _) ?_
  refine callR (by kernel_rfl) (new_ret (most := manyI most) hS) ?_
  intro v w hv
  rw [if_neg (by omega)] at hv
  obtain ⟨b, rfl, hS⟩ := hv
  refine valP_ok (extract_ok _ 0 rfl _) ?_
  refine valP_ok (extract_ok _ 1 rfl _) ?_
  unfold m21_2
  refine valP_ok (ne25 _ _ _ _ _) ?_
  unfold m21_6
  refine cond_df (by simp) ?_
  unfold m21_3
  refine callR (by kernel_rfl) (add_ret (l := []) (keys := l) hS (HOk.start (by omega) (by omega)) hk (by omega)) ?_
  intro v w hv
  rw [if_neg (by omega)] at hv
  obtain ⟨rfl, A', c', hS⟩ := hv
  unfold m21_4 m21_5
  rw [Int.zero_add] at hS
  have hok := (HOk.start (most := manyI most) (by omega) (by omega)).all l (by omega)
  rw [Int.zero_add] at hok
  exact ⟨b, A', c', rfl, hok, hS⟩

end Go.Proofs.Ytcfdalmnhgiaeaa.M
