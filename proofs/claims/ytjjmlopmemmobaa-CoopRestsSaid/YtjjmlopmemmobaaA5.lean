/- The laws' helpers: not too many, the same numbers, how many an owner has; the examples. -/
import Derived.Test.YtjjmlopmemmobaaA4
namespace Go.Proofs.Ytjjmlopmemmobaa.M
open Go.Proofs.Ytjjmlopmemmobaa.F Go.RowKit
set_option linter.unusedVariables false
set_option linter.unusedSimpArgs false
set_option maxRecDepth 100000
set_option maxHeartbeats 2000000
attribute [local irreducible] Res.cells Res.row Res.map Res.any World.cell? World.frozen? Instr.fieldAt Instr.loadAt Instr.storeAt Instr.indexAt Instr.lookup Instr.mapUpdate Instr.box Instr.build Instr.buildSlice Instr.extract Instr.alloc Instr.field Instr.index Instr.sliceAt Instr.makeSlice Instr.makeMap Instr.makeFunc binS Op.unary Sem.run
open Go.Proofs.Ytjjmlopmemmobaa.L Go.Shelf
theorem Rd.take_ints {w : World} {A : Option Addr} {l : List Int} (h : Rd w 1 A l.length (ints l)) (k : Nat) : Rd w 1 A (l.take k).length (ints (l.take k)) := by
  refine ⟨by simp, fun hp => ?_⟩
  have hp' : 0 < (ints l).length := by simp at hp ⊢; omega
  obtain ⟨g, o, hA, hc⟩ := h.2 hp'
  refine ⟨g, o, hA, fun j u hj => hc j u ?_⟩
  have e : ints (l.take k) = (ints l).take k := by simp [ints, List.map_take]
  rw [e, List.getElem?_take] at hj
  split at hj
  · exact hj
  · cases hj
theorem same_ret {w0 w : World} {F : List Nat} {L : List Res} {A B : Option Addr} {c d : Nat} {a b : List Int} (hl : a.length ≤ 1000000) (hS : St w0 F w L) (hA : Bes w0 F L 1 A a.length (ints a)) (hB : Bes w0 F L 1 B b.length (ints b)) :
    Ret Try.prog 32 #[.slice A a.length c, .slice B b.length d] w fun v w' => v = .bool (decide (a = b)) ∧ St w0 F w' L := by
  refine s32 _ _ ?_
  unfold m32
  unfold m32_0
  unfold m32_1
  refine builtin_ok (len28 _) ?_
  refine builtin_ok (len28 _) ?_
  refine valP_ok (ne3 _ _ _ _ _) ?_
  unfold m32_12
  refine cond_split (fun h => ?_) (fun h => ?_)
  · unfold m32_13
    exact ⟨by rw [decide_eq_false (fun e => h (by rw [e]))], hS⟩
  have hab : a.length = b.length := by omega
  unfold m32_2
  unfold m32_5
  refine loop_in (fun s w' => ∃ i : Nat, s = .int .i64 i ∧ i ≤ a.length ∧ St w0 F w' L ∧ ∀ j (h1 : j < a.length) (h2 : j < b.length), j < i → a[j] = b[j]) (fun s _ => a.length - (intOf s).toNat) ⟨0, rfl, by omega, hS, fun _ _ _ h => by omega⟩ ?_
  clear hS
  rintro s w ⟨i, rfl, hi, hS, hj⟩
  unfold m32_6
  refine builtin_ok (len28 _) ?_
  refine valP_ok (lss_ok _ _ _ _ _ _ _) ?_
  unfold m32_11
  refine cond_split (fun h => ?_) (fun h => ?_)
  · have hlt : i < a.length := by omega
    have hltb : i < b.length := by omega
    have rA := hA.rd hS
    have rB := hB.rd hS
    obtain ⟨g, o, rfl⟩ := rA.some_ (by omega) (by omega)
    obtain ⟨g', o', rfl⟩ := rB.some_ (by omega) (by omega)
    have a0 := rA.cell_ (ints_get hlt)
    have b0 := rB.cell_ (ints_get hltb)
    unfold m32_7
    refine valQ_ok (ix28 hlt) ?_
    refine valQ_load ld3 a0 ?_
    refine valQ_ok (ix28 hltb) ?_
    refine valQ_load ld3 b0 ?_
    refine valQ_ok (ne3 _ _ _ _) ?_
    refine drawn_ok hS ?_
    intro w hS
    unfold m32_9
    refine cond_split (fun hk => ?_) (fun hk => ?_)
    · unfold m32_10
      refine ⟨?_, hS⟩
      rw [decide_eq_false]
      rintro rfl
      exact hk rfl
    · unfold m32_8
      refine valP_ok (add_ok _ _ _ (by omega) (by omega) _) ?_
      refine ⟨⟨i + 1, rfl, by omega, hS, fun j h1 h2 hji => ?_⟩, by simp [intOf]; omega⟩
      by_cases e : j = i
      · subst e; exact Decidable.not_not.1 hk
      · exact hj j h1 h2 (by omega)
  · unfold m32_3 m32_4
    exact ⟨by rw [decide_eq_true (List.ext_getElem hab fun j h1 h2 => hj j h1 h2 (by omega))], hS⟩
/-- How often a number comes. -/
abbrev tm (l : List Int) (k : Int) : Int := ((l.count k : Nat) : Int)
theorem tm_take {l : List Int} {i : Nat} (hi : i < l.length) (k : Int) : tm (l.take (i + 1)) k = if l[i] = k then tm (l.take i) k + 1 else tm (l.take i) k := by
  unfold tm
  rw [List.take_succ_eq_append_getElem hi, List.count_append]
  by_cases h : l[i] = k
  · rw [if_pos h, h]; simp
  · rw [if_neg h]; simp [h]
theorem count_ret (A : Option Addr) (c : Nat) (l : List Int) (key : Int) (w : World) (hr : Rd w 1 A l.length (ints l)) (hl : l.length ≤ 1000000) : Ret Try.prog 21 #[.slice A l.length c, .int .i64 key] w fun v w' => v = .int .i64 (tm l key) ∧ w' = w := by
  refine s21 _ _ ?_
  unfold m21
  unfold m21_0
  unfold m21_1
  unfold m21_2
  unfold m21_5
  refine loop_in (fun s w' => ∃ i : Nat, s = (.int .i64 (tm (l.take i) key), .int .i64 i) ∧ i ≤ l.length ∧ w' = w) (fun s _ => l.length - (intOf s.2).toNat) ⟨0, by simp [tm], by omega, rfl⟩ ?_
  rintro s w' ⟨i, rfl, hi, rfl⟩
  unfold m21_6
  refine builtin_ok (len28 _) ?_
  refine valP_ok (lss_ok _ _ _ _ _ _ _) ?_
  unfold m21_10
  refine cond_split (fun h => ?_) (fun h => ?_)
  · have hlt : i < l.length := by omega
    obtain ⟨g, o, rfl⟩ := hr.some_ (by omega) (by omega)
    have hc := hr.cell_ (ints_get hlt)
    have hs := tm_take hlt key
    have hcl : tm (l.take i) key ≤ 1000000 := by
      have := List.count_le_length (a := key) (l := l.take i)
      rw [List.length_take] at this
      unfold tm
      omega
    have hc0 : 0 ≤ tm (l.take i) key := by unfold tm; omega
    unfold m21_7
    first | refine valP_ok (ixz28 (by first | assumption | omega) _) ?_ | refine valP_ok (ix28 (by first | assumption | omega) _) ?_
    first | refine valP_ok (ld3 (hS.cell 0 rfl rfl)) ?_ | refine valP_ok (ld3 (hS.cell 1 rfl rfl)) ?_ | refine valP_ok (ld3 (hS.cell 2 rfl rfl)) ?_ | refine valP_ok (ld3 (hS.cell 3 rfl rfl)) ?_ | refine valP_ok (ld3 (hS.cell 4 rfl rfl)) ?_ | refine valP_ok (ld3 (by assumption)) ?_
    refine valP_ok (eq3 _ _ _ _ _) ?_
    unfold m21_9
    refine cond_split (fun hk => ?_) (fun hk => ?_)
    · rw [if_pos hk] at hs
      refine valP_ok (add_ok _ _ _ (by omega) (by omega) _) ?_
      unfold m21_8
      refine valP_ok (add_ok _ _ _ (by omega) (by omega) _) ?_
      exact ⟨⟨i + 1, by rw [hs]; rfl, by omega, rfl⟩, by simp [intOf]; omega⟩
    · rw [if_neg hk] at hs
      unfold m21_8
      refine valP_ok (add_ok _ _ _ (by omega) (by omega) _) ?_
      exact ⟨⟨i + 1, by rw [hs]; rfl, by omega, rfl⟩, by simp [intOf]; omega⟩
  · unfold m21_3 m21_4
    exact ⟨by rw [List.take_of_length_le (by omega)], rfl⟩
theorem has_ret (A : Option Addr) (c : Nat) (l : List Int) (key : Int) (w : World) (hr : Rd w 1 A l.length (ints l)) (hl : l.length ≤ 1000000) : Ret Try.prog 102 #[.slice A l.length c, .int .i64 key] w fun v w' => v = .bool (decide (key ∈ l)) ∧ w' = w := by
  refine s102 _ _ ?_
  unfold m102
  unfold m102_0
  unfold m102_1
  refine callR (by kernel_rfl) (count_ret A c l key w hr hl) ?_
  rintro v w ⟨rfl, rfl⟩
  refine valP_ok (gtr_ok _ _ _ _ _ _ _) ?_
  unfold m102_2
  refine ⟨?_, rfl⟩
  congr 1
  apply decide_eq_decide.2
  unfold tm
  rw [← List.count_pos_iff (a := key) (l := l)]
  omega

end Go.Proofs.Ytjjmlopmemmobaa.M
