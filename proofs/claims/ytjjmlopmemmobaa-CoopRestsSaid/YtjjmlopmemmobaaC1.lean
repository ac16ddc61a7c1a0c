/- Equal, Index, Contains at ints. -/
import Derived.Test.YtjjmlopmemmobaaC0
import Derived.Test.YtjjmlopmemmobaaMcoop0
import Derived.Test.YtjjmlopmemmobaaMcoop1
namespace Go.Proofs.Ytjjmlopmemmobaa.M
open Go.Proofs.Ytjjmlopmemmobaa.F Go.RowKit
set_option linter.unusedVariables false
set_option linter.unusedSimpArgs false
set_option maxRecDepth 100000
set_option maxHeartbeats 2000000
attribute [local irreducible] Res.cells Res.row Res.map Res.any World.cell? World.frozen? Instr.fieldAt Instr.loadAt Instr.storeAt Instr.indexAt Instr.lookup Instr.mapUpdate Instr.box Instr.build Instr.buildSlice Instr.extract Instr.alloc Instr.field Instr.index Instr.sliceAt Instr.makeSlice Instr.makeMap Instr.makeFunc binS Op.unary Sem.run
open Go.Proofs.Ytjjmlopmemmobaa.L Go.Shelf
theorem equal_ret {w0 w : World} {F : List Nat} {L : List Res} {A B : Option Addr} {c d : Nat} {a b : List Int} (hl : a.length ≤ 1000000) (hS : St w0 F w L) (hA : Bes w0 F L 1 A a.length (ints a)) (hB : Bes w0 F L 1 B b.length (ints b)) :
    Ret Try.prog 56 #[.slice A a.length c, .slice B b.length d] w fun v w' => v = .bool (decide (a = b)) ∧ St w0 F w' L := by
  refine s56 _ _ ?_
  unfold m56
  unfold m56_0
  unfold m56_1
  refine builtin_ok (len28 _) ?_
  refine builtin_ok (len28 _) ?_
  refine valP_ok (ne3 _ _ _ _ _) ?_
  unfold m56_13
  refine cond_split (fun h => ?_) (fun h => ?_)
  · unfold m56_14
    exact ⟨by rw [decide_eq_false (fun e => h (by rw [e]))], hS⟩
  have hlen : a.length = b.length := by omega
  unfold m56_2
  refine builtin_ok (len28 _) ?_
  unfold m56_5
  refine loop_in (fun s w' => ∃ i : Nat, s = .int .i64 i ∧ i ≤ a.length ∧ a.take i = b.take i ∧ St w0 F w' L) (fun s _ => a.length - (intOf s).toNat) ⟨0, rfl, by omega, by simp, hS⟩ ?_
  clear hS
  rintro s w ⟨i, rfl, hi, hp, hS⟩
  unfold m56_6
  refine valP_ok (lss_ok _ _ _ _ _ _ _) ?_
  unfold m56_7
  refine cond_split (fun h => ?_) (fun h => ?_)
  · have ha : i < a.length := by omega
    have hb : i < b.length := by omega
    have h1 := hA.rd hS
    have h2 := hB.rd hS
    obtain ⟨g, o, rfl⟩ := h1.some_ (by omega) (by omega)
    obtain ⟨g2, o2, rfl⟩ := h2.some_ (by omega) (by omega)
    have hc1 := h1.cell_ (ints_get ha)
    have hc2 := h2.cell_ (ints_get hb)
    unfold m56_8
    unfold m56_10
    first | refine valQ_ok (ixz28 (by first | assumption | omega)) ?_ | refine valQ_ok (ix28 (by first | assumption | omega)) ?_
    first | refine valQ_load ld3 (hS.cell 0 rfl rfl) ?_ | refine valQ_load ld3 (hS.cell 1 rfl rfl) ?_ | refine valQ_load ld3 (hS.cell 2 rfl rfl) ?_ | refine valQ_load ld3 (hS.cell 3 rfl rfl) ?_ | refine valQ_load ld3 (hS.cell 4 rfl rfl) ?_ | refine valQ_load ld3 (by assumption) ?_
    first | refine valQ_ok (ixz28 (by first | assumption | omega)) ?_ | refine valQ_ok (ix28 (by first | assumption | omega)) ?_
    first | refine valQ_load ld3 (hS.cell 0 rfl rfl) ?_ | refine valQ_load ld3 (hS.cell 1 rfl rfl) ?_ | refine valQ_load ld3 (hS.cell 2 rfl rfl) ?_ | refine valQ_load ld3 (hS.cell 3 rfl rfl) ?_ | refine valQ_load ld3 (hS.cell 4 rfl rfl) ?_ | refine valQ_load ld3 (by assumption) ?_
    refine valQ_ok (ne3 _ _ _ _) ?_
    refine drawn_ok hS ?_
    intro w hS
    unfold m56_11
    refine cond_split (fun e => ?_) (fun e => ?_)
    · unfold m56_12
      refine ⟨?_, hS⟩
      rw [decide_eq_false]
      intro h
      subst h
      exact e rfl
    · unfold m56_9
      refine valP_ok (add_ok _ _ _ (by omega) (by omega) _) ?_
      refine ⟨⟨i + 1, rfl, by omega, ?_, hS⟩, by simp [intOf]; omega⟩
      rw [List.take_succ_eq_append_getElem ha, List.take_succ_eq_append_getElem hb, hp]
      congr 2
      omega
  · have hi2 : i = a.length := by omega
    unfold m56_3 m56_4
    refine ⟨?_, hS⟩
    rw [decide_eq_true]
    rw [hi2, List.take_length, hlen, List.take_length] at hp
    exact hp
theorem index_ret (A : Option Addr) (c : Nat) (l : List Int) (key : Int) (w : World) (hr : Rd w 1 A l.length (ints l)) (hl : l.length ≤ 1000000) : Ret Try.prog 84 #[.slice A l.length c, .int .i64 key] w fun v w' => ∃ r : Int, v = .int .i64 r ∧ (0 ≤ r ↔ key ∈ l) ∧ w' = w := by
  refine s84 _ _ ?_
  unfold m84
  unfold m84_0
  unfold m84_1
  refine builtin_ok (len28 _) ?_
  unfold m84_4
  refine loop_in (fun s w' => ∃ i : Nat, s = .int .i64 i ∧ i ≤ l.length ∧ key ∉ l.take i ∧ w' = w) (fun s _ => l.length - (intOf s).toNat) ⟨0, rfl, by omega, by simp, rfl⟩ ?_
  rintro s w ⟨i, rfl, hi, hn, rfl⟩
  unfold m84_5
  refine valP_ok (lss_ok _ _ _ _ _ _ _) ?_
  unfold m84_6
  refine cond_split (fun h => ?_) (fun h => ?_)
  · have hlt : i < l.length := by omega
    obtain ⟨g, o, rfl⟩ := hr.some_ (by omega) (by omega)
    have hc := hr.cell_ (ints_get hlt)
    unfold m84_7
    unfold m84_9
    first | refine valP_ok (ixz28 (by first | assumption | omega) _) ?_ | refine valP_ok (ix28 (by first | assumption | omega) _) ?_
    first | refine valP_ok (ld3 (hS.cell 0 rfl rfl)) ?_ | refine valP_ok (ld3 (hS.cell 1 rfl rfl)) ?_ | refine valP_ok (ld3 (hS.cell 2 rfl rfl)) ?_ | refine valP_ok (ld3 (hS.cell 3 rfl rfl)) ?_ | refine valP_ok (ld3 (hS.cell 4 rfl rfl)) ?_ | refine valP_ok (ld3 (by assumption)) ?_
    refine valP_ok (eq3 _ _ _ _ _) ?_
    unfold m84_10
    refine cond_split (fun e => ?_) (fun e => ?_)
    · unfold m84_11
      exact ⟨i, rfl, ⟨fun _ => e ▸ List.getElem_mem hlt, fun _ => by omega⟩, rfl⟩
    · unfold m84_8
      refine valP_ok (add_ok _ _ _ (by omega) (by omega) _) ?_
      refine ⟨⟨i + 1, rfl, by omega, ?_, rfl⟩, by simp [intOf]; omega⟩
      rw [List.take_succ_eq_append_getElem hlt]
      intro hm
      rcases List.mem_append.1 hm with h | h
      · exact hn h
      · exact e (List.mem_singleton.1 h)
  · have hi2 : i = l.length := by omega
    rw [hi2, List.take_length] at hn
    unfold m84_2 m84_3
    exact ⟨-1, rfl, ⟨fun h => absurd h (by omega), fun h => absurd h hn⟩, rfl⟩
theorem contains_ret (A : Option Addr) (c : Nat) (l : List Int) (key : Int) (w : World) (hr : Rd w 1 A l.length (ints l)) (hl : l.length ≤ 1000000) : Ret Try.prog 57 #[.slice A l.length c, .int .i64 key] w fun v w' => v = .bool (decide (key ∈ l)) ∧ w' = w := by
  refine s57 _ _ ?_
  unfold m57 m57_0
  unfold m57_1
  refine callR (by kernel_rfl) (index_ret A c l key w hr hl) ?_
  rintro v w ⟨r, rfl, hm, rfl⟩
  refine valP_ok (geq_ok _ _ _ _ _ _ _) ?_
  unfold m57_2
  refine ⟨?_, rfl⟩
  by_cases h : key ∈ l
  · rw [decide_eq_true (hm.2 h), decide_eq_true h]
  · rw [decide_eq_false (fun x => h (hm.1 x)), decide_eq_false h]

end Go.Proofs.Ytjjmlopmemmobaa.M
