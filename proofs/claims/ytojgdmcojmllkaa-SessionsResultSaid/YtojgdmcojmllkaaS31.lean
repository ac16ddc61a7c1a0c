/- What a session comes to. -/
import Derived.Test.YtojgdmcojmllkaaS30
import Derived.Test.YtojgdmcojmllkaaMres0
namespace Go.Proofs.Ytojgdmcojmllkaa.M
open Go.Proofs.Ytojgdmcojmllkaa.F Go.RowKit
set_option linter.unusedVariables false
set_option linter.unusedSimpArgs false
set_option maxRecDepth 100000
set_option maxHeartbeats 2000000
attribute [local irreducible] Res.cells Res.row Res.map Res.any World.cell? World.frozen? Instr.fieldAt Instr.loadAt Instr.storeAt Instr.indexAt Instr.lookup Instr.mapUpdate Instr.box Instr.build Instr.buildSlice Instr.extract Instr.alloc Instr.field Instr.index Instr.sliceAt Instr.makeSlice Instr.makeMap Instr.makeFunc binS Op.unary Sem.run
theorem eq56 (a b c d : Int) (w : World) : (Op.equalIn 9999 56 (.agg #[.int .i64 a, .int .i64 b, .int .i64 c, .int .i64 d]) (.agg #[.int .i64 a, .int .i64 b, .int .i64 c, .int .i64 d])).run Try.prog w = .ok true w := by
  obtain ⟨i, hi⟩ := info_of_underlying Try.underlying3
  rw [run_equalIn_array w 9998 _ _ Try.underlying56 hi, show Try.prog.cellsOf 3 = 1 from by kernel_rfl]
  simp [go_sem, Op.eqItems, List.range, List.range.loop, part, isAgg]
theorem eq58 (x y : Operand) (a : Ag) (w : World) : (binS .eql 58 x y (agv a) (agv a)).run Try.prog w = .ok (.bool true) w := by
  obtain ⟨x0, x1, x2, x3, x4, x5, x6, x7, x8, x9⟩ := a
  rw [binS_run _ _ _ _ _ _ (by kernel_rfl), run_eql_struct, run_equalIn_struct w 9999 58 _ _ (by simp [Program.fieldsOf, Try.underlying58]) (by kernel_rfl)]
  simp [go_sem, Program.fieldsOf, Try.underlying58, Op.eqFields, eq56]
def foldA (l : List Ev) : Ag := l.foldl (fun a e => addAg a e.v) zA
theorem zA_ok : AgOk zA := ⟨i0, i0, i0, i0, i0, i0, i0, i0, i0, i0⟩
theorem foldA_ok : ∀ {l : List Ev} {a : Ag}, AgOk a → (∀ e ∈ l, I64 e.v) → AgOk (l.foldl (fun a e => addAg a e.v) a)
  | [], _, h, _ => h
  | e :: l, a, h, hv => foldA_ok (l := l) (a := addAg a e.v) (addAg_ok h (hv e (.head _))) fun x hx => hv x (.tail _ hx)
theorem foldA_take {l : List Ev} {i : Nat} (h : i < l.length) : foldA (l.take (i + 1)) = addAg (foldA (l.take i)) l[i].v := by
  unfold foldA
  rw [List.take_succ_eq_append_getElem h, List.foldl_append]
  rfl
abbrev resV (l : List Ev) : Value := .tuple #[.int .i64 (fT l), .int .i64 (lT l), agv (foldA l)]
section
variable {w0 w : World} {F : List Nat} {L : List Res} {key : Int} {A : Option Addr} {c : Nat} {l : List Ev}
theorem result_ret (hv : ∀ e ∈ l, I64 e.v) (hm : l.length ≤ 140737488351232) (hS : St w0 F w L) (hE : BE w0 F L A l) : Ret Try.prog 23 #[spv key A l.length c] w fun v w' => v = resV l ∧ St w0 F w' L := by
  refine s23 _ ?_
  unfold m23
  unfold m23_0
  refine new_ok (bx33 _ _ _) hS ?_
  intro b1 w hS
  refine new_ok (al58 _) hS ?_
  intro b4 w hS
  unfold m23_1
  first | refine valP_ok (fa33_1 _ _) ?_ | refine valP_ok (fao33_1 _ _ _) ?_
  first | refine valP_ok (ld31 (hS.cell 0 rfl rfl)) ?_ | refine valP_ok (ld31 (hS.cell 1 rfl rfl)) ?_ | refine valP_ok (ld31 (hS.cell 2 rfl rfl)) ?_ | refine valP_ok (ld31 (hS.cell 3 rfl rfl)) ?_ | refine valP_ok (ld31 (hS.cell 4 rfl rfl)) ?_ | refine valP_ok (ld31 (hS.cell 5 rfl rfl)) ?_ | refine valP_ok (ld31 (hS.cell 6 rfl rfl)) ?_ | refine valP_ok (ld31 (hS.cell 7 rfl rfl)) ?_ | refine valP_ok (ld31 (by assumption)) ?_
  refine builtin_ok (len31 _) ?_
  refine valP_ok (eq3 _ _ _ _ _) ?_
  unfold m23_13
  refine cond_split (fun h => ?_) (fun h => ?_)
  · have hnil : l = [] := List.eq_nil_of_length_eq_zero (by omega)
    subst hnil
    refine valP_ok (bd58 _) ?_
    first | refine ss58 0 hS rfl rfl rfl rfl rfl rfl rfl rfl rfl rfl rfl ?_ | refine ss58 1 hS rfl rfl rfl rfl rfl rfl rfl rfl rfl rfl rfl ?_ | refine ss58 2 hS rfl rfl rfl rfl rfl rfl rfl rfl rfl rfl rfl ?_ | refine ss58 3 hS rfl rfl rfl rfl rfl rfl rfl rfl rfl rfl rfl ?_ | refine ss58 4 hS rfl rfl rfl rfl rfl rfl rfl rfl rfl rfl rfl ?_ | refine ss58 5 hS rfl rfl rfl rfl rfl rfl rfl rfl rfl rfl rfl ?_ | refine ss58 6 hS rfl rfl rfl rfl rfl rfl rfl rfl rfl rfl rfl ?_ | refine ss58 7 hS rfl rfl rfl rfl rfl rfl rfl rfl rfl rfl rfl ?_
    intro w hS
    simp only [List.set_cons_zero, List.set_cons_succ] at hS
    unfold m23_14
    refine valS_ok (lc58 (hS.cell 0 rfl rfl) (hS.cell 0 rfl rfl) (hS.cell 0 rfl rfl) (hS.cell 0 rfl rfl) (hS.cell 0 rfl rfl) (hS.cell 0 rfl rfl) (hS.cell 0 rfl rfl) (hS.cell 0 rfl rfl) (hS.cell 0 rfl rfl) (hS.cell 0 rfl rfl)) ?_
    exact ⟨rfl, hS.tail.tail⟩
  · have hn : 0 < l.length := by omega
    unfold m23_2
    refine new_ok (al58 _) hS ?_
    intro b5 w hS
    unfold m23_3
    first | refine valP_ok (fa33_1 _ _) ?_ | refine valP_ok (fao33_1 _ _ _) ?_
    first | refine valP_ok (ld31 (hS.cell 0 rfl rfl)) ?_ | refine valP_ok (ld31 (hS.cell 1 rfl rfl)) ?_ | refine valP_ok (ld31 (hS.cell 2 rfl rfl)) ?_ | refine valP_ok (ld31 (hS.cell 3 rfl rfl)) ?_ | refine valP_ok (ld31 (hS.cell 4 rfl rfl)) ?_ | refine valP_ok (ld31 (hS.cell 5 rfl rfl)) ?_ | refine valP_ok (ld31 (hS.cell 6 rfl rfl)) ?_ | refine valP_ok (ld31 (hS.cell 7 rfl rfl)) ?_ | refine valP_ok (ld31 (by assumption)) ?_
    refine builtin_ok (len31 _) ?_
    unfold m23_7
    refine loop_in (fun u w' => ∃ i : Nat, u = .int .i64 (i : Int) ∧ i ≤ l.length ∧ St w0 F w' (Res.cells b5 58 (encA (foldA (l.take i))) :: Res.cells b4 58 (encA zA) :: Res.cells b1 33 [.int .i64 key, .slice A l.length c] :: L)) (fun u _ => l.length - (intOf u).toNat) ⟨0, rfl, by omega, hS⟩ ?_
    clear hS
    rintro u w ⟨i, rfl, hi, hS⟩
    unfold m23_8
    refine valP_ok (lss_ok _ _ _ _ _ _ _) ?_
    unfold m23_9
    refine cond_split (fun h1 => ?_) (fun h1 => ?_)
    · have hlt : i < l.length := by omega
      obtain ⟨b, o, rfl⟩ := (((hE.cons _).cons _).rd1 hS).some_ hn (by omega)
      have p := ev_at (((hE.cons _).cons _).rd1 hS) hlt
      unfold m23_10
      refine valP_ok (ix31 hlt _) ?_
      refine valP_ok (ld28 p.1 p.2) ?_
      refine new_ok (al28 _) hS ?_
      intro b7 w hS
      first | refine ss28 0 hS rfl rfl rfl ?_ | refine ss28 1 hS rfl rfl rfl ?_ | refine ss28 2 hS rfl rfl rfl ?_ | refine ss28 3 hS rfl rfl rfl ?_ | refine ss28 4 hS rfl rfl rfl ?_ | refine ss28 5 hS rfl rfl rfl ?_ | refine ss28 6 hS rfl rfl rfl ?_ | refine ss28 7 hS rfl rfl rfl ?_
      intro w hS
      simp only [List.set_cons_zero, List.set_cons_succ] at hS
      unfold m23_12
      first | refine ls58 0 hS rfl ?_ | refine ls58 1 hS rfl ?_ | refine ls58 2 hS rfl ?_ | refine ls58 3 hS rfl ?_ | refine ls58 4 hS rfl ?_ | refine ls58 5 hS rfl ?_ | refine ls58 6 hS rfl ?_ | refine ls58 7 hS rfl ?_ | refine valP_ok (ld58 (by assumption) (by assumption) (by assumption) (by assumption) (by assumption) (by assumption) (by assumption) (by assumption) (by assumption) (by assumption)) ?_
      first | refine valP_ok (fa28_1 _ _) ?_ | refine valP_ok (fao28_1 _ _ _) ?_
      first | refine valP_ok (ld3 (hS.cell 0 rfl rfl)) ?_ | refine valP_ok (ld3 (hS.cell 1 rfl rfl)) ?_ | refine valP_ok (ld3 (hS.cell 2 rfl rfl)) ?_ | refine valP_ok (ld3 (hS.cell 3 rfl rfl)) ?_ | refine valP_ok (ld3 (hS.cell 4 rfl rfl)) ?_ | refine valP_ok (ld3 (hS.cell 5 rfl rfl)) ?_ | refine valP_ok (ld3 (hS.cell 6 rfl rfl)) ?_ | refine valP_ok (ld3 (hS.cell 7 rfl rfl)) ?_ | refine valP_ok (ld3 (by assumption)) ?_
      refine callR (by kernel_rfl) (fadd_ret (foldA_ok zA_ok fun e he => hv e (List.mem_of_mem_take he)) (hv _ (List.getElem_mem hlt)) hS) ?_
      rintro v w ⟨rfl, hS⟩
      first | refine ss58 0 hS rfl rfl rfl rfl rfl rfl rfl rfl rfl rfl rfl ?_ | refine ss58 1 hS rfl rfl rfl rfl rfl rfl rfl rfl rfl rfl rfl ?_ | refine ss58 2 hS rfl rfl rfl rfl rfl rfl rfl rfl rfl rfl rfl ?_ | refine ss58 3 hS rfl rfl rfl rfl rfl rfl rfl rfl rfl rfl rfl ?_ | refine ss58 4 hS rfl rfl rfl rfl rfl rfl rfl rfl rfl rfl rfl ?_ | refine ss58 5 hS rfl rfl rfl rfl rfl rfl rfl rfl rfl rfl rfl ?_ | refine ss58 6 hS rfl rfl rfl rfl rfl rfl rfl rfl rfl rfl rfl ?_ | refine ss58 7 hS rfl rfl rfl rfl rfl rfl rfl rfl rfl rfl rfl ?_
      intro w hS
      simp only [List.set_cons_zero, List.set_cons_succ] at hS
      unfold m23_11
      refine valP_ok (add_ok _ _ _ (by omega) (by omega) _) ?_
      refine ⟨⟨i + 1, rfl, by omega, ?_⟩, by simp [intOf]; omega⟩
      rw [foldA_take hlt]
      exact hS.tail
    · have e : i = l.length := by omega
      subst e
      rw [List.take_length] at hS
      unfold m23_4
      first | refine ls33 0 hS rfl ?_ | refine ls33 1 hS rfl ?_ | refine ls33 2 hS rfl ?_ | refine ls33 3 hS rfl ?_ | refine ls33 4 hS rfl ?_ | refine ls33 5 hS rfl ?_ | refine ls33 6 hS rfl ?_ | refine ls33 7 hS rfl ?_ | refine valP_ok (ld33 (by assumption) (by assumption)) ?_
      refine callR (by kernel_rfl) (ends_ret hS (((hE.cons _).cons _).cons _) hn hm) ?_
      rintro v w ⟨rfl, hS⟩
      refine valP_ok (extract_ok _ 0 rfl _) ?_
      refine valP_ok (extract_ok _ 1 rfl _) ?_
      unfold m23_5
      refine drawn_ok hS ?_
      intro w hS
      refine valS_ok (ld58 (hS.cell 0 rfl rfl) (hS.cell 0 rfl rfl) (hS.cell 0 rfl rfl) (hS.cell 0 rfl rfl) (hS.cell 0 rfl rfl) (hS.cell 0 rfl rfl) (hS.cell 0 rfl rfl) (hS.cell 0 rfl rfl) (hS.cell 0 rfl rfl) (hS.cell 0 rfl rfl)) ?_
      first | refine ss58 0 hS rfl rfl rfl rfl rfl rfl rfl rfl rfl rfl rfl ?_ | refine ss58 1 hS rfl rfl rfl rfl rfl rfl rfl rfl rfl rfl rfl ?_ | refine ss58 2 hS rfl rfl rfl rfl rfl rfl rfl rfl rfl rfl rfl ?_ | refine ss58 3 hS rfl rfl rfl rfl rfl rfl rfl rfl rfl rfl rfl ?_ | refine ss58 4 hS rfl rfl rfl rfl rfl rfl rfl rfl rfl rfl rfl ?_ | refine ss58 5 hS rfl rfl rfl rfl rfl rfl rfl rfl rfl rfl rfl ?_ | refine ss58 6 hS rfl rfl rfl rfl rfl rfl rfl rfl rfl rfl rfl ?_ | refine ss58 7 hS rfl rfl rfl rfl rfl rfl rfl rfl rfl rfl rfl ?_
      intro w hS
      simp only [List.set_cons_zero, List.set_cons_succ] at hS
      unfold m23_6
      refine valS_ok (lc58 (hS.cell 1 rfl rfl) (hS.cell 1 rfl rfl) (hS.cell 1 rfl rfl) (hS.cell 1 rfl rfl) (hS.cell 1 rfl rfl) (hS.cell 1 rfl rfl) (hS.cell 1 rfl rfl) (hS.cell 1 rfl rfl) (hS.cell 1 rfl rfl) (hS.cell 1 rfl rfl)) ?_
      exact ⟨rfl, hS.tail.tail.tail⟩
theorem rresult_ret (hv : ∀ e ∈ l, I64 e.v) (hm : l.length ≤ 140737488351232) (hS : St w0 F w L) (hE : BE w0 F L A l) : Ret Try.prog 24 #[spv key A l.length c] w fun v w' => v = resV l ∧ St w0 F w' L := by
  refine s24 _ ?_
  unfold m24
  unfold m24_0
  refine new_ok (bx33 _ _ _) hS ?_
  intro b1 w hS
  refine new_ok (al58 _) hS ?_
  intro b4 w hS
  unfold m24_1
  refine valP_ok (bd58 _) ?_
  refine new_ok (al58 _) hS ?_
  intro b5 w hS
  first | refine ss58 0 hS rfl rfl rfl rfl rfl rfl rfl rfl rfl rfl rfl ?_ | refine ss58 1 hS rfl rfl rfl rfl rfl rfl rfl rfl rfl rfl rfl ?_ | refine ss58 2 hS rfl rfl rfl rfl rfl rfl rfl rfl rfl rfl rfl ?_ | refine ss58 3 hS rfl rfl rfl rfl rfl rfl rfl rfl rfl rfl rfl ?_ | refine ss58 4 hS rfl rfl rfl rfl rfl rfl rfl rfl rfl rfl rfl ?_ | refine ss58 5 hS rfl rfl rfl rfl rfl rfl rfl rfl rfl rfl rfl ?_ | refine ss58 6 hS rfl rfl rfl rfl rfl rfl rfl rfl rfl rfl rfl ?_ | refine ss58 7 hS rfl rfl rfl rfl rfl rfl rfl rfl rfl rfl rfl ?_
  intro w hS
  simp only [List.set_cons_zero, List.set_cons_succ] at hS
  unfold m24_2
  first | refine valP_ok (fa33_1 _ _) ?_ | refine valP_ok (fao33_1 _ _ _) ?_
  first | refine valP_ok (ld31 (hS.cell 0 rfl rfl)) ?_ | refine valP_ok (ld31 (hS.cell 1 rfl rfl)) ?_ | refine valP_ok (ld31 (hS.cell 2 rfl rfl)) ?_ | refine valP_ok (ld31 (hS.cell 3 rfl rfl)) ?_ | refine valP_ok (ld31 (hS.cell 4 rfl rfl)) ?_ | refine valP_ok (ld31 (hS.cell 5 rfl rfl)) ?_ | refine valP_ok (ld31 (hS.cell 6 rfl rfl)) ?_ | refine valP_ok (ld31 (hS.cell 7 rfl rfl)) ?_ | refine valP_ok (ld31 (by assumption)) ?_
  refine builtin_ok (len31 _) ?_
  refine valP_ok (eq3 _ _ _ _ _) ?_
  unfold m24_11
  refine cond_split (fun h => ?_) (fun h => ?_)
  · have hnil : l = [] := List.eq_nil_of_length_eq_zero (by omega)
    subst hnil
    refine drawn_ok hS ?_
    intro w hS
    refine valS_ok (ld58 (hS.cell 0 rfl rfl) (hS.cell 0 rfl rfl) (hS.cell 0 rfl rfl) (hS.cell 0 rfl rfl) (hS.cell 0 rfl rfl) (hS.cell 0 rfl rfl) (hS.cell 0 rfl rfl) (hS.cell 0 rfl rfl) (hS.cell 0 rfl rfl) (hS.cell 0 rfl rfl)) ?_
    first | refine ss58 0 hS rfl rfl rfl rfl rfl rfl rfl rfl rfl rfl rfl ?_ | refine ss58 1 hS rfl rfl rfl rfl rfl rfl rfl rfl rfl rfl rfl ?_ | refine ss58 2 hS rfl rfl rfl rfl rfl rfl rfl rfl rfl rfl rfl ?_ | refine ss58 3 hS rfl rfl rfl rfl rfl rfl rfl rfl rfl rfl rfl ?_ | refine ss58 4 hS rfl rfl rfl rfl rfl rfl rfl rfl rfl rfl rfl ?_ | refine ss58 5 hS rfl rfl rfl rfl rfl rfl rfl rfl rfl rfl rfl ?_ | refine ss58 6 hS rfl rfl rfl rfl rfl rfl rfl rfl rfl rfl rfl ?_ | refine ss58 7 hS rfl rfl rfl rfl rfl rfl rfl rfl rfl rfl rfl ?_
    intro w hS
    simp only [List.set_cons_zero, List.set_cons_succ] at hS
    unfold m24_12
    refine valS_ok (lc58 (hS.cell 1 rfl rfl) (hS.cell 1 rfl rfl) (hS.cell 1 rfl rfl) (hS.cell 1 rfl rfl) (hS.cell 1 rfl rfl) (hS.cell 1 rfl rfl) (hS.cell 1 rfl rfl) (hS.cell 1 rfl rfl) (hS.cell 1 rfl rfl) (hS.cell 1 rfl rfl)) ?_
    exact ⟨rfl, hS.tail.tail.tail⟩
  · have hn : 0 < l.length := by omega
    unfold m24_3 m24_6
    refine loop_in (fun u w' => ∃ i : Nat, u = .int .i64 (i : Int) ∧ i ≤ l.length ∧ St w0 F w' (Res.cells b5 58 (encA (foldA (l.take i))) :: Res.cells b4 58 (encA zA) :: Res.cells b1 33 [.int .i64 key, .slice A l.length c] :: L)) (fun u _ => l.length - (intOf u).toNat) ⟨0, rfl, by omega, hS⟩ ?_
    clear hS
    rintro u w ⟨i, rfl, hi, hS⟩
    unfold m24_7
    first | refine valP_ok (fa33_1 _ _) ?_ | refine valP_ok (fao33_1 _ _ _) ?_
    first | refine valP_ok (ld31 (hS.cell 0 rfl rfl)) ?_ | refine valP_ok (ld31 (hS.cell 1 rfl rfl)) ?_ | refine valP_ok (ld31 (hS.cell 2 rfl rfl)) ?_ | refine valP_ok (ld31 (hS.cell 3 rfl rfl)) ?_ | refine valP_ok (ld31 (hS.cell 4 rfl rfl)) ?_ | refine valP_ok (ld31 (hS.cell 5 rfl rfl)) ?_ | refine valP_ok (ld31 (hS.cell 6 rfl rfl)) ?_ | refine valP_ok (ld31 (hS.cell 7 rfl rfl)) ?_ | refine valP_ok (ld31 (by assumption)) ?_
    refine builtin_ok (len31 _) ?_
    refine valP_ok (lss_ok _ _ _ _ _ _ _) ?_
    unfold m24_10
    refine cond_split (fun h1 => ?_) (fun h1 => ?_)
    · have hlt : i < l.length := by omega
      obtain ⟨b, o, rfl⟩ := (((hE.cons _).cons _).rd1 hS).some_ hn (by omega)
      unfold m24_8
      refine drawn_ok hS ?_
      intro w hS
      refine valS_ok (ld58 (hS.cell 0 rfl rfl) (hS.cell 0 rfl rfl) (hS.cell 0 rfl rfl) (hS.cell 0 rfl rfl) (hS.cell 0 rfl rfl) (hS.cell 0 rfl rfl) (hS.cell 0 rfl rfl) (hS.cell 0 rfl rfl) (hS.cell 0 rfl rfl) (hS.cell 0 rfl rfl)) ?_
      first | refine valS_ok (fa33_1 _ _) ?_ | refine valS_ok (fao33_1 _ _ _) ?_
      first | refine valS_ok (ld31 (hS.cell 0 rfl rfl)) ?_ | refine valS_ok (ld31 (hS.cell 1 rfl rfl)) ?_ | refine valS_ok (ld31 (hS.cell 2 rfl rfl)) ?_ | refine valS_ok (ld31 (hS.cell 3 rfl rfl)) ?_ | refine valS_ok (ld31 (hS.cell 4 rfl rfl)) ?_ | refine valS_ok (ld31 (hS.cell 5 rfl rfl)) ?_ | refine valS_ok (ld31 (hS.cell 6 rfl rfl)) ?_ | refine valS_ok (ld31 (hS.cell 7 rfl rfl)) ?_ | refine valS_ok (ld31 (by assumption)) ?_
      have p := ev_at (((hE.cons _).cons _).rd1 hS) hlt
      refine valS_ok (ix31 hlt _) ?_
      refine valS_ok (fao28_1 _ _ _) ?_
      refine valS_ok (ld3 p.2) ?_
      refine callR (by kernel_rfl) (fradd_ret (foldA_ok zA_ok fun e he => hv e (List.mem_of_mem_take he)) (hv _ (List.getElem_mem hlt)) hS) ?_
      rintro v w ⟨rfl, hS⟩
      first | refine ss58 0 hS rfl rfl rfl rfl rfl rfl rfl rfl rfl rfl rfl ?_ | refine ss58 1 hS rfl rfl rfl rfl rfl rfl rfl rfl rfl rfl rfl ?_ | refine ss58 2 hS rfl rfl rfl rfl rfl rfl rfl rfl rfl rfl rfl ?_ | refine ss58 3 hS rfl rfl rfl rfl rfl rfl rfl rfl rfl rfl rfl ?_ | refine ss58 4 hS rfl rfl rfl rfl rfl rfl rfl rfl rfl rfl rfl ?_ | refine ss58 5 hS rfl rfl rfl rfl rfl rfl rfl rfl rfl rfl rfl ?_ | refine ss58 6 hS rfl rfl rfl rfl rfl rfl rfl rfl rfl rfl rfl ?_ | refine ss58 7 hS rfl rfl rfl rfl rfl rfl rfl rfl rfl rfl rfl ?_
      intro w hS
      simp only [List.set_cons_zero, List.set_cons_succ] at hS
      unfold m24_9
      refine valP_ok (add_ok _ _ _ (by omega) (by omega) _) ?_
      refine ⟨⟨i + 1, rfl, by omega, ?_⟩, by simp [intOf]; omega⟩
      rw [foldA_take hlt]
      exact hS
    · have e : i = l.length := by omega
      subst e
      rw [List.take_length] at hS
      unfold m24_4
      refine drawn_ok hS ?_
      intro w hS
      refine held_St [Res.cells b5 58 (encA (foldA l)), Res.cells b1 33 [.int .i64 key, .slice A l.length c]] hS (by simp) ?_
      refine valJ_at (fun w hw => ld33 (AllH.cell 1 rfl rfl w hw) (AllH.cell 1 rfl rfl w hw)) ?_
      refine valJ_at (fun w hw => ld33 (AllH.cell 1 rfl rfl w hw) (AllH.cell 1 rfl rfl w hw)) ?_
      refine valJ_at (fun w hw => ld58 (AllH.cell 0 rfl rfl w hw) (AllH.cell 0 rfl rfl w hw) (AllH.cell 0 rfl rfl w hw) (AllH.cell 0 rfl rfl w hw) (AllH.cell 0 rfl rfl w hw) (AllH.cell 0 rfl rfl w hw) (AllH.cell 0 rfl rfl w hw) (AllH.cell 0 rfl rfl w hw) (AllH.cell 0 rfl rfl w hw) (AllH.cell 0 rfl rfl w hw)) ?_
      refine callR (by kernel_rfl) (first_ret hS (((hE.cons _).cons _).cons _) hn) ?_
      rintro v w ⟨rfl, hS⟩
      refine stay_St hS (by simp) ?_
      refine callR (by kernel_rfl) (last_ret hS (((hE.cons _).cons _).cons _) hn hm) ?_
      rintro v w ⟨rfl, hS⟩
      refine stay_St hS (by simp) ?_
      first | refine ss58 0 hS rfl rfl rfl rfl rfl rfl rfl rfl rfl rfl rfl ?_ | refine ss58 1 hS rfl rfl rfl rfl rfl rfl rfl rfl rfl rfl rfl ?_ | refine ss58 2 hS rfl rfl rfl rfl rfl rfl rfl rfl rfl rfl rfl ?_ | refine ss58 3 hS rfl rfl rfl rfl rfl rfl rfl rfl rfl rfl rfl ?_ | refine ss58 4 hS rfl rfl rfl rfl rfl rfl rfl rfl rfl rfl rfl ?_ | refine ss58 5 hS rfl rfl rfl rfl rfl rfl rfl rfl rfl rfl rfl ?_ | refine ss58 6 hS rfl rfl rfl rfl rfl rfl rfl rfl rfl rfl rfl ?_ | refine ss58 7 hS rfl rfl rfl rfl rfl rfl rfl rfl rfl rfl rfl ?_
      intro w hS
      simp only [List.set_cons_zero, List.set_cons_succ] at hS
      refine stay_St hS (by simp) ?_
      unfold m24_5
      refine valS_ok (lc58 (hS.cell 1 rfl rfl) (hS.cell 1 rfl rfl) (hS.cell 1 rfl rfl) (hS.cell 1 rfl rfl) (hS.cell 1 rfl rfl) (hS.cell 1 rfl rfl) (hS.cell 1 rfl rfl) (hS.cell 1 rfl rfl) (hS.cell 1 rfl rfl) (hS.cell 1 rfl rfl)) ?_
      exact ⟨rfl, hS.tail.tail.tail⟩
end

end Go.Proofs.Ytojgdmcojmllkaa.M
