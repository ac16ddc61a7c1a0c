/- What one that counts tells. -/
import Derived.Test.YtcfdalmnhgiaeaaX3
namespace Go.Proofs.Ytcfdalmnhgiaeaa.M
open Go.Proofs.Ytcfdalmnhgiaeaa.F Go.RowKit
set_option linter.unusedVariables false
set_option linter.unusedSimpArgs false
set_option maxRecDepth 100000
set_option maxHeartbeats 2000000
attribute [local irreducible] Res.cells Res.row Res.map Res.any World.cell? World.frozen? Instr.fieldAt Instr.loadAt Instr.storeAt Instr.indexAt Instr.lookup Instr.mapUpdate Instr.box Instr.build Instr.buildSlice Instr.extract Instr.alloc Instr.field Instr.index Instr.sliceAt Instr.makeSlice Instr.makeMap Instr.makeFunc binS Op.unary Sem.run
theorem seen_ret {w0 w : World} {F : List Nat} {L : List Res} {b : Nat} {most n : Int} {v : Value} (hS : St w0 F w (hcl b most n v :: L)) :
    Ret Try.prog 17 #[.pointer (some ⟨b, 0, none⟩)] w fun u w' => u = .int .i64 n ∧ w' = w := by
  refine s17 _ ?_
  unfold m17
  unfold m17_0
  unfold m17_1
  first | refine valP_ok (eq24n _ _ _) ?_ | refine valP_ok (eq24s _ _ _ _) ?_
  unfold m17_4
  refine cond_f rfl ?_
  unfold m17_2
  refine nil_ok ?_
  first | refine valP_ok (fa52_1 _ _) ?_ | refine valP_ok (fao52_1 _ _ _) ?_
  first | refine valP_ok (ld3 (hS.cell 0 rfl rfl)) ?_ | refine valP_ok (ld3 (hS.cell 1 rfl rfl)) ?_ | refine valP_ok (ld3 (hS.cell 2 rfl rfl)) ?_ | refine valP_ok (ld3 (hS.cell 3 rfl rfl)) ?_ | refine valP_ok (ld3 (hS.cell 4 rfl rfl)) ?_ | refine valP_ok (ld3 (by assumption)) ?_
  unfold m17_3
  exact ⟨rfl, rfl⟩
/-- How often a key came, at the least and at the most. -/
def countI (most : Int) (l : List Ta) (key : Int) : Int × Int :=
  match l.findIdx? (fun t => t.key = key) with
  | some i => (l[i]!.n - l[i]!.over, l[i]!.n)
  | none => if (l.length : Int) < most then (0, 0) else (0, l[lightIx l]!.n)
theorem count_ret {w0 w : World} {F : List Nat} {L : List Res} {b : Nat} {most n key : Int} {A : Option Addr} {c : Nat} {l : List Ta} (hok : HOk most n l) (hS : St w0 F w (hcl b most n (.slice A l.length c) :: hrow (.slice A l.length c) l :: L)) :
    Ret Try.prog 15 #[.pointer (some ⟨b, 0, none⟩), .int .i64 key] w fun v w' => v = .tuple #[.int .i64 (countI most l key).1, .int .i64 (countI most l key).2] ∧ St w0 F w' (hcl b most n (.slice A l.length c) :: hrow (.slice A l.length c) l :: L) := by
  obtain ⟨h1, h2, h3, h4, h5, h6, h7⟩ := hok
  refine s15 _ _ ?_
  unfold m15
  unfold m15_0
  unfold m15_1
  first | refine valP_ok (eq24n _ _ _) ?_ | refine valP_ok (eq24s _ _ _ _) ?_
  unfold m15_11
  refine cond_f rfl ?_
  unfold m15_2
  refine callR (by kernel_rfl) (find_ret (by omega) hS) ?_
  rintro v w ⟨rfl, hS⟩
  unfold m15_8
  refine valP_ok (geq_ok _ _ _ _ _ _ _) ?_
  unfold m15_9
  rcases findI_cases l key with ⟨j, hj, hf, hkey, hbef⟩ | ⟨hf, hnone⟩
  · rw [hf]
    have hc : countI most l key = (l[j].n - l[j].over, l[j].n) := by
      unfold countI
      rw [List.findIdx?_eq_some_iff_getElem.2 ⟨hj, by simpa using hkey, fun q hq => by simpa using hbef q (by omega) hq⟩]
      simp only
      rw [getElem!_pos l j hj]
    have hm := h6 l[j] (List.getElem_mem hj)
    rw [hc]
    obtain ⟨g, rfl⟩ := hS.row_ptr 1 rfl (by omega)
    obtain ⟨t0, t1, t2⟩ := tally_at 1 hS rfl hj
    refine cond_dt (by omega) ?_
    refine nil_ok ?_
    first | refine valQ_ok (fa52_2 _) ?_ | refine valQ_ok (fao52_2 _ _) ?_
    first | refine valQ_load ld28 (hS.cell 0 rfl rfl) ?_ | refine valQ_load ld28 (hS.cell 1 rfl rfl) ?_ | refine valQ_load ld28 (hS.cell 2 rfl rfl) ?_ | refine valQ_load ld28 (hS.cell 3 rfl rfl) ?_ | refine valQ_load ld28 (hS.cell 4 rfl rfl) ?_ | refine valQ_load ld28 (by assumption) ?_
    refine valQ_ok (ixz28 hj) ?_
    first | refine valQ_ok (fa45_1 _) ?_ | refine valQ_ok (fao45_1 _ _) ?_
    first | refine valQ_load ld3 (hS.cell 0 rfl rfl) ?_ | refine valQ_load ld3 (hS.cell 1 rfl rfl) ?_ | refine valQ_load ld3 (hS.cell 2 rfl rfl) ?_ | refine valQ_load ld3 (hS.cell 3 rfl rfl) ?_ | refine valQ_load ld3 (hS.cell 4 rfl rfl) ?_ | refine valQ_load ld3 (by assumption) ?_
    refine nil_ok ?_
    first | refine valQ_ok (fa52_2 _) ?_ | refine valQ_ok (fao52_2 _ _) ?_
    first | refine valQ_load ld28 (hS.cell 0 rfl rfl) ?_ | refine valQ_load ld28 (hS.cell 1 rfl rfl) ?_ | refine valQ_load ld28 (hS.cell 2 rfl rfl) ?_ | refine valQ_load ld28 (hS.cell 3 rfl rfl) ?_ | refine valQ_load ld28 (hS.cell 4 rfl rfl) ?_ | refine valQ_load ld28 (by assumption) ?_
    refine valQ_ok (ixz28 hj) ?_
    first | refine valQ_ok (fa45_2 _) ?_ | refine valQ_ok (fao45_2 _ _) ?_
    first | refine valQ_load ld3 (hS.cell 0 rfl rfl) ?_ | refine valQ_load ld3 (hS.cell 1 rfl rfl) ?_ | refine valQ_load ld3 (hS.cell 2 rfl rfl) ?_ | refine valQ_load ld3 (hS.cell 3 rfl rfl) ?_ | refine valQ_load ld3 (hS.cell 4 rfl rfl) ?_ | refine valQ_load ld3 (by assumption) ?_
    refine valQ_ok (sub_ok _ _ _ (by omega) (by omega)) ?_
    refine nil_ok ?_
    first | refine valQ_ok (fa52_2 _) ?_ | refine valQ_ok (fao52_2 _ _) ?_
    first | refine valQ_load ld28 (hS.cell 0 rfl rfl) ?_ | refine valQ_load ld28 (hS.cell 1 rfl rfl) ?_ | refine valQ_load ld28 (hS.cell 2 rfl rfl) ?_ | refine valQ_load ld28 (hS.cell 3 rfl rfl) ?_ | refine valQ_load ld28 (hS.cell 4 rfl rfl) ?_ | refine valQ_load ld28 (by assumption) ?_
    refine valQ_ok (ixz28 hj) ?_
    first | refine valQ_ok (fa45_1 _) ?_ | refine valQ_ok (fao45_1 _ _) ?_
    first | refine valQ_load ld3 (hS.cell 0 rfl rfl) ?_ | refine valQ_load ld3 (hS.cell 1 rfl rfl) ?_ | refine valQ_load ld3 (hS.cell 2 rfl rfl) ?_ | refine valQ_load ld3 (hS.cell 3 rfl rfl) ?_ | refine valQ_load ld3 (hS.cell 4 rfl rfl) ?_ | refine valQ_load ld3 (by assumption) ?_
    refine drawn_ok hS ?_
    intro w hS
    unfold m15_10
    exact ⟨rfl, hS⟩
  · rw [hf]
    have hnf : l.findIdx? (fun t => t.key = key) = none := List.findIdx?_eq_none_iff.2 fun t ht => by
      obtain ⟨q, hq, rfl⟩ := List.mem_iff_getElem.1 ht
      simpa using hnone q hq
    refine cond_df (by omega) ?_
    unfold m15_3
    refine nil_ok ?_
    first | refine valQ_ok (fa52_2 _) ?_ | refine valQ_ok (fao52_2 _ _) ?_
    first | refine valQ_load ld28 (hS.cell 0 rfl rfl) ?_ | refine valQ_load ld28 (hS.cell 1 rfl rfl) ?_ | refine valQ_load ld28 (hS.cell 2 rfl rfl) ?_ | refine valQ_load ld28 (hS.cell 3 rfl rfl) ?_ | refine valQ_load ld28 (hS.cell 4 rfl rfl) ?_ | refine valQ_load ld28 (by assumption) ?_
    refine builtinQ_ok (len28) ?_
    refine nil_ok ?_
    first | refine valQ_ok (fa52_0 _) ?_ | refine valQ_ok (fao52_0 _ _) ?_
    first | refine valQ_load ld3 (hS.cell 0 rfl rfl) ?_ | refine valQ_load ld3 (hS.cell 1 rfl rfl) ?_ | refine valQ_load ld3 (hS.cell 2 rfl rfl) ?_ | refine valQ_load ld3 (hS.cell 3 rfl rfl) ?_ | refine valQ_load ld3 (hS.cell 4 rfl rfl) ?_ | refine valQ_load ld3 (by assumption) ?_
    refine valQ_ok (lss_ok _ _ _ _ _ _) ?_
    refine drawn_ok hS ?_
    intro w hS
    unfold m15_6
    by_cases hroom : (l.length : Int) < most
    · have hc : countI most l key = (0, 0) := by unfold countI; rw [hnf]; simp only; rw [if_pos hroom]
      rw [hc]
      refine cond_dt hroom ?_
      unfold m15_7
      exact ⟨rfl, hS⟩
    · have hlt2 : lightIx l < l.length := lightIx_lt (by omega)
      have hc : countI most l key = (0, l[lightIx l].n) := by unfold countI; rw [hnf]; simp only; rw [if_neg hroom, getElem!_pos l _ hlt2]
      rw [hc]
      refine cond_df hroom ?_
      unfold m15_4
      refine drawn_ok hS ?_
      intro w hS
      refine nil_ok ?_
      first | refine pureP_ok (fa52_2 _) ?_ | refine pureP_ok (fao52_2 _ _) ?_
      refine ⟨?_, ?_⟩
      · first | refine valP_ok (ld28 (hS.cell 0 rfl rfl)) ?_ | refine valP_ok (ld28 (hS.cell 1 rfl rfl)) ?_ | refine valP_ok (ld28 (hS.cell 2 rfl rfl)) ?_ | refine valP_ok (ld28 (hS.cell 3 rfl rfl)) ?_ | refine valP_ok (ld28 (hS.cell 4 rfl rfl)) ?_ | refine valP_ok (ld28 (by assumption)) ?_
        refine callR (by kernel_rfl) (light_ret (by omega) hS) ?_
        rintro v w ⟨rfl, hS⟩
        obtain ⟨g, rfl⟩ := hS.row_ptr 1 rfl (by omega)
        obtain ⟨t0, t1, t2⟩ := tally_at 1 hS rfl hlt2
        refine pureP_ok (ixz28 hlt2) ?_
        first | refine pureP_ok (fa45_1 _) ?_ | refine pureP_ok (fao45_1 _ _) ?_
        first | refine valP_ok (ld3 (hS.cell 0 rfl rfl)) ?_ | refine valP_ok (ld3 (hS.cell 1 rfl rfl)) ?_ | refine valP_ok (ld3 (hS.cell 2 rfl rfl)) ?_ | refine valP_ok (ld3 (hS.cell 3 rfl rfl)) ?_ | refine valP_ok (ld3 (hS.cell 4 rfl rfl)) ?_ | refine valP_ok (ld3 (by assumption)) ?_
        unfold m15_5
        exact ⟨rfl, hS⟩
      · refine callR (by kernel_rfl) (light_ret (by omega) hS) ?_
        rintro v w ⟨rfl, hS⟩
        first | refine valP_ok (ld28 (hS.cell 0 rfl rfl)) ?_ | refine valP_ok (ld28 (hS.cell 1 rfl rfl)) ?_ | refine valP_ok (ld28 (hS.cell 2 rfl rfl)) ?_ | refine valP_ok (ld28 (hS.cell 3 rfl rfl)) ?_ | refine valP_ok (ld28 (hS.cell 4 rfl rfl)) ?_ | refine valP_ok (ld28 (by assumption)) ?_
        obtain ⟨g, rfl⟩ := hS.row_ptr 1 rfl (by omega)
        obtain ⟨t0, t1, t2⟩ := tally_at 1 hS rfl hlt2
        refine pureP_ok (ixz28 hlt2) ?_
        first | refine pureP_ok (fa45_1 _) ?_ | refine pureP_ok (fao45_1 _ _) ?_
        first | refine valP_ok (ld3 (hS.cell 0 rfl rfl)) ?_ | refine valP_ok (ld3 (hS.cell 1 rfl rfl)) ?_ | refine valP_ok (ld3 (hS.cell 2 rfl rfl)) ?_ | refine valP_ok (ld3 (hS.cell 3 rfl rfl)) ?_ | refine valP_ok (ld3 (hS.cell 4 rfl rfl)) ?_ | refine valP_ok (ld3 (by assumption)) ?_
        unfold m15_5
        exact ⟨rfl, hS⟩
theorem new_ret {w0 w : World} {F : List Nat} {L : List Res} {most : Int} (hS : St w0 F w L) :
    Ret Try.prog 10 #[.int .i64 most] w fun v w' => if most < 1 ∨ 64 < most then v = .tuple #[.pointer none, .int .i64 1] ∧ St w0 F w' L
      else ∃ b, v = .tuple #[.pointer (some ⟨b, 0, none⟩), .int .i64 0] ∧ St w0 F w' (hcl b most 0 (.slice none 0 0) :: hrow (.slice none 0 0) [] :: L) := by
  refine s10 _ ?_
  by_cases h1 : most < 1
  · unfold m10
    unfold m10_0
    unfold m10_1
    refine valP_ok (lss_ok _ _ _ _ _ _ _) ?_
    refine cond_dt h1 ?_
    first | refine pick_dt (by first | assumption | omega) ?_ | refine pick_df (by first | assumption | omega) ?_ | refine pick_t (by first | rfl | assumption) ?_ | refine pick_f (by first | rfl | assumption) ?_
    unfold m10_4
    refine cond_t rfl ?_
    unfold m10_5
    show ite _ _ _
    rw [if_pos (.inl h1)]
    exact ⟨rfl, hS⟩
  · unfold m10
    unfold m10_0
    unfold m10_1
    refine valP_ok (lss_ok _ _ _ _ _ _ _) ?_
    refine cond_df h1 ?_
    refine valP_ok (gtr_ok _ _ _ _ _ _ _) ?_
    first | refine pick_dt (by first | assumption | omega) ?_ | refine pick_df (by first | assumption | omega) ?_ | refine pick_t (by first | rfl | assumption) ?_ | refine pick_f (by first | rfl | assumption) ?_
    unfold m10_4
    by_cases h2 : 64 < most
    · refine cond_dt h2 ?_
      unfold m10_5
      show ite _ _ _
      rw [if_pos (.inr h2)]
      exact ⟨rfl, hS⟩
    · refine cond_df h2 ?_
      have hS := hS.row_nil 45 3
      unfold m10_2
      refine valP_ok (bd52_0 rfl _) ?_
      refine new_ok (bx52 _ _ _ _) hS ?_
      intro b12 w hS
      unfold m10_3
      show ite _ _ _
      rw [if_neg (by omega)]
      exact ⟨_, rfl, hS⟩

end Go.Proofs.Ytcfdalmnhgiaeaa.M
