/- Each has a share, and none differs from another one by more than one. -/
import Derived.Test.YtlgafiekogajfaaA14
namespace Go.Proofs.Ytlgafiekogajfaa.M
open Go.Proofs.Ytlgafiekogajfaa.F Go.RowKit
set_option linter.unusedVariables false
set_option linter.unusedSimpArgs false
set_option maxRecDepth 100000
set_option maxHeartbeats 2000000
attribute [local irreducible] Res.cells Res.row Res.map Res.any World.cell? World.frozen? Instr.fieldAt Instr.loadAt Instr.storeAt Instr.indexAt Instr.lookup Instr.mapUpdate Instr.box Instr.build Instr.buildSlice Instr.extract Instr.alloc Instr.field Instr.index Instr.sliceAt Instr.makeSlice Instr.makeMap Instr.makeFunc binS Op.unary Sem.run
open Go.Proofs.Ytlgafiekogajfaa.L Go.Shelf
theorem tot_take {M : List Int} {f : Int → Int} {i : Nat} (hi : i < M.length) : tot (M.take (i + 1)) f = tot (M.take i) f + f M[i] := by
  unfold tot
  rw [List.take_succ_eq_append_getElem hi, List.map_append, List.sum_append]
  simp
theorem fair_ret {w0 w : World} {F : List Nat} {L : List Res} {A B : Option Addr} {c d : Nat} {a zs : List Int} {parts : Int} (hnb : ¬ badParts parts) (hS : St w0 F w L) (hA : Bes w0 F L 1 A a.length (ints a)) (hI : Bes w0 F L 1 B zs.length (ints zs)) (hz : zs.length ≤ 1000)
    (hf : ((membersL zs).length = 0 ∧ a = List.replicate parts.toNat 0) ∨ (0 < (membersL zs).length ∧ Fair parts (membersL zs) a)) :
    Ret Try.prog 17 #[.slice A a.length c, .slice B zs.length d, .int .i64 parts] w fun v w' => v = .bool true ∧ St w0 F w' L := by
  have hp : 1 ≤ parts ∧ parts ≤ 64 := by unfold badParts at hnb; omega
  have hal : a.length = parts.toNat := by
    rcases hf with ⟨_, h⟩ | ⟨_, h⟩
    · rw [h]; simp
    · exact h.len
  refine s17 _ _ _ ?_
  unfold m17
  unfold m17_0
  unfold m17_1
  refine callR (by kernel_rfl) (members_ret hz hS hI) ?_
  rintro v w ⟨A1, c1, rfl, hS⟩
  have hMl : (membersL zs).length ≤ 1000 := by have := membersL_len zs; omega
  have hspec := membersL_spec zs
  have hM1 : ∀ x ∈ membersL zs, 0 < x := fun x hx => ((hspec.2 x).1 hx).2
  have hrise := hspec.1
  generalize membersL zs = M at *
  unfold m17_2
  refine builtin_ok (len22 _) ?_
  refine valP_ok (ne3 _ _ _ _ _) ?_
  unfold m17_19
  refine cond_df (by omega) ?_
  unfold m17_3
  refine builtin_ok (len22 _) ?_
  refine valP_ok (eq3 _ _ _ _ _) ?_
  unfold m17_17
  rcases hf with ⟨h0, h⟩ | ⟨h0, h⟩
  · refine cond_dt (by omega) ?_
    refine callR (by kernel_rfl) (count_ret A c a 0 _ (hA.rd1 hS) (by omega)) ?_
    rintro v w ⟨rfl, rfl⟩
    refine valP_ok (eq3 _ _ _ _ _) ?_
    unfold m17_18
    refine ⟨?_, hS.tail⟩
    have e : tm a 0 = parts := by rw [h]; unfold tm; rw [List.count_replicate]; simp; omega
    rw [e, decide_eq_true rfl]
  · refine cond_df (by omega) ?_
    have eb : baseI parts M = parts / M.length := by unfold baseI; rw [if_neg (by omega)]
    have hnum := share_nums (M := M) hnb
    have htot : tot M (tm a) = parts := by
      have := tot_tm hrise hM1 a (fun x hx => .inr (h.inM x hx))
      have hz : tm a 0 = 0 := by
        unfold tm
        rw [List.count_eq_zero.2 (fun hh => by have := hM1 0 (h.inM 0 hh); omega)]
        rfl
      omega
    unfold m17_4
    unfold m17_5
    unfold m17_8
    refine loop_in (fun s w' => ∃ i : Nat, s = (.int .i64 (tot (M.take i) (tm a)), .int .i64 i) ∧ i ≤ M.length ∧ 0 ≤ tot (M.take i) (tm a) ∧ tot (M.take i) (tm a) ≤ 65 * i ∧ St w0 F w' (irow (.slice A1 M.length c1) M :: L))
      (fun s _ => M.length - (intOf s.2).toNat) ⟨0, rfl, by omega, by simp [tot], by simp [tot], hS⟩ ?_
    clear hS
    rintro s w ⟨i, rfl, hi, ht0, ht1, hS⟩
    unfold m17_9
    refine builtin_ok (len22 _) ?_
    refine valP_ok (lss_ok _ _ _ _ _ _ _) ?_
    unfold m17_16
    refine cond_split (fun hh => ?_) (fun hh => ?_)
    · have hlt : i < M.length := by omega
      obtain ⟨g, rfl⟩ := hS.row_ptr 0 rfl (by omega)
      have hc := hS.row_cell 0 rfl (ints_get hlt)
      have hlo := h.lo _ (List.getElem_mem hlt)
      have hhi := h.hi _ (List.getElem_mem hlt)
      have hst := tot_take (f := tm a) hlt
      unfold m17_10
      refine valP_ok (ixz22 hlt _) ?_
      first | refine valP_ok (ld3 (hS.cell 0 rfl rfl)) ?_ | refine valP_ok (ld3 (hS.cell 1 rfl rfl)) ?_ | refine valP_ok (ld3 (hS.cell 2 rfl rfl)) ?_ | refine valP_ok (ld3 (hS.cell 3 rfl rfl)) ?_ | refine valP_ok (ld3 (hS.cell 4 rfl rfl)) ?_ | refine valP_ok (ld3 (by assumption)) ?_
      refine callR (by kernel_rfl) (count_ret A c a M[i] _ (hA.rd1 hS) (by omega)) ?_
      rintro v w ⟨rfl, rfl⟩
      unfold m17_12
      refine builtin_ok (len22 _) ?_
      refine valP_ok (quo_ok _ _ _ (by omega) (by omega) (by omega) _) ?_
      rw [← eb]
      refine valP_ok (ne3 _ _ _ _ _) ?_
      have fin : ∀ t : Bool, t = false → ∀ R K, (∀ w', St w0 F w' (irow (.slice (some ⟨g, 0, none⟩) M.length c1) M :: L) → K (.int .i64 (tot (M.take (i + 1)) (tm a)), .int .i64 ((i + 1 : Nat) : Int)) w') →
          m17_14 R K (.slice A a.length c) (.int .i64 parts) (.slice (some ⟨g, 0, none⟩) M.length c1) (.int .i64 (tot (M.take i) (tm a))) (.int .i64 i) (.int .i64 (tm a M[i])) (.bool t) w := fun t ht R K hK => by
        unfold m17_14
        refine cond_f ht ?_
        unfold m17_13
        refine valP_ok (add_ok _ _ _ (by omega) (by omega) _) ?_
        unfold m17_11
        refine valP_ok (add_ok _ _ _ (by omega) (by omega) _) ?_
        rw [← hst]
        exact hK _ hS
      refine cond_split (fun hne => ?_) (fun hne => ?_)
      · refine builtin_ok (len22 _) ?_
        refine valP_ok (quo_ok _ _ _ (by omega) (by omega) (by omega) _) ?_
        rw [← eb]
        refine valP_ok (add_ok _ _ _ (by omega) (by omega) _) ?_
        refine valP_ok (ne3 _ _ _ _ _) ?_
        refine pick_dt hne ?_
        exact fin _ (decide_eq_false (by omega)) _ _ (fun w' hS => ⟨⟨i + 1, rfl, by omega, by omega, by omega, hS⟩, by simp [intOf]; omega⟩)
      · first | refine pick_dt (by first | assumption | omega) ?_ | refine pick_df (by first | assumption | omega) ?_ | refine pick_t (by first | rfl | assumption) ?_ | refine pick_f (by first | rfl | assumption) ?_
        exact fin _ rfl _ _ (fun w' hS => ⟨⟨i + 1, rfl, by omega, by omega, by omega, hS⟩, by simp [intOf]; omega⟩)
    · have : i = M.length := by omega
      subst this
      rw [List.take_length, htot]
      unfold m17_6
      refine valP_ok (eq3 _ _ _ _ _) ?_
      unfold m17_7
      exact ⟨by rw [decide_eq_true rfl], hS.tail⟩

end Go.Proofs.Ytlgafiekogajfaa.M
