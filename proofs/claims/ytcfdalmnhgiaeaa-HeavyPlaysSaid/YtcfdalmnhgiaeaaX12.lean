/- A copy is alike, and goes its own way. -/
import Derived.Test.YtcfdalmnhgiaeaaX11
namespace Go.Proofs.Ytcfdalmnhgiaeaa.M
open Go.Proofs.Ytcfdalmnhgiaeaa.F Go.RowKit
set_option linter.unusedVariables false
set_option linter.unusedSimpArgs false
set_option maxRecDepth 100000
set_option maxHeartbeats 2000000
attribute [local irreducible] Res.cells Res.row Res.map Res.any World.cell? World.frozen? Instr.fieldAt Instr.loadAt Instr.storeAt Instr.indexAt Instr.lookup Instr.mapUpdate Instr.box Instr.build Instr.buildSlice Instr.extract Instr.alloc Instr.field Instr.index Instr.sliceAt Instr.makeSlice Instr.makeMap Instr.makeFunc binS Op.unary Sem.run
theorem perm4 (a b c d : Res) (L : List Res) : (a :: b :: c :: d :: L).Perm (c :: d :: a :: b :: L) := by
  have : ([a, b] ++ ([c, d] ++ L)).Perm ([c, d] ++ ([a, b] ++ L)) := by
    rw [← List.append_assoc, ← List.append_assoc]
    exact List.perm_append_comm.append_right L
  exact this
theorem copies_ret {w : World} {A B : Option Addr} {c d : Nat} {l r : List Int} {most : Int} (hm : -9223372036854775808 ≤ most) (hm' : most ≤ 9223372036854775807) (hc : l.length ≤ c) (hd : r.length ≤ d) (hr : Rd w 1 A l.length (ints l)) (hrr : Rd w 1 B r.length (ints r)) :
    Ret Try.prog 8 #[.int .i64 most, .slice A l.length c, .slice B r.length d] w fun v w' => v = .bool true ∧ Below w.heap.size w w' := by
  refine s8 _ _ _ ?_
  unfold m8 m8_0
  unfold m8_1
  refine callR (by kernel_rfl) (some_ret A c l w hc) ?_
  rintro v w ⟨rfl, rfl⟩
  refine callR (by kernel_rfl) (some_ret B d r w hd) ?_
  rintro v w ⟨rfl, rfl⟩
  have hS := St.start w
  have hr := Rd.take_ints hr 400
  have hl : (l.take 400).length ≤ 400 := by rw [List.length_take]; omega
  have hrr := Rd.take_ints hrr 400
  have hl2 : (r.take 400).length ≤ 400 := by rw [List.length_take]; omega
  generalize l.take 400 = l at hr hl ⊢
  generalize r.take 400 = r at hrr hl2 ⊢
  have hin := manyI_in most
  unfold m8_2
  refine callR (by kernel_rfl) (made_ret hm hm' hl hS (Bes.of_old0 hr)) ?_
  rintro v w1 ⟨b, A1, c1, rfl, hok, hS⟩
  unfold m8_3
  first | refine valP_ok (eq24n _ _ _) ?_ | refine valP_ok (eq24s _ _ _ _) ?_
  unfold m8_14
  refine cond_f rfl ?_
  unfold m8_4
  refine callR (by kernel_rfl) (top_ret 64 hok hS) ?_
  rintro v w4 ⟨A2, c2, rfl, hS⟩
  rw [topL_all hok] at hS ⊢
  have hTl : (topL (madeL most l)).length ≤ 64 := by have := hok.len; rw [(topL_perm _).length_eq]; omega
  have hS := hS.perm (perm3 _ _ _ _)
  unfold m8_5
  refine callR (by kernel_rfl) (copy_ret hok hS) ?_
  rintro v w5 ⟨b', A3, c3, rfl, hS⟩
  unfold m8_6
  first | refine valP_ok (eq24n _ _ _) ?_ | refine valP_ok (eq24s _ _ _ _) ?_
  refine cond_f rfl ?_
  refine callR (by kernel_rfl) (top_ret 64 hok hS) ?_
  rintro v w6 ⟨A4, c4, rfl, hS⟩
  rw [topL_all hok] at hS ⊢
  refine callR (by kernel_rfl) (same_ret (a := topL (madeL most l)) (b := topL (madeL most l)) (by omega) hS (Bes.of_row 0 rfl) (Bes.of_row 5 rfl)) ?_
  rintro v w7 ⟨rfl, hS⟩
  refine valP_ok (not_ok _ _) ?_
  refine pick_f rfl ?_
  refine cond_df (by simp) ?_
  have hS := hS.tail
  refine callR (by kernel_rfl) (seen_ret hS) ?_
  rintro v w8 ⟨rfl, rfl⟩
  refine callR (by kernel_rfl) (seen_ret (hS.perm (perm4 _ _ _ _ _))) ?_
  rintro v w9 ⟨rfl, rfl⟩
  refine valP_ok (ne3 _ _ _ _ _) ?_
  refine pick_df (by simp) ?_
  unfold m8_12
  refine cond_df (by simp) ?_
  unfold m8_7
  refine callR (by kernel_rfl) (add_ret (keys := r) hS hok (Bes.of_old0 hrr) (by omega)) ?_
  intro v w10 hv
  rw [if_neg (by omega)] at hv
  obtain ⟨rfl, A5, c5, hS⟩ := hv
  unfold m8_8
  unfold m8_9
  refine callR (by kernel_rfl) (count_nil _ _) ?_
  rintro v w11 ⟨rfl, rfl⟩
  refine valP_ok (extract_ok _ 0 rfl _) ?_
  refine valP_ok (extract_ok _ 1 rfl _) ?_
  have hS := hS.perm (perm4 _ _ _ _ _)
  unfold m8_10
  refine callR (by kernel_rfl) (top_ret 64 hok hS) ?_
  rintro v w12 ⟨A6, c6, rfl, hS⟩
  rw [topL_all hok] at hS ⊢
  refine callR (by kernel_rfl) (same_ret (a := topL (madeL most l)) (b := topL (madeL most l)) (by omega) hS (Bes.of_row 0 rfl) (Bes.of_row 5 rfl)) ?_
  rintro v w13 ⟨rfl, hS⟩
  have hS := hS.tail
  refine cond_dt rfl ?_
  refine callR (by kernel_rfl) (seen_ret hS) ?_
  rintro v w14 ⟨rfl, rfl⟩
  refine builtin_ok (len22 _) ?_
  refine valP_ok (eq3 _ _ _ _ _) ?_
  refine pick_dt rfl ?_
  refine cond_dt rfl ?_
  refine callR (by kernel_rfl) (seen_ret (hS.perm (perm4 _ _ _ _ _))) ?_
  rintro v w15 ⟨rfl, rfl⟩
  refine builtin_ok (len22 _) ?_
  refine builtin_ok (len22 _) ?_
  refine valP_ok (add_ok _ _ _ (by omega) (by omega) _) ?_
  refine valP_ok (eq3 _ _ _ _ _) ?_
  refine pick_dt rfl ?_
  refine cond_dt rfl ?_
  refine callR (by kernel_rfl) (add_nil _ _ _ _) ?_
  rintro v w16 ⟨rfl, rfl⟩
  refine valP_ok (eq25 _ _ _ _ _) ?_
  refine pick_dt rfl ?_
  refine cond_dt rfl ?_
  refine callR (by kernel_rfl) (seen_nil _) ?_
  rintro v w17 ⟨rfl, rfl⟩
  refine valP_ok (eq3 _ _ _ _ _) ?_
  refine pick_dt rfl ?_
  refine cond_dt rfl ?_
  refine valP_ok (eq3 _ _ _ _ _) ?_
  refine pick_dt rfl ?_
  refine cond_dt rfl ?_
  refine valP_ok (eq3 _ _ _ _ _) ?_
  refine pick_dt rfl ?_
  refine cond_dt rfl ?_
  refine callR (by kernel_rfl) (top_nil _ _) ?_
  rintro v w18 ⟨rfl, rfl⟩
  refine builtin_ok (len28 _) ?_
  refine valP_ok (eq3 _ _ _ _ _) ?_
  refine pick_dt rfl ?_
  refine cond_dt rfl ?_
  refine callR (by kernel_rfl) (copy_nil _) ?_
  rintro v w19 ⟨rfl, rfl⟩
  first | refine valP_ok (eq24n _ _ _) ?_ | refine valP_ok (eq24s _ _ _ _) ?_
  refine pick_dt rfl ?_
  refine cond_t rfl ?_
  refine callR (by kernel_rfl) (awake_ret hS) ?_
  rintro v w20 ⟨rfl, hS⟩
  refine pick_t rfl ?_
  unfold m8_11
  exact ⟨rfl, hS.below⟩

end Go.Proofs.Ytcfdalmnhgiaeaa.M
