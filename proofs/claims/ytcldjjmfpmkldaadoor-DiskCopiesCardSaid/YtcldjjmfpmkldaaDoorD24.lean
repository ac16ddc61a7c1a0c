/- DiskCopies: a copy is alike, and goes its own way. -/
import Derived.Test.YtcldjjmfpmkldaaDoorD23
import Derived.Test.YtcldjjmfpmkldaaDoorD16
import Derived.Test.YtcldjjmfpmkldaaDoorFwL
import Derived.Test.YtcldjjmfpmkldaaDoorFwW
import Derived.Test.YtcldjjmfpmkldaaDoorFwB
import Derived.Test.YtcldjjmfpmkldaaDoorFwM
import Derived.Test.YtcldjjmfpmkldaaDoorMtrim0
import Derived.Test.YtcldjjmfpmkldaaDoorMdisk0
import Derived.Test.YtcldjjmfpmkldaaDoorMmore0
import Derived.Test.YtcldjjmfpmkldaaDoorMlaw0
import Derived.Test.YtcldjjmfpmkldaaDoorMall0
import Derived.Test.YtcldjjmfpmkldaaDoorMall1
namespace Go.Proofs.YtcldjjmfpmkldaaDoor.M
open Go.Proofs.YtcldjjmfpmkldaaDoor.F Go.RowKit
set_option linter.unusedVariables false
set_option linter.unusedSimpArgs false
set_option maxRecDepth 100000
set_option maxHeartbeats 2000000
attribute [local irreducible] Res.cells Res.row Res.map Res.any World.cell? World.frozen? Instr.fieldAt Instr.loadAt Instr.storeAt Instr.indexAt Instr.lookup Instr.mapUpdate Instr.box Instr.build Instr.buildSlice Instr.extract Instr.alloc Instr.field Instr.index Instr.sliceAt Instr.makeSlice Instr.makeMap Instr.makeFunc binS Op.unary Sem.run
section
variable {w0 w : World} {F : List Nat} {L : List Res} {l l2 : List De} {A A2 : Option Addr} {c c2 b size : Nat} {D : Dk}
theorem dcopies_ret {n : Int} (hc2 : l2.length ≤ c2) (hok2 : ∀ x ∈ l2, DeOk w0 x) (hl2 : Rd w0 6 A2 l2.length (l2.flatMap encD)) (hc : l.length ≤ c) (hok : ∀ x ∈ l, DeOk w0 x) (hl : Rd w0 6 A l.length (l.flatMap encD)) : Ret Tryd.prog 8 #[.int .i64 n, .slice A l.length c, .slice A2 l2.length c2] w0 fun v w' => v = .bool true ∧ Below w0.heap.size w0 w' := by
  have hS := St.start w0
  refine s8 _ _ _ ?_
  unfold m8 m8_0 m8_1
  refine callR (by kernel_rfl) (made_ret (n := n) hc hok hl hS) ?_
  intro v w hR
  by_cases hn : 1 ≤ n ∧ n ≤ 16384
  · rw [if_pos hn] at hR
    obtain ⟨b, rfl, hD⟩ := hR
    have hO : Ok n.toNat (runD ⟨[], n, -1, false⟩ (fewL l)) := (Ok.new hn).run (few_ok hok)
    generalize runD ⟨[], n, -1, false⟩ (fewL l) = D at *
    have hDl := hO.len
    unfold m8_2
    first | refine valP_ok (eq23n _ _ _) ?_ | refine valP_ok (eq23s _ _ _ _) ?_
    unfold m8_17
    refine cond_f rfl ?_
    unfold m8_3
    refine callR (by kernel_rfl) (files_ret hO hD) ?_
    clear hS hD
    rintro _ w ⟨A1, c1, rfl, mb, X, hX, hS⟩
    refine callR (by kernel_rfl) (free_ret hS) ?_
    rintro _ w ⟨rfl, hS⟩
    refine callR (by kernel_rfl) (off_ret hS) ?_
    rintro _ w ⟨rfl, hS⟩
    have hD : Dsk w0 [] [flRow A1 c1 D.L] b D w := ⟨mb, X, hX, hS⟩
    unfold m8_4
    refine callR (by kernel_rfl) (copy_ret hO hD) ?_
    clear hS hD hX
    rintro _ w ⟨b', mb, X, rfl, hX, hD⟩
    have hBw : BF w0 [] (dCell b (.map (some mb)) D.room D.fuse D.off :: mapD mb X :: (X.map fileR ++ [flRow A1 c1 D.L])) A1 D.L := Bes.of_row (e := 42) (c := c1) (X.length + 2) (by simp only [List.getElem?_cons_succ]; rw [List.getElem?_append_right (by simp)]; simp)
    generalize hLd : (dCell b (.map (some mb)) D.room D.fuse D.off :: mapD mb X :: (X.map fileR ++ [flRow A1 c1 D.L])) = Ld at *
    unfold m8_5
    first | refine valP_ok (eq23n _ _ _) ?_ | refine valP_ok (eq23s _ _ _ _) ?_
    refine cond_f rfl ?_
    refine callR (by kernel_rfl) (files_ret hO hD) ?_
    clear hD
    rintro _ w ⟨A3, c3, rfl, mc, Y, hY, hS⟩
    have hB3 : BF w0 [] (flRow A3 c3 D.L :: Ld) A3 D.L := Bes.of_row 0 rfl
    refine callR (by kernel_rfl) (same_ret (by omega) (by omega) (hB3.mono inTl) ((hBw.cons _).mono inTl) hS) ?_
    rintro _ w ⟨⟨t, rfl, ht⟩, hS⟩
    obtain rfl := ht.2 rfl
    first | refine valP_ok (not_ok _ _) ?_ | refine valP_ok (notb_ok _ _) ?_
    first | refine pick_dt (by first | assumption | omega) ?_ | refine pick_df (by first | assumption | omega) ?_ | refine pick_t (by first | rfl | assumption) ?_ | refine pick_f (by first | rfl | assumption) ?_ | refine pick_dt rfl ?_ | refine pick_df (not_not_intro rfl) ?_
    refine cond_f rfl ?_
    refine callR (by kernel_rfl) (free_ret hS) ?_
    rintro _ w ⟨rfl, hS⟩
    refine valP_ok (ne3 _ _ _ _ _) ?_
    first | refine pick_dt (by first | assumption | omega) ?_ | refine pick_df (by first | assumption | omega) ?_ | refine pick_t (by first | rfl | assumption) ?_ | refine pick_f (by first | rfl | assumption) ?_ | refine pick_dt rfl ?_ | refine pick_df (not_not_intro rfl) ?_
    refine cond_df (not_not_intro rfl) ?_
    refine callR (by kernel_rfl) (off_ret hS) ?_
    rintro _ w ⟨rfl, hS⟩
    refine valP_ok (ne4 _ _ _ _ _) ?_
    first | refine pick_dt (by first | assumption | omega) ?_ | refine pick_df (by first | assumption | omega) ?_ | refine pick_t (by first | rfl | assumption) ?_ | refine pick_f (by first | rfl | assumption) ?_ | refine pick_dt rfl ?_ | refine pick_df (not_not_intro rfl) ?_
    unfold m8_15
    refine cond_df (not_not_intro rfl) ?_
    have hD : Dsk w0 [] Ld b' D w := Dsk.pop ⟨mc, Y, hY, hS⟩
    clear hS hY hB3
    obtain ⟨mc, Y, hY, hS⟩ := hD
    have hfo := few_ok hok2
    have hfl := fewL_len l2
    unfold m8_6
    refine callR (by kernel_rfl) (few_ret hc2 hok2 hl2 hS) ?_
    rintro _ w ⟨A4, c4, rfl, hS⟩
    generalize fewL l2 = ls at *
    unfold m8_7 m8_10
    have hD0 : Dsk w0 [] (deRow A4 c4 ls :: Ld) b' D w := ⟨mc, Y, hY, St.push hS⟩
    refine loop_in (fun u w' => ∃ i : Nat, u = .int .i64 (i : Int) ∧ i ≤ ls.length ∧ Dsk w0 [] (deRow A4 c4 ls :: Ld) b' (runD D (ls.take i)) w') (fun u _ => ls.length - (intOf u).toNat) ⟨0, rfl, by omega, hD0⟩ ?_
    clear hS hD0 hY
    rintro u w ⟨i, rfl, hi, hD⟩
    have hOi : Ok n.toNat (runD D (ls.take i)) := hO.run (fun x hx => hfo x (List.mem_of_mem_take hx))
    unfold m8_11
    refine builtin_ok (len35 _) ?_
    refine valP_ok (lss_ok _ _ _ _ _ _ _) ?_
    unfold m8_14
    refine cond_split (fun h => ?_) (fun h => ?_)
    · have hil : i < ls.length := by omega
      have hR : Rd w 6 A4 ls.length (ls.flatMap encD) := by
        obtain ⟨m2, X2, _, hS⟩ := hD
        have h1 : (deRow A4 c4 ls) ∈ (dCell b' (.map (some m2)) (runD D (ls.take i)).room (runD D (ls.take i)).fuse (runD D (ls.take i)).off :: mapD m2 X2 :: (X2.map fileR ++ (deRow A4 c4 ls :: Ld))) := .tail _ (.tail _ (List.mem_append_right _ (.head _)))
        obtain ⟨k, hk⟩ := List.mem_iff_getElem?.1 h1
        exact hS.row_rd k hk
      obtain ⟨gb, o, rfl⟩ := hR.some_ (by omega) (by omega)
      have p := d_at hR hil
      unfold m8_12
      refine valP_ok (ix35 hil _) ?_
      refine valP_ok (ld54 p.1 p.2.1 p.2.2.1 p.2.2.2.1 p.2.2.2.2.1 p.2.2.2.2.2) ?_
      refine callR (by kernel_rfl) (do_ret (hfo _ (List.getElem_mem hil)) hOi hD) ?_
      intro _ w hD
      unfold m8_13
      refine valP_ok (add_ok _ _ _ (by omega) (by omega) _) ?_
      exact ⟨⟨i + 1, rfl, by omega, by rw [runD_take hil]; exact hD⟩, by simp [intOf]; omega⟩
    · have hS := (Dsk.gone hD).tail
      clear hD
      subst hLd
      have hD : Dsk w0 [] [flRow A1 c1 D.L] b D w := ⟨mb, X, hX, hS⟩
      clear hS
      unfold m8_8
      refine callR (by kernel_rfl) (files_ret hO hD) ?_
      clear hD
      rintro _ w ⟨A5, c5, rfl, m2, X2, hX2, hS⟩
      have hB5 : BF w0 [] [flRow A5 c5 D.L, flRow A1 c1 D.L] A5 D.L := Bes.of_row 0 rfl
      have hB1 : BF w0 [] [flRow A5 c5 D.L, flRow A1 c1 D.L] A1 D.L := Bes.of_row 1 rfl
      refine callR (by kernel_rfl) (same_ret (by omega) (by omega) (hB5.mono inTl) (hB1.mono inTl) hS) ?_
      rintro _ w ⟨⟨t, rfl, ht⟩, hS⟩
      obtain rfl := ht.2 rfl
      refine cond_t rfl ?_
      refine callR (by kernel_rfl) (free_ret hS) ?_
      rintro _ w ⟨rfl, hS⟩
      refine valP_ok (eq3 _ _ _ _ _) ?_
      first | refine pick_dt (by first | assumption | omega) ?_ | refine pick_df (by first | assumption | omega) ?_ | refine pick_t (by first | rfl | assumption) ?_ | refine pick_f (by first | rfl | assumption) ?_ | refine pick_dt rfl ?_ | refine pick_df (not_not_intro rfl) ?_
      refine cond_dt rfl ?_
      refine callR (by kernel_rfl) (off_ret hS) ?_
      rintro _ w ⟨rfl, hS⟩
      refine valP_ok (eq4 _ _ _ _ _) ?_
      first | refine pick_dt (by first | assumption | omega) ?_ | refine pick_df (by first | assumption | omega) ?_ | refine pick_t (by first | rfl | assumption) ?_ | refine pick_f (by first | rfl | assumption) ?_ | refine pick_dt rfl ?_ | refine pick_df (not_not_intro rfl) ?_
      refine cond_dt rfl ?_
      refine callR (by kernel_rfl) (awake_ret hS) ?_
      rintro _ w ⟨rfl, hS⟩
      first | refine pick_dt (by first | assumption | omega) ?_ | refine pick_df (by first | assumption | omega) ?_ | refine pick_t (by first | rfl | assumption) ?_ | refine pick_f (by first | rfl | assumption) ?_ | refine pick_dt rfl ?_ | refine pick_df (not_not_intro rfl) ?_
      unfold m8_9
      exact ⟨rfl, hS.below⟩
  · rw [if_neg hn] at hR
    obtain ⟨rfl, hS⟩ := hR
    unfold m8_2
    first | refine valP_ok (eq23n _ _ _) ?_ | refine valP_ok (eq23s _ _ _ _) ?_
    unfold m8_17
    refine cond_t rfl ?_
    refine callR (by kernel_rfl) (awake_ret hS) ?_
    rintro _ w ⟨rfl, hS⟩
    unfold m8_18
    exact ⟨rfl, hS.below⟩
end

end Go.Proofs.YtcldjjmfpmkldaaDoor.M
