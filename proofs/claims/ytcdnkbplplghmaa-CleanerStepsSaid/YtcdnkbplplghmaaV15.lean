/- CleanerSteps: cleaned up to one offset, and then up to a later one, is as cleaned up to that at once. -/
import Derived.Test.YtcdnkbplplghmaaV14
import Derived.Test.YtcdnkbplplghmaaFwL
import Derived.Test.YtcdnkbplplghmaaFwW
import Derived.Test.YtcdnkbplplghmaaMbase0
import Derived.Test.YtcdnkbplplghmaaMmid0
import Derived.Test.YtcdnkbplplghmaaMlb0
namespace Go.Proofs.Ytcdnkbplplghmaa.M
open Go.Proofs.Ytcdnkbplplghmaa.F Go.RowKit
set_option linter.unusedVariables false
set_option linter.unusedSimpArgs false
set_option maxRecDepth 100000
set_option maxHeartbeats 2000000
attribute [local irreducible] Res.cells Res.row Res.map Res.any World.cell? World.frozen? Instr.fieldAt Instr.loadAt Instr.storeAt Instr.indexAt Instr.lookup Instr.mapUpdate Instr.box Instr.build Instr.buildSlice Instr.extract Instr.alloc Instr.field Instr.index Instr.sliceAt Instr.makeSlice Instr.makeMap Instr.makeFunc binS Op.unary Sem.run
theorem and255 {v : Int} (hv : -9223372036854775808 ≤ v ∧ v ≤ 9223372036854775807) : Go.bits .and .i64 v 255 = v % 256 := by
  have e : Go.bits .and .i64 v 255 = IntKind.i64.wrap ((BitVec.ofInt 64 v &&& BitVec.ofInt 64 255).toNat : Int) := rfl
  have e2 : (BitVec.ofInt 64 v &&& BitVec.ofInt 64 255).toNat = (v % 18446744073709551616).toNat % 256 := by
    rw [BitVec.toNat_and, show (BitVec.ofInt 64 255).toNat = 2 ^ 8 - 1 from rfl, Nat.and_two_pow_sub_one_eq_mod, BitVec.toNat_ofInt]
    rfl
  rw [e, e2, IntKind.wrap_i64]
  omega
theorem andI (x y : Operand) (a b : Int) (w : World) : (binS .and 3 x y (.int .i64 a) (.int .i64 b)).run Try.prog w = .ok (.int .i64 (Go.bits .and .i64 a b)) w := by
  rw [binS_run _ _ _ _ _ _ (by kernel_rfl)]; simp [go_sem, binOp]
theorem flat_set0 : ∀ (l : List Gt) (i : Nat) (h : i < l.length) (x : Int), (l.flatMap encG).set (i * 4) (.int .i64 x) = (l.set i ⟨x, l[i].r⟩).flatMap encG
  | g :: l, 0, h, x => rfl
  | g :: l, i + 1, h, x => by
    have ih := flat_set0 l i (by simpa using h) x
    rw [show (i + 1) * 4 = i * 4 + 1 + 1 + 1 + 1 by omega]
    show _ :: _ :: _ :: _ :: (l.flatMap encG).set (i * 4) (.int .i64 x) = _
    rw [ih]
    rfl
section
variable {w0 : World} {l : List Gt} {A : Option Addr} {c : Nat}
theorem csteps_ret {upto more : Int} (hu : -9223372036854775808 ≤ upto ∧ upto ≤ 9223372036854775807) (hmo : -9223372036854775808 ≤ more ∧ more ≤ 9223372036854775807) (hl : Rd w0 4 A l.length (l.flatMap encG)) (hc : l.length ≤ c) (hok : ∀ g ∈ l, GtOk g) : Ret Try.prog 5 #[.slice A l.length c, .int .i64 upto, .int .i64 more] w0 fun v w' => v = .bool true ∧ Below w0.heap.size w0 w' := by
  have hS := St.start w0
  have hlen := cut_len l
  have hgo := cut_ok hok
  refine s5 _ _ _ ?_
  unfold m5 m5_0 m5_1
  refine callR (by kernel_rfl) (some_ret hc (Bes.of_old0 (Rd.takeS encG_len 150 hl)) hS) ?_
  rintro _ w ⟨A1, c1, rfl, hS⟩
  generalize (l.take 150).map cutG = ls at *
  unfold m5_2 m5_7
  refine loop_in (fun u w' => ∃ (i : Nat) (l' : List Gt), u = .int .i64 (i : Int) ∧ i ≤ ls.length ∧ l'.length = ls.length ∧ (∀ j (h : j < l'.length), j < i → l'[j].off = j) ∧ (∀ g ∈ l', GtOk g) ∧ St w0 [] w' [grow A1 c1 l']) (fun u _ => ls.length - (intOf u).toNat) ⟨0, ls, rfl, by omega, rfl, fun j _ h => by omega, hgo, hS⟩ ?_
  clear hS
  rintro u w ⟨i, l', rfl, hi, hl', hoff, hgo', hS⟩
  rw [← hl']
  unfold m5_8
  refine builtin_ok (len22 _) ?_
  refine valP_ok (lss_ok _ _ _ _ _ _ _) ?_
  unfold m5_11
  refine cond_split (fun h => ?_) (fun h => ?_)
  · have hil : i < l'.length := by omega
    obtain ⟨g, rfl⟩ := hS.row_ptr 0 rfl (by omega)
    unfold m5_9
    refine valP_ok (ixz22 hil _) ?_
    refine valP_ok (fao40_0 _ _ _) ?_
    refine store_row 0 st3 hS rfl (by rw [flat_len _ _ encG_len]; omega) rfl ?_
    intro w hS
    simp only [List.set_cons_zero] at hS
    rw [flat_set0 l' i hil] at hS
    unfold m5_10
    refine valP_ok (add_ok _ _ _ (by omega) (by omega) _) ?_
    refine ⟨⟨i + 1, l'.set i ⟨i, l'[i].r⟩, rfl, by omega, by rw [List.length_set], fun j hj h2 => ?_, fun x hx => ?_, ?_⟩, by simp [intOf]; omega⟩
    · rw [List.getElem_set]
      split
      · rename_i e; subst e; first | rfl | done
      · exact hoff j (by rw [List.length_set] at hj; exact hj) (by omega)
    · rcases List.mem_or_eq_of_mem_set hx with hx | rfl
      · exact hgo' x hx
      · exact (show GtOk ⟨(i : Int), l'[i].r⟩ from hgo' l'[i] (List.getElem_mem hil))
    · have e : (l'.set i ⟨(i : Int), l'[i].r⟩).length = l'.length := List.length_set
      unfold grow
      rw [e]
      exact hS
  · have hpw : l'.Pairwise (fun a b => a.off ≤ b.off) := by
      rw [List.pairwise_iff_getElem]
      intro a b ha hb hab
      rw [hoff a ha (by omega), hoff b hb (by omega)]
      omega
    unfold m5_3
    refine valP_ok (andI _ _ _ _ _) ?_
    rw [and255 hu]
    unfold m5_4
    refine valP_ok (andI _ _ _ _ _) ?_
    rw [and255 hmo]
    refine valP_ok (add_ok _ _ _ (by omega) (by omega) _) ?_
    have hum : upto % 256 ≤ upto % 256 + more % 256 := by omega
    unfold m5_5
    refine callR (by kernel_rfl) (clean_ret (by omega) hgo' (Bes.of_row 0 rfl) hS) ?_
    rintro _ w ⟨A2, c2, rfl, hS⟩
    have hc1 := cleanN_len l' (upto % 256) l'.length
    have he := cleanN_eq l' (upto % 256)
    rw [he] at hS hc1 ⊢
    have hgc : ∀ g ∈ cl (upto % 256) l', GtOk g := fun g hg => hgo' g (cl_sub _ _ g hg)
    refine callR (by kernel_rfl) (clean_ret (by omega) hgc (Bes.of_row 0 rfl) hS) ?_
    rintro _ w ⟨A3, c3, rfl, hS⟩
    refine callR (by kernel_rfl) (clean_ret (by omega) hgo' (Bes.of_row 2 rfl) hS) ?_
    rintro _ w ⟨A4, c4, rfl, hS⟩
    have hc2 := cleanN_len (cl (upto % 256) l') (upto % 256 + more % 256) (cl (upto % 256) l').length
    have hc3 := cleanN_len l' (upto % 256 + more % 256) l'.length
    refine callR (by kernel_rfl) (samegot_ret (by omega) (by omega) (Bes.of_row 1 rfl) (Bes.of_row 0 rfl) hS) ?_
    rintro _ w ⟨⟨t, rfl, ht⟩, hS⟩
    have ht := ht.2 (by rw [cleanN_eq, cleanN_eq]; exact cl_cl hum hpw)
    subst ht
    refine cond_t rfl ?_
    refine callR (by kernel_rfl) (awake_ret hS) ?_
    rintro _ w ⟨rfl, hS⟩
    first | refine pick_dt (by first | assumption | omega) ?_ | refine pick_df (by first | assumption | omega) ?_ | refine pick_t (by first | rfl | assumption) ?_ | refine pick_f (by first | rfl | assumption) ?_ | refine pick_dt rfl ?_ | refine pick_df (not_not_intro rfl) ?_
    unfold m5_6
    exact ⟨rfl, hS.below⟩
end

end Go.Proofs.Ytcdnkbplplghmaa.M
