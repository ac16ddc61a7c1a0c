/- The plain law LzCut. -/
import Derived.Test.YtahemhjlfajlkaaPLx22
import Derived.Test.YtahemhjlfajlkaaXLaws
namespace Go.Proofs.Ytahemhjlfajlkaa.Pure
open Go.RowKit Go.Proofs.Ytahemhjlfajlkaa.PL Go.Proofs.YtahemhjlfajlkaaW.PrintWords Go.Proofs.YtahemhjlfajlkaaW.PrintLast
set_option linter.unusedVariables false
set_option maxHeartbeats 2000000

theorem extract_eq (s : ByteArray) (o : List Nat) (h : o <+: bytesN s) : s.extract 0 o.length = strOfNums (ints o) := by
  have ho : (bytesN s).take o.length = o := (List.prefix_iff_eq_take.mp h).symm
  apply bytesN_inj
  rw [bytesN_take, ho]
  refine (bytesN_strOfNums o fun b hb => ?_).symm
  exact bytesN_lt s b (h.subset hb)
theorem LzCut : headgatelaw32_LzCut.Pure := by
  intro a0 a1 h0 _
  apply Ev.rounds
  unfold headgatelaw32_LzCut.f
  refine Ev.bind (cut_ev a0) ?_
  have hz := ext_size a0 20000
  generalize a0.extract 0 (min a0.size 20000) = s at hz ⊢
  have hp := pack_short s (by omega)
  refine Ev.bind (pack_ev s (by omega)) ?_
  refine Ev.congr (fun k => if_pos rfl) ?_
  have skip : Ev (fun k => headgatelaw32_LzCut.j0 k s a1 (packB s) true) true := by
    refine Ev.step (f := ?f1) (fun k => ?_) ?_
    rotate_left
    · simp only [headgatelaw32_LzCut.j0]; rfl
    exact Ev.congr (fun k => if_pos trivial) (Ev.bind awake_ev (Ev.now _))
  by_cases h1 : a1 < 0
  · exact Ev.congr (fun k => if_pos h1) skip
  refine Ev.congr (fun k => if_neg h1) ?_
  by_cases h2 : a1 ≥ ((packB s).size : Int)
  · refine Ev.congr (fun k => ?_) skip
    rw [decide_eq_true h2]
  have e : (fun k => headgatelaw32_LzCut.j0 k s a1 (packB s) (decide (a1 ≥ ((packB s).size : Int)))) = fun k => headgatelaw32_LzCut.j0 k s a1 (packB s) false := by
    rw [decide_eq_false h2]
  show Ev (fun k => headgatelaw32_LzCut.j0 k s a1 (packB s) (decide (a1 ≥ ((packB s).size : Int)))) true
  rw [e]
  refine Ev.step (f := ?f2) (fun k => ?_) ?_
  rotate_left
  · simp only [headgatelaw32_LzCut.j0]; rfl
  refine Ev.congr (fun k => if_neg (by decide)) ?_
  refine Ev.congr (fun k => if_pos (by omega)) ?_
  refine Ev.congr (fun k => if_pos (by omega)) ?_
  obtain ⟨c, rfl⟩ : ∃ c : Nat, a1 = (c : Int) := ⟨a1.toNat, by omega⟩
  rw [Int.toNat_natCast]
  have hsz : ((packB s).extract 0 c).size = c := by rw [ByteArray.size_extract]; omega
  have u := unpack_ev ((packB s).extract 0 c) 1048576 (by omega)
  have hb := bytesN_take (packB s) c
  rw [unpack_of ((packB s).extract 0 c) 1048576 (by decide) (by decide)] at u
  have hpl := bytesN_length (packB s)
  have hc := (pack_good s (by omega)).cut (bytesN ((packB s).extract 0 c)) (by rw [hb]; exact List.take_prefix _ _)
    (fun x => by have := congrArg List.length x; rw [bytesN_length, bytesN_length, hsz] at this; omega) (((packB s).extract 0 c).size + 1) (by rw [bytesN_length]; omega)
  refine Ev.bind u ?_
  change unpL _ 1048576 _ _ = _ ∨ (∃ o', unpL _ 1048576 _ _ = _ ∧ _) at hc
  rcases hc with hc | ⟨o, hc, ho1, ho2⟩
  · rw [hc]
    refine Ev.congr (fun k => if_pos rfl) ?_
    exact Ev.congr (fun k => if_pos (show (ByteArray.toList ⟨#[]⟩) = [] by rw [ByteArray.toList_eq])) (Ev.bind awake_ev (Ev.now _))
  · rw [hc]
    rw [bytesN_length] at ho2
    refine Ev.congr (fun k => if_neg (show ¬ (0 : Int) = 2 by decide)) ?_
    refine Ev.congr (fun k => if_pos rfl) ?_
    have es : ((resU (some o)).1).size = o.length := strOfInts_size o
    rw [es]
    refine Ev.congr (fun k => if_pos (by omega)) ?_
    refine Ev.congr (fun k => if_pos (by omega)) ?_
    refine Ev.congr (fun k => if_pos (by omega)) ?_
    exact Ev.congr (fun k => if_pos (by rw [extract_eq s o ho1]; rfl)) (Ev.bind awake_ev (Ev.now _))

end Go.Proofs.Ytahemhjlfajlkaa.Pure
