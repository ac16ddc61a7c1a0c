/- The plain law LzBack. -/
import Derived.Test.YtahemhjlfajlkaaPLx18
import Derived.Test.YtahemhjlfajlkaaXLaws
namespace Go.Proofs.Ytahemhjlfajlkaa.Pure
open Go.RowKit Go.Proofs.Ytahemhjlfajlkaa.PL Go.Proofs.YtahemhjlfajlkaaW.PrintWords Go.Proofs.YtahemhjlfajlkaaW.PrintLast
set_option linter.unusedVariables false
set_option maxHeartbeats 2000000

theorem LzBack : headgatelaw32_LzBack.Pure := by
  intro a0 h0
  apply Ev.rounds
  unfold headgatelaw32_LzBack.f
  refine Ev.bind (cut_ev a0) ?_
  have hz := ext_size a0 20000
  generalize a0.extract 0 (min a0.size 20000) = s at hz ⊢
  have hp := pack_short s (by omega)
  refine Ev.bind (pack_ev s (by omega)) ?_
  have u1 := unpack_ev (packB s) (s.size : Int) (by omega)
  rw [unpack_pack s (by omega) _ (by omega) (by omega), if_pos (Int.le_refl _)] at u1
  refine Ev.bind u1 ?_
  refine Ev.congr (fun k => if_pos rfl) ?_
  refine Ev.congr (fun k => if_pos rfl) ?_
  refine Ev.step (f := ?f1) (fun k => ?_) ?_
  rotate_left
  · simp only [headgatelaw32_LzBack.j0]; rfl
  refine Ev.congr (fun k => if_neg (by simp)) ?_
  by_cases h : (s.size : Int) = 0
  · exact Ev.congr (fun k => if_pos h) (Ev.bind awake_ev (Ev.now _))
  refine Ev.congr (fun k => if_neg h) ?_
  rw [wrapS _ (by omega) (by omega)]
  have u2 := unpack_ev (packB s) ((s.size : Int) - 1) (by omega)
  rw [unpack_pack s (by omega) _ (by omega) (by omega), if_neg (by omega)] at u2
  refine Ev.bind u2 ?_
  refine Ev.congr (fun k => if_pos (by rw [ByteArray.toList_eq])) ?_
  exact Ev.congr (fun k => if_pos rfl) (Ev.bind awake_ev (Ev.now _))

end Go.Proofs.Ytahemhjlfajlkaa.Pure
