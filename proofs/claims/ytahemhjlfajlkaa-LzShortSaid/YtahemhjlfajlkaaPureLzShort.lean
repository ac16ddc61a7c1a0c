/- The plain law LzShort. -/
import Derived.Test.YtahemhjlfajlkaaPLx19
import Derived.Test.YtahemhjlfajlkaaXLaws
namespace Go.Proofs.Ytahemhjlfajlkaa.Pure
open Go.RowKit Go.Proofs.Ytahemhjlfajlkaa.PL Go.Proofs.YtahemhjlfajlkaaW.PrintWords Go.Proofs.YtahemhjlfajlkaaW.PrintLast
set_option linter.unusedVariables false
set_option maxHeartbeats 2000000

theorem LzShort : headgatelaw32_LzShort.Pure := by
  intro a0 h0
  apply Ev.rounds
  unfold headgatelaw32_LzShort.f
  refine Ev.bind (cut_ev a0) ?_
  have hz := ext_size a0 20000
  generalize a0.extract 0 (min a0.size 20000) = s at hz ⊢
  have hp := pack_short s (by omega)
  refine Ev.bind (pack_ev s (by omega)) ?_
  refine Ev.congr (fun k => if_pos rfl) ?_
  refine Ev.congr (fun k => if_pos (by rw [wrapS _ (by omega) (by omega)]; show ((packB s).size : Int) ≤ _; omega)) ?_
  exact Ev.bind awake_ev (Ev.now _)

end Go.Proofs.Ytahemhjlfajlkaa.Pure
