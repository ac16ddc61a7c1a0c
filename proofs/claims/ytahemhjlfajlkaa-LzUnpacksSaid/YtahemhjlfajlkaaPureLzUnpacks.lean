/- The plain law LzUnpacks. -/
import Derived.Test.YtahemhjlfajlkaaPLx16
import Derived.Test.YtahemhjlfajlkaaXRefU
namespace Go.Proofs.Ytahemhjlfajlkaa.Pure
open Go.RowKit Go.Proofs.Ytahemhjlfajlkaa.PL Go.Proofs.YtahemhjlfajlkaaW.PrintWords Go.Proofs.YtahemhjlfajlkaaW.PrintLast
set_option linter.unusedVariables false
set_option maxHeartbeats 2000000

theorem unp_j0 (s : ByteArray) (most : Int) (hs : s.size ≤ 140737488351232) : Ev (fun k => headgatelaw32_LzUnpacks.j0 k s most) true := by
  have one (b : Bool) (m : Int) (hm : m = if b = true then 3000 else most) : Ev (fun k => headgatelaw32_LzUnpacks.j1 k s most b) true := by
    have u1 := unpack_ev s m hs
    have u2 := runpack_ev s m hs
    cases b with
    | true =>
      obtain rfl : m = 3000 := hm
      refine Ev.step (f := ?f1) (fun k => ?_) ?_
      rotate_left
      · simp only [headgatelaw32_LzUnpacks.j1]; rfl
      refine Ev.congr (fun k => if_pos trivial) ?_
      refine Ev.bind u1 (Ev.bind u2 ?_)
      refine Ev.congr (fun k => if_pos rfl) ?_
      refine Ev.congr (fun k => if_pos rfl) ?_
      exact Ev.bind awake_ev (Ev.now _)
    | false =>
      obtain rfl : m = most := hm
      refine Ev.step (f := ?f3) (fun k => ?_) ?_
      rotate_left
      · simp only [headgatelaw32_LzUnpacks.j1]; rfl
      refine Ev.congr (fun k => if_neg (by decide)) ?_
      refine Ev.bind u1 (Ev.bind u2 ?_)
      refine Ev.congr (fun k => if_pos rfl) ?_
      refine Ev.congr (fun k => if_pos rfl) ?_
      exact Ev.bind awake_ev (Ev.now _)
  refine Ev.step (f := ?f2) (fun k => ?_) ?_
  rotate_left
  · simp only [headgatelaw32_LzUnpacks.j0]; rfl
  by_cases h : most > 3000
  · exact Ev.congr (fun k => if_pos h) (one _ _ rfl)
  · exact Ev.congr (fun k => if_neg h) (one _ _ rfl)
theorem LzUnpacks : headgatelaw32_LzUnpacks.Pure := by
  intro a0 a1 h0 _
  apply Ev.rounds
  unfold headgatelaw32_LzUnpacks.f
  by_cases h : (a0.size : Int) > 300
  · refine Ev.congr (fun k => if_pos h) ?_
    refine Ev.congr (fun k => if_pos (by decide)) ?_
    refine Ev.congr (fun k => if_pos (by omega)) ?_
    exact unp_j0 _ _ (by rw [ByteArray.size_extract]; omega)
  · exact Ev.congr (fun k => if_neg h) (unp_j0 _ _ h0)

end Go.Proofs.Ytahemhjlfajlkaa.Pure
