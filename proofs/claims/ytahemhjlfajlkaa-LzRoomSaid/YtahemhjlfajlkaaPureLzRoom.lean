/- The plain law LzRoom. -/
import Derived.Test.YtahemhjlfajlkaaPLx21
import Derived.Test.YtahemhjlfajlkaaXLaws
namespace Go.Proofs.Ytahemhjlfajlkaa.Pure
open Go.RowKit Go.Proofs.Ytahemhjlfajlkaa.PL Go.Proofs.YtahemhjlfajlkaaW.PrintWords Go.Proofs.YtahemhjlfajlkaaW.PrintLast
set_option linter.unusedVariables false
set_option maxHeartbeats 2000000

theorem room_j0 (s : ByteArray) (most : Int) (hs : s.size ≤ 140737488351232) : Ev (fun k => headgatelaw32_LzRoom.j0 k s most) true := by
  have u := unpack_ev s most hs
  refine Ev.step (f := ?f1) (fun k => ?_) ?_
  rotate_left
  · simp only [headgatelaw32_LzRoom.j0]; rfl
  refine Ev.bind u ?_
  by_cases h : most < 0 ∨ most > 1048576
  · have e : unpackR s most = (⟨#[]⟩, 1) := if_pos h
    rw [e]
    have fin : Ev (fun k => headgatelaw32_LzRoom.j1 k most (⟨#[]⟩ : ByteArray) 1 true) true := by
      refine Ev.step (f := ?f2) (fun k => ?_) ?_
      rotate_left
      · simp only [headgatelaw32_LzRoom.j1]; rfl
      refine Ev.congr (fun k => if_pos trivial) ?_
      refine Ev.congr (fun k => if_pos (by rw [ByteArray.toList_eq])) ?_
      exact Ev.congr (fun k => if_pos trivial) (Ev.bind awake_ev (Ev.now _))
    by_cases h1 : most < 0
    · exact Ev.congr (fun k => if_pos h1) fin
    · refine Ev.congr (fun k => if_neg h1) ?_
      rw [decide_eq_true (show most > 1048576 by omega)]; exact fin
  · have e := unpack_of s most (by omega) (by omega)
    rw [e]
    refine Ev.congr (fun k => if_neg (by omega)) ?_
    rw [decide_eq_false (show ¬ most > 1048576 by omega)]
    refine Ev.step (f := ?f3) (fun k => ?_) ?_
    rotate_left
    · simp only [headgatelaw32_LzRoom.j1]; rfl
    refine Ev.congr (fun k => if_neg (by decide)) ?_
    cases ho : unpL (s.size + 1) most [] (bytesN s) with
    | none =>
      refine Ev.congr (fun k => if_pos (show ((ByteArray.size ⟨#[]⟩ : Nat) : Int) ≤ most by show ((0 : Nat) : Int) ≤ most; omega)) ?_
      refine Ev.congr (fun k => if_neg (show ¬ (2 : Int) = 0 by decide)) ?_
      refine Ev.congr (fun k => if_pos rfl) ?_
      exact Ev.congr (fun k => if_pos (show (ByteArray.toList ⟨#[]⟩) = [] by rw [ByteArray.toList_eq])) (Ev.bind awake_ev (Ev.now _))
    | some o =>
      have hl := unpL_most _ (show ((([] : List Nat).length : Nat) : Int) ≤ most by show ((0 : Nat) : Int) ≤ most; omega) ho
      refine Ev.congr (fun k => if_pos (show ((ByteArray.size (strOfNums (ints o)) : Nat) : Int) ≤ most by rw [strOfInts_size]; exact hl)) ?_
      exact Ev.congr (fun k => if_pos rfl) (Ev.bind awake_ev (Ev.now _))
theorem LzRoom : headgatelaw32_LzRoom.Pure := by
  intro a0 a1 h0 _
  apply Ev.rounds
  unfold headgatelaw32_LzRoom.f
  by_cases h : (a0.size : Int) > 2000
  · refine Ev.congr (fun k => if_pos h) ?_
    refine Ev.congr (fun k => if_pos (by decide)) ?_
    refine Ev.congr (fun k => if_pos (by omega)) ?_
    exact room_j0 _ _ (by rw [ByteArray.size_extract]; omega)
  · exact Ev.congr (fun k => if_neg h) (room_j0 _ _ h0)

end Go.Proofs.Ytahemhjlfajlkaa.Pure
