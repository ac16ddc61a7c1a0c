/- Four bytes as a map's key. -/
import Derived.Test.YtahemhjlfajlkaaXMapI
import Derived.DeepKeys4
import Derived.WalkArith
namespace Go.Proofs.Ytahemhjlfajlkaa.PL
open Go.RowKit Go.Proofs.YtahemhjlfajlkaaW.PrintWords Go.Proofs.YtahemhjlfajlkaaW.PrintLast Go.Proofs.YtahemhjlfajlkaaW.PrintMore
set_option linter.unusedVariables false
set_option linter.unusedSimpArgs false

/-! ### [4]byte as a key -/
theorem laidOutP : laidOutB Try.prog = true := by kernel_rfl
theorem wideArr : (match Try.prog.underlying 54 with | some (.array _ _) | some (.struct _) => true | _ => false) = true := by rw [Try.underlying54]
theorem lawArr : Go.Maps.Keyed Try.prog 54 := Go.Maps.Keyed.of_law (deep_law_laid laidOutP (m := 2) (by omega) (of_decide_eq_true (by kernel_rfl)) (by kernel_rfl) wideArr)
theorem cellsArr : Try.prog.cellsOf 54 = 4 := by kernel_rfl
theorem cellsByte5 : Try.prog.cellsOf 5 = 1 := by kernel_rfl
theorem keyArrB : Try.prog.keyType 54 = true := by kernel_rfl
theorem sizeTypes : ∃ m, Try.prog.types.size = m + 1 := by
  refine ⟨Try.prog.types.size - 1, ?_⟩
  have : decide (1 ≤ Try.prog.types.size) = true := by kernel_rfl
  have := of_decide_eq_true this
  omega
theorem keyArr (a b c d : Nat) (ha : a < 256) (hb : b < 256) (hc : c < 256) (hd : d < 256) : ∃ l, keyOf Try.prog 54 (.agg #[.int .u8 a, .int .u8 b, .int .u8 c, .int .u8 d]) = some l := by
  obtain ⟨m, hm⟩ := sizeTypes
  have wf (n : Nat) (h : n < 256) : (Lit.int .u8 (n : Int)).wf = true := WalkArith.wf_u8 (by omega)
  refine ⟨.string (keyBytes [.int .u8 a, .int .u8 b, .int .u8 c, .int .u8 d]), ?_⟩
  · unfold keyOf
    rw [Try.underlying54]
    simp only [keyArrB, Bool.true_and]
    rw [if_pos (by simp [Value.formed, Try.underlying54, cellsArr]), hm]
    have key1 (n : Nat) (h : n < 256) : Try.prog.keyLits (m + 1) 5 [Value.int .u8 (n : Int)] = some [.int .u8 n] := by
      simp only [Program.keyLits, Try.underlying5]
      rw [if_pos ⟨trivial, wf n h⟩]
    simp only [Program.keyLits, Try.underlying54, Value.cells, cellsArr, cellsByte5]
    simp [List.range, List.range.loop, wf a ha, wf b hb, wf c hc, wf d hd]
    try rfl
end Go.Proofs.Ytahemhjlfajlkaa.PL
