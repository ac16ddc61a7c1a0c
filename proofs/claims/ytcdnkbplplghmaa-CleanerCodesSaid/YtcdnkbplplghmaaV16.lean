/- CRC: steps. -/
import Derived.Test.YtcdnkbplplghmaaV12
import Derived.Test.YtcdnkbplplghmaaMcrc0
namespace Go.Proofs.Ytcdnkbplplghmaa.M
open Go.Proofs.Ytcdnkbplplghmaa.F Go.RowKit
set_option linter.unusedVariables false
set_option linter.unusedSimpArgs false
set_option maxRecDepth 100000
set_option maxHeartbeats 2000000
attribute [local irreducible] Res.cells Res.row Res.map Res.any World.cell? World.frozen? Instr.fieldAt Instr.loadAt Instr.storeAt Instr.indexAt Instr.lookup Instr.mapUpdate Instr.box Instr.build Instr.buildSlice Instr.extract Instr.alloc Instr.field Instr.index Instr.sliceAt Instr.makeSlice Instr.makeMap Instr.makeFunc binS Op.unary Sem.run
section
variable (x y : Operand) (w : World)
theorem andR (a b : Int) : (binS .and 148 x y (.int .u32 a) (.int .u32 b)).run Try.prog w = .ok (.int .u32 (Go.bits .and .u32 a b)) w := by
  rw [binS_run _ _ _ _ _ _ (by kernel_rfl)]; simp [go_sem, binOp]
theorem xorR (a b : Int) : (binS .xor 148 x y (.int .u32 a) (.int .u32 b)).run Try.prog w = .ok (.int .u32 (Go.bits .xor .u32 a b)) w := by
  rw [binS_run _ _ _ _ _ _ (by kernel_rfl)]; simp [go_sem, binOp]
theorem shrR (a : Int) : (binS .shr 148 x y (.int .u32 a) (.int .u64 1)).run Try.prog w = .ok (.int .u32 (a / 2)) w := by
  rw [binS_run _ _ _ _ _ _ (by kernel_rfl)]
  simp [go_sem, binOp]
theorem cv8_R (a : Int) : (convert 5 148 (.int .u8 a)).run Try.prog w = .ok (.int .u32 (IntKind.u32.wrap a)) w := by simp [go_sem]
theorem notR (a : Int) : (Op.unary .xor (.int .u32 a)).run Try.prog w = .ok (.int .u32 (Go.bits .xor .u32 IntKind.u32.max a)) w := by simp [go_sem, IntKind.signed]
end

end Go.Proofs.Ytcdnkbplplghmaa.M
