/- Strings and numbers: steps. -/
import Derived.Test.YtnhgdngbdoifnaaV1
import Derived.Test.YtnhgdngbdoifnaaR
namespace Go.Proofs.Ytnhgdngbdoifnaa.M
open Go.Proofs.Ytnhgdngbdoifnaa.F Go.RowKit
set_option linter.unusedVariables false
set_option linter.unusedSimpArgs false
set_option maxRecDepth 100000
set_option maxHeartbeats 2000000
attribute [local irreducible] Res.cells Res.row Res.map Res.any World.cell? World.frozen? Instr.fieldAt Instr.loadAt Instr.storeAt Instr.indexAt Instr.lookup Instr.mapUpdate Instr.box Instr.build Instr.buildSlice Instr.extract Instr.alloc Instr.field Instr.index Instr.sliceAt Instr.makeSlice Instr.makeMap Instr.makeFunc binS Op.unary Sem.run
section
variable (x y : Operand) (w : World)
theorem sidx {s : ByteArray} {k : Nat} (h : k < s.size) : (Instr.index 9 (.string s) (.int .i64 (k : Int))).run Try.prog w = .ok (.int .u8 (s[k].toNat : Int)) w := by
  have h' : (k : Int) < s.size := by omega
  simp [go_sem, h, h']
theorem sfrom {s : ByteArray} {k : Nat} (h : k ≤ s.size) : (Instr.sliceAt 9 (.string s) (some (.int .i64 (k : Int))) none none).run Try.prog w = .ok (.string (s.extract k s.size)) w := by
  have h' : ¬ s.size < k := by omega
  simp [go_sem, h, h']
theorem sto {s : ByteArray} {k : Nat} (h : k ≤ s.size) : (Instr.sliceAt 9 (.string s) none (some (.int .i64 (k : Int))) none).run Try.prog w = .ok (.string (s.extract 0 k)) w := by
  have h' : ¬ s.size < k := by omega
  simp [go_sem, h, h']
theorem and8 (a b : Int) : (binS .and 5 x y (.int .u8 a) (.int .u8 b)).run Try.prog w = .ok (.int .u8 (Go.bits .and .u8 a b)) w := by
  rw [binS_run _ _ _ _ _ _ (by kernel_rfl)]; simp [go_sem, binOp]
theorem or8 (a b : Int) : (binS .or 5 x y (.int .u8 a) (.int .u8 b)).run Try.prog w = .ok (.int .u8 (Go.bits .or .u8 a b)) w := by
  rw [binS_run _ _ _ _ _ _ (by kernel_rfl)]; simp [go_sem, binOp]
theorem and64 (a b : Int) : (binS .and 73 x y (.int .u64 a) (.int .u64 b)).run Try.prog w = .ok (.int .u64 (Go.bits .and .u64 a b)) w := by
  rw [binS_run _ _ _ _ _ _ (by kernel_rfl)]; simp [go_sem, binOp]
theorem or64 (a b : Int) : (binS .or 73 x y (.int .u64 a) (.int .u64 b)).run Try.prog w = .ok (.int .u64 (Go.bits .or .u64 a b)) w := by
  rw [binS_run _ _ _ _ _ _ (by kernel_rfl)]; simp [go_sem, binOp]
theorem xor64 (a b : Int) : (binS .xor 73 x y (.int .u64 a) (.int .u64 b)).run Try.prog w = .ok (.int .u64 (Go.bits .xor .u64 a b)) w := by
  rw [binS_run _ _ _ _ _ _ (by kernel_rfl)]; simp [go_sem, binOp]
theorem xorI (a b : Int) : (binS .xor 3 x y (.int .i64 a) (.int .i64 b)).run Try.prog w = .ok (.int .i64 (Go.bits .xor .i64 a b)) w := by
  rw [binS_run _ _ _ _ _ _ (by kernel_rfl)]; simp [go_sem, binOp]
theorem shl64 (a : Int) {k : Nat} (h : k < 64) : (binS .shl 73 x y (.int .u64 a) (.int .i64 (k : Int))).run Try.prog w = .ok (.int .u64 (IntKind.u64.wrap (a * 2 ^ k))) w := by
  rw [binS_run _ _ _ _ _ _ (by kernel_rfl)]
  have h1 : (0 : Int) ≤ k := by omega
  have h2 : (k : Int) < 64 := by omega
  have h3 : (k : Int) ≤ 64 := by omega
  simp [go_sem, binOp, h, h1, h2, h3]
theorem shl1 (a : Int) : (binS .shl 73 x y (.int .u64 a) (.int .u64 1)).run Try.prog w = .ok (.int .u64 (IntKind.u64.wrap (a * 2))) w := by
  rw [binS_run _ _ _ _ _ _ (by kernel_rfl)]
  simp [go_sem, binOp]
theorem shr1 (a : Int) : (binS .shr 73 x y (.int .u64 a) (.int .u64 1)).run Try.prog w = .ok (.int .u64 (a / 2)) w := by
  rw [binS_run _ _ _ _ _ _ (by kernel_rfl)]
  simp [go_sem, binOp]
theorem shr7 (a : Int) : (binS .shr 73 x y (.int .u64 a) (.int .u64 7)).run Try.prog w = .ok (.int .u64 (a / 128)) w := by
  rw [binS_run _ _ _ _ _ _ (by kernel_rfl)]
  simp [go_sem, binOp]
theorem shr63 (a : Int) : (binS .shr 3 x y (.int .i64 a) (.int .u64 63)).run Try.prog w = .ok (.int .i64 (a / 9223372036854775808)) w := by
  rw [binS_run _ _ _ _ _ _ (by kernel_rfl)]
  simp [go_sem, binOp]
theorem cv8_64 (a : Int) : (convert 5 73 (.int .u8 a)).run Try.prog w = .ok (.int .u64 (IntKind.u64.wrap a)) w := by simp [go_sem]
theorem cv64_i (a : Int) : (convert 73 3 (.int .u64 a)).run Try.prog w = .ok (.int .i64 (IntKind.i64.wrap a)) w := by simp [go_sem]
theorem cvi_64 (a : Int) : (convert 3 73 (.int .i64 a)).run Try.prog w = .ok (.int .u64 (IntKind.u64.wrap a)) w := by simp [go_sem]
theorem cv64_8 (a : Int) : (convert 73 5 (.int .u64 a)).run Try.prog w = .ok (.int .u8 (IntKind.u8.wrap a)) w := by simp [go_sem]
theorem negI (a : Int) : (Op.unary .neg (.int .i64 a)).run Try.prog w = .ok (.int .i64 (IntKind.i64.wrap (-a))) w := by simp [go_sem]
theorem iarr {b k : Nat} (h : k < 10) : (Instr.indexAt 96 (.pointer (some ⟨b, 0, none⟩)) (.int .i64 (k : Int))).run Try.prog w = .ok (.pointer (some ⟨b, k, none⟩)) w := by
  have h' : (k : Int) < 10 := by omega
  have e : Try.prog.arrayLen 96 = 10 := by kernel_rfl
  simp [go_sem, h', h, e, Addr.add]
  exact fun h => h.symm
theorem sarr {b k : Nat} (h : k ≤ 10) : (Instr.sliceAt 96 (.pointer (some ⟨b, 0, none⟩)) none (some (.int .i64 (k : Int))) none).run Try.prog w = .ok (.slice (some ⟨b, 0, none⟩) k 10) w := by
  have e : Try.prog.arrayLen 96 = 10 := by kernel_rfl
  have h' : ((k : Nat) : Int) ≤ Try.prog.arrayLen 96 := by rw [e]; omega
  rw [run_sliceAt_array_h (P := Try.prog) w 96 ⟨b, 0, none⟩ (by simp [Program.arrayLen, Program.elem, Try.underlying96]) .i64 (k : Int) (by omega) h']
  obtain ⟨i, hi⟩ := info_of_underlying Try.underlying5
  rw [show Try.prog.elem 96 = 5 from by simp [Program.elem, Try.underlying96], run_sizeOf w hi]
  simp [slicedAt, e, Addr.add]
end


end Go.Proofs.Ytnhgdngbdoifnaa.M
