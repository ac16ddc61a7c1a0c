/- What lz.at comes to. -/
import Derived.Test.YtahemhjlfajlkaaXBuild
import Derived.Test.YtahemhjlfajlkaaXPut
import Derived.WalkLawsBesides
namespace Go.Proofs.Ytahemhjlfajlkaa.PL
open Go.RowKit Go.Proofs.YtahemhjlfajlkaaW.PrintWords Go.Proofs.YtahemhjlfajlkaaW.PrintLast Go.Proofs.YtahemhjlfajlkaaW.PrintMore
set_option linter.unusedVariables false
set_option linter.unusedSimpArgs false

/-! ### lz.at -/
theorem run_arrayAt (T E n : Nat) (x : Addr) (len c : Nat) (w : World) (hT : Try.prog.underlying T = some (.array n E)) (h : n ≤ len) :
    (Instr.arrayAt T (.slice (some x) len c)).run Try.prog w = .ok (.pointer (some x)) w := by
  unfold Instr.arrayAt
  simp [run_underlying hT, Nat.not_lt.mpr h]
def byteAt (s : ByteArray) (i : Nat) : Nat := (s.data.toList.getD i 0).toNat
def gramV (s : ByteArray) (i : Nat) : Value := .agg #[.int .u8 (byteAt s i), .int .u8 (byteAt s (i + 1)), .int .u8 (byteAt s (i + 2)), .int .u8 (byteAt s (i + 3))]
theorem extract_at (s : ByteArray) (i j : Nat) (hi : i + 4 ≤ s.size) (hj : j < 4) : ((s.extract i (i + 4)).data.toList.getD j 0).toNat = byteAt s (i + j) := by
  unfold byteAt
  rw [ByteArray.data_extract]
  have h1 : i + j < s.data.size := by have : s.data.size = s.size := rfl; omega
  simp only [List.getD, Array.getElem?_toList]
  rw [Array.getElem?_extract]
  rw [if_pos (by have : s.data.size = s.size := rfl; omega)]
theorem conv_cells (w : World) (s : ByteArray) (i : Nat) (hi : i + 4 ≤ s.size) (hs : s.size ≤ 140737488355328) :
    ∃ (cap : Nat) (W1 : World), (convert 9 32 (.string (s.extract i (i + 4)))).run Try.prog (w.alloc (.cells #[.int .u8 0, .int .u8 0, .int .u8 0, .int .u8 0] 54)) = .ok (.slice (some ⟨w.heap.size + 1, 0, none⟩) 4 cap) W1 ∧
      W1.heap[w.heap.size]? = some (.cells #[.int .u8 0, .int .u8 0, .int .u8 0, .int .u8 0] 54 (0, 0)) ∧ Below w.heap.size w W1 ∧ W1.heap.size = w.heap.size + 2 ∧
      ∀ j, j < 4 → W1.cell? ⟨w.heap.size + 1, j, none⟩ = some (.int .u8 (byteAt s (i + j))) := by
  have hz : (s.extract i (i + 4)).size = 4 := by rw [ByteArray.size_extract]; omega
  have hcv := Lib.run_convert_string_bytes (P := Try.prog) (w.alloc (.cells #[.int .u8 0, .int .u8 0, .int .u8 0, .int .u8 0] 54)) 9 32 5 (s.extract i (i + 4)) Try.underlying9 Try.underlying32 Try.underlying5
  have hsz : (w.alloc (.cells #[.int .u8 0, .int .u8 0, .int .u8 0, .int .u8 0] 54)).heap.size = w.heap.size + 1 := by simp
  rw [hz, hsz] at hcv
  refine ⟨_, _, hcv, ?_, ?_, ?_, ?_⟩
  · rw [Lib.bytesWorld_at_old _ _ _ _ (by rw [hsz]; omega)]; exact blk_new w _
  · exact bytes_below (below_alloc (Below.refl _ _) _) (by rw [hsz]; omega) _ _
  · rw [Lib.bytesWorld_size, hsz]
  · intro j hj
    rw [← hsz, Lib.bytesWorld_cell _ _ _ _ (by rw [hz]; exact hj), extract_at s i j hi hj]
set_option maxHeartbeats 1000000 in
set_option maxRecDepth 100000 in
theorem at_walk (s : ByteArray) (i : Nat) (w : World) (hi : i + 4 ≤ s.size) (hs : s.size ≤ 1048576) :
    Calls Try.prog 24 #[.string s, .int .i64 i] w fun e w' => e = .returned (gramV s i) ∧ Below w.heap.size w w' := by
  have b1 : (0 ≤ (i : Int)) = True := eq_true (by omega)
  have b2 : ((i : Int) ≤ (i : Int) + 4) = True := eq_true (by omega)
  have b3 : ((i : Int) + 4 ≤ (s.size : Int)) = True := eq_true (by omega)
  obtain ⟨cap, W1, hcv, hb, hB, hsz, hc⟩ := conv_cells w s i hi (by omega)
  have har := fun (c : Nat) (w : World) (x : Addr) => run_arrayAt 54 5 4 x 4 c w Try.underlying54 (Nat.le_refl 4)
  have d0 := hc 0 (by omega)
  have d1 := hc 1 (by omega)
  have d2 := hc 2 (by omega)
  have d3 := hc 3 (by omega)
  have e0 : W1.cell? ⟨w.heap.size, 0, none⟩ = some (.int .u8 0) := by rw [blk_cell hb]; rfl
  have e1 : W1.cell? ⟨w.heap.size, 1, none⟩ = some (.int .u8 0) := by rw [blk_cell hb]; rfl
  have e2 : W1.cell? ⟨w.heap.size, 2, none⟩ = some (.int .u8 0) := by rw [blk_cell hb]; rfl
  have e3 : W1.cell? ⟨w.heap.size, 3, none⟩ = some (.int .u8 0) := by rw [blk_cell hb]; rfl
  have f0 : ∀ j, W1.frozen? ⟨w.heap.size, j, none⟩ = false := fun j => blk_frozen hb j
  have HSZ := Lib.hid hsz
  clear hc hsz
  go_enter Try.func24, Try.ntmps24
  go_wp2
  refine bodyPost_ret (v := gramV s i) ?_ rfl ⟨rfl, ?_⟩
  · have hb5 := blk_set (blk_set (blk_set (blk_set hb 0 (.int .u8 (byteAt s i))) 1 (.int .u8 (byteAt s (i + 1)))) 2 (.int .u8 (byteAt s (i + 2)))) 3 (.int .u8 (byteAt s (i + 3)))
    revert hb5
    generalize ((((W1.setCell ⟨w.heap.size, 0, none⟩ (.int .u8 (byteAt s i))).setCell ⟨w.heap.size, 1, none⟩ (.int .u8 (byteAt s (i + 1)))).setCell ⟨w.heap.size, 2, none⟩ (.int .u8 (byteAt s (i + 2)))).setCell ⟨w.heap.size, 3, none⟩ (.int .u8 (byteAt s (i + 3)))) = W5
    intro hb5
    have g0 : W5.cell? ⟨w.heap.size, 0, none⟩ = some (.int .u8 (byteAt s i)) := by rw [blk_cell hb5]; rfl
    have g1 : W5.cell? ⟨w.heap.size, 1, none⟩ = some (.int .u8 (byteAt s (i + 1))) := by rw [blk_cell hb5]; rfl
    have g2 : W5.cell? ⟨w.heap.size, 2, none⟩ = some (.int .u8 (byteAt s (i + 2))) := by rw [blk_cell hb5]; rfl
    have g3 : W5.cell? ⟨w.heap.size, 3, none⟩ = some (.int .u8 (byteAt s (i + 3))) := by rw [blk_cell hb5]; rfl
    clear har hcv d0 d1 d2 d3 e0 e1 e2 e3 f0 b1 b2 b3 hb hb5
    simp [results, Try.results24, go_sem, gramV, g0, g1, g2, g3]
  · exact (((hB.setCell (Nat.le_refl _) _).setCell (Nat.le_refl _) _).setCell (Nat.le_refl _) _).setCell (Nat.le_refl _) _
end Go.Proofs.Ytahemhjlfajlkaa.PL
