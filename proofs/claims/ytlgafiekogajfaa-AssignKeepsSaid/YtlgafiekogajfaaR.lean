/- The steps of the plain reading at this seat's types; printed by a program of this work. -/
import Derived.Test.YtlgafiekogajfaaFw
import Derived.Test.YtlgafiekogajfaaProg
namespace Go.Proofs.Ytlgafiekogajfaa.M
open Go.Proofs.Ytlgafiekogajfaa.F Go.RowKit
set_option linter.unusedVariables false
set_option linter.unusedSimpArgs false
theorem len22 {A : Option Addr} {n c : Nat} {t : TypeId} {cs : Array Bool} (w : World) : (builtin .len #[22] t cs #[.slice A n c] : Sem Next).run Try.prog w = .ok (.value (.int .i64 (n : Int))) w := by simp [go_sem]
theorem sh22 {A : Option Addr} {n c k : Nat} (h : k ≤ c) (w : World) : (Instr.sliceAt 22 (.slice A n c) none (some (.int .i64 (k : Int))) none).run Try.prog w = .ok (.slice A k c) w := by
  have h' : ¬ c < k := by omega
  simp [go_sem, h', Addr.add]
theorem ne3 (x y : Operand) (a b : Int) (w : World) : (binS .neq 3 x y (.int .i64 a) (.int .i64 b)).run Try.prog w = .ok (.bool (decide (¬ a = b))) w := by
  by_cases h : a = b <;> simp [binS, go_sem, h]
theorem ix22 {g o n c k : Nat} (h : k < n) (w : World) : (Instr.indexAt 22 (.slice (some ⟨g, o, none⟩) n c) (.int .i64 (k : Int))).run Try.prog w = .ok (.pointer (some ⟨g, o + k, none⟩)) w := by
  have h' : (k : Int) < n := by omega
  simp [go_sem, h', h, add_none]
theorem ixz22 {g n c k : Nat} (h : k < n) (w : World) : (Instr.indexAt 22 (.slice (some ⟨g, 0, none⟩) n c) (.int .i64 (k : Int))).run Try.prog w = .ok (.pointer (some ⟨g, k, none⟩)) w := by
  rw [ix22 h]; simp
theorem ld3 {w : World} {p : Addr} {v : Value} (h : w.cell? p = some v) : (Instr.loadAt 3 (.pointer (some p))).run Try.prog w = .ok v w := by simp [go_sem, h]
theorem eq3 (x y : Operand) (a b : Int) (w : World) : (binS .eql 3 x y (.int .i64 a) (.int .i64 b)).run Try.prog w = .ok (.bool (decide (a = b))) w := by
  by_cases h : a = b <;> simp [binS, go_sem, h]
theorem sl22 : SlT Try.prog 22 3 1 8 (.int .i64 0) := by unfold SlT; exact ⟨by kernel_rfl, by kernel_rfl, by kernel_rfl, Nat.lt_of_lt_of_le (by decide) (Nat.le_refl _)⟩
theorem bs22_1 {a0 : Value} (o0 : a0.oneCell' = true) (w : World) : (Instr.buildSlice 22 1 #[(0, a0)]).run Try.prog w = .ok (.slice (some ⟨w.heap.size, 0, none⟩) 1 1) (w.alloc (.cells #[a0] 3)) := by
  have e : ∀ v : Value, v.oneCell' = true → v.cells = #[v] := fun v h => by cases v <;> first | rfl | (simp [Value.oneCell'] at h)
  simp only [Value.cells] at e
  simp [go_sem, e _ o0]
theorem so22 {A : Option Addr} {n c k : Nat} (h : k ≤ n) (hc : n ≤ c) (w : World) : (Instr.sliceAt 22 (.slice A n c) (some (.int .i64 (k : Int))) none none).run Try.prog w = .ok (.slice (if c = k then A else A.map (·.add (k))) (n - k) (c - k)) w := by
  have h' : ¬ n < k := by omega
  simp [go_sem, h', Addr.add]
theorem bs22_2 {a0 a1 : Value} (o0 : a0.oneCell' = true) (o1 : a1.oneCell' = true) (w : World) : (Instr.buildSlice 22 2 #[(0, a0), (1, a1)]).run Try.prog w = .ok (.slice (some ⟨w.heap.size, 0, none⟩) 2 2) (w.alloc (.cells #[a0, a1] 3)) := by
  have e : ∀ v : Value, v.oneCell' = true → v.cells = #[v] := fun v h => by cases v <;> first | rfl | (simp [Value.oneCell'] at h)
  simp only [Value.cells] at e
  simp [go_sem, e _ o0, e _ o1]
theorem bs22_3 {a0 a1 a2 : Value} (o0 : a0.oneCell' = true) (o1 : a1.oneCell' = true) (o2 : a2.oneCell' = true) (w : World) : (Instr.buildSlice 22 3 #[(0, a0), (1, a1), (2, a2)]).run Try.prog w = .ok (.slice (some ⟨w.heap.size, 0, none⟩) 3 3) (w.alloc (.cells #[a0, a1, a2] 3)) := by
  have e : ∀ v : Value, v.oneCell' = true → v.cells = #[v] := fun v h => by cases v <;> first | rfl | (simp [Value.oneCell'] at h)
  simp only [Value.cells] at e
  simp [go_sem, e _ o0, e _ o1, e _ o2]
theorem eq24 (x y : Operand) (a b : Int) (w : World) : (binS .eql 24 x y (.int .i64 a) (.int .i64 b)).run Try.prog w = .ok (.bool (decide (a = b))) w := by
  by_cases h : a = b <;> simp [binS, go_sem, h]
theorem bs22_5 {a0 a1 a2 a3 a4 : Value} (o0 : a0.oneCell' = true) (o1 : a1.oneCell' = true) (o2 : a2.oneCell' = true) (o3 : a3.oneCell' = true) (o4 : a4.oneCell' = true) (w : World) : (Instr.buildSlice 22 5 #[(0, a0), (1, a1), (2, a2), (3, a3), (4, a4)]).run Try.prog w = .ok (.slice (some ⟨w.heap.size, 0, none⟩) 5 5) (w.alloc (.cells #[a0, a1, a2, a3, a4] 3)) := by
  have e : ∀ v : Value, v.oneCell' = true → v.cells = #[v] := fun v h => by cases v <;> first | rfl | (simp [Value.oneCell'] at h)
  simp only [Value.cells] at e
  simp [go_sem, e _ o0, e _ o1, e _ o2, e _ o3, e _ o4]
theorem st3 {w : World} {p : Addr} {u v : Value} (h : w.cell? p = some u) (hf : w.frozen? p = false) (ho : v.oneCell' = true) : (Instr.storeAt 3 (.pointer (some p)) v).run Try.prog w = .ok () (w.setCell p v) := by
  cases v <;> first | (simp [Value.oneCell'] at ho; done) | (simp [go_sem, h, hf]; done) | (simp [go_sem]; rw [run_store _ _ _ _ _ rfl, h]; simp [hf])
theorem mm43 (w : World) : (Instr.makeMap 43 none).run Try.prog w = .ok (.map (some w.heap.size)) (w.alloc (.map #[] 0)) := run_makeMap _ _
theorem bd45_0_1 {a0 a1 : Value} (o0 : a0.oneCell' = true) (o1 : a1.oneCell' = true) (w : World) : (Instr.build 45 #[(0, a0), (1, a1)]).run Try.prog w = .ok (.agg #[a0, a1, .int .i64 0, .int .i64 0]) w := by
  have e : ∀ v : Value, v.oneCell' = true → v.cells = #[v] := fun v h => by cases v <;> first | rfl | (simp [Value.oneCell'] at h)
  simp only [Value.cells] at e
  simp [go_sem, e _ o0, e _ o1]
theorem bx45 (v0 v1 v2 v3 : Value) (w : World) : (Instr.box 45 (.agg #[v0, v1, v2, v3])).run Try.prog w = .ok (.pointer (some ⟨w.heap.size, 0, none⟩)) (w.alloc (.cells #[v0, v1, v2, v3] 45)) := by simp [go_sem]
theorem fa45_2 (b : Nat) (w : World) : (Instr.fieldAt 45 (.pointer (some ⟨b, 0, none⟩)) 2).run Try.prog w = .ok (.pointer (some ⟨b, 2, none⟩)) w := by kernel_rfl
theorem fao45_2 (b o : Nat) (w : World) : (Instr.fieldAt 45 (.pointer (some ⟨b, o, none⟩)) 2).run Try.prog w = .ok (.pointer (some ⟨b, o + 2, none⟩)) w := by kernel_rfl
theorem fa45_3 (b : Nat) (w : World) : (Instr.fieldAt 45 (.pointer (some ⟨b, 0, none⟩)) 3).run Try.prog w = .ok (.pointer (some ⟨b, 3, none⟩)) w := by kernel_rfl
theorem fao45_3 (b o : Nat) (w : World) : (Instr.fieldAt 45 (.pointer (some ⟨b, o, none⟩)) 3).run Try.prog w = .ok (.pointer (some ⟨b, o + 3, none⟩)) w := by kernel_rfl
theorem ld40 {w : World} {p : Addr} {v : Value} (h : w.cell? p = some v) : (Instr.loadAt 40 (.pointer (some p))).run Try.prog w = .ok v w := by simp [go_sem, h]
theorem fa45_1 (b : Nat) (w : World) : (Instr.fieldAt 45 (.pointer (some ⟨b, 0, none⟩)) 1).run Try.prog w = .ok (.pointer (some ⟨b, 1, none⟩)) w := by kernel_rfl
theorem fao45_1 (b o : Nat) (w : World) : (Instr.fieldAt 45 (.pointer (some ⟨b, o, none⟩)) 1).run Try.prog w = .ok (.pointer (some ⟨b, o + 1, none⟩)) w := by kernel_rfl
theorem ld43 {w : World} {p : Addr} {v : Value} (h : w.cell? p = some v) : (Instr.loadAt 43 (.pointer (some p))).run Try.prog w = .ok v w := by simp [go_sem, h]
theorem fa45_0 (b : Nat) (w : World) : (Instr.fieldAt 45 (.pointer (some ⟨b, 0, none⟩)) 0).run Try.prog w = .ok (.pointer (some ⟨b, 0, none⟩)) w := by kernel_rfl
theorem fao45_0 (b o : Nat) (w : World) : (Instr.fieldAt 45 (.pointer (some ⟨b, o, none⟩)) 0).run Try.prog w = .ok (.pointer (some ⟨b, o, none⟩)) w := by kernel_rfl
theorem ld22 {w : World} {p : Addr} {v : Value} (h : w.cell? p = some v) : (Instr.loadAt 22 (.pointer (some p))).run Try.prog w = .ok v w := by simp [go_sem, h]
theorem bx40 {v : Value} (ho : v.oneCell' = true) (w : World) : (Instr.box 40 v).run Try.prog w = .ok (.pointer (some ⟨w.heap.size, 0, none⟩)) (w.alloc (.cells #[v] 40)) := by
  cases v <;> first | (simp [Value.oneCell'] at ho; done) | simp [go_sem]
theorem mf32 (c0 : Value)  (w : World) : (Instr.makeFunc (Fn.func 32) #[] #[c0]).run Try.prog w = .ok (.func (.func 32) #[] #[c0]) w := by first | rfl | simp [go_sem]
theorem ne24 (x y : Operand) (a b : Int) (w : World) : (binS .neq 24 x y (.int .i64 a) (.int .i64 b)).run Try.prog w = .ok (.bool (decide (¬ a = b))) w := by
  by_cases h : a = b <;> simp [binS, go_sem, h]
theorem len36 {A : Option Addr} {n c : Nat} {t : TypeId} {cs : Array Bool} (w : World) : (builtin .len #[36] t cs #[.slice A n c] : Sem Next).run Try.prog w = .ok (.value (.int .i64 (n : Int))) w := by simp [go_sem]
theorem ix36 {g o n c k : Nat} (h : k < n) (w : World) : (Instr.indexAt 36 (.slice (some ⟨g, o, none⟩) n c) (.int .i64 (k : Int))).run Try.prog w = .ok (.pointer (some ⟨g, o + k, none⟩)) w := by
  have h' : (k : Int) < n := by omega
  simp [go_sem, h', h, add_none]
theorem ixz36 {g n c k : Nat} (h : k < n) (w : World) : (Instr.indexAt 36 (.slice (some ⟨g, 0, none⟩) n c) (.int .i64 (k : Int))).run Try.prog w = .ok (.pointer (some ⟨g, k, none⟩)) w := by
  rw [ix36 h]; simp
theorem ld4 {w : World} {p : Addr} {v : Value} (h : w.cell? p = some v) : (Instr.loadAt 4 (.pointer (some p))).run Try.prog w = .ok v w := by simp [go_sem, h]
end Go.Proofs.Ytlgafiekogajfaa.M
