/- Parts of a proof, in one text: what it needs of R, V2, Mbase0, V3, FwL, FwW, V4, V5. -/
import Derived.Test.YtcldjjmfpmkldaaGreatDoorJCleanerSaves1
import Derived.Test.YtcldjjmfpmkldaaGreatDoorProg
import Derived.Deep.Slices
import Derived.Deep.Fields
import Derived.SizedLaws
namespace Go.Proofs.YtcldjjmfpmkldaaGreatDoor.M
open Go.Proofs.YtcldjjmfpmkldaaGreatDoor.F Go.RowKit
set_option linter.unusedVariables false
set_option linter.unusedSimpArgs false
theorem bytes_inj {a b : ByteArray} (h : a.toList = b.toList) : a = b := by
  rw [ByteArray.toList_eq, ByteArray.toList_eq] at h
  exact ByteArray.ext (Array.toList_inj.mp h)
theorem bytes_iff {a b : ByteArray} : a.toList = b.toList ↔ a = b := ⟨bytes_inj, fun e => e ▸ rfl⟩
theorem eq9 (x y : Operand) (a b : ByteArray) (w : World) : (binS .eql 9 x y (.string a) (.string b)).run Tryz.prog w = .ok (.bool (decide (a = b))) w := by
  by_cases h : a = b
  · simp [binS, go_sem, h]
  · have h' : ¬ a.toList = b.toList := fun e => h (bytes_inj e)
    simp [binS, go_sem, h, h']
theorem len9 {s : ByteArray} {t : TypeId} {cs : Array Bool} (w : World) : (builtin .len #[9] t cs #[.string s] : Sem Next).run Tryz.prog w = .ok (.value (.int .i64 (s.size : Int))) w := by simp [go_sem]
theorem eq3 (x y : Operand) (a b : Int) (w : World) : (binS .eql 3 x y (.int .i64 a) (.int .i64 b)).run Tryz.prog w = .ok (.bool (decide (a = b))) w := by
  by_cases h : a = b <;> simp [binS, go_sem, h]
theorem ne9 (x y : Operand) (a b : ByteArray) (w : World) : (binS .neq 9 x y (.string a) (.string b)).run Tryz.prog w = .ok (.bool (decide (¬ a = b))) w := by
  by_cases h : a = b
  · simp [binS, go_sem, h]
  · have h' : ¬ a.toList = b.toList := fun e => h (bytes_inj e)
    simp [binS, go_sem, h, h']
theorem bd61_0_1_2 {a0 a1 a2 : Value} (o0 : a0.oneCell' = true) (o1 : a1.oneCell' = true) (o2 : a2.oneCell' = true) (w : World) : (Instr.build 61 #[(0, a0), (1, a1), (2, a2)]).run Tryz.prog w = .ok (.agg #[a0, a1, a2, .bool false]) w := by
  have e : ∀ v : Value, v.oneCell' = true → v.cells = #[v] := fun v h => by cases v <;> first | rfl | (simp [Value.oneCell'] at h)
  simp only [Value.cells] at e
  simp [go_sem, e _ o0, e _ o1, e _ o2]
theorem bx61 (v0 v1 v2 v3 : Value) (w : World) : (Instr.box 61 (.agg #[v0, v1, v2, v3])).run Tryz.prog w = .ok (.pointer (some ⟨w.heap.size, 0, none⟩)) (w.alloc (.cells #[v0, v1, v2, v3] 61)) := by simp [go_sem]
theorem ne25n (x y : Operand) (w : World) : (binS .neq 25 x y (.pointer none) (.pointer none)).run Tryz.prog w = .ok (.bool false) w := by
  simp [binS, go_sem]
theorem ne25s (x y : Operand) (p : Addr) (w : World) : (binS .neq 25 x y (.pointer (some p)) (.pointer none)).run Tryz.prog w = .ok (.bool true) w := by
  simp [binS, go_sem]
theorem fa61_2 (b : Nat) (w : World) : (Instr.fieldAt 61 (.pointer (some ⟨b, 0, none⟩)) 2).run Tryz.prog w = .ok (.pointer (some ⟨b, 2, none⟩)) w := by kernel_rfl
theorem fao61_2 (b o : Nat) (w : World) : (Instr.fieldAt 61 (.pointer (some ⟨b, o, none⟩)) 2).run Tryz.prog w = .ok (.pointer (some ⟨b, o + 2, none⟩)) w := by kernel_rfl
theorem st3 {w : World} {p : Addr} {u v : Value} (h : w.cell? p = some u) (hf : w.frozen? p = false) (ho : v.oneCell' = true) : (Instr.storeAt 3 (.pointer (some p)) v).run Tryz.prog w = .ok () (w.setCell p v) := by
  cases v <;> first | (simp [Value.oneCell'] at ho; done) | (simp [go_sem, h, hf]; done) | (simp [go_sem]; rw [run_store _ _ _ _ _ rfl, h]; simp [hf])
theorem eq25n (x y : Operand) (w : World) : (binS .eql 25 x y (.pointer none) (.pointer none)).run Tryz.prog w = .ok (.bool true) w := by
  simp [binS, go_sem]
theorem eq25s (x y : Operand) (p : Addr) (w : World) : (binS .eql 25 x y (.pointer (some p)) (.pointer none)).run Tryz.prog w = .ok (.bool false) w := by
  simp [binS, go_sem]
theorem fa61_3 (b : Nat) (w : World) : (Instr.fieldAt 61 (.pointer (some ⟨b, 0, none⟩)) 3).run Tryz.prog w = .ok (.pointer (some ⟨b, 3, none⟩)) w := by kernel_rfl
theorem fao61_3 (b o : Nat) (w : World) : (Instr.fieldAt 61 (.pointer (some ⟨b, o, none⟩)) 3).run Tryz.prog w = .ok (.pointer (some ⟨b, o + 3, none⟩)) w := by kernel_rfl
theorem ld4 {w : World} {p : Addr} {v : Value} (h : w.cell? p = some v) : (Instr.loadAt 4 (.pointer (some p))).run Tryz.prog w = .ok v w := by simp [go_sem, h]
theorem fa61_1 (b : Nat) (w : World) : (Instr.fieldAt 61 (.pointer (some ⟨b, 0, none⟩)) 1).run Tryz.prog w = .ok (.pointer (some ⟨b, 1, none⟩)) w := by kernel_rfl
theorem fao61_1 (b o : Nat) (w : World) : (Instr.fieldAt 61 (.pointer (some ⟨b, o, none⟩)) 1).run Tryz.prog w = .ok (.pointer (some ⟨b, o + 1, none⟩)) w := by kernel_rfl
theorem ld3 {w : World} {p : Addr} {v : Value} (h : w.cell? p = some v) : (Instr.loadAt 3 (.pointer (some p))).run Tryz.prog w = .ok v w := by simp [go_sem, h]
theorem len71 {A : Option Addr} {n c : Nat} {t : TypeId} {cs : Array Bool} (w : World) : (builtin .len #[71] t cs #[.slice A n c] : Sem Next).run Tryz.prog w = .ok (.value (.int .i64 (n : Int))) w := by simp [go_sem]
theorem ix71 {g o n c k : Nat} (h : k < n) (w : World) : (Instr.indexAt 71 (.slice (some ⟨g, o, none⟩) n c) (.int .i64 (k : Int))).run Tryz.prog w = .ok (.pointer (some ⟨g, o + k, none⟩)) w := by
  have h' : (k : Int) < n := by omega
  simp [go_sem, h', h, add_none]
theorem ld9 {w : World} {p : Addr} {v : Value} (h : w.cell? p = some v) : (Instr.loadAt 9 (.pointer (some p))).run Tryz.prog w = .ok v w := by simp [go_sem, h]
theorem fa78_0 (b : Nat) (w : World) : (Instr.fieldAt 78 (.pointer (some ⟨b, 0, none⟩)) 0).run Tryz.prog w = .ok (.pointer (some ⟨b, 0, none⟩)) w := by kernel_rfl
theorem fao78_0 (b o : Nat) (w : World) : (Instr.fieldAt 78 (.pointer (some ⟨b, o, none⟩)) 0).run Tryz.prog w = .ok (.pointer (some ⟨b, o, none⟩)) w := by kernel_rfl
theorem fa78_1 (b : Nat) (w : World) : (Instr.fieldAt 78 (.pointer (some ⟨b, 0, none⟩)) 1).run Tryz.prog w = .ok (.pointer (some ⟨b, 1, none⟩)) w := by kernel_rfl
theorem fao78_1 (b o : Nat) (w : World) : (Instr.fieldAt 78 (.pointer (some ⟨b, o, none⟩)) 1).run Tryz.prog w = .ok (.pointer (some ⟨b, o + 1, none⟩)) w := by kernel_rfl
theorem st4 {w : World} {p : Addr} {u v : Value} (h : w.cell? p = some u) (hf : w.frozen? p = false) (ho : v.oneCell' = true) : (Instr.storeAt 4 (.pointer (some p)) v).run Tryz.prog w = .ok () (w.setCell p v) := by
  cases v <;> first | (simp [Value.oneCell'] at ho; done) | (simp [go_sem, h, hf]; done) | (simp [go_sem]; rw [run_store _ _ _ _ _ rfl, h]; simp [hf])
theorem bs71_1 {a0 : Value} (o0 : a0.oneCell' = true) (w : World) : (Instr.buildSlice 71 1 #[(0, a0)]).run Tryz.prog w = .ok (.slice (some ⟨w.heap.size, 0, none⟩) 1 1) (w.alloc (.cells #[a0] 9)) := by
  have e : ∀ v : Value, v.oneCell' = true → v.cells = #[v] := fun v h => by cases v <;> first | rfl | (simp [Value.oneCell'] at h)
  simp only [Value.cells] at e
  simp [go_sem, e _ o0]
theorem ne26 (x y : Operand) (a b : Int) (w : World) : (binS .neq 26 x y (.int .i64 a) (.int .i64 b)).run Tryz.prog w = .ok (.bool (decide (¬ a = b))) w := by
  by_cases h : a = b <;> simp [binS, go_sem, h]
theorem fa61_0 (b : Nat) (w : World) : (Instr.fieldAt 61 (.pointer (some ⟨b, 0, none⟩)) 0).run Tryz.prog w = .ok (.pointer (some ⟨b, 0, none⟩)) w := by kernel_rfl
theorem fao61_0 (b o : Nat) (w : World) : (Instr.fieldAt 61 (.pointer (some ⟨b, o, none⟩)) 0).run Tryz.prog w = .ok (.pointer (some ⟨b, o, none⟩)) w := by kernel_rfl
theorem ld59 {w : World} {p : Addr} {v : Value} (h : w.cell? p = some v) : (Instr.loadAt 59 (.pointer (some p))).run Tryz.prog w = .ok v w := by simp [go_sem, h]
theorem eq76n (x y : Operand) (w : World) : (binS .eql 76 x y (.pointer none) (.pointer none)).run Tryz.prog w = .ok (.bool true) w := by
  simp [binS, go_sem]
theorem eq76s (x y : Operand) (p : Addr) (w : World) : (binS .eql 76 x y (.pointer (some p)) (.pointer none)).run Tryz.prog w = .ok (.bool false) w := by
  simp [binS, go_sem]
theorem ld25 {w : World} {p : Addr} {v : Value} (h : w.cell? p = some v) : (Instr.loadAt 25 (.pointer (some p))).run Tryz.prog w = .ok v w := by simp [go_sem, h]
theorem ne76n (x y : Operand) (w : World) : (binS .neq 76 x y (.pointer none) (.pointer none)).run Tryz.prog w = .ok (.bool false) w := by
  simp [binS, go_sem]
theorem ne76s (x y : Operand) (p : Addr) (w : World) : (binS .neq 76 x y (.pointer (some p)) (.pointer none)).run Tryz.prog w = .ok (.bool true) w := by
  simp [binS, go_sem]
theorem st9 {w : World} {p : Addr} {u v : Value} (h : w.cell? p = some u) (hf : w.frozen? p = false) (ho : v.oneCell' = true) : (Instr.storeAt 9 (.pointer (some p)) v).run Tryz.prog w = .ok () (w.setCell p v) := by
  cases v <;> first | (simp [Value.oneCell'] at ho; done) | (simp [go_sem, h, hf]; done) | (simp [go_sem]; rw [run_store _ _ _ _ _ rfl, h]; simp [hf])
theorem bx25 {v : Value} (ho : v.oneCell' = true) (w : World) : (Instr.box 25 v).run Tryz.prog w = .ok (.pointer (some ⟨w.heap.size, 0, none⟩)) (w.alloc (.cells #[v] 25)) := by
  cases v <;> first | (simp [Value.oneCell'] at ho; done) | simp [go_sem]
theorem bx9 {v : Value} (ho : v.oneCell' = true) (w : World) : (Instr.box 9 v).run Tryz.prog w = .ok (.pointer (some ⟨w.heap.size, 0, none⟩)) (w.alloc (.cells #[v] 9)) := by
  cases v <;> first | (simp [Value.oneCell'] at ho; done) | simp [go_sem]
theorem mf66 (c0 : Value) (c1 : Value)  (w : World) : (Instr.makeFunc (Fn.func 66) #[] #[c0, c1]).run Tryz.prog w = .ok (.func (.func 66) #[] #[c0, c1]) w := by first | rfl | simp [go_sem]
theorem bd78  (w : World) : (Instr.build 78 #[]).run Tryz.prog w = .ok (.agg #[.string ⟨#[]⟩, .string ⟨#[]⟩]) w := by
  have e : ∀ v : Value, v.oneCell' = true → v.cells = #[v] := fun v h => by cases v <;> first | rfl | (simp [Value.oneCell'] at h)
  simp only [Value.cells] at e
  simp [go_sem, Value.cells]
theorem bx78 (v0 v1 : Value) (w : World) : (Instr.box 78 (.agg #[v0, v1])).run Tryz.prog w = .ok (.pointer (some ⟨w.heap.size, 0, none⟩)) (w.alloc (.cells #[v0, v1] 78)) := by simp [go_sem]
theorem len23 {A : Option Addr} {n c : Nat} {t : TypeId} {cs : Array Bool} (w : World) : (builtin .len #[23] t cs #[.slice A n c] : Sem Next).run Tryz.prog w = .ok (.value (.int .i64 (n : Int))) w := by simp [go_sem]
theorem ix23 {g o n c k : Nat} (h : k < n) (w : World) : (Instr.indexAt 23 (.slice (some ⟨g, o, none⟩) n c) (.int .i64 (k : Int))).run Tryz.prog w = .ok (.pointer (some ⟨g, o + k, none⟩)) w := by
  have h' : (k : Int) < n := by omega
  simp [go_sem, h', h, add_none]
theorem ixz23 {g n c k : Nat} (h : k < n) (w : World) : (Instr.indexAt 23 (.slice (some ⟨g, 0, none⟩) n c) (.int .i64 (k : Int))).run Tryz.prog w = .ok (.pointer (some ⟨g, k, none⟩)) w := by
  rw [ix23 h]; simp
theorem bd67_0_1_2 {a0 a1 a2 : Value} (o0 : a0.oneCell' = true) (o1 : a1.oneCell' = true) (o2 : a2.oneCell' = true) (w : World) : (Instr.build 67 #[(0, a0), (1, a1), (2, a2)]).run Tryz.prog w = .ok (.agg #[a0, a1, a2]) w := by
  have e : ∀ v : Value, v.oneCell' = true → v.cells = #[v] := fun v h => by cases v <;> first | rfl | (simp [Value.oneCell'] at h)
  simp only [Value.cells] at e
  simp [go_sem, e _ o0, e _ o1, e _ o2]
theorem sl39 : SlT Tryz.prog 39 67 3 48 (.agg #[.string ⟨#[]⟩, .string ⟨#[]⟩, .string ⟨#[]⟩]) := by unfold SlT; exact ⟨by kernel_rfl, by kernel_rfl, by kernel_rfl, Nat.lt_of_lt_of_le (by decide) (Nat.le_refl _)⟩
theorem bs39_1 {a0_0 a0_1 a0_2 : Value} (w : World) : (Instr.buildSlice 39 1 #[(0, .agg #[a0_0, a0_1, a0_2])]).run Tryz.prog w = .ok (.slice (some ⟨w.heap.size, 0, none⟩) 1 1) (w.alloc (.cells #[a0_0, a0_1, a0_2] 67)) := by
  have e : ∀ v : Value, v.oneCell' = true → v.cells = #[v] := fun v h => by cases v <;> first | rfl | (simp [Value.oneCell'] at h)
  simp only [Value.cells] at e
  simp [go_sem]
theorem bs71_2 {a0 a1 : Value} (o0 : a0.oneCell' = true) (o1 : a1.oneCell' = true) (w : World) : (Instr.buildSlice 71 2 #[(0, a0), (1, a1)]).run Tryz.prog w = .ok (.slice (some ⟨w.heap.size, 0, none⟩) 2 2) (w.alloc (.cells #[a0, a1] 9)) := by
  have e : ∀ v : Value, v.oneCell' = true → v.cells = #[v] := fun v h => by cases v <;> first | rfl | (simp [Value.oneCell'] at h)
  simp only [Value.cells] at e
  simp [go_sem, e _ o0, e _ o1]
theorem mf68 (c0 : Value) (c1 : Value) (c2 : Value)  (w : World) : (Instr.makeFunc (Fn.func 68) #[] #[c0, c1, c2]).run Tryz.prog w = .ok (.func (.func 68) #[] #[c0, c1, c2]) w := by first | rfl | simp [go_sem]
theorem len39 {A : Option Addr} {n c : Nat} {t : TypeId} {cs : Array Bool} (w : World) : (builtin .len #[39] t cs #[.slice A n c] : Sem Next).run Tryz.prog w = .ok (.value (.int .i64 (n : Int))) w := by simp [go_sem]
theorem ne3 (x y : Operand) (a b : Int) (w : World) : (binS .neq 3 x y (.int .i64 a) (.int .i64 b)).run Tryz.prog w = .ok (.bool (decide (¬ a = b))) w := by
  by_cases h : a = b <;> simp [binS, go_sem, h]
theorem ix39 {g o n c k : Nat} (h : k < n) (w : World) : (Instr.indexAt 39 (.slice (some ⟨g, o, none⟩) n c) (.int .i64 (k : Int))).run Tryz.prog w = .ok (.pointer (some ⟨g, o + k * 3, none⟩)) w := by
  have h' : (k : Int) < n := by omega
  simp [go_sem, h', h, add_none]
theorem ld67 {w : World} {b o : Nat} {v0 v1 v2 : Value} (h0 : w.cell? ⟨b, o, none⟩ = some v0) (h1 : w.cell? ⟨b, o + 1, none⟩ = some v1) (h2 : w.cell? ⟨b, o + 2, none⟩ = some v2) : (Instr.loadAt 67 (.pointer (some ⟨b, o, none⟩))).run Tryz.prog w = .ok (.agg #[v0, v1, v2]) w := by simp [go_sem, Addr.add, h0, h1, h2]
theorem ls67 {w0 w : World} {F : List Nat} {L : List Res} {b tt : Nat} {K : Value → World → Prop} {v0 v1 v2 : Value} (k : Nat) (hS : St w0 F w L) (hk : L[k]? = some (Res.cells b tt [v0, v1, v2])) (h : K (.agg #[v0, v1, v2]) w) : valP Tryz.prog (Instr.loadAt 67 (.pointer (some ⟨b, 0, none⟩))) w K :=
  valP_ok (ld67 (hS.cell k hk rfl) (hS.cell k hk rfl) (hS.cell k hk rfl)) h
theorem ne67 (x y : Operand) (a0 : ByteArray) (a1 : ByteArray) (a2 : ByteArray) (b0 : ByteArray) (b1 : ByteArray) (b2 : ByteArray) (w : World) : (binS .neq 67 x y (.agg #[.string a0, .string a1, .string a2]) (.agg #[.string b0, .string b1, .string b2])).run Tryz.prog w = .ok (.bool (decide (¬ (a0 = b0 ∧ a1 = b1 ∧ a2 = b2)))) w := by
  rw [binS_run _ _ _ _ _ _ (by kernel_rfl), run_neq_struct, run_equalIn_struct w 9999 67 _ _ (by simp [Program.fieldsOf, Tryz.underlying67]) (by kernel_rfl)]
  by_cases h0 : a0 = b0 <;> by_cases h1 : a1 = b1 <;> by_cases h2 : a2 = b2 <;> simp [go_sem, Program.fieldsOf, Tryz.underlying67, Op.eqFields, bytes_iff, *]
theorem eq5 (x y : Operand) (a b : Int) (w : World) : (binS .eql 5 x y (.int .u8 a) (.int .u8 b)).run Tryz.prog w = .ok (.bool (decide (a = b))) w := by
  by_cases h : a = b <;> simp [binS, go_sem, h]
theorem al127 (w : World) : (Instr.alloc 127 true (.tuple #[])).run Tryz.prog w = .ok (.pointer (some ⟨w.heap.size, 0, none⟩)) (w.alloc (.cells #[.int .u8 0, .int .u8 0, .int .u8 0, .int .u8 0, .int .u8 0, .int .u8 0, .int .u8 0, .int .u8 0, .int .u8 0, .int .u8 0] 127)) := by simp [go_sem]
theorem st5 {w : World} {p : Addr} {u v : Value} (h : w.cell? p = some u) (hf : w.frozen? p = false) (ho : v.oneCell' = true) : (Instr.storeAt 5 (.pointer (some p)) v).run Tryz.prog w = .ok () (w.setCell p v) := by
  cases v <;> first | (simp [Value.oneCell'] at ho; done) | (simp [go_sem, h, hf]; done) | (simp [go_sem]; rw [run_store _ _ _ _ _ rfl, h]; simp [hf])
theorem eq117 (x y : Operand) (a b : Int) (w : World) : (binS .eql 117 x y (.int .u64 a) (.int .u64 b)).run Tryz.prog w = .ok (.bool (decide (a = b))) w := by
  by_cases h : a = b <;> simp [binS, go_sem, h]
theorem sl97 : SlT Tryz.prog 97 5 1 1 (.int .u8 0) := by unfold SlT; exact ⟨by kernel_rfl, by kernel_rfl, by kernel_rfl, Nat.lt_of_lt_of_le (by decide) (Nat.le_refl _)⟩
theorem bs97_1 {a0 : Value} (o0 : a0.oneCell' = true) (w : World) : (Instr.buildSlice 97 1 #[(0, a0)]).run Tryz.prog w = .ok (.slice (some ⟨w.heap.size, 0, none⟩) 1 1) (w.alloc (.cells #[a0] 5)) := by
  have e : ∀ v : Value, v.oneCell' = true → v.cells = #[v] := fun v h => by cases v <;> first | rfl | (simp [Value.oneCell'] at h)
  simp only [Value.cells] at e
  simp [go_sem, e _ o0]
theorem bx56 (v0 v1 v2 : Value) (w : World) : (Instr.box 56 (.agg #[v0, v1, v2])).run Tryz.prog w = .ok (.pointer (some ⟨w.heap.size, 0, none⟩)) (w.alloc (.cells #[v0, v1, v2] 56)) := by simp [go_sem]
theorem al56 (w : World) : (Instr.alloc 56 true (.tuple #[])).run Tryz.prog w = .ok (.pointer (some ⟨w.heap.size, 0, none⟩)) (w.alloc (.cells #[.int .i64 0, .int .i64 0, .string ⟨#[]⟩] 56)) := by simp [go_sem]
theorem fa56_2 (b : Nat) (w : World) : (Instr.fieldAt 56 (.pointer (some ⟨b, 0, none⟩)) 2).run Tryz.prog w = .ok (.pointer (some ⟨b, 2, none⟩)) w := by kernel_rfl
theorem fao56_2 (b o : Nat) (w : World) : (Instr.fieldAt 56 (.pointer (some ⟨b, o, none⟩)) 2).run Tryz.prog w = .ok (.pointer (some ⟨b, o + 2, none⟩)) w := by kernel_rfl
theorem bd56  (w : World) : (Instr.build 56 #[]).run Tryz.prog w = .ok (.agg #[.int .i64 0, .int .i64 0, .string ⟨#[]⟩]) w := by
  have e : ∀ v : Value, v.oneCell' = true → v.cells = #[v] := fun v h => by cases v <;> first | rfl | (simp [Value.oneCell'] at h)
  simp only [Value.cells] at e
  simp [go_sem, Value.cells]
theorem st56 {w : World} {b o : Nat} {v0 v1 v2 : Value} {u0 u1 u2 : Value} (h0 : w.cell? ⟨b, o, none⟩ = some u0) (h1 : w.cell? ⟨b, o + 1, none⟩ = some u1) (h2 : w.cell? ⟨b, o + 2, none⟩ = some u2) (f0 : w.frozen? ⟨b, o, none⟩ = false) (o0 : v0.oneCell' = true) (f1 : w.frozen? ⟨b, o + 1, none⟩ = false) (o1 : v1.oneCell' = true) (f2 : w.frozen? ⟨b, o + 2, none⟩ = false) (o2 : v2.oneCell' = true) : (Instr.storeAt 56 (.pointer (some ⟨b, o, none⟩)) (.agg #[v0, v1, v2])).run Tryz.prog w = .ok () (((w.setCell ⟨b, o, none⟩ v0).setCell ⟨b, o + 1, none⟩ v1).setCell ⟨b, o + 2, none⟩ v2) := by
  simp [go_sem, Addr.add, h0, h1, h2, f0, f1, f2, o0, o1, o2, run_store, World.cell?_setCell_other, World.frozen?_setCell]
theorem ss56 {w0 w : World} {F : List Nat} {L : List Res} {b tt : Nat} {K : Value → World → Prop} {v0 v1 v2 u0 u1 u2 : Value} (k : Nat) (hS : St w0 F w L) (hk : L[k]? = some (Res.cells b tt [u0, u1, u2])) (o0 : v0.oneCell' = true) (o1 : v1.oneCell' = true) (o2 : v2.oneCell' = true) (h : ∀ w', St w0 F w' (L.set k (Res.cells b tt [v0, v1, v2])) → K undef w') : unitP Tryz.prog (Instr.storeAt 56 (.pointer (some ⟨b, 0, none⟩)) (.agg #[v0, v1, v2])) w K := by
  obtain ⟨hkl, _⟩ := List.getElem?_eq_some_iff.1 hk
  have hf := fun i => hS.frozen (i := i) k hk
  have s1 := hS.set (b := b) (t := tt) (cs := [u0, u1, u2]) (i := 0) k v0 hk
  have s2 := s1.set (b := b) (t := tt) (cs := [v0, u1, u2]) (i := 1) k v1 (by simp [hkl])
  have s3 := s2.set (b := b) (t := tt) (cs := [v0, v1, u2]) (i := 2) k v2 (by simp [hkl])
  simp only [List.set_set, List.set_cons_zero, List.set_cons_succ] at s3
  exact unitP_ok (st56 (hS.cell k hk rfl) (hS.cell k hk rfl) (hS.cell k hk rfl) (hf _) o0 (hf _) o1 (hf _) o2) (h _ s3)
theorem bd56_2 {a2 : Value} (o2 : a2.oneCell' = true) (w : World) : (Instr.build 56 #[(2, a2)]).run Tryz.prog w = .ok (.agg #[.int .i64 0, .int .i64 0, a2]) w := by
  have e : ∀ v : Value, v.oneCell' = true → v.cells = #[v] := fun v h => by cases v <;> first | rfl | (simp [Value.oneCell'] at h)
  simp only [Value.cells] at e
  simp [go_sem, e _ o2]
theorem fa56_0 (b : Nat) (w : World) : (Instr.fieldAt 56 (.pointer (some ⟨b, 0, none⟩)) 0).run Tryz.prog w = .ok (.pointer (some ⟨b, 0, none⟩)) w := by kernel_rfl
theorem fao56_0 (b o : Nat) (w : World) : (Instr.fieldAt 56 (.pointer (some ⟨b, o, none⟩)) 0).run Tryz.prog w = .ok (.pointer (some ⟨b, o, none⟩)) w := by kernel_rfl
theorem fa56_1 (b : Nat) (w : World) : (Instr.fieldAt 56 (.pointer (some ⟨b, 0, none⟩)) 1).run Tryz.prog w = .ok (.pointer (some ⟨b, 1, none⟩)) w := by kernel_rfl
theorem fao56_1 (b o : Nat) (w : World) : (Instr.fieldAt 56 (.pointer (some ⟨b, o, none⟩)) 1).run Tryz.prog w = .ok (.pointer (some ⟨b, o + 1, none⟩)) w := by kernel_rfl
theorem bd56_0_1 {a0 a1 : Value} (o0 : a0.oneCell' = true) (o1 : a1.oneCell' = true) (w : World) : (Instr.build 56 #[(0, a0), (1, a1)]).run Tryz.prog w = .ok (.agg #[a0, a1, .string ⟨#[]⟩]) w := by
  have e : ∀ v : Value, v.oneCell' = true → v.cells = #[v] := fun v h => by cases v <;> first | rfl | (simp [Value.oneCell'] at h)
  simp only [Value.cells] at e
  simp [go_sem, e _ o0, e _ o1]
theorem ld56 {w : World} {b o : Nat} {v0 v1 v2 : Value} (h0 : w.cell? ⟨b, o, none⟩ = some v0) (h1 : w.cell? ⟨b, o + 1, none⟩ = some v1) (h2 : w.cell? ⟨b, o + 2, none⟩ = some v2) : (Instr.loadAt 56 (.pointer (some ⟨b, o, none⟩))).run Tryz.prog w = .ok (.agg #[v0, v1, v2]) w := by simp [go_sem, Addr.add, h0, h1, h2]
theorem lc56 {w : World} {b o : Nat} {v0 v1 v2 : Value} (h0 : w.cell? ⟨b, o, none⟩ = some v0) (h1 : w.cell? ⟨b, o + 1, none⟩ = some v1) (h2 : w.cell? ⟨b, o + 2, none⟩ = some v2) : (loadC 56 (.pointer (some ⟨b, o, none⟩))).run Tryz.prog w = .ok (.agg #[v0, v1, v2]) w := by simp [loadC, go_sem, Addr.add, h0, h1, h2]
theorem len22 {A : Option Addr} {n c : Nat} {t : TypeId} {cs : Array Bool} (w : World) : (builtin .len #[22] t cs #[.slice A n c] : Sem Next).run Tryz.prog w = .ok (.value (.int .i64 (n : Int))) w := by simp [go_sem]
theorem sh22 {A : Option Addr} {n c k : Nat} (h : k ≤ c) (w : World) : (Instr.sliceAt 22 (.slice A n c) none (some (.int .i64 (k : Int))) none).run Tryz.prog w = .ok (.slice A k c) w := by
  have h' : ¬ c < k := by omega
  simp [go_sem, h', Addr.add]
theorem ix22 {g o n c k : Nat} (h : k < n) (w : World) : (Instr.indexAt 22 (.slice (some ⟨g, o, none⟩) n c) (.int .i64 (k : Int))).run Tryz.prog w = .ok (.pointer (some ⟨g, o + k * 4, none⟩)) w := by
  have h' : (k : Int) < n := by omega
  simp [go_sem, h', h, add_none]
theorem ld58 {w : World} {b o : Nat} {v0 v1 v2 v3 : Value} (h0 : w.cell? ⟨b, o, none⟩ = some v0) (h1 : w.cell? ⟨b, o + 1, none⟩ = some v1) (h2 : w.cell? ⟨b, o + 2, none⟩ = some v2) (h3 : w.cell? ⟨b, o + 3, none⟩ = some v3) : (Instr.loadAt 58 (.pointer (some ⟨b, o, none⟩))).run Tryz.prog w = .ok (.agg #[v0, v1, v2, v3]) w := by simp [go_sem, Addr.add, h0, h1, h2, h3]
theorem ls58 {w0 w : World} {F : List Nat} {L : List Res} {b tt : Nat} {K : Value → World → Prop} {v0 v1 v2 v3 : Value} (k : Nat) (hS : St w0 F w L) (hk : L[k]? = some (Res.cells b tt [v0, v1, v2, v3])) (h : K (.agg #[v0, v1, v2, v3]) w) : valP Tryz.prog (Instr.loadAt 58 (.pointer (some ⟨b, 0, none⟩))) w K :=
  valP_ok (ld58 (hS.cell k hk rfl) (hS.cell k hk rfl) (hS.cell k hk rfl) (hS.cell k hk rfl)) h
theorem al58 (w : World) : (Instr.alloc 58 true (.tuple #[])).run Tryz.prog w = .ok (.pointer (some ⟨w.heap.size, 0, none⟩)) (w.alloc (.cells #[.int .i64 0, .int .i64 0, .int .i64 0, .string ⟨#[]⟩] 58)) := by simp [go_sem]
theorem st58 {w : World} {b o : Nat} {v0 v1 v2 v3 : Value} {u0 u1 u2 u3 : Value} (h0 : w.cell? ⟨b, o, none⟩ = some u0) (h1 : w.cell? ⟨b, o + 1, none⟩ = some u1) (h2 : w.cell? ⟨b, o + 2, none⟩ = some u2) (h3 : w.cell? ⟨b, o + 3, none⟩ = some u3) (f0 : w.frozen? ⟨b, o, none⟩ = false) (o0 : v0.oneCell' = true) (f1 : w.frozen? ⟨b, o + 1, none⟩ = false) (o1 : v1.oneCell' = true) (f2 : w.frozen? ⟨b, o + 2, none⟩ = false) (o2 : v2.oneCell' = true) (f3 : w.frozen? ⟨b, o + 3, none⟩ = false) (o3 : v3.oneCell' = true) : (Instr.storeAt 58 (.pointer (some ⟨b, o, none⟩)) (.agg #[v0, v1, v2, v3])).run Tryz.prog w = .ok () ((((w.setCell ⟨b, o, none⟩ v0).setCell ⟨b, o + 1, none⟩ v1).setCell ⟨b, o + 2, none⟩ v2).setCell ⟨b, o + 3, none⟩ v3) := by
  simp [go_sem, Addr.add, h0, h1, h2, h3, f0, f1, f2, f3, o0, o1, o2, o3, run_store, World.cell?_setCell_other, World.frozen?_setCell]
theorem ss58 {w0 w : World} {F : List Nat} {L : List Res} {b tt : Nat} {K : Value → World → Prop} {v0 v1 v2 v3 u0 u1 u2 u3 : Value} (k : Nat) (hS : St w0 F w L) (hk : L[k]? = some (Res.cells b tt [u0, u1, u2, u3])) (o0 : v0.oneCell' = true) (o1 : v1.oneCell' = true) (o2 : v2.oneCell' = true) (o3 : v3.oneCell' = true) (h : ∀ w', St w0 F w' (L.set k (Res.cells b tt [v0, v1, v2, v3])) → K undef w') : unitP Tryz.prog (Instr.storeAt 58 (.pointer (some ⟨b, 0, none⟩)) (.agg #[v0, v1, v2, v3])) w K := by
  obtain ⟨hkl, _⟩ := List.getElem?_eq_some_iff.1 hk
  have hf := fun i => hS.frozen (i := i) k hk
  have s1 := hS.set (b := b) (t := tt) (cs := [u0, u1, u2, u3]) (i := 0) k v0 hk
  have s2 := s1.set (b := b) (t := tt) (cs := [v0, u1, u2, u3]) (i := 1) k v1 (by simp [hkl])
  have s3 := s2.set (b := b) (t := tt) (cs := [v0, v1, u2, u3]) (i := 2) k v2 (by simp [hkl])
  have s4 := s3.set (b := b) (t := tt) (cs := [v0, v1, v2, u3]) (i := 3) k v3 (by simp [hkl])
  simp only [List.set_set, List.set_cons_zero, List.set_cons_succ] at s4
  exact unitP_ok (st58 (hS.cell k hk rfl) (hS.cell k hk rfl) (hS.cell k hk rfl) (hS.cell k hk rfl) (hf _) o0 (hf _) o1 (hf _) o2 (hf _) o3) (h _ s4)
theorem fa58_1 (b : Nat) (w : World) : (Instr.fieldAt 58 (.pointer (some ⟨b, 0, none⟩)) 1).run Tryz.prog w = .ok (.pointer (some ⟨b, 1, none⟩)) w := by kernel_rfl
theorem fao58_1 (b o : Nat) (w : World) : (Instr.fieldAt 58 (.pointer (some ⟨b, o, none⟩)) 1).run Tryz.prog w = .ok (.pointer (some ⟨b, o + 1, none⟩)) w := by kernel_rfl
theorem sl22 : SlT Tryz.prog 22 58 4 40 (.agg #[.int .i64 0, .int .i64 0, .int .i64 0, .string ⟨#[]⟩]) := by unfold SlT; exact ⟨by kernel_rfl, by kernel_rfl, by kernel_rfl, Nat.lt_of_lt_of_le (by decide) (Nat.le_refl _)⟩
theorem bs22_1 {a0_0 a0_1 a0_2 a0_3 : Value} (w : World) : (Instr.buildSlice 22 1 #[(0, .agg #[a0_0, a0_1, a0_2, a0_3])]).run Tryz.prog w = .ok (.slice (some ⟨w.heap.size, 0, none⟩) 1 1) (w.alloc (.cells #[a0_0, a0_1, a0_2, a0_3] 58)) := by
  have e : ∀ v : Value, v.oneCell' = true → v.cells = #[v] := fun v h => by cases v <;> first | rfl | (simp [Value.oneCell'] at h)
  simp only [Value.cells] at e
  simp [go_sem]
theorem ne58 (x y : Operand) (a0 : Int) (a1 : Int) (a2 : Int) (a3 : ByteArray) (b0 : Int) (b1 : Int) (b2 : Int) (b3 : ByteArray) (w : World) : (binS .neq 58 x y (.agg #[.int .i64 a0, .int .i64 a1, .int .i64 a2, .string a3]) (.agg #[.int .i64 b0, .int .i64 b1, .int .i64 b2, .string b3])).run Tryz.prog w = .ok (.bool (decide (¬ (a0 = b0 ∧ a1 = b1 ∧ a2 = b2 ∧ a3 = b3)))) w := by
  rw [binS_run _ _ _ _ _ _ (by kernel_rfl), run_neq_struct, run_equalIn_struct w 9999 58 _ _ (by simp [Program.fieldsOf, Tryz.underlying58]) (by kernel_rfl)]
  by_cases h0 : a0 = b0 <;> by_cases h1 : a1 = b1 <;> by_cases h2 : a2 = b2 <;> by_cases h3 : a3 = b3 <;> simp [go_sem, Program.fieldsOf, Tryz.underlying58, Op.eqFields, bytes_iff, *]
theorem ls56 {w0 w : World} {F : List Nat} {L : List Res} {b tt : Nat} {K : Value → World → Prop} {v0 v1 v2 : Value} (k : Nat) (hS : St w0 F w L) (hk : L[k]? = some (Res.cells b tt [v0, v1, v2])) (h : K (.agg #[v0, v1, v2]) w) : valP Tryz.prog (Instr.loadAt 56 (.pointer (some ⟨b, 0, none⟩))) w K :=
  valP_ok (ld56 (hS.cell k hk rfl) (hS.cell k hk rfl) (hS.cell k hk rfl)) h
theorem fa58_0 (b : Nat) (w : World) : (Instr.fieldAt 58 (.pointer (some ⟨b, 0, none⟩)) 0).run Tryz.prog w = .ok (.pointer (some ⟨b, 0, none⟩)) w := by kernel_rfl
theorem fao58_0 (b o : Nat) (w : World) : (Instr.fieldAt 58 (.pointer (some ⟨b, o, none⟩)) 0).run Tryz.prog w = .ok (.pointer (some ⟨b, o, none⟩)) w := by kernel_rfl
theorem sl23 : SlT Tryz.prog 23 3 1 8 (.int .i64 0) := by unfold SlT; exact ⟨by kernel_rfl, by kernel_rfl, by kernel_rfl, Nat.lt_of_lt_of_le (by decide) (Nat.le_refl _)⟩
theorem bs23_5 {a0 a1 a2 a3 a4 : Value} (o0 : a0.oneCell' = true) (o1 : a1.oneCell' = true) (o2 : a2.oneCell' = true) (o3 : a3.oneCell' = true) (o4 : a4.oneCell' = true) (w : World) : (Instr.buildSlice 23 5 #[(0, a0), (1, a1), (2, a2), (3, a3), (4, a4)]).run Tryz.prog w = .ok (.slice (some ⟨w.heap.size, 0, none⟩) 5 5) (w.alloc (.cells #[a0, a1, a2, a3, a4] 3)) := by
  have e : ∀ v : Value, v.oneCell' = true → v.cells = #[v] := fun v h => by cases v <;> first | rfl | (simp [Value.oneCell'] at h)
  simp only [Value.cells] at e
  simp [go_sem, e _ o0, e _ o1, e _ o2, e _ o3, e _ o4]
theorem bd58_1 {a1_0 a1_1 a1_2 : Value} (w : World) : (Instr.build 58 #[(1, .agg #[a1_0, a1_1, a1_2])]).run Tryz.prog w = .ok (.agg #[.int .i64 0, a1_0, a1_1, a1_2]) w := by
  have e : ∀ v : Value, v.oneCell' = true → v.cells = #[v] := fun v h => by cases v <;> first | rfl | (simp [Value.oneCell'] at h)
  simp only [Value.cells] at e
  simp [go_sem, Value.cells]
theorem bd56_0_2 {a0 a2 : Value} (o0 : a0.oneCell' = true) (o2 : a2.oneCell' = true) (w : World) : (Instr.build 56 #[(0, a0), (2, a2)]).run Tryz.prog w = .ok (.agg #[a0, .int .i64 0, a2]) w := by
  have e : ∀ v : Value, v.oneCell' = true → v.cells = #[v] := fun v h => by cases v <;> first | rfl | (simp [Value.oneCell'] at h)
  simp only [Value.cells] at e
  simp [go_sem, e _ o0, e _ o2]
theorem bd58_0_1 {a0 a1_0 a1_1 a1_2 : Value} (o0 : a0.oneCell' = true) (w : World) : (Instr.build 58 #[(0, a0), (1, .agg #[a1_0, a1_1, a1_2])]).run Tryz.prog w = .ok (.agg #[a0, a1_0, a1_1, a1_2]) w := by
  have e : ∀ v : Value, v.oneCell' = true → v.cells = #[v] := fun v h => by cases v <;> first | rfl | (simp [Value.oneCell'] at h)
  simp only [Value.cells] at e
  simp [go_sem, e _ o0]
theorem bs22_4 {a0_0 a0_1 a0_2 a0_3 a1_0 a1_1 a1_2 a1_3 a2_0 a2_1 a2_2 a2_3 a3_0 a3_1 a3_2 a3_3 : Value} (w : World) : (Instr.buildSlice 22 4 #[(0, .agg #[a0_0, a0_1, a0_2, a0_3]), (1, .agg #[a1_0, a1_1, a1_2, a1_3]), (2, .agg #[a2_0, a2_1, a2_2, a2_3]), (3, .agg #[a3_0, a3_1, a3_2, a3_3])]).run Tryz.prog w = .ok (.slice (some ⟨w.heap.size, 0, none⟩) 4 4) (w.alloc (.cells #[a0_0, a0_1, a0_2, a0_3, a1_0, a1_1, a1_2, a1_3, a2_0, a2_1, a2_2, a2_3, a3_0, a3_1, a3_2, a3_3] 58)) := by
  have e : ∀ v : Value, v.oneCell' = true → v.cells = #[v] := fun v h => by cases v <;> first | rfl | (simp [Value.oneCell'] at h)
  simp only [Value.cells] at e
  simp [go_sem]
theorem so22 {A : Option Addr} {n c k : Nat} (h : k ≤ n) (hc : n ≤ c) (w : World) : (Instr.sliceAt 22 (.slice A n c) (some (.int .i64 (k : Int))) none none).run Tryz.prog w = .ok (.slice (if c = k then A else A.map (·.add (k * 4))) (n - k) (c - k)) w := by
  have h' : ¬ n < k := by omega
  simp [go_sem, h', Addr.add]
theorem eq168 (x y : Operand) (a b : Int) (w : World) : (binS .eql 168 x y (.int .u32 a) (.int .u32 b)).run Tryz.prog w = .ok (.bool (decide (a = b))) w := by
  by_cases h : a = b <;> simp [binS, go_sem, h]
theorem bs97_4 {a0 a1 a2 a3 : Value} (o0 : a0.oneCell' = true) (o1 : a1.oneCell' = true) (o2 : a2.oneCell' = true) (o3 : a3.oneCell' = true) (w : World) : (Instr.buildSlice 97 4 #[(0, a0), (1, a1), (2, a2), (3, a3)]).run Tryz.prog w = .ok (.slice (some ⟨w.heap.size, 0, none⟩) 4 4) (w.alloc (.cells #[a0, a1, a2, a3] 5)) := by
  have e : ∀ v : Value, v.oneCell' = true → v.cells = #[v] := fun v h => by cases v <;> first | rfl | (simp [Value.oneCell'] at h)
  simp only [Value.cells] at e
  simp [go_sem, e _ o0, e _ o1, e _ o2, e _ o3]
theorem eq129 (x y : Operand) (a b : Int) (w : World) : (binS .eql 129 x y (.int .u32 a) (.int .u32 b)).run Tryz.prog w = .ok (.bool (decide (a = b))) w := by
  by_cases h : a = b <;> simp [binS, go_sem, h]
theorem al99 (w : World) : (Instr.alloc 99 true (.tuple #[])).run Tryz.prog w = .ok (.pointer (some ⟨w.heap.size, 0, none⟩)) (w.alloc (.cells #[.pointer none, .slice none 0 0] 99)) := by simp [go_sem]
theorem bs23_1 {a0 : Value} (o0 : a0.oneCell' = true) (w : World) : (Instr.buildSlice 23 1 #[(0, a0)]).run Tryz.prog w = .ok (.slice (some ⟨w.heap.size, 0, none⟩) 1 1) (w.alloc (.cells #[a0] 3)) := by
  have e : ∀ v : Value, v.oneCell' = true → v.cells = #[v] := fun v h => by cases v <;> first | rfl | (simp [Value.oneCell'] at h)
  simp only [Value.cells] at e
  simp [go_sem, e _ o0]
theorem bs23_2 {a0 a1 : Value} (o0 : a0.oneCell' = true) (o1 : a1.oneCell' = true) (w : World) : (Instr.buildSlice 23 2 #[(0, a0), (1, a1)]).run Tryz.prog w = .ok (.slice (some ⟨w.heap.size, 0, none⟩) 2 2) (w.alloc (.cells #[a0, a1] 3)) := by
  have e : ∀ v : Value, v.oneCell' = true → v.cells = #[v] := fun v h => by cases v <;> first | rfl | (simp [Value.oneCell'] at h)
  simp only [Value.cells] at e
  simp [go_sem, e _ o0, e _ o1]
theorem eq26 (x y : Operand) (a b : Int) (w : World) : (binS .eql 26 x y (.int .i64 a) (.int .i64 b)).run Tryz.prog w = .ok (.bool (decide (a = b))) w := by
  by_cases h : a = b <;> simp [binS, go_sem, h]
theorem bd56_0_1_2 {a0 a1 a2 : Value} (o0 : a0.oneCell' = true) (o1 : a1.oneCell' = true) (o2 : a2.oneCell' = true) (w : World) : (Instr.build 56 #[(0, a0), (1, a1), (2, a2)]).run Tryz.prog w = .ok (.agg #[a0, a1, a2]) w := by
  have e : ∀ v : Value, v.oneCell' = true → v.cells = #[v] := fun v h => by cases v <;> first | rfl | (simp [Value.oneCell'] at h)
  simp only [Value.cells] at e
  simp [go_sem, e _ o0, e _ o1, e _ o2]
theorem fa99_1 (b : Nat) (w : World) : (Instr.fieldAt 99 (.pointer (some ⟨b, 0, none⟩)) 1).run Tryz.prog w = .ok (.pointer (some ⟨b, 1, none⟩)) w := by kernel_rfl
theorem fao99_1 (b o : Nat) (w : World) : (Instr.fieldAt 99 (.pointer (some ⟨b, o, none⟩)) 1).run Tryz.prog w = .ok (.pointer (some ⟨b, o + 1, none⟩)) w := by kernel_rfl
theorem ld97 {w : World} {p : Addr} {v : Value} (h : w.cell? p = some v) : (Instr.loadAt 97 (.pointer (some p))).run Tryz.prog w = .ok v w := by simp [go_sem, h]
theorem st97 {w : World} {p : Addr} {u v : Value} (h : w.cell? p = some u) (hf : w.frozen? p = false) (ho : v.oneCell' = true) : (Instr.storeAt 97 (.pointer (some p)) v).run Tryz.prog w = .ok () (w.setCell p v) := by
  cases v <;> first | (simp [Value.oneCell'] at ho; done) | (simp [go_sem, h, hf]; done) | (simp [go_sem]; rw [run_store _ _ _ _ _ rfl, h]; simp [hf])
theorem len97 {A : Option Addr} {n c : Nat} {t : TypeId} {cs : Array Bool} (w : World) : (builtin .len #[97] t cs #[.slice A n c] : Sem Next).run Tryz.prog w = .ok (.value (.int .i64 (n : Int))) w := by simp [go_sem]
theorem mf25 (c0 : Value)  (w : World) : (Instr.makeFunc (Fn.func 25) #[] #[c0]).run Tryz.prog w = .ok (.func (.func 25) #[] #[c0]) w := by first | rfl | simp [go_sem]
theorem bx67 (v0 v1 v2 : Value) (w : World) : (Instr.box 67 (.agg #[v0, v1, v2])).run Tryz.prog w = .ok (.pointer (some ⟨w.heap.size, 0, none⟩)) (w.alloc (.cells #[v0, v1, v2] 67)) := by simp [go_sem]
theorem fa67_0 (b : Nat) (w : World) : (Instr.fieldAt 67 (.pointer (some ⟨b, 0, none⟩)) 0).run Tryz.prog w = .ok (.pointer (some ⟨b, 0, none⟩)) w := by kernel_rfl
theorem fao67_0 (b o : Nat) (w : World) : (Instr.fieldAt 67 (.pointer (some ⟨b, o, none⟩)) 0).run Tryz.prog w = .ok (.pointer (some ⟨b, o, none⟩)) w := by kernel_rfl
theorem sh23 {A : Option Addr} {n c k : Nat} (h : k ≤ c) (w : World) : (Instr.sliceAt 23 (.slice A n c) none (some (.int .i64 (k : Int))) none).run Tryz.prog w = .ok (.slice A k c) w := by
  have h' : ¬ c < k := by omega
  simp [go_sem, h', Addr.add]
theorem eq4 (x y : Operand) (a b : Bool) (w : World) : (binS .eql 4 x y (.bool a) (.bool b)).run Tryz.prog w = .ok (.bool (decide (a = b))) w := by
  cases a <;> cases b <;> simp [binS, go_sem]
theorem fa41_0 (b : Nat) (w : World) : (Instr.fieldAt 41 (.pointer (some ⟨b, 0, none⟩)) 0).run Tryz.prog w = .ok (.pointer (some ⟨b, 0, none⟩)) w := by kernel_rfl
theorem fao41_0 (b o : Nat) (w : World) : (Instr.fieldAt 41 (.pointer (some ⟨b, o, none⟩)) 0).run Tryz.prog w = .ok (.pointer (some ⟨b, o, none⟩)) w := by kernel_rfl
theorem ld39 {w : World} {p : Addr} {v : Value} (h : w.cell? p = some v) : (Instr.loadAt 39 (.pointer (some p))).run Tryz.prog w = .ok v w := by simp [go_sem, h]
theorem fa67_1 (b : Nat) (w : World) : (Instr.fieldAt 67 (.pointer (some ⟨b, 0, none⟩)) 1).run Tryz.prog w = .ok (.pointer (some ⟨b, 1, none⟩)) w := by kernel_rfl
theorem fao67_1 (b o : Nat) (w : World) : (Instr.fieldAt 67 (.pointer (some ⟨b, o, none⟩)) 1).run Tryz.prog w = .ok (.pointer (some ⟨b, o + 1, none⟩)) w := by kernel_rfl
theorem fa67_2 (b : Nat) (w : World) : (Instr.fieldAt 67 (.pointer (some ⟨b, 0, none⟩)) 2).run Tryz.prog w = .ok (.pointer (some ⟨b, 2, none⟩)) w := by kernel_rfl
theorem fao67_2 (b o : Nat) (w : World) : (Instr.fieldAt 67 (.pointer (some ⟨b, o, none⟩)) 2).run Tryz.prog w = .ok (.pointer (some ⟨b, o + 2, none⟩)) w := by kernel_rfl
theorem fa41_1 (b : Nat) (w : World) : (Instr.fieldAt 41 (.pointer (some ⟨b, 0, none⟩)) 1).run Tryz.prog w = .ok (.pointer (some ⟨b, 1, none⟩)) w := by kernel_rfl
theorem fao41_1 (b o : Nat) (w : World) : (Instr.fieldAt 41 (.pointer (some ⟨b, o, none⟩)) 1).run Tryz.prog w = .ok (.pointer (some ⟨b, o + 1, none⟩)) w := by kernel_rfl
theorem so39 {A : Option Addr} {n c k : Nat} (h : k ≤ n) (hc : n ≤ c) (w : World) : (Instr.sliceAt 39 (.slice A n c) (some (.int .i64 (k : Int))) none none).run Tryz.prog w = .ok (.slice (if c = k then A else A.map (·.add (k * 3))) (n - k) (c - k)) w := by
  have h' : ¬ n < k := by omega
  simp [go_sem, h', Addr.add]
theorem fa41_2 (b : Nat) (w : World) : (Instr.fieldAt 41 (.pointer (some ⟨b, 0, none⟩)) 2).run Tryz.prog w = .ok (.pointer (some ⟨b, 2, none⟩)) w := by kernel_rfl
theorem fao41_2 (b o : Nat) (w : World) : (Instr.fieldAt 41 (.pointer (some ⟨b, o, none⟩)) 2).run Tryz.prog w = .ok (.pointer (some ⟨b, o + 2, none⟩)) w := by kernel_rfl
theorem fa41_3 (b : Nat) (w : World) : (Instr.fieldAt 41 (.pointer (some ⟨b, 0, none⟩)) 3).run Tryz.prog w = .ok (.pointer (some ⟨b, 3, none⟩)) w := by kernel_rfl
theorem fao41_3 (b o : Nat) (w : World) : (Instr.fieldAt 41 (.pointer (some ⟨b, o, none⟩)) 3).run Tryz.prog w = .ok (.pointer (some ⟨b, o + 3, none⟩)) w := by kernel_rfl
theorem al67 (w : World) : (Instr.alloc 67 true (.tuple #[])).run Tryz.prog w = .ok (.pointer (some ⟨w.heap.size, 0, none⟩)) (w.alloc (.cells #[.string ⟨#[]⟩, .string ⟨#[]⟩, .string ⟨#[]⟩] 67)) := by simp [go_sem]
theorem st67 {w : World} {b o : Nat} {v0 v1 v2 : Value} {u0 u1 u2 : Value} (h0 : w.cell? ⟨b, o, none⟩ = some u0) (h1 : w.cell? ⟨b, o + 1, none⟩ = some u1) (h2 : w.cell? ⟨b, o + 2, none⟩ = some u2) (f0 : w.frozen? ⟨b, o, none⟩ = false) (o0 : v0.oneCell' = true) (f1 : w.frozen? ⟨b, o + 1, none⟩ = false) (o1 : v1.oneCell' = true) (f2 : w.frozen? ⟨b, o + 2, none⟩ = false) (o2 : v2.oneCell' = true) : (Instr.storeAt 67 (.pointer (some ⟨b, o, none⟩)) (.agg #[v0, v1, v2])).run Tryz.prog w = .ok () (((w.setCell ⟨b, o, none⟩ v0).setCell ⟨b, o + 1, none⟩ v1).setCell ⟨b, o + 2, none⟩ v2) := by
  simp [go_sem, Addr.add, h0, h1, h2, f0, f1, f2, o0, o1, o2, run_store, World.cell?_setCell_other, World.frozen?_setCell]
theorem ss67 {w0 w : World} {F : List Nat} {L : List Res} {b tt : Nat} {K : Value → World → Prop} {v0 v1 v2 u0 u1 u2 : Value} (k : Nat) (hS : St w0 F w L) (hk : L[k]? = some (Res.cells b tt [u0, u1, u2])) (o0 : v0.oneCell' = true) (o1 : v1.oneCell' = true) (o2 : v2.oneCell' = true) (h : ∀ w', St w0 F w' (L.set k (Res.cells b tt [v0, v1, v2])) → K undef w') : unitP Tryz.prog (Instr.storeAt 67 (.pointer (some ⟨b, 0, none⟩)) (.agg #[v0, v1, v2])) w K := by
  obtain ⟨hkl, _⟩ := List.getElem?_eq_some_iff.1 hk
  have hf := fun i => hS.frozen (i := i) k hk
  have s1 := hS.set (b := b) (t := tt) (cs := [u0, u1, u2]) (i := 0) k v0 hk
  have s2 := s1.set (b := b) (t := tt) (cs := [v0, u1, u2]) (i := 1) k v1 (by simp [hkl])
  have s3 := s2.set (b := b) (t := tt) (cs := [v0, v1, u2]) (i := 2) k v2 (by simp [hkl])
  simp only [List.set_set, List.set_cons_zero, List.set_cons_succ] at s3
  exact unitP_ok (st67 (hS.cell k hk rfl) (hS.cell k hk rfl) (hS.cell k hk rfl) (hf _) o0 (hf _) o1 (hf _) o2) (h _ s3)
theorem st39 {w : World} {p : Addr} {u v : Value} (h : w.cell? p = some u) (hf : w.frozen? p = false) (ho : v.oneCell' = true) : (Instr.storeAt 39 (.pointer (some p)) v).run Tryz.prog w = .ok () (w.setCell p v) := by
  cases v <;> first | (simp [Value.oneCell'] at ho; done) | (simp [go_sem, h, hf]; done) | (simp [go_sem]; rw [run_store _ _ _ _ _ rfl, h]; simp [hf])
theorem bd67_0_1 {a0 a1 : Value} (o0 : a0.oneCell' = true) (o1 : a1.oneCell' = true) (w : World) : (Instr.build 67 #[(0, a0), (1, a1)]).run Tryz.prog w = .ok (.agg #[a0, a1, .string ⟨#[]⟩]) w := by
  have e : ∀ v : Value, v.oneCell' = true → v.cells = #[v] := fun v h => by cases v <;> first | rfl | (simp [Value.oneCell'] at h)
  simp only [Value.cells] at e
  simp [go_sem, e _ o0, e _ o1]
theorem bd67_0 {a0 : Value} (o0 : a0.oneCell' = true) (w : World) : (Instr.build 67 #[(0, a0)]).run Tryz.prog w = .ok (.agg #[a0, .string ⟨#[]⟩, .string ⟨#[]⟩]) w := by
  have e : ∀ v : Value, v.oneCell' = true → v.cells = #[v] := fun v h => by cases v <;> first | rfl | (simp [Value.oneCell'] at h)
  simp only [Value.cells] at e
  simp [go_sem, e _ o0]
theorem al41 (w : World) : (Instr.alloc 41 true (.tuple #[])).run Tryz.prog w = .ok (.pointer (some ⟨w.heap.size, 0, none⟩)) (w.alloc (.cells #[.slice none 0 0, .int .i64 0, .int .i64 0, .bool false] 41)) := by simp [go_sem]
theorem bd41  (w : World) : (Instr.build 41 #[]).run Tryz.prog w = .ok (.agg #[.slice none 0 0, .int .i64 0, .int .i64 0, .bool false]) w := by
  have e : ∀ v : Value, v.oneCell' = true → v.cells = #[v] := fun v h => by cases v <;> first | rfl | (simp [Value.oneCell'] at h)
  simp only [Value.cells] at e
  simp [go_sem, Value.cells]
theorem st41 {w : World} {b o : Nat} {v0 v1 v2 v3 : Value} {u0 u1 u2 u3 : Value} (h0 : w.cell? ⟨b, o, none⟩ = some u0) (h1 : w.cell? ⟨b, o + 1, none⟩ = some u1) (h2 : w.cell? ⟨b, o + 2, none⟩ = some u2) (h3 : w.cell? ⟨b, o + 3, none⟩ = some u3) (f0 : w.frozen? ⟨b, o, none⟩ = false) (o0 : v0.oneCell' = true) (f1 : w.frozen? ⟨b, o + 1, none⟩ = false) (o1 : v1.oneCell' = true) (f2 : w.frozen? ⟨b, o + 2, none⟩ = false) (o2 : v2.oneCell' = true) (f3 : w.frozen? ⟨b, o + 3, none⟩ = false) (o3 : v3.oneCell' = true) : (Instr.storeAt 41 (.pointer (some ⟨b, o, none⟩)) (.agg #[v0, v1, v2, v3])).run Tryz.prog w = .ok () ((((w.setCell ⟨b, o, none⟩ v0).setCell ⟨b, o + 1, none⟩ v1).setCell ⟨b, o + 2, none⟩ v2).setCell ⟨b, o + 3, none⟩ v3) := by
  simp [go_sem, Addr.add, h0, h1, h2, h3, f0, f1, f2, f3, o0, o1, o2, o3, run_store, World.cell?_setCell_other, World.frozen?_setCell]
theorem ss41 {w0 w : World} {F : List Nat} {L : List Res} {b tt : Nat} {K : Value → World → Prop} {v0 v1 v2 v3 u0 u1 u2 u3 : Value} (k : Nat) (hS : St w0 F w L) (hk : L[k]? = some (Res.cells b tt [u0, u1, u2, u3])) (o0 : v0.oneCell' = true) (o1 : v1.oneCell' = true) (o2 : v2.oneCell' = true) (o3 : v3.oneCell' = true) (h : ∀ w', St w0 F w' (L.set k (Res.cells b tt [v0, v1, v2, v3])) → K undef w') : unitP Tryz.prog (Instr.storeAt 41 (.pointer (some ⟨b, 0, none⟩)) (.agg #[v0, v1, v2, v3])) w K := by
  obtain ⟨hkl, _⟩ := List.getElem?_eq_some_iff.1 hk
  have hf := fun i => hS.frozen (i := i) k hk
  have s1 := hS.set (b := b) (t := tt) (cs := [u0, u1, u2, u3]) (i := 0) k v0 hk
  have s2 := s1.set (b := b) (t := tt) (cs := [v0, u1, u2, u3]) (i := 1) k v1 (by simp [hkl])
  have s3 := s2.set (b := b) (t := tt) (cs := [v0, v1, u2, u3]) (i := 2) k v2 (by simp [hkl])
  have s4 := s3.set (b := b) (t := tt) (cs := [v0, v1, v2, u3]) (i := 3) k v3 (by simp [hkl])
  simp only [List.set_set, List.set_cons_zero, List.set_cons_succ] at s4
  exact unitP_ok (st41 (hS.cell k hk rfl) (hS.cell k hk rfl) (hS.cell k hk rfl) (hS.cell k hk rfl) (hf _) o0 (hf _) o1 (hf _) o2 (hf _) o3) (h _ s4)
theorem bd41_1_2 {a1 a2 : Value} (o1 : a1.oneCell' = true) (o2 : a2.oneCell' = true) (w : World) : (Instr.build 41 #[(1, a1), (2, a2)]).run Tryz.prog w = .ok (.agg #[.slice none 0 0, a1, a2, .bool false]) w := by
  have e : ∀ v : Value, v.oneCell' = true → v.cells = #[v] := fun v h => by cases v <;> first | rfl | (simp [Value.oneCell'] at h)
  simp only [Value.cells] at e
  simp [go_sem, e _ o1, e _ o2]
theorem lc41 {w : World} {b o : Nat} {v0 v1 v2 v3 : Value} (h0 : w.cell? ⟨b, o, none⟩ = some v0) (h1 : w.cell? ⟨b, o + 1, none⟩ = some v1) (h2 : w.cell? ⟨b, o + 2, none⟩ = some v2) (h3 : w.cell? ⟨b, o + 3, none⟩ = some v3) : (loadC 41 (.pointer (some ⟨b, o, none⟩))).run Tryz.prog w = .ok (.agg #[v0, v1, v2, v3]) w := by simp [loadC, go_sem, Addr.add, h0, h1, h2, h3]
theorem len38 {A : Option Addr} {n c : Nat} {t : TypeId} {cs : Array Bool} (w : World) : (builtin .len #[38] t cs #[.slice A n c] : Sem Next).run Tryz.prog w = .ok (.value (.int .i64 (n : Int))) w := by simp [go_sem]
theorem ix38 {g o n c k : Nat} (h : k < n) (w : World) : (Instr.indexAt 38 (.slice (some ⟨g, o, none⟩) n c) (.int .i64 (k : Int))).run Tryz.prog w = .ok (.pointer (some ⟨g, o + k * 6, none⟩)) w := by
  have h' : (k : Int) < n := by omega
  simp [go_sem, h', h, add_none]
theorem ld45 {w : World} {b o : Nat} {v0 v1 v2 v3 v4 v5 : Value} (h0 : w.cell? ⟨b, o, none⟩ = some v0) (h1 : w.cell? ⟨b, o + 1, none⟩ = some v1) (h2 : w.cell? ⟨b, o + 2, none⟩ = some v2) (h3 : w.cell? ⟨b, o + 3, none⟩ = some v3) (h4 : w.cell? ⟨b, o + 4, none⟩ = some v4) (h5 : w.cell? ⟨b, o + 5, none⟩ = some v5) : (Instr.loadAt 45 (.pointer (some ⟨b, o, none⟩))).run Tryz.prog w = .ok (.agg #[v0, v1, v2, v3, v4, v5]) w := by simp [go_sem, Addr.add, h0, h1, h2, h3, h4, h5]
theorem al45 (w : World) : (Instr.alloc 45 true (.tuple #[])).run Tryz.prog w = .ok (.pointer (some ⟨w.heap.size, 0, none⟩)) (w.alloc (.cells #[.int .i64 0, .int .i64 0, .string ⟨#[]⟩, .string ⟨#[]⟩, .slice none 0 0, .slice none 0 0] 45)) := by simp [go_sem]
theorem st45 {w : World} {b o : Nat} {v0 v1 v2 v3 v4 v5 : Value} {u0 u1 u2 u3 u4 u5 : Value} (h0 : w.cell? ⟨b, o, none⟩ = some u0) (h1 : w.cell? ⟨b, o + 1, none⟩ = some u1) (h2 : w.cell? ⟨b, o + 2, none⟩ = some u2) (h3 : w.cell? ⟨b, o + 3, none⟩ = some u3) (h4 : w.cell? ⟨b, o + 4, none⟩ = some u4) (h5 : w.cell? ⟨b, o + 5, none⟩ = some u5) (f0 : w.frozen? ⟨b, o, none⟩ = false) (o0 : v0.oneCell' = true) (f1 : w.frozen? ⟨b, o + 1, none⟩ = false) (o1 : v1.oneCell' = true) (f2 : w.frozen? ⟨b, o + 2, none⟩ = false) (o2 : v2.oneCell' = true) (f3 : w.frozen? ⟨b, o + 3, none⟩ = false) (o3 : v3.oneCell' = true) (f4 : w.frozen? ⟨b, o + 4, none⟩ = false) (o4 : v4.oneCell' = true) (f5 : w.frozen? ⟨b, o + 5, none⟩ = false) (o5 : v5.oneCell' = true) : (Instr.storeAt 45 (.pointer (some ⟨b, o, none⟩)) (.agg #[v0, v1, v2, v3, v4, v5])).run Tryz.prog w = .ok () ((((((w.setCell ⟨b, o, none⟩ v0).setCell ⟨b, o + 1, none⟩ v1).setCell ⟨b, o + 2, none⟩ v2).setCell ⟨b, o + 3, none⟩ v3).setCell ⟨b, o + 4, none⟩ v4).setCell ⟨b, o + 5, none⟩ v5) := by
  simp [go_sem, Addr.add, h0, h1, h2, h3, h4, h5, f0, f1, f2, f3, f4, f5, o0, o1, o2, o3, o4, o5, run_store, World.cell?_setCell_other, World.frozen?_setCell]
theorem ss45 {w0 w : World} {F : List Nat} {L : List Res} {b tt : Nat} {K : Value → World → Prop} {v0 v1 v2 v3 v4 v5 u0 u1 u2 u3 u4 u5 : Value} (k : Nat) (hS : St w0 F w L) (hk : L[k]? = some (Res.cells b tt [u0, u1, u2, u3, u4, u5])) (o0 : v0.oneCell' = true) (o1 : v1.oneCell' = true) (o2 : v2.oneCell' = true) (o3 : v3.oneCell' = true) (o4 : v4.oneCell' = true) (o5 : v5.oneCell' = true) (h : ∀ w', St w0 F w' (L.set k (Res.cells b tt [v0, v1, v2, v3, v4, v5])) → K undef w') : unitP Tryz.prog (Instr.storeAt 45 (.pointer (some ⟨b, 0, none⟩)) (.agg #[v0, v1, v2, v3, v4, v5])) w K := by
  obtain ⟨hkl, _⟩ := List.getElem?_eq_some_iff.1 hk
  have hf := fun i => hS.frozen (i := i) k hk
  have s1 := hS.set (b := b) (t := tt) (cs := [u0, u1, u2, u3, u4, u5]) (i := 0) k v0 hk
  have s2 := s1.set (b := b) (t := tt) (cs := [v0, u1, u2, u3, u4, u5]) (i := 1) k v1 (by simp [hkl])
  have s3 := s2.set (b := b) (t := tt) (cs := [v0, v1, u2, u3, u4, u5]) (i := 2) k v2 (by simp [hkl])
  have s4 := s3.set (b := b) (t := tt) (cs := [v0, v1, v2, u3, u4, u5]) (i := 3) k v3 (by simp [hkl])
  have s5 := s4.set (b := b) (t := tt) (cs := [v0, v1, v2, v3, u4, u5]) (i := 4) k v4 (by simp [hkl])
  have s6 := s5.set (b := b) (t := tt) (cs := [v0, v1, v2, v3, v4, u5]) (i := 5) k v5 (by simp [hkl])
  simp only [List.set_set, List.set_cons_zero, List.set_cons_succ] at s6
  exact unitP_ok (st45 (hS.cell k hk rfl) (hS.cell k hk rfl) (hS.cell k hk rfl) (hS.cell k hk rfl) (hS.cell k hk rfl) (hS.cell k hk rfl) (hf _) o0 (hf _) o1 (hf _) o2 (hf _) o3 (hf _) o4 (hf _) o5) (h _ s6)
theorem fa45_4 (b : Nat) (w : World) : (Instr.fieldAt 45 (.pointer (some ⟨b, 0, none⟩)) 4).run Tryz.prog w = .ok (.pointer (some ⟨b, 4, none⟩)) w := by kernel_rfl
theorem fao45_4 (b o : Nat) (w : World) : (Instr.fieldAt 45 (.pointer (some ⟨b, o, none⟩)) 4).run Tryz.prog w = .ok (.pointer (some ⟨b, o + 4, none⟩)) w := by kernel_rfl
theorem ld22 {w : World} {p : Addr} {v : Value} (h : w.cell? p = some v) : (Instr.loadAt 22 (.pointer (some p))).run Tryz.prog w = .ok v w := by simp [go_sem, h]
theorem st22 {w : World} {p : Addr} {u v : Value} (h : w.cell? p = some u) (hf : w.frozen? p = false) (ho : v.oneCell' = true) : (Instr.storeAt 22 (.pointer (some p)) v).run Tryz.prog w = .ok () (w.setCell p v) := by
  cases v <;> first | (simp [Value.oneCell'] at ho; done) | (simp [go_sem, h, hf]; done) | (simp [go_sem]; rw [run_store _ _ _ _ _ rfl, h]; simp [hf])
theorem fa45_3 (b : Nat) (w : World) : (Instr.fieldAt 45 (.pointer (some ⟨b, 0, none⟩)) 3).run Tryz.prog w = .ok (.pointer (some ⟨b, 3, none⟩)) w := by kernel_rfl
theorem fao45_3 (b o : Nat) (w : World) : (Instr.fieldAt 45 (.pointer (some ⟨b, o, none⟩)) 3).run Tryz.prog w = .ok (.pointer (some ⟨b, o + 3, none⟩)) w := by kernel_rfl
theorem fa45_5 (b : Nat) (w : World) : (Instr.fieldAt 45 (.pointer (some ⟨b, 0, none⟩)) 5).run Tryz.prog w = .ok (.pointer (some ⟨b, 5, none⟩)) w := by kernel_rfl
theorem fao45_5 (b o : Nat) (w : World) : (Instr.fieldAt 45 (.pointer (some ⟨b, o, none⟩)) 5).run Tryz.prog w = .ok (.pointer (some ⟨b, o + 5, none⟩)) w := by kernel_rfl
theorem ld23 {w : World} {p : Addr} {v : Value} (h : w.cell? p = some v) : (Instr.loadAt 23 (.pointer (some p))).run Tryz.prog w = .ok v w := by simp [go_sem, h]
theorem st23 {w : World} {p : Addr} {u v : Value} (h : w.cell? p = some u) (hf : w.frozen? p = false) (ho : v.oneCell' = true) : (Instr.storeAt 23 (.pointer (some p)) v).run Tryz.prog w = .ok () (w.setCell p v) := by
  cases v <;> first | (simp [Value.oneCell'] at ho; done) | (simp [go_sem, h, hf]; done) | (simp [go_sem]; rw [run_store _ _ _ _ _ rfl, h]; simp [hf])
theorem fa45_0 (b : Nat) (w : World) : (Instr.fieldAt 45 (.pointer (some ⟨b, 0, none⟩)) 0).run Tryz.prog w = .ok (.pointer (some ⟨b, 0, none⟩)) w := by kernel_rfl
theorem fa45_2 (b : Nat) (w : World) : (Instr.fieldAt 45 (.pointer (some ⟨b, 0, none⟩)) 2).run Tryz.prog w = .ok (.pointer (some ⟨b, 2, none⟩)) w := by kernel_rfl
theorem fao45_2 (b o : Nat) (w : World) : (Instr.fieldAt 45 (.pointer (some ⟨b, o, none⟩)) 2).run Tryz.prog w = .ok (.pointer (some ⟨b, o + 2, none⟩)) w := by kernel_rfl
theorem fa45_1 (b : Nat) (w : World) : (Instr.fieldAt 45 (.pointer (some ⟨b, 0, none⟩)) 1).run Tryz.prog w = .ok (.pointer (some ⟨b, 1, none⟩)) w := by kernel_rfl
end Go.Proofs.YtcldjjmfpmkldaaGreatDoor.M
namespace Go.Proofs.YtcldjjmfpmkldaaGreatDoor.M
open Go.Proofs.YtcldjjmfpmkldaaGreatDoor.F Go.RowKit
set_option linter.unusedVariables false
set_option linter.unusedSimpArgs false
set_option maxRecDepth 100000
set_option maxHeartbeats 2000000
attribute [local irreducible] Res.cells Res.row Res.map Res.any World.cell? World.frozen? Instr.fieldAt Instr.loadAt Instr.storeAt Instr.indexAt Instr.lookup Instr.mapUpdate Instr.box Instr.build Instr.buildSlice Instr.extract Instr.alloc Instr.field Instr.index Instr.sliceAt Instr.makeSlice Instr.makeMap Instr.makeFunc binS Op.unary Sem.run
section
variable (x y : Operand) (w : World)
theorem sidx {s : ByteArray} {k : Nat} (h : k < s.size) : (Instr.index 9 (.string s) (.int .i64 (k : Int))).run Tryz.prog w = .ok (.int .u8 (s[k].toNat : Int)) w := by
  have h' : (k : Int) < s.size := by omega
  simp [go_sem, h, h']
theorem sfrom {s : ByteArray} {k : Nat} (h : k ≤ s.size) : (Instr.sliceAt 9 (.string s) (some (.int .i64 (k : Int))) none none).run Tryz.prog w = .ok (.string (s.extract k s.size)) w := by
  have h' : ¬ s.size < k := by omega
  simp [go_sem, h, h']
theorem sto {s : ByteArray} {k : Nat} (h : k ≤ s.size) : (Instr.sliceAt 9 (.string s) none (some (.int .i64 (k : Int))) none).run Tryz.prog w = .ok (.string (s.extract 0 k)) w := by
  have h' : ¬ s.size < k := by omega
  simp [go_sem, h, h']
theorem and8 (a b : Int) : (binS .and 5 x y (.int .u8 a) (.int .u8 b)).run Tryz.prog w = .ok (.int .u8 (Go.bits .and .u8 a b)) w := by
  rw [binS_run _ _ _ _ _ _ (by kernel_rfl)]; simp [go_sem, binOp]
theorem or8 (a b : Int) : (binS .or 5 x y (.int .u8 a) (.int .u8 b)).run Tryz.prog w = .ok (.int .u8 (Go.bits .or .u8 a b)) w := by
  rw [binS_run _ _ _ _ _ _ (by kernel_rfl)]; simp [go_sem, binOp]
theorem and64 (a b : Int) : (binS .and 117 x y (.int .u64 a) (.int .u64 b)).run Tryz.prog w = .ok (.int .u64 (Go.bits .and .u64 a b)) w := by
  rw [binS_run _ _ _ _ _ _ (by kernel_rfl)]; simp [go_sem, binOp]
theorem or64 (a b : Int) : (binS .or 117 x y (.int .u64 a) (.int .u64 b)).run Tryz.prog w = .ok (.int .u64 (Go.bits .or .u64 a b)) w := by
  rw [binS_run _ _ _ _ _ _ (by kernel_rfl)]; simp [go_sem, binOp]
theorem xor64 (a b : Int) : (binS .xor 117 x y (.int .u64 a) (.int .u64 b)).run Tryz.prog w = .ok (.int .u64 (Go.bits .xor .u64 a b)) w := by
  rw [binS_run _ _ _ _ _ _ (by kernel_rfl)]; simp [go_sem, binOp]
theorem xorI (a b : Int) : (binS .xor 3 x y (.int .i64 a) (.int .i64 b)).run Tryz.prog w = .ok (.int .i64 (Go.bits .xor .i64 a b)) w := by
  rw [binS_run _ _ _ _ _ _ (by kernel_rfl)]; simp [go_sem, binOp]
theorem shl64 (a : Int) {k : Nat} (h : k < 64) : (binS .shl 117 x y (.int .u64 a) (.int .i64 (k : Int))).run Tryz.prog w = .ok (.int .u64 (IntKind.u64.wrap (a * 2 ^ k))) w := by
  rw [binS_run _ _ _ _ _ _ (by kernel_rfl)]
  have h1 : (0 : Int) ≤ k := by omega
  have h2 : (k : Int) < 64 := by omega
  have h3 : (k : Int) ≤ 64 := by omega
  simp [go_sem, binOp, h, h1, h2, h3]
theorem shl1 (a : Int) : (binS .shl 117 x y (.int .u64 a) (.int .u64 1)).run Tryz.prog w = .ok (.int .u64 (IntKind.u64.wrap (a * 2))) w := by
  rw [binS_run _ _ _ _ _ _ (by kernel_rfl)]
  simp [go_sem, binOp]
theorem shr1 (a : Int) : (binS .shr 117 x y (.int .u64 a) (.int .u64 1)).run Tryz.prog w = .ok (.int .u64 (a / 2)) w := by
  rw [binS_run _ _ _ _ _ _ (by kernel_rfl)]
  simp [go_sem, binOp]
theorem shr7 (a : Int) : (binS .shr 117 x y (.int .u64 a) (.int .u64 7)).run Tryz.prog w = .ok (.int .u64 (a / 128)) w := by
  rw [binS_run _ _ _ _ _ _ (by kernel_rfl)]
  simp [go_sem, binOp]
theorem shr63 (a : Int) : (binS .shr 3 x y (.int .i64 a) (.int .u64 63)).run Tryz.prog w = .ok (.int .i64 (a / 9223372036854775808)) w := by
  rw [binS_run _ _ _ _ _ _ (by kernel_rfl)]
  simp [go_sem, binOp]
theorem cv8_64 (a : Int) : (convert 5 117 (.int .u8 a)).run Tryz.prog w = .ok (.int .u64 (IntKind.u64.wrap a)) w := by simp [go_sem]
theorem cv64_i (a : Int) : (convert 117 3 (.int .u64 a)).run Tryz.prog w = .ok (.int .i64 (IntKind.i64.wrap a)) w := by simp [go_sem]
theorem cvi_64 (a : Int) : (convert 3 117 (.int .i64 a)).run Tryz.prog w = .ok (.int .u64 (IntKind.u64.wrap a)) w := by simp [go_sem]
theorem cv64_8 (a : Int) : (convert 117 5 (.int .u64 a)).run Tryz.prog w = .ok (.int .u8 (IntKind.u8.wrap a)) w := by simp [go_sem]
theorem negI (a : Int) : (Op.unary .neg (.int .i64 a)).run Tryz.prog w = .ok (.int .i64 (IntKind.i64.wrap (-a))) w := by simp [go_sem]
theorem iarr {b k : Nat} (h : k < 10) : (Instr.indexAt 127 (.pointer (some ⟨b, 0, none⟩)) (.int .i64 (k : Int))).run Tryz.prog w = .ok (.pointer (some ⟨b, k, none⟩)) w := by
  have h' : (k : Int) < 10 := by omega
  have e : Tryz.prog.arrayLen 127 = 10 := by kernel_rfl
  simp [go_sem, h', h, e, Addr.add]
  exact fun h => h.symm
theorem sarr {b k : Nat} (h : k ≤ 10) : (Instr.sliceAt 127 (.pointer (some ⟨b, 0, none⟩)) none (some (.int .i64 (k : Int))) none).run Tryz.prog w = .ok (.slice (some ⟨b, 0, none⟩) k 10) w := by
  have e : Tryz.prog.arrayLen 127 = 10 := by kernel_rfl
  have h' : ((k : Nat) : Int) ≤ Tryz.prog.arrayLen 127 := by rw [e]; omega
  rw [run_sliceAt_array_h (P := Tryz.prog) w 127 ⟨b, 0, none⟩ (by simp [Program.arrayLen, Program.elem, Tryz.underlying127]) .i64 (k : Int) (by omega) h']
  obtain ⟨i, hi⟩ := info_of_underlying Tryz.underlying5
  rw [show Tryz.prog.elem 127 = 5 from by simp [Program.elem, Tryz.underlying127], run_sizeOf w hi]
  simp [slicedAt, e, Addr.add]
end
end Go.Proofs.YtcldjjmfpmkldaaGreatDoor.M
namespace Go.Proofs.YtcldjjmfpmkldaaGreatDoor.M
open Go.Proofs.YtcldjjmfpmkldaaGreatDoor.F
set_option linter.unusedVariables false
set_option maxRecDepth 100000
variable {R : VP} {Q : EQ}
def m73_16 (R : VP) (K1 : (Value × Value) → World → Prop) (t2 t3 t4 : Value) (w : World) : Prop :=
  R (Value.tuple #[t2, t3, t4]) w
def m73_13 (R : VP) (K1 : (Value × Value) → World → Prop) (t2 t3 t4 : Value) (w : World) : Prop :=
  R (Value.tuple #[t2, t3, t4]) w
def m73_11 (R : VP) (K1 : (Value × Value) → World → Prop) (t2 t3 t4 : Value) (w : World) : Prop :=
  R (Value.tuple #[t2, t3, t4]) w
def m73_10 (R : VP) (K1 : (Value × Value) → World → Prop) (s0 u5 k6 : Value) (w : World) : Prop :=
  valQ Tryz.prog (binS BinOp.shr 117 (tm 45) (Operand.const (Value.int IntKind.u64 1)) u5 (Value.int IntKind.u64 1)) w fun t46 =>
  valQ Tryz.prog (convert 117 3 t46) w fun t47 =>
  valQ Tryz.prog (binS BinOp.and 117 (tm 48) (Operand.const (Value.int IntKind.u64 1)) u5 (Value.int IntKind.u64 1)) w fun t49 =>
  valQ Tryz.prog (convert 117 3 t49) w fun t50 =>
  valQ Tryz.prog (Op.unary UnOp.neg t50) w fun t51 =>
  valQ Tryz.prog (binS BinOp.xor 3 (tm 47) (tm 51) t47 t51) w fun t52 =>
  valQ Tryz.prog (Instr.sliceAt 9 s0 (some k6) none none) w fun t55 =>
  anyDraw w fun w =>
  m73_11 R K1 t52 t55 (vi 0) w
def m73_12 (R : VP) (K1 : (Value × Value) → World → Prop) (s0 u5 k6 t44 : Value) (w : World) : Prop :=
  condP t44
  (m73_13 R K1 (vi 0) (Value.string ⟨#[]⟩) (vi 2) w)
  (m73_10 R K1 s0 u5 k6 w)
def m73_9 (R : VP) (K1 : (Value × Value) → World → Prop) (s0 u5 k6 c7 : Value) (w : World) : Prop :=
  valP Tryz.prog (binS BinOp.gtr 3 (tm 31) (ci 1) k6 (vi 1)) w fun t32 w =>
  condP t32
  (valP Tryz.prog (binS BinOp.eql 5 (tm 34) (Operand.const (Value.int IntKind.u8 0)) c7 (Value.int IntKind.u8 0)) w fun t35 w =>
  pickP t32 t35 (Value.bool false) fun t36 =>
  condP t36
  (pickP t36 (Value.bool true) undef fun t44 =>
  m73_12 R K1 s0 u5 k6 t44 w)
  (valP Tryz.prog (binS BinOp.eql 3 (tm 38) (ci 10) k6 (vi 10)) w fun t39 w =>
  condP t39
  (valP Tryz.prog (binS BinOp.gtr 5 (tm 41) (Operand.const (Value.int IntKind.u8 1)) c7 (Value.int IntKind.u8 1)) w fun t42 w =>
  pickP t39 t42 (Value.bool false) fun t43 =>
  pickP t36 (Value.bool true) t43 fun t44 =>
  m73_12 R K1 s0 u5 k6 t44 w)
  (pickP t39 undef (Value.bool false) fun t43 =>
  pickP t36 (Value.bool true) t43 fun t44 =>
  m73_12 R K1 s0 u5 k6 t44 w)))
  (pickP t32 undef (Value.bool false) fun t36 =>
  condP t36
  (pickP t36 (Value.bool true) undef fun t44 =>
  m73_12 R K1 s0 u5 k6 t44 w)
  (valP Tryz.prog (binS BinOp.eql 3 (tm 38) (ci 10) k6 (vi 10)) w fun t39 w =>
  condP t39
  (valP Tryz.prog (binS BinOp.gtr 5 (tm 41) (Operand.const (Value.int IntKind.u8 1)) c7 (Value.int IntKind.u8 1)) w fun t42 w =>
  pickP t39 t42 (Value.bool false) fun t43 =>
  pickP t36 (Value.bool true) t43 fun t44 =>
  m73_12 R K1 s0 u5 k6 t44 w)
  (pickP t39 undef (Value.bool false) fun t43 =>
  pickP t36 (Value.bool true) t43 fun t44 =>
  m73_12 R K1 s0 u5 k6 t44 w)))
def m73_14 (R : VP) (K1 : (Value × Value) → World → Prop) (s0 u5 k6 c7 t30 : Value) (w : World) : Prop :=
  condP t30
  (K1 (u5, k6) w)
  (m73_9 R K1 s0 u5 k6 c7 w)
def m73_8 (R : VP) (K1 : (Value × Value) → World → Prop) (s0 u5 k6 c7 : Value) (w : World) : Prop :=
  valP Tryz.prog (binS BinOp.geq 5 (tm 29) (Operand.const (Value.int IntKind.u8 128)) c7 (Value.int IntKind.u8 128)) w fun t30 w =>
  m73_14 R K1 s0 u5 k6 c7 t30 w
def m73_7 (R : VP) (K1 : (Value × Value) → World → Prop) (s0 u5 k6 c7 : Value) (w : World) : Prop :=
  valP Tryz.prog (binS BinOp.add 3 (tm 27) (ci 1) k6 (vi 1)) w fun t28 w =>
  m73_8 R K1 s0 u5 t28 c7 w
def m73_6 (R : VP) (K1 : (Value × Value) → World → Prop) (s0 u5 k6 c7 : Value) (w : World) : Prop :=
  valP Tryz.prog (binS BinOp.and 5 (tm 20) (Operand.const (Value.int IntKind.u8 127)) c7 (Value.int IntKind.u8 127)) w fun t21 w =>
  valP Tryz.prog (convert 5 117 t21) w fun t22 w =>
  valP Tryz.prog (binS BinOp.mul 3 (ci 7) (tm 23) (vi 7) k6) w fun t24 w =>
  valP Tryz.prog (binS BinOp.shl 117 (tm 22) (tm 24) t22 t24) w fun t25 w =>
  valP Tryz.prog (binS BinOp.or 117 (tm 19) (tm 25) u5 t25) w fun t26 w =>
  m73_7 R K1 s0 t26 k6 c7 w
def m73_5 (R : VP) (K1 : (Value × Value) → World → Prop) (s0 u5 k6 : Value) (w : World) : Prop :=
  valP Tryz.prog (Instr.index 9 s0 k6) w fun t18 w =>
  m73_6 R K1 s0 u5 k6 t18 w
def m73_15 (R : VP) (K1 : (Value × Value) → World → Prop) (s0 u5 k6 t15 : Value) (w : World) : Prop :=
  condP t15
  (m73_16 R K1 (vi 0) (Value.string ⟨#[]⟩) (vi 2) w)
  (m73_5 R K1 s0 u5 k6 w)
def m73_4 (R : VP) (K1 : (Value × Value) → World → Prop) (s0 u5 k6 : Value) (w : World) : Prop :=
  builtinP Tryz.prog Builtin.len #[9] 3 #[false] #[s0] w fun t10 w =>
  valP Tryz.prog (binS BinOp.eql 3 (tm 8) (tm 10) k6 t10) w fun t11 w =>
  condP t11
  (pickP t11 (Value.bool true) undef fun t15 =>
  m73_15 R K1 s0 u5 k6 t15 w)
  (valP Tryz.prog (binS BinOp.eql 3 (tm 13) (ci 10) k6 (vi 10)) w fun t14 w =>
  pickP t11 (Value.bool true) t14 fun t15 =>
  m73_15 R K1 s0 u5 k6 t15 w)
def m73_3 (R : VP) (s0 u5 k6 : Value) (w : World) : Prop :=
  loopP (fun (K1 : (Value × Value) → World → Prop) (s : Value × Value) w => m73_4 R K1 s0 s.1 s.2 w) (u5, k6) w
def m73_2 (R : VP) (s0 u5 : Value) (w : World) : Prop :=
  m73_3 R s0 u5 (vi 0) w
def m73_1 (R : VP) (s0 : Value) (w : World) : Prop :=
  m73_2 R s0 (Value.int IntKind.u64 0) w
def m73_0 (R : VP) (s0 : Value) (w : World) : Prop :=
  m73_1 R s0 w
abbrev W73 := cwp Tryz.prog (fun i => cond (Nat.beq i 11) 1 (0))
abbrev WL73 := cwpL Tryz.prog (fun i => cond (Nat.beq i 11) 1 (0))
abbrev WT73 := cwpT Tryz.prog (fun i => cond (Nat.beq i 11) 1 (0))
noncomputable def k73_0 := bodyOf Tryz.f73
noncomputable def k73_1 := cS (c2 k73_0)
noncomputable def k73_2 := c2 k73_1
noncomputable def k73_3 := c2 k73_2
noncomputable def k73_4 := c2 k73_3
noncomputable def k73_5 := c2 k73_4
noncomputable def k73_6 := c2 k73_5
noncomputable def k73_7 := c2 k73_6
noncomputable def k73_8 := c2 k73_7
noncomputable def k73_9 := c2 k73_8
noncomputable def k73_10 := c2 k73_9
noncomputable def k73_11 := c2 k73_10
noncomputable def k73_12 := c2 (c1 k73_9)
noncomputable def k73_13 := c2 (c1 k73_12)
noncomputable def k73_14 := c2 (c1 k73_8)
noncomputable def k73_15 := c2 (c1 k73_4)
noncomputable def k73_16 := c2 (c1 k73_15)
abbrev hR73 (R : VP) (Q : EQ) : Prop := ∀ e w, (R (Value.tuple #[(e 2), (e 3), (e 4)]) w) → Q .ret e w
theorem s73_16 {K1 : (Value × Value) → World → Prop} (hR : hR73 R Q) (e : Env) (w : World) (h : m73_16 R K1 (e 2) (e 3) (e 4) w) : W73 k73_16 Q e w := by
  exact reA (hR _ _ h)
theorem s73_13 {K1 : (Value × Value) → World → Prop} (hR : hR73 R Q) (e : Env) (w : World) (h : m73_13 R K1 (e 2) (e 3) (e 4) w) : W73 k73_13 Q e w := by
  exact reA (hR _ _ h)
theorem s73_11 {K1 : (Value × Value) → World → Prop} (hR : hR73 R Q) (e : Env) (w : World) (h : m73_11 R K1 (e 2) (e 3) (e 4) w) : W73 k73_11 Q e w := by
  exact reA (hR _ _ h)
theorem s73_10 {K1 : (Value × Value) → World → Prop} (hR : hR73 R Q) (e : Env) (w : World) (h : m73_10 R K1 (e 0) (e 5) (e 6) w) : W73 k73_10 Q e w := by
  refine seA ?_
  have hN : ∀ e w, (m73_11 R K1 (e 2) (e 3) (e 4) w) → (thenE (W73 k73_11 Q) Q) .normal e w := fun e w h => then_N (s73_11 hR e w h)
  exact quA 11 (fun e w => m73_11 R K1 (e 2) (e 3) (e 4) w) h hN
theorem s73_12 {K1 : (Value × Value) → World → Prop} (hN : ∀ e w, (m73_10 R K1 (e 0) (e 5) (e 6) w) → Q .normal e w) (hR : hR73 R Q) (e : Env) (w : World) (h : m73_12 R K1 (e 0) (e 5) (e 6) (e 44) w) : W73 k73_12 Q e w := by
  refine coA (Operand.tmp 44) h (fun h1 => ?_) (fun h1 => ?_)
  · refine seA ?_
    exact rgA 10 (fun e w => m73_13 R K1 (e 2) (e 3) (e 4) w) h1 fun e w h => then_N (s73_13 hR e w h)
  · exact skA (hN _ _ h1)
theorem s73_9 {K1 : (Value × Value) → World → Prop} (hR : hR73 R Q) (e : Env) (w : World) (h : m73_9 R K1 (e 0) (e 5) (e 6) (e 7) w) : W73 k73_9 Q e w := by
  refine seA ?_
  have hN : ∀ e w, (m73_10 R K1 (e 0) (e 5) (e 6) w) → (thenE (W73 k73_10 Q) Q) .normal e w := fun e w h => then_N (s73_10 hR e w h)
  have hR : hR73 R (thenE (W73 k73_10 Q) Q) := fun e w h => then_R (hR e w h)
  refine seA ?_
  exact rgA 9 (fun e w => m73_12 R K1 (e 0) (e 5) (e 6) (e 44) w) h fun e w h => then_N (s73_12 hN hR e w h)
theorem s73_14 {K1 : (Value × Value) → World → Prop} (hG0 : ∀ e w, (K1 ((e 5), (e 6)) w) → Q (.goto 0) e w) (hN : ∀ e w, (m73_9 R K1 (e 0) (e 5) (e 6) (e 7) w) → Q .normal e w) (e : Env) (w : World) (h : m73_14 R K1 (e 0) (e 5) (e 6) (e 7) (e 30) w) : W73 k73_14 Q e w := by
  refine coA (Operand.tmp 30) h (fun h1 => ?_) (fun h1 => ?_)
  · exact goA 0 (hG0 _ _ h1)
  · exact skA (hN _ _ h1)
theorem s73_8 {K1 : (Value × Value) → World → Prop} (hG0 : ∀ e w, (K1 ((e 5), (e 6)) w) → Q (.goto 0) e w) (hR : hR73 R Q) (e : Env) (w : World) (h : m73_8 R K1 (e 0) (e 5) (e 6) (e 7) w) : W73 k73_8 Q e w := by
  refine seA ?_
  have hN : ∀ e w, (m73_9 R K1 (e 0) (e 5) (e 6) (e 7) w) → (thenE (W73 k73_9 Q) Q) .normal e w := fun e w h => then_N (s73_9 hR e w h)
  have hG0 : ∀ e w, (K1 ((e 5), (e 6)) w) → (thenE (W73 k73_9 Q) Q) (.goto 0) e w := fun e w h => then_G (hG0 e w h)
  refine seA ?_
  exact rgA 8 (fun e w => m73_14 R K1 (e 0) (e 5) (e 6) (e 7) (e 30) w) h fun e w h => then_N (s73_14 (K1 := K1) hG0 hN e w h)
theorem s73_7 {K1 : (Value × Value) → World → Prop} (hG0 : ∀ e w, (K1 ((e 5), (e 6)) w) → Q (.goto 0) e w) (hR : hR73 R Q) (e : Env) (w : World) (h : m73_7 R K1 (e 0) (e 5) (e 6) (e 7) w) : W73 k73_7 Q e w := by
  refine seA ?_
  exact rgA 7 (fun e w => m73_8 R K1 (e 0) (e 5) (e 6) (e 7) w) h fun e w h => then_N (s73_8 (K1 := K1) hG0 hR e w h)
theorem s73_6 {K1 : (Value × Value) → World → Prop} (hG0 : ∀ e w, (K1 ((e 5), (e 6)) w) → Q (.goto 0) e w) (hR : hR73 R Q) (e : Env) (w : World) (h : m73_6 R K1 (e 0) (e 5) (e 6) (e 7) w) : W73 k73_6 Q e w := by
  refine seA ?_
  exact rgA 6 (fun e w => m73_7 R K1 (e 0) (e 5) (e 6) (e 7) w) h fun e w h => then_N (s73_7 (K1 := K1) hG0 hR e w h)
theorem s73_5 {K1 : (Value × Value) → World → Prop} (hG0 : ∀ e w, (K1 ((e 5), (e 6)) w) → Q (.goto 0) e w) (hR : hR73 R Q) (e : Env) (w : World) (h : m73_5 R K1 (e 0) (e 5) (e 6) w) : W73 k73_5 Q e w := by
  refine seA ?_
  exact rgA 5 (fun e w => m73_6 R K1 (e 0) (e 5) (e 6) (e 7) w) h fun e w h => then_N (s73_6 (K1 := K1) hG0 hR e w h)
theorem s73_15 {K1 : (Value × Value) → World → Prop} (hN : ∀ e w, (m73_5 R K1 (e 0) (e 5) (e 6) w) → Q .normal e w) (hR : hR73 R Q) (e : Env) (w : World) (h : m73_15 R K1 (e 0) (e 5) (e 6) (e 15) w) : W73 k73_15 Q e w := by
  refine coA (Operand.tmp 15) h (fun h1 => ?_) (fun h1 => ?_)
  · refine seA ?_
    exact rgA 4 (fun e w => m73_16 R K1 (e 2) (e 3) (e 4) w) h1 fun e w h => then_N (s73_16 hR e w h)
  · exact skA (hN _ _ h1)
theorem s73_4 {K1 : (Value × Value) → World → Prop} (hG0 : ∀ e w, (K1 ((e 5), (e 6)) w) → Q (.goto 0) e w) (hR : hR73 R Q) (e : Env) (w : World) (h : m73_4 R K1 (e 0) (e 5) (e 6) w) : W73 k73_4 Q e w := by
  refine seA ?_
  have hN : ∀ e w, (m73_5 R K1 (e 0) (e 5) (e 6) w) → (thenE (W73 k73_5 Q) Q) .normal e w := fun e w h => then_N (s73_5 (K1 := K1) hG0 hR e w h)
  have hR : hR73 R (thenE (W73 k73_5 Q) Q) := fun e w h => then_R (hR e w h)
  refine seA ?_
  exact rgA 3 (fun e w => m73_15 R K1 (e 0) (e 5) (e 6) (e 15) w) h fun e w h => then_N (s73_15 hN hR e w h)
theorem s73_3 (hR : hR73 R Q) (e : Env) (w : World) (h : m73_3 R (e 0) (e 5) (e 6) w) : WL73 k73_3 Q e w := by
  refine lab_ok 0 (fun (e : Env) => (e 5, e 6)) [0] (by kernel_rfl) (by kernel_rfl) h (fun K e' w' hk h' => ?_)
  have r0 : e' 0 = e 0 := hk 0 (by decide)
  have hR : hR73 R (gotoE 0 (fun (e : Env) w => K ((e 5), (e 6)) w) Q) := fun e w h => goto_R (hR e w h)
  exact s73_4 (R := R) (Q := (gotoE 0 (fun (e : Env) w => K ((e 5), (e 6)) w) Q)) (K1 := K) (fun _ _ h => goto_K h) hR e' w' (by rw [r0]; exact h')
theorem s73_2 (hR : hR73 R Q) (e : Env) (w : World) (h : m73_2 R (e 0) (e 5) w) : WL73 k73_2 Q e w := by
  refine seL ?_
  exact rgA 2 (fun e w => m73_3 R (e 0) (e 5) (e 6) w) h fun e w h => then_N (s73_3 hR e w h)
theorem s73_1 (hR : hR73 R Q) (e : Env) (w : World) (h : m73_1 R (e 0) w) : WL73 k73_1 Q e w := by
  refine seL ?_
  exact rgA 1 (fun e w => m73_2 R (e 0) (e 5) w) h fun e w h => then_N (s73_2 hR e w h)
theorem s73_0 (hR : hR73 R Q) (e : Env) (w : World) (h : m73_0 R (e 0) w) : WT73 k73_0 Q e w := by
  show cwp Tryz.prog _ (c1 k73_0) (thenE (WL73 k73_1 Q) Q) e w
  exact rgA 0 (fun e w => m73_1 R (e 0) w) h fun e w h => then_N (s73_1 hR e w h)
abbrev m73 (R : VP) (s0 : Value) (w : World) : Prop := m73_0 R s0 w
theorem s73 (s0 : Value) {R : VP} {w : World} (h : m73 R s0 w) :
    Calls Tryz.prog 73 #[s0] w fun e w' => ∃ v, e = .returned v ∧ R v w' :=
  calls_of_cwpT (st := (fun i => cond (Nat.beq i 11) 1 (0))) (c := k73_0) 0 (by kernel_rfl) Tryz.func73 (by kernel_rfl) (by kernel_rfl) (Nat.le_of_ble_eq_true (by kernel_rfl)) (by kernel_rfl) (by kernel_rfl)
    (s73_0 (R := R) (Q := endE Tryz.prog Tryz.f73 R) (fun e w h => kcast (by kernel_rfl) h) (argsE #[s0]) w (kcast (by kernel_rfl) h))
def m59_10 (R : VP) (K1 : (Value × Value) → World → Prop) (u3 b4 k5 : Value) (w : World) : Prop :=
  valP Tryz.prog (binS BinOp.add 3 (tm 15) (ci 1) k5 (vi 1)) w fun t16 w =>
  K1 (u3, t16) w
def m59_11 (R : VP) (K1 : (Value × Value) → World → Prop) (u3 b4 k5 : Value) (w : World) : Prop :=
  valP Tryz.prog (binS BinOp.shr 117 (tm 22) (Operand.const (Value.int IntKind.u64 7)) u3 (Value.int IntKind.u64 7)) w fun t23 w =>
  m59_10 R K1 t23 b4 k5 w
def m59_9 (R : VP) (K1 : (Value × Value) → World → Prop) (u3 b4 k5 : Value) (w : World) : Prop :=
  valP Tryz.prog (convert 117 5 u3) w fun t19 w =>
  valP Tryz.prog (binS BinOp.or 5 (tm 19) (Operand.const (Value.int IntKind.u8 128)) t19 (Value.int IntKind.u8 128)) w fun t20 w =>
  valP Tryz.prog (Instr.indexAt 127 b4 k5) w fun t21 w =>
  unitP Tryz.prog (Instr.storeAt 5 t21 t20) w fun _ w =>
  m59_11 R K1 u3 b4 k5 w
def m59_7 (R : VP) (t2 : Value) (w : World) : Prop :=
  R t2 w
def m59_6 (R : VP) (b4 k5 : Value) (w : World) : Prop :=
  valP Tryz.prog (binS BinOp.add 3 (tm 28) (ci 1) k5 (vi 1)) w fun t29 w =>
  valP Tryz.prog (Instr.sliceAt 127 b4 none (some t29) none) w fun t30 w =>
  valP Tryz.prog (convert 97 9 t30) w fun t31 w =>
  m59_7 R t31 w
def m59_5 (R : VP) (u3 b4 k5 : Value) (w : World) : Prop :=
  valP Tryz.prog (convert 117 5 u3) w fun t26 w =>
  valP Tryz.prog (Instr.indexAt 127 b4 k5) w fun t27 w =>
  unitP Tryz.prog (Instr.storeAt 5 t27 t26) w fun _ w =>
  m59_6 R b4 k5 w
def m59_12 (R : VP) (K1 : (Value × Value) → World → Prop) (u3 b4 k5 t14 : Value) (w : World) : Prop :=
  condP t14
  (m59_9 R K1 u3 b4 k5 w)
  (m59_5 R u3 b4 k5 w)
def m59_8 (R : VP) (K1 : (Value × Value) → World → Prop) (u3 b4 k5 : Value) (w : World) : Prop :=
  valP Tryz.prog (binS BinOp.geq 117 (tm 13) (Operand.const (Value.int IntKind.u64 128)) u3 (Value.int IntKind.u64 128)) w fun t14 w =>
  m59_12 R K1 u3 b4 k5 t14 w
def m59_4 (R : VP) (u3 b4 k5 : Value) (w : World) : Prop :=
  loopP (fun (K1 : (Value × Value) → World → Prop) (s : Value × Value) w => m59_8 R K1 s.1 b4 s.2 w) (u3, k5) w
def m59_3 (R : VP) (u3 b4 : Value) (w : World) : Prop :=
  m59_4 R u3 b4 (vi 0) w
def m59_2 (R : VP) (u3 : Value) (w : World) : Prop :=
  valP Tryz.prog (Instr.alloc 127 true (.tuple #[])) w fun b4 w =>
  m59_3 R u3 b4 w
def m59_1 (R : VP) (n0 : Value) (w : World) : Prop :=
  valP Tryz.prog (convert 3 117 n0) w fun t7 w =>
  valP Tryz.prog (binS BinOp.shl 117 (tm 7) (Operand.const (Value.int IntKind.u64 1)) t7 (Value.int IntKind.u64 1)) w fun t8 w =>
  valP Tryz.prog (binS BinOp.shr 3 (tm 9) (Operand.const (Value.int IntKind.u64 63)) n0 (Value.int IntKind.u64 63)) w fun t10 w =>
  valP Tryz.prog (convert 3 117 t10) w fun t11 w =>
  valP Tryz.prog (binS BinOp.xor 117 (tm 8) (tm 11) t8 t11) w fun t12 w =>
  m59_2 R t12 w
def m59_0 (R : VP) (n0 : Value) (w : World) : Prop :=
  m59_1 R n0 w
abbrev W59 := cwp Tryz.prog (fun i => 0)
noncomputable def k59_0 := bodyOf Tryz.f59
noncomputable def k59_1 := c2 k59_0
noncomputable def k59_2 := c2 k59_1
noncomputable def k59_3 := c2 k59_2
noncomputable def k59_4 := c2 k59_3
noncomputable def k59_5 := c2 k59_4
noncomputable def k59_6 := c2 k59_5
noncomputable def k59_7 := c2 k59_6
noncomputable def k59_8 := c1 (c1 (c1 k59_4))
noncomputable def k59_9 := c2 k59_8
noncomputable def k59_10 := c2 k59_9
noncomputable def k59_11 := c2 (c1 (c1 k59_9))
noncomputable def k59_12 := c2 (c1 k59_8)
theorem s59_10 {K1 : (Value × Value) → World → Prop} (hN : ∀ e w, (K1 ((e 3), (e 5)) w) → Q .normal e w) (e : Env) (w : World) (h : m59_10 R K1 (e 3) (e 4) (e 5) w) : W59 k59_10 Q e w := by
  exact rgA 5 (fun e w => K1 ((e 3), (e 5)) w) h hN
theorem s59_11 {K1 : (Value × Value) → World → Prop} (hN : ∀ e w, (m59_10 R K1 (e 3) (e 4) (e 5) w) → Q .normal e w) (e : Env) (w : World) (h : m59_11 R K1 (e 3) (e 4) (e 5) w) : W59 k59_11 Q e w := by
  exact rgA 7 (fun e w => m59_10 R K1 (e 3) (e 4) (e 5) w) h hN
theorem s59_9 {K1 : (Value × Value) → World → Prop} (hN : ∀ e w, (K1 ((e 3), (e 5)) w) → Q .normal e w) (e : Env) (w : World) (h : m59_9 R K1 (e 3) (e 4) (e 5) w) : W59 k59_9 Q e w := by
  refine seA ?_
  have hN : ∀ e w, (m59_10 R K1 (e 3) (e 4) (e 5) w) → (thenE (W59 k59_10 Q) Q) .normal e w := fun e w h => then_N (s59_10 hN e w h)
  refine block_ok 1 (by kernel_rfl) ?_
  have hN : ∀ e w, (m59_10 R K1 (e 3) (e 4) (e 5) w) → (inBlockE 1 (thenE (W59 k59_10 Q) Q)) .normal e w := fun e w h => block_N (hN e w h)
  refine seA ?_
  exact rgA 6 (fun e w => m59_11 R K1 (e 3) (e 4) (e 5) w) h fun e w h => then_N (s59_11 (R := R) (Q := (inBlockE 1 (thenE (W59 k59_10 Q) Q))) hN e w h)
abbrev hR59 (R : VP) (Q : EQ) : Prop := ∀ e w, (R (e 2) w) → Q .ret e w
theorem s59_7 (hR : hR59 R Q) (e : Env) (w : World) (h : m59_7 R (e 2) w) : W59 k59_7 Q e w := by
  exact reA (hR _ _ h)
theorem s59_6 (hR : hR59 R Q) (e : Env) (w : World) (h : m59_6 R (e 4) (e 5) w) : W59 k59_6 Q e w := by
  refine seA ?_
  exact rgA 9 (fun e w => m59_7 R (e 2) w) h fun e w h => then_N (s59_7 hR e w h)
theorem s59_5 (hR : hR59 R Q) (e : Env) (w : World) (h : m59_5 R (e 3) (e 4) (e 5) w) : W59 k59_5 Q e w := by
  refine seA ?_
  exact rgA 8 (fun e w => m59_6 R (e 4) (e 5) w) h fun e w h => then_N (s59_6 hR e w h)
theorem s59_12 {K1 : (Value × Value) → World → Prop} (hN : ∀ e w, (m59_9 R K1 (e 3) (e 4) (e 5) w) → Q .normal e w) (hX0 : ∀ e w, (m59_5 R (e 3) (e 4) (e 5) w) → Q (.exit 0) e w) (e : Env) (w : World) (h : m59_12 R K1 (e 3) (e 4) (e 5) (e 14) w) : W59 k59_12 Q e w := by
  refine coA (Operand.tmp 14) h (fun h1 => ?_) (fun h1 => ?_)
  · exact skA (hN _ _ h1)
  · exact exA 0 (hX0 _ _ h1)
theorem s59_8 {K1 : (Value × Value) → World → Prop} (hN : ∀ e w, (K1 ((e 3), (e 5)) w) → Q .normal e w) (hX0 : ∀ e w, (m59_5 R (e 3) (e 4) (e 5) w) → Q (.exit 0) e w) (e : Env) (w : World) (h : m59_8 R K1 (e 3) (e 4) (e 5) w) : W59 k59_8 Q e w := by
  refine seA ?_
  have hN : ∀ e w, (m59_9 R K1 (e 3) (e 4) (e 5) w) → (thenE (W59 k59_9 Q) Q) .normal e w := fun e w h => then_N (s59_9 hN e w h)
  have hX0 : ∀ e w, (m59_5 R (e 3) (e 4) (e 5) w) → (thenE (W59 k59_9 Q) Q) (.exit 0) e w := fun e w h => then_X (hX0 e w h)
  refine seA ?_
  exact rgA 4 (fun e w => m59_12 R K1 (e 3) (e 4) (e 5) (e 14) w) h fun e w h => then_N (s59_12 hN hX0 e w h)
theorem s59_4 (hR : hR59 R Q) (e : Env) (w : World) (h : m59_4 R (e 3) (e 4) (e 5) w) : W59 k59_4 Q e w := by
  refine seA ?_
  have hN : ∀ e w, (m59_5 R (e 3) (e 4) (e 5) w) → (thenE (W59 k59_5 Q) Q) .normal e w := fun e w h => then_N (s59_5 hR e w h)
  refine block_ok 0 (by kernel_rfl) ?_
  have hX0 : ∀ e w, (m59_5 R (e 3) (e 4) (e 5) w) → (inBlockE 0 (thenE (W59 k59_5 Q) Q)) (.exit 0) e w := fun e w h => inBlock_same (Q := (thenE (W59 k59_5 Q) Q)) 0 (hN e w h)
  refine loop_ok' (fun (e : Env) => (e 3, e 5)) [4] (by kernel_rfl) (by kernel_rfl) h (fun K e' w' hk h' => ?_)
  have r4 : e' 4 = e 4 := hk 4 (by decide)
  have hX0 : ∀ e w, (m59_5 R (e 3) (e 4) (e 5) w) → (thenE (fun (e : Env) w => K ((e 3), (e 5)) w) (inBlockE 0 (thenE (W59 k59_5 Q) Q))) (.exit 0) e w := fun e w h => then_X (hX0 e w h)
  exact s59_8 (K1 := K) (fun _ _ h => then_N h) hX0 e' w' (by rw [r4]; exact h')
theorem s59_3 (hR : hR59 R Q) (e : Env) (w : World) (h : m59_3 R (e 3) (e 4) w) : W59 k59_3 Q e w := by
  refine seA ?_
  exact rgA 3 (fun e w => m59_4 R (e 3) (e 4) (e 5) w) h fun e w h => then_N (s59_4 hR e w h)
theorem s59_2 (hR : hR59 R Q) (e : Env) (w : World) (h : m59_2 R (e 3) w) : W59 k59_2 Q e w := by
  refine seA ?_
  exact rgA 2 (fun e w => m59_3 R (e 3) (e 4) w) h fun e w h => then_N (s59_3 hR e w h)
theorem s59_1 (hR : hR59 R Q) (e : Env) (w : World) (h : m59_1 R (e 0) w) : W59 k59_1 Q e w := by
  refine seA ?_
  exact rgA 1 (fun e w => m59_2 R (e 3) w) h fun e w h => then_N (s59_2 hR e w h)
theorem s59_0 (hR : hR59 R Q) (e : Env) (w : World) (h : m59_0 R (e 0) w) : W59 k59_0 Q e w := by
  refine seA ?_
  exact rgA 0 (fun e w => m59_1 R (e 0) w) h fun e w h => then_N (s59_1 hR e w h)
abbrev m59 (R : VP) (n0 : Value) (w : World) : Prop := m59_0 R n0 w
theorem s59 (n0 : Value) {R : VP} {w : World} (h : m59 R n0 w) :
    Calls Tryz.prog 59 #[n0] w fun e w' => ∃ v, e = .returned v ∧ R v w' :=
  calls_of_cwp (st := (fun i => 0)) (c := k59_0) (by kernel_rfl) Tryz.func59 (by kernel_rfl) (Nat.le_of_ble_eq_true (by kernel_rfl)) (by kernel_rfl)
    (s59_0 (R := R) (Q := endE Tryz.prog Tryz.f59 R) (fun e w h => kcast (by kernel_rfl) h) (argsE #[n0]) w (kcast (by kernel_rfl) h))
def m85_22 (R : VP) (K1 : VP) (s0 k5 : Value) (w : World) : Prop :=
  valP Tryz.prog (binS BinOp.add 3 (tm 23) (ci 1) k5 (vi 1)) w fun t24 w =>
  K1 t24 w
def m85_20 (R : VP) (t2 t3 t4 : Value) (w : World) : Prop :=
  R (Value.tuple #[t2, t3, t4]) w
def m85_17 (R : VP) (K1 : (Value × Value) → World → Prop) (s0 k5 u6 i7 : Value) (w : World) : Prop :=
  valP Tryz.prog (binS BinOp.sub 3 (tm 36) (ci 1) i7 (vi 1)) w fun t37 w =>
  K1 (u6, t37) w
def m85_16 (R : VP) (K1 : (Value × Value) → World → Prop) (s0 k5 u6 i7 : Value) (w : World) : Prop :=
  valP Tryz.prog (binS BinOp.mul 117 (tm 38) (Operand.const (Value.int IntKind.u64 128)) u6 (Value.int IntKind.u64 128)) w fun t39 w =>
  valP Tryz.prog (Instr.index 9 s0 i7) w fun t42 w =>
  valP Tryz.prog (convert 5 117 t42) w fun t43 w =>
  valP Tryz.prog (binS BinOp.rem 117 (tm 43) (Operand.const (Value.int IntKind.u64 128)) t43 (Value.int IntKind.u64 128)) w fun t44 w =>
  valP Tryz.prog (binS BinOp.add 117 (tm 39) (tm 44) t39 t44) w fun t45 w =>
  m85_17 R K1 s0 k5 t45 i7 w
def m85_12 (R : VP) (t2 t3 t4 : Value) (w : World) : Prop :=
  R (Value.tuple #[t2, t3, t4]) w
def m85_10 (R : VP) (t2 t3 t4 : Value) (w : World) : Prop :=
  R (Value.tuple #[t2, t3, t4]) w
def m85_9 (R : VP) (s0 k5 n8 : Value) (w : World) : Prop :=
  valQ Tryz.prog (binS BinOp.add 3 (tm 64) (ci 1) k5 (vi 1)) w fun t65 =>
  valQ Tryz.prog (Instr.sliceAt 9 s0 (some t65) none none) w fun t66 =>
  anyDraw w fun w =>
  m85_10 R n8 t66 (vi 0) w
def m85_11 (R : VP) (s0 k5 n8 t61 : Value) (w : World) : Prop :=
  condP t61
  (m85_12 R (vi 0) (Value.string ⟨#[]⟩) (vi 2) w)
  (m85_9 R s0 k5 n8 w)
def m85_8 (R : VP) (s0 k5 n8 : Value) (w : World) : Prop :=
  anyDraw w fun w =>
  pureP Tryz.prog (binS BinOp.add 3 (tm 58) (ci 1) k5 (vi 1)) fun t59 =>
  pureP Tryz.prog (Instr.sliceAt 9 s0 none (some t59) none) fun t60 =>
  callP Tryz.prog (fnV 37) #[n8] w fun t56 w =>
  pureP Tryz.prog (binS BinOp.neq 9 (tm 56) (tm 60) t56 t60) fun t61 =>
  m85_11 R s0 k5 n8 t61 w
def m85_13 (R : VP) (s0 k5 n8 t51 : Value) (w : World) : Prop :=
  condP t51
  (valP Tryz.prog (Op.unary UnOp.neg n8) w fun t53 w =>
  valP Tryz.prog (binS BinOp.sub 3 (tm 53) (ci 1) t53 (vi 1)) w fun t54 w =>
  m85_8 R s0 k5 t54 w)
  (m85_8 R s0 k5 n8 w)
def m85_7 (R : VP) (s0 k5 u6 n8 : Value) (w : World) : Prop :=
  valP Tryz.prog (binS BinOp.rem 117 (tm 49) (Operand.const (Value.int IntKind.u64 2)) u6 (Value.int IntKind.u64 2)) w fun t50 w =>
  valP Tryz.prog (binS BinOp.eql 117 (tm 50) (Operand.const (Value.int IntKind.u64 1)) t50 (Value.int IntKind.u64 1)) w fun t51 w =>
  m85_13 R s0 k5 n8 t51 w
def m85_6 (R : VP) (s0 k5 u6 : Value) (w : World) : Prop :=
  valP Tryz.prog (binS BinOp.quo 117 (tm 46) (Operand.const (Value.int IntKind.u64 2)) u6 (Value.int IntKind.u64 2)) w fun t47 w =>
  valP Tryz.prog (convert 117 3 t47) w fun t48 w =>
  m85_7 R s0 k5 u6 t48 w
def m85_18 (R : VP) (K1 : (Value × Value) → World → Prop) (s0 k5 u6 i7 t35 : Value) (w : World) : Prop :=
  condP t35
  (m85_16 R K1 s0 k5 u6 i7 w)
  (m85_6 R s0 k5 u6 w)
def m85_15 (R : VP) (K1 : (Value × Value) → World → Prop) (s0 k5 u6 i7 : Value) (w : World) : Prop :=
  valP Tryz.prog (binS BinOp.geq 3 (tm 34) (ci 0) i7 (vi 0)) w fun t35 w =>
  m85_18 R K1 s0 k5 u6 i7 t35 w
def m85_14 (R : VP) (s0 k5 u6 i7 : Value) (w : World) : Prop :=
  loopP (fun (K1 : (Value × Value) → World → Prop) (s : Value × Value) w => m85_15 R K1 s0 k5 s.1 s.2 w) (u6, i7) w
def m85_5 (R : VP) (s0 k5 u6 : Value) (w : World) : Prop :=
  m85_14 R s0 k5 u6 k5 w
def m85_4 (R : VP) (s0 k5 : Value) (w : World) : Prop :=
  m85_5 R s0 k5 (Value.int IntKind.u64 0) w
def m85_19 (R : VP) (s0 k5 t32 : Value) (w : World) : Prop :=
  condP t32
  (m85_20 R (vi 0) (Value.string ⟨#[]⟩) (vi 2) w)
  (m85_4 R s0 k5 w)
def m85_3 (R : VP) (s0 k5 : Value) (w : World) : Prop :=
  builtinP Tryz.prog Builtin.len #[9] 3 #[false] #[s0] w fun t27 w =>
  valP Tryz.prog (binS BinOp.eql 3 (tm 25) (tm 27) k5 t27) w fun t28 w =>
  condP t28
  (pickP t28 (Value.bool true) undef fun t32 =>
  m85_19 R s0 k5 t32 w)
  (valP Tryz.prog (binS BinOp.eql 3 (tm 30) (ci 10) k5 (vi 10)) w fun t31 w =>
  pickP t28 (Value.bool true) t31 fun t32 =>
  m85_19 R s0 k5 t32 w)
def m85_23 (R : VP) (K1 : VP) (s0 k5 t22 : Value) (w : World) : Prop :=
  condP t22
  (m85_22 R K1 s0 k5 w)
  (m85_3 R s0 k5 w)
def m85_21 (R : VP) (K1 : VP) (s0 k5 : Value) (w : World) : Prop :=
  builtinP Tryz.prog Builtin.len #[9] 3 #[false] #[s0] w fun t11 w =>
  valP Tryz.prog (binS BinOp.lss 3 (tm 9) (tm 11) k5 t11) w fun t12 w =>
  condP t12
  (valP Tryz.prog (binS BinOp.lss 3 (tm 14) (ci 10) k5 (vi 10)) w fun t15 w =>
  pickP t12 t15 (Value.bool false) fun t16 =>
  condP t16
  (valP Tryz.prog (Instr.index 9 s0 k5) w fun t20 w =>
  valP Tryz.prog (binS BinOp.gtr 5 (tm 20) (Operand.const (Value.int IntKind.u8 127)) t20 (Value.int IntKind.u8 127)) w fun t21 w =>
  pickP t16 t21 (Value.bool false) fun t22 =>
  m85_23 R K1 s0 k5 t22 w)
  (pickP t16 undef (Value.bool false) fun t22 =>
  m85_23 R K1 s0 k5 t22 w))
  (pickP t12 undef (Value.bool false) fun t16 =>
  condP t16
  (valP Tryz.prog (Instr.index 9 s0 k5) w fun t20 w =>
  valP Tryz.prog (binS BinOp.gtr 5 (tm 20) (Operand.const (Value.int IntKind.u8 127)) t20 (Value.int IntKind.u8 127)) w fun t21 w =>
  pickP t16 t21 (Value.bool false) fun t22 =>
  m85_23 R K1 s0 k5 t22 w)
  (pickP t16 undef (Value.bool false) fun t22 =>
  m85_23 R K1 s0 k5 t22 w))
def m85_2 (R : VP) (s0 k5 : Value) (w : World) : Prop :=
  loopP (fun (K1 : VP) (s : Value) w => m85_21 R K1 s0 s w) k5 w
def m85_1 (R : VP) (s0 : Value) (w : World) : Prop :=
  m85_2 R s0 (vi 0) w
def m85_0 (R : VP) (s0 : Value) (w : World) : Prop :=
  m85_1 R s0 w
abbrev W85 := cwp Tryz.prog (fun i => cond (Nat.beq i 16) 1 (0))
noncomputable def k85_0 := bodyOf Tryz.f85
noncomputable def k85_1 := c2 k85_0
noncomputable def k85_2 := c2 k85_1
noncomputable def k85_3 := c2 k85_2
noncomputable def k85_4 := c2 k85_3
noncomputable def k85_5 := c2 k85_4
noncomputable def k85_6 := c2 k85_5
noncomputable def k85_7 := c2 k85_6
noncomputable def k85_8 := c2 k85_7
noncomputable def k85_9 := c2 k85_8
noncomputable def k85_10 := c2 k85_9
noncomputable def k85_11 := c2 (c1 k85_8)
noncomputable def k85_12 := c2 (c1 k85_11)
noncomputable def k85_13 := c2 (c1 k85_7)
noncomputable def k85_14 := c2 (c1 k85_5)
noncomputable def k85_15 := c1 (c1 k85_14)
noncomputable def k85_16 := c2 k85_15
noncomputable def k85_17 := c2 k85_16
noncomputable def k85_18 := c2 (c1 k85_15)
noncomputable def k85_19 := c2 (c1 k85_3)
noncomputable def k85_20 := c2 (c1 k85_19)
noncomputable def k85_21 := c1 (c1 (c1 k85_2))
noncomputable def k85_22 := c2 k85_21
noncomputable def k85_23 := c2 (c1 k85_21)
theorem s85_22 {K1 : VP} (hN : ∀ e w, (K1 (e 5) w) → Q .normal e w) (e : Env) (w : World) (h : m85_22 R K1 (e 0) (e 5) w) : W85 k85_22 Q e w := by
  refine block_ok 1 (by kernel_rfl) ?_
  exact rgA 3 (fun e w => K1 (e 5) w) h fun e w h => block_N (hN e w h)
abbrev hR85 (R : VP) (Q : EQ) : Prop := ∀ e w, (R (Value.tuple #[(e 2), (e 3), (e 4)]) w) → Q .ret e w
theorem s85_20 (hR : hR85 R Q) (e : Env) (w : World) (h : m85_20 R (e 2) (e 3) (e 4) w) : W85 k85_20 Q e w := by
  exact reA (hR _ _ h)
theorem s85_17 {K1 : (Value × Value) → World → Prop} (hN : ∀ e w, (K1 ((e 6), (e 7)) w) → Q .normal e w) (e : Env) (w : World) (h : m85_17 R K1 (e 0) (e 5) (e 6) (e 7) w) : W85 k85_17 Q e w := by
  exact rgA 9 (fun e w => K1 ((e 6), (e 7)) w) h hN
theorem s85_16 {K1 : (Value × Value) → World → Prop} (hN : ∀ e w, (K1 ((e 6), (e 7)) w) → Q .normal e w) (e : Env) (w : World) (h : m85_16 R K1 (e 0) (e 5) (e 6) (e 7) w) : W85 k85_16 Q e w := by
  refine seA ?_
  have hN : ∀ e w, (m85_17 R K1 (e 0) (e 5) (e 6) (e 7) w) → (thenE (W85 k85_17 Q) Q) .normal e w := fun e w h => then_N (s85_17 hN e w h)
  refine block_ok 3 (by kernel_rfl) ?_
  exact rgA 10 (fun e w => m85_17 R K1 (e 0) (e 5) (e 6) (e 7) w) h fun e w h => block_N (hN e w h)
theorem s85_12 (hR : hR85 R Q) (e : Env) (w : World) (h : m85_12 R (e 2) (e 3) (e 4) w) : W85 k85_12 Q e w := by
  exact reA (hR _ _ h)
theorem s85_10 (hR : hR85 R Q) (e : Env) (w : World) (h : m85_10 R (e 2) (e 3) (e 4) w) : W85 k85_10 Q e w := by
  exact reA (hR _ _ h)
theorem s85_9 (hR : hR85 R Q) (e : Env) (w : World) (h : m85_9 R (e 0) (e 5) (e 8) w) : W85 k85_9 Q e w := by
  refine seA ?_
  have hN : ∀ e w, (m85_10 R (e 2) (e 3) (e 4) w) → (thenE (W85 k85_10 Q) Q) .normal e w := fun e w h => then_N (s85_10 hR e w h)
  exact quA 16 (fun e w => m85_10 R (e 2) (e 3) (e 4) w) h hN
theorem s85_11 (hN : ∀ e w, (m85_9 R (e 0) (e 5) (e 8) w) → Q .normal e w) (hR : hR85 R Q) (e : Env) (w : World) (h : m85_11 R (e 0) (e 5) (e 8) (e 61) w) : W85 k85_11 Q e w := by
  refine coA (Operand.tmp 61) h (fun h1 => ?_) (fun h1 => ?_)
  · refine seA ?_
    exact rgA 15 (fun e w => m85_12 R (e 2) (e 3) (e 4) w) h1 fun e w h => then_N (s85_12 hR e w h)
  · exact skA (hN _ _ h1)
theorem s85_8 (hR : hR85 R Q) (e : Env) (w : World) (h : m85_8 R (e 0) (e 5) (e 8) w) : W85 k85_8 Q e w := by
  refine seA ?_
  have hN : ∀ e w, (m85_9 R (e 0) (e 5) (e 8) w) → (thenE (W85 k85_9 Q) Q) .normal e w := fun e w h => then_N (s85_9 hR e w h)
  have hR : hR85 R (thenE (W85 k85_9 Q) Q) := fun e w h => then_R (hR e w h)
  refine seA ?_
  have hN : ∀ e w, (m85_11 R (e 0) (e 5) (e 8) (e 61) w) → (thenE (W85 k85_11 (thenE (W85 k85_9 Q) Q)) (thenE (W85 k85_9 Q) Q)) .normal e w := fun e w h => then_N (s85_11 hN hR e w h)
  exact tree_ok 14 7 (bt 7 0) (.take 0 (bt 7 1) (.take 2 (bt 7 5) (.take 3 (bt 7 13) (.take 4 (bt 7 29) (.take 5 (bt 7 61) (.alt 1 (bt 7 63) (.take 6 (bt 7 127) .done) .stop)))))) (fun e w => m85_11 R (e 0) (e 5) (e 8) (e 61) w) (by kernel_rfl) (by kernel_rfl) (by kernel_rfl) (by kernel_rfl) (by kernel_rfl) (by kernel_rfl) (kcast (by kernel_rfl) h) hN (by kernel_rfl)
theorem s85_13 (hN : ∀ e w, (m85_8 R (e 0) (e 5) (e 8) w) → Q .normal e w) (e : Env) (w : World) (h : m85_13 R (e 0) (e 5) (e 8) (e 51) w) : W85 k85_13 Q e w := by
  refine coA (Operand.tmp 51) h (fun h1 => ?_) (fun h1 => ?_)
  · exact rgA 13 (fun e w => m85_8 R (e 0) (e 5) (e 8) w) h1 hN
  · exact skA (hN _ _ h1)
theorem s85_7 (hR : hR85 R Q) (e : Env) (w : World) (h : m85_7 R (e 0) (e 5) (e 6) (e 8) w) : W85 k85_7 Q e w := by
  refine seA ?_
  have hN : ∀ e w, (m85_8 R (e 0) (e 5) (e 8) w) → (thenE (W85 k85_8 Q) Q) .normal e w := fun e w h => then_N (s85_8 hR e w h)
  refine seA ?_
  exact rgA 12 (fun e w => m85_13 R (e 0) (e 5) (e 8) (e 51) w) h fun e w h => then_N (s85_13 hN e w h)
theorem s85_6 (hR : hR85 R Q) (e : Env) (w : World) (h : m85_6 R (e 0) (e 5) (e 6) w) : W85 k85_6 Q e w := by
  refine seA ?_
  exact rgA 11 (fun e w => m85_7 R (e 0) (e 5) (e 6) (e 8) w) h fun e w h => then_N (s85_7 hR e w h)
theorem s85_18 {K1 : (Value × Value) → World → Prop} (hN : ∀ e w, (m85_16 R K1 (e 0) (e 5) (e 6) (e 7) w) → Q .normal e w) (hX2 : ∀ e w, (m85_6 R (e 0) (e 5) (e 6) w) → Q (.exit 2) e w) (e : Env) (w : World) (h : m85_18 R K1 (e 0) (e 5) (e 6) (e 7) (e 35) w) : W85 k85_18 Q e w := by
  refine coA (Operand.tmp 35) h (fun h1 => ?_) (fun h1 => ?_)
  · exact skA (hN _ _ h1)
  · exact exA 2 (hX2 _ _ h1)
theorem s85_15 {K1 : (Value × Value) → World → Prop} (hN : ∀ e w, (K1 ((e 6), (e 7)) w) → Q .normal e w) (hX2 : ∀ e w, (m85_6 R (e 0) (e 5) (e 6) w) → Q (.exit 2) e w) (e : Env) (w : World) (h : m85_15 R K1 (e 0) (e 5) (e 6) (e 7) w) : W85 k85_15 Q e w := by
  refine seA ?_
  have hN : ∀ e w, (m85_16 R K1 (e 0) (e 5) (e 6) (e 7) w) → (thenE (W85 k85_16 Q) Q) .normal e w := fun e w h => then_N (s85_16 hN e w h)
  have hX2 : ∀ e w, (m85_6 R (e 0) (e 5) (e 6) w) → (thenE (W85 k85_16 Q) Q) (.exit 2) e w := fun e w h => then_X (hX2 e w h)
  refine seA ?_
  exact rgA 8 (fun e w => m85_18 R K1 (e 0) (e 5) (e 6) (e 7) (e 35) w) h fun e w h => then_N (s85_18 hN hX2 e w h)
theorem s85_14 (hN : ∀ e w, (m85_6 R (e 0) (e 5) (e 6) w) → Q .normal e w) (e : Env) (w : World) (h : m85_14 R (e 0) (e 5) (e 6) (e 7) w) : W85 k85_14 Q e w := by
  refine block_ok 2 (by kernel_rfl) ?_
  have hX2 : ∀ e w, (m85_6 R (e 0) (e 5) (e 6) w) → (inBlockE 2 Q) (.exit 2) e w := fun e w h => inBlock_same (Q := Q) 2 (hN e w h)
  refine loop_ok' (fun (e : Env) => (e 6, e 7)) [0, 5] (by kernel_rfl) (by kernel_rfl) h (fun K e' w' hk h' => ?_)
  have r0 : e' 0 = e 0 := hk 0 (by decide)
  have r5 : e' 5 = e 5 := hk 5 (by decide)
  have hX2 : ∀ e w, (m85_6 R (e 0) (e 5) (e 6) w) → (thenE (fun (e : Env) w => K ((e 6), (e 7)) w) (inBlockE 2 Q)) (.exit 2) e w := fun e w h => then_X (hX2 e w h)
  exact s85_15 (K1 := K) (fun _ _ h => then_N h) hX2 e' w' (by rw [r0, r5]; exact h')
theorem s85_5 (hR : hR85 R Q) (e : Env) (w : World) (h : m85_5 R (e 0) (e 5) (e 6) w) : W85 k85_5 Q e w := by
  refine seA ?_
  have hN : ∀ e w, (m85_6 R (e 0) (e 5) (e 6) w) → (thenE (W85 k85_6 Q) Q) .normal e w := fun e w h => then_N (s85_6 hR e w h)
  refine seA ?_
  exact rgA 7 (fun e w => m85_14 R (e 0) (e 5) (e 6) (e 7) w) h fun e w h => then_N (s85_14 hN e w h)
theorem s85_4 (hR : hR85 R Q) (e : Env) (w : World) (h : m85_4 R (e 0) (e 5) w) : W85 k85_4 Q e w := by
  refine seA ?_
  exact rgA 6 (fun e w => m85_5 R (e 0) (e 5) (e 6) w) h fun e w h => then_N (s85_5 hR e w h)
theorem s85_19 (hN : ∀ e w, (m85_4 R (e 0) (e 5) w) → Q .normal e w) (hR : hR85 R Q) (e : Env) (w : World) (h : m85_19 R (e 0) (e 5) (e 32) w) : W85 k85_19 Q e w := by
  refine coA (Operand.tmp 32) h (fun h1 => ?_) (fun h1 => ?_)
  · refine seA ?_
    exact rgA 5 (fun e w => m85_20 R (e 2) (e 3) (e 4) w) h1 fun e w h => then_N (s85_20 hR e w h)
  · exact skA (hN _ _ h1)
theorem s85_3 (hR : hR85 R Q) (e : Env) (w : World) (h : m85_3 R (e 0) (e 5) w) : W85 k85_3 Q e w := by
  refine seA ?_
  have hN : ∀ e w, (m85_4 R (e 0) (e 5) w) → (thenE (W85 k85_4 Q) Q) .normal e w := fun e w h => then_N (s85_4 hR e w h)
  have hR : hR85 R (thenE (W85 k85_4 Q) Q) := fun e w h => then_R (hR e w h)
  refine seA ?_
  exact rgA 4 (fun e w => m85_19 R (e 0) (e 5) (e 32) w) h fun e w h => then_N (s85_19 hN hR e w h)
theorem s85_23 {K1 : VP} (hN : ∀ e w, (m85_22 R K1 (e 0) (e 5) w) → Q .normal e w) (hX0 : ∀ e w, (m85_3 R (e 0) (e 5) w) → Q (.exit 0) e w) (e : Env) (w : World) (h : m85_23 R K1 (e 0) (e 5) (e 22) w) : W85 k85_23 Q e w := by
  refine coA (Operand.tmp 22) h (fun h1 => ?_) (fun h1 => ?_)
  · exact skA (hN _ _ h1)
  · exact exA 0 (hX0 _ _ h1)
theorem s85_21 {K1 : VP} (hN : ∀ e w, (K1 (e 5) w) → Q .normal e w) (hX0 : ∀ e w, (m85_3 R (e 0) (e 5) w) → Q (.exit 0) e w) (e : Env) (w : World) (h : m85_21 R K1 (e 0) (e 5) w) : W85 k85_21 Q e w := by
  refine seA ?_
  have hN : ∀ e w, (m85_22 R K1 (e 0) (e 5) w) → (thenE (W85 k85_22 Q) Q) .normal e w := fun e w h => then_N (s85_22 hN e w h)
  have hX0 : ∀ e w, (m85_3 R (e 0) (e 5) w) → (thenE (W85 k85_22 Q) Q) (.exit 0) e w := fun e w h => then_X (hX0 e w h)
  refine seA ?_
  exact rgA 2 (fun e w => m85_23 R K1 (e 0) (e 5) (e 22) w) h fun e w h => then_N (s85_23 hN hX0 e w h)
theorem s85_2 (hR : hR85 R Q) (e : Env) (w : World) (h : m85_2 R (e 0) (e 5) w) : W85 k85_2 Q e w := by
  refine seA ?_
  have hN : ∀ e w, (m85_3 R (e 0) (e 5) w) → (thenE (W85 k85_3 Q) Q) .normal e w := fun e w h => then_N (s85_3 hR e w h)
  refine block_ok 0 (by kernel_rfl) ?_
  have hX0 : ∀ e w, (m85_3 R (e 0) (e 5) w) → (inBlockE 0 (thenE (W85 k85_3 Q) Q)) (.exit 0) e w := fun e w h => inBlock_same (Q := (thenE (W85 k85_3 Q) Q)) 0 (hN e w h)
  refine loop_ok' (fun (e : Env) => e 5) [0] (by kernel_rfl) (by kernel_rfl) h (fun K e' w' hk h' => ?_)
  have r0 : e' 0 = e 0 := hk 0 (by decide)
  have hX0 : ∀ e w, (m85_3 R (e 0) (e 5) w) → (thenE (fun (e : Env) w => K (e 5) w) (inBlockE 0 (thenE (W85 k85_3 Q) Q))) (.exit 0) e w := fun e w h => then_X (hX0 e w h)
  exact s85_21 (K1 := K) (fun _ _ h => then_N h) hX0 e' w' (by rw [r0]; exact h')
theorem s85_1 (hR : hR85 R Q) (e : Env) (w : World) (h : m85_1 R (e 0) w) : W85 k85_1 Q e w := by
  refine seA ?_
  exact rgA 1 (fun e w => m85_2 R (e 0) (e 5) w) h fun e w h => then_N (s85_2 hR e w h)
theorem s85_0 (hR : hR85 R Q) (e : Env) (w : World) (h : m85_0 R (e 0) w) : W85 k85_0 Q e w := by
  refine seA ?_
  exact rgA 0 (fun e w => m85_1 R (e 0) w) h fun e w h => then_N (s85_1 hR e w h)
abbrev m85 (R : VP) (s0 : Value) (w : World) : Prop := m85_0 R s0 w
theorem s85 (s0 : Value) {R : VP} {w : World} (h : m85 R s0 w) :
    Calls Tryz.prog 85 #[s0] w fun e w' => ∃ v, e = .returned v ∧ R v w' :=
  calls_of_cwp (st := (fun i => cond (Nat.beq i 16) 1 (0))) (c := k85_0) (by kernel_rfl) Tryz.func85 (by kernel_rfl) (Nat.le_of_ble_eq_true (by kernel_rfl)) (by kernel_rfl)
    (s85_0 (R := R) (Q := endE Tryz.prog Tryz.f85 R) (fun e w h => kcast (by kernel_rfl) h) (argsE #[s0]) w (kcast (by kernel_rfl) h))
def m37_10 (R : VP) (K1 : (Value × Value) → World → Prop) (u3 b4 : Value) (w : World) : Prop :=
  valP Tryz.prog (binS BinOp.quo 117 (tm 25) (Operand.const (Value.int IntKind.u64 128)) u3 (Value.int IntKind.u64 128)) w fun t26 w =>
  K1 (t26, b4) w
def m37_9 (R : VP) (K1 : (Value × Value) → World → Prop) (u3 b4 : Value) (w : World) : Prop :=
  valP Tryz.prog (binS BinOp.rem 117 (tm 19) (Operand.const (Value.int IntKind.u64 128)) u3 (Value.int IntKind.u64 128)) w fun t20 w =>
  valP Tryz.prog (binS BinOp.add 117 (tm 20) (Operand.const (Value.int IntKind.u64 128)) t20 (Value.int IntKind.u64 128)) w fun t21 w =>
  valP Tryz.prog (convert 117 5 t21) w fun t22 w =>
  valP Tryz.prog (Instr.buildSlice 97 1 #[(0, t22)]) w fun t23 w =>
  builtinP Tryz.prog Builtin.append #[97, 97] 97 #[false, false] #[b4, t23] w fun t24 w =>
  m37_10 R K1 u3 t24 w
def m37_7 (R : VP) (t2 : Value) (w : World) : Prop :=
  R t2 w
def m37_6 (R : VP) (b4 : Value) (w : World) : Prop :=
  valP Tryz.prog (convert 97 9 b4) w fun t33 w =>
  m37_7 R t33 w
def m37_5 (R : VP) (u3 b4 : Value) (w : World) : Prop :=
  valP Tryz.prog (convert 117 5 u3) w fun t29 w =>
  valP Tryz.prog (Instr.buildSlice 97 1 #[(0, t29)]) w fun t30 w =>
  builtinP Tryz.prog Builtin.append #[97, 97] 97 #[false, false] #[b4, t30] w fun t31 w =>
  m37_6 R t31 w
def m37_11 (R : VP) (K1 : (Value × Value) → World → Prop) (u3 b4 t17 : Value) (w : World) : Prop :=
  condP t17
  (m37_9 R K1 u3 b4 w)
  (m37_5 R u3 b4 w)
def m37_8 (R : VP) (K1 : (Value × Value) → World → Prop) (u3 b4 : Value) (w : World) : Prop :=
  valP Tryz.prog (binS BinOp.gtr 117 (tm 16) (Operand.const (Value.int IntKind.u64 127)) u3 (Value.int IntKind.u64 127)) w fun t17 w =>
  m37_11 R K1 u3 b4 t17 w
def m37_4 (R : VP) (u3 b4 : Value) (w : World) : Prop :=
  loopP (fun (K1 : (Value × Value) → World → Prop) (s : Value × Value) w => m37_8 R K1 s.1 s.2 w) (u3, b4) w
def m37_3 (R : VP) (u3 : Value) (w : World) : Prop :=
  m37_4 R u3 (Value.slice none 0 0) w
def m37_12 (R : VP) (n0 u3 t9 : Value) (w : World) : Prop :=
  condP t9
  (valP Tryz.prog (binS BinOp.add 3 (tm 10) (ci 1) n0 (vi 1)) w fun t11 w =>
  valP Tryz.prog (Op.unary UnOp.neg t11) w fun t12 w =>
  valP Tryz.prog (convert 3 117 t12) w fun t13 w =>
  valP Tryz.prog (binS BinOp.mul 117 (tm 13) (Operand.const (Value.int IntKind.u64 2)) t13 (Value.int IntKind.u64 2)) w fun t14 w =>
  valP Tryz.prog (binS BinOp.add 117 (tm 14) (Operand.const (Value.int IntKind.u64 1)) t14 (Value.int IntKind.u64 1)) w fun t15 w =>
  m37_3 R t15 w)
  (m37_3 R u3 w)
def m37_2 (R : VP) (n0 u3 : Value) (w : World) : Prop :=
  valP Tryz.prog (binS BinOp.lss 3 (tm 8) (ci 0) n0 (vi 0)) w fun t9 w =>
  m37_12 R n0 u3 t9 w
def m37_1 (R : VP) (n0 : Value) (w : World) : Prop :=
  valP Tryz.prog (convert 3 117 n0) w fun t6 w =>
  valP Tryz.prog (binS BinOp.mul 117 (tm 6) (Operand.const (Value.int IntKind.u64 2)) t6 (Value.int IntKind.u64 2)) w fun t7 w =>
  m37_2 R n0 t7 w
def m37_0 (R : VP) (n0 : Value) (w : World) : Prop :=
  m37_1 R n0 w
abbrev W37 := cwp Tryz.prog (fun i => 0)
noncomputable def k37_0 := bodyOf Tryz.f37
noncomputable def k37_1 := c2 k37_0
noncomputable def k37_2 := c2 k37_1
noncomputable def k37_3 := c2 k37_2
noncomputable def k37_4 := c2 k37_3
noncomputable def k37_5 := c2 k37_4
noncomputable def k37_6 := c2 k37_5
noncomputable def k37_7 := c2 k37_6
noncomputable def k37_8 := c1 (c1 (c1 k37_4))
noncomputable def k37_9 := c2 k37_8
noncomputable def k37_10 := c2 (c1 k37_9)
noncomputable def k37_11 := c2 (c1 k37_8)
noncomputable def k37_12 := c2 (c1 k37_2)
theorem s37_10 {K1 : (Value × Value) → World → Prop} (hN : ∀ e w, (K1 ((e 3), (e 4)) w) → Q .normal e w) (e : Env) (w : World) (h : m37_10 R K1 (e 3) (e 4) w) : W37 k37_10 Q e w := by
  exact rgA 7 (fun e w => K1 ((e 3), (e 4)) w) h hN
theorem s37_9 {K1 : (Value × Value) → World → Prop} (hN : ∀ e w, (K1 ((e 3), (e 4)) w) → Q .normal e w) (e : Env) (w : World) (h : m37_9 R K1 (e 3) (e 4) w) : W37 k37_9 Q e w := by
  refine block_ok 1 (by kernel_rfl) ?_
  have hN : ∀ e w, (K1 ((e 3), (e 4)) w) → (inBlockE 1 Q) .normal e w := fun e w h => block_N (hN e w h)
  refine seA ?_
  exact rgA 6 (fun e w => m37_10 R K1 (e 3) (e 4) w) h fun e w h => then_N (s37_10 (R := R) (Q := (inBlockE 1 Q)) hN e w h)
abbrev hR37 (R : VP) (Q : EQ) : Prop := ∀ e w, (R (e 2) w) → Q .ret e w
theorem s37_7 (hR : hR37 R Q) (e : Env) (w : World) (h : m37_7 R (e 2) w) : W37 k37_7 Q e w := by
  exact reA (hR _ _ h)
theorem s37_6 (hR : hR37 R Q) (e : Env) (w : World) (h : m37_6 R (e 4) w) : W37 k37_6 Q e w := by
  refine seA ?_
  exact rgA 9 (fun e w => m37_7 R (e 2) w) h fun e w h => then_N (s37_7 hR e w h)
theorem s37_5 (hR : hR37 R Q) (e : Env) (w : World) (h : m37_5 R (e 3) (e 4) w) : W37 k37_5 Q e w := by
  refine seA ?_
  exact rgA 8 (fun e w => m37_6 R (e 4) w) h fun e w h => then_N (s37_6 hR e w h)
theorem s37_11 {K1 : (Value × Value) → World → Prop} (hN : ∀ e w, (m37_9 R K1 (e 3) (e 4) w) → Q .normal e w) (hX0 : ∀ e w, (m37_5 R (e 3) (e 4) w) → Q (.exit 0) e w) (e : Env) (w : World) (h : m37_11 R K1 (e 3) (e 4) (e 17) w) : W37 k37_11 Q e w := by
  refine coA (Operand.tmp 17) h (fun h1 => ?_) (fun h1 => ?_)
  · exact skA (hN _ _ h1)
  · exact exA 0 (hX0 _ _ h1)
theorem s37_8 {K1 : (Value × Value) → World → Prop} (hN : ∀ e w, (K1 ((e 3), (e 4)) w) → Q .normal e w) (hX0 : ∀ e w, (m37_5 R (e 3) (e 4) w) → Q (.exit 0) e w) (e : Env) (w : World) (h : m37_8 R K1 (e 3) (e 4) w) : W37 k37_8 Q e w := by
  refine seA ?_
  have hN : ∀ e w, (m37_9 R K1 (e 3) (e 4) w) → (thenE (W37 k37_9 Q) Q) .normal e w := fun e w h => then_N (s37_9 hN e w h)
  have hX0 : ∀ e w, (m37_5 R (e 3) (e 4) w) → (thenE (W37 k37_9 Q) Q) (.exit 0) e w := fun e w h => then_X (hX0 e w h)
  refine seA ?_
  exact rgA 5 (fun e w => m37_11 R K1 (e 3) (e 4) (e 17) w) h fun e w h => then_N (s37_11 hN hX0 e w h)
theorem s37_4 (hR : hR37 R Q) (e : Env) (w : World) (h : m37_4 R (e 3) (e 4) w) : W37 k37_4 Q e w := by
  refine seA ?_
  have hN : ∀ e w, (m37_5 R (e 3) (e 4) w) → (thenE (W37 k37_5 Q) Q) .normal e w := fun e w h => then_N (s37_5 hR e w h)
  refine block_ok 0 (by kernel_rfl) ?_
  have hX0 : ∀ e w, (m37_5 R (e 3) (e 4) w) → (inBlockE 0 (thenE (W37 k37_5 Q) Q)) (.exit 0) e w := fun e w h => inBlock_same (Q := (thenE (W37 k37_5 Q) Q)) 0 (hN e w h)
  refine loop_ok' (fun (e : Env) => (e 3, e 4)) [] (by kernel_rfl) (by kernel_rfl) h (fun K e' w' hk h' => ?_)
  have hX0 : ∀ e w, (m37_5 R (e 3) (e 4) w) → (thenE (fun (e : Env) w => K ((e 3), (e 4)) w) (inBlockE 0 (thenE (W37 k37_5 Q) Q))) (.exit 0) e w := fun e w h => then_X (hX0 e w h)
  exact s37_8 (K1 := K) (fun _ _ h => then_N h) hX0 e' w' h'
theorem s37_3 (hR : hR37 R Q) (e : Env) (w : World) (h : m37_3 R (e 3) w) : W37 k37_3 Q e w := by
  refine seA ?_
  exact rgA 4 (fun e w => m37_4 R (e 3) (e 4) w) h fun e w h => then_N (s37_4 hR e w h)
theorem s37_12 (hN : ∀ e w, (m37_3 R (e 3) w) → Q .normal e w) (e : Env) (w : World) (h : m37_12 R (e 0) (e 3) (e 9) w) : W37 k37_12 Q e w := by
  refine coA (Operand.tmp 9) h (fun h1 => ?_) (fun h1 => ?_)
  · exact rgA 3 (fun e w => m37_3 R (e 3) w) h1 hN
  · exact skA (hN _ _ h1)
theorem s37_2 (hR : hR37 R Q) (e : Env) (w : World) (h : m37_2 R (e 0) (e 3) w) : W37 k37_2 Q e w := by
  refine seA ?_
  have hN : ∀ e w, (m37_3 R (e 3) w) → (thenE (W37 k37_3 Q) Q) .normal e w := fun e w h => then_N (s37_3 hR e w h)
  refine seA ?_
  exact rgA 2 (fun e w => m37_12 R (e 0) (e 3) (e 9) w) h fun e w h => then_N (s37_12 hN e w h)
theorem s37_1 (hR : hR37 R Q) (e : Env) (w : World) (h : m37_1 R (e 0) w) : W37 k37_1 Q e w := by
  refine seA ?_
  exact rgA 1 (fun e w => m37_2 R (e 0) (e 3) w) h fun e w h => then_N (s37_2 hR e w h)
theorem s37_0 (hR : hR37 R Q) (e : Env) (w : World) (h : m37_0 R (e 0) w) : W37 k37_0 Q e w := by
  refine seA ?_
  exact rgA 0 (fun e w => m37_1 R (e 0) w) h fun e w h => then_N (s37_1 hR e w h)
abbrev m37 (R : VP) (n0 : Value) (w : World) : Prop := m37_0 R n0 w
theorem s37 (n0 : Value) {R : VP} {w : World} (h : m37 R n0 w) :
    Calls Tryz.prog 37 #[n0] w fun e w' => ∃ v, e = .returned v ∧ R v w' :=
  calls_of_cwp (st := (fun i => 0)) (c := k37_0) (by kernel_rfl) Tryz.func37 (by kernel_rfl) (Nat.le_of_ble_eq_true (by kernel_rfl)) (by kernel_rfl)
    (s37_0 (R := R) (Q := endE Tryz.prog Tryz.f37 R) (fun e w h => kcast (by kernel_rfl) h) (argsE #[n0]) w (kcast (by kernel_rfl) h))
def m76_6 (R : VP) (t2 t3 : Value) (w : World) : Prop :=
  valS Tryz.prog (loadC 56 t2) w fun r0 =>
  R (Value.tuple #[r0, t3]) w
def m76_8 (R : VP) (t2 t3 : Value) (w : World) : Prop :=
  valS Tryz.prog (loadC 56 t2) w fun r0 =>
  R (Value.tuple #[r0, t3]) w
def m76_4 (R : VP) (t2 t3 : Value) (w : World) : Prop :=
  valS Tryz.prog (loadC 56 t2) w fun r0 =>
  R (Value.tuple #[r0, t3]) w
def m76_3 (R : VP) (r1 t2 : Value) (w : World) : Prop :=
  valP Tryz.prog (Instr.fieldAt 56 r1 0) w fun t30 w =>
  valP Tryz.prog (Instr.loadAt 3 t30) w fun t31 w =>
  valP Tryz.prog (Instr.fieldAt 56 r1 1) w fun t32 w =>
  valP Tryz.prog (Instr.loadAt 3 t32) w fun t33 w =>
  valP Tryz.prog (Instr.build 56 #[(0, t31), (1, t33)]) w fun t34 w =>
  unitP Tryz.prog (Instr.storeAt 56 t2 t34) w fun _ w =>
  m76_4 R t2 (Value.bool true) w
def m76_7 (R : VP) (r1 t2 t26 : Value) (w : World) : Prop :=
  condP t26
  (valP Tryz.prog (Instr.build 56 #[(2, (Value.string ⟨#[99, 111, 117, 110, 116, 115]⟩))]) w fun t29 w =>
  unitP Tryz.prog (Instr.storeAt 56 t2 t29) w fun _ w =>
  m76_8 R t2 (Value.bool true) w)
  (m76_3 R r1 t2 w)
def m76_5 (R : VP) (r1 t2 sort4 t14 : Value) (w : World) : Prop :=
  condP t14
  (valP Tryz.prog (Instr.build 56 #[]) w fun t25 w =>
  unitP Tryz.prog (Instr.storeAt 56 t2 t25) w fun _ w =>
  m76_6 R t2 (Value.bool false) w)
  (valP Tryz.prog (binS BinOp.eql 3 (tm 27) (ci 0) sort4 (vi 0)) w fun t28 w =>
  m76_7 R r1 t2 t28 w)
def m76_2 (R : VP) (r1 t2 sort4 e6 : Value) (w : World) : Prop :=
  valP Tryz.prog (binS BinOp.neq 26 (tm 15) (ci 0) e6 (vi 0)) w fun t16 w =>
  condP t16
  (pickP t16 (Value.bool true) undef fun t20 =>
  condP t20
  (pickP t20 (Value.bool true) undef fun t24 =>
  m76_5 R r1 t2 sort4 t24 w)
  (valP Tryz.prog (binS BinOp.gtr 3 (tm 22) (ci 2) sort4 (vi 2)) w fun t23 w =>
  pickP t20 (Value.bool true) t23 fun t24 =>
  m76_5 R r1 t2 sort4 t24 w))
  (valP Tryz.prog (binS BinOp.lss 3 (tm 18) (ci 0) sort4 (vi 0)) w fun t19 w =>
  pickP t16 (Value.bool true) t19 fun t20 =>
  condP t20
  (pickP t20 (Value.bool true) undef fun t24 =>
  m76_5 R r1 t2 sort4 t24 w)
  (valP Tryz.prog (binS BinOp.gtr 3 (tm 22) (ci 2) sort4 (vi 2)) w fun t23 w =>
  pickP t20 (Value.bool true) t23 fun t24 =>
  m76_5 R r1 t2 sort4 t24 w))
def m76_1 (R : VP) (r1 t2 : Value) (w : World) : Prop :=
  valP Tryz.prog (Instr.fieldAt 56 r1 2) w fun t8 w =>
  valP Tryz.prog (Instr.loadAt 9 t8) w fun t9 w =>
  callP Tryz.prog (fnV 73) #[t9] w fun t10 w =>
  valP Tryz.prog (Instr.extract t10 0) w fun t11 w =>
  valP Tryz.prog (Instr.extract t10 1) w fun t12 w =>
  valP Tryz.prog (Instr.extract t10 2) w fun t13 w =>
  m76_2 R r1 t2 t11 t13 w
def m76_0 (R : VP) (r0 : Value) (w : World) : Prop :=
  valP Tryz.prog (Instr.box 56 r0) w fun r1 w =>
  valP Tryz.prog (Instr.alloc 56 true (.tuple #[])) w fun t2 w =>
  m76_1 R r1 t2 w
abbrev W76 := cwp Tryz.prog (fun i => 0)
noncomputable def k76_0 := bodyOf Tryz.f76
noncomputable def k76_1 := c2 k76_0
noncomputable def k76_2 := c2 k76_1
noncomputable def k76_3 := c2 k76_2
noncomputable def k76_4 := c2 k76_3
noncomputable def k76_5 := c2 (c1 (c1 k76_2))
noncomputable def k76_6 := c2 (c1 k76_5)
noncomputable def k76_7 := c2 (c2 k76_5)
noncomputable def k76_8 := c2 (c1 k76_7)
abbrev hR76 (R : VP) (Q : EQ) : Prop := ∀ e w, (valS Tryz.prog (loadC 56 (e 2)) w fun r0 =>
R (Value.tuple #[r0, (e 3)]) w) → Q .ret e w
theorem s76_6 (hR : hR76 R Q) (e : Env) (w : World) (h : m76_6 R (e 2) (e 3) w) : W76 k76_6 Q e w := by
  exact reA (hR _ _ h)
theorem s76_8 (hR : hR76 R Q) (e : Env) (w : World) (h : m76_8 R (e 2) (e 3) w) : W76 k76_8 Q e w := by
  exact reA (hR _ _ h)
theorem s76_4 (hR : hR76 R Q) (e : Env) (w : World) (h : m76_4 R (e 2) (e 3) w) : W76 k76_4 Q e w := by
  exact reA (hR _ _ h)
theorem s76_3 (hR : hR76 R Q) (e : Env) (w : World) (h : m76_3 R (e 1) (e 2) w) : W76 k76_3 Q e w := by
  refine seA ?_
  exact rgA 6 (fun e w => m76_4 R (e 2) (e 3) w) h fun e w h => then_N (s76_4 hR e w h)
theorem s76_7 (hN : ∀ e w, (m76_3 R (e 1) (e 2) w) → Q .normal e w) (hR : hR76 R Q) (e : Env) (w : World) (h : m76_7 R (e 1) (e 2) (e 26) w) : W76 k76_7 Q e w := by
  refine coA (Operand.tmp 26) h (fun h1 => ?_) (fun h1 => ?_)
  · refine seA ?_
    exact rgA 5 (fun e w => m76_8 R (e 2) (e 3) w) h1 fun e w h => then_N (s76_8 hR e w h)
  · exact skA (hN _ _ h1)
theorem s76_5 (hN : ∀ e w, (m76_3 R (e 1) (e 2) w) → Q .normal e w) (hR : hR76 R Q) (e : Env) (w : World) (h : m76_5 R (e 1) (e 2) (e 4) (e 14) w) : W76 k76_5 Q e w := by
  refine coA (Operand.tmp 14) h (fun h1 => ?_) (fun h1 => ?_)
  · refine seA ?_
    exact rgA 3 (fun e w => m76_6 R (e 2) (e 3) w) h1 fun e w h => then_N (s76_6 hR e w h)
  · refine seA ?_
    exact rgA 4 (fun e w => m76_7 R (e 1) (e 2) (e 26) w) h1 fun e w h => then_N (s76_7 hN hR e w h)
theorem s76_2 (hR : hR76 R Q) (e : Env) (w : World) (h : m76_2 R (e 1) (e 2) (e 4) (e 6) w) : W76 k76_2 Q e w := by
  refine seA ?_
  have hN : ∀ e w, (m76_3 R (e 1) (e 2) w) → (thenE (W76 k76_3 Q) Q) .normal e w := fun e w h => then_N (s76_3 hR e w h)
  have hR : ∀ e w, (valS Tryz.prog (loadC 56 (e 2)) w fun r0 =>
  R (Value.tuple #[r0, (e 3)]) w) → (thenE (W76 k76_3 Q) Q) .ret e w := fun e w h => then_R (hR e w h)
  refine block_ok 0 (by kernel_rfl) ?_
  have hN : ∀ e w, (m76_3 R (e 1) (e 2) w) → (inBlockE 0 (thenE (W76 k76_3 Q) Q)) .normal e w := fun e w h => block_N (hN e w h)
  have hR : ∀ e w, (valS Tryz.prog (loadC 56 (e 2)) w fun r0 =>
  R (Value.tuple #[r0, (e 3)]) w) → (inBlockE 0 (thenE (W76 k76_3 Q) Q)) .ret e w := fun e w h => block_R (hR e w h)
  refine seA ?_
  exact rgA 2 (fun e w => m76_5 R (e 1) (e 2) (e 4) (e 14) w) h fun e w h => then_N (s76_5 (R := R) (Q := (inBlockE 0 (thenE (W76 k76_3 Q) Q))) hN hR e w h)
theorem s76_1 (hR : hR76 R Q) (e : Env) (w : World) (h : m76_1 R (e 1) (e 2) w) : W76 k76_1 Q e w := by
  refine seA ?_
  exact rgA 1 (fun e w => m76_2 R (e 1) (e 2) (e 4) (e 6) w) h fun e w h => then_N (s76_2 hR e w h)
theorem s76_0 (hR : hR76 R Q) (e : Env) (w : World) (h : m76_0 R (e 0) w) : W76 k76_0 Q e w := by
  refine seA ?_
  exact rgA 0 (fun e w => m76_1 R (e 1) (e 2) w) h fun e w h => then_N (s76_1 hR e w h)
abbrev m76 (R : VP) (r0 : Value) (w : World) : Prop := m76_0 R r0 w
theorem s76 (r0 : Value) {R : VP} {w : World} (h : m76 R r0 w) :
    Calls Tryz.prog 76 #[r0] w fun e w' => ∃ v, e = .returned v ∧ R v w' :=
  calls_of_cwp (st := (fun i => 0)) (c := k76_0) (by kernel_rfl) Tryz.func76 (by kernel_rfl) (Nat.le_of_ble_eq_true (by kernel_rfl)) (by kernel_rfl)
    (s76_0 (R := R) (Q := endE Tryz.prog Tryz.f76 R) (fun e w h => kcast (by kernel_rfl) h) (argsE #[r0]) w (kcast (by kernel_rfl) h))
def m77_2 (R : VP) (t2 : Value) (w : World) : Prop :=
  R t2 w
def m77_1 (R : VP) (r1 : Value) (w : World) : Prop :=
  anyDraw w fun w =>
  heldP w fun J =>
  valJ Tryz.prog J (Instr.fieldAt 56 r1 2) fun t3 =>
  valJ Tryz.prog J (Instr.loadAt 9 t3) fun t4 =>
  callP Tryz.prog (fnV 59) #[(vi 2)] w fun t5 w =>
  stayP J w
  (valJ Tryz.prog J (binS BinOp.eql 9 (tm 4) (tm 5) t4 t5) fun t6 =>
  m77_2 R t6 w)
def m77_0 (R : VP) (r0 : Value) (w : World) : Prop :=
  valP Tryz.prog (Instr.box 56 r0) w fun r1 w =>
  m77_1 R r1 w
abbrev W77 := cwp Tryz.prog (fun i => 0)
noncomputable def k77_0 := bodyOf Tryz.f77
noncomputable def k77_1 := c2 k77_0
noncomputable def k77_2 := c2 k77_1
abbrev hR77 (R : VP) (Q : EQ) : Prop := ∀ e w, (R (e 2) w) → Q .ret e w
theorem s77_2 (hR : hR77 R Q) (e : Env) (w : World) (h : m77_2 R (e 2) w) : W77 k77_2 Q e w := by
  exact reA (hR _ _ h)
theorem s77_1 (hR : hR77 R Q) (e : Env) (w : World) (h : m77_1 R (e 1) w) : W77 k77_1 Q e w := by
  refine seA ?_
  have hN : ∀ e w, (m77_2 R (e 2) w) → (thenE (W77 k77_2 Q) Q) .normal e w := fun e w h => then_N (s77_2 hR e w h)
  exact treeJ_ok 1 5 (bt 5 0) (.take 0 (bt 5 1) (.take 1 (bt 5 3) (.alt 2 (bt 5 7) (.take 3 (bt 5 15) (.take 4 (bt 5 31) .done)) .stop))) (fun e w => m77_2 R (e 2) w) (by kernel_rfl) (by kernel_rfl) (by kernel_rfl) (by kernel_rfl) (by kernel_rfl) (by kernel_rfl) (kcast (by kernel_rfl) h) hN (by kernel_rfl)
theorem s77_0 (hR : hR77 R Q) (e : Env) (w : World) (h : m77_0 R (e 0) w) : W77 k77_0 Q e w := by
  refine seA ?_
  exact rgA 0 (fun e w => m77_1 R (e 1) w) h fun e w h => then_N (s77_1 hR e w h)
abbrev m77 (R : VP) (r0 : Value) (w : World) : Prop := m77_0 R r0 w
theorem s77 (r0 : Value) {R : VP} {w : World} (h : m77 R r0 w) :
    Calls Tryz.prog 77 #[r0] w fun e w' => ∃ v, e = .returned v ∧ R v w' :=
  calls_of_cwp (st := (fun i => 0)) (c := k77_0) (by kernel_rfl) Tryz.func77 (by kernel_rfl) (Nat.le_of_ble_eq_true (by kernel_rfl)) (by kernel_rfl)
    (s77_0 (R := R) (Q := endE Tryz.prog Tryz.f77 R) (fun e w h => kcast (by kernel_rfl) h) (argsE #[r0]) w (kcast (by kernel_rfl) h))
end Go.Proofs.YtcldjjmfpmkldaaGreatDoor.M
namespace Go.Proofs.YtcldjjmfpmkldaaGreatDoor.M
open Go.Proofs.YtcldjjmfpmkldaaGreatDoor.F Go.RowKit
set_option linter.unusedVariables false
set_option linter.unusedSimpArgs false
set_option maxRecDepth 100000
set_option maxHeartbeats 2000000
attribute [local irreducible] Res.cells Res.row Res.map Res.any World.cell? World.frozen? Instr.fieldAt Instr.loadAt Instr.storeAt Instr.indexAt Instr.lookup Instr.mapUpdate Instr.box Instr.build Instr.buildSlice Instr.extract Instr.alloc Instr.field Instr.index Instr.sliceAt Instr.makeSlice Instr.makeMap Instr.makeFunc binS Op.unary Sem.run
theorem wrap64_eq (n : Int) : IntKind.i64.wrap n = wrap64 n := by
  rw [IntKind.wrap_i64, wrap64]
abbrev noV : Value := .tuple #[.int .i64 0, .string ⟨#[]⟩, .int .i64 2]
def tkV (s : ByteArray) : Value := match takeS s with
  | none => noV
  | some (n, r) => .tuple #[.int .i64 n, .string r, .int .i64 0]
theorem strN_drop (s : ByteArray) (j : Nat) : strN ((bytesN s).drop j) = s.extract j s.size := by
  refine bytesN_inj ?_
  rw [bytesN_strN (fun b hb => bytesN_lt s b (List.mem_of_mem_drop hb)), bytesN_drop]
theorem takeS_none {s : ByteArray} (h : vT 0 0 (bytesN s) = none) : takeS s = none := by
  unfold takeS
  rw [h]
  rfl
theorem takeS_some {s : ByteArray} {v : Nat} {j : Nat} (h : vT 0 0 (bytesN s) = some (v, (bytesN s).drop j)) : takeS s = some (unz v, s.extract j s.size) := by
  unfold takeS
  rw [h]
  simp only [Option.map_some]
  rw [strN_drop]
def TkInv (s : ByteArray) (x : Int) (k : Nat) : Prop := k ≤ s.size ∧ ((k = 10 ∧ vT 0 0 (bytesN s) = none) ∨ ∃ a : Nat, x = (a : Int) ∧ a < 2 ^ (7 * k) ∧ k ≤ 9 ∧ vT k a ((bytesN s).drop k) = vT 0 0 (bytesN s))
theorem TkInv.le {s : ByteArray} {x : Int} {k : Nat} (h : TkInv s x k) : k ≤ 10 := by
  rcases h.2 with h | ⟨_, _, _, h, _⟩ <;> omega
theorem TkInv.stop {s : ByteArray} {x : Int} {k : Nat} (h : TkInv s x k) (hk : k = s.size ∨ k = 10) : takeS s = none := by
  rcases h.2 with h2 | ⟨a, rfl, ha, h9, e⟩
  · exact takeS_none h2.2
  · refine takeS_none (e ▸ ?_)
    have hd : (bytesN s).drop k = [] := List.drop_eq_nil_of_le (by rw [bytesN_length]; omega)
    rw [hd]
    rfl
theorem TkInv.at {s : ByteArray} {x : Int} {k : Nat} (h : TkInv s x k) (h10 : ¬ k = 10) (hk : k < s.size) : ∃ a : Nat, x = (a : Int) ∧ a < 2 ^ (7 * k) ∧ k ≤ 9 ∧
    (if 128 ≤ s[k].toNat then vT (k + 1) (a + (s[k].toNat - 128) * 2 ^ (7 * k)) ((bytesN s).drop (k + 1)) else if (0 < k ∧ s[k].toNat = 0) ∨ (k = 9 ∧ 1 < s[k].toNat) then none else some (a + s[k].toNat * 2 ^ (7 * k), (bytesN s).drop (k + 1))) = vT 0 0 (bytesN s) := by
  rcases h.2 with h2 | ⟨a, rfl, ha, h9, e⟩
  · omega
  · refine ⟨a, rfl, ha, h9, ?_⟩
    rw [← e, List.drop_eq_getElem_cons (l := bytesN s) (i := k) (by rw [bytesN_length]; exact hk), bytesN_get s k hk]
    simp only [vT]
    rw [if_neg (by omega : ¬ 10 ≤ k)]
theorem TkInv.next {s : ByteArray} {x : Int} {k : Nat} (h : TkInv s x k) (h10 : ¬ k = 10) (hk : k < s.size) (hc : 128 ≤ s[k].toNat) : TkInv s (nextU x s[k].toNat k) (k + 1) := by
  obtain ⟨a, rfl, ha, h9, e⟩ := h.at h10 hk
  rw [if_pos hc] at e
  have hlt := bytesN_lt s _ (List.getElem_mem (l := bytesN s) (n := k) (by rw [bytesN_length]; exact hk))
  rw [bytesN_get s k hk] at hlt
  refine ⟨hk, ?_⟩
  rcases Nat.lt_or_ge k 9 with g | g
  · have hn := nextU_eq a s[k].toNat k (by omega) ha hlt (by omega)
    have e1 : s[k].toNat % 128 = s[k].toNat - 128 := by omega
    refine .inr ⟨_, hn, ?_, by omega, by rw [e1]; exact e⟩
    rw [e1, pow7]
    have h127 : s[k].toNat - 128 ≤ 127 := by omega
    have hm : (s[k].toNat - 128) * 2 ^ (7 * k) ≤ 127 * 2 ^ (7 * k) := Nat.mul_le_mul h127 (Nat.le_refl _)
    generalize 2 ^ (7 * k) = z at *
    omega
  · obtain rfl : k = 9 := by omega
    exact .inl ⟨rfl, e.symm.trans (vT_ten _ _)⟩
theorem TkInv.bad {s : ByteArray} {x : Int} {k : Nat} (h : TkInv s x k) (h10 : ¬ k = 10) (hk : k < s.size) (hc : ¬ 128 ≤ s[k].toNat) (hb : (0 < k ∧ s[k].toNat = 0) ∨ (k = 9 ∧ 1 < s[k].toNat)) : takeS s = none := by
  obtain ⟨a, rfl, ha, h9, e⟩ := h.at h10 hk
  rw [if_neg hc, if_pos hb] at e
  exact takeS_none e.symm
theorem TkInv.good {s : ByteArray} {x : Int} {k : Nat} (h : TkInv s x k) (h10 : ¬ k = 10) (hk : k < s.size) (hc : ¬ 128 ≤ s[k].toNat) (hb : ¬ ((0 < k ∧ s[k].toNat = 0) ∨ (k = 9 ∧ 1 < s[k].toNat))) : takeS s = some (unzI (nextU x s[k].toNat k), s.extract (k + 1) s.size) := by
  obtain ⟨a, rfl, ha, h9, e⟩ := h.at h10 hk
  rw [if_neg hc, if_neg hb] at e
  have hn := nextU_eq a s[k].toNat k h9 ha (by omega) (fun e => by omega)
  rw [hn, show s[k].toNat % 128 = s[k].toNat by omega, unzI_eq]
  · exact takeS_some e.symm
  · rcases Nat.lt_or_ge k 9 with g | g
    · have h1 := Nat.pow_le_pow_right (n := 2) (by decide) (show 7 * k ≤ 56 by omega)
      have h127 : s[k].toNat ≤ 127 := by omega
      have hm : s[k].toNat * 2 ^ (7 * k) ≤ 127 * 2 ^ (7 * k) := Nat.mul_le_mul h127 (Nat.le_refl _)
      generalize 2 ^ (7 * k) = z at *
      omega
    · obtain rfl : k = 9 := by omega
      have h1' : s[9].toNat ≤ 1 := by omega
      have hm : s[9].toNat * 2 ^ (7 * 9) ≤ 1 * 2 ^ (7 * 9) := Nat.mul_le_mul h1' (Nat.le_refl _)
      omega
section
variable {w0 w : World} {F : List Nat} {L : List Res} {s : ByteArray}
theorem take_ret (hS : St w0 F w L) : Ret Tryz.prog 73 #[.string s] w fun v w' => v = tkV s ∧ St w0 F w' L := by
  refine s73 _ ?_
  unfold m73 m73_0 m73_1 m73_2 m73_3
  refine loop_in (fun u w' => ∃ (x : Int) (k : Nat), u = (.int .u64 x, .int .i64 (k : Int)) ∧ TkInv s x k ∧ St w0 F w' L) (fun u _ => 10 - (intOf u.2).toNat) ⟨0, 0, rfl, ⟨by omega, .inr ⟨0, rfl, by decide, by omega, rfl⟩⟩, hS⟩ ?_
  clear hS
  rintro u w ⟨x, k, rfl, hI, hS⟩
  simp only
  have hk := hI.1
  have hk10 := hI.le
  have bad : ∀ K1 w, takeS s = none → St w0 F w L → m73_16 (fun v w' => v = tkV s ∧ St w0 F w' L) K1 (.int .i64 0) (.string ⟨#[]⟩) (.int .i64 2) w := fun K1 w h hS => by
    unfold m73_16
    refine ⟨?_, hS⟩
    unfold tkV
    rw [h]
  unfold m73_4
  refine builtin_ok (len9 _) ?_
  refine valP_ok (eq3 _ _ _ _ _) ?_
  refine cond_split (fun h => ?_) (fun h => ?_)
  · refine pick_dt (by first | assumption | omega) ?_
    unfold m73_15
    refine cond_t rfl ?_
    exact bad _ _ (hI.stop (.inl (by omega))) hS
  · refine valP_ok (eq3 _ _ _ _ _) ?_
    refine pick_df (by first | assumption | omega) ?_
    unfold m73_15
    refine cond_split (fun h1 => ?_) (fun h1 => ?_)
    · exact bad _ _ (hI.stop (.inr (by omega))) hS
    · have hlt : k < s.size := by omega
      have h10 : ¬ k = 10 := by omega
      unfold m73_5
      refine valP_ok (sidx _ hlt) ?_
      unfold m73_6
      refine valP_ok (and8 _ _ _ _ _) ?_
      refine valP_ok (cv8_64 _ _) ?_
      refine valP_ok (mul_ok _ _ _ (by omega) (by omega) _) ?_
      rw [show 7 * (k : Int) = ((7 * k : Nat) : Int) by omega]
      refine valP_ok (shl64 _ _ _ _ (by omega)) ?_
      refine valP_ok (or64 _ _ _ _ _) ?_
      show m73_7 _ _ _ (.int .u64 (nextU x s[k].toNat k)) _ _ _
      unfold m73_7
      refine valP_ok (add_ok _ _ _ (by omega) (by omega) _) ?_
      unfold m73_8
      refine valP_ok (geq_ok _ _ _ _ _ _ _) ?_
      unfold m73_14
      refine cond_split (fun h2 => ?_) (fun h2 => ?_)
      · exact ⟨⟨_, k + 1, rfl, hI.next h10 hlt (by omega), hS⟩, by simp [intOf]; omega⟩
      · have leaf : ∀ t : Bool, (t = true ↔ ((0 < k ∧ s[k].toNat = 0) ∨ (k = 9 ∧ 1 < s[k].toNat))) → ∀ K1, m73_12 (fun v w' => v = tkV s ∧ St w0 F w' L) K1 (.string s) (.int .u64 (nextU x s[k].toNat k)) (.int .i64 ((k : Int) + 1)) (.bool t) w := fun t ht K1 => by
          unfold m73_12
          cases t with
          | true =>
            refine cond_t rfl ?_
            exact bad K1 _ (hI.bad h10 hlt (by omega) (ht.1 rfl)) hS
          | false =>
            have hb : ¬ ((0 < k ∧ s[k].toNat = 0) ∨ (k = 9 ∧ 1 < s[k].toNat)) := fun h => by have := ht.2 h; cases this
            refine cond_f rfl ?_
            unfold m73_10
            refine valQ_ok (shr1 _ _ · _) ?_
            refine valQ_ok (cv64_i · _) ?_
            refine valQ_ok (and64 _ _ · _ _) ?_
            refine valQ_ok (cv64_i · _) ?_
            refine valQ_ok (negI · _) ?_
            refine valQ_ok (xorI _ _ · _ _) ?_
            rw [show (k : Int) + 1 = ((k + 1 : Nat) : Int) by omega]
            refine valQ_ok (fun w => sfrom w (by omega)) ?_
            refine drawn_ok hS ?_
            intro w hS
            unfold m73_11
            refine ⟨?_, hS⟩
            unfold tkV
            rw [hI.good h10 hlt (by omega) hb]
            simp only [unzI, wrap64_eq]
        unfold m73_9
        refine valP_ok (gtr_ok _ _ _ _ _ _ _) ?_
        refine cond_split (fun hc0 => ?_) (fun hc0 => ?_)
        · refine valP_ok (eq5 _ _ _ _ _) ?_
          refine pick_dt (by first | assumption | omega) ?_
          refine cond_split (fun hc1 => ?_) (fun hc1 => ?_)
          · refine pick_dt (by first | assumption | omega) ?_
            exact leaf _ (by simp only [decide_eq_true_eq, Bool.false_eq_true, false_iff, true_iff] <;> first | contradiction | omega) _
          · refine valP_ok (eq3 _ _ _ _ _) ?_
            refine cond_split (fun hc2 => ?_) (fun hc2 => ?_)
            · refine valP_ok (gtr_ok _ _ _ _ _ _ _) ?_
              refine pick_dt (by first | assumption | omega) ?_
              refine pick_df (by first | assumption | omega) ?_
              exact leaf _ (by simp only [decide_eq_true_eq, Bool.false_eq_true, false_iff, true_iff] <;> first | contradiction | omega) _
            · refine pick_df (by first | assumption | omega) ?_
              refine pick_df (by first | assumption | omega) ?_
              exact leaf _ (by simp only [decide_eq_true_eq, Bool.false_eq_true, false_iff, true_iff] <;> first | contradiction | omega) _
        · refine pick_df (by first | assumption | omega) ?_
          refine cond_bsplit (fun hc1 => ?_) (fun hc1 => ?_)
          · refine pick_dt (by first | assumption | omega) ?_
            exact leaf _ (by simp only [decide_eq_true_eq, Bool.false_eq_true, false_iff, true_iff] <;> first | contradiction | omega) _
          · refine valP_ok (eq3 _ _ _ _ _) ?_
            refine cond_split (fun hc2 => ?_) (fun hc2 => ?_)
            · refine valP_ok (gtr_ok _ _ _ _ _ _ _) ?_
              refine pick_dt (by first | assumption | omega) ?_
              refine pick_f (by first | rfl | assumption) ?_
              exact leaf _ (by simp only [decide_eq_true_eq, Bool.false_eq_true, false_iff, true_iff] <;> first | contradiction | omega) _
            · refine pick_df (by first | assumption | omega) ?_
              refine pick_f (by first | rfl | assumption) ?_
              exact leaf _ (by simp only [decide_eq_true_eq, Bool.false_eq_true, false_iff, true_iff] <;> first | contradiction | omega) _
end
end Go.Proofs.YtcldjjmfpmkldaaGreatDoor.M
namespace Go.Proofs.YtcldjjmfpmkldaaGreatDoor.F
set_option linter.unusedVariables false
set_option linter.unusedSimpArgs false
open Go Go.RowKit Go.ChangeShapes Go.WideShapes
section
variable {H : Type} {en : TypeId × Value → H} {P : Program} {w : World}
theorem list_of {α β : Type} {p : β → α → Prop} : ∀ (l : List β), (∀ y ∈ l, ∃ x, p y x) → ∃ m : List α, m.length = l.length ∧ ∀ (i : Nat) (h : i < l.length) (h' : i < m.length), p l[i] m[i]
  | [], _ => ⟨[], rfl, fun i h => absurd h (Nat.not_lt_zero _)⟩
  | y :: l, h => by
    obtain ⟨x, hx⟩ := h y (.head _)
    obtain ⟨m, hm, hp⟩ := list_of l (fun y hy => h y (.tail _ hy))
    refine ⟨x :: m, by simp [hm], fun i h1 h2 => ?_⟩
    cases i with
    | zero => exact hx
    | succ i => exact hp i (by simpa using h1) (by simpa using h2)
theorem open_rowsE {α : Type} (enc : α → List Value) (Ok : α → Prop) {t e k : Nat} (hk0 : 0 < k) (ht : P.underlying t = some (.slice e)) (hk : P.cellsOf e = k)
    (hel : ∀ n cs y, DataW.trod en P w 0 (fun _ => true) true n e cs = some y → ∃ x, cs = enc x ∧ (enc x).length = k ∧ Ok x) {fuel : Nat} {cs : List Value} {x : DataW H × List MemPlace}
    (h : DataW.trod en P w 0 (fun _ => true) true fuel t cs = some x) : ∃ (A : Option Addr) (c : Nat) (l : List α), cs = [.slice A l.length c] ∧ l.length ≤ c ∧ (A = none → c = 0) ∧ Rd w k A l.length (l.flatMap enc) ∧ ∀ x ∈ l, Ok x := by
  rcases Go.Deep.open_slice ht h with ⟨rfl, _⟩ | ⟨a, len, cap, m, n, D, Pl, rfl, hb, hl, hm, hmm, _, hx⟩
  · exact ⟨none, 0, [], rfl, by simp, fun _ => rfl, Rd.nil_ _ _ _, by simp⟩
  · simp only [if_true] at hmm
    subst hmm
    rw [hk] at hx
    have hx' : ∀ i ∈ List.range len, ∃ x : α, Ok x ∧ (enc x).length = k ∧ ∀ j v, (enc x)[j]? = some v → w.cell? ((a.add (i * k)).add j) = some v := fun i hi => by
      have hi := List.mem_range.1 hi
      obtain ⟨cs', h1, h2⟩ := hx i (by omega)
      obtain ⟨x, rfl, hlen, hok⟩ := hel _ _ _ h2
      obtain ⟨_, _, hc⟩ := World.cells?_some h1
      refine ⟨x, hok, hlen, fun j v hj => ?_⟩
      rw [hc j (by obtain ⟨h, _⟩ := List.getElem?_eq_some_iff.1 hj; omega)]
      exact hj
    obtain ⟨l, hll, hp⟩ := list_of (List.range len) hx'
    rw [List.length_range] at hll
    have hlen : ∀ x ∈ l, (enc x).length = k := fun x hx => by
      obtain ⟨i, hi, rfl⟩ := List.mem_iff_getElem.1 hx
      exact (hp i (by simp; omega) hi).2.1
    have hfl : ∀ m : List α, (∀ x ∈ m, (enc x).length = k) → (m.flatMap enc).length = m.length * k := fun m => by
      induction m with
      | nil => intro _; simp
      | cons a m ih => intro h; rw [List.flatMap_cons, List.length_append, ih (fun x hx => h x (.tail _ hx)), h a (.head _), List.length_cons, Nat.succ_mul, Nat.add_comm]
    have hget : ∀ (m : List α), (∀ x ∈ m, (enc x).length = k) → ∀ q v, (m.flatMap enc)[q]? = some v → ∃ (i j : Nat) (h : i < m.length), q = i * k + j ∧ (enc m[i])[j]? = some v := fun m => by
      induction m with
      | nil => intro _ q v h; simp at h
      | cons a m ih =>
        intro h q v hq
        rw [List.flatMap_cons] at hq
        by_cases hqk : q < k
        · rw [List.getElem?_append_left (by rw [h a (.head _)]; exact hqk)] at hq
          exact ⟨0, q, by simp, by simp, hq⟩
        · rw [List.getElem?_append_right (by rw [h a (.head _)]; omega), h a (.head _)] at hq
          obtain ⟨i, j, hi, he, hv⟩ := ih (fun x hx => h x (.tail _ hx)) _ v hq
          exact ⟨i + 1, j, by simpa using hi, by rw [Nat.succ_mul]; omega, hv⟩
    refine ⟨some a, m, l, (by rw [hll]), (by omega), (fun h => (by cases h)), ⟨hfl l hlen, fun hp0 => ?_⟩, fun x hx => ?_⟩
    · have h0 : 0 < l.length := by
        rcases Nat.eq_zero_or_pos l.length with h | h
        · rw [List.eq_nil_of_length_eq_zero h] at hp0; simp at hp0
        · exact h
      obtain ⟨b, o, spot⟩ := a
      obtain ⟨cs', c1, _⟩ := hx 0 (by omega)
      obtain ⟨_, c2, c3⟩ := World.cells?_some c1
      have hv := c3 0 hk0
      rw [Nat.zero_mul, List.getElem?_eq_getElem (by omega)] at hv
      have hspot : spot = none := by simpa [Addr.add] using World.cell?_spot hv
      subst hspot
      refine ⟨b, o, rfl, fun q u hq => ?_⟩
      obtain ⟨i, j, hi, rfl, hv⟩ := hget l hlen q u hq
      have := (hp i (by simp; omega) hi).2.2 j u hv
      rw [List.getElem_range, add_none, add_none, Nat.add_assoc] at this
      exact this
    · obtain ⟨i, hi, rfl⟩ := List.mem_iff_getElem.1 hx
      exact (hp i (by simp; omega) hi).1
theorem flat_one {α β : Type} (f : α → β) (l : List α) : l.flatMap (fun x => [f x]) = l.map f := by
  induction l with
  | nil => rfl
  | cons a l ih => rw [List.flatMap_cons, ih]; rfl
theorem open_intsE {t e : Nat} {q : IntKind} (ht : P.underlying t = some (.slice e)) (he : P.underlying e = some (.int q)) (hk : P.cellsOf e = 1) {fuel : Nat} {cs : List Value} {x : DataW H × List MemPlace} (h : DataW.trod en P w 0 (fun _ => true) true fuel t cs = some x) :
    ∃ (A : Option Addr) (c : Nat) (l : List Int), cs = [.slice A l.length c] ∧ l.length ≤ c ∧ (A = none → c = 0) ∧ Rd w 1 A l.length (l.map (Value.int q)) ∧ ∀ x ∈ l, (Lit.int q x).wf = true := by
  obtain ⟨A, c, l, h1, h2, h3, h4, h5⟩ := open_rowsE (fun x : Int => [Value.int q x]) (fun x => (Lit.int q x).wf = true) (by omega) ht hk (fun n cs y hy => by
    obtain ⟨m, hm, _, hw⟩ := DataW.trod_int he hy
    exact ⟨m, hm, rfl, hw⟩) h
  rw [flat_one] at h4
  exact ⟨A, c, l, h1, h2, h3, h4, h5⟩
theorem open_structE {t : Nat} {fs : Array Field} (hs : P.underlying t = some (.struct fs)) {fuel : Nat} {cs : List Value} {x : DataW H × List MemPlace} (h : DataW.trod en P w 0 (fun _ => true) true fuel t cs = some x) :
    cs.length = P.cellsOf t ∧ ∀ (i ft off k : Nat), (fs[i]?).map (fun f => (f.type, f.offset)) = some (ft, off) → P.cellsOf ft = k → ∃ n y, DataW.trod en P w 0 (fun _ => true) true n ft ((cs.drop off).take k) = some y := by
  obtain ⟨xs, n, _, _, hl, hxl, hf⟩ := DataW.trod_struct hs h
  refine ⟨hl, fun i ft off k hi hk => ?_⟩
  cases hfi : fs[i]? with
  | none => rw [hfi] at hi; cases hi
  | some f =>
    rw [hfi] at hi
    simp only [Option.map_some, Option.some.injEq, Prod.mk.injEq] at hi
    obtain ⟨rfl, rfl⟩ := hi
    have h1 := hf i f hfi
    have hlt : i < xs.length := by rw [hxl]; exact (Array.getElem?_eq_some_iff.1 hfi).1
    rw [List.getElem?_eq_getElem hlt, hk] at h1
    exact ⟨n, _, h1⟩
end
def Sz {H : Type} (P : Program) (t : TypeId) (d : DataW H) : Prop := ∀ n ∈ d.weights P t, n ≤ reachBytes
section
variable {H : Type} {en : TypeId × Value → H} {P : Program} {w : World}
theorem Sz.string {t : TypeId} {s : ByteArray} (h : Sz P t (.lit (.string s.data.toList) : DataW H)) : s.size ≤ reachBytes := by
  have := h s.data.toList.length (by simp [DataW.weights])
  simpa using this
end
def Hs (w0 : World) (F : List Nat) (L : List Res) (w : World) : Prop := ∃ L', St w0 F w L' ∧ ∀ r ∈ L, r ∈ L'
section
variable {w0 w : World} {F : List Nat} {L L' : List Res}
theorem Hs.of (hS : St w0 F w L') (h : ∀ r ∈ L, r ∈ L') : Hs w0 F L w := ⟨L', hS, h⟩
theorem held_Hs {G : (World → Prop) → Prop} (hS : St w0 F w L) (h : G (Hs w0 F L)) : heldP w G := ⟨Hs w0 F L, ⟨L, hS, fun _ h => h⟩, h⟩
theorem stay_Hs {A : Prop} (hS : St w0 F w L') (hs : ∀ r ∈ L, r ∈ L') (h : A) : stayP (Hs w0 F L) w A := ⟨⟨L', hS, hs⟩, h⟩
theorem Hs.cell (k : Nat) {b i : Nat} {t : TypeId} {cs : List Value} {v : Value} (hk : L[k]? = some (Res.cells b t cs)) (hi : cs[i]? = some v) (w : World) (h : Hs w0 F L w) : w.cell? ⟨b, i, none⟩ = some v := by
  obtain ⟨L', hS, hL⟩ := h
  obtain ⟨j, hj⟩ := List.mem_iff_getElem?.1 (hL _ (List.mem_of_getElem? hk))
  exact hS.cell j hj hi
theorem Hs.row_cell (k : Nat) {e size g n c j : Nat} {xs : List Value} {u : Value} (hk : L[k]? = some (Res.row e size (.slice (some ⟨g, 0, none⟩) n c) n xs)) (hj : xs[j]? = some u) (w : World) (h : Hs w0 F L w) : w.cell? ⟨g, j, none⟩ = some u := by
  obtain ⟨L', hS, hL⟩ := h
  obtain ⟨i, hi⟩ := List.mem_iff_getElem?.1 (hL _ (List.mem_of_getElem? hk))
  exact hS.row_cell i hi hj
theorem Hs.rd {size n : Nat} {A : Option Addr} {xs : List Value} (hb : Bes w0 F L size A n xs) (w : World) (h : Hs w0 F L w) : Rd w size A n xs := by
  obtain ⟨L', hS, hL⟩ := h
  exact hb w L' hS hL
theorem Bes.cons {size n : Nat} {A : Option Addr} {xs : List Value} (h : Bes w0 F L size A n xs) (a : Res) : Bes w0 F (a :: L) size A n xs := h.mono fun r hr => .tail _ hr
end
theorem append_none_ok {P : Program} {w0 w : World} {F : List Nat} {L : List Res} {K : Value → World → Prop} (k : Nat) {t e ty size bytes n : Nat} {z : Value} {v : Value} {cs : Array Bool} {xs : List Value} (hT : SlT P t e size bytes z) (hS : St w0 F w L) (hk : L[k]? = some (Res.row e size v n xs))
    (h : K v w) : builtinP P .append #[t, t] ty cs #[v, .slice none 0 0] w K := by
  obtain ⟨i, hi, hz, hs, hb⟩ := hT.parts
  exact builtin_ok (append_run (run_append_owned_none w 0 t ty e i size hT.1 hi v n xs (hS.own_row k hk))) h
theorem append_anyS {α : Type} {enc : α → List Value} {P : Program} {w0 w : World} {F : List Nat} {L : List Res} {K : Value → World → Prop} (k : Nat) {t e ty size bytes c c0 : Nat} {z : Value} {cs : Array Bool} {A A0 : Option Addr} {l0 l : List α} (hT : SlT P t e size bytes z) (hk : ∀ x, (enc x).length = size) (h1 : ∀ x, ∀ u ∈ enc x, u.oneCell' = true)
    (hm : l0.length + l.length ≤ maxLen) (hb : (l0.length + l.length) * bytes ≤ 140737488355328) (hS : St w0 F w L) (hq : L[k]? = some (Res.row e size (.slice A0 l0.length c0) l0.length (l0.flatMap enc))) (hR : Rd w size A l.length (l.flatMap enc)) (hz : A = none → c = 0)
    (h : ∀ A' c' w', St w0 F w' (L.set k (Res.row e size (.slice A' (l0 ++ l).length c') (l0 ++ l).length ((l0 ++ l).flatMap enc))) → K (.slice A' (l0 ++ l).length c') w') :
    builtinP P .append #[t, t] ty cs #[.slice A0 l0.length c0, .slice A l.length c] w K := by
  have hlen : (l0 ++ l).length = l0.length + l.length := by simp
  have hfl : l0.flatMap enc ++ l.flatMap enc = (l0 ++ l).flatMap enc := by simp
  cases A with
  | none =>
    obtain rfl := hz rfl
    have hl0 : l = [] := by
      rcases Nat.eq_zero_or_pos l.length with h | h
      · exact List.eq_nil_of_length_eq_zero h
      · obtain ⟨g, o, hA⟩ := hR.some_ h hT.2.2.2; cases hA
    subst hl0
    have hself : St w0 F w (L.set k (Res.row e size (.slice A0 l0.length c0) l0.length (l0.flatMap enc))) := by
      obtain ⟨hlt, he⟩ := List.getElem?_eq_some_iff.1 hq
      rw [← he, List.set_getElem_self]
      exact hS
    rw [List.append_nil] at h
    exact append_none_ok k hT hS hq (h _ _ _ hself)
  | some a =>
    refine append_rd k hT hS hq hR rfl (fun u hu => ?_) hm hb ?_
    · obtain ⟨x, _, hx⟩ := List.mem_flatMap.1 hu
      exact h1 x u hx
    intro A4 c4 w' hS'
    rw [hfl, ← hlen] at hS'
    rw [← hlen]
    exact h _ _ _ hS'
theorem append_one1 {α : Type} {enc : α → List Value} {P : Program} {w0 w : World} {F : List Nat} {L : List Res} {K : Value → World → Prop} (k : Nat) {t e ty size bytes b c : Nat} {z : Value} {cs : Array Bool} {A : Option Addr} {l : List α} (x : α) (hT : SlT P t e size bytes z) (hk : ∀ x, (enc x).length = size) (h1 : ∀ x, ∀ u ∈ enc x, u.oneCell' = true) (hm : l.length + 1 ≤ maxLen) (hb : (l.length + 1) * bytes ≤ 140737488355328)
    (hS : St w0 F w (Res.cells b e (enc x) :: L)) (hq : L[k]? = some (Res.row e size (.slice A l.length c) l.length (l.flatMap enc)))
    (h : ∀ A' c' w', St w0 F w' (L.set k (Res.row e size (.slice A' (l ++ [x]).length c') (l ++ [x]).length ((l ++ [x]).flatMap enc))) → K (.slice A' (l ++ [x]).length c') w') : builtinP P .append #[t, t] ty cs #[.slice A l.length c, .slice (some ⟨b, 0, none⟩) 1 1] w K := by
  refine append_ok (k + 1) hT hS (by rw [List.getElem?_cons_succ]; exact hq) (news := enc x) (m := 1) (by rw [hk, Nat.one_mul]) (fun j u hj => ?_) (h1 x) hm hb ?_
  · rw [add_none, Nat.zero_add]
    exact hS.cell 0 rfl hj
  · intro A' c' w' hS'
    rw [List.set_cons_succ] at hS'
    have e1 : l.flatMap enc ++ enc x = (l ++ [x]).flatMap enc := by simp
    have e2 : l.length + 1 = (l ++ [x]).length := by simp
    rw [e1, e2] at hS'
    rw [e2]
    exact h A' c' w' hS'.tail
theorem flatS_take {α : Type} {enc : α → List Value} {size : Nat} (hk : ∀ x, (enc x).length = size) : ∀ (l : List α) (k : Nat), (l.take k).flatMap enc = (l.flatMap enc).take (k * size)
  | [], k => by simp
  | a :: l, 0 => by simp
  | a :: l, k + 1 => by
    rw [List.take_succ_cons, List.flatMap_cons, List.flatMap_cons, flatS_take hk l k, List.take_append, hk, Nat.succ_mul, List.take_of_length_le (l := enc a) (by rw [hk]; omega), show k * size + size - size = k * size by omega]
theorem flatS_drop {α : Type} {enc : α → List Value} {size : Nat} (hk : ∀ x, (enc x).length = size) : ∀ (l : List α) (k : Nat), (l.drop k).flatMap enc = (l.flatMap enc).drop (k * size)
  | [], k => by simp
  | a :: l, 0 => by simp
  | a :: l, k + 1 => by
    rw [List.drop_succ_cons, List.flatMap_cons, flatS_drop hk l k, List.drop_append, hk, Nat.succ_mul, List.drop_of_length_le (l := enc a) (by rw [hk]; omega), show k * size + size - size = k * size by omega, List.nil_append]
theorem Rd.takeS {α : Type} {enc : α → List Value} {size : Nat} {w : World} {A : Option Addr} {l : List α} (hk : ∀ x, (enc x).length = size) (k : Nat) (h : Rd w size A l.length (l.flatMap enc)) : Rd w size A (l.take k).length ((l.take k).flatMap enc) := by
  have hl : (l.flatMap enc).length = l.length * size := h.1
  refine ⟨by rw [flat_len enc size hk], fun hp => ?_⟩
  have h0 : 0 < (l.flatMap enc).length := by
    rw [flatS_take hk, List.length_take] at hp
    omega
  obtain ⟨g, o, hA, hc⟩ := h.2 h0
  refine ⟨g, o, hA, fun j u hj => hc j u ?_⟩
  rw [flatS_take hk, List.getElem?_take] at hj
  split at hj
  · exact hj
  · cases hj
theorem Rd.dropS {α : Type} {enc : α → List Value} {size c : Nat} {w : World} {A : Option Addr} {l : List α} (hk : ∀ x, (enc x).length = size) {k : Nat} (hkl : k ≤ l.length) (hc : l.length ≤ c) (h : Rd w size A l.length (l.flatMap enc)) : Rd w size (if c = k then A else A.map (·.add (k * size))) (l.drop k).length ((l.drop k).flatMap enc) := by
  refine ⟨by rw [flat_len enc size hk], fun hp => ?_⟩
  rw [flat_len enc size hk, List.length_drop] at hp
  have hne : k ≠ l.length := fun e => by subst e; simp at hp
  have h0 : 0 < (l.flatMap enc).length := by
    rw [h.1]
    refine Nat.mul_pos (by omega) ?_
    rcases Nat.eq_zero_or_pos size with e | e
    · rw [e] at hp; simp at hp
    · exact e
  obtain ⟨g, o, hA, hcell⟩ := h.2 h0
  subst hA
  rw [if_neg (by omega)]
  refine ⟨g, o + k * size, by simp [add_none], fun j u hj => ?_⟩
  rw [flatS_drop hk, List.getElem?_drop] at hj
  rw [Nat.add_assoc]
  exact hcell _ _ hj
theorem St.sub {w0 w : World} {F : List Nat} {L L' : List Res} (h : St w0 F w L) (hs : List.Sublist L' L) : St w0 F w L' :=
  ⟨h.chg, fun r hr => h.H r (hs.mem hr), fun r hr => h.lt r (hs.mem hr), fun r hr => h.own r (hs.mem hr), h.apart.sublist hs⟩
theorem St.mid {w0 w : World} {F : List Nat} {A B C : List Res} (h : St w0 F w (A ++ (B ++ C))) : St w0 F w (A ++ C) := h.sub (List.Sublist.append (.refl A) (List.sublist_append_right B C))
end Go.Proofs.YtcldjjmfpmkldaaGreatDoor.F
namespace Go.Proofs.YtcldjjmfpmkldaaGreatDoor.M
open Go.Proofs.YtcldjjmfpmkldaaGreatDoor.F Go.RowKit
set_option linter.unusedVariables false
set_option linter.unusedSimpArgs false
set_option maxRecDepth 100000
set_option maxHeartbeats 2000000
attribute [local irreducible] Res.cells Res.row Res.map Res.any World.cell? World.frozen? Instr.fieldAt Instr.loadAt Instr.storeAt Instr.indexAt Instr.lookup Instr.mapUpdate Instr.box Instr.build Instr.buildSlice Instr.extract Instr.alloc Instr.field Instr.index Instr.sliceAt Instr.makeSlice Instr.makeMap Instr.makeFunc binS Op.unary Sem.run
section
variable (x y : Operand) (w : World)
theorem mulu (a b : Int) : (binS .mul 117 x y (.int .u64 a) (.int .u64 b)).run Tryz.prog w = .ok (.int .u64 (IntKind.u64.wrap (a * b))) w := by
  rw [binS_run _ _ _ _ _ _ (by kernel_rfl)]; simp [go_sem, binOp]
theorem addu (a b : Int) : (binS .add 117 x y (.int .u64 a) (.int .u64 b)).run Tryz.prog w = .ok (.int .u64 (IntKind.u64.wrap (a + b))) w := by
  rw [binS_run _ _ _ _ _ _ (by kernel_rfl)]; simp [go_sem, binOp]
theorem remu (a b : Nat) (hb : 0 < b) (ha : a < 2 ^ 64) : (binS .rem 117 x y (.int .u64 (a : Int)) (.int .u64 (b : Int))).run Tryz.prog w = .ok (.int .u64 ((a % b : Nat) : Int)) w := by
  rw [binS_run _ _ _ _ _ _ (by kernel_rfl)]
  have hne : ¬ (b : Int) = 0 := by omega
  have hne' : ¬ b = 0 := by omega
  have h1 : Int.tmod (a : Int) (b : Int) = ((a % b : Nat) : Int) := by rw [Int.tmod_eq_emod_of_nonneg (by omega)]; norm_cast
  have h2 : a % b ≤ a := Nat.mod_le _ _
  have h3 : IntKind.u64.wrap ((a % b : Nat) : Int) = ((a % b : Nat) : Int) := by
    generalize a % b = q at *
    exact wraps_u64 _ (by omega) (by omega)
  simp [go_sem, binOp, hne, hne', h1, h3, -Int.natCast_emod]
theorem quou (a b : Nat) (hb : 0 < b) (ha : a < 2 ^ 64) : (binS .quo 117 x y (.int .u64 (a : Int)) (.int .u64 (b : Int))).run Tryz.prog w = .ok (.int .u64 ((a / b : Nat) : Int)) w := by
  rw [binS_run _ _ _ _ _ _ (by kernel_rfl)]
  have hne : ¬ (b : Int) = 0 := by omega
  have hne' : ¬ b = 0 := by omega
  have h1 : Int.tdiv (a : Int) (b : Int) = ((a / b : Nat) : Int) := by rw [Int.tdiv_eq_ediv_of_nonneg (by omega)]; norm_cast
  have h2 : a / b ≤ a := Nat.div_le_self _ _
  have h3 : IntKind.u64.wrap ((a / b : Nat) : Int) = ((a / b : Nat) : Int) := by
    generalize a / b = q at *
    exact wraps_u64 _ (by omega) (by omega)
  simp [go_sem, binOp, hne, hne', h1, h3, -Int.natCast_ediv]
end
theorem or128 (u : Nat) : Go.bits .or .u8 ((u : Int) % 256) 128 = ((u % 128 + 128 : Nat) : Int) := by
  have e1 : ((u : Int) % 256) = ((u % 256 : Nat) : Int) := by omega
  rw [e1, show (128 : Int) = ((128 : Nat) : Int) from rfl, (bits_nat .u8 8 (by decide) wraps_u8 (u % 256) 128 (by omega) (by omega)).2]
  congr 1
  have h : u % 256 % 128 = u % 128 := by omega
  by_cases h2 : u % 256 < 128
  · have := Nat.two_pow_add_eq_or_of_lt (i := 7) (b := u % 256) h2 1
    rw [show 2 ^ 7 * 1 = 128 from rfl] at this
    rw [Nat.or_comm]
    omega
  · have := Nat.two_pow_add_eq_or_of_lt (i := 7) (b := u % 256 - 128) (by omega) 1
    rw [show 2 ^ 7 * 1 = 128 from rfl] at this
    have e3 : u % 256 = 128 ||| (u % 256 - 128) := by omega
    rw [e3, Nat.or_comm, ← Nat.or_assoc, Nat.or_self]
    omega
abbrev e8 (l : List Nat) : List Value := l.map fun (c : Nat) => .int .u8 (c : Int)
theorem e8_set (l : List Nat) (k c : Nat) : (e8 l).set k (.int .u8 (c : Int)) = e8 (l.set k c) := by
  unfold e8
  rw [List.map_set]
theorem e8_get {l rest : List Nat} {i : Nat} (hi : i < l.length) : (e8 (l ++ rest))[i]? = some (.int .u8 (l[i] : Int)) := by
  unfold e8
  rw [List.getElem?_map, List.getElem?_append_left hi, List.getElem?_eq_getElem hi]
  rfl
theorem lebN_pos (u : Nat) : 1 ≤ (lebN u).length := by
  by_cases h : u < 128
  · rw [lebN_lo h]; simp
  · rw [lebN_hi h]; simp
theorem set_mid (out : List Nat) (r c : Nat) (rest : List Nat) : (out ++ r :: rest).set out.length c = (out ++ [c]) ++ rest := by
  rw [List.set_append_right _ _ (Nat.le_refl _), Nat.sub_self]
  simp
theorem strOf_run {w : World} {b n c : Nat} {l : List Nat} (hn : n = l.length) (h : ∀ i (hi : i < l.length), w.cell? ⟨b, i, none⟩ = some (.int .u8 (l[i] : Int))) :
    (convert 97 9 (.slice (some ⟨b, 0, none⟩) n c)).run Tryz.prog w = .ok (.string (strN l)) w := by
  refine run_convert_bytes_arg (P := Tryz.prog) w 97 5 Tryz.underlying97 Tryz.underlying5 b 0 n c (ints l) (by rw [hn]; simp [ints]) (fun i hi => ?_) 9 Tryz.underlying9
  have hi' : i < l.length := by omega
  rw [Nat.zero_add, h i hi']
  simp [ints, List.getD, hi']
theorem zzI64 {n : Int} (h : -9223372036854775808 ≤ n ∧ n ≤ 9223372036854775807) : Go.bits .xor .u64 (IntKind.u64.wrap (IntKind.u64.wrap n * 2)) (IntKind.u64.wrap (n / 9223372036854775808)) = ((zz n : Nat) : Int) := zzI_eq n h.1 h.2
section
variable {w0 w : World} {F : List Nat} {L : List Res}
theorem put_ret {n : Int} (hn : -9223372036854775808 ≤ n ∧ n ≤ 9223372036854775807) (hS : St w0 F w L) : Ret Tryz.prog 59 #[.int .i64 n] w fun v w' => v = .string (putS n) ∧ St w0 F w' L := by
  have hz := zz_lt n hn.1 hn.2
  have hl10 := lebN_len (zz n) hz
  refine s59 _ ?_
  unfold m59 m59_0 m59_1
  refine valP_ok (cvi_64 _ _) ?_
  refine valP_ok (shl1 _ _ _ _) ?_
  refine valP_ok (shr63 _ _ _ _) ?_
  refine valP_ok (cvi_64 _ _) ?_
  refine valP_ok (xor64 _ _ _ _ _) ?_
  rw [zzI64 hn]
  unfold m59_2
  refine new_ok (al127 _) hS ?_
  intro b4 w hS
  unfold m59_3 m59_4
  refine loop_in (fun s w' => ∃ (u : Nat) (out rest : List Nat), s = (.int .u64 (u : Int), .int .i64 (out.length : Int)) ∧ u < 2 ^ 64 ∧ out ++ lebN u = lebN (zz n) ∧ out.length + rest.length = 10 ∧ St w0 F w' (Res.cells b4 127 (e8 (out ++ rest)) :: L)) (fun s _ => 10 - (intOf s.2).toNat) ⟨zz n, [], [0, 0, 0, 0, 0, 0, 0, 0, 0, 0], rfl, hz, rfl, rfl, hS⟩ ?_
  clear hS
  rintro s w ⟨u, out, rest, rfl, hu, ho, hlen, hS⟩
  simp only
  have hp := lebN_pos u
  have hl := congrArg List.length ho
  rw [List.length_append] at hl
  obtain ⟨r, rest, rfl⟩ : ∃ r rest', rest = r :: rest' := by
    cases rest with
    | nil => simp at hlen; omega
    | cons r rest => exact ⟨r, rest, rfl⟩
  have hk : out.length < (e8 (out ++ r :: rest)).length := by simp
  have hk10 : out.length < 10 := by omega
  unfold m59_8
  refine valP_ok (geq_ok _ _ _ _ _ _ _) ?_
  unfold m59_12
  refine cond_split (fun h => ?_) (fun h => ?_)
  · have h1 := lebN_hi (u := u) (by omega)
    unfold m59_9
    refine valP_ok (cv64_8 _ _) ?_
    rw [IntKind.wrap_u8]
    refine valP_ok (or8 _ _ _ _ _) ?_
    rw [or128]
    refine valP_ok (iarr _ hk10) ?_
    refine store_at 0 st5 hS rfl hk rfl ?_
    intro w hS
    simp only [List.set_cons_zero] at hS
    rw [e8_set, set_mid] at hS
    unfold m59_11
    refine valP_ok (shr7 _ _ _ _) ?_
    rw [show (u : Int) / 128 = ((u / 128 : Nat) : Int) by omega]
    unfold m59_10
    refine valP_ok (add_ok _ _ _ (by omega) (by omega) _) ?_
    refine ⟨⟨u / 128, out ++ [u % 128 + 128], rest, by simp, by omega, ?_, by simp at hlen ⊢; omega, hS⟩, by simp [intOf]; omega⟩
    rw [List.append_assoc, List.singleton_append, ← h1, ho]
  · have h1 := lebN_lo (u := u) (by omega)
    unfold m59_5
    refine valP_ok (cv64_8 _ _) ?_
    rw [IntKind.wrap_u8, show (u : Int) % 256 = ((u : Nat) : Int) by omega]
    refine valP_ok (iarr _ hk10) ?_
    refine store_at 0 st5 hS rfl hk rfl ?_
    intro w hS
    simp only [List.set_cons_zero] at hS
    rw [e8_set, set_mid] at hS
    unfold m59_6
    refine valP_ok (add_ok _ _ _ (by omega) (by omega) _) ?_
    rw [show (out.length : Int) + 1 = ((out.length + 1 : Nat) : Int) by omega]
    refine valP_ok (sarr _ (by omega)) ?_
    refine valP_ok (strOf_run (l := out ++ [u]) (by simp) (fun i hi => hS.cell 0 rfl (e8_get hi))) ?_
    unfold m59_7
    refine ⟨?_, hS.tail⟩
    unfold putS
    rw [← ho, h1]
abbrev r8 (A : Option Addr) (c : Nat) (l : List Nat) : Res := Res.row 5 1 (.slice A l.length c) l.length (l.flatMap fun (c : Nat) => [.int .u8 (c : Int)])
theorem flat8 (l : List Nat) : (l.flatMap fun (c : Nat) => [Value.int .u8 (c : Int)]) = e8 l := by
  induction l with
  | nil => rfl
  | cons c l ih => rw [List.flatMap_cons, ih]; rfl
theorem rput_ret {n : Int} (hn : -9223372036854775808 ≤ n ∧ n ≤ 9223372036854775807) (hS : St w0 F w L) : Ret Tryz.prog 37 #[.int .i64 n] w fun v w' => v = .string (putS n) ∧ St w0 F w' L := by
  have hz := zz_lt n hn.1 hn.2
  have hl10 := lebN_len (zz n) hz
  have main : m37_3 (fun v w' => v = .string (putS n) ∧ St w0 F w' L) (.int .u64 (zz n : Int)) w := by
    unfold m37_3 m37_4
    refine loop_in (fun s w' => ∃ (u : Nat) (out : List Nat) (A : Option Addr) (c : Nat), s = (.int .u64 (u : Int), .slice A out.length c) ∧ u < 2 ^ 64 ∧ out ++ lebN u = lebN (zz n) ∧ St w0 F w' (r8 A c out :: L)) (fun s _ => (intOf s.1).toNat) ⟨zz n, [], none, 0, rfl, hz, rfl, hS.row_nil 5 1⟩ ?_
    clear hS
    rintro s w ⟨u, out, A, c, rfl, hu, ho, hS⟩
    simp only
    have hp := lebN_pos u
    have hl := congrArg List.length ho
    rw [List.length_append] at hl
    unfold m37_8
    refine valP_ok (gtr_ok _ _ _ _ _ _ _) ?_
    unfold m37_11
    refine cond_split (fun h => ?_) (fun h => ?_)
    · have h1 := lebN_hi (u := u) (by omega)
      unfold m37_9
      refine valP_ok (remu _ _ _ u 128 (by omega) hu) ?_
      refine valP_ok (addu _ _ _ _ _) ?_
      rw [wraps_u64 _ (by omega) (by omega)]
      refine valP_ok (cv64_8 _ _) ?_
      rw [IntKind.wrap_u8, show (((u % 128 : Nat) : Int) + 128) % 256 = ((u % 128 + 128 : Nat) : Int) by omega]
      refine newslice_ok (bs97_1 rfl _) hS ?_
      intro b23 w hS
      refine append_one1 (enc := fun (c : Nat) => [.int .u8 (c : Int)]) 0 (u % 128 + 128) sl97 (fun _ => rfl) (fun _ v hv => by obtain rfl := List.mem_singleton.1 hv; rfl) (by unfold maxLen; omega) (by omega) hS rfl ?_
      intro A' c' w' hS
      simp only [List.set_cons_zero] at hS
      unfold m37_10
      refine valP_ok (quou _ _ _ u 128 (by omega) hu) ?_
      refine ⟨⟨u / 128, _, A', c', rfl, by omega, ?_, hS⟩, by simp [intOf]; omega⟩
      rw [List.append_assoc, List.singleton_append, ← h1, ho]
    · have h1 := lebN_lo (u := u) (by omega)
      unfold m37_5
      refine valP_ok (cv64_8 _ _) ?_
      rw [IntKind.wrap_u8, show (u : Int) % 256 = ((u : Nat) : Int) by omega]
      refine newslice_ok (bs97_1 rfl _) hS ?_
      intro b30 w hS
      refine append_one1 (enc := fun (c : Nat) => [.int .u8 (c : Int)]) 0 u sl97 (fun _ => rfl) (fun _ v hv => by obtain rfl := List.mem_singleton.1 hv; rfl) (by unfold maxLen; omega) (by omega) hS rfl ?_
      intro A' c' w' hS
      simp only [List.set_cons_zero] at hS
      obtain ⟨g, rfl⟩ := hS.row_ptr 0 rfl (by simp)
      unfold m37_6
      refine valP_ok (strOf_run (l := out ++ [u]) rfl (fun i hi => hS.row_cell 0 rfl (by have := e8_get (rest := []) hi; rw [List.append_nil] at this; rw [flat8]; exact this))) ?_
      unfold m37_7
      refine ⟨?_, hS.tail⟩
      unfold putS
      rw [← ho, h1]
  refine s37 _ ?_
  unfold m37 m37_0 m37_1
  refine valP_ok (cvi_64 _ _) ?_
  refine valP_ok (mulu _ _ _ _ _) ?_
  unfold m37_2
  refine valP_ok (lss_ok _ _ _ _ _ _ _) ?_
  unfold m37_12
  refine cond_split (fun h => ?_) (fun h => ?_)
  · refine valP_ok (add_ok _ _ _ (by omega) (by omega) _) ?_
    refine valP_ok (negI _ _) ?_
    refine valP_ok (cvi_64 _ _) ?_
    refine valP_ok (mulu _ _ _ _ _) ?_
    refine valP_ok (addu _ _ _ _ _) ?_
    have e : IntKind.u64.wrap (IntKind.u64.wrap (IntKind.u64.wrap (IntKind.i64.wrap (-(n + 1))) * 2) + 1) = ((zz n : Nat) : Int) := by
      unfold zz
      rw [if_neg (by omega), IntKind.wrap_i64, wrap_u64, wrap_u64, wrap_u64]
      omega
    rw [e]
    exact main
  · have e : IntKind.u64.wrap (IntKind.u64.wrap n * 2) = ((zz n : Nat) : Int) := by
      unfold zz
      rw [if_pos (by omega), wrap_u64, wrap_u64]
      omega
    rw [e]
    exact main
end
def hn : List Nat → Nat
  | [] => 0
  | b :: t => (hn t * 128 + b % 128) % 2 ^ 64
theorem hn_lt : ∀ l, hn l < 2 ^ 64
  | [] => by decide
  | b :: t => by unfold hn; exact Nat.mod_lt _ (by decide)
theorem hn_leb (u : Nat) : u < 2 ^ 64 → hn (lebN u) = u := by
  induction u using Nat.strongRecOn with
  | _ u ih =>
    intro hu
    by_cases h : u < 128
    · rw [lebN_lo h]; simp only [hn]; omega
    · rw [lebN_hi h]; simp only [hn]; rw [ih (u / 128) (by omega) (by omega)]; omega
theorem leb_more (u : Nat) : ∀ t, t + 1 < (lebN u).length → 128 ≤ (lebN u).getD t 0 := by
  induction u using Nat.strongRecOn with
  | _ u ih =>
    intro t ht
    by_cases h : u < 128
    · rw [lebN_lo h] at ht; simp at ht
    · rw [lebN_hi h] at ht ⊢
      rw [List.length_cons] at ht
      cases t with
      | zero => simp
      | succ t => simpa using ih (u / 128) (by omega) t (by omega)
theorem leb_last (u : Nat) : (lebN u).getD ((lebN u).length - 1) 0 < 128 := by
  induction u using Nat.strongRecOn with
  | _ u ih =>
    by_cases h : u < 128
    · rw [lebN_lo h]; simpa using h
    · rw [lebN_hi h]
      have h1 := ih (u / 128) (by omega)
      have h2 := lebN_pos (u / 128)
      rw [List.length_cons, show (lebN (u / 128)).length + 1 - 1 = ((lebN (u / 128)).length - 1) + 1 by omega]
      simpa using h1
theorem drop_at (l : List Nat) (i : Nat) (h : i < l.length) : l.drop i = l.getD i 0 :: l.drop (i + 1) := by
  rw [List.drop_eq_getElem_cons h]
  simp only [List.getD]; rw [List.getElem?_eq_getElem h]; rfl
theorem takeL_shape {s : ByteArray} {n : Int} {rest : List Nat} (h : takeL (bytesN s) = some (n, rest)) {j : Nat} (h3 : ∀ t, t < j → 127 < (bytesN s).getD t 0)
    (h4 : j = s.size ∨ j = 10 ∨ (j < s.size ∧ j < 10 ∧ (bytesN s).getD j 0 ≤ 127)) : (j < s.size ∧ j < 10) ∧ (bytesN s).take (j + 1) = lebN (zz n) ∧ (bytesN s).drop (j + 1) = rest ∧ zz n < 2 ^ 64 := by
  obtain ⟨e, n1, n2⟩ := takeL_canon (bytesN_lt s) h
  have hz := zz_lt n n1 n2
  have hl := lebN_len _ hz
  have hp := lebN_pos (zz n)
  have hlast := leb_last (zz n)
  have hmore := leb_more (zz n)
  have hsz : s.size = (lebN (zz n)).length + rest.length := by rw [← bytesN_length, e, List.length_append]
  have hg : ∀ t, t < (lebN (zz n)).length → (bytesN s).getD t 0 = (lebN (zz n)).getD t 0 := by
    intro t ht; rw [e]; simp only [List.getD]; rw [List.getElem?_append_left ht]
  generalize lebN (zz n) = L at *
  have hjL : j + 1 = L.length := by
    rcases Nat.lt_trichotomy (j + 1) L.length with c | c | c
    · have := hmore j c
      rw [← hg j (by omega)] at this
      omega
    · exact c
    · have := h3 (L.length - 1) (by omega)
      rw [hg _ (by omega)] at this
      omega
  refine ⟨⟨by omega, by omega⟩, ?_, ?_, hz⟩
  · rw [e, hjL, List.take_left]
  · rw [e, hjL, List.drop_left]
theorem takeS_L (s : ByteArray) : takeS s = (takeL (bytesN s)).map fun p => (p.1, strN p.2) := by
  unfold takeS takeL
  cases vT 0 0 (bytesN s) <;> rfl
theorem tkV_hn {s : ByteArray} {j : Nat} (hj : j < s.size) (hj2 : j < 10) (h3 : ∀ t, t < j → 127 < (bytesN s).getD t 0) (h4 : j = s.size ∨ j = 10 ∨ (j < s.size ∧ j < 10 ∧ (bytesN s).getD j 0 ≤ 127)) :
    tkV s = if putS (unz (hn ((bytesN s).take (j + 1)))) = s.extract 0 (j + 1) then .tuple #[.int .i64 (unz (hn ((bytesN s).take (j + 1)))), .string (s.extract (j + 1) s.size), .int .i64 0] else noV := by
  have hv := hn_lt ((bytesN s).take (j + 1))
  have ecmp : putS (unz (hn ((bytesN s).take (j + 1)))) = s.extract 0 (j + 1) ↔ lebN (hn ((bytesN s).take (j + 1))) = (bytesN s).take (j + 1) := by
    rw [← bytesN_take s (j + 1)]
    generalize s.extract 0 (j + 1) = z
    constructor
    · intro h
      have h5 := congrArg bytesN h
      rw [bytesN_putS, zz_unz] at h5
      exact h5
    · intro h
      refine bytesN_inj ?_
      rw [bytesN_putS, zz_unz]
      exact h
  unfold tkV
  rw [takeS_L]
  by_cases hc : lebN (hn ((bytesN s).take (j + 1))) = (bytesN s).take (j + 1)
  · rw [if_pos (ecmp.2 hc)]
    have hu1 : -9223372036854775808 ≤ unz (hn ((bytesN s).take (j + 1))) := by unfold unz; split <;> omega
    have hu2 : unz (hn ((bytesN s).take (j + 1))) ≤ 9223372036854775807 := by unfold unz; split <;> omega
    have h6 := takeL_put (unz (hn ((bytesN s).take (j + 1)))) ((bytesN s).drop (j + 1)) hu1 hu2
    rw [zz_unz, hc, List.take_append_drop] at h6
    rw [h6]
    simp only [Option.map_some]
    rw [strN_drop]
  · rw [if_neg (fun h => hc (ecmp.1 h))]
    cases hh : takeL (bytesN s) with
    | none => rfl
    | some p =>
      obtain ⟨n, rest⟩ := p
      obtain ⟨-, a2, -, a4⟩ := takeL_shape hh h3 h4
      exact absurd (by rw [a2, hn_leb _ a4]) hc
theorem tkV_bad {s : ByteArray} {j : Nat} (h3 : ∀ t, t < j → 127 < (bytesN s).getD t 0) (h4 : j = s.size ∨ j = 10) : tkV s = noV := by
  unfold tkV
  rw [takeS_L]
  cases hh : takeL (bytesN s) with
  | none => rfl
  | some p =>
    obtain ⟨n, rest⟩ := p
    have := (takeL_shape hh h3 (h4.imp id .inl)).1
    omega
theorem getD_byte {s : ByteArray} {i : Nat} (h : i < s.size) : (bytesN s).getD i 0 = s[i].toNat := by
  simp only [List.getD]
  rw [List.getElem?_eq_getElem (by rw [bytesN_length]; exact h), bytesN_get s i h]
  rfl
theorem hn_step {s : ByteArray} {j i : Nat} (hj : j < s.size) (hi : i < j + 1) : hn (((bytesN s).take (j + 1)).drop i) = (hn (((bytesN s).take (j + 1)).drop (i + 1)) * 128 + (s[i]'(by omega)).toNat % 128) % 2 ^ 64 := by
  have hlen : ((bytesN s).take (j + 1)).length = j + 1 := by rw [List.length_take, bytesN_length]; omega
  have e := drop_at ((bytesN s).take (j + 1)) i (by omega)
  have e0 : ((bytesN s).take (j + 1)).getD i 0 = (bytesN s).getD i 0 := by
    simp only [List.getD, List.getElem?_take]; rw [if_pos (by omega)]
  rw [e, hn, e0, getD_byte]
section
variable {w0 w : World} {F : List Nat} {L : List Res} {s : ByteArray}
theorem rtake_ret (hS : St w0 F w L) : Ret Tryz.prog 85 #[.string s] w fun v w' => v = tkV s ∧ St w0 F w' L := by
  have fin : ∀ (k : Nat) w, St w0 F w L → k ≤ s.size → k ≤ 10 → (∀ t, t < k → 127 < (bytesN s).getD t 0) → (k = s.size ∨ k = 10 ∨ (k < s.size ∧ k < 10 ∧ (bytesN s).getD k 0 ≤ 127)) → m85_3 (fun v w' => v = tkV s ∧ St w0 F w' L) (.string s) (.int .i64 (k : Int)) w := by
    clear hS
    intro k w hS hks hk10 h3 h4
    unfold m85_3
    refine builtin_ok (len9 _) ?_
    refine valP_ok (eq3 _ _ _ _ _) ?_
    refine cond_split (fun h => ?_) (fun h => ?_)
    · refine pick_dt (by first | assumption | omega) ?_
      unfold m85_19
      refine cond_t rfl ?_
      unfold m85_20
      exact ⟨(tkV_bad h3 (.inl (by omega))).symm, hS⟩
    · refine valP_ok (eq3 _ _ _ _ _) ?_
      refine pick_df (by first | assumption | omega) ?_
      unfold m85_19
      refine cond_split (fun h1 => ?_) (fun h1 => ?_)
      · unfold m85_20
        exact ⟨(tkV_bad h3 (.inr (by omega))).symm, hS⟩
      · have hj : k < s.size := by omega
        have hj2 : k < 10 := by omega
        have hres := tkV_hn hj hj2 h3 h4
        have hlen : ((bytesN s).take (k + 1)).length = k + 1 := by rw [List.length_take, bytesN_length]; omega
        unfold m85_4 m85_5 m85_14
        refine loop_in (fun u w' => ∃ i : Nat, u = (.int .u64 (hn (((bytesN s).take (k + 1)).drop i) : Int), .int .i64 ((i : Int) - 1)) ∧ i ≤ k + 1 ∧ St w0 F w' L) (fun u _ => ((intOf u.2) + 1).toNat) ⟨k + 1, by rw [List.drop_eq_nil_of_le (by omega), show ((k + 1 : Nat) : Int) - 1 = (k : Int) by omega]; rfl, Nat.le_refl _, hS⟩ ?_
        clear hS
        rintro u w ⟨i, rfl, hi, hS⟩
        simp only
        unfold m85_15
        refine valP_ok (geq_ok _ _ _ _ _ _ _) ?_
        unfold m85_18
        refine cond_split (fun h5 => ?_) (fun h5 => ?_)
        · obtain ⟨i, rfl⟩ : ∃ i', i = i' + 1 := ⟨i - 1, by omega⟩
          have hst := hn_step (s := s) (j := k) (i := i) hj (by omega)
          have hlt := hn_lt (((bytesN s).take (k + 1)).drop (i + 1))
          have hil : i < s.size := by omega
          rw [show ((i + 1 : Nat) : Int) - 1 = (i : Int) by omega]
          unfold m85_16
          refine valP_ok (mulu _ _ _ _ _) ?_
          refine valP_ok (sidx _ hil) ?_
          refine valP_ok (cv8_64 _ _) ?_
          have hb : s[i].toNat < 256 := UInt8.toNat_lt _
          rw [wraps_u64 (s[i].toNat : Int) (by omega) (by omega)]
          refine valP_ok (remu _ _ _ s[i].toNat 128 (by omega) (by omega)) ?_
          refine valP_ok (addu _ _ _ _ _) ?_
          have e : IntKind.u64.wrap (IntKind.u64.wrap ((hn (((bytesN s).take (k + 1)).drop (i + 1)) : Int) * 128) + ((s[i].toNat % 128 : Nat) : Int)) = (hn (((bytesN s).take (k + 1)).drop i) : Int) := by
            rw [hst, wrap_u64, wrap_u64]
            omega
          rw [e]
          unfold m85_17
          refine valP_ok (sub_ok _ _ _ (by omega) (by omega) _) ?_
          exact ⟨⟨i, rfl, by omega, hS⟩, by simp [intOf]⟩
        · obtain rfl : i = 0 := by omega
          rw [List.drop_zero]
          have hv := hn_lt ((bytesN s).take (k + 1))
          generalize hn ((bytesN s).take (k + 1)) = v at hv hres
          have hu1 : -9223372036854775808 ≤ unz v := by unfold unz; split <;> omega
          have hu2 : unz v ≤ 9223372036854775807 := by unfold unz; split <;> omega
          have main : m85_8 (fun v w' => v = tkV s ∧ St w0 F w' L) (.string s) (.int .i64 (k : Int)) (.int .i64 (unz v)) w := by
            unfold m85_8
            refine drawn_ok hS ?_
            intro w hS
            refine pureP_ok (add_ok _ _ _ (by omega) (by omega)) ?_
            rw [show (k : Int) + 1 = ((k + 1 : Nat) : Int) by omega]
            refine pureP_ok (fun w => sto w (by omega)) ?_
            refine callR (by kernel_rfl) (rput_ret ⟨hu1, hu2⟩ hS) ?_
            rintro _ w ⟨rfl, hS⟩
            refine pureP_ok (ne9 _ _ _ _) ?_
            unfold m85_11
            refine cond_split (fun h6 => ?_) (fun h6 => ?_)
            · unfold m85_12
              rw [if_neg h6] at hres
              exact ⟨hres.symm, hS⟩
            · rw [if_pos (Classical.not_not.1 h6)] at hres
              unfold m85_9
              refine valQ_ok (add_ok _ _ _ (by omega) (by omega)) ?_
              rw [show (k : Int) + 1 = ((k + 1 : Nat) : Int) by omega]
              refine valQ_ok (fun w => sfrom w (by omega)) ?_
              refine drawn_ok hS ?_
              intro w hS
              unfold m85_10
              exact ⟨hres.symm, hS⟩
          unfold m85_6
          refine valP_ok (quou _ _ _ v 2 (by omega) hv) ?_
          refine valP_ok (cv64_i _ _) ?_
          unfold m85_7
          refine valP_ok (remu _ _ _ v 2 (by omega) hv) ?_
          refine valP_ok (eq117 _ _ _ _ _) ?_
          unfold m85_13
          refine cond_split (fun h6 => ?_) (fun h6 => ?_)
          · refine valP_ok (negI _ _) ?_
            have e : IntKind.i64.wrap (-(IntKind.i64.wrap ((v / 2 : Nat) : Int))) = -((v / 2 : Nat) : Int) := by
              rw [IntKind.wrap_i64, IntKind.wrap_i64]
              omega
            rw [e]
            refine valP_ok (sub_ok _ _ _ (by omega) (by omega) _) ?_
            rw [show -((v / 2 : Nat) : Int) - 1 = unz v by unfold unz; rw [if_neg (by omega)]]
            exact main
          · have e : IntKind.i64.wrap ((v / 2 : Nat) : Int) = unz v := by
              rw [IntKind.wrap_i64]
              unfold unz
              rw [if_pos (by omega)]
              omega
            rw [e]
            exact main
  refine s85 _ ?_
  unfold m85 m85_0 m85_1 m85_2
  refine loop_in (fun u w' => ∃ k : Nat, u = .int .i64 (k : Int) ∧ k ≤ s.size ∧ k ≤ 10 ∧ (∀ t, t < k → 127 < (bytesN s).getD t 0) ∧ St w0 F w' L) (fun u _ => 10 - (intOf u).toNat) ⟨0, rfl, by omega, by omega, fun t h => by omega, hS⟩ ?_
  clear hS
  rintro u w ⟨k, rfl, hks, hk10, h3, hS⟩
  unfold m85_21
  refine builtin_ok (len9 _) ?_
  refine valP_ok (lss_ok _ _ _ _ _ _ _) ?_
  refine cond_split (fun h => ?_) (fun h => ?_)
  · have hlt : k < s.size := by omega
    refine valP_ok (lss_ok _ _ _ _ _ _ _) ?_
    refine pick_dt (by first | assumption | omega) ?_
    refine cond_split (fun h1 => ?_) (fun h1 => ?_)
    · refine valP_ok (sidx _ hlt) ?_
      refine valP_ok (gtr_ok _ _ _ _ _ _ _) ?_
      refine pick_dt (by first | assumption | omega) ?_
      unfold m85_23
      refine cond_split (fun h2 => ?_) (fun h2 => ?_)
      · unfold m85_22
        refine valP_ok (add_ok _ _ _ (by omega) (by omega) _) ?_
        refine ⟨⟨k + 1, rfl, by omega, by omega, fun t ht => ?_, hS⟩, by simp [intOf]; omega⟩
        rcases Nat.lt_or_ge t k with g | g
        · exact h3 t g
        · obtain rfl : t = k := by omega
          rw [getD_byte hlt]
          omega
      · exact fin k w hS hks hk10 h3 (.inr (.inr ⟨hlt, by omega, by rw [getD_byte hlt]; omega⟩))
    · refine pick_df (by first | assumption | omega) ?_
      unfold m85_23
      refine cond_f rfl ?_
      exact fin k w hS hks hk10 h3 (.inr (.inl (by omega)))
  · refine pick_df (by first | assumption | omega) ?_
    refine cond_f rfl ?_
    refine pick_f (by first | rfl | assumption) ?_
    unfold m85_23
    refine cond_f rfl ?_
    exact fin k w hS hks hk10 h3 (.inl (by omega))
end
end Go.Proofs.YtcldjjmfpmkldaaGreatDoor.M
