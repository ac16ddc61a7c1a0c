/- The steps of the plain reading at this seat's types; printed by a program of this work. -/
import Derived.Test.YtcldjjmfpmkldaaDoorFwT
import Derived.Test.YtcldjjmfpmkldaaDoorProg
namespace Go.Proofs.YtcldjjmfpmkldaaDoor.M
open Go.Proofs.YtcldjjmfpmkldaaDoor.F Go.RowKit
set_option linter.unusedVariables false
set_option linter.unusedSimpArgs false
theorem bytes_inj {a b : ByteArray} (h : a.toList = b.toList) : a = b := by
  rw [ByteArray.toList_eq, ByteArray.toList_eq] at h
  exact ByteArray.ext (Array.toList_inj.mp h)
theorem bytes_iff {a b : ByteArray} : a.toList = b.toList ↔ a = b := ⟨bytes_inj, fun e => e ▸ rfl⟩
theorem eq9 (x y : Operand) (a b : ByteArray) (w : World) : (binS .eql 9 x y (.string a) (.string b)).run Tryd.prog w = .ok (.bool (decide (a = b))) w := by
  by_cases h : a = b
  · simp [binS, go_sem, h]
  · have h' : ¬ a.toList = b.toList := fun e => h (bytes_inj e)
    simp [binS, go_sem, h, h']
theorem len9 {s : ByteArray} {t : TypeId} {cs : Array Bool} (w : World) : (builtin .len #[9] t cs #[.string s] : Sem Next).run Tryd.prog w = .ok (.value (.int .i64 (s.size : Int))) w := by simp [go_sem]
theorem eq3 (x y : Operand) (a b : Int) (w : World) : (binS .eql 3 x y (.int .i64 a) (.int .i64 b)).run Tryd.prog w = .ok (.bool (decide (a = b))) w := by
  by_cases h : a = b <;> simp [binS, go_sem, h]
theorem ne9 (x y : Operand) (a b : ByteArray) (w : World) : (binS .neq 9 x y (.string a) (.string b)).run Tryd.prog w = .ok (.bool (decide (¬ a = b))) w := by
  by_cases h : a = b
  · simp [binS, go_sem, h]
  · have h' : ¬ a.toList = b.toList := fun e => h (bytes_inj e)
    simp [binS, go_sem, h, h']
theorem mm59 (w : World) : (Instr.makeMap 59 none).run Tryd.prog w = .ok (.map (some w.heap.size)) (w.alloc (.map #[] 0)) := run_makeMap _ _
theorem bd61_0_1_2 {a0 a1 a2 : Value} (o0 : a0.oneCell' = true) (o1 : a1.oneCell' = true) (o2 : a2.oneCell' = true) (w : World) : (Instr.build 61 #[(0, a0), (1, a1), (2, a2)]).run Tryd.prog w = .ok (.agg #[a0, a1, a2, .bool false]) w := by
  have e : ∀ v : Value, v.oneCell' = true → v.cells = #[v] := fun v h => by cases v <;> first | rfl | (simp [Value.oneCell'] at h)
  simp only [Value.cells] at e
  simp [go_sem, e _ o0, e _ o1, e _ o2]
theorem bx61 (v0 v1 v2 v3 : Value) (w : World) : (Instr.box 61 (.agg #[v0, v1, v2, v3])).run Tryd.prog w = .ok (.pointer (some ⟨w.heap.size, 0, none⟩)) (w.alloc (.cells #[v0, v1, v2, v3] 61)) := by simp [go_sem]
theorem ne23n (x y : Operand) (w : World) : (binS .neq 23 x y (.pointer none) (.pointer none)).run Tryd.prog w = .ok (.bool false) w := by
  simp [binS, go_sem]
theorem ne23s (x y : Operand) (p : Addr) (w : World) : (binS .neq 23 x y (.pointer (some p)) (.pointer none)).run Tryd.prog w = .ok (.bool true) w := by
  simp [binS, go_sem]
theorem fa61_2 (b : Nat) (w : World) : (Instr.fieldAt 61 (.pointer (some ⟨b, 0, none⟩)) 2).run Tryd.prog w = .ok (.pointer (some ⟨b, 2, none⟩)) w := by kernel_rfl
theorem fao61_2 (b o : Nat) (w : World) : (Instr.fieldAt 61 (.pointer (some ⟨b, o, none⟩)) 2).run Tryd.prog w = .ok (.pointer (some ⟨b, o + 2, none⟩)) w := by kernel_rfl
theorem st3 {w : World} {p : Addr} {u v : Value} (h : w.cell? p = some u) (hf : w.frozen? p = false) (ho : v.oneCell' = true) : (Instr.storeAt 3 (.pointer (some p)) v).run Tryd.prog w = .ok () (w.setCell p v) := by
  cases v <;> first | (simp [Value.oneCell'] at ho; done) | (simp [go_sem, h, hf]; done) | (simp [go_sem]; rw [run_store _ _ _ _ _ rfl, h]; simp [hf])
theorem eq23n (x y : Operand) (w : World) : (binS .eql 23 x y (.pointer none) (.pointer none)).run Tryd.prog w = .ok (.bool true) w := by
  simp [binS, go_sem]
theorem eq23s (x y : Operand) (p : Addr) (w : World) : (binS .eql 23 x y (.pointer (some p)) (.pointer none)).run Tryd.prog w = .ok (.bool false) w := by
  simp [binS, go_sem]
theorem fa61_3 (b : Nat) (w : World) : (Instr.fieldAt 61 (.pointer (some ⟨b, 0, none⟩)) 3).run Tryd.prog w = .ok (.pointer (some ⟨b, 3, none⟩)) w := by kernel_rfl
theorem fao61_3 (b o : Nat) (w : World) : (Instr.fieldAt 61 (.pointer (some ⟨b, o, none⟩)) 3).run Tryd.prog w = .ok (.pointer (some ⟨b, o + 3, none⟩)) w := by kernel_rfl
theorem ld4 {w : World} {p : Addr} {v : Value} (h : w.cell? p = some v) : (Instr.loadAt 4 (.pointer (some p))).run Tryd.prog w = .ok v w := by simp [go_sem, h]
theorem fa61_1 (b : Nat) (w : World) : (Instr.fieldAt 61 (.pointer (some ⟨b, 0, none⟩)) 1).run Tryd.prog w = .ok (.pointer (some ⟨b, 1, none⟩)) w := by kernel_rfl
theorem fao61_1 (b o : Nat) (w : World) : (Instr.fieldAt 61 (.pointer (some ⟨b, o, none⟩)) 1).run Tryd.prog w = .ok (.pointer (some ⟨b, o + 1, none⟩)) w := by kernel_rfl
theorem ld3 {w : World} {p : Addr} {v : Value} (h : w.cell? p = some v) : (Instr.loadAt 3 (.pointer (some p))).run Tryd.prog w = .ok v w := by simp [go_sem, h]
theorem len22 {A : Option Addr} {n c : Nat} {t : TypeId} {cs : Array Bool} (w : World) : (builtin .len #[22] t cs #[.slice A n c] : Sem Next).run Tryd.prog w = .ok (.value (.int .i64 (n : Int))) w := by simp [go_sem]
theorem ix22 {g o n c k : Nat} (h : k < n) (w : World) : (Instr.indexAt 22 (.slice (some ⟨g, o, none⟩) n c) (.int .i64 (k : Int))).run Tryd.prog w = .ok (.pointer (some ⟨g, o + k, none⟩)) w := by
  have h' : (k : Int) < n := by omega
  simp [go_sem, h', h, add_none]
theorem ixz22 {g n c k : Nat} (h : k < n) (w : World) : (Instr.indexAt 22 (.slice (some ⟨g, 0, none⟩) n c) (.int .i64 (k : Int))).run Tryd.prog w = .ok (.pointer (some ⟨g, k, none⟩)) w := by
  rw [ix22 h]; simp
theorem ld9 {w : World} {p : Addr} {v : Value} (h : w.cell? p = some v) : (Instr.loadAt 9 (.pointer (some p))).run Tryd.prog w = .ok v w := by simp [go_sem, h]
theorem fa65_0 (b : Nat) (w : World) : (Instr.fieldAt 65 (.pointer (some ⟨b, 0, none⟩)) 0).run Tryd.prog w = .ok (.pointer (some ⟨b, 0, none⟩)) w := by kernel_rfl
theorem fao65_0 (b o : Nat) (w : World) : (Instr.fieldAt 65 (.pointer (some ⟨b, o, none⟩)) 0).run Tryd.prog w = .ok (.pointer (some ⟨b, o, none⟩)) w := by kernel_rfl
theorem fa65_1 (b : Nat) (w : World) : (Instr.fieldAt 65 (.pointer (some ⟨b, 0, none⟩)) 1).run Tryd.prog w = .ok (.pointer (some ⟨b, 1, none⟩)) w := by kernel_rfl
theorem fao65_1 (b o : Nat) (w : World) : (Instr.fieldAt 65 (.pointer (some ⟨b, o, none⟩)) 1).run Tryd.prog w = .ok (.pointer (some ⟨b, o + 1, none⟩)) w := by kernel_rfl
theorem st4 {w : World} {p : Addr} {u v : Value} (h : w.cell? p = some u) (hf : w.frozen? p = false) (ho : v.oneCell' = true) : (Instr.storeAt 4 (.pointer (some p)) v).run Tryd.prog w = .ok () (w.setCell p v) := by
  cases v <;> first | (simp [Value.oneCell'] at ho; done) | (simp [go_sem, h, hf]; done) | (simp [go_sem]; rw [run_store _ _ _ _ _ rfl, h]; simp [hf])
theorem sl22 : SlT Tryd.prog 22 9 1 16 (.string ⟨#[]⟩) := by unfold SlT; exact ⟨by kernel_rfl, by kernel_rfl, by kernel_rfl, Nat.lt_of_lt_of_le (by decide) (Nat.le_refl _)⟩
theorem bs22_1 {a0 : Value} (o0 : a0.oneCell' = true) (w : World) : (Instr.buildSlice 22 1 #[(0, a0)]).run Tryd.prog w = .ok (.slice (some ⟨w.heap.size, 0, none⟩) 1 1) (w.alloc (.cells #[a0] 9)) := by
  have e : ∀ v : Value, v.oneCell' = true → v.cells = #[v] := fun v h => by cases v <;> first | rfl | (simp [Value.oneCell'] at h)
  simp only [Value.cells] at e
  simp [go_sem, e _ o0]
theorem ne24 (x y : Operand) (a b : Int) (w : World) : (binS .neq 24 x y (.int .i64 a) (.int .i64 b)).run Tryd.prog w = .ok (.bool (decide (¬ a = b))) w := by
  by_cases h : a = b <;> simp [binS, go_sem, h]
theorem fa61_0 (b : Nat) (w : World) : (Instr.fieldAt 61 (.pointer (some ⟨b, 0, none⟩)) 0).run Tryd.prog w = .ok (.pointer (some ⟨b, 0, none⟩)) w := by kernel_rfl
theorem fao61_0 (b o : Nat) (w : World) : (Instr.fieldAt 61 (.pointer (some ⟨b, o, none⟩)) 0).run Tryd.prog w = .ok (.pointer (some ⟨b, o, none⟩)) w := by kernel_rfl
theorem ld59 {w : World} {p : Addr} {v : Value} (h : w.cell? p = some v) : (Instr.loadAt 59 (.pointer (some p))).run Tryd.prog w = .ok v w := by simp [go_sem, h]
theorem eq63n (x y : Operand) (w : World) : (binS .eql 63 x y (.pointer none) (.pointer none)).run Tryd.prog w = .ok (.bool true) w := by
  simp [binS, go_sem]
theorem eq63s (x y : Operand) (p : Addr) (w : World) : (binS .eql 63 x y (.pointer (some p)) (.pointer none)).run Tryd.prog w = .ok (.bool false) w := by
  simp [binS, go_sem]
theorem ld23 {w : World} {p : Addr} {v : Value} (h : w.cell? p = some v) : (Instr.loadAt 23 (.pointer (some p))).run Tryd.prog w = .ok v w := by simp [go_sem, h]
theorem ne63n (x y : Operand) (w : World) : (binS .neq 63 x y (.pointer none) (.pointer none)).run Tryd.prog w = .ok (.bool false) w := by
  simp [binS, go_sem]
theorem ne63s (x y : Operand) (p : Addr) (w : World) : (binS .neq 63 x y (.pointer (some p)) (.pointer none)).run Tryd.prog w = .ok (.bool true) w := by
  simp [binS, go_sem]
theorem st9 {w : World} {p : Addr} {u v : Value} (h : w.cell? p = some u) (hf : w.frozen? p = false) (ho : v.oneCell' = true) : (Instr.storeAt 9 (.pointer (some p)) v).run Tryd.prog w = .ok () (w.setCell p v) := by
  cases v <;> first | (simp [Value.oneCell'] at ho; done) | (simp [go_sem, h, hf]; done) | (simp [go_sem]; rw [run_store _ _ _ _ _ rfl, h]; simp [hf])
theorem bx23 {v : Value} (ho : v.oneCell' = true) (w : World) : (Instr.box 23 v).run Tryd.prog w = .ok (.pointer (some ⟨w.heap.size, 0, none⟩)) (w.alloc (.cells #[v] 23)) := by
  cases v <;> first | (simp [Value.oneCell'] at ho; done) | simp [go_sem]
theorem bx9 {v : Value} (ho : v.oneCell' = true) (w : World) : (Instr.box 9 v).run Tryd.prog w = .ok (.pointer (some ⟨w.heap.size, 0, none⟩)) (w.alloc (.cells #[v] 9)) := by
  cases v <;> first | (simp [Value.oneCell'] at ho; done) | simp [go_sem]
theorem mf41 (c0 : Value) (c1 : Value)  (w : World) : (Instr.makeFunc (Fn.func 41) #[] #[c0, c1]).run Tryd.prog w = .ok (.func (.func 41) #[] #[c0, c1]) w := by first | rfl | simp [go_sem]
theorem bd65  (w : World) : (Instr.build 65 #[]).run Tryd.prog w = .ok (.agg #[.string ⟨#[]⟩, .string ⟨#[]⟩]) w := by
  have e : ∀ v : Value, v.oneCell' = true → v.cells = #[v] := fun v h => by cases v <;> first | rfl | (simp [Value.oneCell'] at h)
  simp only [Value.cells] at e
  simp [go_sem, Value.cells]
theorem bx65 (v0 v1 : Value) (w : World) : (Instr.box 65 (.agg #[v0, v1])).run Tryd.prog w = .ok (.pointer (some ⟨w.heap.size, 0, none⟩)) (w.alloc (.cells #[v0, v1] 65)) := by simp [go_sem]
theorem len46 {A : Option Addr} {n c : Nat} {t : TypeId} {cs : Array Bool} (w : World) : (builtin .len #[46] t cs #[.slice A n c] : Sem Next).run Tryd.prog w = .ok (.value (.int .i64 (n : Int))) w := by simp [go_sem]
theorem ix46 {g o n c k : Nat} (h : k < n) (w : World) : (Instr.indexAt 46 (.slice (some ⟨g, o, none⟩) n c) (.int .i64 (k : Int))).run Tryd.prog w = .ok (.pointer (some ⟨g, o + k, none⟩)) w := by
  have h' : (k : Int) < n := by omega
  simp [go_sem, h', h, add_none]
theorem ixz46 {g n c k : Nat} (h : k < n) (w : World) : (Instr.indexAt 46 (.slice (some ⟨g, 0, none⟩) n c) (.int .i64 (k : Int))).run Tryd.prog w = .ok (.pointer (some ⟨g, k, none⟩)) w := by
  rw [ix46 h]; simp
theorem bd42_0_1_2 {a0 a1 a2 : Value} (o0 : a0.oneCell' = true) (o1 : a1.oneCell' = true) (o2 : a2.oneCell' = true) (w : World) : (Instr.build 42 #[(0, a0), (1, a1), (2, a2)]).run Tryd.prog w = .ok (.agg #[a0, a1, a2]) w := by
  have e : ∀ v : Value, v.oneCell' = true → v.cells = #[v] := fun v h => by cases v <;> first | rfl | (simp [Value.oneCell'] at h)
  simp only [Value.cells] at e
  simp [go_sem, e _ o0, e _ o1, e _ o2]
theorem sl38 : SlT Tryd.prog 38 42 3 48 (.agg #[.string ⟨#[]⟩, .string ⟨#[]⟩, .string ⟨#[]⟩]) := by unfold SlT; exact ⟨by kernel_rfl, by kernel_rfl, by kernel_rfl, Nat.lt_of_lt_of_le (by decide) (Nat.le_refl _)⟩
theorem bs38_1 {a0_0 a0_1 a0_2 : Value} (w : World) : (Instr.buildSlice 38 1 #[(0, .agg #[a0_0, a0_1, a0_2])]).run Tryd.prog w = .ok (.slice (some ⟨w.heap.size, 0, none⟩) 1 1) (w.alloc (.cells #[a0_0, a0_1, a0_2] 42)) := by
  have e : ∀ v : Value, v.oneCell' = true → v.cells = #[v] := fun v h => by cases v <;> first | rfl | (simp [Value.oneCell'] at h)
  simp only [Value.cells] at e
  simp [go_sem]
theorem bs22_2 {a0 a1 : Value} (o0 : a0.oneCell' = true) (o1 : a1.oneCell' = true) (w : World) : (Instr.buildSlice 22 2 #[(0, a0), (1, a1)]).run Tryd.prog w = .ok (.slice (some ⟨w.heap.size, 0, none⟩) 2 2) (w.alloc (.cells #[a0, a1] 9)) := by
  have e : ∀ v : Value, v.oneCell' = true → v.cells = #[v] := fun v h => by cases v <;> first | rfl | (simp [Value.oneCell'] at h)
  simp only [Value.cells] at e
  simp [go_sem, e _ o0, e _ o1]
theorem mf38 (c0 : Value) (c1 : Value) (c2 : Value)  (w : World) : (Instr.makeFunc (Fn.func 38) #[] #[c0, c1, c2]).run Tryd.prog w = .ok (.func (.func 38) #[] #[c0, c1, c2]) w := by first | rfl | simp [go_sem]
theorem bx3 {v : Value} (ho : v.oneCell' = true) (w : World) : (Instr.box 3 v).run Tryd.prog w = .ok (.pointer (some ⟨w.heap.size, 0, none⟩)) (w.alloc (.cells #[v] 3)) := by
  cases v <;> first | (simp [Value.oneCell'] at ho; done) | simp [go_sem]
theorem mf40 (c0 : Value) (c1 : Value)  (w : World) : (Instr.makeFunc (Fn.func 40) #[] #[c0, c1]).run Tryd.prog w = .ok (.func (.func 40) #[] #[c0, c1]) w := by first | rfl | simp [go_sem]
theorem ld61 {w : World} {b o : Nat} {v0 v1 v2 v3 : Value} (h0 : w.cell? ⟨b, o, none⟩ = some v0) (h1 : w.cell? ⟨b, o + 1, none⟩ = some v1) (h2 : w.cell? ⟨b, o + 2, none⟩ = some v2) (h3 : w.cell? ⟨b, o + 3, none⟩ = some v3) : (Instr.loadAt 61 (.pointer (some ⟨b, o, none⟩))).run Tryd.prog w = .ok (.agg #[v0, v1, v2, v3]) w := by simp [go_sem, Addr.add, h0, h1, h2, h3]
theorem ls61 {w0 w : World} {F : List Nat} {L : List Res} {b tt : Nat} {K : Value → World → Prop} {v0 v1 v2 v3 : Value} (k : Nat) (hS : St w0 F w L) (hk : L[k]? = some (Res.cells b tt [v0, v1, v2, v3])) (h : K (.agg #[v0, v1, v2, v3]) w) : valP Tryd.prog (Instr.loadAt 61 (.pointer (some ⟨b, 0, none⟩))) w K :=
  valP_ok (ld61 (hS.cell k hk rfl) (hS.cell k hk rfl) (hS.cell k hk rfl) (hS.cell k hk rfl)) h
theorem al61 (w : World) : (Instr.alloc 61 true (.tuple #[])).run Tryd.prog w = .ok (.pointer (some ⟨w.heap.size, 0, none⟩)) (w.alloc (.cells #[.map none, .int .i64 0, .int .i64 0, .bool false] 61)) := by simp [go_sem]
theorem st61 {w : World} {b o : Nat} {v0 v1 v2 v3 : Value} {u0 u1 u2 u3 : Value} (h0 : w.cell? ⟨b, o, none⟩ = some u0) (h1 : w.cell? ⟨b, o + 1, none⟩ = some u1) (h2 : w.cell? ⟨b, o + 2, none⟩ = some u2) (h3 : w.cell? ⟨b, o + 3, none⟩ = some u3) (f0 : w.frozen? ⟨b, o, none⟩ = false) (o0 : v0.oneCell' = true) (f1 : w.frozen? ⟨b, o + 1, none⟩ = false) (o1 : v1.oneCell' = true) (f2 : w.frozen? ⟨b, o + 2, none⟩ = false) (o2 : v2.oneCell' = true) (f3 : w.frozen? ⟨b, o + 3, none⟩ = false) (o3 : v3.oneCell' = true) : (Instr.storeAt 61 (.pointer (some ⟨b, o, none⟩)) (.agg #[v0, v1, v2, v3])).run Tryd.prog w = .ok () ((((w.setCell ⟨b, o, none⟩ v0).setCell ⟨b, o + 1, none⟩ v1).setCell ⟨b, o + 2, none⟩ v2).setCell ⟨b, o + 3, none⟩ v3) := by
  simp [go_sem, Addr.add, h0, h1, h2, h3, f0, f1, f2, f3, o0, o1, o2, o3, run_store, World.cell?_setCell_other, World.frozen?_setCell]
theorem ss61 {w0 w : World} {F : List Nat} {L : List Res} {b tt : Nat} {K : Value → World → Prop} {v0 v1 v2 v3 u0 u1 u2 u3 : Value} (k : Nat) (hS : St w0 F w L) (hk : L[k]? = some (Res.cells b tt [u0, u1, u2, u3])) (o0 : v0.oneCell' = true) (o1 : v1.oneCell' = true) (o2 : v2.oneCell' = true) (o3 : v3.oneCell' = true) (h : ∀ w', St w0 F w' (L.set k (Res.cells b tt [v0, v1, v2, v3])) → K undef w') : unitP Tryd.prog (Instr.storeAt 61 (.pointer (some ⟨b, 0, none⟩)) (.agg #[v0, v1, v2, v3])) w K := by
  obtain ⟨hkl, _⟩ := List.getElem?_eq_some_iff.1 hk
  have hf := fun i => hS.frozen (i := i) k hk
  have s1 := hS.set (b := b) (t := tt) (cs := [u0, u1, u2, u3]) (i := 0) k v0 hk
  have s2 := s1.set (b := b) (t := tt) (cs := [v0, u1, u2, u3]) (i := 1) k v1 (by simp [hkl])
  have s3 := s2.set (b := b) (t := tt) (cs := [v0, v1, u2, u3]) (i := 2) k v2 (by simp [hkl])
  have s4 := s3.set (b := b) (t := tt) (cs := [v0, v1, v2, u3]) (i := 3) k v3 (by simp [hkl])
  simp only [List.set_set, List.set_cons_zero, List.set_cons_succ] at s4
  exact unitP_ok (st61 (hS.cell k hk rfl) (hS.cell k hk rfl) (hS.cell k hk rfl) (hS.cell k hk rfl) (hf _) o0 (hf _) o1 (hf _) o2 (hf _) o3) (h _ s4)
theorem sr61 {w0 w : World} {F : List Nat} {L : List Res} {e m g c j : Nat} {xs : List Value} {K : Value → World → Prop} {v0 v1 v2 v3 : Value} (k : Nat) (hS : St w0 F w L) (hk : L[k]? = some (Res.row e 4 (.slice (some ⟨g, 0, none⟩) m c) m xs)) (hj : j + 4 ≤ xs.length) (o0 : v0.oneCell' = true) (o1 : v1.oneCell' = true) (o2 : v2.oneCell' = true) (o3 : v3.oneCell' = true) (h : ∀ w', St w0 F w' (L.set k (Res.row e 4 (.slice (some ⟨g, 0, none⟩) m c) m (setAll xs j [v0, v1, v2, v3]))) → K undef w') : unitP Tryd.prog (Instr.storeAt 61 (.pointer (some ⟨g, j, none⟩)) (.agg #[v0, v1, v2, v3])) w K := by
  have hS' := hS.row_sets k [v0, v1, v2, v3] j hk hj
  exact unitP_ok (st61 (hS.row_cell k hk (u := xs[j]'(by omega)) (by simp)) (hS.row_cell k hk (u := xs[j + 1]'(by omega)) (by simp)) (hS.row_cell k hk (u := xs[j + 2]'(by omega)) (by simp)) (hS.row_cell k hk (u := xs[j + 3]'(by omega)) (by simp)) (hS.row_frozen k hk) o0 (hS.row_frozen k hk) o1 (hS.row_frozen k hk) o2 (hS.row_frozen k hk) o3) (h _ hS')
theorem st59 {w : World} {p : Addr} {u v : Value} (h : w.cell? p = some u) (hf : w.frozen? p = false) (ho : v.oneCell' = true) : (Instr.storeAt 59 (.pointer (some p)) v).run Tryd.prog w = .ok () (w.setCell p v) := by
  cases v <;> first | (simp [Value.oneCell'] at ho; done) | (simp [go_sem, h, hf]; done) | (simp [go_sem]; rw [run_store _ _ _ _ _ rfl, h]; simp [hf])
theorem bd65_0_1 {a0 a1 : Value} (o0 : a0.oneCell' = true) (o1 : a1.oneCell' = true) (w : World) : (Instr.build 65 #[(0, a0), (1, a1)]).run Tryd.prog w = .ok (.agg #[a0, a1]) w := by
  have e : ∀ v : Value, v.oneCell' = true → v.cells = #[v] := fun v h => by cases v <;> first | rfl | (simp [Value.oneCell'] at h)
  simp only [Value.cells] at e
  simp [go_sem, e _ o0, e _ o1]
theorem sl70 : SlT Tryd.prog 70 5 1 1 (.int .u8 0) := by unfold SlT; exact ⟨by kernel_rfl, by kernel_rfl, by kernel_rfl, Nat.lt_of_lt_of_le (by decide) (Nat.le_refl _)⟩
theorem eq24 (x y : Operand) (a b : Int) (w : World) : (binS .eql 24 x y (.int .i64 a) (.int .i64 b)).run Tryd.prog w = .ok (.bool (decide (a = b))) w := by
  by_cases h : a = b <;> simp [binS, go_sem, h]
theorem len35 {A : Option Addr} {n c : Nat} {t : TypeId} {cs : Array Bool} (w : World) : (builtin .len #[35] t cs #[.slice A n c] : Sem Next).run Tryd.prog w = .ok (.value (.int .i64 (n : Int))) w := by simp [go_sem]
theorem ix35 {g o n c k : Nat} (h : k < n) (w : World) : (Instr.indexAt 35 (.slice (some ⟨g, o, none⟩) n c) (.int .i64 (k : Int))).run Tryd.prog w = .ok (.pointer (some ⟨g, o + k * 6, none⟩)) w := by
  have h' : (k : Int) < n := by omega
  simp [go_sem, h', h, add_none]
theorem ixz35 {g n c k : Nat} (h : k < n) (w : World) : (Instr.indexAt 35 (.slice (some ⟨g, 0, none⟩) n c) (.int .i64 (k : Int))).run Tryd.prog w = .ok (.pointer (some ⟨g, k * 6, none⟩)) w := by
  rw [ix35 h]; simp
theorem ld54 {w : World} {b o : Nat} {v0 v1 v2 v3 v4 v5 : Value} (h0 : w.cell? ⟨b, o, none⟩ = some v0) (h1 : w.cell? ⟨b, o + 1, none⟩ = some v1) (h2 : w.cell? ⟨b, o + 2, none⟩ = some v2) (h3 : w.cell? ⟨b, o + 3, none⟩ = some v3) (h4 : w.cell? ⟨b, o + 4, none⟩ = some v4) (h5 : w.cell? ⟨b, o + 5, none⟩ = some v5) : (Instr.loadAt 54 (.pointer (some ⟨b, o, none⟩))).run Tryd.prog w = .ok (.agg #[v0, v1, v2, v3, v4, v5]) w := by simp [go_sem, Addr.add, h0, h1, h2, h3, h4, h5]
theorem ls54 {w0 w : World} {F : List Nat} {L : List Res} {b tt : Nat} {K : Value → World → Prop} {v0 v1 v2 v3 v4 v5 : Value} (k : Nat) (hS : St w0 F w L) (hk : L[k]? = some (Res.cells b tt [v0, v1, v2, v3, v4, v5])) (h : K (.agg #[v0, v1, v2, v3, v4, v5]) w) : valP Tryd.prog (Instr.loadAt 54 (.pointer (some ⟨b, 0, none⟩))) w K :=
  valP_ok (ld54 (hS.cell k hk rfl) (hS.cell k hk rfl) (hS.cell k hk rfl) (hS.cell k hk rfl) (hS.cell k hk rfl) (hS.cell k hk rfl)) h
theorem len38 {A : Option Addr} {n c : Nat} {t : TypeId} {cs : Array Bool} (w : World) : (builtin .len #[38] t cs #[.slice A n c] : Sem Next).run Tryd.prog w = .ok (.value (.int .i64 (n : Int))) w := by simp [go_sem]
theorem ne3 (x y : Operand) (a b : Int) (w : World) : (binS .neq 3 x y (.int .i64 a) (.int .i64 b)).run Tryd.prog w = .ok (.bool (decide (¬ a = b))) w := by
  by_cases h : a = b <;> simp [binS, go_sem, h]
theorem ix38 {g o n c k : Nat} (h : k < n) (w : World) : (Instr.indexAt 38 (.slice (some ⟨g, o, none⟩) n c) (.int .i64 (k : Int))).run Tryd.prog w = .ok (.pointer (some ⟨g, o + k * 3, none⟩)) w := by
  have h' : (k : Int) < n := by omega
  simp [go_sem, h', h, add_none]
theorem ixz38 {g n c k : Nat} (h : k < n) (w : World) : (Instr.indexAt 38 (.slice (some ⟨g, 0, none⟩) n c) (.int .i64 (k : Int))).run Tryd.prog w = .ok (.pointer (some ⟨g, k * 3, none⟩)) w := by
  rw [ix38 h]; simp
theorem ld42 {w : World} {b o : Nat} {v0 v1 v2 : Value} (h0 : w.cell? ⟨b, o, none⟩ = some v0) (h1 : w.cell? ⟨b, o + 1, none⟩ = some v1) (h2 : w.cell? ⟨b, o + 2, none⟩ = some v2) : (Instr.loadAt 42 (.pointer (some ⟨b, o, none⟩))).run Tryd.prog w = .ok (.agg #[v0, v1, v2]) w := by simp [go_sem, Addr.add, h0, h1, h2]
theorem ls42 {w0 w : World} {F : List Nat} {L : List Res} {b tt : Nat} {K : Value → World → Prop} {v0 v1 v2 : Value} (k : Nat) (hS : St w0 F w L) (hk : L[k]? = some (Res.cells b tt [v0, v1, v2])) (h : K (.agg #[v0, v1, v2]) w) : valP Tryd.prog (Instr.loadAt 42 (.pointer (some ⟨b, 0, none⟩))) w K :=
  valP_ok (ld42 (hS.cell k hk rfl) (hS.cell k hk rfl) (hS.cell k hk rfl)) h
theorem ne42 (x y : Operand) (a0 : ByteArray) (a1 : ByteArray) (a2 : ByteArray) (b0 : ByteArray) (b1 : ByteArray) (b2 : ByteArray) (w : World) : (binS .neq 42 x y (.agg #[.string a0, .string a1, .string a2]) (.agg #[.string b0, .string b1, .string b2])).run Tryd.prog w = .ok (.bool (decide (¬ (a0 = b0 ∧ a1 = b1 ∧ a2 = b2)))) w := by
  rw [binS_run _ _ _ _ _ _ (by kernel_rfl), run_neq_struct, run_equalIn_struct w 9999 42 _ _ (by simp [Program.fieldsOf, Tryd.underlying42]) (by kernel_rfl)]
  by_cases h0 : a0 = b0 <;> by_cases h1 : a1 = b1 <;> by_cases h2 : a2 = b2 <;> simp [go_sem, Program.fieldsOf, Tryd.underlying42, Op.eqFields, bytes_iff, *]
theorem eq5 (x y : Operand) (a b : Int) (w : World) : (binS .eql 5 x y (.int .u8 a) (.int .u8 b)).run Tryd.prog w = .ok (.bool (decide (a = b))) w := by
  by_cases h : a = b <;> simp [binS, go_sem, h]
theorem sh35 {A : Option Addr} {n c k : Nat} (h : k ≤ c) (w : World) : (Instr.sliceAt 35 (.slice A n c) none (some (.int .i64 (k : Int))) none).run Tryd.prog w = .ok (.slice A k c) w := by
  have h' : ¬ c < k := by omega
  simp [go_sem, h', Addr.add]
theorem al54 (w : World) : (Instr.alloc 54 true (.tuple #[])).run Tryd.prog w = .ok (.pointer (some ⟨w.heap.size, 0, none⟩)) (w.alloc (.cells #[.int .i64 0, .int .i64 0, .string ⟨#[]⟩, .string ⟨#[]⟩, .string ⟨#[]⟩, .slice none 0 0] 54)) := by simp [go_sem]
theorem st54 {w : World} {b o : Nat} {v0 v1 v2 v3 v4 v5 : Value} {u0 u1 u2 u3 u4 u5 : Value} (h0 : w.cell? ⟨b, o, none⟩ = some u0) (h1 : w.cell? ⟨b, o + 1, none⟩ = some u1) (h2 : w.cell? ⟨b, o + 2, none⟩ = some u2) (h3 : w.cell? ⟨b, o + 3, none⟩ = some u3) (h4 : w.cell? ⟨b, o + 4, none⟩ = some u4) (h5 : w.cell? ⟨b, o + 5, none⟩ = some u5) (f0 : w.frozen? ⟨b, o, none⟩ = false) (o0 : v0.oneCell' = true) (f1 : w.frozen? ⟨b, o + 1, none⟩ = false) (o1 : v1.oneCell' = true) (f2 : w.frozen? ⟨b, o + 2, none⟩ = false) (o2 : v2.oneCell' = true) (f3 : w.frozen? ⟨b, o + 3, none⟩ = false) (o3 : v3.oneCell' = true) (f4 : w.frozen? ⟨b, o + 4, none⟩ = false) (o4 : v4.oneCell' = true) (f5 : w.frozen? ⟨b, o + 5, none⟩ = false) (o5 : v5.oneCell' = true) : (Instr.storeAt 54 (.pointer (some ⟨b, o, none⟩)) (.agg #[v0, v1, v2, v3, v4, v5])).run Tryd.prog w = .ok () ((((((w.setCell ⟨b, o, none⟩ v0).setCell ⟨b, o + 1, none⟩ v1).setCell ⟨b, o + 2, none⟩ v2).setCell ⟨b, o + 3, none⟩ v3).setCell ⟨b, o + 4, none⟩ v4).setCell ⟨b, o + 5, none⟩ v5) := by
  simp [go_sem, Addr.add, h0, h1, h2, h3, h4, h5, f0, f1, f2, f3, f4, f5, o0, o1, o2, o3, o4, o5, run_store, World.cell?_setCell_other, World.frozen?_setCell]
theorem ss54 {w0 w : World} {F : List Nat} {L : List Res} {b tt : Nat} {K : Value → World → Prop} {v0 v1 v2 v3 v4 v5 u0 u1 u2 u3 u4 u5 : Value} (k : Nat) (hS : St w0 F w L) (hk : L[k]? = some (Res.cells b tt [u0, u1, u2, u3, u4, u5])) (o0 : v0.oneCell' = true) (o1 : v1.oneCell' = true) (o2 : v2.oneCell' = true) (o3 : v3.oneCell' = true) (o4 : v4.oneCell' = true) (o5 : v5.oneCell' = true) (h : ∀ w', St w0 F w' (L.set k (Res.cells b tt [v0, v1, v2, v3, v4, v5])) → K undef w') : unitP Tryd.prog (Instr.storeAt 54 (.pointer (some ⟨b, 0, none⟩)) (.agg #[v0, v1, v2, v3, v4, v5])) w K := by
  obtain ⟨hkl, _⟩ := List.getElem?_eq_some_iff.1 hk
  have hf := fun i => hS.frozen (i := i) k hk
  have s1 := hS.set (b := b) (t := tt) (cs := [u0, u1, u2, u3, u4, u5]) (i := 0) k v0 hk
  have s2 := s1.set (b := b) (t := tt) (cs := [v0, u1, u2, u3, u4, u5]) (i := 1) k v1 (by simp [hkl])
  have s3 := s2.set (b := b) (t := tt) (cs := [v0, v1, u2, u3, u4, u5]) (i := 2) k v2 (by simp [hkl])
  have s4 := s3.set (b := b) (t := tt) (cs := [v0, v1, v2, u3, u4, u5]) (i := 3) k v3 (by simp [hkl])
  have s5 := s4.set (b := b) (t := tt) (cs := [v0, v1, v2, v3, u4, u5]) (i := 4) k v4 (by simp [hkl])
  have s6 := s5.set (b := b) (t := tt) (cs := [v0, v1, v2, v3, v4, u5]) (i := 5) k v5 (by simp [hkl])
  simp only [List.set_set, List.set_cons_zero, List.set_cons_succ] at s6
  exact unitP_ok (st54 (hS.cell k hk rfl) (hS.cell k hk rfl) (hS.cell k hk rfl) (hS.cell k hk rfl) (hS.cell k hk rfl) (hS.cell k hk rfl) (hf _) o0 (hf _) o1 (hf _) o2 (hf _) o3 (hf _) o4 (hf _) o5) (h _ s6)
theorem sr54 {w0 w : World} {F : List Nat} {L : List Res} {e m g c j : Nat} {xs : List Value} {K : Value → World → Prop} {v0 v1 v2 v3 v4 v5 : Value} (k : Nat) (hS : St w0 F w L) (hk : L[k]? = some (Res.row e 6 (.slice (some ⟨g, 0, none⟩) m c) m xs)) (hj : j + 6 ≤ xs.length) (o0 : v0.oneCell' = true) (o1 : v1.oneCell' = true) (o2 : v2.oneCell' = true) (o3 : v3.oneCell' = true) (o4 : v4.oneCell' = true) (o5 : v5.oneCell' = true) (h : ∀ w', St w0 F w' (L.set k (Res.row e 6 (.slice (some ⟨g, 0, none⟩) m c) m (setAll xs j [v0, v1, v2, v3, v4, v5]))) → K undef w') : unitP Tryd.prog (Instr.storeAt 54 (.pointer (some ⟨g, j, none⟩)) (.agg #[v0, v1, v2, v3, v4, v5])) w K := by
  have hS' := hS.row_sets k [v0, v1, v2, v3, v4, v5] j hk hj
  exact unitP_ok (st54 (hS.row_cell k hk (u := xs[j]'(by omega)) (by simp)) (hS.row_cell k hk (u := xs[j + 1]'(by omega)) (by simp)) (hS.row_cell k hk (u := xs[j + 2]'(by omega)) (by simp)) (hS.row_cell k hk (u := xs[j + 3]'(by omega)) (by simp)) (hS.row_cell k hk (u := xs[j + 4]'(by omega)) (by simp)) (hS.row_cell k hk (u := xs[j + 5]'(by omega)) (by simp)) (hS.row_frozen k hk) o0 (hS.row_frozen k hk) o1 (hS.row_frozen k hk) o2 (hS.row_frozen k hk) o3 (hS.row_frozen k hk) o4 (hS.row_frozen k hk) o5) (h _ hS')
theorem fa54_4 (b : Nat) (w : World) : (Instr.fieldAt 54 (.pointer (some ⟨b, 0, none⟩)) 4).run Tryd.prog w = .ok (.pointer (some ⟨b, 4, none⟩)) w := by kernel_rfl
theorem fao54_4 (b o : Nat) (w : World) : (Instr.fieldAt 54 (.pointer (some ⟨b, o, none⟩)) 4).run Tryd.prog w = .ok (.pointer (some ⟨b, o + 4, none⟩)) w := by kernel_rfl
theorem fa54_5 (b : Nat) (w : World) : (Instr.fieldAt 54 (.pointer (some ⟨b, 0, none⟩)) 5).run Tryd.prog w = .ok (.pointer (some ⟨b, 5, none⟩)) w := by kernel_rfl
theorem fao54_5 (b o : Nat) (w : World) : (Instr.fieldAt 54 (.pointer (some ⟨b, o, none⟩)) 5).run Tryd.prog w = .ok (.pointer (some ⟨b, o + 5, none⟩)) w := by kernel_rfl
theorem ld46 {w : World} {p : Addr} {v : Value} (h : w.cell? p = some v) : (Instr.loadAt 46 (.pointer (some p))).run Tryd.prog w = .ok v w := by simp [go_sem, h]
theorem sh46 {A : Option Addr} {n c k : Nat} (h : k ≤ c) (w : World) : (Instr.sliceAt 46 (.slice A n c) none (some (.int .i64 (k : Int))) none).run Tryd.prog w = .ok (.slice A k c) w := by
  have h' : ¬ c < k := by omega
  simp [go_sem, h', Addr.add]
theorem st46 {w : World} {p : Addr} {u v : Value} (h : w.cell? p = some u) (hf : w.frozen? p = false) (ho : v.oneCell' = true) : (Instr.storeAt 46 (.pointer (some p)) v).run Tryd.prog w = .ok () (w.setCell p v) := by
  cases v <;> first | (simp [Value.oneCell'] at ho; done) | (simp [go_sem, h, hf]; done) | (simp [go_sem]; rw [run_store _ _ _ _ _ rfl, h]; simp [hf])
theorem sl35 : SlT Tryd.prog 35 54 6 88 (.agg #[.int .i64 0, .int .i64 0, .string ⟨#[]⟩, .string ⟨#[]⟩, .string ⟨#[]⟩, .slice none 0 0]) := by unfold SlT; exact ⟨by kernel_rfl, by kernel_rfl, by kernel_rfl, Nat.lt_of_lt_of_le (by decide) (Nat.le_refl _)⟩
theorem bs35_1 {a0_0 a0_1 a0_2 a0_3 a0_4 a0_5 : Value} (w : World) : (Instr.buildSlice 35 1 #[(0, .agg #[a0_0, a0_1, a0_2, a0_3, a0_4, a0_5])]).run Tryd.prog w = .ok (.slice (some ⟨w.heap.size, 0, none⟩) 1 1) (w.alloc (.cells #[a0_0, a0_1, a0_2, a0_3, a0_4, a0_5] 54)) := by
  have e : ∀ v : Value, v.oneCell' = true → v.cells = #[v] := fun v h => by cases v <;> first | rfl | (simp [Value.oneCell'] at h)
  simp only [Value.cells] at e
  simp [go_sem]
theorem bx54 (v0 v1 v2 v3 v4 v5 : Value) (w : World) : (Instr.box 54 (.agg #[v0, v1, v2, v3, v4, v5])).run Tryd.prog w = .ok (.pointer (some ⟨w.heap.size, 0, none⟩)) (w.alloc (.cells #[v0, v1, v2, v3, v4, v5] 54)) := by simp [go_sem]
theorem fa54_0 (b : Nat) (w : World) : (Instr.fieldAt 54 (.pointer (some ⟨b, 0, none⟩)) 0).run Tryd.prog w = .ok (.pointer (some ⟨b, 0, none⟩)) w := by kernel_rfl
theorem fao54_0 (b o : Nat) (w : World) : (Instr.fieldAt 54 (.pointer (some ⟨b, o, none⟩)) 0).run Tryd.prog w = .ok (.pointer (some ⟨b, o, none⟩)) w := by kernel_rfl
theorem fa54_2 (b : Nat) (w : World) : (Instr.fieldAt 54 (.pointer (some ⟨b, 0, none⟩)) 2).run Tryd.prog w = .ok (.pointer (some ⟨b, 2, none⟩)) w := by kernel_rfl
theorem fao54_2 (b o : Nat) (w : World) : (Instr.fieldAt 54 (.pointer (some ⟨b, o, none⟩)) 2).run Tryd.prog w = .ok (.pointer (some ⟨b, o + 2, none⟩)) w := by kernel_rfl
theorem fa54_1 (b : Nat) (w : World) : (Instr.fieldAt 54 (.pointer (some ⟨b, 0, none⟩)) 1).run Tryd.prog w = .ok (.pointer (some ⟨b, 1, none⟩)) w := by kernel_rfl
theorem fao54_1 (b o : Nat) (w : World) : (Instr.fieldAt 54 (.pointer (some ⟨b, o, none⟩)) 1).run Tryd.prog w = .ok (.pointer (some ⟨b, o + 1, none⟩)) w := by kernel_rfl
theorem fa54_3 (b : Nat) (w : World) : (Instr.fieldAt 54 (.pointer (some ⟨b, 0, none⟩)) 3).run Tryd.prog w = .ok (.pointer (some ⟨b, 3, none⟩)) w := by kernel_rfl
theorem fao54_3 (b o : Nat) (w : World) : (Instr.fieldAt 54 (.pointer (some ⟨b, o, none⟩)) 3).run Tryd.prog w = .ok (.pointer (some ⟨b, o + 3, none⟩)) w := by kernel_rfl
theorem ne4 (x y : Operand) (a b : Bool) (w : World) : (binS .neq 4 x y (.bool a) (.bool b)).run Tryd.prog w = .ok (.bool (decide (¬ a = b))) w := by
  cases a <;> cases b <;> simp [binS, go_sem]
theorem sl46 : SlT Tryd.prog 46 3 1 8 (.int .i64 0) := by unfold SlT; exact ⟨by kernel_rfl, by kernel_rfl, by kernel_rfl, Nat.lt_of_lt_of_le (by decide) (Nat.le_refl _)⟩
theorem bs46_1 {a0 : Value} (o0 : a0.oneCell' = true) (w : World) : (Instr.buildSlice 46 1 #[(0, a0)]).run Tryd.prog w = .ok (.slice (some ⟨w.heap.size, 0, none⟩) 1 1) (w.alloc (.cells #[a0] 3)) := by
  have e : ∀ v : Value, v.oneCell' = true → v.cells = #[v] := fun v h => by cases v <;> first | rfl | (simp [Value.oneCell'] at h)
  simp only [Value.cells] at e
  simp [go_sem, e _ o0]
theorem fa42_1 (b : Nat) (w : World) : (Instr.fieldAt 42 (.pointer (some ⟨b, 0, none⟩)) 1).run Tryd.prog w = .ok (.pointer (some ⟨b, 1, none⟩)) w := by kernel_rfl
theorem fao42_1 (b o : Nat) (w : World) : (Instr.fieldAt 42 (.pointer (some ⟨b, o, none⟩)) 1).run Tryd.prog w = .ok (.pointer (some ⟨b, o + 1, none⟩)) w := by kernel_rfl
theorem fa42_2 (b : Nat) (w : World) : (Instr.fieldAt 42 (.pointer (some ⟨b, 0, none⟩)) 2).run Tryd.prog w = .ok (.pointer (some ⟨b, 2, none⟩)) w := by kernel_rfl
theorem fao42_2 (b o : Nat) (w : World) : (Instr.fieldAt 42 (.pointer (some ⟨b, o, none⟩)) 2).run Tryd.prog w = .ok (.pointer (some ⟨b, o + 2, none⟩)) w := by kernel_rfl
theorem al42 (w : World) : (Instr.alloc 42 true (.tuple #[])).run Tryd.prog w = .ok (.pointer (some ⟨w.heap.size, 0, none⟩)) (w.alloc (.cells #[.string ⟨#[]⟩, .string ⟨#[]⟩, .string ⟨#[]⟩] 42)) := by simp [go_sem]
theorem st42 {w : World} {b o : Nat} {v0 v1 v2 : Value} {u0 u1 u2 : Value} (h0 : w.cell? ⟨b, o, none⟩ = some u0) (h1 : w.cell? ⟨b, o + 1, none⟩ = some u1) (h2 : w.cell? ⟨b, o + 2, none⟩ = some u2) (f0 : w.frozen? ⟨b, o, none⟩ = false) (o0 : v0.oneCell' = true) (f1 : w.frozen? ⟨b, o + 1, none⟩ = false) (o1 : v1.oneCell' = true) (f2 : w.frozen? ⟨b, o + 2, none⟩ = false) (o2 : v2.oneCell' = true) : (Instr.storeAt 42 (.pointer (some ⟨b, o, none⟩)) (.agg #[v0, v1, v2])).run Tryd.prog w = .ok () (((w.setCell ⟨b, o, none⟩ v0).setCell ⟨b, o + 1, none⟩ v1).setCell ⟨b, o + 2, none⟩ v2) := by
  simp [go_sem, Addr.add, h0, h1, h2, f0, f1, f2, o0, o1, o2, run_store, World.cell?_setCell_other, World.frozen?_setCell]
theorem ss42 {w0 w : World} {F : List Nat} {L : List Res} {b tt : Nat} {K : Value → World → Prop} {v0 v1 v2 u0 u1 u2 : Value} (k : Nat) (hS : St w0 F w L) (hk : L[k]? = some (Res.cells b tt [u0, u1, u2])) (o0 : v0.oneCell' = true) (o1 : v1.oneCell' = true) (o2 : v2.oneCell' = true) (h : ∀ w', St w0 F w' (L.set k (Res.cells b tt [v0, v1, v2])) → K undef w') : unitP Tryd.prog (Instr.storeAt 42 (.pointer (some ⟨b, 0, none⟩)) (.agg #[v0, v1, v2])) w K := by
  obtain ⟨hkl, _⟩ := List.getElem?_eq_some_iff.1 hk
  have hf := fun i => hS.frozen (i := i) k hk
  have s1 := hS.set (b := b) (t := tt) (cs := [u0, u1, u2]) (i := 0) k v0 hk
  have s2 := s1.set (b := b) (t := tt) (cs := [v0, u1, u2]) (i := 1) k v1 (by simp [hkl])
  have s3 := s2.set (b := b) (t := tt) (cs := [v0, v1, u2]) (i := 2) k v2 (by simp [hkl])
  simp only [List.set_set, List.set_cons_zero, List.set_cons_succ] at s3
  exact unitP_ok (st42 (hS.cell k hk rfl) (hS.cell k hk rfl) (hS.cell k hk rfl) (hf _) o0 (hf _) o1 (hf _) o2) (h _ s3)
theorem sr42 {w0 w : World} {F : List Nat} {L : List Res} {e m g c j : Nat} {xs : List Value} {K : Value → World → Prop} {v0 v1 v2 : Value} (k : Nat) (hS : St w0 F w L) (hk : L[k]? = some (Res.row e 3 (.slice (some ⟨g, 0, none⟩) m c) m xs)) (hj : j + 3 ≤ xs.length) (o0 : v0.oneCell' = true) (o1 : v1.oneCell' = true) (o2 : v2.oneCell' = true) (h : ∀ w', St w0 F w' (L.set k (Res.row e 3 (.slice (some ⟨g, 0, none⟩) m c) m (setAll xs j [v0, v1, v2]))) → K undef w') : unitP Tryd.prog (Instr.storeAt 42 (.pointer (some ⟨g, j, none⟩)) (.agg #[v0, v1, v2])) w K := by
  have hS' := hS.row_sets k [v0, v1, v2] j hk hj
  exact unitP_ok (st42 (hS.row_cell k hk (u := xs[j]'(by omega)) (by simp)) (hS.row_cell k hk (u := xs[j + 1]'(by omega)) (by simp)) (hS.row_cell k hk (u := xs[j + 2]'(by omega)) (by simp)) (hS.row_frozen k hk) o0 (hS.row_frozen k hk) o1 (hS.row_frozen k hk) o2) (h _ hS')
theorem fa42_0 (b : Nat) (w : World) : (Instr.fieldAt 42 (.pointer (some ⟨b, 0, none⟩)) 0).run Tryd.prog w = .ok (.pointer (some ⟨b, 0, none⟩)) w := by kernel_rfl
theorem fao42_0 (b o : Nat) (w : World) : (Instr.fieldAt 42 (.pointer (some ⟨b, o, none⟩)) 0).run Tryd.prog w = .ok (.pointer (some ⟨b, o, none⟩)) w := by kernel_rfl
theorem eq42 (x y : Operand) (a0 : ByteArray) (a1 : ByteArray) (a2 : ByteArray) (b0 : ByteArray) (b1 : ByteArray) (b2 : ByteArray) (w : World) : (binS .eql 42 x y (.agg #[.string a0, .string a1, .string a2]) (.agg #[.string b0, .string b1, .string b2])).run Tryd.prog w = .ok (.bool (decide (a0 = b0 ∧ a1 = b1 ∧ a2 = b2))) w := by
  rw [binS_run _ _ _ _ _ _ (by kernel_rfl), run_eql_struct, run_equalIn_struct w 9999 42 _ _ (by simp [Program.fieldsOf, Tryd.underlying42]) (by kernel_rfl)]
  by_cases h0 : a0 = b0 <;> by_cases h1 : a1 = b1 <;> by_cases h2 : a2 = b2 <;> simp [go_sem, Program.fieldsOf, Tryd.underlying42, Op.eqFields, bytes_iff, *]
theorem eq4 (x y : Operand) (a b : Bool) (w : World) : (binS .eql 4 x y (.bool a) (.bool b)).run Tryd.prog w = .ok (.bool (decide (a = b))) w := by
  cases a <;> cases b <;> simp [binS, go_sem]
end Go.Proofs.YtcldjjmfpmkldaaDoor.M
