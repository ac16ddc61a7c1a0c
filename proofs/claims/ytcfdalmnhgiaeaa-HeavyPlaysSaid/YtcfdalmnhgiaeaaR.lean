/- The steps of the plain reading at this seat's types; printed by a program of this work. -/
import Derived.Test.YtcfdalmnhgiaeaaFw
import Derived.Test.YtcfdalmnhgiaeaaProg
namespace Go.Proofs.Ytcfdalmnhgiaeaa.M
open Go.Proofs.Ytcfdalmnhgiaeaa.F Go.RowKit
set_option linter.unusedVariables false
set_option linter.unusedSimpArgs false
theorem bd52_0 {a0 : Value} (o0 : a0.oneCell' = true) (w : World) : (Instr.build 52 #[(0, a0)]).run Try.prog w = .ok (.agg #[a0, .int .i64 0, .slice none 0 0]) w := by
  have e : ∀ v : Value, v.oneCell' = true → v.cells = #[v] := fun v h => by cases v <;> first | rfl | (simp [Value.oneCell'] at h)
  simp only [Value.cells] at e
  simp [go_sem, e _ o0]
theorem bx52 (v0 v1 v2 : Value) (w : World) : (Instr.box 52 (.agg #[v0, v1, v2])).run Try.prog w = .ok (.pointer (some ⟨w.heap.size, 0, none⟩)) (w.alloc (.cells #[v0, v1, v2] 52)) := by simp [go_sem]
theorem eq24n (x y : Operand) (w : World) : (binS .eql 24 x y (.pointer none) (.pointer none)).run Try.prog w = .ok (.bool true) w := by
  simp [binS, go_sem]
theorem eq24s (x y : Operand) (p : Addr) (w : World) : (binS .eql 24 x y (.pointer (some p)) (.pointer none)).run Try.prog w = .ok (.bool false) w := by
  simp [binS, go_sem]
theorem len22 {A : Option Addr} {n c : Nat} {t : TypeId} {cs : Array Bool} (w : World) : (builtin .len #[22] t cs #[.slice A n c] : Sem Next).run Try.prog w = .ok (.value (.int .i64 (n : Int))) w := by simp [go_sem]
theorem fa52_1 (b : Nat) (w : World) : (Instr.fieldAt 52 (.pointer (some ⟨b, 0, none⟩)) 1).run Try.prog w = .ok (.pointer (some ⟨b, 1, none⟩)) w := by kernel_rfl
theorem fao52_1 (b o : Nat) (w : World) : (Instr.fieldAt 52 (.pointer (some ⟨b, o, none⟩)) 1).run Try.prog w = .ok (.pointer (some ⟨b, o + 1, none⟩)) w := by kernel_rfl
theorem ld3 {w : World} {p : Addr} {v : Value} (h : w.cell? p = some v) : (Instr.loadAt 3 (.pointer (some p))).run Try.prog w = .ok v w := by simp [go_sem, h]
theorem ix22 {g o n c k : Nat} (h : k < n) (w : World) : (Instr.indexAt 22 (.slice (some ⟨g, o, none⟩) n c) (.int .i64 (k : Int))).run Try.prog w = .ok (.pointer (some ⟨g, o + k, none⟩)) w := by
  have h' : (k : Int) < n := by omega
  simp [go_sem, h', h, add_none]
theorem ixz22 {g n c k : Nat} (h : k < n) (w : World) : (Instr.indexAt 22 (.slice (some ⟨g, 0, none⟩) n c) (.int .i64 (k : Int))).run Try.prog w = .ok (.pointer (some ⟨g, k, none⟩)) w := by
  rw [ix22 h]; simp
theorem st3 {w : World} {p : Addr} {u v : Value} (h : w.cell? p = some u) (hf : w.frozen? p = false) (ho : v.oneCell' = true) : (Instr.storeAt 3 (.pointer (some p)) v).run Try.prog w = .ok () (w.setCell p v) := by
  cases v <;> first | (simp [Value.oneCell'] at ho; done) | (simp [go_sem, h, hf]; done) | (simp [go_sem]; rw [run_store _ _ _ _ _ rfl, h]; simp [hf])
theorem fa52_2 (b : Nat) (w : World) : (Instr.fieldAt 52 (.pointer (some ⟨b, 0, none⟩)) 2).run Try.prog w = .ok (.pointer (some ⟨b, 2, none⟩)) w := by kernel_rfl
theorem fao52_2 (b o : Nat) (w : World) : (Instr.fieldAt 52 (.pointer (some ⟨b, o, none⟩)) 2).run Try.prog w = .ok (.pointer (some ⟨b, o + 2, none⟩)) w := by kernel_rfl
theorem ld28 {w : World} {p : Addr} {v : Value} (h : w.cell? p = some v) : (Instr.loadAt 28 (.pointer (some p))).run Try.prog w = .ok v w := by simp [go_sem, h]
theorem ix28 {g o n c k : Nat} (h : k < n) (w : World) : (Instr.indexAt 28 (.slice (some ⟨g, o, none⟩) n c) (.int .i64 (k : Int))).run Try.prog w = .ok (.pointer (some ⟨g, o + k * 3, none⟩)) w := by
  have h' : (k : Int) < n := by omega
  simp [go_sem, h', h, add_none]
theorem ixz28 {g n c k : Nat} (h : k < n) (w : World) : (Instr.indexAt 28 (.slice (some ⟨g, 0, none⟩) n c) (.int .i64 (k : Int))).run Try.prog w = .ok (.pointer (some ⟨g, k * 3, none⟩)) w := by
  rw [ix28 h]; simp
theorem fa45_1 (b : Nat) (w : World) : (Instr.fieldAt 45 (.pointer (some ⟨b, 0, none⟩)) 1).run Try.prog w = .ok (.pointer (some ⟨b, 1, none⟩)) w := by kernel_rfl
theorem fao45_1 (b o : Nat) (w : World) : (Instr.fieldAt 45 (.pointer (some ⟨b, o, none⟩)) 1).run Try.prog w = .ok (.pointer (some ⟨b, o + 1, none⟩)) w := by kernel_rfl
theorem len28 {A : Option Addr} {n c : Nat} {t : TypeId} {cs : Array Bool} (w : World) : (builtin .len #[28] t cs #[.slice A n c] : Sem Next).run Try.prog w = .ok (.value (.int .i64 (n : Int))) w := by simp [go_sem]
theorem fa52_0 (b : Nat) (w : World) : (Instr.fieldAt 52 (.pointer (some ⟨b, 0, none⟩)) 0).run Try.prog w = .ok (.pointer (some ⟨b, 0, none⟩)) w := by kernel_rfl
theorem fao52_0 (b o : Nat) (w : World) : (Instr.fieldAt 52 (.pointer (some ⟨b, o, none⟩)) 0).run Try.prog w = .ok (.pointer (some ⟨b, o, none⟩)) w := by kernel_rfl
theorem bd45_0_1 {a0 a1 : Value} (o0 : a0.oneCell' = true) (o1 : a1.oneCell' = true) (w : World) : (Instr.build 45 #[(0, a0), (1, a1)]).run Try.prog w = .ok (.agg #[a0, a1, .int .i64 0]) w := by
  have e : ∀ v : Value, v.oneCell' = true → v.cells = #[v] := fun v h => by cases v <;> first | rfl | (simp [Value.oneCell'] at h)
  simp only [Value.cells] at e
  simp [go_sem, e _ o0, e _ o1]
theorem sl28 : SlT Try.prog 28 45 3 24 (.agg #[.int .i64 0, .int .i64 0, .int .i64 0]) := by unfold SlT; exact ⟨by kernel_rfl, by kernel_rfl, by kernel_rfl, Nat.lt_of_lt_of_le (by decide) (Nat.le_refl _)⟩
theorem bs28_1 {a0_0 a0_1 a0_2 : Value} (w : World) : (Instr.buildSlice 28 1 #[(0, .agg #[a0_0, a0_1, a0_2])]).run Try.prog w = .ok (.slice (some ⟨w.heap.size, 0, none⟩) 1 1) (w.alloc (.cells #[a0_0, a0_1, a0_2] 45)) := by
  have e : ∀ v : Value, v.oneCell' = true → v.cells = #[v] := fun v h => by cases v <;> first | rfl | (simp [Value.oneCell'] at h)
  simp only [Value.cells] at e
  simp [go_sem]
theorem st28 {w : World} {p : Addr} {u v : Value} (h : w.cell? p = some u) (hf : w.frozen? p = false) (ho : v.oneCell' = true) : (Instr.storeAt 28 (.pointer (some p)) v).run Try.prog w = .ok () (w.setCell p v) := by
  cases v <;> first | (simp [Value.oneCell'] at ho; done) | (simp [go_sem, h, hf]; done) | (simp [go_sem]; rw [run_store _ _ _ _ _ rfl, h]; simp [hf])
theorem bd45_0_1_2 {a0 a1 a2 : Value} (o0 : a0.oneCell' = true) (o1 : a1.oneCell' = true) (o2 : a2.oneCell' = true) (w : World) : (Instr.build 45 #[(0, a0), (1, a1), (2, a2)]).run Try.prog w = .ok (.agg #[a0, a1, a2]) w := by
  have e : ∀ v : Value, v.oneCell' = true → v.cells = #[v] := fun v h => by cases v <;> first | rfl | (simp [Value.oneCell'] at h)
  simp only [Value.cells] at e
  simp [go_sem, e _ o0, e _ o1, e _ o2]
theorem st45 {w : World} {b o : Nat} {v0 v1 v2 : Value} {u0 u1 u2 : Value} (h0 : w.cell? ⟨b, o, none⟩ = some u0) (h1 : w.cell? ⟨b, o + 1, none⟩ = some u1) (h2 : w.cell? ⟨b, o + 2, none⟩ = some u2) (f0 : w.frozen? ⟨b, o, none⟩ = false) (o0 : v0.oneCell' = true) (f1 : w.frozen? ⟨b, o + 1, none⟩ = false) (o1 : v1.oneCell' = true) (f2 : w.frozen? ⟨b, o + 2, none⟩ = false) (o2 : v2.oneCell' = true) : (Instr.storeAt 45 (.pointer (some ⟨b, o, none⟩)) (.agg #[v0, v1, v2])).run Try.prog w = .ok () (((w.setCell ⟨b, o, none⟩ v0).setCell ⟨b, o + 1, none⟩ v1).setCell ⟨b, o + 2, none⟩ v2) := by
  simp [go_sem, Addr.add, h0, h1, h2, f0, f1, f2, o0, o1, o2, run_store, World.cell?_setCell_other, World.frozen?_setCell]
theorem ss45 {w0 w : World} {F : List Nat} {L : List Res} {b tt : Nat} {K : Value → World → Prop} {v0 v1 v2 u0 u1 u2 : Value} (k : Nat) (hS : St w0 F w L) (hk : L[k]? = some (Res.cells b tt [u0, u1, u2])) (o0 : v0.oneCell' = true) (o1 : v1.oneCell' = true) (o2 : v2.oneCell' = true) (h : ∀ w', St w0 F w' (L.set k (Res.cells b tt [v0, v1, v2])) → K undef w') : unitP Try.prog (Instr.storeAt 45 (.pointer (some ⟨b, 0, none⟩)) (.agg #[v0, v1, v2])) w K := by
  obtain ⟨hkl, _⟩ := List.getElem?_eq_some_iff.1 hk
  have hf := fun i => hS.frozen (i := i) k hk
  have s1 := hS.set (b := b) (t := tt) (cs := [u0, u1, u2]) (i := 0) k v0 hk
  have s2 := s1.set (b := b) (t := tt) (cs := [v0, u1, u2]) (i := 1) k v1 (by simp [hkl])
  have s3 := s2.set (b := b) (t := tt) (cs := [v0, v1, u2]) (i := 2) k v2 (by simp [hkl])
  simp only [List.set_set, List.set_cons_zero, List.set_cons_succ] at s3
  exact unitP_ok (st45 (hS.cell k hk rfl) (hS.cell k hk rfl) (hS.cell k hk rfl) (hf _) o0 (hf _) o1 (hf _) o2) (h _ s3)
theorem fa45_2 (b : Nat) (w : World) : (Instr.fieldAt 45 (.pointer (some ⟨b, 0, none⟩)) 2).run Try.prog w = .ok (.pointer (some ⟨b, 2, none⟩)) w := by kernel_rfl
theorem fao45_2 (b o : Nat) (w : World) : (Instr.fieldAt 45 (.pointer (some ⟨b, o, none⟩)) 2).run Try.prog w = .ok (.pointer (some ⟨b, o + 2, none⟩)) w := by kernel_rfl
theorem sh28 {A : Option Addr} {n c k : Nat} (h : k ≤ c) (w : World) : (Instr.sliceAt 28 (.slice A n c) none (some (.int .i64 (k : Int))) none).run Try.prog w = .ok (.slice A k c) w := by
  have h' : ¬ c < k := by omega
  simp [go_sem, h', Addr.add]
theorem ld52 {w : World} {b o : Nat} {v0 v1 v2 : Value} (h0 : w.cell? ⟨b, o, none⟩ = some v0) (h1 : w.cell? ⟨b, o + 1, none⟩ = some v1) (h2 : w.cell? ⟨b, o + 2, none⟩ = some v2) : (Instr.loadAt 52 (.pointer (some ⟨b, o, none⟩))).run Try.prog w = .ok (.agg #[v0, v1, v2]) w := by simp [go_sem, Addr.add, h0, h1, h2]
theorem ls52 {w0 w : World} {F : List Nat} {L : List Res} {b tt : Nat} {K : Value → World → Prop} {v0 v1 v2 : Value} (k : Nat) (hS : St w0 F w L) (hk : L[k]? = some (Res.cells b tt [v0, v1, v2])) (h : K (.agg #[v0, v1, v2]) w) : valP Try.prog (Instr.loadAt 52 (.pointer (some ⟨b, 0, none⟩))) w K :=
  valP_ok (ld52 (hS.cell k hk rfl) (hS.cell k hk rfl) (hS.cell k hk rfl)) h
theorem al52 (w : World) : (Instr.alloc 52 true (.tuple #[])).run Try.prog w = .ok (.pointer (some ⟨w.heap.size, 0, none⟩)) (w.alloc (.cells #[.int .i64 0, .int .i64 0, .slice none 0 0] 52)) := by simp [go_sem]
theorem st52 {w : World} {b o : Nat} {v0 v1 v2 : Value} {u0 u1 u2 : Value} (h0 : w.cell? ⟨b, o, none⟩ = some u0) (h1 : w.cell? ⟨b, o + 1, none⟩ = some u1) (h2 : w.cell? ⟨b, o + 2, none⟩ = some u2) (f0 : w.frozen? ⟨b, o, none⟩ = false) (o0 : v0.oneCell' = true) (f1 : w.frozen? ⟨b, o + 1, none⟩ = false) (o1 : v1.oneCell' = true) (f2 : w.frozen? ⟨b, o + 2, none⟩ = false) (o2 : v2.oneCell' = true) : (Instr.storeAt 52 (.pointer (some ⟨b, o, none⟩)) (.agg #[v0, v1, v2])).run Try.prog w = .ok () (((w.setCell ⟨b, o, none⟩ v0).setCell ⟨b, o + 1, none⟩ v1).setCell ⟨b, o + 2, none⟩ v2) := by
  simp [go_sem, Addr.add, h0, h1, h2, f0, f1, f2, o0, o1, o2, run_store, World.cell?_setCell_other, World.frozen?_setCell]
theorem ss52 {w0 w : World} {F : List Nat} {L : List Res} {b tt : Nat} {K : Value → World → Prop} {v0 v1 v2 u0 u1 u2 : Value} (k : Nat) (hS : St w0 F w L) (hk : L[k]? = some (Res.cells b tt [u0, u1, u2])) (o0 : v0.oneCell' = true) (o1 : v1.oneCell' = true) (o2 : v2.oneCell' = true) (h : ∀ w', St w0 F w' (L.set k (Res.cells b tt [v0, v1, v2])) → K undef w') : unitP Try.prog (Instr.storeAt 52 (.pointer (some ⟨b, 0, none⟩)) (.agg #[v0, v1, v2])) w K := by
  obtain ⟨hkl, _⟩ := List.getElem?_eq_some_iff.1 hk
  have hf := fun i => hS.frozen (i := i) k hk
  have s1 := hS.set (b := b) (t := tt) (cs := [u0, u1, u2]) (i := 0) k v0 hk
  have s2 := s1.set (b := b) (t := tt) (cs := [v0, u1, u2]) (i := 1) k v1 (by simp [hkl])
  have s3 := s2.set (b := b) (t := tt) (cs := [v0, v1, u2]) (i := 2) k v2 (by simp [hkl])
  simp only [List.set_set, List.set_cons_zero, List.set_cons_succ] at s3
  exact unitP_ok (st52 (hS.cell k hk rfl) (hS.cell k hk rfl) (hS.cell k hk rfl) (hf _) o0 (hf _) o1 (hf _) o2) (h _ s3)
theorem bx3 {v : Value} (ho : v.oneCell' = true) (w : World) : (Instr.box 3 v).run Try.prog w = .ok (.pointer (some ⟨w.heap.size, 0, none⟩)) (w.alloc (.cells #[v] 3)) := by
  cases v <;> first | (simp [Value.oneCell'] at ho; done) | simp [go_sem]
theorem mf34 (c0 : Value)  (w : World) : (Instr.makeFunc (Fn.func 34) #[] #[c0]).run Try.prog w = .ok (.func (.func 34) #[] #[c0]) w := by first | rfl | simp [go_sem]
theorem eq28 (x y : Operand) (A : Option Addr) (n c : Nat) (w : World) : (binS .eql 28 x y (.slice A n c) (.slice none 0 0)).run Try.prog w = .ok (.bool (A.isNone)) w := by
  rw [binS_run _ _ _ _ _ _ (by rfl)]
  simp only [binOp]
  simp [Op.equal, Op.maxDepth, Lib.run_equalIn_slice_nil w 9999 28 45 A n c 0 0 Try.underlying28]
theorem bs28_0  (w : World) : (Instr.buildSlice 28 0 #[]).run Try.prog w = .ok (.slice (some ⟨w.heap.size, 0, none⟩) 0 0) (w.alloc (.cells #[] 45)) := by
  have e : ∀ v : Value, v.oneCell' = true → v.cells = #[v] := fun v h => by cases v <;> first | rfl | (simp [Value.oneCell'] at h)
  simp only [Value.cells] at e
  simp [go_sem]
theorem bx45 (v0 v1 v2 : Value) (w : World) : (Instr.box 45 (.agg #[v0, v1, v2])).run Try.prog w = .ok (.pointer (some ⟨w.heap.size, 0, none⟩)) (w.alloc (.cells #[v0, v1, v2] 45)) := by simp [go_sem]
theorem fa45_0 (b : Nat) (w : World) : (Instr.fieldAt 45 (.pointer (some ⟨b, 0, none⟩)) 0).run Try.prog w = .ok (.pointer (some ⟨b, 0, none⟩)) w := by kernel_rfl
theorem fao45_0 (b o : Nat) (w : World) : (Instr.fieldAt 45 (.pointer (some ⟨b, o, none⟩)) 0).run Try.prog w = .ok (.pointer (some ⟨b, o, none⟩)) w := by kernel_rfl
theorem sl22 : SlT Try.prog 22 3 1 8 (.int .i64 0) := by unfold SlT; exact ⟨by kernel_rfl, by kernel_rfl, by kernel_rfl, Nat.lt_of_lt_of_le (by decide) (Nat.le_refl _)⟩
theorem bs22_2 {a0 a1 : Value} (o0 : a0.oneCell' = true) (o1 : a1.oneCell' = true) (w : World) : (Instr.buildSlice 22 2 #[(0, a0), (1, a1)]).run Try.prog w = .ok (.slice (some ⟨w.heap.size, 0, none⟩) 2 2) (w.alloc (.cells #[a0, a1] 3)) := by
  have e : ∀ v : Value, v.oneCell' = true → v.cells = #[v] := fun v h => by cases v <;> first | rfl | (simp [Value.oneCell'] at h)
  simp only [Value.cells] at e
  simp [go_sem, e _ o0, e _ o1]
theorem ne3 (x y : Operand) (a b : Int) (w : World) : (binS .neq 3 x y (.int .i64 a) (.int .i64 b)).run Try.prog w = .ok (.bool (decide (¬ a = b))) w := by
  by_cases h : a = b <;> simp [binS, go_sem, h]
theorem ld45 {w : World} {b o : Nat} {v0 v1 v2 : Value} (h0 : w.cell? ⟨b, o, none⟩ = some v0) (h1 : w.cell? ⟨b, o + 1, none⟩ = some v1) (h2 : w.cell? ⟨b, o + 2, none⟩ = some v2) : (Instr.loadAt 45 (.pointer (some ⟨b, o, none⟩))).run Try.prog w = .ok (.agg #[v0, v1, v2]) w := by simp [go_sem, Addr.add, h0, h1, h2]
theorem ls45 {w0 w : World} {F : List Nat} {L : List Res} {b tt : Nat} {K : Value → World → Prop} {v0 v1 v2 : Value} (k : Nat) (hS : St w0 F w L) (hk : L[k]? = some (Res.cells b tt [v0, v1, v2])) (h : K (.agg #[v0, v1, v2]) w) : valP Try.prog (Instr.loadAt 45 (.pointer (some ⟨b, 0, none⟩))) w K :=
  valP_ok (ld45 (hS.cell k hk rfl) (hS.cell k hk rfl) (hS.cell k hk rfl)) h
theorem eq3 (x y : Operand) (a b : Int) (w : World) : (binS .eql 3 x y (.int .i64 a) (.int .i64 b)).run Try.prog w = .ok (.bool (decide (a = b))) w := by
  by_cases h : a = b <;> simp [binS, go_sem, h]
theorem al30 (w : World) : (Instr.alloc 30 true (.tuple #[])).run Try.prog w = .ok (.pointer (some ⟨w.heap.size, 0, none⟩)) (w.alloc (.cells #[.int .i64 0, .int .i64 0, .slice none 0 0] 30)) := by simp [go_sem]
theorem bd30  (w : World) : (Instr.build 30 #[]).run Try.prog w = .ok (.agg #[.int .i64 0, .int .i64 0, .slice none 0 0]) w := by
  have e : ∀ v : Value, v.oneCell' = true → v.cells = #[v] := fun v h => by cases v <;> first | rfl | (simp [Value.oneCell'] at h)
  simp only [Value.cells] at e
  simp [go_sem, Value.cells]
theorem st30 {w : World} {b o : Nat} {v0 v1 v2 : Value} {u0 u1 u2 : Value} (h0 : w.cell? ⟨b, o, none⟩ = some u0) (h1 : w.cell? ⟨b, o + 1, none⟩ = some u1) (h2 : w.cell? ⟨b, o + 2, none⟩ = some u2) (f0 : w.frozen? ⟨b, o, none⟩ = false) (o0 : v0.oneCell' = true) (f1 : w.frozen? ⟨b, o + 1, none⟩ = false) (o1 : v1.oneCell' = true) (f2 : w.frozen? ⟨b, o + 2, none⟩ = false) (o2 : v2.oneCell' = true) : (Instr.storeAt 30 (.pointer (some ⟨b, o, none⟩)) (.agg #[v0, v1, v2])).run Try.prog w = .ok () (((w.setCell ⟨b, o, none⟩ v0).setCell ⟨b, o + 1, none⟩ v1).setCell ⟨b, o + 2, none⟩ v2) := by
  simp [go_sem, Addr.add, h0, h1, h2, f0, f1, f2, o0, o1, o2, run_store, World.cell?_setCell_other, World.frozen?_setCell]
theorem ss30 {w0 w : World} {F : List Nat} {L : List Res} {b tt : Nat} {K : Value → World → Prop} {v0 v1 v2 u0 u1 u2 : Value} (k : Nat) (hS : St w0 F w L) (hk : L[k]? = some (Res.cells b tt [u0, u1, u2])) (o0 : v0.oneCell' = true) (o1 : v1.oneCell' = true) (o2 : v2.oneCell' = true) (h : ∀ w', St w0 F w' (L.set k (Res.cells b tt [v0, v1, v2])) → K undef w') : unitP Try.prog (Instr.storeAt 30 (.pointer (some ⟨b, 0, none⟩)) (.agg #[v0, v1, v2])) w K := by
  obtain ⟨hkl, _⟩ := List.getElem?_eq_some_iff.1 hk
  have hf := fun i => hS.frozen (i := i) k hk
  have s1 := hS.set (b := b) (t := tt) (cs := [u0, u1, u2]) (i := 0) k v0 hk
  have s2 := s1.set (b := b) (t := tt) (cs := [v0, u1, u2]) (i := 1) k v1 (by simp [hkl])
  have s3 := s2.set (b := b) (t := tt) (cs := [v0, v1, u2]) (i := 2) k v2 (by simp [hkl])
  simp only [List.set_set, List.set_cons_zero, List.set_cons_succ] at s3
  exact unitP_ok (st30 (hS.cell k hk rfl) (hS.cell k hk rfl) (hS.cell k hk rfl) (hf _) o0 (hf _) o1 (hf _) o2) (h _ s3)
theorem bd30_0 {a0 : Value} (o0 : a0.oneCell' = true) (w : World) : (Instr.build 30 #[(0, a0)]).run Try.prog w = .ok (.agg #[a0, .int .i64 0, .slice none 0 0]) w := by
  have e : ∀ v : Value, v.oneCell' = true → v.cells = #[v] := fun v h => by cases v <;> first | rfl | (simp [Value.oneCell'] at h)
  simp only [Value.cells] at e
  simp [go_sem, e _ o0]
theorem ld30 {w : World} {b o : Nat} {v0 v1 v2 : Value} (h0 : w.cell? ⟨b, o, none⟩ = some v0) (h1 : w.cell? ⟨b, o + 1, none⟩ = some v1) (h2 : w.cell? ⟨b, o + 2, none⟩ = some v2) : (Instr.loadAt 30 (.pointer (some ⟨b, o, none⟩))).run Try.prog w = .ok (.agg #[v0, v1, v2]) w := by simp [go_sem, Addr.add, h0, h1, h2]
theorem lc30 {w : World} {b o : Nat} {v0 v1 v2 : Value} (h0 : w.cell? ⟨b, o, none⟩ = some v0) (h1 : w.cell? ⟨b, o + 1, none⟩ = some v1) (h2 : w.cell? ⟨b, o + 2, none⟩ = some v2) : (loadC 30 (.pointer (some ⟨b, o, none⟩))).run Try.prog w = .ok (.agg #[v0, v1, v2]) w := by simp [loadC, go_sem, Addr.add, h0, h1, h2]
theorem fa30_1 (b : Nat) (w : World) : (Instr.fieldAt 30 (.pointer (some ⟨b, 0, none⟩)) 1).run Try.prog w = .ok (.pointer (some ⟨b, 1, none⟩)) w := by kernel_rfl
theorem fao30_1 (b o : Nat) (w : World) : (Instr.fieldAt 30 (.pointer (some ⟨b, o, none⟩)) 1).run Try.prog w = .ok (.pointer (some ⟨b, o + 1, none⟩)) w := by kernel_rfl
theorem fa30_2 (b : Nat) (w : World) : (Instr.fieldAt 30 (.pointer (some ⟨b, 0, none⟩)) 2).run Try.prog w = .ok (.pointer (some ⟨b, 2, none⟩)) w := by kernel_rfl
theorem fao30_2 (b o : Nat) (w : World) : (Instr.fieldAt 30 (.pointer (some ⟨b, o, none⟩)) 2).run Try.prog w = .ok (.pointer (some ⟨b, o + 2, none⟩)) w := by kernel_rfl
theorem fa30_0 (b : Nat) (w : World) : (Instr.fieldAt 30 (.pointer (some ⟨b, 0, none⟩)) 0).run Try.prog w = .ok (.pointer (some ⟨b, 0, none⟩)) w := by kernel_rfl
theorem fao30_0 (b o : Nat) (w : World) : (Instr.fieldAt 30 (.pointer (some ⟨b, o, none⟩)) 0).run Try.prog w = .ok (.pointer (some ⟨b, o, none⟩)) w := by kernel_rfl
theorem ne45 (x y : Operand) (a0 : Int) (a1 : Int) (a2 : Int) (b0 : Int) (b1 : Int) (b2 : Int) (w : World) : (binS .neq 45 x y (.agg #[.int .i64 a0, .int .i64 a1, .int .i64 a2]) (.agg #[.int .i64 b0, .int .i64 b1, .int .i64 b2])).run Try.prog w = .ok (.bool (decide (¬ (a0 = b0 ∧ a1 = b1 ∧ a2 = b2)))) w := by
  rw [binS_run _ _ _ _ _ _ (by kernel_rfl), run_neq_struct, run_equalIn_struct w 9999 45 _ _ (by simp [Program.fieldsOf, Try.underlying45]) (by kernel_rfl)]
  by_cases h0 : a0 = b0 <;> by_cases h1 : a1 = b1 <;> by_cases h2 : a2 = b2 <;> simp [go_sem, Program.fieldsOf, Try.underlying45, Op.eqFields, *]
theorem so28 {A : Option Addr} {n c k : Nat} (h : k ≤ n) (hc : n ≤ c) (w : World) : (Instr.sliceAt 28 (.slice A n c) (some (.int .i64 (k : Int))) none none).run Try.prog w = .ok (.slice (if c = k then A else A.map (·.add (k * 3))) (n - k) (c - k)) w := by
  have h' : ¬ n < k := by omega
  simp [go_sem, h', Addr.add]
theorem sh22 {A : Option Addr} {n c k : Nat} (h : k ≤ c) (w : World) : (Instr.sliceAt 22 (.slice A n c) none (some (.int .i64 (k : Int))) none).run Try.prog w = .ok (.slice A k c) w := by
  have h' : ¬ c < k := by omega
  simp [go_sem, h', Addr.add]
theorem ne25 (x y : Operand) (a b : Int) (w : World) : (binS .neq 25 x y (.int .i64 a) (.int .i64 b)).run Try.prog w = .ok (.bool (decide (¬ a = b))) w := by
  by_cases h : a = b <;> simp [binS, go_sem, h]
theorem bs22_4 {a0 a1 a2 a3 : Value} (o0 : a0.oneCell' = true) (o1 : a1.oneCell' = true) (o2 : a2.oneCell' = true) (o3 : a3.oneCell' = true) (w : World) : (Instr.buildSlice 22 4 #[(0, a0), (1, a1), (2, a2), (3, a3)]).run Try.prog w = .ok (.slice (some ⟨w.heap.size, 0, none⟩) 4 4) (w.alloc (.cells #[a0, a1, a2, a3] 3)) := by
  have e : ∀ v : Value, v.oneCell' = true → v.cells = #[v] := fun v h => by cases v <;> first | rfl | (simp [Value.oneCell'] at h)
  simp only [Value.cells] at e
  simp [go_sem, e _ o0, e _ o1, e _ o2, e _ o3]
theorem eq25 (x y : Operand) (a b : Int) (w : World) : (binS .eql 25 x y (.int .i64 a) (.int .i64 b)).run Try.prog w = .ok (.bool (decide (a = b))) w := by
  by_cases h : a = b <;> simp [binS, go_sem, h]
theorem bs28_2 {a0_0 a0_1 a0_2 a1_0 a1_1 a1_2 : Value} (w : World) : (Instr.buildSlice 28 2 #[(0, .agg #[a0_0, a0_1, a0_2]), (1, .agg #[a1_0, a1_1, a1_2])]).run Try.prog w = .ok (.slice (some ⟨w.heap.size, 0, none⟩) 2 2) (w.alloc (.cells #[a0_0, a0_1, a0_2, a1_0, a1_1, a1_2] 45)) := by
  have e : ∀ v : Value, v.oneCell' = true → v.cells = #[v] := fun v h => by cases v <;> first | rfl | (simp [Value.oneCell'] at h)
  simp only [Value.cells] at e
  simp [go_sem]
theorem ne4 (x y : Operand) (a b : Bool) (w : World) : (binS .neq 4 x y (.bool a) (.bool b)).run Try.prog w = .ok (.bool (decide (¬ a = b))) w := by
  cases a <;> cases b <;> simp [binS, go_sem]
theorem so22 {A : Option Addr} {n c k : Nat} (h : k ≤ n) (hc : n ≤ c) (w : World) : (Instr.sliceAt 22 (.slice A n c) (some (.int .i64 (k : Int))) none none).run Try.prog w = .ok (.slice (if c = k then A else A.map (·.add (k))) (n - k) (c - k)) w := by
  have h' : ¬ n < k := by omega
  simp [go_sem, h', Addr.add]
theorem bs22_1 {a0 : Value} (o0 : a0.oneCell' = true) (w : World) : (Instr.buildSlice 22 1 #[(0, a0)]).run Try.prog w = .ok (.slice (some ⟨w.heap.size, 0, none⟩) 1 1) (w.alloc (.cells #[a0] 3)) := by
  have e : ∀ v : Value, v.oneCell' = true → v.cells = #[v] := fun v h => by cases v <;> first | rfl | (simp [Value.oneCell'] at h)
  simp only [Value.cells] at e
  simp [go_sem, e _ o0]
end Go.Proofs.Ytcfdalmnhgiaeaa.M
