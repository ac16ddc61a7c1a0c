/- The steps of the plain reading at this seat's types; printed by a program of this work. -/
import Derived.Test.YtjjmlopmemmobaaFwT
import Derived.Test.YtjjmlopmemmobaaProg
namespace Go.Proofs.Ytjjmlopmemmobaa.M
open Go.Proofs.Ytjjmlopmemmobaa.F Go.RowKit
set_option linter.unusedVariables false
set_option linter.unusedSimpArgs false
theorem mm129 (w : World) : (Instr.makeMap 129 none).run Try.prog w = .ok (.map (some w.heap.size)) (w.alloc (.map #[] 0)) := run_makeMap _ _
theorem bd131_0_1 {a0 a1 : Value} (o0 : a0.oneCell' = true) (o1 : a1.oneCell' = true) (w : World) : (Instr.build 131 #[(0, a0), (1, a1)]).run Try.prog w = .ok (.agg #[a0, a1, .int .i64 0, .int .i64 0]) w := by
  have e : ∀ v : Value, v.oneCell' = true → v.cells = #[v] := fun v h => by cases v <;> first | rfl | (simp [Value.oneCell'] at h)
  simp only [Value.cells] at e
  simp [go_sem, e _ o0, e _ o1]
theorem bx131 (v0 v1 v2 v3 : Value) (w : World) : (Instr.box 131 (.agg #[v0, v1, v2, v3])).run Try.prog w = .ok (.pointer (some ⟨w.heap.size, 0, none⟩)) (w.alloc (.cells #[v0, v1, v2, v3] 131)) := by simp [go_sem]
theorem len28 {A : Option Addr} {n c : Nat} {t : TypeId} {cs : Array Bool} (w : World) : (builtin .len #[28] t cs #[.slice A n c] : Sem Next).run Try.prog w = .ok (.value (.int .i64 (n : Int))) w := by simp [go_sem]
theorem fa131_2 (b : Nat) (w : World) : (Instr.fieldAt 131 (.pointer (some ⟨b, 0, none⟩)) 2).run Try.prog w = .ok (.pointer (some ⟨b, 2, none⟩)) w := by kernel_rfl
theorem fao131_2 (b o : Nat) (w : World) : (Instr.fieldAt 131 (.pointer (some ⟨b, o, none⟩)) 2).run Try.prog w = .ok (.pointer (some ⟨b, o + 2, none⟩)) w := by kernel_rfl
theorem st3 {w : World} {p : Addr} {u v : Value} (h : w.cell? p = some u) (hf : w.frozen? p = false) (ho : v.oneCell' = true) : (Instr.storeAt 3 (.pointer (some p)) v).run Try.prog w = .ok () (w.setCell p v) := by
  cases v <;> first | (simp [Value.oneCell'] at ho; done) | (simp [go_sem, h, hf]; done) | (simp [go_sem]; rw [run_store _ _ _ _ _ rfl, h]; simp [hf])
theorem fa131_3 (b : Nat) (w : World) : (Instr.fieldAt 131 (.pointer (some ⟨b, 0, none⟩)) 3).run Try.prog w = .ok (.pointer (some ⟨b, 3, none⟩)) w := by kernel_rfl
theorem fao131_3 (b o : Nat) (w : World) : (Instr.fieldAt 131 (.pointer (some ⟨b, o, none⟩)) 3).run Try.prog w = .ok (.pointer (some ⟨b, o + 3, none⟩)) w := by kernel_rfl
theorem eq3 (x y : Operand) (a b : Int) (w : World) : (binS .eql 3 x y (.int .i64 a) (.int .i64 b)).run Try.prog w = .ok (.bool (decide (a = b))) w := by
  by_cases h : a = b <;> simp [binS, go_sem, h]
theorem ix28 {g o n c k : Nat} (h : k < n) (w : World) : (Instr.indexAt 28 (.slice (some ⟨g, o, none⟩) n c) (.int .i64 (k : Int))).run Try.prog w = .ok (.pointer (some ⟨g, o + k, none⟩)) w := by
  have h' : (k : Int) < n := by omega
  simp [go_sem, h', h, add_none]
theorem ixz28 {g n c k : Nat} (h : k < n) (w : World) : (Instr.indexAt 28 (.slice (some ⟨g, 0, none⟩) n c) (.int .i64 (k : Int))).run Try.prog w = .ok (.pointer (some ⟨g, k, none⟩)) w := by
  rw [ix28 h]; simp
theorem ld3 {w : World} {p : Addr} {v : Value} (h : w.cell? p = some v) : (Instr.loadAt 3 (.pointer (some p))).run Try.prog w = .ok v w := by simp [go_sem, h]
theorem so28 {A : Option Addr} {n c k : Nat} (h : k ≤ n) (hc : n ≤ c) (w : World) : (Instr.sliceAt 28 (.slice A n c) (some (.int .i64 (k : Int))) none none).run Try.prog w = .ok (.slice (if c = k then A else A.map (·.add (k))) (n - k) (c - k)) w := by
  have h' : ¬ n < k := by omega
  simp [go_sem, h', Addr.add]
theorem sh28 {A : Option Addr} {n c k : Nat} (h : k ≤ c) (w : World) : (Instr.sliceAt 28 (.slice A n c) none (some (.int .i64 (k : Int))) none).run Try.prog w = .ok (.slice A k c) w := by
  have h' : ¬ c < k := by omega
  simp [go_sem, h', Addr.add]
theorem ld126 {w : World} {p : Addr} {v : Value} (h : w.cell? p = some v) : (Instr.loadAt 126 (.pointer (some p))).run Try.prog w = .ok v w := by simp [go_sem, h]
theorem fa131_1 (b : Nat) (w : World) : (Instr.fieldAt 131 (.pointer (some ⟨b, 0, none⟩)) 1).run Try.prog w = .ok (.pointer (some ⟨b, 1, none⟩)) w := by kernel_rfl
theorem fao131_1 (b o : Nat) (w : World) : (Instr.fieldAt 131 (.pointer (some ⟨b, o, none⟩)) 1).run Try.prog w = .ok (.pointer (some ⟨b, o + 1, none⟩)) w := by kernel_rfl
theorem ld129 {w : World} {p : Addr} {v : Value} (h : w.cell? p = some v) : (Instr.loadAt 129 (.pointer (some p))).run Try.prog w = .ok v w := by simp [go_sem, h]
theorem fa131_0 (b : Nat) (w : World) : (Instr.fieldAt 131 (.pointer (some ⟨b, 0, none⟩)) 0).run Try.prog w = .ok (.pointer (some ⟨b, 0, none⟩)) w := by kernel_rfl
theorem fao131_0 (b o : Nat) (w : World) : (Instr.fieldAt 131 (.pointer (some ⟨b, o, none⟩)) 0).run Try.prog w = .ok (.pointer (some ⟨b, o, none⟩)) w := by kernel_rfl
theorem ld28 {w : World} {p : Addr} {v : Value} (h : w.cell? p = some v) : (Instr.loadAt 28 (.pointer (some p))).run Try.prog w = .ok v w := by simp [go_sem, h]
theorem bx126 {v : Value} (ho : v.oneCell' = true) (w : World) : (Instr.box 126 v).run Try.prog w = .ok (.pointer (some ⟨w.heap.size, 0, none⟩)) (w.alloc (.cells #[v] 126)) := by
  cases v <;> first | (simp [Value.oneCell'] at ho; done) | simp [go_sem]
theorem mf121 (c0 : Value)  (w : World) : (Instr.makeFunc (Fn.func 121) #[] #[c0]).run Try.prog w = .ok (.func (.func 121) #[] #[c0]) w := by first | rfl | simp [go_sem]
theorem ne3 (x y : Operand) (a b : Int) (w : World) : (binS .neq 3 x y (.int .i64 a) (.int .i64 b)).run Try.prog w = .ok (.bool (decide (¬ a = b))) w := by
  by_cases h : a = b <;> simp [binS, go_sem, h]
theorem sl28 : SlT Try.prog 28 3 1 8 (.int .i64 0) := by unfold SlT; exact ⟨by kernel_rfl, by kernel_rfl, by kernel_rfl, Nat.lt_of_lt_of_le (by decide) (Nat.le_refl _)⟩
theorem bs28_1 {a0 : Value} (o0 : a0.oneCell' = true) (w : World) : (Instr.buildSlice 28 1 #[(0, a0)]).run Try.prog w = .ok (.slice (some ⟨w.heap.size, 0, none⟩) 1 1) (w.alloc (.cells #[a0] 3)) := by
  have e : ∀ v : Value, v.oneCell' = true → v.cells = #[v] := fun v h => by cases v <;> first | rfl | (simp [Value.oneCell'] at h)
  simp only [Value.cells] at e
  simp [go_sem, e _ o0]
theorem eq28 (x y : Operand) (A : Option Addr) (n c : Nat) (w : World) : (binS .eql 28 x y (.slice A n c) (.slice none 0 0)).run Try.prog w = .ok (.bool (A.isNone)) w := by
  rw [binS_run _ _ _ _ _ _ (by rfl)]
  simp only [binOp]
  simp [Op.equal, Op.maxDepth, Lib.run_equalIn_slice_nil w 9999 28 3 A n c 0 0 Try.underlying28]
theorem bs28_0  (w : World) : (Instr.buildSlice 28 0 #[]).run Try.prog w = .ok (.slice (some ⟨w.heap.size, 0, none⟩) 0 0) (w.alloc (.cells #[] 3)) := by
  have e : ∀ v : Value, v.oneCell' = true → v.cells = #[v] := fun v h => by cases v <;> first | rfl | (simp [Value.oneCell'] at h)
  simp only [Value.cells] at e
  simp [go_sem]
theorem ne26 (x y : Operand) (a b : Int) (w : World) : (binS .neq 26 x y (.int .i64 a) (.int .i64 b)).run Try.prog w = .ok (.bool (decide (¬ a = b))) w := by
  by_cases h : a = b <;> simp [binS, go_sem, h]
theorem len22 {A : Option Addr} {n c : Nat} {t : TypeId} {cs : Array Bool} (w : World) : (builtin .len #[22] t cs #[.slice A n c] : Sem Next).run Try.prog w = .ok (.value (.int .i64 (n : Int))) w := by simp [go_sem]
theorem sh22 {A : Option Addr} {n c k : Nat} (h : k ≤ c) (w : World) : (Instr.sliceAt 22 (.slice A n c) none (some (.int .i64 (k : Int))) none).run Try.prog w = .ok (.slice A k c) w := by
  have h' : ¬ c < k := by omega
  simp [go_sem, h', Addr.add]
theorem ix22 {g o n c k : Nat} (h : k < n) (w : World) : (Instr.indexAt 22 (.slice (some ⟨g, o, none⟩) n c) (.int .i64 (k : Int))).run Try.prog w = .ok (.pointer (some ⟨g, o + k * 5, none⟩)) w := by
  have h' : (k : Int) < n := by omega
  simp [go_sem, h', h, add_none]
theorem ixz22 {g n c k : Nat} (h : k < n) (w : World) : (Instr.indexAt 22 (.slice (some ⟨g, 0, none⟩) n c) (.int .i64 (k : Int))).run Try.prog w = .ok (.pointer (some ⟨g, k * 5, none⟩)) w := by
  rw [ix22 h]; simp
theorem ld30 {w : World} {b o : Nat} {v0 v1 v2 v3 v4 : Value} (h0 : w.cell? ⟨b, o, none⟩ = some v0) (h1 : w.cell? ⟨b, o + 1, none⟩ = some v1) (h2 : w.cell? ⟨b, o + 2, none⟩ = some v2) (h3 : w.cell? ⟨b, o + 3, none⟩ = some v3) (h4 : w.cell? ⟨b, o + 4, none⟩ = some v4) : (Instr.loadAt 30 (.pointer (some ⟨b, o, none⟩))).run Try.prog w = .ok (.agg #[v0, v1, v2, v3, v4]) w := by simp [go_sem, Addr.add, h0, h1, h2, h3, h4]
theorem ls30 {w0 w : World} {F : List Nat} {L : List Res} {b tt : Nat} {K : Value → World → Prop} {v0 v1 v2 v3 v4 : Value} (k : Nat) (hS : St w0 F w L) (hk : L[k]? = some (Res.cells b tt [v0, v1, v2, v3, v4])) (h : K (.agg #[v0, v1, v2, v3, v4]) w) : valP Try.prog (Instr.loadAt 30 (.pointer (some ⟨b, 0, none⟩))) w K :=
  valP_ok (ld30 (hS.cell k hk rfl) (hS.cell k hk rfl) (hS.cell k hk rfl) (hS.cell k hk rfl) (hS.cell k hk rfl)) h
theorem al30 (w : World) : (Instr.alloc 30 true (.tuple #[])).run Try.prog w = .ok (.pointer (some ⟨w.heap.size, 0, none⟩)) (w.alloc (.cells #[.int .i64 0, .int .i64 0, .int .i64 0, .bool false, .slice none 0 0] 30)) := by simp [go_sem]
theorem st30 {w : World} {b o : Nat} {v0 v1 v2 v3 v4 : Value} {u0 u1 u2 u3 u4 : Value} (h0 : w.cell? ⟨b, o, none⟩ = some u0) (h1 : w.cell? ⟨b, o + 1, none⟩ = some u1) (h2 : w.cell? ⟨b, o + 2, none⟩ = some u2) (h3 : w.cell? ⟨b, o + 3, none⟩ = some u3) (h4 : w.cell? ⟨b, o + 4, none⟩ = some u4) (f0 : w.frozen? ⟨b, o, none⟩ = false) (o0 : v0.oneCell' = true) (f1 : w.frozen? ⟨b, o + 1, none⟩ = false) (o1 : v1.oneCell' = true) (f2 : w.frozen? ⟨b, o + 2, none⟩ = false) (o2 : v2.oneCell' = true) (f3 : w.frozen? ⟨b, o + 3, none⟩ = false) (o3 : v3.oneCell' = true) (f4 : w.frozen? ⟨b, o + 4, none⟩ = false) (o4 : v4.oneCell' = true) : (Instr.storeAt 30 (.pointer (some ⟨b, o, none⟩)) (.agg #[v0, v1, v2, v3, v4])).run Try.prog w = .ok () (((((w.setCell ⟨b, o, none⟩ v0).setCell ⟨b, o + 1, none⟩ v1).setCell ⟨b, o + 2, none⟩ v2).setCell ⟨b, o + 3, none⟩ v3).setCell ⟨b, o + 4, none⟩ v4) := by
  simp [go_sem, Addr.add, h0, h1, h2, h3, h4, f0, f1, f2, f3, f4, o0, o1, o2, o3, o4, run_store, World.cell?_setCell_other, World.frozen?_setCell]
theorem ss30 {w0 w : World} {F : List Nat} {L : List Res} {b tt : Nat} {K : Value → World → Prop} {v0 v1 v2 v3 v4 u0 u1 u2 u3 u4 : Value} (k : Nat) (hS : St w0 F w L) (hk : L[k]? = some (Res.cells b tt [u0, u1, u2, u3, u4])) (o0 : v0.oneCell' = true) (o1 : v1.oneCell' = true) (o2 : v2.oneCell' = true) (o3 : v3.oneCell' = true) (o4 : v4.oneCell' = true) (h : ∀ w', St w0 F w' (L.set k (Res.cells b tt [v0, v1, v2, v3, v4])) → K undef w') : unitP Try.prog (Instr.storeAt 30 (.pointer (some ⟨b, 0, none⟩)) (.agg #[v0, v1, v2, v3, v4])) w K := by
  obtain ⟨hkl, _⟩ := List.getElem?_eq_some_iff.1 hk
  have hf := fun i => hS.frozen (i := i) k hk
  have s1 := hS.set (b := b) (t := tt) (cs := [u0, u1, u2, u3, u4]) (i := 0) k v0 hk
  have s2 := s1.set (b := b) (t := tt) (cs := [v0, u1, u2, u3, u4]) (i := 1) k v1 (by simp [hkl])
  have s3 := s2.set (b := b) (t := tt) (cs := [v0, v1, u2, u3, u4]) (i := 2) k v2 (by simp [hkl])
  have s4 := s3.set (b := b) (t := tt) (cs := [v0, v1, v2, u3, u4]) (i := 3) k v3 (by simp [hkl])
  have s5 := s4.set (b := b) (t := tt) (cs := [v0, v1, v2, v3, u4]) (i := 4) k v4 (by simp [hkl])
  simp only [List.set_set, List.set_cons_zero, List.set_cons_succ] at s5
  exact unitP_ok (st30 (hS.cell k hk rfl) (hS.cell k hk rfl) (hS.cell k hk rfl) (hS.cell k hk rfl) (hS.cell k hk rfl) (hf _) o0 (hf _) o1 (hf _) o2 (hf _) o3 (hf _) o4) (h _ s5)
theorem sr30 {w0 w : World} {F : List Nat} {L : List Res} {e m g c j : Nat} {xs : List Value} {K : Value → World → Prop} {v0 v1 v2 v3 v4 : Value} (k : Nat) (hS : St w0 F w L) (hk : L[k]? = some (Res.row e 5 (.slice (some ⟨g, 0, none⟩) m c) m xs)) (hj : j + 5 ≤ xs.length) (o0 : v0.oneCell' = true) (o1 : v1.oneCell' = true) (o2 : v2.oneCell' = true) (o3 : v3.oneCell' = true) (o4 : v4.oneCell' = true) (h : ∀ w', St w0 F w' (L.set k (Res.row e 5 (.slice (some ⟨g, 0, none⟩) m c) m (setAll xs j [v0, v1, v2, v3, v4]))) → K undef w') : unitP Try.prog (Instr.storeAt 30 (.pointer (some ⟨g, j, none⟩)) (.agg #[v0, v1, v2, v3, v4])) w K := by
  have hS' := hS.row_sets k [v0, v1, v2, v3, v4] j hk hj
  exact unitP_ok (st30 (hS.row_cell k hk (u := xs[j]'(by omega)) (by simp)) (hS.row_cell k hk (u := xs[j + 1]'(by omega)) (by simp)) (hS.row_cell k hk (u := xs[j + 2]'(by omega)) (by simp)) (hS.row_cell k hk (u := xs[j + 3]'(by omega)) (by simp)) (hS.row_cell k hk (u := xs[j + 4]'(by omega)) (by simp)) (hS.row_frozen k hk) o0 (hS.row_frozen k hk) o1 (hS.row_frozen k hk) o2 (hS.row_frozen k hk) o3 (hS.row_frozen k hk) o4) (h _ hS')
theorem fa30_4 (b : Nat) (w : World) : (Instr.fieldAt 30 (.pointer (some ⟨b, 0, none⟩)) 4).run Try.prog w = .ok (.pointer (some ⟨b, 4, none⟩)) w := by kernel_rfl
theorem fao30_4 (b o : Nat) (w : World) : (Instr.fieldAt 30 (.pointer (some ⟨b, o, none⟩)) 4).run Try.prog w = .ok (.pointer (some ⟨b, o + 4, none⟩)) w := by kernel_rfl
theorem st28 {w : World} {p : Addr} {u v : Value} (h : w.cell? p = some u) (hf : w.frozen? p = false) (ho : v.oneCell' = true) : (Instr.storeAt 28 (.pointer (some p)) v).run Try.prog w = .ok () (w.setCell p v) := by
  cases v <;> first | (simp [Value.oneCell'] at ho; done) | (simp [go_sem, h, hf]; done) | (simp [go_sem]; rw [run_store _ _ _ _ _ rfl, h]; simp [hf])
theorem sl22 : SlT Try.prog 22 30 5 56 (.agg #[.int .i64 0, .int .i64 0, .int .i64 0, .bool false, .slice none 0 0]) := by unfold SlT; exact ⟨by kernel_rfl, by kernel_rfl, by kernel_rfl, Nat.lt_of_lt_of_le (by decide) (Nat.le_refl _)⟩
theorem bs22_1 {a0_0 a0_1 a0_2 a0_3 a0_4 : Value} (w : World) : (Instr.buildSlice 22 1 #[(0, .agg #[a0_0, a0_1, a0_2, a0_3, a0_4])]).run Try.prog w = .ok (.slice (some ⟨w.heap.size, 0, none⟩) 1 1) (w.alloc (.cells #[a0_0, a0_1, a0_2, a0_3, a0_4] 30)) := by
  have e : ∀ v : Value, v.oneCell' = true → v.cells = #[v] := fun v h => by cases v <;> first | rfl | (simp [Value.oneCell'] at h)
  simp only [Value.cells] at e
  simp [go_sem]
theorem bx30 (v0 v1 v2 v3 v4 : Value) (w : World) : (Instr.box 30 (.agg #[v0, v1, v2, v3, v4])).run Try.prog w = .ok (.pointer (some ⟨w.heap.size, 0, none⟩)) (w.alloc (.cells #[v0, v1, v2, v3, v4] 30)) := by simp [go_sem]
theorem fa30_0 (b : Nat) (w : World) : (Instr.fieldAt 30 (.pointer (some ⟨b, 0, none⟩)) 0).run Try.prog w = .ok (.pointer (some ⟨b, 0, none⟩)) w := by kernel_rfl
theorem fao30_0 (b o : Nat) (w : World) : (Instr.fieldAt 30 (.pointer (some ⟨b, o, none⟩)) 0).run Try.prog w = .ok (.pointer (some ⟨b, o, none⟩)) w := by kernel_rfl
theorem fa30_1 (b : Nat) (w : World) : (Instr.fieldAt 30 (.pointer (some ⟨b, 0, none⟩)) 1).run Try.prog w = .ok (.pointer (some ⟨b, 1, none⟩)) w := by kernel_rfl
theorem fao30_1 (b o : Nat) (w : World) : (Instr.fieldAt 30 (.pointer (some ⟨b, o, none⟩)) 1).run Try.prog w = .ok (.pointer (some ⟨b, o + 1, none⟩)) w := by kernel_rfl
theorem fa30_2 (b : Nat) (w : World) : (Instr.fieldAt 30 (.pointer (some ⟨b, 0, none⟩)) 2).run Try.prog w = .ok (.pointer (some ⟨b, 2, none⟩)) w := by kernel_rfl
theorem fao30_2 (b o : Nat) (w : World) : (Instr.fieldAt 30 (.pointer (some ⟨b, o, none⟩)) 2).run Try.prog w = .ok (.pointer (some ⟨b, o + 2, none⟩)) w := by kernel_rfl
theorem fa30_3 (b : Nat) (w : World) : (Instr.fieldAt 30 (.pointer (some ⟨b, 0, none⟩)) 3).run Try.prog w = .ok (.pointer (some ⟨b, 3, none⟩)) w := by kernel_rfl
theorem fao30_3 (b o : Nat) (w : World) : (Instr.fieldAt 30 (.pointer (some ⟨b, o, none⟩)) 3).run Try.prog w = .ok (.pointer (some ⟨b, o + 3, none⟩)) w := by kernel_rfl
theorem ld4 {w : World} {p : Addr} {v : Value} (h : w.cell? p = some v) : (Instr.loadAt 4 (.pointer (some p))).run Try.prog w = .ok v w := by simp [go_sem, h]
theorem lc30 {w : World} {b o : Nat} {v0 v1 v2 v3 v4 : Value} (h0 : w.cell? ⟨b, o, none⟩ = some v0) (h1 : w.cell? ⟨b, o + 1, none⟩ = some v1) (h2 : w.cell? ⟨b, o + 2, none⟩ = some v2) (h3 : w.cell? ⟨b, o + 3, none⟩ = some v3) (h4 : w.cell? ⟨b, o + 4, none⟩ = some v4) : (loadC 30 (.pointer (some ⟨b, o, none⟩))).run Try.prog w = .ok (.agg #[v0, v1, v2, v3, v4]) w := by simp [loadC, go_sem, Addr.add, h0, h1, h2, h3, h4]
theorem eq23n (x y : Operand) (w : World) : (binS .eql 23 x y (.pointer none) (.pointer none)).run Try.prog w = .ok (.bool true) w := by
  simp [binS, go_sem]
theorem eq23s (x y : Operand) (p : Addr) (w : World) : (binS .eql 23 x y (.pointer (some p)) (.pointer none)).run Try.prog w = .ok (.bool false) w := by
  simp [binS, go_sem]
theorem bs28_4 {a0 a1 a2 a3 : Value} (o0 : a0.oneCell' = true) (o1 : a1.oneCell' = true) (o2 : a2.oneCell' = true) (o3 : a3.oneCell' = true) (w : World) : (Instr.buildSlice 28 4 #[(0, a0), (1, a1), (2, a2), (3, a3)]).run Try.prog w = .ok (.slice (some ⟨w.heap.size, 0, none⟩) 4 4) (w.alloc (.cells #[a0, a1, a2, a3] 3)) := by
  have e : ∀ v : Value, v.oneCell' = true → v.cells = #[v] := fun v h => by cases v <;> first | rfl | (simp [Value.oneCell'] at h)
  simp only [Value.cells] at e
  simp [go_sem, e _ o0, e _ o1, e _ o2, e _ o3]
theorem bs28_2 {a0 a1 : Value} (o0 : a0.oneCell' = true) (o1 : a1.oneCell' = true) (w : World) : (Instr.buildSlice 28 2 #[(0, a0), (1, a1)]).run Try.prog w = .ok (.slice (some ⟨w.heap.size, 0, none⟩) 2 2) (w.alloc (.cells #[a0, a1] 3)) := by
  have e : ∀ v : Value, v.oneCell' = true → v.cells = #[v] := fun v h => by cases v <;> first | rfl | (simp [Value.oneCell'] at h)
  simp only [Value.cells] at e
  simp [go_sem, e _ o0, e _ o1]
theorem eq26 (x y : Operand) (a b : Int) (w : World) : (binS .eql 26 x y (.int .i64 a) (.int .i64 b)).run Try.prog w = .ok (.bool (decide (a = b))) w := by
  by_cases h : a = b <;> simp [binS, go_sem, h]
theorem bd94_2_3 {a2 a3 : Value} (o2 : a2.oneCell' = true) (o3 : a3.oneCell' = true) (w : World) : (Instr.build 94 #[(2, a2), (3, a3)]).run Try.prog w = .ok (.agg #[.int .i64 0, .slice none 0 0, a2, a3]) w := by
  have e : ∀ v : Value, v.oneCell' = true → v.cells = #[v] := fun v h => by cases v <;> first | rfl | (simp [Value.oneCell'] at h)
  simp only [Value.cells] at e
  simp [go_sem, e _ o2, e _ o3]
theorem bx94 (v0 v1 v2 v3 : Value) (w : World) : (Instr.box 94 (.agg #[v0, v1, v2, v3])).run Try.prog w = .ok (.pointer (some ⟨w.heap.size, 0, none⟩)) (w.alloc (.cells #[v0, v1, v2, v3] 94)) := by simp [go_sem]
theorem bd55  (w : World) : (Instr.build 55 #[]).run Try.prog w = .ok (.agg #[.int .i64 0, .slice none 0 0, .slice none 0 0, .slice none 0 0]) w := by
  have e : ∀ v : Value, v.oneCell' = true → v.cells = #[v] := fun v h => by cases v <;> first | rfl | (simp [Value.oneCell'] at h)
  simp only [Value.cells] at e
  simp [go_sem, Value.cells]
theorem bx55 (v0 v1 v2 v3 : Value) (w : World) : (Instr.box 55 (.agg #[v0, v1, v2, v3])).run Try.prog w = .ok (.pointer (some ⟨w.heap.size, 0, none⟩)) (w.alloc (.cells #[v0, v1, v2, v3] 55)) := by simp [go_sem]
theorem fa55_2 (b : Nat) (w : World) : (Instr.fieldAt 55 (.pointer (some ⟨b, 0, none⟩)) 2).run Try.prog w = .ok (.pointer (some ⟨b, 2, none⟩)) w := by kernel_rfl
theorem fao55_2 (b o : Nat) (w : World) : (Instr.fieldAt 55 (.pointer (some ⟨b, o, none⟩)) 2).run Try.prog w = .ok (.pointer (some ⟨b, o + 2, none⟩)) w := by kernel_rfl
theorem fa55_3 (b : Nat) (w : World) : (Instr.fieldAt 55 (.pointer (some ⟨b, 0, none⟩)) 3).run Try.prog w = .ok (.pointer (some ⟨b, 3, none⟩)) w := by kernel_rfl
theorem fao55_3 (b o : Nat) (w : World) : (Instr.fieldAt 55 (.pointer (some ⟨b, o, none⟩)) 3).run Try.prog w = .ok (.pointer (some ⟨b, o + 3, none⟩)) w := by kernel_rfl
theorem fa94_1 (b : Nat) (w : World) : (Instr.fieldAt 94 (.pointer (some ⟨b, 0, none⟩)) 1).run Try.prog w = .ok (.pointer (some ⟨b, 1, none⟩)) w := by kernel_rfl
theorem fao94_1 (b o : Nat) (w : World) : (Instr.fieldAt 94 (.pointer (some ⟨b, o, none⟩)) 1).run Try.prog w = .ok (.pointer (some ⟨b, o + 1, none⟩)) w := by kernel_rfl
theorem fa94_2 (b : Nat) (w : World) : (Instr.fieldAt 94 (.pointer (some ⟨b, 0, none⟩)) 2).run Try.prog w = .ok (.pointer (some ⟨b, 2, none⟩)) w := by kernel_rfl
theorem fao94_2 (b o : Nat) (w : World) : (Instr.fieldAt 94 (.pointer (some ⟨b, o, none⟩)) 2).run Try.prog w = .ok (.pointer (some ⟨b, o + 2, none⟩)) w := by kernel_rfl
theorem fa94_3 (b : Nat) (w : World) : (Instr.fieldAt 94 (.pointer (some ⟨b, 0, none⟩)) 3).run Try.prog w = .ok (.pointer (some ⟨b, 3, none⟩)) w := by kernel_rfl
theorem fao94_3 (b o : Nat) (w : World) : (Instr.fieldAt 94 (.pointer (some ⟨b, o, none⟩)) 3).run Try.prog w = .ok (.pointer (some ⟨b, o + 3, none⟩)) w := by kernel_rfl
theorem ne23n (x y : Operand) (w : World) : (binS .neq 23 x y (.pointer none) (.pointer none)).run Try.prog w = .ok (.bool false) w := by
  simp [binS, go_sem]
theorem ne23s (x y : Operand) (p : Addr) (w : World) : (binS .neq 23 x y (.pointer (some p)) (.pointer none)).run Try.prog w = .ok (.bool true) w := by
  simp [binS, go_sem]
theorem bx3 {v : Value} (ho : v.oneCell' = true) (w : World) : (Instr.box 3 v).run Try.prog w = .ok (.pointer (some ⟨w.heap.size, 0, none⟩)) (w.alloc (.cells #[v] 3)) := by
  cases v <;> first | (simp [Value.oneCell'] at ho; done) | simp [go_sem]
theorem mf66 (c0 : Value)  (w : World) : (Instr.makeFunc (Fn.func 66) #[] #[c0]).run Try.prog w = .ok (.func (.func 66) #[] #[c0]) w := by first | rfl | simp [go_sem]
theorem fa94_0 (b : Nat) (w : World) : (Instr.fieldAt 94 (.pointer (some ⟨b, 0, none⟩)) 0).run Try.prog w = .ok (.pointer (some ⟨b, 0, none⟩)) w := by kernel_rfl
theorem fao94_0 (b o : Nat) (w : World) : (Instr.fieldAt 94 (.pointer (some ⟨b, o, none⟩)) 0).run Try.prog w = .ok (.pointer (some ⟨b, o, none⟩)) w := by kernel_rfl
theorem fa55_1 (b : Nat) (w : World) : (Instr.fieldAt 55 (.pointer (some ⟨b, 0, none⟩)) 1).run Try.prog w = .ok (.pointer (some ⟨b, 1, none⟩)) w := by kernel_rfl
theorem fao55_1 (b o : Nat) (w : World) : (Instr.fieldAt 55 (.pointer (some ⟨b, o, none⟩)) 1).run Try.prog w = .ok (.pointer (some ⟨b, o + 1, none⟩)) w := by kernel_rfl
theorem fa55_0 (b : Nat) (w : World) : (Instr.fieldAt 55 (.pointer (some ⟨b, 0, none⟩)) 0).run Try.prog w = .ok (.pointer (some ⟨b, 0, none⟩)) w := by kernel_rfl
theorem fao55_0 (b o : Nat) (w : World) : (Instr.fieldAt 55 (.pointer (some ⟨b, o, none⟩)) 0).run Try.prog w = .ok (.pointer (some ⟨b, o, none⟩)) w := by kernel_rfl
theorem bd103_0_1_2_3_6 {a0 a1 a2 a3 a6 : Value} (o0 : a0.oneCell' = true) (o1 : a1.oneCell' = true) (o2 : a2.oneCell' = true) (o3 : a3.oneCell' = true) (o6 : a6.oneCell' = true) (w : World) : (Instr.build 103 #[(0, a0), (1, a1), (2, a2), (3, a3), (6, a6)]).run Try.prog w = .ok (.agg #[a0, a1, a2, a3, .int .i64 0, .slice none 0 0, a6]) w := by
  have e : ∀ v : Value, v.oneCell' = true → v.cells = #[v] := fun v h => by cases v <;> first | rfl | (simp [Value.oneCell'] at h)
  simp only [Value.cells] at e
  simp [go_sem, e _ o0, e _ o1, e _ o2, e _ o3, e _ o6]
theorem bx103 (v0 v1 v2 v3 v4 v5 v6 : Value) (w : World) : (Instr.box 103 (.agg #[v0, v1, v2, v3, v4, v5, v6])).run Try.prog w = .ok (.pointer (some ⟨w.heap.size, 0, none⟩)) (w.alloc (.cells #[v0, v1, v2, v3, v4, v5, v6] 103)) := by simp [go_sem]
theorem len58 {A : Option Addr} {n c : Nat} {t : TypeId} {cs : Array Bool} (w : World) : (builtin .len #[58] t cs #[.slice A n c] : Sem Next).run Try.prog w = .ok (.value (.int .i64 (n : Int))) w := by simp [go_sem]
theorem sh58 {A : Option Addr} {n c k : Nat} (h : k ≤ c) (w : World) : (Instr.sliceAt 58 (.slice A n c) none (some (.int .i64 (k : Int))) none).run Try.prog w = .ok (.slice A k c) w := by
  have h' : ¬ c < k := by omega
  simp [go_sem, h', Addr.add]
theorem bx65 (v0 v1 v2 v3 v4 : Value) (w : World) : (Instr.box 65 (.agg #[v0, v1, v2, v3, v4])).run Try.prog w = .ok (.pointer (some ⟨w.heap.size, 0, none⟩)) (w.alloc (.cells #[v0, v1, v2, v3, v4] 65)) := by simp [go_sem]
theorem ld65 {w : World} {b o : Nat} {v0 v1 v2 v3 v4 : Value} (h0 : w.cell? ⟨b, o, none⟩ = some v0) (h1 : w.cell? ⟨b, o + 1, none⟩ = some v1) (h2 : w.cell? ⟨b, o + 2, none⟩ = some v2) (h3 : w.cell? ⟨b, o + 3, none⟩ = some v3) (h4 : w.cell? ⟨b, o + 4, none⟩ = some v4) : (Instr.loadAt 65 (.pointer (some ⟨b, o, none⟩))).run Try.prog w = .ok (.agg #[v0, v1, v2, v3, v4]) w := by simp [go_sem, Addr.add, h0, h1, h2, h3, h4]
theorem ls65 {w0 w : World} {F : List Nat} {L : List Res} {b tt : Nat} {K : Value → World → Prop} {v0 v1 v2 v3 v4 : Value} (k : Nat) (hS : St w0 F w L) (hk : L[k]? = some (Res.cells b tt [v0, v1, v2, v3, v4])) (h : K (.agg #[v0, v1, v2, v3, v4]) w) : valP Try.prog (Instr.loadAt 65 (.pointer (some ⟨b, 0, none⟩))) w K :=
  valP_ok (ld65 (hS.cell k hk rfl) (hS.cell k hk rfl) (hS.cell k hk rfl) (hS.cell k hk rfl) (hS.cell k hk rfl)) h
theorem st65 {w : World} {b o : Nat} {v0 v1 v2 v3 v4 : Value} {u0 u1 u2 u3 u4 : Value} (h0 : w.cell? ⟨b, o, none⟩ = some u0) (h1 : w.cell? ⟨b, o + 1, none⟩ = some u1) (h2 : w.cell? ⟨b, o + 2, none⟩ = some u2) (h3 : w.cell? ⟨b, o + 3, none⟩ = some u3) (h4 : w.cell? ⟨b, o + 4, none⟩ = some u4) (f0 : w.frozen? ⟨b, o, none⟩ = false) (o0 : v0.oneCell' = true) (f1 : w.frozen? ⟨b, o + 1, none⟩ = false) (o1 : v1.oneCell' = true) (f2 : w.frozen? ⟨b, o + 2, none⟩ = false) (o2 : v2.oneCell' = true) (f3 : w.frozen? ⟨b, o + 3, none⟩ = false) (o3 : v3.oneCell' = true) (f4 : w.frozen? ⟨b, o + 4, none⟩ = false) (o4 : v4.oneCell' = true) : (Instr.storeAt 65 (.pointer (some ⟨b, o, none⟩)) (.agg #[v0, v1, v2, v3, v4])).run Try.prog w = .ok () (((((w.setCell ⟨b, o, none⟩ v0).setCell ⟨b, o + 1, none⟩ v1).setCell ⟨b, o + 2, none⟩ v2).setCell ⟨b, o + 3, none⟩ v3).setCell ⟨b, o + 4, none⟩ v4) := by
  simp [go_sem, Addr.add, h0, h1, h2, h3, h4, f0, f1, f2, f3, f4, o0, o1, o2, o3, o4, run_store, World.cell?_setCell_other, World.frozen?_setCell]
theorem ss65 {w0 w : World} {F : List Nat} {L : List Res} {b tt : Nat} {K : Value → World → Prop} {v0 v1 v2 v3 v4 u0 u1 u2 u3 u4 : Value} (k : Nat) (hS : St w0 F w L) (hk : L[k]? = some (Res.cells b tt [u0, u1, u2, u3, u4])) (o0 : v0.oneCell' = true) (o1 : v1.oneCell' = true) (o2 : v2.oneCell' = true) (o3 : v3.oneCell' = true) (o4 : v4.oneCell' = true) (h : ∀ w', St w0 F w' (L.set k (Res.cells b tt [v0, v1, v2, v3, v4])) → K undef w') : unitP Try.prog (Instr.storeAt 65 (.pointer (some ⟨b, 0, none⟩)) (.agg #[v0, v1, v2, v3, v4])) w K := by
  obtain ⟨hkl, _⟩ := List.getElem?_eq_some_iff.1 hk
  have hf := fun i => hS.frozen (i := i) k hk
  have s1 := hS.set (b := b) (t := tt) (cs := [u0, u1, u2, u3, u4]) (i := 0) k v0 hk
  have s2 := s1.set (b := b) (t := tt) (cs := [v0, u1, u2, u3, u4]) (i := 1) k v1 (by simp [hkl])
  have s3 := s2.set (b := b) (t := tt) (cs := [v0, v1, u2, u3, u4]) (i := 2) k v2 (by simp [hkl])
  have s4 := s3.set (b := b) (t := tt) (cs := [v0, v1, v2, u3, u4]) (i := 3) k v3 (by simp [hkl])
  have s5 := s4.set (b := b) (t := tt) (cs := [v0, v1, v2, v3, u4]) (i := 4) k v4 (by simp [hkl])
  simp only [List.set_set, List.set_cons_zero, List.set_cons_succ] at s5
  exact unitP_ok (st65 (hS.cell k hk rfl) (hS.cell k hk rfl) (hS.cell k hk rfl) (hS.cell k hk rfl) (hS.cell k hk rfl) (hf _) o0 (hf _) o1 (hf _) o2 (hf _) o3 (hf _) o4) (h _ s5)
theorem sr65 {w0 w : World} {F : List Nat} {L : List Res} {e m g c j : Nat} {xs : List Value} {K : Value → World → Prop} {v0 v1 v2 v3 v4 : Value} (k : Nat) (hS : St w0 F w L) (hk : L[k]? = some (Res.row e 5 (.slice (some ⟨g, 0, none⟩) m c) m xs)) (hj : j + 5 ≤ xs.length) (o0 : v0.oneCell' = true) (o1 : v1.oneCell' = true) (o2 : v2.oneCell' = true) (o3 : v3.oneCell' = true) (o4 : v4.oneCell' = true) (h : ∀ w', St w0 F w' (L.set k (Res.row e 5 (.slice (some ⟨g, 0, none⟩) m c) m (setAll xs j [v0, v1, v2, v3, v4]))) → K undef w') : unitP Try.prog (Instr.storeAt 65 (.pointer (some ⟨g, j, none⟩)) (.agg #[v0, v1, v2, v3, v4])) w K := by
  have hS' := hS.row_sets k [v0, v1, v2, v3, v4] j hk hj
  exact unitP_ok (st65 (hS.row_cell k hk (u := xs[j]'(by omega)) (by simp)) (hS.row_cell k hk (u := xs[j + 1]'(by omega)) (by simp)) (hS.row_cell k hk (u := xs[j + 2]'(by omega)) (by simp)) (hS.row_cell k hk (u := xs[j + 3]'(by omega)) (by simp)) (hS.row_cell k hk (u := xs[j + 4]'(by omega)) (by simp)) (hS.row_frozen k hk) o0 (hS.row_frozen k hk) o1 (hS.row_frozen k hk) o2 (hS.row_frozen k hk) o3 (hS.row_frozen k hk) o4) (h _ hS')
theorem fa65_0 (b : Nat) (w : World) : (Instr.fieldAt 65 (.pointer (some ⟨b, 0, none⟩)) 0).run Try.prog w = .ok (.pointer (some ⟨b, 0, none⟩)) w := by kernel_rfl
theorem fao65_0 (b o : Nat) (w : World) : (Instr.fieldAt 65 (.pointer (some ⟨b, o, none⟩)) 0).run Try.prog w = .ok (.pointer (some ⟨b, o, none⟩)) w := by kernel_rfl
theorem fa65_1 (b : Nat) (w : World) : (Instr.fieldAt 65 (.pointer (some ⟨b, 0, none⟩)) 1).run Try.prog w = .ok (.pointer (some ⟨b, 1, none⟩)) w := by kernel_rfl
theorem fao65_1 (b o : Nat) (w : World) : (Instr.fieldAt 65 (.pointer (some ⟨b, o, none⟩)) 1).run Try.prog w = .ok (.pointer (some ⟨b, o + 1, none⟩)) w := by kernel_rfl
theorem fa65_2 (b : Nat) (w : World) : (Instr.fieldAt 65 (.pointer (some ⟨b, 0, none⟩)) 2).run Try.prog w = .ok (.pointer (some ⟨b, 2, none⟩)) w := by kernel_rfl
theorem fao65_2 (b o : Nat) (w : World) : (Instr.fieldAt 65 (.pointer (some ⟨b, o, none⟩)) 2).run Try.prog w = .ok (.pointer (some ⟨b, o + 2, none⟩)) w := by kernel_rfl
theorem eq59n (x y : Operand) (w : World) : (binS .eql 59 x y (.pointer none) (.pointer none)).run Try.prog w = .ok (.bool true) w := by
  simp [binS, go_sem]
theorem eq59s (x y : Operand) (p : Addr) (w : World) : (binS .eql 59 x y (.pointer (some p)) (.pointer none)).run Try.prog w = .ok (.bool false) w := by
  simp [binS, go_sem]
theorem fa103_5 (b : Nat) (w : World) : (Instr.fieldAt 103 (.pointer (some ⟨b, 0, none⟩)) 5).run Try.prog w = .ok (.pointer (some ⟨b, 5, none⟩)) w := by kernel_rfl
theorem fao103_5 (b o : Nat) (w : World) : (Instr.fieldAt 103 (.pointer (some ⟨b, o, none⟩)) 5).run Try.prog w = .ok (.pointer (some ⟨b, o + 5, none⟩)) w := by kernel_rfl
theorem ld66 {w : World} {p : Addr} {v : Value} (h : w.cell? p = some v) : (Instr.loadAt 66 (.pointer (some p))).run Try.prog w = .ok v w := by simp [go_sem, h]
theorem eq105n (x y : Operand) (w : World) : (binS .eql 105 x y (.pointer none) (.pointer none)).run Try.prog w = .ok (.bool true) w := by
  simp [binS, go_sem]
theorem eq105s (x y : Operand) (p : Addr) (w : World) : (binS .eql 105 x y (.pointer (some p)) (.pointer none)).run Try.prog w = .ok (.bool false) w := by
  simp [binS, go_sem]
theorem fa103_4 (b : Nat) (w : World) : (Instr.fieldAt 103 (.pointer (some ⟨b, 0, none⟩)) 4).run Try.prog w = .ok (.pointer (some ⟨b, 4, none⟩)) w := by kernel_rfl
theorem fao103_4 (b o : Nat) (w : World) : (Instr.fieldAt 103 (.pointer (some ⟨b, o, none⟩)) 4).run Try.prog w = .ok (.pointer (some ⟨b, o + 4, none⟩)) w := by kernel_rfl
theorem fa69_2 (b : Nat) (w : World) : (Instr.fieldAt 69 (.pointer (some ⟨b, 0, none⟩)) 2).run Try.prog w = .ok (.pointer (some ⟨b, 2, none⟩)) w := by kernel_rfl
theorem fao69_2 (b o : Nat) (w : World) : (Instr.fieldAt 69 (.pointer (some ⟨b, o, none⟩)) 2).run Try.prog w = .ok (.pointer (some ⟨b, o + 2, none⟩)) w := by kernel_rfl
theorem fa103_6 (b : Nat) (w : World) : (Instr.fieldAt 103 (.pointer (some ⟨b, 0, none⟩)) 6).run Try.prog w = .ok (.pointer (some ⟨b, 6, none⟩)) w := by kernel_rfl
theorem fao103_6 (b o : Nat) (w : World) : (Instr.fieldAt 103 (.pointer (some ⟨b, o, none⟩)) 6).run Try.prog w = .ok (.pointer (some ⟨b, o + 6, none⟩)) w := by kernel_rfl
theorem fa103_2 (b : Nat) (w : World) : (Instr.fieldAt 103 (.pointer (some ⟨b, 0, none⟩)) 2).run Try.prog w = .ok (.pointer (some ⟨b, 2, none⟩)) w := by kernel_rfl
theorem fao103_2 (b o : Nat) (w : World) : (Instr.fieldAt 103 (.pointer (some ⟨b, o, none⟩)) 2).run Try.prog w = .ok (.pointer (some ⟨b, o + 2, none⟩)) w := by kernel_rfl
theorem bx59 {v : Value} (ho : v.oneCell' = true) (w : World) : (Instr.box 59 v).run Try.prog w = .ok (.pointer (some ⟨w.heap.size, 0, none⟩)) (w.alloc (.cells #[v] 59)) := by
  cases v <;> first | (simp [Value.oneCell'] at ho; done) | simp [go_sem]
theorem ld59 {w : World} {p : Addr} {v : Value} (h : w.cell? p = some v) : (Instr.loadAt 59 (.pointer (some p))).run Try.prog w = .ok v w := by simp [go_sem, h]
theorem mf73 (c0 : Value)  (w : World) : (Instr.makeFunc (Fn.func 73) #[] #[c0]).run Try.prog w = .ok (.func (.func 73) #[] #[c0]) w := by first | rfl | simp [go_sem]
theorem len66 {A : Option Addr} {n c : Nat} {t : TypeId} {cs : Array Bool} (w : World) : (builtin .len #[66] t cs #[.slice A n c] : Sem Next).run Try.prog w = .ok (.value (.int .i64 (n : Int))) w := by simp [go_sem]
theorem ix66 {g o n c k : Nat} (h : k < n) (w : World) : (Instr.indexAt 66 (.slice (some ⟨g, o, none⟩) n c) (.int .i64 (k : Int))).run Try.prog w = .ok (.pointer (some ⟨g, o + k * 3, none⟩)) w := by
  have h' : (k : Int) < n := by omega
  simp [go_sem, h', h, add_none]
theorem ixz66 {g n c k : Nat} (h : k < n) (w : World) : (Instr.indexAt 66 (.slice (some ⟨g, 0, none⟩) n c) (.int .i64 (k : Int))).run Try.prog w = .ok (.pointer (some ⟨g, k * 3, none⟩)) w := by
  rw [ix66 h]; simp
theorem fa69_0 (b : Nat) (w : World) : (Instr.fieldAt 69 (.pointer (some ⟨b, 0, none⟩)) 0).run Try.prog w = .ok (.pointer (some ⟨b, 0, none⟩)) w := by kernel_rfl
theorem fao69_0 (b o : Nat) (w : World) : (Instr.fieldAt 69 (.pointer (some ⟨b, o, none⟩)) 0).run Try.prog w = .ok (.pointer (some ⟨b, o, none⟩)) w := by kernel_rfl
theorem fa103_3 (b : Nat) (w : World) : (Instr.fieldAt 103 (.pointer (some ⟨b, 0, none⟩)) 3).run Try.prog w = .ok (.pointer (some ⟨b, 3, none⟩)) w := by kernel_rfl
theorem fao103_3 (b o : Nat) (w : World) : (Instr.fieldAt 103 (.pointer (some ⟨b, o, none⟩)) 3).run Try.prog w = .ok (.pointer (some ⟨b, o + 3, none⟩)) w := by kernel_rfl
theorem fa103_0 (b : Nat) (w : World) : (Instr.fieldAt 103 (.pointer (some ⟨b, 0, none⟩)) 0).run Try.prog w = .ok (.pointer (some ⟨b, 0, none⟩)) w := by kernel_rfl
theorem fao103_0 (b o : Nat) (w : World) : (Instr.fieldAt 103 (.pointer (some ⟨b, o, none⟩)) 0).run Try.prog w = .ok (.pointer (some ⟨b, o, none⟩)) w := by kernel_rfl
theorem mf75 (c0 : Value)  (w : World) : (Instr.makeFunc (Fn.func 75) #[] #[c0]).run Try.prog w = .ok (.func (.func 75) #[] #[c0]) w := by first | rfl | simp [go_sem]
theorem bd86_0_1_2_3 {a0 a1 a2 a3 : Value} (o0 : a0.oneCell' = true) (o1 : a1.oneCell' = true) (o2 : a2.oneCell' = true) (o3 : a3.oneCell' = true) (w : World) : (Instr.build 86 #[(0, a0), (1, a1), (2, a2), (3, a3)]).run Try.prog w = .ok (.agg #[a0, a1, a2, a3, .int .i64 0, .slice none 0 0, .slice none 0 0]) w := by
  have e : ∀ v : Value, v.oneCell' = true → v.cells = #[v] := fun v h => by cases v <;> first | rfl | (simp [Value.oneCell'] at h)
  simp only [Value.cells] at e
  simp [go_sem, e _ o0, e _ o1, e _ o2, e _ o3]
theorem bx86 (v0 v1 v2 v3 v4 v5 v6 : Value) (w : World) : (Instr.box 86 (.agg #[v0, v1, v2, v3, v4, v5, v6])).run Try.prog w = .ok (.pointer (some ⟨w.heap.size, 0, none⟩)) (w.alloc (.cells #[v0, v1, v2, v3, v4, v5, v6] 86)) := by simp [go_sem]
theorem fa86_6 (b : Nat) (w : World) : (Instr.fieldAt 86 (.pointer (some ⟨b, 0, none⟩)) 6).run Try.prog w = .ok (.pointer (some ⟨b, 6, none⟩)) w := by kernel_rfl
theorem fao86_6 (b o : Nat) (w : World) : (Instr.fieldAt 86 (.pointer (some ⟨b, o, none⟩)) 6).run Try.prog w = .ok (.pointer (some ⟨b, o + 6, none⟩)) w := by kernel_rfl
theorem al65 (w : World) : (Instr.alloc 65 true (.tuple #[])).run Try.prog w = .ok (.pointer (some ⟨w.heap.size, 0, none⟩)) (w.alloc (.cells #[.int .i64 0, .int .i64 0, .int .i64 0, .int .i64 0, .bool false] 65)) := by simp [go_sem]
theorem fa65_4 (b : Nat) (w : World) : (Instr.fieldAt 65 (.pointer (some ⟨b, 0, none⟩)) 4).run Try.prog w = .ok (.pointer (some ⟨b, 4, none⟩)) w := by kernel_rfl
theorem fao65_4 (b o : Nat) (w : World) : (Instr.fieldAt 65 (.pointer (some ⟨b, o, none⟩)) 4).run Try.prog w = .ok (.pointer (some ⟨b, o + 4, none⟩)) w := by kernel_rfl
theorem lc65 {w : World} {b o : Nat} {v0 v1 v2 v3 v4 : Value} (h0 : w.cell? ⟨b, o, none⟩ = some v0) (h1 : w.cell? ⟨b, o + 1, none⟩ = some v1) (h2 : w.cell? ⟨b, o + 2, none⟩ = some v2) (h3 : w.cell? ⟨b, o + 3, none⟩ = some v3) (h4 : w.cell? ⟨b, o + 4, none⟩ = some v4) : (loadC 65 (.pointer (some ⟨b, o, none⟩))).run Try.prog w = .ok (.agg #[v0, v1, v2, v3, v4]) w := by simp [loadC, go_sem, Addr.add, h0, h1, h2, h3, h4]
theorem fa86_2 (b : Nat) (w : World) : (Instr.fieldAt 86 (.pointer (some ⟨b, 0, none⟩)) 2).run Try.prog w = .ok (.pointer (some ⟨b, 2, none⟩)) w := by kernel_rfl
theorem fao86_2 (b o : Nat) (w : World) : (Instr.fieldAt 86 (.pointer (some ⟨b, o, none⟩)) 2).run Try.prog w = .ok (.pointer (some ⟨b, o + 2, none⟩)) w := by kernel_rfl
theorem fa86_3 (b : Nat) (w : World) : (Instr.fieldAt 86 (.pointer (some ⟨b, 0, none⟩)) 3).run Try.prog w = .ok (.pointer (some ⟨b, 3, none⟩)) w := by kernel_rfl
theorem fao86_3 (b o : Nat) (w : World) : (Instr.fieldAt 86 (.pointer (some ⟨b, o, none⟩)) 3).run Try.prog w = .ok (.pointer (some ⟨b, o + 3, none⟩)) w := by kernel_rfl
theorem fa86_5 (b : Nat) (w : World) : (Instr.fieldAt 86 (.pointer (some ⟨b, 0, none⟩)) 5).run Try.prog w = .ok (.pointer (some ⟨b, 5, none⟩)) w := by kernel_rfl
theorem fao86_5 (b o : Nat) (w : World) : (Instr.fieldAt 86 (.pointer (some ⟨b, o, none⟩)) 5).run Try.prog w = .ok (.pointer (some ⟨b, o + 5, none⟩)) w := by kernel_rfl
theorem mf83 (c0 : Value)  (w : World) : (Instr.makeFunc (Fn.func 83) #[] #[c0]).run Try.prog w = .ok (.func (.func 83) #[] #[c0]) w := by first | rfl | simp [go_sem]
theorem bd69_0_1_2 {a0 a1 a2 : Value} (o0 : a0.oneCell' = true) (o1 : a1.oneCell' = true) (o2 : a2.oneCell' = true) (w : World) : (Instr.build 69 #[(0, a0), (1, a1), (2, a2)]).run Try.prog w = .ok (.agg #[a0, a1, a2]) w := by
  have e : ∀ v : Value, v.oneCell' = true → v.cells = #[v] := fun v h => by cases v <;> first | rfl | (simp [Value.oneCell'] at h)
  simp only [Value.cells] at e
  simp [go_sem, e _ o0, e _ o1, e _ o2]
theorem al69 (w : World) : (Instr.alloc 69 true (.tuple #[])).run Try.prog w = .ok (.pointer (some ⟨w.heap.size, 0, none⟩)) (w.alloc (.cells #[.int .i64 0, .int .i64 0, .int .i64 0] 69)) := by simp [go_sem]
theorem st69 {w : World} {b o : Nat} {v0 v1 v2 : Value} {u0 u1 u2 : Value} (h0 : w.cell? ⟨b, o, none⟩ = some u0) (h1 : w.cell? ⟨b, o + 1, none⟩ = some u1) (h2 : w.cell? ⟨b, o + 2, none⟩ = some u2) (f0 : w.frozen? ⟨b, o, none⟩ = false) (o0 : v0.oneCell' = true) (f1 : w.frozen? ⟨b, o + 1, none⟩ = false) (o1 : v1.oneCell' = true) (f2 : w.frozen? ⟨b, o + 2, none⟩ = false) (o2 : v2.oneCell' = true) : (Instr.storeAt 69 (.pointer (some ⟨b, o, none⟩)) (.agg #[v0, v1, v2])).run Try.prog w = .ok () (((w.setCell ⟨b, o, none⟩ v0).setCell ⟨b, o + 1, none⟩ v1).setCell ⟨b, o + 2, none⟩ v2) := by
  simp [go_sem, Addr.add, h0, h1, h2, f0, f1, f2, o0, o1, o2, run_store, World.cell?_setCell_other, World.frozen?_setCell]
theorem ss69 {w0 w : World} {F : List Nat} {L : List Res} {b tt : Nat} {K : Value → World → Prop} {v0 v1 v2 u0 u1 u2 : Value} (k : Nat) (hS : St w0 F w L) (hk : L[k]? = some (Res.cells b tt [u0, u1, u2])) (o0 : v0.oneCell' = true) (o1 : v1.oneCell' = true) (o2 : v2.oneCell' = true) (h : ∀ w', St w0 F w' (L.set k (Res.cells b tt [v0, v1, v2])) → K undef w') : unitP Try.prog (Instr.storeAt 69 (.pointer (some ⟨b, 0, none⟩)) (.agg #[v0, v1, v2])) w K := by
  obtain ⟨hkl, _⟩ := List.getElem?_eq_some_iff.1 hk
  have hf := fun i => hS.frozen (i := i) k hk
  have s1 := hS.set (b := b) (t := tt) (cs := [u0, u1, u2]) (i := 0) k v0 hk
  have s2 := s1.set (b := b) (t := tt) (cs := [v0, u1, u2]) (i := 1) k v1 (by simp [hkl])
  have s3 := s2.set (b := b) (t := tt) (cs := [v0, v1, u2]) (i := 2) k v2 (by simp [hkl])
  simp only [List.set_set, List.set_cons_zero, List.set_cons_succ] at s3
  exact unitP_ok (st69 (hS.cell k hk rfl) (hS.cell k hk rfl) (hS.cell k hk rfl) (hf _) o0 (hf _) o1 (hf _) o2) (h _ s3)
theorem sr69 {w0 w : World} {F : List Nat} {L : List Res} {e m g c j : Nat} {xs : List Value} {K : Value → World → Prop} {v0 v1 v2 : Value} (k : Nat) (hS : St w0 F w L) (hk : L[k]? = some (Res.row e 3 (.slice (some ⟨g, 0, none⟩) m c) m xs)) (hj : j + 3 ≤ xs.length) (o0 : v0.oneCell' = true) (o1 : v1.oneCell' = true) (o2 : v2.oneCell' = true) (h : ∀ w', St w0 F w' (L.set k (Res.row e 3 (.slice (some ⟨g, 0, none⟩) m c) m (setAll xs j [v0, v1, v2]))) → K undef w') : unitP Try.prog (Instr.storeAt 69 (.pointer (some ⟨g, j, none⟩)) (.agg #[v0, v1, v2])) w K := by
  have hS' := hS.row_sets k [v0, v1, v2] j hk hj
  exact unitP_ok (st69 (hS.row_cell k hk (u := xs[j]'(by omega)) (by simp)) (hS.row_cell k hk (u := xs[j + 1]'(by omega)) (by simp)) (hS.row_cell k hk (u := xs[j + 2]'(by omega)) (by simp)) (hS.row_frozen k hk) o0 (hS.row_frozen k hk) o1 (hS.row_frozen k hk) o2) (h _ hS')
theorem ld69 {w : World} {b o : Nat} {v0 v1 v2 : Value} (h0 : w.cell? ⟨b, o, none⟩ = some v0) (h1 : w.cell? ⟨b, o + 1, none⟩ = some v1) (h2 : w.cell? ⟨b, o + 2, none⟩ = some v2) : (Instr.loadAt 69 (.pointer (some ⟨b, o, none⟩))).run Try.prog w = .ok (.agg #[v0, v1, v2]) w := by simp [go_sem, Addr.add, h0, h1, h2]
theorem ls69 {w0 w : World} {F : List Nat} {L : List Res} {b tt : Nat} {K : Value → World → Prop} {v0 v1 v2 : Value} (k : Nat) (hS : St w0 F w L) (hk : L[k]? = some (Res.cells b tt [v0, v1, v2])) (h : K (.agg #[v0, v1, v2]) w) : valP Try.prog (Instr.loadAt 69 (.pointer (some ⟨b, 0, none⟩))) w K :=
  valP_ok (ld69 (hS.cell k hk rfl) (hS.cell k hk rfl) (hS.cell k hk rfl)) h
theorem sl66 : SlT Try.prog 66 69 3 24 (.agg #[.int .i64 0, .int .i64 0, .int .i64 0]) := by unfold SlT; exact ⟨by kernel_rfl, by kernel_rfl, by kernel_rfl, Nat.lt_of_lt_of_le (by decide) (Nat.le_refl _)⟩
theorem bs66_1 {a0_0 a0_1 a0_2 : Value} (w : World) : (Instr.buildSlice 66 1 #[(0, .agg #[a0_0, a0_1, a0_2])]).run Try.prog w = .ok (.slice (some ⟨w.heap.size, 0, none⟩) 1 1) (w.alloc (.cells #[a0_0, a0_1, a0_2] 69)) := by
  have e : ∀ v : Value, v.oneCell' = true → v.cells = #[v] := fun v h => by cases v <;> first | rfl | (simp [Value.oneCell'] at h)
  simp only [Value.cells] at e
  simp [go_sem]
theorem st66 {w : World} {p : Addr} {u v : Value} (h : w.cell? p = some u) (hf : w.frozen? p = false) (ho : v.oneCell' = true) : (Instr.storeAt 66 (.pointer (some p)) v).run Try.prog w = .ok () (w.setCell p v) := by
  cases v <;> first | (simp [Value.oneCell'] at ho; done) | (simp [go_sem, h, hf]; done) | (simp [go_sem]; rw [run_store _ _ _ _ _ rfl, h]; simp [hf])
theorem eq66 (x y : Operand) (A : Option Addr) (n c : Nat) (w : World) : (binS .eql 66 x y (.slice A n c) (.slice none 0 0)).run Try.prog w = .ok (.bool (A.isNone)) w := by
  rw [binS_run _ _ _ _ _ _ (by rfl)]
  simp only [binOp]
  simp [Op.equal, Op.maxDepth, Lib.run_equalIn_slice_nil w 9999 66 69 A n c 0 0 Try.underlying66]
theorem bs66_0  (w : World) : (Instr.buildSlice 66 0 #[]).run Try.prog w = .ok (.slice (some ⟨w.heap.size, 0, none⟩) 0 0) (w.alloc (.cells #[] 69)) := by
  have e : ∀ v : Value, v.oneCell' = true → v.cells = #[v] := fun v h => by cases v <;> first | rfl | (simp [Value.oneCell'] at h)
  simp only [Value.cells] at e
  simp [go_sem]
theorem ne59n (x y : Operand) (w : World) : (binS .neq 59 x y (.pointer none) (.pointer none)).run Try.prog w = .ok (.bool false) w := by
  simp [binS, go_sem]
theorem ne59s (x y : Operand) (p : Addr) (w : World) : (binS .neq 59 x y (.pointer (some p)) (.pointer none)).run Try.prog w = .ok (.bool true) w := by
  simp [binS, go_sem]
theorem bx69 (v0 v1 v2 : Value) (w : World) : (Instr.box 69 (.agg #[v0, v1, v2])).run Try.prog w = .ok (.pointer (some ⟨w.heap.size, 0, none⟩)) (w.alloc (.cells #[v0, v1, v2] 69)) := by simp [go_sem]
theorem fa103_1 (b : Nat) (w : World) : (Instr.fieldAt 103 (.pointer (some ⟨b, 0, none⟩)) 1).run Try.prog w = .ok (.pointer (some ⟨b, 1, none⟩)) w := by kernel_rfl
theorem fao103_1 (b o : Nat) (w : World) : (Instr.fieldAt 103 (.pointer (some ⟨b, o, none⟩)) 1).run Try.prog w = .ok (.pointer (some ⟨b, o + 1, none⟩)) w := by kernel_rfl
theorem fa69_1 (b : Nat) (w : World) : (Instr.fieldAt 69 (.pointer (some ⟨b, 0, none⟩)) 1).run Try.prog w = .ok (.pointer (some ⟨b, 1, none⟩)) w := by kernel_rfl
theorem fao69_1 (b o : Nat) (w : World) : (Instr.fieldAt 69 (.pointer (some ⟨b, o, none⟩)) 1).run Try.prog w = .ok (.pointer (some ⟨b, o + 1, none⟩)) w := by kernel_rfl
theorem fa86_4 (b : Nat) (w : World) : (Instr.fieldAt 86 (.pointer (some ⟨b, 0, none⟩)) 4).run Try.prog w = .ok (.pointer (some ⟨b, 4, none⟩)) w := by kernel_rfl
theorem fao86_4 (b o : Nat) (w : World) : (Instr.fieldAt 86 (.pointer (some ⟨b, o, none⟩)) 4).run Try.prog w = .ok (.pointer (some ⟨b, o + 4, none⟩)) w := by kernel_rfl
theorem sh66 {A : Option Addr} {n c k : Nat} (h : k ≤ c) (w : World) : (Instr.sliceAt 66 (.slice A n c) none (some (.int .i64 (k : Int))) none).run Try.prog w = .ok (.slice A k c) w := by
  have h' : ¬ c < k := by omega
  simp [go_sem, h', Addr.add]
theorem so66 {A : Option Addr} {n c k : Nat} (h : k ≤ n) (hc : n ≤ c) (w : World) : (Instr.sliceAt 66 (.slice A n c) (some (.int .i64 (k : Int))) none none).run Try.prog w = .ok (.slice (if c = k then A else A.map (·.add (k * 3))) (n - k) (c - k)) w := by
  have h' : ¬ n < k := by omega
  simp [go_sem, h', Addr.add]
theorem fa86_0 (b : Nat) (w : World) : (Instr.fieldAt 86 (.pointer (some ⟨b, 0, none⟩)) 0).run Try.prog w = .ok (.pointer (some ⟨b, 0, none⟩)) w := by kernel_rfl
theorem fao86_0 (b o : Nat) (w : World) : (Instr.fieldAt 86 (.pointer (some ⟨b, o, none⟩)) 0).run Try.prog w = .ok (.pointer (some ⟨b, o, none⟩)) w := by kernel_rfl
theorem ne69 (x y : Operand) (a0 : Int) (a1 : Int) (a2 : Int) (b0 : Int) (b1 : Int) (b2 : Int) (w : World) : (binS .neq 69 x y (.agg #[.int .i64 a0, .int .i64 a1, .int .i64 a2]) (.agg #[.int .i64 b0, .int .i64 b1, .int .i64 b2])).run Try.prog w = .ok (.bool (decide (¬ (a0 = b0 ∧ a1 = b1 ∧ a2 = b2)))) w := by
  rw [binS_run _ _ _ _ _ _ (by kernel_rfl), run_neq_struct, run_equalIn_struct w 9999 69 _ _ (by simp [Program.fieldsOf, Try.underlying69]) (by kernel_rfl)]
  by_cases h0 : a0 = b0 <;> by_cases h1 : a1 = b1 <;> by_cases h2 : a2 = b2 <;> simp [go_sem, Program.fieldsOf, Try.underlying69, Op.eqFields, *]
theorem fa86_1 (b : Nat) (w : World) : (Instr.fieldAt 86 (.pointer (some ⟨b, 0, none⟩)) 1).run Try.prog w = .ok (.pointer (some ⟨b, 1, none⟩)) w := by kernel_rfl
theorem fao86_1 (b o : Nat) (w : World) : (Instr.fieldAt 86 (.pointer (some ⟨b, o, none⟩)) 1).run Try.prog w = .ok (.pointer (some ⟨b, o + 1, none⟩)) w := by kernel_rfl
theorem eq4 (x y : Operand) (a b : Bool) (w : World) : (binS .eql 4 x y (.bool a) (.bool b)).run Try.prog w = .ok (.bool (decide (a = b))) w := by
  cases a <;> cases b <;> simp [binS, go_sem]
theorem fa65_3 (b : Nat) (w : World) : (Instr.fieldAt 65 (.pointer (some ⟨b, 0, none⟩)) 3).run Try.prog w = .ok (.pointer (some ⟨b, 3, none⟩)) w := by kernel_rfl
theorem fao65_3 (b o : Nat) (w : World) : (Instr.fieldAt 65 (.pointer (some ⟨b, o, none⟩)) 3).run Try.prog w = .ok (.pointer (some ⟨b, o + 3, none⟩)) w := by kernel_rfl
theorem ne4 (x y : Operand) (a b : Bool) (w : World) : (binS .neq 4 x y (.bool a) (.bool b)).run Try.prog w = .ok (.bool (decide (¬ a = b))) w := by
  cases a <;> cases b <;> simp [binS, go_sem]
theorem ix58 {g o n c k : Nat} (h : k < n) (w : World) : (Instr.indexAt 58 (.slice (some ⟨g, o, none⟩) n c) (.int .i64 (k : Int))).run Try.prog w = .ok (.pointer (some ⟨g, o + k * 5, none⟩)) w := by
  have h' : (k : Int) < n := by omega
  simp [go_sem, h', h, add_none]
theorem ixz58 {g n c k : Nat} (h : k < n) (w : World) : (Instr.indexAt 58 (.slice (some ⟨g, 0, none⟩) n c) (.int .i64 (k : Int))).run Try.prog w = .ok (.pointer (some ⟨g, k * 5, none⟩)) w := by
  rw [ix58 h]; simp
theorem bx79 (v0 v1 v2 v3 : Value) (w : World) : (Instr.box 79 (.agg #[v0, v1, v2, v3])).run Try.prog w = .ok (.pointer (some ⟨w.heap.size, 0, none⟩)) (w.alloc (.cells #[v0, v1, v2, v3] 79)) := by simp [go_sem]
theorem fa79_0 (b : Nat) (w : World) : (Instr.fieldAt 79 (.pointer (some ⟨b, 0, none⟩)) 0).run Try.prog w = .ok (.pointer (some ⟨b, 0, none⟩)) w := by kernel_rfl
theorem fao79_0 (b o : Nat) (w : World) : (Instr.fieldAt 79 (.pointer (some ⟨b, o, none⟩)) 0).run Try.prog w = .ok (.pointer (some ⟨b, o, none⟩)) w := by kernel_rfl
theorem fa79_3 (b : Nat) (w : World) : (Instr.fieldAt 79 (.pointer (some ⟨b, 0, none⟩)) 3).run Try.prog w = .ok (.pointer (some ⟨b, 3, none⟩)) w := by kernel_rfl
theorem fao79_3 (b o : Nat) (w : World) : (Instr.fieldAt 79 (.pointer (some ⟨b, o, none⟩)) 3).run Try.prog w = .ok (.pointer (some ⟨b, o + 3, none⟩)) w := by kernel_rfl
theorem fa79_1 (b : Nat) (w : World) : (Instr.fieldAt 79 (.pointer (some ⟨b, 0, none⟩)) 1).run Try.prog w = .ok (.pointer (some ⟨b, 1, none⟩)) w := by kernel_rfl
theorem fao79_1 (b o : Nat) (w : World) : (Instr.fieldAt 79 (.pointer (some ⟨b, o, none⟩)) 1).run Try.prog w = .ok (.pointer (some ⟨b, o + 1, none⟩)) w := by kernel_rfl
theorem fa79_2 (b : Nat) (w : World) : (Instr.fieldAt 79 (.pointer (some ⟨b, 0, none⟩)) 2).run Try.prog w = .ok (.pointer (some ⟨b, 2, none⟩)) w := by kernel_rfl
theorem fao79_2 (b o : Nat) (w : World) : (Instr.fieldAt 79 (.pointer (some ⟨b, o, none⟩)) 2).run Try.prog w = .ok (.pointer (some ⟨b, o + 2, none⟩)) w := by kernel_rfl
end Go.Proofs.Ytjjmlopmemmobaa.M
