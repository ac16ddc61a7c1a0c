/- The steps of the plain reading at this seat's types; printed by a program of this work. -/
import Derived.Test.YtcdnkbplplghmaaFwT
import Derived.Test.YtcdnkbplplghmaaProg
namespace Go.Proofs.Ytcdnkbplplghmaa.M
open Go.Proofs.Ytcdnkbplplghmaa.F Go.RowKit
set_option linter.unusedVariables false
set_option linter.unusedSimpArgs false
theorem len9 {s : ByteArray} {t : TypeId} {cs : Array Bool} (w : World) : (builtin .len #[9] t cs #[.string s] : Sem Next).run Try.prog w = .ok (.value (.int .i64 (s.size : Int))) w := by simp [go_sem]
theorem eq3 (x y : Operand) (a b : Int) (w : World) : (binS .eql 3 x y (.int .i64 a) (.int .i64 b)).run Try.prog w = .ok (.bool (decide (a = b))) w := by
  by_cases h : a = b <;> simp [binS, go_sem, h]
theorem eq5 (x y : Operand) (a b : Int) (w : World) : (binS .eql 5 x y (.int .u8 a) (.int .u8 b)).run Try.prog w = .ok (.bool (decide (a = b))) w := by
  by_cases h : a = b <;> simp [binS, go_sem, h]
theorem al111 (w : World) : (Instr.alloc 111 true (.tuple #[])).run Try.prog w = .ok (.pointer (some ⟨w.heap.size, 0, none⟩)) (w.alloc (.cells #[.int .u8 0, .int .u8 0, .int .u8 0, .int .u8 0, .int .u8 0, .int .u8 0, .int .u8 0, .int .u8 0, .int .u8 0, .int .u8 0] 111)) := by simp [go_sem]
theorem st5 {w : World} {p : Addr} {u v : Value} (h : w.cell? p = some u) (hf : w.frozen? p = false) (ho : v.oneCell' = true) : (Instr.storeAt 5 (.pointer (some p)) v).run Try.prog w = .ok () (w.setCell p v) := by
  cases v <;> first | (simp [Value.oneCell'] at ho; done) | (simp [go_sem, h, hf]; done) | (simp [go_sem]; rw [run_store _ _ _ _ _ rfl, h]; simp [hf])
theorem eq97 (x y : Operand) (a b : Int) (w : World) : (binS .eql 97 x y (.int .u64 a) (.int .u64 b)).run Try.prog w = .ok (.bool (decide (a = b))) w := by
  by_cases h : a = b <;> simp [binS, go_sem, h]
theorem bytes_inj {a b : ByteArray} (h : a.toList = b.toList) : a = b := by
  rw [ByteArray.toList_eq, ByteArray.toList_eq] at h
  exact ByteArray.ext (Array.toList_inj.mp h)
theorem bytes_iff {a b : ByteArray} : a.toList = b.toList ↔ a = b := ⟨bytes_inj, fun e => e ▸ rfl⟩
theorem ne9 (x y : Operand) (a b : ByteArray) (w : World) : (binS .neq 9 x y (.string a) (.string b)).run Try.prog w = .ok (.bool (decide (¬ a = b))) w := by
  by_cases h : a = b
  · simp [binS, go_sem, h]
  · have h' : ¬ a.toList = b.toList := fun e => h (bytes_inj e)
    simp [binS, go_sem, h, h']
theorem sl71 : SlT Try.prog 71 5 1 1 (.int .u8 0) := by unfold SlT; exact ⟨by kernel_rfl, by kernel_rfl, by kernel_rfl, Nat.lt_of_lt_of_le (by decide) (Nat.le_refl _)⟩
theorem bs71_1 {a0 : Value} (o0 : a0.oneCell' = true) (w : World) : (Instr.buildSlice 71 1 #[(0, a0)]).run Try.prog w = .ok (.slice (some ⟨w.heap.size, 0, none⟩) 1 1) (w.alloc (.cells #[a0] 5)) := by
  have e : ∀ v : Value, v.oneCell' = true → v.cells = #[v] := fun v h => by cases v <;> first | rfl | (simp [Value.oneCell'] at h)
  simp only [Value.cells] at e
  simp [go_sem, e _ o0]
theorem bx38 (v0 v1 v2 : Value) (w : World) : (Instr.box 38 (.agg #[v0, v1, v2])).run Try.prog w = .ok (.pointer (some ⟨w.heap.size, 0, none⟩)) (w.alloc (.cells #[v0, v1, v2] 38)) := by simp [go_sem]
theorem al38 (w : World) : (Instr.alloc 38 true (.tuple #[])).run Try.prog w = .ok (.pointer (some ⟨w.heap.size, 0, none⟩)) (w.alloc (.cells #[.int .i64 0, .int .i64 0, .string ⟨#[]⟩] 38)) := by simp [go_sem]
theorem fa38_2 (b : Nat) (w : World) : (Instr.fieldAt 38 (.pointer (some ⟨b, 0, none⟩)) 2).run Try.prog w = .ok (.pointer (some ⟨b, 2, none⟩)) w := by kernel_rfl
theorem fao38_2 (b o : Nat) (w : World) : (Instr.fieldAt 38 (.pointer (some ⟨b, o, none⟩)) 2).run Try.prog w = .ok (.pointer (some ⟨b, o + 2, none⟩)) w := by kernel_rfl
theorem ld9 {w : World} {p : Addr} {v : Value} (h : w.cell? p = some v) : (Instr.loadAt 9 (.pointer (some p))).run Try.prog w = .ok v w := by simp [go_sem, h]
theorem ne42 (x y : Operand) (a b : Int) (w : World) : (binS .neq 42 x y (.int .i64 a) (.int .i64 b)).run Try.prog w = .ok (.bool (decide (¬ a = b))) w := by
  by_cases h : a = b <;> simp [binS, go_sem, h]
theorem bd38  (w : World) : (Instr.build 38 #[]).run Try.prog w = .ok (.agg #[.int .i64 0, .int .i64 0, .string ⟨#[]⟩]) w := by
  have e : ∀ v : Value, v.oneCell' = true → v.cells = #[v] := fun v h => by cases v <;> first | rfl | (simp [Value.oneCell'] at h)
  simp only [Value.cells] at e
  simp [go_sem, Value.cells]
theorem st38 {w : World} {b o : Nat} {v0 v1 v2 : Value} {u0 u1 u2 : Value} (h0 : w.cell? ⟨b, o, none⟩ = some u0) (h1 : w.cell? ⟨b, o + 1, none⟩ = some u1) (h2 : w.cell? ⟨b, o + 2, none⟩ = some u2) (f0 : w.frozen? ⟨b, o, none⟩ = false) (o0 : v0.oneCell' = true) (f1 : w.frozen? ⟨b, o + 1, none⟩ = false) (o1 : v1.oneCell' = true) (f2 : w.frozen? ⟨b, o + 2, none⟩ = false) (o2 : v2.oneCell' = true) : (Instr.storeAt 38 (.pointer (some ⟨b, o, none⟩)) (.agg #[v0, v1, v2])).run Try.prog w = .ok () (((w.setCell ⟨b, o, none⟩ v0).setCell ⟨b, o + 1, none⟩ v1).setCell ⟨b, o + 2, none⟩ v2) := by
  simp [go_sem, Addr.add, h0, h1, h2, f0, f1, f2, o0, o1, o2, run_store, World.cell?_setCell_other, World.frozen?_setCell]
theorem ss38 {w0 w : World} {F : List Nat} {L : List Res} {b tt : Nat} {K : Value → World → Prop} {v0 v1 v2 u0 u1 u2 : Value} (k : Nat) (hS : St w0 F w L) (hk : L[k]? = some (Res.cells b tt [u0, u1, u2])) (o0 : v0.oneCell' = true) (o1 : v1.oneCell' = true) (o2 : v2.oneCell' = true) (h : ∀ w', St w0 F w' (L.set k (Res.cells b tt [v0, v1, v2])) → K undef w') : unitP Try.prog (Instr.storeAt 38 (.pointer (some ⟨b, 0, none⟩)) (.agg #[v0, v1, v2])) w K := by
  obtain ⟨hkl, _⟩ := List.getElem?_eq_some_iff.1 hk
  have hf := fun i => hS.frozen (i := i) k hk
  have s1 := hS.set (b := b) (t := tt) (cs := [u0, u1, u2]) (i := 0) k v0 hk
  have s2 := s1.set (b := b) (t := tt) (cs := [v0, u1, u2]) (i := 1) k v1 (by simp [hkl])
  have s3 := s2.set (b := b) (t := tt) (cs := [v0, v1, u2]) (i := 2) k v2 (by simp [hkl])
  simp only [List.set_set, List.set_cons_zero, List.set_cons_succ] at s3
  exact unitP_ok (st38 (hS.cell k hk rfl) (hS.cell k hk rfl) (hS.cell k hk rfl) (hf _) o0 (hf _) o1 (hf _) o2) (h _ s3)
theorem sr38 {w0 w : World} {F : List Nat} {L : List Res} {e m g c j : Nat} {xs : List Value} {K : Value → World → Prop} {v0 v1 v2 : Value} (k : Nat) (hS : St w0 F w L) (hk : L[k]? = some (Res.row e 3 (.slice (some ⟨g, 0, none⟩) m c) m xs)) (hj : j + 3 ≤ xs.length) (o0 : v0.oneCell' = true) (o1 : v1.oneCell' = true) (o2 : v2.oneCell' = true) (h : ∀ w', St w0 F w' (L.set k (Res.row e 3 (.slice (some ⟨g, 0, none⟩) m c) m (setAll xs j [v0, v1, v2]))) → K undef w') : unitP Try.prog (Instr.storeAt 38 (.pointer (some ⟨g, j, none⟩)) (.agg #[v0, v1, v2])) w K := by
  have hS' := hS.row_sets k [v0, v1, v2] j hk hj
  exact unitP_ok (st38 (hS.row_cell k hk (u := xs[j]'(by omega)) (by simp)) (hS.row_cell k hk (u := xs[j + 1]'(by omega)) (by simp)) (hS.row_cell k hk (u := xs[j + 2]'(by omega)) (by simp)) (hS.row_frozen k hk) o0 (hS.row_frozen k hk) o1 (hS.row_frozen k hk) o2) (h _ hS')
theorem bd38_2 {a2 : Value} (o2 : a2.oneCell' = true) (w : World) : (Instr.build 38 #[(2, a2)]).run Try.prog w = .ok (.agg #[.int .i64 0, .int .i64 0, a2]) w := by
  have e : ∀ v : Value, v.oneCell' = true → v.cells = #[v] := fun v h => by cases v <;> first | rfl | (simp [Value.oneCell'] at h)
  simp only [Value.cells] at e
  simp [go_sem, e _ o2]
theorem fa38_0 (b : Nat) (w : World) : (Instr.fieldAt 38 (.pointer (some ⟨b, 0, none⟩)) 0).run Try.prog w = .ok (.pointer (some ⟨b, 0, none⟩)) w := by kernel_rfl
theorem fao38_0 (b o : Nat) (w : World) : (Instr.fieldAt 38 (.pointer (some ⟨b, o, none⟩)) 0).run Try.prog w = .ok (.pointer (some ⟨b, o, none⟩)) w := by kernel_rfl
theorem ld3 {w : World} {p : Addr} {v : Value} (h : w.cell? p = some v) : (Instr.loadAt 3 (.pointer (some p))).run Try.prog w = .ok v w := by simp [go_sem, h]
theorem fa38_1 (b : Nat) (w : World) : (Instr.fieldAt 38 (.pointer (some ⟨b, 0, none⟩)) 1).run Try.prog w = .ok (.pointer (some ⟨b, 1, none⟩)) w := by kernel_rfl
theorem fao38_1 (b o : Nat) (w : World) : (Instr.fieldAt 38 (.pointer (some ⟨b, o, none⟩)) 1).run Try.prog w = .ok (.pointer (some ⟨b, o + 1, none⟩)) w := by kernel_rfl
theorem bd38_0_1 {a0 a1 : Value} (o0 : a0.oneCell' = true) (o1 : a1.oneCell' = true) (w : World) : (Instr.build 38 #[(0, a0), (1, a1)]).run Try.prog w = .ok (.agg #[a0, a1, .string ⟨#[]⟩]) w := by
  have e : ∀ v : Value, v.oneCell' = true → v.cells = #[v] := fun v h => by cases v <;> first | rfl | (simp [Value.oneCell'] at h)
  simp only [Value.cells] at e
  simp [go_sem, e _ o0, e _ o1]
theorem ld38 {w : World} {b o : Nat} {v0 v1 v2 : Value} (h0 : w.cell? ⟨b, o, none⟩ = some v0) (h1 : w.cell? ⟨b, o + 1, none⟩ = some v1) (h2 : w.cell? ⟨b, o + 2, none⟩ = some v2) : (Instr.loadAt 38 (.pointer (some ⟨b, o, none⟩))).run Try.prog w = .ok (.agg #[v0, v1, v2]) w := by simp [go_sem, Addr.add, h0, h1, h2]
theorem lc38 {w : World} {b o : Nat} {v0 v1 v2 : Value} (h0 : w.cell? ⟨b, o, none⟩ = some v0) (h1 : w.cell? ⟨b, o + 1, none⟩ = some v1) (h2 : w.cell? ⟨b, o + 2, none⟩ = some v2) : (loadC 38 (.pointer (some ⟨b, o, none⟩))).run Try.prog w = .ok (.agg #[v0, v1, v2]) w := by simp [loadC, go_sem, Addr.add, h0, h1, h2]
theorem eq9 (x y : Operand) (a b : ByteArray) (w : World) : (binS .eql 9 x y (.string a) (.string b)).run Try.prog w = .ok (.bool (decide (a = b))) w := by
  by_cases h : a = b
  · simp [binS, go_sem, h]
  · have h' : ¬ a.toList = b.toList := fun e => h (bytes_inj e)
    simp [binS, go_sem, h, h']
theorem ne3 (x y : Operand) (a b : Int) (w : World) : (binS .neq 3 x y (.int .i64 a) (.int .i64 b)).run Try.prog w = .ok (.bool (decide (¬ a = b))) w := by
  by_cases h : a = b <;> simp [binS, go_sem, h]
theorem ls38 {w0 w : World} {F : List Nat} {L : List Res} {b tt : Nat} {K : Value → World → Prop} {v0 v1 v2 : Value} (k : Nat) (hS : St w0 F w L) (hk : L[k]? = some (Res.cells b tt [v0, v1, v2])) (h : K (.agg #[v0, v1, v2]) w) : valP Try.prog (Instr.loadAt 38 (.pointer (some ⟨b, 0, none⟩))) w K :=
  valP_ok (ld38 (hS.cell k hk rfl) (hS.cell k hk rfl) (hS.cell k hk rfl)) h
theorem ix22 {g o n c k : Nat} (h : k < n) (w : World) : (Instr.indexAt 22 (.slice (some ⟨g, o, none⟩) n c) (.int .i64 (k : Int))).run Try.prog w = .ok (.pointer (some ⟨g, o + k * 4, none⟩)) w := by
  have h' : (k : Int) < n := by omega
  simp [go_sem, h', h, add_none]
theorem ixz22 {g n c k : Nat} (h : k < n) (w : World) : (Instr.indexAt 22 (.slice (some ⟨g, 0, none⟩) n c) (.int .i64 (k : Int))).run Try.prog w = .ok (.pointer (some ⟨g, k * 4, none⟩)) w := by
  rw [ix22 h]; simp
theorem fa40_0 (b : Nat) (w : World) : (Instr.fieldAt 40 (.pointer (some ⟨b, 0, none⟩)) 0).run Try.prog w = .ok (.pointer (some ⟨b, 0, none⟩)) w := by kernel_rfl
theorem fao40_0 (b o : Nat) (w : World) : (Instr.fieldAt 40 (.pointer (some ⟨b, o, none⟩)) 0).run Try.prog w = .ok (.pointer (some ⟨b, o, none⟩)) w := by kernel_rfl
theorem fa40_1 (b : Nat) (w : World) : (Instr.fieldAt 40 (.pointer (some ⟨b, 0, none⟩)) 1).run Try.prog w = .ok (.pointer (some ⟨b, 1, none⟩)) w := by kernel_rfl
theorem fao40_1 (b o : Nat) (w : World) : (Instr.fieldAt 40 (.pointer (some ⟨b, o, none⟩)) 1).run Try.prog w = .ok (.pointer (some ⟨b, o + 1, none⟩)) w := by kernel_rfl
theorem len22 {A : Option Addr} {n c : Nat} {t : TypeId} {cs : Array Bool} (w : World) : (builtin .len #[22] t cs #[.slice A n c] : Sem Next).run Try.prog w = .ok (.value (.int .i64 (n : Int))) w := by simp [go_sem]
theorem sh22 {A : Option Addr} {n c k : Nat} (h : k ≤ c) (w : World) : (Instr.sliceAt 22 (.slice A n c) none (some (.int .i64 (k : Int))) none).run Try.prog w = .ok (.slice A k c) w := by
  have h' : ¬ c < k := by omega
  simp [go_sem, h', Addr.add]
theorem ld40 {w : World} {b o : Nat} {v0 v1 v2 v3 : Value} (h0 : w.cell? ⟨b, o, none⟩ = some v0) (h1 : w.cell? ⟨b, o + 1, none⟩ = some v1) (h2 : w.cell? ⟨b, o + 2, none⟩ = some v2) (h3 : w.cell? ⟨b, o + 3, none⟩ = some v3) : (Instr.loadAt 40 (.pointer (some ⟨b, o, none⟩))).run Try.prog w = .ok (.agg #[v0, v1, v2, v3]) w := by simp [go_sem, Addr.add, h0, h1, h2, h3]
theorem ls40 {w0 w : World} {F : List Nat} {L : List Res} {b tt : Nat} {K : Value → World → Prop} {v0 v1 v2 v3 : Value} (k : Nat) (hS : St w0 F w L) (hk : L[k]? = some (Res.cells b tt [v0, v1, v2, v3])) (h : K (.agg #[v0, v1, v2, v3]) w) : valP Try.prog (Instr.loadAt 40 (.pointer (some ⟨b, 0, none⟩))) w K :=
  valP_ok (ld40 (hS.cell k hk rfl) (hS.cell k hk rfl) (hS.cell k hk rfl) (hS.cell k hk rfl)) h
theorem al40 (w : World) : (Instr.alloc 40 true (.tuple #[])).run Try.prog w = .ok (.pointer (some ⟨w.heap.size, 0, none⟩)) (w.alloc (.cells #[.int .i64 0, .int .i64 0, .int .i64 0, .string ⟨#[]⟩] 40)) := by simp [go_sem]
theorem st40 {w : World} {b o : Nat} {v0 v1 v2 v3 : Value} {u0 u1 u2 u3 : Value} (h0 : w.cell? ⟨b, o, none⟩ = some u0) (h1 : w.cell? ⟨b, o + 1, none⟩ = some u1) (h2 : w.cell? ⟨b, o + 2, none⟩ = some u2) (h3 : w.cell? ⟨b, o + 3, none⟩ = some u3) (f0 : w.frozen? ⟨b, o, none⟩ = false) (o0 : v0.oneCell' = true) (f1 : w.frozen? ⟨b, o + 1, none⟩ = false) (o1 : v1.oneCell' = true) (f2 : w.frozen? ⟨b, o + 2, none⟩ = false) (o2 : v2.oneCell' = true) (f3 : w.frozen? ⟨b, o + 3, none⟩ = false) (o3 : v3.oneCell' = true) : (Instr.storeAt 40 (.pointer (some ⟨b, o, none⟩)) (.agg #[v0, v1, v2, v3])).run Try.prog w = .ok () ((((w.setCell ⟨b, o, none⟩ v0).setCell ⟨b, o + 1, none⟩ v1).setCell ⟨b, o + 2, none⟩ v2).setCell ⟨b, o + 3, none⟩ v3) := by
  simp [go_sem, Addr.add, h0, h1, h2, h3, f0, f1, f2, f3, o0, o1, o2, o3, run_store, World.cell?_setCell_other, World.frozen?_setCell]
theorem ss40 {w0 w : World} {F : List Nat} {L : List Res} {b tt : Nat} {K : Value → World → Prop} {v0 v1 v2 v3 u0 u1 u2 u3 : Value} (k : Nat) (hS : St w0 F w L) (hk : L[k]? = some (Res.cells b tt [u0, u1, u2, u3])) (o0 : v0.oneCell' = true) (o1 : v1.oneCell' = true) (o2 : v2.oneCell' = true) (o3 : v3.oneCell' = true) (h : ∀ w', St w0 F w' (L.set k (Res.cells b tt [v0, v1, v2, v3])) → K undef w') : unitP Try.prog (Instr.storeAt 40 (.pointer (some ⟨b, 0, none⟩)) (.agg #[v0, v1, v2, v3])) w K := by
  obtain ⟨hkl, _⟩ := List.getElem?_eq_some_iff.1 hk
  have hf := fun i => hS.frozen (i := i) k hk
  have s1 := hS.set (b := b) (t := tt) (cs := [u0, u1, u2, u3]) (i := 0) k v0 hk
  have s2 := s1.set (b := b) (t := tt) (cs := [v0, u1, u2, u3]) (i := 1) k v1 (by simp [hkl])
  have s3 := s2.set (b := b) (t := tt) (cs := [v0, v1, u2, u3]) (i := 2) k v2 (by simp [hkl])
  have s4 := s3.set (b := b) (t := tt) (cs := [v0, v1, v2, u3]) (i := 3) k v3 (by simp [hkl])
  simp only [List.set_set, List.set_cons_zero, List.set_cons_succ] at s4
  exact unitP_ok (st40 (hS.cell k hk rfl) (hS.cell k hk rfl) (hS.cell k hk rfl) (hS.cell k hk rfl) (hf _) o0 (hf _) o1 (hf _) o2 (hf _) o3) (h _ s4)
theorem sr40 {w0 w : World} {F : List Nat} {L : List Res} {e m g c j : Nat} {xs : List Value} {K : Value → World → Prop} {v0 v1 v2 v3 : Value} (k : Nat) (hS : St w0 F w L) (hk : L[k]? = some (Res.row e 4 (.slice (some ⟨g, 0, none⟩) m c) m xs)) (hj : j + 4 ≤ xs.length) (o0 : v0.oneCell' = true) (o1 : v1.oneCell' = true) (o2 : v2.oneCell' = true) (o3 : v3.oneCell' = true) (h : ∀ w', St w0 F w' (L.set k (Res.row e 4 (.slice (some ⟨g, 0, none⟩) m c) m (setAll xs j [v0, v1, v2, v3]))) → K undef w') : unitP Try.prog (Instr.storeAt 40 (.pointer (some ⟨g, j, none⟩)) (.agg #[v0, v1, v2, v3])) w K := by
  have hS' := hS.row_sets k [v0, v1, v2, v3] j hk hj
  exact unitP_ok (st40 (hS.row_cell k hk (u := xs[j]'(by omega)) (by simp)) (hS.row_cell k hk (u := xs[j + 1]'(by omega)) (by simp)) (hS.row_cell k hk (u := xs[j + 2]'(by omega)) (by simp)) (hS.row_cell k hk (u := xs[j + 3]'(by omega)) (by simp)) (hS.row_frozen k hk) o0 (hS.row_frozen k hk) o1 (hS.row_frozen k hk) o2 (hS.row_frozen k hk) o3) (h _ hS')
theorem st9 {w : World} {p : Addr} {u v : Value} (h : w.cell? p = some u) (hf : w.frozen? p = false) (ho : v.oneCell' = true) : (Instr.storeAt 9 (.pointer (some p)) v).run Try.prog w = .ok () (w.setCell p v) := by
  cases v <;> first | (simp [Value.oneCell'] at ho; done) | (simp [go_sem, h, hf]; done) | (simp [go_sem]; rw [run_store _ _ _ _ _ rfl, h]; simp [hf])
theorem sl22 : SlT Try.prog 22 40 4 40 (.agg #[.int .i64 0, .int .i64 0, .int .i64 0, .string ⟨#[]⟩]) := by unfold SlT; exact ⟨by kernel_rfl, by kernel_rfl, by kernel_rfl, Nat.lt_of_lt_of_le (by decide) (Nat.le_refl _)⟩
theorem bs22_1 {a0_0 a0_1 a0_2 a0_3 : Value} (w : World) : (Instr.buildSlice 22 1 #[(0, .agg #[a0_0, a0_1, a0_2, a0_3])]).run Try.prog w = .ok (.slice (some ⟨w.heap.size, 0, none⟩) 1 1) (w.alloc (.cells #[a0_0, a0_1, a0_2, a0_3] 40)) := by
  have e : ∀ v : Value, v.oneCell' = true → v.cells = #[v] := fun v h => by cases v <;> first | rfl | (simp [Value.oneCell'] at h)
  simp only [Value.cells] at e
  simp [go_sem]
theorem ne40 (x y : Operand) (a0 : Int) (a1 : Int) (a2 : Int) (a3 : ByteArray) (b0 : Int) (b1 : Int) (b2 : Int) (b3 : ByteArray) (w : World) : (binS .neq 40 x y (.agg #[.int .i64 a0, .int .i64 a1, .int .i64 a2, .string a3]) (.agg #[.int .i64 b0, .int .i64 b1, .int .i64 b2, .string b3])).run Try.prog w = .ok (.bool (decide (¬ (a0 = b0 ∧ a1 = b1 ∧ a2 = b2 ∧ a3 = b3)))) w := by
  rw [binS_run _ _ _ _ _ _ (by kernel_rfl), run_neq_struct, run_equalIn_struct w 9999 40 _ _ (by simp [Program.fieldsOf, Try.underlying40]) (by kernel_rfl)]
  by_cases h0 : a0 = b0 <;> by_cases h1 : a1 = b1 <;> by_cases h2 : a2 = b2 <;> by_cases h3 : a3 = b3 <;> simp [go_sem, Program.fieldsOf, Try.underlying40, Op.eqFields, bytes_iff, *]
theorem mm58 (w : World) : (Instr.makeMap 58 none).run Try.prog w = .ok (.map (some w.heap.size)) (w.alloc (.map #[] 0)) := run_makeMap _ _
theorem sl63 : SlT Try.prog 63 3 1 8 (.int .i64 0) := by unfold SlT; exact ⟨by kernel_rfl, by kernel_rfl, by kernel_rfl, Nat.lt_of_lt_of_le (by decide) (Nat.le_refl _)⟩
theorem bs63_5 {a0 a1 a2 a3 a4 : Value} (o0 : a0.oneCell' = true) (o1 : a1.oneCell' = true) (o2 : a2.oneCell' = true) (o3 : a3.oneCell' = true) (o4 : a4.oneCell' = true) (w : World) : (Instr.buildSlice 63 5 #[(0, a0), (1, a1), (2, a2), (3, a3), (4, a4)]).run Try.prog w = .ok (.slice (some ⟨w.heap.size, 0, none⟩) 5 5) (w.alloc (.cells #[a0, a1, a2, a3, a4] 3)) := by
  have e : ∀ v : Value, v.oneCell' = true → v.cells = #[v] := fun v h => by cases v <;> first | rfl | (simp [Value.oneCell'] at h)
  simp only [Value.cells] at e
  simp [go_sem, e _ o0, e _ o1, e _ o2, e _ o3, e _ o4]
theorem bd40_1 {a1_0 a1_1 a1_2 : Value} (w : World) : (Instr.build 40 #[(1, .agg #[a1_0, a1_1, a1_2])]).run Try.prog w = .ok (.agg #[.int .i64 0, a1_0, a1_1, a1_2]) w := by
  have e : ∀ v : Value, v.oneCell' = true → v.cells = #[v] := fun v h => by cases v <;> first | rfl | (simp [Value.oneCell'] at h)
  simp only [Value.cells] at e
  simp [go_sem, Value.cells]
theorem bd38_0_2 {a0 a2 : Value} (o0 : a0.oneCell' = true) (o2 : a2.oneCell' = true) (w : World) : (Instr.build 38 #[(0, a0), (2, a2)]).run Try.prog w = .ok (.agg #[a0, .int .i64 0, a2]) w := by
  have e : ∀ v : Value, v.oneCell' = true → v.cells = #[v] := fun v h => by cases v <;> first | rfl | (simp [Value.oneCell'] at h)
  simp only [Value.cells] at e
  simp [go_sem, e _ o0, e _ o2]
theorem bd40_0_1 {a0 a1_0 a1_1 a1_2 : Value} (o0 : a0.oneCell' = true) (w : World) : (Instr.build 40 #[(0, a0), (1, .agg #[a1_0, a1_1, a1_2])]).run Try.prog w = .ok (.agg #[a0, a1_0, a1_1, a1_2]) w := by
  have e : ∀ v : Value, v.oneCell' = true → v.cells = #[v] := fun v h => by cases v <;> first | rfl | (simp [Value.oneCell'] at h)
  simp only [Value.cells] at e
  simp [go_sem, e _ o0]
theorem bs22_4 {a0_0 a0_1 a0_2 a0_3 a1_0 a1_1 a1_2 a1_3 a2_0 a2_1 a2_2 a2_3 a3_0 a3_1 a3_2 a3_3 : Value} (w : World) : (Instr.buildSlice 22 4 #[(0, .agg #[a0_0, a0_1, a0_2, a0_3]), (1, .agg #[a1_0, a1_1, a1_2, a1_3]), (2, .agg #[a2_0, a2_1, a2_2, a2_3]), (3, .agg #[a3_0, a3_1, a3_2, a3_3])]).run Try.prog w = .ok (.slice (some ⟨w.heap.size, 0, none⟩) 4 4) (w.alloc (.cells #[a0_0, a0_1, a0_2, a0_3, a1_0, a1_1, a1_2, a1_3, a2_0, a2_1, a2_2, a2_3, a3_0, a3_1, a3_2, a3_3] 40)) := by
  have e : ∀ v : Value, v.oneCell' = true → v.cells = #[v] := fun v h => by cases v <;> first | rfl | (simp [Value.oneCell'] at h)
  simp only [Value.cells] at e
  simp [go_sem]
theorem so22 {A : Option Addr} {n c k : Nat} (h : k ≤ n) (hc : n ≤ c) (w : World) : (Instr.sliceAt 22 (.slice A n c) (some (.int .i64 (k : Int))) none none).run Try.prog w = .ok (.slice (if c = k then A else A.map (·.add (k * 4))) (n - k) (c - k)) w := by
  have h' : ¬ n < k := by omega
  simp [go_sem, h', Addr.add]
theorem len63 {A : Option Addr} {n c : Nat} {t : TypeId} {cs : Array Bool} (w : World) : (builtin .len #[63] t cs #[.slice A n c] : Sem Next).run Try.prog w = .ok (.value (.int .i64 (n : Int))) w := by simp [go_sem]
theorem ix63 {g o n c k : Nat} (h : k < n) (w : World) : (Instr.indexAt 63 (.slice (some ⟨g, o, none⟩) n c) (.int .i64 (k : Int))).run Try.prog w = .ok (.pointer (some ⟨g, o + k, none⟩)) w := by
  have h' : (k : Int) < n := by omega
  simp [go_sem, h', h, add_none]
theorem ixz63 {g n c k : Nat} (h : k < n) (w : World) : (Instr.indexAt 63 (.slice (some ⟨g, 0, none⟩) n c) (.int .i64 (k : Int))).run Try.prog w = .ok (.pointer (some ⟨g, k, none⟩)) w := by
  rw [ix63 h]; simp
theorem st3 {w : World} {p : Addr} {u v : Value} (h : w.cell? p = some u) (hf : w.frozen? p = false) (ho : v.oneCell' = true) : (Instr.storeAt 3 (.pointer (some p)) v).run Try.prog w = .ok () (w.setCell p v) := by
  cases v <;> first | (simp [Value.oneCell'] at ho; done) | (simp [go_sem, h, hf]; done) | (simp [go_sem]; rw [run_store _ _ _ _ _ rfl, h]; simp [hf])
theorem eq148 (x y : Operand) (a b : Int) (w : World) : (binS .eql 148 x y (.int .u32 a) (.int .u32 b)).run Try.prog w = .ok (.bool (decide (a = b))) w := by
  by_cases h : a = b <;> simp [binS, go_sem, h]
theorem bs71_4 {a0 a1 a2 a3 : Value} (o0 : a0.oneCell' = true) (o1 : a1.oneCell' = true) (o2 : a2.oneCell' = true) (o3 : a3.oneCell' = true) (w : World) : (Instr.buildSlice 71 4 #[(0, a0), (1, a1), (2, a2), (3, a3)]).run Try.prog w = .ok (.slice (some ⟨w.heap.size, 0, none⟩) 4 4) (w.alloc (.cells #[a0, a1, a2, a3] 5)) := by
  have e : ∀ v : Value, v.oneCell' = true → v.cells = #[v] := fun v h => by cases v <;> first | rfl | (simp [Value.oneCell'] at h)
  simp only [Value.cells] at e
  simp [go_sem, e _ o0, e _ o1, e _ o2, e _ o3]
theorem eq113 (x y : Operand) (a b : Int) (w : World) : (binS .eql 113 x y (.int .u32 a) (.int .u32 b)).run Try.prog w = .ok (.bool (decide (a = b))) w := by
  by_cases h : a = b <;> simp [binS, go_sem, h]
theorem al73 (w : World) : (Instr.alloc 73 true (.tuple #[])).run Try.prog w = .ok (.pointer (some ⟨w.heap.size, 0, none⟩)) (w.alloc (.cells #[.pointer none, .slice none 0 0] 73)) := by simp [go_sem]
theorem bs63_1 {a0 : Value} (o0 : a0.oneCell' = true) (w : World) : (Instr.buildSlice 63 1 #[(0, a0)]).run Try.prog w = .ok (.slice (some ⟨w.heap.size, 0, none⟩) 1 1) (w.alloc (.cells #[a0] 3)) := by
  have e : ∀ v : Value, v.oneCell' = true → v.cells = #[v] := fun v h => by cases v <;> first | rfl | (simp [Value.oneCell'] at h)
  simp only [Value.cells] at e
  simp [go_sem, e _ o0]
theorem bs63_2 {a0 a1 : Value} (o0 : a0.oneCell' = true) (o1 : a1.oneCell' = true) (w : World) : (Instr.buildSlice 63 2 #[(0, a0), (1, a1)]).run Try.prog w = .ok (.slice (some ⟨w.heap.size, 0, none⟩) 2 2) (w.alloc (.cells #[a0, a1] 3)) := by
  have e : ∀ v : Value, v.oneCell' = true → v.cells = #[v] := fun v h => by cases v <;> first | rfl | (simp [Value.oneCell'] at h)
  simp only [Value.cells] at e
  simp [go_sem, e _ o0, e _ o1]
theorem eq42 (x y : Operand) (a b : Int) (w : World) : (binS .eql 42 x y (.int .i64 a) (.int .i64 b)).run Try.prog w = .ok (.bool (decide (a = b))) w := by
  by_cases h : a = b <;> simp [binS, go_sem, h]
theorem bd38_0_1_2 {a0 a1 a2 : Value} (o0 : a0.oneCell' = true) (o1 : a1.oneCell' = true) (o2 : a2.oneCell' = true) (w : World) : (Instr.build 38 #[(0, a0), (1, a1), (2, a2)]).run Try.prog w = .ok (.agg #[a0, a1, a2]) w := by
  have e : ∀ v : Value, v.oneCell' = true → v.cells = #[v] := fun v h => by cases v <;> first | rfl | (simp [Value.oneCell'] at h)
  simp only [Value.cells] at e
  simp [go_sem, e _ o0, e _ o1, e _ o2]
theorem fa73_1 (b : Nat) (w : World) : (Instr.fieldAt 73 (.pointer (some ⟨b, 0, none⟩)) 1).run Try.prog w = .ok (.pointer (some ⟨b, 1, none⟩)) w := by kernel_rfl
theorem fao73_1 (b o : Nat) (w : World) : (Instr.fieldAt 73 (.pointer (some ⟨b, o, none⟩)) 1).run Try.prog w = .ok (.pointer (some ⟨b, o + 1, none⟩)) w := by kernel_rfl
theorem ld71 {w : World} {p : Addr} {v : Value} (h : w.cell? p = some v) : (Instr.loadAt 71 (.pointer (some p))).run Try.prog w = .ok v w := by simp [go_sem, h]
theorem st71 {w : World} {p : Addr} {u v : Value} (h : w.cell? p = some u) (hf : w.frozen? p = false) (ho : v.oneCell' = true) : (Instr.storeAt 71 (.pointer (some p)) v).run Try.prog w = .ok () (w.setCell p v) := by
  cases v <;> first | (simp [Value.oneCell'] at ho; done) | (simp [go_sem, h, hf]; done) | (simp [go_sem]; rw [run_store _ _ _ _ _ rfl, h]; simp [hf])
theorem len71 {A : Option Addr} {n c : Nat} {t : TypeId} {cs : Array Bool} (w : World) : (builtin .len #[71] t cs #[.slice A n c] : Sem Next).run Try.prog w = .ok (.value (.int .i64 (n : Int))) w := by simp [go_sem]
end Go.Proofs.Ytcdnkbplplghmaa.M
