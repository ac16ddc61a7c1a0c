/- The steps of the plain reading at this seat's types; printed by a program of this work. -/
import Derived.Test.YtnhgdngbdoifnaaFwT
import Derived.Test.YtnhgdngbdoifnaaProg
namespace Go.Proofs.Ytnhgdngbdoifnaa.M
open Go.Proofs.Ytnhgdngbdoifnaa.F Go.RowKit
set_option linter.unusedVariables false
set_option linter.unusedSimpArgs false
theorem len9 {s : ByteArray} {t : TypeId} {cs : Array Bool} (w : World) : (builtin .len #[9] t cs #[.string s] : Sem Next).run Try.prog w = .ok (.value (.int .i64 (s.size : Int))) w := by simp [go_sem]
theorem eq3 (x y : Operand) (a b : Int) (w : World) : (binS .eql 3 x y (.int .i64 a) (.int .i64 b)).run Try.prog w = .ok (.bool (decide (a = b))) w := by
  by_cases h : a = b <;> simp [binS, go_sem, h]
theorem eq5 (x y : Operand) (a b : Int) (w : World) : (binS .eql 5 x y (.int .u8 a) (.int .u8 b)).run Try.prog w = .ok (.bool (decide (a = b))) w := by
  by_cases h : a = b <;> simp [binS, go_sem, h]
theorem sl74 : SlT Try.prog 74 5 1 1 (.int .u8 0) := by unfold SlT; exact ⟨by kernel_rfl, by kernel_rfl, by kernel_rfl, Nat.lt_of_lt_of_le (by decide) (Nat.le_refl _)⟩
theorem bs74_1 {a0 : Value} (o0 : a0.oneCell' = true) (w : World) : (Instr.buildSlice 74 1 #[(0, a0)]).run Try.prog w = .ok (.slice (some ⟨w.heap.size, 0, none⟩) 1 1) (w.alloc (.cells #[a0] 5)) := by
  have e : ∀ v : Value, v.oneCell' = true → v.cells = #[v] := fun v h => by cases v <;> first | rfl | (simp [Value.oneCell'] at h)
  simp only [Value.cells] at e
  simp [go_sem, e _ o0]
theorem eq73 (x y : Operand) (a b : Int) (w : World) : (binS .eql 73 x y (.int .u64 a) (.int .u64 b)).run Try.prog w = .ok (.bool (decide (a = b))) w := by
  by_cases h : a = b <;> simp [binS, go_sem, h]
theorem bytes_inj {a b : ByteArray} (h : a.toList = b.toList) : a = b := by
  rw [ByteArray.toList_eq, ByteArray.toList_eq] at h
  exact ByteArray.ext (Array.toList_inj.mp h)
theorem bytes_iff {a b : ByteArray} : a.toList = b.toList ↔ a = b := ⟨bytes_inj, fun e => e ▸ rfl⟩
theorem ne9 (x y : Operand) (a b : ByteArray) (w : World) : (binS .neq 9 x y (.string a) (.string b)).run Try.prog w = .ok (.bool (decide (¬ a = b))) w := by
  by_cases h : a = b
  · simp [binS, go_sem, h]
  · have h' : ¬ a.toList = b.toList := fun e => h (bytes_inj e)
    simp [binS, go_sem, h, h']
theorem al96 (w : World) : (Instr.alloc 96 true (.tuple #[])).run Try.prog w = .ok (.pointer (some ⟨w.heap.size, 0, none⟩)) (w.alloc (.cells #[.int .u8 0, .int .u8 0, .int .u8 0, .int .u8 0, .int .u8 0, .int .u8 0, .int .u8 0, .int .u8 0, .int .u8 0, .int .u8 0] 96)) := by simp [go_sem]
theorem ixa96 {b o k : Nat} (h : k < 10) (w : World) : (Instr.indexAt 96 (.pointer (some ⟨b, o, none⟩)) (.int .i64 (k : Int))).run Try.prog w = .ok (.pointer (some ⟨b, o + k, none⟩)) w := by
  have hk : ((k : Int) < 10) := by omega
  simp [go_sem, hk, h, Addr.add]
theorem st5 {w : World} {p : Addr} {u v : Value} (h : w.cell? p = some u) (hf : w.frozen? p = false) (ho : v.oneCell' = true) : (Instr.storeAt 5 (.pointer (some p)) v).run Try.prog w = .ok () (w.setCell p v) := by
  cases v <;> first | (simp [Value.oneCell'] at ho; done) | (simp [go_sem, h, hf]; done) | (simp [go_sem]; rw [run_store _ _ _ _ _ rfl, h]; simp [hf])
theorem bx46 (v0 v1 v2 : Value) (w : World) : (Instr.box 46 (.agg #[v0, v1, v2])).run Try.prog w = .ok (.pointer (some ⟨w.heap.size, 0, none⟩)) (w.alloc (.cells #[v0, v1, v2] 46)) := by simp [go_sem]
theorem al46 (w : World) : (Instr.alloc 46 true (.tuple #[])).run Try.prog w = .ok (.pointer (some ⟨w.heap.size, 0, none⟩)) (w.alloc (.cells #[.int .i64 0, .int .i64 0, .string ⟨#[]⟩] 46)) := by simp [go_sem]
theorem fa46_2 (b : Nat) (w : World) : (Instr.fieldAt 46 (.pointer (some ⟨b, 0, none⟩)) 2).run Try.prog w = .ok (.pointer (some ⟨b, 2, none⟩)) w := by kernel_rfl
theorem fao46_2 (b o : Nat) (w : World) : (Instr.fieldAt 46 (.pointer (some ⟨b, o, none⟩)) 2).run Try.prog w = .ok (.pointer (some ⟨b, o + 2, none⟩)) w := by kernel_rfl
theorem ld9 {w : World} {p : Addr} {v : Value} (h : w.cell? p = some v) : (Instr.loadAt 9 (.pointer (some p))).run Try.prog w = .ok v w := by simp [go_sem, h]
theorem ne35 (x y : Operand) (a b : Int) (w : World) : (binS .neq 35 x y (.int .i64 a) (.int .i64 b)).run Try.prog w = .ok (.bool (decide (¬ a = b))) w := by
  by_cases h : a = b <;> simp [binS, go_sem, h]
theorem bd46  (w : World) : (Instr.build 46 #[]).run Try.prog w = .ok (.agg #[.int .i64 0, .int .i64 0, .string ⟨#[]⟩]) w := by
  have e : ∀ v : Value, v.oneCell' = true → v.cells = #[v] := fun v h => by cases v <;> first | rfl | (simp [Value.oneCell'] at h)
  simp only [Value.cells] at e
  simp [go_sem, Value.cells]
theorem st46 {w : World} {b o : Nat} {v0 v1 v2 : Value} {u0 u1 u2 : Value} (h0 : w.cell? ⟨b, o, none⟩ = some u0) (h1 : w.cell? ⟨b, o + 1, none⟩ = some u1) (h2 : w.cell? ⟨b, o + 2, none⟩ = some u2) (f0 : w.frozen? ⟨b, o, none⟩ = false) (o0 : v0.oneCell' = true) (f1 : w.frozen? ⟨b, o + 1, none⟩ = false) (o1 : v1.oneCell' = true) (f2 : w.frozen? ⟨b, o + 2, none⟩ = false) (o2 : v2.oneCell' = true) : (Instr.storeAt 46 (.pointer (some ⟨b, o, none⟩)) (.agg #[v0, v1, v2])).run Try.prog w = .ok () (((w.setCell ⟨b, o, none⟩ v0).setCell ⟨b, o + 1, none⟩ v1).setCell ⟨b, o + 2, none⟩ v2) := by
  simp [go_sem, Addr.add, h0, h1, h2, f0, f1, f2, o0, o1, o2, run_store, World.cell?_setCell_other, World.frozen?_setCell]
theorem ss46 {w0 w : World} {F : List Nat} {L : List Res} {b tt : Nat} {K : Value → World → Prop} {v0 v1 v2 u0 u1 u2 : Value} (k : Nat) (hS : St w0 F w L) (hk : L[k]? = some (Res.cells b tt [u0, u1, u2])) (o0 : v0.oneCell' = true) (o1 : v1.oneCell' = true) (o2 : v2.oneCell' = true) (h : ∀ w', St w0 F w' (L.set k (Res.cells b tt [v0, v1, v2])) → K undef w') : unitP Try.prog (Instr.storeAt 46 (.pointer (some ⟨b, 0, none⟩)) (.agg #[v0, v1, v2])) w K := by
  obtain ⟨hkl, _⟩ := List.getElem?_eq_some_iff.1 hk
  have hf := fun i => hS.frozen (i := i) k hk
  have s1 := hS.set (b := b) (t := tt) (cs := [u0, u1, u2]) (i := 0) k v0 hk
  have s2 := s1.set (b := b) (t := tt) (cs := [v0, u1, u2]) (i := 1) k v1 (by simp [hkl])
  have s3 := s2.set (b := b) (t := tt) (cs := [v0, v1, u2]) (i := 2) k v2 (by simp [hkl])
  simp only [List.set_set, List.set_cons_zero, List.set_cons_succ] at s3
  exact unitP_ok (st46 (hS.cell k hk rfl) (hS.cell k hk rfl) (hS.cell k hk rfl) (hf _) o0 (hf _) o1 (hf _) o2) (h _ s3)
theorem sr46 {w0 w : World} {F : List Nat} {L : List Res} {e m g c j : Nat} {xs : List Value} {K : Value → World → Prop} {v0 v1 v2 : Value} (k : Nat) (hS : St w0 F w L) (hk : L[k]? = some (Res.row e 3 (.slice (some ⟨g, 0, none⟩) m c) m xs)) (hj : j + 3 ≤ xs.length) (o0 : v0.oneCell' = true) (o1 : v1.oneCell' = true) (o2 : v2.oneCell' = true) (h : ∀ w', St w0 F w' (L.set k (Res.row e 3 (.slice (some ⟨g, 0, none⟩) m c) m (setAll xs j [v0, v1, v2]))) → K undef w') : unitP Try.prog (Instr.storeAt 46 (.pointer (some ⟨g, j, none⟩)) (.agg #[v0, v1, v2])) w K := by
  have hS' := hS.row_sets k [v0, v1, v2] j hk hj
  exact unitP_ok (st46 (hS.row_cell k hk (u := xs[j]'(by omega)) (by simp)) (hS.row_cell k hk (u := xs[j + 1]'(by omega)) (by simp)) (hS.row_cell k hk (u := xs[j + 2]'(by omega)) (by simp)) (hS.row_frozen k hk) o0 (hS.row_frozen k hk) o1 (hS.row_frozen k hk) o2) (h _ hS')
theorem bd46_2 {a2 : Value} (o2 : a2.oneCell' = true) (w : World) : (Instr.build 46 #[(2, a2)]).run Try.prog w = .ok (.agg #[.int .i64 0, .int .i64 0, a2]) w := by
  have e : ∀ v : Value, v.oneCell' = true → v.cells = #[v] := fun v h => by cases v <;> first | rfl | (simp [Value.oneCell'] at h)
  simp only [Value.cells] at e
  simp [go_sem, e _ o2]
theorem fa46_0 (b : Nat) (w : World) : (Instr.fieldAt 46 (.pointer (some ⟨b, 0, none⟩)) 0).run Try.prog w = .ok (.pointer (some ⟨b, 0, none⟩)) w := by kernel_rfl
theorem fao46_0 (b o : Nat) (w : World) : (Instr.fieldAt 46 (.pointer (some ⟨b, o, none⟩)) 0).run Try.prog w = .ok (.pointer (some ⟨b, o, none⟩)) w := by kernel_rfl
theorem ld3 {w : World} {p : Addr} {v : Value} (h : w.cell? p = some v) : (Instr.loadAt 3 (.pointer (some p))).run Try.prog w = .ok v w := by simp [go_sem, h]
theorem fa46_1 (b : Nat) (w : World) : (Instr.fieldAt 46 (.pointer (some ⟨b, 0, none⟩)) 1).run Try.prog w = .ok (.pointer (some ⟨b, 1, none⟩)) w := by kernel_rfl
theorem fao46_1 (b o : Nat) (w : World) : (Instr.fieldAt 46 (.pointer (some ⟨b, o, none⟩)) 1).run Try.prog w = .ok (.pointer (some ⟨b, o + 1, none⟩)) w := by kernel_rfl
theorem bd46_0_1 {a0 a1 : Value} (o0 : a0.oneCell' = true) (o1 : a1.oneCell' = true) (w : World) : (Instr.build 46 #[(0, a0), (1, a1)]).run Try.prog w = .ok (.agg #[a0, a1, .string ⟨#[]⟩]) w := by
  have e : ∀ v : Value, v.oneCell' = true → v.cells = #[v] := fun v h => by cases v <;> first | rfl | (simp [Value.oneCell'] at h)
  simp only [Value.cells] at e
  simp [go_sem, e _ o0, e _ o1]
theorem ld46 {w : World} {b o : Nat} {v0 v1 v2 : Value} (h0 : w.cell? ⟨b, o, none⟩ = some v0) (h1 : w.cell? ⟨b, o + 1, none⟩ = some v1) (h2 : w.cell? ⟨b, o + 2, none⟩ = some v2) : (Instr.loadAt 46 (.pointer (some ⟨b, o, none⟩))).run Try.prog w = .ok (.agg #[v0, v1, v2]) w := by simp [go_sem, Addr.add, h0, h1, h2]
theorem lc46 {w : World} {b o : Nat} {v0 v1 v2 : Value} (h0 : w.cell? ⟨b, o, none⟩ = some v0) (h1 : w.cell? ⟨b, o + 1, none⟩ = some v1) (h2 : w.cell? ⟨b, o + 2, none⟩ = some v2) : (loadC 46 (.pointer (some ⟨b, o, none⟩))).run Try.prog w = .ok (.agg #[v0, v1, v2]) w := by simp [loadC, go_sem, Addr.add, h0, h1, h2]
theorem eq9 (x y : Operand) (a b : ByteArray) (w : World) : (binS .eql 9 x y (.string a) (.string b)).run Try.prog w = .ok (.bool (decide (a = b))) w := by
  by_cases h : a = b
  · simp [binS, go_sem, h]
  · have h' : ¬ a.toList = b.toList := fun e => h (bytes_inj e)
    simp [binS, go_sem, h, h']
theorem mm53 (w : World) : (Instr.makeMap 53 none).run Try.prog w = .ok (.map (some w.heap.size)) (w.alloc (.map #[] 0)) := run_makeMap _ _
theorem len25 {A : Option Addr} {n c : Nat} {t : TypeId} {cs : Array Bool} (w : World) : (builtin .len #[25] t cs #[.slice A n c] : Sem Next).run Try.prog w = .ok (.value (.int .i64 (n : Int))) w := by simp [go_sem]
theorem ix25 {g o n c k : Nat} (h : k < n) (w : World) : (Instr.indexAt 25 (.slice (some ⟨g, o, none⟩) n c) (.int .i64 (k : Int))).run Try.prog w = .ok (.pointer (some ⟨g, o + k * 4, none⟩)) w := by
  have h' : (k : Int) < n := by omega
  simp [go_sem, h', h, add_none]
theorem ixz25 {g n c k : Nat} (h : k < n) (w : World) : (Instr.indexAt 25 (.slice (some ⟨g, 0, none⟩) n c) (.int .i64 (k : Int))).run Try.prog w = .ok (.pointer (some ⟨g, k * 4, none⟩)) w := by
  rw [ix25 h]; simp
theorem ld48 {w : World} {b o : Nat} {v0 v1 v2 v3 : Value} (h0 : w.cell? ⟨b, o, none⟩ = some v0) (h1 : w.cell? ⟨b, o + 1, none⟩ = some v1) (h2 : w.cell? ⟨b, o + 2, none⟩ = some v2) (h3 : w.cell? ⟨b, o + 3, none⟩ = some v3) : (Instr.loadAt 48 (.pointer (some ⟨b, o, none⟩))).run Try.prog w = .ok (.agg #[v0, v1, v2, v3]) w := by simp [go_sem, Addr.add, h0, h1, h2, h3]
theorem ls48 {w0 w : World} {F : List Nat} {L : List Res} {b tt : Nat} {K : Value → World → Prop} {v0 v1 v2 v3 : Value} (k : Nat) (hS : St w0 F w L) (hk : L[k]? = some (Res.cells b tt [v0, v1, v2, v3])) (h : K (.agg #[v0, v1, v2, v3]) w) : valP Try.prog (Instr.loadAt 48 (.pointer (some ⟨b, 0, none⟩))) w K :=
  valP_ok (ld48 (hS.cell k hk rfl) (hS.cell k hk rfl) (hS.cell k hk rfl) (hS.cell k hk rfl)) h
theorem al48 (w : World) : (Instr.alloc 48 true (.tuple #[])).run Try.prog w = .ok (.pointer (some ⟨w.heap.size, 0, none⟩)) (w.alloc (.cells #[.int .i64 0, .int .i64 0, .int .i64 0, .string ⟨#[]⟩] 48)) := by simp [go_sem]
theorem st48 {w : World} {b o : Nat} {v0 v1 v2 v3 : Value} {u0 u1 u2 u3 : Value} (h0 : w.cell? ⟨b, o, none⟩ = some u0) (h1 : w.cell? ⟨b, o + 1, none⟩ = some u1) (h2 : w.cell? ⟨b, o + 2, none⟩ = some u2) (h3 : w.cell? ⟨b, o + 3, none⟩ = some u3) (f0 : w.frozen? ⟨b, o, none⟩ = false) (o0 : v0.oneCell' = true) (f1 : w.frozen? ⟨b, o + 1, none⟩ = false) (o1 : v1.oneCell' = true) (f2 : w.frozen? ⟨b, o + 2, none⟩ = false) (o2 : v2.oneCell' = true) (f3 : w.frozen? ⟨b, o + 3, none⟩ = false) (o3 : v3.oneCell' = true) : (Instr.storeAt 48 (.pointer (some ⟨b, o, none⟩)) (.agg #[v0, v1, v2, v3])).run Try.prog w = .ok () ((((w.setCell ⟨b, o, none⟩ v0).setCell ⟨b, o + 1, none⟩ v1).setCell ⟨b, o + 2, none⟩ v2).setCell ⟨b, o + 3, none⟩ v3) := by
  simp [go_sem, Addr.add, h0, h1, h2, h3, f0, f1, f2, f3, o0, o1, o2, o3, run_store, World.cell?_setCell_other, World.frozen?_setCell]
theorem ss48 {w0 w : World} {F : List Nat} {L : List Res} {b tt : Nat} {K : Value → World → Prop} {v0 v1 v2 v3 u0 u1 u2 u3 : Value} (k : Nat) (hS : St w0 F w L) (hk : L[k]? = some (Res.cells b tt [u0, u1, u2, u3])) (o0 : v0.oneCell' = true) (o1 : v1.oneCell' = true) (o2 : v2.oneCell' = true) (o3 : v3.oneCell' = true) (h : ∀ w', St w0 F w' (L.set k (Res.cells b tt [v0, v1, v2, v3])) → K undef w') : unitP Try.prog (Instr.storeAt 48 (.pointer (some ⟨b, 0, none⟩)) (.agg #[v0, v1, v2, v3])) w K := by
  obtain ⟨hkl, _⟩ := List.getElem?_eq_some_iff.1 hk
  have hf := fun i => hS.frozen (i := i) k hk
  have s1 := hS.set (b := b) (t := tt) (cs := [u0, u1, u2, u3]) (i := 0) k v0 hk
  have s2 := s1.set (b := b) (t := tt) (cs := [v0, u1, u2, u3]) (i := 1) k v1 (by simp [hkl])
  have s3 := s2.set (b := b) (t := tt) (cs := [v0, v1, u2, u3]) (i := 2) k v2 (by simp [hkl])
  have s4 := s3.set (b := b) (t := tt) (cs := [v0, v1, v2, u3]) (i := 3) k v3 (by simp [hkl])
  simp only [List.set_set, List.set_cons_zero, List.set_cons_succ] at s4
  exact unitP_ok (st48 (hS.cell k hk rfl) (hS.cell k hk rfl) (hS.cell k hk rfl) (hS.cell k hk rfl) (hf _) o0 (hf _) o1 (hf _) o2 (hf _) o3) (h _ s4)
theorem sr48 {w0 w : World} {F : List Nat} {L : List Res} {e m g c j : Nat} {xs : List Value} {K : Value → World → Prop} {v0 v1 v2 v3 : Value} (k : Nat) (hS : St w0 F w L) (hk : L[k]? = some (Res.row e 4 (.slice (some ⟨g, 0, none⟩) m c) m xs)) (hj : j + 4 ≤ xs.length) (o0 : v0.oneCell' = true) (o1 : v1.oneCell' = true) (o2 : v2.oneCell' = true) (o3 : v3.oneCell' = true) (h : ∀ w', St w0 F w' (L.set k (Res.row e 4 (.slice (some ⟨g, 0, none⟩) m c) m (setAll xs j [v0, v1, v2, v3]))) → K undef w') : unitP Try.prog (Instr.storeAt 48 (.pointer (some ⟨g, j, none⟩)) (.agg #[v0, v1, v2, v3])) w K := by
  have hS' := hS.row_sets k [v0, v1, v2, v3] j hk hj
  exact unitP_ok (st48 (hS.row_cell k hk (u := xs[j]'(by omega)) (by simp)) (hS.row_cell k hk (u := xs[j + 1]'(by omega)) (by simp)) (hS.row_cell k hk (u := xs[j + 2]'(by omega)) (by simp)) (hS.row_cell k hk (u := xs[j + 3]'(by omega)) (by simp)) (hS.row_frozen k hk) o0 (hS.row_frozen k hk) o1 (hS.row_frozen k hk) o2 (hS.row_frozen k hk) o3) (h _ hS')
theorem fa48_1 (b : Nat) (w : World) : (Instr.fieldAt 48 (.pointer (some ⟨b, 0, none⟩)) 1).run Try.prog w = .ok (.pointer (some ⟨b, 1, none⟩)) w := by kernel_rfl
theorem fao48_1 (b o : Nat) (w : World) : (Instr.fieldAt 48 (.pointer (some ⟨b, o, none⟩)) 1).run Try.prog w = .ok (.pointer (some ⟨b, o + 1, none⟩)) w := by kernel_rfl
theorem ls46 {w0 w : World} {F : List Nat} {L : List Res} {b tt : Nat} {K : Value → World → Prop} {v0 v1 v2 : Value} (k : Nat) (hS : St w0 F w L) (hk : L[k]? = some (Res.cells b tt [v0, v1, v2])) (h : K (.agg #[v0, v1, v2]) w) : valP Try.prog (Instr.loadAt 46 (.pointer (some ⟨b, 0, none⟩))) w K :=
  valP_ok (ld46 (hS.cell k hk rfl) (hS.cell k hk rfl) (hS.cell k hk rfl)) h
theorem fa48_0 (b : Nat) (w : World) : (Instr.fieldAt 48 (.pointer (some ⟨b, 0, none⟩)) 0).run Try.prog w = .ok (.pointer (some ⟨b, 0, none⟩)) w := by kernel_rfl
theorem fao48_0 (b o : Nat) (w : World) : (Instr.fieldAt 48 (.pointer (some ⟨b, o, none⟩)) 0).run Try.prog w = .ok (.pointer (some ⟨b, o, none⟩)) w := by kernel_rfl
theorem ne3 (x y : Operand) (a b : Int) (w : World) : (binS .neq 3 x y (.int .i64 a) (.int .i64 b)).run Try.prog w = .ok (.bool (decide (¬ a = b))) w := by
  by_cases h : a = b <;> simp [binS, go_sem, h]
theorem sl25 : SlT Try.prog 25 48 4 40 (.agg #[.int .i64 0, .int .i64 0, .int .i64 0, .string ⟨#[]⟩]) := by unfold SlT; exact ⟨by kernel_rfl, by kernel_rfl, by kernel_rfl, Nat.lt_of_lt_of_le (by decide) (Nat.le_refl _)⟩
theorem bs25_1 {a0_0 a0_1 a0_2 a0_3 : Value} (w : World) : (Instr.buildSlice 25 1 #[(0, .agg #[a0_0, a0_1, a0_2, a0_3])]).run Try.prog w = .ok (.slice (some ⟨w.heap.size, 0, none⟩) 1 1) (w.alloc (.cells #[a0_0, a0_1, a0_2, a0_3] 48)) := by
  have e : ∀ v : Value, v.oneCell' = true → v.cells = #[v] := fun v h => by cases v <;> first | rfl | (simp [Value.oneCell'] at h)
  simp only [Value.cells] at e
  simp [go_sem]
theorem ne48 (x y : Operand) (a0 : Int) (a1 : Int) (a2 : Int) (a3 : ByteArray) (b0 : Int) (b1 : Int) (b2 : Int) (b3 : ByteArray) (w : World) : (binS .neq 48 x y (.agg #[.int .i64 a0, .int .i64 a1, .int .i64 a2, .string a3]) (.agg #[.int .i64 b0, .int .i64 b1, .int .i64 b2, .string b3])).run Try.prog w = .ok (.bool (decide (¬ (a0 = b0 ∧ a1 = b1 ∧ a2 = b2 ∧ a3 = b3)))) w := by
  rw [binS_run _ _ _ _ _ _ (by kernel_rfl), run_neq_struct, run_equalIn_struct w 9999 48 _ _ (by simp [Program.fieldsOf, Try.underlying48]) (by kernel_rfl)]
  by_cases h0 : a0 = b0 <;> by_cases h1 : a1 = b1 <;> by_cases h2 : a2 = b2 <;> by_cases h3 : a3 = b3 <;> simp [go_sem, Program.fieldsOf, Try.underlying48, Op.eqFields, bytes_iff, *]
theorem sl51 : SlT Try.prog 51 3 1 8 (.int .i64 0) := by unfold SlT; exact ⟨by kernel_rfl, by kernel_rfl, by kernel_rfl, Nat.lt_of_lt_of_le (by decide) (Nat.le_refl _)⟩
theorem bs51_5 {a0 a1 a2 a3 a4 : Value} (o0 : a0.oneCell' = true) (o1 : a1.oneCell' = true) (o2 : a2.oneCell' = true) (o3 : a3.oneCell' = true) (o4 : a4.oneCell' = true) (w : World) : (Instr.buildSlice 51 5 #[(0, a0), (1, a1), (2, a2), (3, a3), (4, a4)]).run Try.prog w = .ok (.slice (some ⟨w.heap.size, 0, none⟩) 5 5) (w.alloc (.cells #[a0, a1, a2, a3, a4] 3)) := by
  have e : ∀ v : Value, v.oneCell' = true → v.cells = #[v] := fun v h => by cases v <;> first | rfl | (simp [Value.oneCell'] at h)
  simp only [Value.cells] at e
  simp [go_sem, e _ o0, e _ o1, e _ o2, e _ o3, e _ o4]
theorem bd48_1 {a1_0 a1_1 a1_2 : Value} (w : World) : (Instr.build 48 #[(1, .agg #[a1_0, a1_1, a1_2])]).run Try.prog w = .ok (.agg #[.int .i64 0, a1_0, a1_1, a1_2]) w := by
  have e : ∀ v : Value, v.oneCell' = true → v.cells = #[v] := fun v h => by cases v <;> first | rfl | (simp [Value.oneCell'] at h)
  simp only [Value.cells] at e
  simp [go_sem, Value.cells]
theorem bd46_0_2 {a0 a2 : Value} (o0 : a0.oneCell' = true) (o2 : a2.oneCell' = true) (w : World) : (Instr.build 46 #[(0, a0), (2, a2)]).run Try.prog w = .ok (.agg #[a0, .int .i64 0, a2]) w := by
  have e : ∀ v : Value, v.oneCell' = true → v.cells = #[v] := fun v h => by cases v <;> first | rfl | (simp [Value.oneCell'] at h)
  simp only [Value.cells] at e
  simp [go_sem, e _ o0, e _ o2]
theorem bd48_0_1 {a0 a1_0 a1_1 a1_2 : Value} (o0 : a0.oneCell' = true) (w : World) : (Instr.build 48 #[(0, a0), (1, .agg #[a1_0, a1_1, a1_2])]).run Try.prog w = .ok (.agg #[a0, a1_0, a1_1, a1_2]) w := by
  have e : ∀ v : Value, v.oneCell' = true → v.cells = #[v] := fun v h => by cases v <;> first | rfl | (simp [Value.oneCell'] at h)
  simp only [Value.cells] at e
  simp [go_sem, e _ o0]
theorem bs25_4 {a0_0 a0_1 a0_2 a0_3 a1_0 a1_1 a1_2 a1_3 a2_0 a2_1 a2_2 a2_3 a3_0 a3_1 a3_2 a3_3 : Value} (w : World) : (Instr.buildSlice 25 4 #[(0, .agg #[a0_0, a0_1, a0_2, a0_3]), (1, .agg #[a1_0, a1_1, a1_2, a1_3]), (2, .agg #[a2_0, a2_1, a2_2, a2_3]), (3, .agg #[a3_0, a3_1, a3_2, a3_3])]).run Try.prog w = .ok (.slice (some ⟨w.heap.size, 0, none⟩) 4 4) (w.alloc (.cells #[a0_0, a0_1, a0_2, a0_3, a1_0, a1_1, a1_2, a1_3, a2_0, a2_1, a2_2, a2_3, a3_0, a3_1, a3_2, a3_3] 48)) := by
  have e : ∀ v : Value, v.oneCell' = true → v.cells = #[v] := fun v h => by cases v <;> first | rfl | (simp [Value.oneCell'] at h)
  simp only [Value.cells] at e
  simp [go_sem]
theorem so25 {A : Option Addr} {n c k : Nat} (h : k ≤ n) (hc : n ≤ c) (w : World) : (Instr.sliceAt 25 (.slice A n c) (some (.int .i64 (k : Int))) none none).run Try.prog w = .ok (.slice (if c = k then A else A.map (·.add (k * 4))) (n - k) (c - k)) w := by
  have h' : ¬ n < k := by omega
  simp [go_sem, h', Addr.add]
theorem len51 {A : Option Addr} {n c : Nat} {t : TypeId} {cs : Array Bool} (w : World) : (builtin .len #[51] t cs #[.slice A n c] : Sem Next).run Try.prog w = .ok (.value (.int .i64 (n : Int))) w := by simp [go_sem]
theorem ix51 {g o n c k : Nat} (h : k < n) (w : World) : (Instr.indexAt 51 (.slice (some ⟨g, o, none⟩) n c) (.int .i64 (k : Int))).run Try.prog w = .ok (.pointer (some ⟨g, o + k, none⟩)) w := by
  have h' : (k : Int) < n := by omega
  simp [go_sem, h', h, add_none]
theorem ixz51 {g n c k : Nat} (h : k < n) (w : World) : (Instr.indexAt 51 (.slice (some ⟨g, 0, none⟩) n c) (.int .i64 (k : Int))).run Try.prog w = .ok (.pointer (some ⟨g, k, none⟩)) w := by
  rw [ix51 h]; simp
theorem bx23 (v0 v1 v2 : Value) (w : World) : (Instr.box 23 (.agg #[v0, v1, v2])).run Try.prog w = .ok (.pointer (some ⟨w.heap.size, 0, none⟩)) (w.alloc (.cells #[v0, v1, v2] 23)) := by simp [go_sem]
theorem fa23_0 (b : Nat) (w : World) : (Instr.fieldAt 23 (.pointer (some ⟨b, 0, none⟩)) 0).run Try.prog w = .ok (.pointer (some ⟨b, 0, none⟩)) w := by kernel_rfl
theorem fao23_0 (b o : Nat) (w : World) : (Instr.fieldAt 23 (.pointer (some ⟨b, o, none⟩)) 0).run Try.prog w = .ok (.pointer (some ⟨b, o, none⟩)) w := by kernel_rfl
theorem fa23_1 (b : Nat) (w : World) : (Instr.fieldAt 23 (.pointer (some ⟨b, 0, none⟩)) 1).run Try.prog w = .ok (.pointer (some ⟨b, 1, none⟩)) w := by kernel_rfl
theorem fao23_1 (b o : Nat) (w : World) : (Instr.fieldAt 23 (.pointer (some ⟨b, o, none⟩)) 1).run Try.prog w = .ok (.pointer (some ⟨b, o + 1, none⟩)) w := by kernel_rfl
theorem fa23_2 (b : Nat) (w : World) : (Instr.fieldAt 23 (.pointer (some ⟨b, 0, none⟩)) 2).run Try.prog w = .ok (.pointer (some ⟨b, 2, none⟩)) w := by kernel_rfl
theorem fao23_2 (b o : Nat) (w : World) : (Instr.fieldAt 23 (.pointer (some ⟨b, o, none⟩)) 2).run Try.prog w = .ok (.pointer (some ⟨b, o + 2, none⟩)) w := by kernel_rfl
theorem ld23 {w : World} {b o : Nat} {v0 v1 v2 : Value} (h0 : w.cell? ⟨b, o, none⟩ = some v0) (h1 : w.cell? ⟨b, o + 1, none⟩ = some v1) (h2 : w.cell? ⟨b, o + 2, none⟩ = some v2) : (Instr.loadAt 23 (.pointer (some ⟨b, o, none⟩))).run Try.prog w = .ok (.agg #[v0, v1, v2]) w := by simp [go_sem, Addr.add, h0, h1, h2]
theorem ls23 {w0 w : World} {F : List Nat} {L : List Res} {b tt : Nat} {K : Value → World → Prop} {v0 v1 v2 : Value} (k : Nat) (hS : St w0 F w L) (hk : L[k]? = some (Res.cells b tt [v0, v1, v2])) (h : K (.agg #[v0, v1, v2]) w) : valP Try.prog (Instr.loadAt 23 (.pointer (some ⟨b, 0, none⟩))) w K :=
  valP_ok (ld23 (hS.cell k hk rfl) (hS.cell k hk rfl) (hS.cell k hk rfl)) h
theorem bs51_1 {a0 : Value} (o0 : a0.oneCell' = true) (w : World) : (Instr.buildSlice 51 1 #[(0, a0)]).run Try.prog w = .ok (.slice (some ⟨w.heap.size, 0, none⟩) 1 1) (w.alloc (.cells #[a0] 3)) := by
  have e : ∀ v : Value, v.oneCell' = true → v.cells = #[v] := fun v h => by cases v <;> first | rfl | (simp [Value.oneCell'] at h)
  simp only [Value.cells] at e
  simp [go_sem, e _ o0]
theorem bx65 (v0 v1 v2 v3 v4 v5 v6 v7 v8 v9 : Value) (w : World) : (Instr.box 65 (.agg #[v0, v1, v2, v3, v4, v5, v6, v7, v8, v9])).run Try.prog w = .ok (.pointer (some ⟨w.heap.size, 0, none⟩)) (w.alloc (.cells #[v0, v1, v2, v3, v4, v5, v6, v7, v8, v9] 65)) := by simp [go_sem]
theorem al65 (w : World) : (Instr.alloc 65 true (.tuple #[])).run Try.prog w = .ok (.pointer (some ⟨w.heap.size, 0, none⟩)) (w.alloc (.cells #[.int .i64 0, .int .i64 0, .int .i64 0, .int .i64 0, .int .i64 0, .int .i64 0, .int .i64 0, .int .i64 0, .int .i64 0, .int .i64 0] 65)) := by simp [go_sem]
theorem ld65 {w : World} {b o : Nat} {v0 v1 v2 v3 v4 v5 v6 v7 v8 v9 : Value} (h0 : w.cell? ⟨b, o, none⟩ = some v0) (h1 : w.cell? ⟨b, o + 1, none⟩ = some v1) (h2 : w.cell? ⟨b, o + 2, none⟩ = some v2) (h3 : w.cell? ⟨b, o + 3, none⟩ = some v3) (h4 : w.cell? ⟨b, o + 4, none⟩ = some v4) (h5 : w.cell? ⟨b, o + 5, none⟩ = some v5) (h6 : w.cell? ⟨b, o + 6, none⟩ = some v6) (h7 : w.cell? ⟨b, o + 7, none⟩ = some v7) (h8 : w.cell? ⟨b, o + 8, none⟩ = some v8) (h9 : w.cell? ⟨b, o + 9, none⟩ = some v9) : (Instr.loadAt 65 (.pointer (some ⟨b, o, none⟩))).run Try.prog w = .ok (.agg #[v0, v1, v2, v3, v4, v5, v6, v7, v8, v9]) w := by simp [go_sem, Addr.add, h0, h1, h2, h3, h4, h5, h6, h7, h8, h9]
theorem ls65 {w0 w : World} {F : List Nat} {L : List Res} {b tt : Nat} {K : Value → World → Prop} {v0 v1 v2 v3 v4 v5 v6 v7 v8 v9 : Value} (k : Nat) (hS : St w0 F w L) (hk : L[k]? = some (Res.cells b tt [v0, v1, v2, v3, v4, v5, v6, v7, v8, v9])) (h : K (.agg #[v0, v1, v2, v3, v4, v5, v6, v7, v8, v9]) w) : valP Try.prog (Instr.loadAt 65 (.pointer (some ⟨b, 0, none⟩))) w K :=
  valP_ok (ld65 (hS.cell k hk rfl) (hS.cell k hk rfl) (hS.cell k hk rfl) (hS.cell k hk rfl) (hS.cell k hk rfl) (hS.cell k hk rfl) (hS.cell k hk rfl) (hS.cell k hk rfl) (hS.cell k hk rfl) (hS.cell k hk rfl)) h
theorem st65 {w : World} {b o : Nat} {v0 v1 v2 v3 v4 v5 v6 v7 v8 v9 : Value} {u0 u1 u2 u3 u4 u5 u6 u7 u8 u9 : Value} (h0 : w.cell? ⟨b, o, none⟩ = some u0) (h1 : w.cell? ⟨b, o + 1, none⟩ = some u1) (h2 : w.cell? ⟨b, o + 2, none⟩ = some u2) (h3 : w.cell? ⟨b, o + 3, none⟩ = some u3) (h4 : w.cell? ⟨b, o + 4, none⟩ = some u4) (h5 : w.cell? ⟨b, o + 5, none⟩ = some u5) (h6 : w.cell? ⟨b, o + 6, none⟩ = some u6) (h7 : w.cell? ⟨b, o + 7, none⟩ = some u7) (h8 : w.cell? ⟨b, o + 8, none⟩ = some u8) (h9 : w.cell? ⟨b, o + 9, none⟩ = some u9) (f0 : w.frozen? ⟨b, o, none⟩ = false) (o0 : v0.oneCell' = true) (f1 : w.frozen? ⟨b, o + 1, none⟩ = false) (o1 : v1.oneCell' = true) (f2 : w.frozen? ⟨b, o + 2, none⟩ = false) (o2 : v2.oneCell' = true) (f3 : w.frozen? ⟨b, o + 3, none⟩ = false) (o3 : v3.oneCell' = true) (f4 : w.frozen? ⟨b, o + 4, none⟩ = false) (o4 : v4.oneCell' = true) (f5 : w.frozen? ⟨b, o + 5, none⟩ = false) (o5 : v5.oneCell' = true) (f6 : w.frozen? ⟨b, o + 6, none⟩ = false) (o6 : v6.oneCell' = true) (f7 : w.frozen? ⟨b, o + 7, none⟩ = false) (o7 : v7.oneCell' = true) (f8 : w.frozen? ⟨b, o + 8, none⟩ = false) (o8 : v8.oneCell' = true) (f9 : w.frozen? ⟨b, o + 9, none⟩ = false) (o9 : v9.oneCell' = true) : (Instr.storeAt 65 (.pointer (some ⟨b, o, none⟩)) (.agg #[v0, v1, v2, v3, v4, v5, v6, v7, v8, v9])).run Try.prog w = .ok () ((((((((((w.setCell ⟨b, o, none⟩ v0).setCell ⟨b, o + 1, none⟩ v1).setCell ⟨b, o + 2, none⟩ v2).setCell ⟨b, o + 3, none⟩ v3).setCell ⟨b, o + 4, none⟩ v4).setCell ⟨b, o + 5, none⟩ v5).setCell ⟨b, o + 6, none⟩ v6).setCell ⟨b, o + 7, none⟩ v7).setCell ⟨b, o + 8, none⟩ v8).setCell ⟨b, o + 9, none⟩ v9) := by
  simp [go_sem, Addr.add, h0, h1, h2, h3, h4, h5, h6, h7, h8, h9, f0, f1, f2, f3, f4, f5, f6, f7, f8, f9, o0, o1, o2, o3, o4, o5, o6, o7, o8, o9, run_store, World.cell?_setCell_other, World.frozen?_setCell]
theorem ss65 {w0 w : World} {F : List Nat} {L : List Res} {b tt : Nat} {K : Value → World → Prop} {v0 v1 v2 v3 v4 v5 v6 v7 v8 v9 u0 u1 u2 u3 u4 u5 u6 u7 u8 u9 : Value} (k : Nat) (hS : St w0 F w L) (hk : L[k]? = some (Res.cells b tt [u0, u1, u2, u3, u4, u5, u6, u7, u8, u9])) (o0 : v0.oneCell' = true) (o1 : v1.oneCell' = true) (o2 : v2.oneCell' = true) (o3 : v3.oneCell' = true) (o4 : v4.oneCell' = true) (o5 : v5.oneCell' = true) (o6 : v6.oneCell' = true) (o7 : v7.oneCell' = true) (o8 : v8.oneCell' = true) (o9 : v9.oneCell' = true) (h : ∀ w', St w0 F w' (L.set k (Res.cells b tt [v0, v1, v2, v3, v4, v5, v6, v7, v8, v9])) → K undef w') : unitP Try.prog (Instr.storeAt 65 (.pointer (some ⟨b, 0, none⟩)) (.agg #[v0, v1, v2, v3, v4, v5, v6, v7, v8, v9])) w K := by
  obtain ⟨hkl, _⟩ := List.getElem?_eq_some_iff.1 hk
  have hf := fun i => hS.frozen (i := i) k hk
  have s1 := hS.set (b := b) (t := tt) (cs := [u0, u1, u2, u3, u4, u5, u6, u7, u8, u9]) (i := 0) k v0 hk
  have s2 := s1.set (b := b) (t := tt) (cs := [v0, u1, u2, u3, u4, u5, u6, u7, u8, u9]) (i := 1) k v1 (by simp [hkl])
  have s3 := s2.set (b := b) (t := tt) (cs := [v0, v1, u2, u3, u4, u5, u6, u7, u8, u9]) (i := 2) k v2 (by simp [hkl])
  have s4 := s3.set (b := b) (t := tt) (cs := [v0, v1, v2, u3, u4, u5, u6, u7, u8, u9]) (i := 3) k v3 (by simp [hkl])
  have s5 := s4.set (b := b) (t := tt) (cs := [v0, v1, v2, v3, u4, u5, u6, u7, u8, u9]) (i := 4) k v4 (by simp [hkl])
  have s6 := s5.set (b := b) (t := tt) (cs := [v0, v1, v2, v3, v4, u5, u6, u7, u8, u9]) (i := 5) k v5 (by simp [hkl])
  have s7 := s6.set (b := b) (t := tt) (cs := [v0, v1, v2, v3, v4, v5, u6, u7, u8, u9]) (i := 6) k v6 (by simp [hkl])
  have s8 := s7.set (b := b) (t := tt) (cs := [v0, v1, v2, v3, v4, v5, v6, u7, u8, u9]) (i := 7) k v7 (by simp [hkl])
  have s9 := s8.set (b := b) (t := tt) (cs := [v0, v1, v2, v3, v4, v5, v6, v7, u8, u9]) (i := 8) k v8 (by simp [hkl])
  have s10 := s9.set (b := b) (t := tt) (cs := [v0, v1, v2, v3, v4, v5, v6, v7, v8, u9]) (i := 9) k v9 (by simp [hkl])
  simp only [List.set_set, List.set_cons_zero, List.set_cons_succ] at s10
  exact unitP_ok (st65 (hS.cell k hk rfl) (hS.cell k hk rfl) (hS.cell k hk rfl) (hS.cell k hk rfl) (hS.cell k hk rfl) (hS.cell k hk rfl) (hS.cell k hk rfl) (hS.cell k hk rfl) (hS.cell k hk rfl) (hS.cell k hk rfl) (hf _) o0 (hf _) o1 (hf _) o2 (hf _) o3 (hf _) o4 (hf _) o5 (hf _) o6 (hf _) o7 (hf _) o8 (hf _) o9) (h _ s10)
theorem sr65 {w0 w : World} {F : List Nat} {L : List Res} {e m g c j : Nat} {xs : List Value} {K : Value → World → Prop} {v0 v1 v2 v3 v4 v5 v6 v7 v8 v9 : Value} (k : Nat) (hS : St w0 F w L) (hk : L[k]? = some (Res.row e 10 (.slice (some ⟨g, 0, none⟩) m c) m xs)) (hj : j + 10 ≤ xs.length) (o0 : v0.oneCell' = true) (o1 : v1.oneCell' = true) (o2 : v2.oneCell' = true) (o3 : v3.oneCell' = true) (o4 : v4.oneCell' = true) (o5 : v5.oneCell' = true) (o6 : v6.oneCell' = true) (o7 : v7.oneCell' = true) (o8 : v8.oneCell' = true) (o9 : v9.oneCell' = true) (h : ∀ w', St w0 F w' (L.set k (Res.row e 10 (.slice (some ⟨g, 0, none⟩) m c) m (setAll xs j [v0, v1, v2, v3, v4, v5, v6, v7, v8, v9]))) → K undef w') : unitP Try.prog (Instr.storeAt 65 (.pointer (some ⟨g, j, none⟩)) (.agg #[v0, v1, v2, v3, v4, v5, v6, v7, v8, v9])) w K := by
  have hS' := hS.row_sets k [v0, v1, v2, v3, v4, v5, v6, v7, v8, v9] j hk hj
  exact unitP_ok (st65 (hS.row_cell k hk (u := xs[j]'(by omega)) (by simp)) (hS.row_cell k hk (u := xs[j + 1]'(by omega)) (by simp)) (hS.row_cell k hk (u := xs[j + 2]'(by omega)) (by simp)) (hS.row_cell k hk (u := xs[j + 3]'(by omega)) (by simp)) (hS.row_cell k hk (u := xs[j + 4]'(by omega)) (by simp)) (hS.row_cell k hk (u := xs[j + 5]'(by omega)) (by simp)) (hS.row_cell k hk (u := xs[j + 6]'(by omega)) (by simp)) (hS.row_cell k hk (u := xs[j + 7]'(by omega)) (by simp)) (hS.row_cell k hk (u := xs[j + 8]'(by omega)) (by simp)) (hS.row_cell k hk (u := xs[j + 9]'(by omega)) (by simp)) (hS.row_frozen k hk) o0 (hS.row_frozen k hk) o1 (hS.row_frozen k hk) o2 (hS.row_frozen k hk) o3 (hS.row_frozen k hk) o4 (hS.row_frozen k hk) o5 (hS.row_frozen k hk) o6 (hS.row_frozen k hk) o7 (hS.row_frozen k hk) o8 (hS.row_frozen k hk) o9) (h _ hS')
theorem fa65_0 (b : Nat) (w : World) : (Instr.fieldAt 65 (.pointer (some ⟨b, 0, none⟩)) 0).run Try.prog w = .ok (.pointer (some ⟨b, 0, none⟩)) w := by kernel_rfl
theorem fao65_0 (b o : Nat) (w : World) : (Instr.fieldAt 65 (.pointer (some ⟨b, o, none⟩)) 0).run Try.prog w = .ok (.pointer (some ⟨b, o, none⟩)) w := by kernel_rfl
theorem fa65_2 (b : Nat) (w : World) : (Instr.fieldAt 65 (.pointer (some ⟨b, 0, none⟩)) 2).run Try.prog w = .ok (.pointer (some ⟨b, 2, none⟩)) w := by kernel_rfl
theorem fao65_2 (b o : Nat) (w : World) : (Instr.fieldAt 65 (.pointer (some ⟨b, o, none⟩)) 2).run Try.prog w = .ok (.pointer (some ⟨b, o + 2, none⟩)) w := by kernel_rfl
theorem st3 {w : World} {p : Addr} {u v : Value} (h : w.cell? p = some u) (hf : w.frozen? p = false) (ho : v.oneCell' = true) : (Instr.storeAt 3 (.pointer (some p)) v).run Try.prog w = .ok () (w.setCell p v) := by
  cases v <;> first | (simp [Value.oneCell'] at ho; done) | (simp [go_sem, h, hf]; done) | (simp [go_sem]; rw [run_store _ _ _ _ _ rfl, h]; simp [hf])
theorem fa65_3 (b : Nat) (w : World) : (Instr.fieldAt 65 (.pointer (some ⟨b, 0, none⟩)) 3).run Try.prog w = .ok (.pointer (some ⟨b, 3, none⟩)) w := by kernel_rfl
theorem fao65_3 (b o : Nat) (w : World) : (Instr.fieldAt 65 (.pointer (some ⟨b, o, none⟩)) 3).run Try.prog w = .ok (.pointer (some ⟨b, o + 3, none⟩)) w := by kernel_rfl
theorem fa65_1 (b : Nat) (w : World) : (Instr.fieldAt 65 (.pointer (some ⟨b, 0, none⟩)) 1).run Try.prog w = .ok (.pointer (some ⟨b, 1, none⟩)) w := by kernel_rfl
theorem fao65_1 (b o : Nat) (w : World) : (Instr.fieldAt 65 (.pointer (some ⟨b, o, none⟩)) 1).run Try.prog w = .ok (.pointer (some ⟨b, o + 1, none⟩)) w := by kernel_rfl
theorem fa65_4 (b : Nat) (w : World) : (Instr.fieldAt 65 (.pointer (some ⟨b, 0, none⟩)) 4).run Try.prog w = .ok (.pointer (some ⟨b, 4, none⟩)) w := by kernel_rfl
theorem fao65_4 (b o : Nat) (w : World) : (Instr.fieldAt 65 (.pointer (some ⟨b, o, none⟩)) 4).run Try.prog w = .ok (.pointer (some ⟨b, o + 4, none⟩)) w := by kernel_rfl
theorem ixa63 {b o k : Nat} (h : k < 4) (w : World) : (Instr.indexAt 63 (.pointer (some ⟨b, o, none⟩)) (.int .i64 (k : Int))).run Try.prog w = .ok (.pointer (some ⟨b, o + k, none⟩)) w := by
  have hk : ((k : Int) < 4) := by omega
  simp [go_sem, hk, h, Addr.add]
theorem fa65_5 (b : Nat) (w : World) : (Instr.fieldAt 65 (.pointer (some ⟨b, 0, none⟩)) 5).run Try.prog w = .ok (.pointer (some ⟨b, 8, none⟩)) w := by kernel_rfl
theorem fao65_5 (b o : Nat) (w : World) : (Instr.fieldAt 65 (.pointer (some ⟨b, o, none⟩)) 5).run Try.prog w = .ok (.pointer (some ⟨b, o + 8, none⟩)) w := by kernel_rfl
theorem fa65_6 (b : Nat) (w : World) : (Instr.fieldAt 65 (.pointer (some ⟨b, 0, none⟩)) 6).run Try.prog w = .ok (.pointer (some ⟨b, 9, none⟩)) w := by kernel_rfl
theorem fao65_6 (b o : Nat) (w : World) : (Instr.fieldAt 65 (.pointer (some ⟨b, o, none⟩)) 6).run Try.prog w = .ok (.pointer (some ⟨b, o + 9, none⟩)) w := by kernel_rfl
theorem lc65 {w : World} {b o : Nat} {v0 v1 v2 v3 v4 v5 v6 v7 v8 v9 : Value} (h0 : w.cell? ⟨b, o, none⟩ = some v0) (h1 : w.cell? ⟨b, o + 1, none⟩ = some v1) (h2 : w.cell? ⟨b, o + 2, none⟩ = some v2) (h3 : w.cell? ⟨b, o + 3, none⟩ = some v3) (h4 : w.cell? ⟨b, o + 4, none⟩ = some v4) (h5 : w.cell? ⟨b, o + 5, none⟩ = some v5) (h6 : w.cell? ⟨b, o + 6, none⟩ = some v6) (h7 : w.cell? ⟨b, o + 7, none⟩ = some v7) (h8 : w.cell? ⟨b, o + 8, none⟩ = some v8) (h9 : w.cell? ⟨b, o + 9, none⟩ = some v9) : (loadC 65 (.pointer (some ⟨b, o, none⟩))).run Try.prog w = .ok (.agg #[v0, v1, v2, v3, v4, v5, v6, v7, v8, v9]) w := by simp [loadC, go_sem, Addr.add, h0, h1, h2, h3, h4, h5, h6, h7, h8, h9]
theorem bs51_10 {a0 a1 a2 a3 a4 a5 a6 a7 a8 a9 : Value} (o0 : a0.oneCell' = true) (o1 : a1.oneCell' = true) (o2 : a2.oneCell' = true) (o3 : a3.oneCell' = true) (o4 : a4.oneCell' = true) (o5 : a5.oneCell' = true) (o6 : a6.oneCell' = true) (o7 : a7.oneCell' = true) (o8 : a8.oneCell' = true) (o9 : a9.oneCell' = true) (w : World) : (Instr.buildSlice 51 10 #[(0, a0), (1, a1), (2, a2), (3, a3), (4, a4), (5, a5), (6, a6), (7, a7), (8, a8), (9, a9)]).run Try.prog w = .ok (.slice (some ⟨w.heap.size, 0, none⟩) 10 10) (w.alloc (.cells #[a0, a1, a2, a3, a4, a5, a6, a7, a8, a9] 3)) := by
  have e : ∀ v : Value, v.oneCell' = true → v.cells = #[v] := fun v h => by cases v <;> first | rfl | (simp [Value.oneCell'] at h)
  simp only [Value.cells] at e
  simp [go_sem, e _ o0, e _ o1, e _ o2, e _ o3, e _ o4, e _ o5, e _ o6, e _ o7, e _ o8, e _ o9]
theorem bx67 (v0 v1 v2 v3 v4 v5 v6 v7 v8 v9 v10 v11 : Value) (w : World) : (Instr.box 67 (.agg #[v0, v1, v2, v3, v4, v5, v6, v7, v8, v9, v10, v11])).run Try.prog w = .ok (.pointer (some ⟨w.heap.size, 0, none⟩)) (w.alloc (.cells #[v0, v1, v2, v3, v4, v5, v6, v7, v8, v9, v10, v11] 67)) := by simp [go_sem]
theorem fa67_1 (b : Nat) (w : World) : (Instr.fieldAt 67 (.pointer (some ⟨b, 0, none⟩)) 1).run Try.prog w = .ok (.pointer (some ⟨b, 1, none⟩)) w := by kernel_rfl
theorem fao67_1 (b o : Nat) (w : World) : (Instr.fieldAt 67 (.pointer (some ⟨b, o, none⟩)) 1).run Try.prog w = .ok (.pointer (some ⟨b, o + 1, none⟩)) w := by kernel_rfl
theorem fa67_0 (b : Nat) (w : World) : (Instr.fieldAt 67 (.pointer (some ⟨b, 0, none⟩)) 0).run Try.prog w = .ok (.pointer (some ⟨b, 0, none⟩)) w := by kernel_rfl
theorem fao67_0 (b o : Nat) (w : World) : (Instr.fieldAt 67 (.pointer (some ⟨b, o, none⟩)) 0).run Try.prog w = .ok (.pointer (some ⟨b, o, none⟩)) w := by kernel_rfl
theorem bx28 (v0 v1 v2 v3 v4 : Value) (w : World) : (Instr.box 28 (.agg #[v0, v1, v2, v3, v4])).run Try.prog w = .ok (.pointer (some ⟨w.heap.size, 0, none⟩)) (w.alloc (.cells #[v0, v1, v2, v3, v4] 28)) := by simp [go_sem]
theorem fa28_0 (b : Nat) (w : World) : (Instr.fieldAt 28 (.pointer (some ⟨b, 0, none⟩)) 0).run Try.prog w = .ok (.pointer (some ⟨b, 0, none⟩)) w := by kernel_rfl
theorem fao28_0 (b o : Nat) (w : World) : (Instr.fieldAt 28 (.pointer (some ⟨b, o, none⟩)) 0).run Try.prog w = .ok (.pointer (some ⟨b, o, none⟩)) w := by kernel_rfl
theorem fa28_1 (b : Nat) (w : World) : (Instr.fieldAt 28 (.pointer (some ⟨b, 0, none⟩)) 1).run Try.prog w = .ok (.pointer (some ⟨b, 1, none⟩)) w := by kernel_rfl
theorem fao28_1 (b o : Nat) (w : World) : (Instr.fieldAt 28 (.pointer (some ⟨b, o, none⟩)) 1).run Try.prog w = .ok (.pointer (some ⟨b, o + 1, none⟩)) w := by kernel_rfl
theorem fa28_2 (b : Nat) (w : World) : (Instr.fieldAt 28 (.pointer (some ⟨b, 0, none⟩)) 2).run Try.prog w = .ok (.pointer (some ⟨b, 2, none⟩)) w := by kernel_rfl
theorem fao28_2 (b o : Nat) (w : World) : (Instr.fieldAt 28 (.pointer (some ⟨b, o, none⟩)) 2).run Try.prog w = .ok (.pointer (some ⟨b, o + 2, none⟩)) w := by kernel_rfl
theorem fa28_3 (b : Nat) (w : World) : (Instr.fieldAt 28 (.pointer (some ⟨b, 0, none⟩)) 3).run Try.prog w = .ok (.pointer (some ⟨b, 3, none⟩)) w := by kernel_rfl
theorem fao28_3 (b o : Nat) (w : World) : (Instr.fieldAt 28 (.pointer (some ⟨b, o, none⟩)) 3).run Try.prog w = .ok (.pointer (some ⟨b, o + 3, none⟩)) w := by kernel_rfl
theorem fa28_4 (b : Nat) (w : World) : (Instr.fieldAt 28 (.pointer (some ⟨b, 0, none⟩)) 4).run Try.prog w = .ok (.pointer (some ⟨b, 4, none⟩)) w := by kernel_rfl
theorem fao28_4 (b o : Nat) (w : World) : (Instr.fieldAt 28 (.pointer (some ⟨b, o, none⟩)) 4).run Try.prog w = .ok (.pointer (some ⟨b, o + 4, none⟩)) w := by kernel_rfl
theorem ld26 {w : World} {p : Addr} {v : Value} (h : w.cell? p = some v) : (Instr.loadAt 26 (.pointer (some p))).run Try.prog w = .ok v w := by simp [go_sem, h]
theorem len26 {A : Option Addr} {n c : Nat} {t : TypeId} {cs : Array Bool} (w : World) : (builtin .len #[26] t cs #[.slice A n c] : Sem Next).run Try.prog w = .ok (.value (.int .i64 (n : Int))) w := by simp [go_sem]
theorem ix26 {g o n c k : Nat} (h : k < n) (w : World) : (Instr.indexAt 26 (.slice (some ⟨g, o, none⟩) n c) (.int .i64 (k : Int))).run Try.prog w = .ok (.pointer (some ⟨g, o + k * 12, none⟩)) w := by
  have h' : (k : Int) < n := by omega
  simp [go_sem, h', h, add_none]
theorem ixz26 {g n c k : Nat} (h : k < n) (w : World) : (Instr.indexAt 26 (.slice (some ⟨g, 0, none⟩) n c) (.int .i64 (k : Int))).run Try.prog w = .ok (.pointer (some ⟨g, k * 12, none⟩)) w := by
  rw [ix26 h]; simp
theorem ld67 {w : World} {b o : Nat} {v0 v1 v2 v3 v4 v5 v6 v7 v8 v9 v10 v11 : Value} (h0 : w.cell? ⟨b, o, none⟩ = some v0) (h1 : w.cell? ⟨b, o + 1, none⟩ = some v1) (h2 : w.cell? ⟨b, o + 2, none⟩ = some v2) (h3 : w.cell? ⟨b, o + 3, none⟩ = some v3) (h4 : w.cell? ⟨b, o + 4, none⟩ = some v4) (h5 : w.cell? ⟨b, o + 5, none⟩ = some v5) (h6 : w.cell? ⟨b, o + 6, none⟩ = some v6) (h7 : w.cell? ⟨b, o + 7, none⟩ = some v7) (h8 : w.cell? ⟨b, o + 8, none⟩ = some v8) (h9 : w.cell? ⟨b, o + 9, none⟩ = some v9) (h10 : w.cell? ⟨b, o + 10, none⟩ = some v10) (h11 : w.cell? ⟨b, o + 11, none⟩ = some v11) : (Instr.loadAt 67 (.pointer (some ⟨b, o, none⟩))).run Try.prog w = .ok (.agg #[v0, v1, v2, v3, v4, v5, v6, v7, v8, v9, v10, v11]) w := by simp [go_sem, Addr.add, h0, h1, h2, h3, h4, h5, h6, h7, h8, h9, h10, h11]
theorem ls67 {w0 w : World} {F : List Nat} {L : List Res} {b tt : Nat} {K : Value → World → Prop} {v0 v1 v2 v3 v4 v5 v6 v7 v8 v9 v10 v11 : Value} (k : Nat) (hS : St w0 F w L) (hk : L[k]? = some (Res.cells b tt [v0, v1, v2, v3, v4, v5, v6, v7, v8, v9, v10, v11])) (h : K (.agg #[v0, v1, v2, v3, v4, v5, v6, v7, v8, v9, v10, v11]) w) : valP Try.prog (Instr.loadAt 67 (.pointer (some ⟨b, 0, none⟩))) w K :=
  valP_ok (ld67 (hS.cell k hk rfl) (hS.cell k hk rfl) (hS.cell k hk rfl) (hS.cell k hk rfl) (hS.cell k hk rfl) (hS.cell k hk rfl) (hS.cell k hk rfl) (hS.cell k hk rfl) (hS.cell k hk rfl) (hS.cell k hk rfl) (hS.cell k hk rfl) (hS.cell k hk rfl)) h
theorem al67 (w : World) : (Instr.alloc 67 true (.tuple #[])).run Try.prog w = .ok (.pointer (some ⟨w.heap.size, 0, none⟩)) (w.alloc (.cells #[.int .i64 0, .int .i64 0, .int .i64 0, .int .i64 0, .int .i64 0, .int .i64 0, .int .i64 0, .int .i64 0, .int .i64 0, .int .i64 0, .int .i64 0, .int .i64 0] 67)) := by simp [go_sem]
theorem st67 {w : World} {b o : Nat} {v0 v1 v2 v3 v4 v5 v6 v7 v8 v9 v10 v11 : Value} {u0 u1 u2 u3 u4 u5 u6 u7 u8 u9 u10 u11 : Value} (h0 : w.cell? ⟨b, o, none⟩ = some u0) (h1 : w.cell? ⟨b, o + 1, none⟩ = some u1) (h2 : w.cell? ⟨b, o + 2, none⟩ = some u2) (h3 : w.cell? ⟨b, o + 3, none⟩ = some u3) (h4 : w.cell? ⟨b, o + 4, none⟩ = some u4) (h5 : w.cell? ⟨b, o + 5, none⟩ = some u5) (h6 : w.cell? ⟨b, o + 6, none⟩ = some u6) (h7 : w.cell? ⟨b, o + 7, none⟩ = some u7) (h8 : w.cell? ⟨b, o + 8, none⟩ = some u8) (h9 : w.cell? ⟨b, o + 9, none⟩ = some u9) (h10 : w.cell? ⟨b, o + 10, none⟩ = some u10) (h11 : w.cell? ⟨b, o + 11, none⟩ = some u11) (f0 : w.frozen? ⟨b, o, none⟩ = false) (o0 : v0.oneCell' = true) (f1 : w.frozen? ⟨b, o + 1, none⟩ = false) (o1 : v1.oneCell' = true) (f2 : w.frozen? ⟨b, o + 2, none⟩ = false) (o2 : v2.oneCell' = true) (f3 : w.frozen? ⟨b, o + 3, none⟩ = false) (o3 : v3.oneCell' = true) (f4 : w.frozen? ⟨b, o + 4, none⟩ = false) (o4 : v4.oneCell' = true) (f5 : w.frozen? ⟨b, o + 5, none⟩ = false) (o5 : v5.oneCell' = true) (f6 : w.frozen? ⟨b, o + 6, none⟩ = false) (o6 : v6.oneCell' = true) (f7 : w.frozen? ⟨b, o + 7, none⟩ = false) (o7 : v7.oneCell' = true) (f8 : w.frozen? ⟨b, o + 8, none⟩ = false) (o8 : v8.oneCell' = true) (f9 : w.frozen? ⟨b, o + 9, none⟩ = false) (o9 : v9.oneCell' = true) (f10 : w.frozen? ⟨b, o + 10, none⟩ = false) (o10 : v10.oneCell' = true) (f11 : w.frozen? ⟨b, o + 11, none⟩ = false) (o11 : v11.oneCell' = true) : (Instr.storeAt 67 (.pointer (some ⟨b, o, none⟩)) (.agg #[v0, v1, v2, v3, v4, v5, v6, v7, v8, v9, v10, v11])).run Try.prog w = .ok () ((((((((((((w.setCell ⟨b, o, none⟩ v0).setCell ⟨b, o + 1, none⟩ v1).setCell ⟨b, o + 2, none⟩ v2).setCell ⟨b, o + 3, none⟩ v3).setCell ⟨b, o + 4, none⟩ v4).setCell ⟨b, o + 5, none⟩ v5).setCell ⟨b, o + 6, none⟩ v6).setCell ⟨b, o + 7, none⟩ v7).setCell ⟨b, o + 8, none⟩ v8).setCell ⟨b, o + 9, none⟩ v9).setCell ⟨b, o + 10, none⟩ v10).setCell ⟨b, o + 11, none⟩ v11) := by
  simp [go_sem, Addr.add, h0, h1, h2, h3, h4, h5, h6, h7, h8, h9, h10, h11, f0, f1, f2, f3, f4, f5, f6, f7, f8, f9, f10, f11, o0, o1, o2, o3, o4, o5, o6, o7, o8, o9, o10, o11, run_store, World.cell?_setCell_other, World.frozen?_setCell]
theorem ss67 {w0 w : World} {F : List Nat} {L : List Res} {b tt : Nat} {K : Value → World → Prop} {v0 v1 v2 v3 v4 v5 v6 v7 v8 v9 v10 v11 u0 u1 u2 u3 u4 u5 u6 u7 u8 u9 u10 u11 : Value} (k : Nat) (hS : St w0 F w L) (hk : L[k]? = some (Res.cells b tt [u0, u1, u2, u3, u4, u5, u6, u7, u8, u9, u10, u11])) (o0 : v0.oneCell' = true) (o1 : v1.oneCell' = true) (o2 : v2.oneCell' = true) (o3 : v3.oneCell' = true) (o4 : v4.oneCell' = true) (o5 : v5.oneCell' = true) (o6 : v6.oneCell' = true) (o7 : v7.oneCell' = true) (o8 : v8.oneCell' = true) (o9 : v9.oneCell' = true) (o10 : v10.oneCell' = true) (o11 : v11.oneCell' = true) (h : ∀ w', St w0 F w' (L.set k (Res.cells b tt [v0, v1, v2, v3, v4, v5, v6, v7, v8, v9, v10, v11])) → K undef w') : unitP Try.prog (Instr.storeAt 67 (.pointer (some ⟨b, 0, none⟩)) (.agg #[v0, v1, v2, v3, v4, v5, v6, v7, v8, v9, v10, v11])) w K := by
  obtain ⟨hkl, _⟩ := List.getElem?_eq_some_iff.1 hk
  have hf := fun i => hS.frozen (i := i) k hk
  have s1 := hS.set (b := b) (t := tt) (cs := [u0, u1, u2, u3, u4, u5, u6, u7, u8, u9, u10, u11]) (i := 0) k v0 hk
  have s2 := s1.set (b := b) (t := tt) (cs := [v0, u1, u2, u3, u4, u5, u6, u7, u8, u9, u10, u11]) (i := 1) k v1 (by simp [hkl])
  have s3 := s2.set (b := b) (t := tt) (cs := [v0, v1, u2, u3, u4, u5, u6, u7, u8, u9, u10, u11]) (i := 2) k v2 (by simp [hkl])
  have s4 := s3.set (b := b) (t := tt) (cs := [v0, v1, v2, u3, u4, u5, u6, u7, u8, u9, u10, u11]) (i := 3) k v3 (by simp [hkl])
  have s5 := s4.set (b := b) (t := tt) (cs := [v0, v1, v2, v3, u4, u5, u6, u7, u8, u9, u10, u11]) (i := 4) k v4 (by simp [hkl])
  have s6 := s5.set (b := b) (t := tt) (cs := [v0, v1, v2, v3, v4, u5, u6, u7, u8, u9, u10, u11]) (i := 5) k v5 (by simp [hkl])
  have s7 := s6.set (b := b) (t := tt) (cs := [v0, v1, v2, v3, v4, v5, u6, u7, u8, u9, u10, u11]) (i := 6) k v6 (by simp [hkl])
  have s8 := s7.set (b := b) (t := tt) (cs := [v0, v1, v2, v3, v4, v5, v6, u7, u8, u9, u10, u11]) (i := 7) k v7 (by simp [hkl])
  have s9 := s8.set (b := b) (t := tt) (cs := [v0, v1, v2, v3, v4, v5, v6, v7, u8, u9, u10, u11]) (i := 8) k v8 (by simp [hkl])
  have s10 := s9.set (b := b) (t := tt) (cs := [v0, v1, v2, v3, v4, v5, v6, v7, v8, u9, u10, u11]) (i := 9) k v9 (by simp [hkl])
  have s11 := s10.set (b := b) (t := tt) (cs := [v0, v1, v2, v3, v4, v5, v6, v7, v8, v9, u10, u11]) (i := 10) k v10 (by simp [hkl])
  have s12 := s11.set (b := b) (t := tt) (cs := [v0, v1, v2, v3, v4, v5, v6, v7, v8, v9, v10, u11]) (i := 11) k v11 (by simp [hkl])
  simp only [List.set_set, List.set_cons_zero, List.set_cons_succ] at s12
  exact unitP_ok (st67 (hS.cell k hk rfl) (hS.cell k hk rfl) (hS.cell k hk rfl) (hS.cell k hk rfl) (hS.cell k hk rfl) (hS.cell k hk rfl) (hS.cell k hk rfl) (hS.cell k hk rfl) (hS.cell k hk rfl) (hS.cell k hk rfl) (hS.cell k hk rfl) (hS.cell k hk rfl) (hf _) o0 (hf _) o1 (hf _) o2 (hf _) o3 (hf _) o4 (hf _) o5 (hf _) o6 (hf _) o7 (hf _) o8 (hf _) o9 (hf _) o10 (hf _) o11) (h _ s12)
theorem sr67 {w0 w : World} {F : List Nat} {L : List Res} {e m g c j : Nat} {xs : List Value} {K : Value → World → Prop} {v0 v1 v2 v3 v4 v5 v6 v7 v8 v9 v10 v11 : Value} (k : Nat) (hS : St w0 F w L) (hk : L[k]? = some (Res.row e 12 (.slice (some ⟨g, 0, none⟩) m c) m xs)) (hj : j + 12 ≤ xs.length) (o0 : v0.oneCell' = true) (o1 : v1.oneCell' = true) (o2 : v2.oneCell' = true) (o3 : v3.oneCell' = true) (o4 : v4.oneCell' = true) (o5 : v5.oneCell' = true) (o6 : v6.oneCell' = true) (o7 : v7.oneCell' = true) (o8 : v8.oneCell' = true) (o9 : v9.oneCell' = true) (o10 : v10.oneCell' = true) (o11 : v11.oneCell' = true) (h : ∀ w', St w0 F w' (L.set k (Res.row e 12 (.slice (some ⟨g, 0, none⟩) m c) m (setAll xs j [v0, v1, v2, v3, v4, v5, v6, v7, v8, v9, v10, v11]))) → K undef w') : unitP Try.prog (Instr.storeAt 67 (.pointer (some ⟨g, j, none⟩)) (.agg #[v0, v1, v2, v3, v4, v5, v6, v7, v8, v9, v10, v11])) w K := by
  have hS' := hS.row_sets k [v0, v1, v2, v3, v4, v5, v6, v7, v8, v9, v10, v11] j hk hj
  exact unitP_ok (st67 (hS.row_cell k hk (u := xs[j]'(by omega)) (by simp)) (hS.row_cell k hk (u := xs[j + 1]'(by omega)) (by simp)) (hS.row_cell k hk (u := xs[j + 2]'(by omega)) (by simp)) (hS.row_cell k hk (u := xs[j + 3]'(by omega)) (by simp)) (hS.row_cell k hk (u := xs[j + 4]'(by omega)) (by simp)) (hS.row_cell k hk (u := xs[j + 5]'(by omega)) (by simp)) (hS.row_cell k hk (u := xs[j + 6]'(by omega)) (by simp)) (hS.row_cell k hk (u := xs[j + 7]'(by omega)) (by simp)) (hS.row_cell k hk (u := xs[j + 8]'(by omega)) (by simp)) (hS.row_cell k hk (u := xs[j + 9]'(by omega)) (by simp)) (hS.row_cell k hk (u := xs[j + 10]'(by omega)) (by simp)) (hS.row_cell k hk (u := xs[j + 11]'(by omega)) (by simp)) (hS.row_frozen k hk) o0 (hS.row_frozen k hk) o1 (hS.row_frozen k hk) o2 (hS.row_frozen k hk) o3 (hS.row_frozen k hk) o4 (hS.row_frozen k hk) o5 (hS.row_frozen k hk) o6 (hS.row_frozen k hk) o7 (hS.row_frozen k hk) o8 (hS.row_frozen k hk) o9 (hS.row_frozen k hk) o10 (hS.row_frozen k hk) o11) (h _ hS')
theorem fa67_2 (b : Nat) (w : World) : (Instr.fieldAt 67 (.pointer (some ⟨b, 0, none⟩)) 2).run Try.prog w = .ok (.pointer (some ⟨b, 2, none⟩)) w := by kernel_rfl
theorem fao67_2 (b o : Nat) (w : World) : (Instr.fieldAt 67 (.pointer (some ⟨b, o, none⟩)) 2).run Try.prog w = .ok (.pointer (some ⟨b, o + 2, none⟩)) w := by kernel_rfl
theorem bd67_0_1 {a0 a1 : Value} (o0 : a0.oneCell' = true) (o1 : a1.oneCell' = true) (w : World) : (Instr.build 67 #[(0, a0), (1, a1)]).run Try.prog w = .ok (.agg #[a0, a1, .int .i64 0, .int .i64 0, .int .i64 0, .int .i64 0, .int .i64 0, .int .i64 0, .int .i64 0, .int .i64 0, .int .i64 0, .int .i64 0]) w := by
  have e : ∀ v : Value, v.oneCell' = true → v.cells = #[v] := fun v h => by cases v <;> first | rfl | (simp [Value.oneCell'] at h)
  simp only [Value.cells] at e
  simp [go_sem, e _ o0, e _ o1]
theorem sl26 : SlT Try.prog 26 67 12 96 (.agg #[.int .i64 0, .int .i64 0, .int .i64 0, .int .i64 0, .int .i64 0, .int .i64 0, .int .i64 0, .int .i64 0, .int .i64 0, .int .i64 0, .int .i64 0, .int .i64 0]) := by unfold SlT; exact ⟨by kernel_rfl, by kernel_rfl, by kernel_rfl, Nat.lt_of_lt_of_le (by decide) (Nat.le_refl _)⟩
theorem bs26_1 {a0_0 a0_1 a0_2 a0_3 a0_4 a0_5 a0_6 a0_7 a0_8 a0_9 a0_10 a0_11 : Value} (w : World) : (Instr.buildSlice 26 1 #[(0, .agg #[a0_0, a0_1, a0_2, a0_3, a0_4, a0_5, a0_6, a0_7, a0_8, a0_9, a0_10, a0_11])]).run Try.prog w = .ok (.slice (some ⟨w.heap.size, 0, none⟩) 1 1) (w.alloc (.cells #[a0_0, a0_1, a0_2, a0_3, a0_4, a0_5, a0_6, a0_7, a0_8, a0_9, a0_10, a0_11] 67)) := by
  have e : ∀ v : Value, v.oneCell' = true → v.cells = #[v] := fun v h => by cases v <;> first | rfl | (simp [Value.oneCell'] at h)
  simp only [Value.cells] at e
  simp [go_sem]
theorem so26 {A : Option Addr} {n c k : Nat} (h : k ≤ n) (hc : n ≤ c) (w : World) : (Instr.sliceAt 26 (.slice A n c) (some (.int .i64 (k : Int))) none none).run Try.prog w = .ok (.slice (if c = k then A else A.map (·.add (k * 12))) (n - k) (c - k)) w := by
  have h' : ¬ n < k := by omega
  simp [go_sem, h', Addr.add]
theorem al28 (w : World) : (Instr.alloc 28 true (.tuple #[])).run Try.prog w = .ok (.pointer (some ⟨w.heap.size, 0, none⟩)) (w.alloc (.cells #[.int .i64 0, .int .i64 0, .int .i64 0, .int .i64 0, .slice none 0 0] 28)) := by simp [go_sem]
theorem ld28 {w : World} {b o : Nat} {v0 v1 v2 v3 v4 : Value} (h0 : w.cell? ⟨b, o, none⟩ = some v0) (h1 : w.cell? ⟨b, o + 1, none⟩ = some v1) (h2 : w.cell? ⟨b, o + 2, none⟩ = some v2) (h3 : w.cell? ⟨b, o + 3, none⟩ = some v3) (h4 : w.cell? ⟨b, o + 4, none⟩ = some v4) : (Instr.loadAt 28 (.pointer (some ⟨b, o, none⟩))).run Try.prog w = .ok (.agg #[v0, v1, v2, v3, v4]) w := by simp [go_sem, Addr.add, h0, h1, h2, h3, h4]
theorem ls28 {w0 w : World} {F : List Nat} {L : List Res} {b tt : Nat} {K : Value → World → Prop} {v0 v1 v2 v3 v4 : Value} (k : Nat) (hS : St w0 F w L) (hk : L[k]? = some (Res.cells b tt [v0, v1, v2, v3, v4])) (h : K (.agg #[v0, v1, v2, v3, v4]) w) : valP Try.prog (Instr.loadAt 28 (.pointer (some ⟨b, 0, none⟩))) w K :=
  valP_ok (ld28 (hS.cell k hk rfl) (hS.cell k hk rfl) (hS.cell k hk rfl) (hS.cell k hk rfl) (hS.cell k hk rfl)) h
theorem bd28  (w : World) : (Instr.build 28 #[]).run Try.prog w = .ok (.agg #[.int .i64 0, .int .i64 0, .int .i64 0, .int .i64 0, .slice none 0 0]) w := by
  have e : ∀ v : Value, v.oneCell' = true → v.cells = #[v] := fun v h => by cases v <;> first | rfl | (simp [Value.oneCell'] at h)
  simp only [Value.cells] at e
  simp [go_sem, Value.cells]
theorem st28 {w : World} {b o : Nat} {v0 v1 v2 v3 v4 : Value} {u0 u1 u2 u3 u4 : Value} (h0 : w.cell? ⟨b, o, none⟩ = some u0) (h1 : w.cell? ⟨b, o + 1, none⟩ = some u1) (h2 : w.cell? ⟨b, o + 2, none⟩ = some u2) (h3 : w.cell? ⟨b, o + 3, none⟩ = some u3) (h4 : w.cell? ⟨b, o + 4, none⟩ = some u4) (f0 : w.frozen? ⟨b, o, none⟩ = false) (o0 : v0.oneCell' = true) (f1 : w.frozen? ⟨b, o + 1, none⟩ = false) (o1 : v1.oneCell' = true) (f2 : w.frozen? ⟨b, o + 2, none⟩ = false) (o2 : v2.oneCell' = true) (f3 : w.frozen? ⟨b, o + 3, none⟩ = false) (o3 : v3.oneCell' = true) (f4 : w.frozen? ⟨b, o + 4, none⟩ = false) (o4 : v4.oneCell' = true) : (Instr.storeAt 28 (.pointer (some ⟨b, o, none⟩)) (.agg #[v0, v1, v2, v3, v4])).run Try.prog w = .ok () (((((w.setCell ⟨b, o, none⟩ v0).setCell ⟨b, o + 1, none⟩ v1).setCell ⟨b, o + 2, none⟩ v2).setCell ⟨b, o + 3, none⟩ v3).setCell ⟨b, o + 4, none⟩ v4) := by
  simp [go_sem, Addr.add, h0, h1, h2, h3, h4, f0, f1, f2, f3, f4, o0, o1, o2, o3, o4, run_store, World.cell?_setCell_other, World.frozen?_setCell]
theorem ss28 {w0 w : World} {F : List Nat} {L : List Res} {b tt : Nat} {K : Value → World → Prop} {v0 v1 v2 v3 v4 u0 u1 u2 u3 u4 : Value} (k : Nat) (hS : St w0 F w L) (hk : L[k]? = some (Res.cells b tt [u0, u1, u2, u3, u4])) (o0 : v0.oneCell' = true) (o1 : v1.oneCell' = true) (o2 : v2.oneCell' = true) (o3 : v3.oneCell' = true) (o4 : v4.oneCell' = true) (h : ∀ w', St w0 F w' (L.set k (Res.cells b tt [v0, v1, v2, v3, v4])) → K undef w') : unitP Try.prog (Instr.storeAt 28 (.pointer (some ⟨b, 0, none⟩)) (.agg #[v0, v1, v2, v3, v4])) w K := by
  obtain ⟨hkl, _⟩ := List.getElem?_eq_some_iff.1 hk
  have hf := fun i => hS.frozen (i := i) k hk
  have s1 := hS.set (b := b) (t := tt) (cs := [u0, u1, u2, u3, u4]) (i := 0) k v0 hk
  have s2 := s1.set (b := b) (t := tt) (cs := [v0, u1, u2, u3, u4]) (i := 1) k v1 (by simp [hkl])
  have s3 := s2.set (b := b) (t := tt) (cs := [v0, v1, u2, u3, u4]) (i := 2) k v2 (by simp [hkl])
  have s4 := s3.set (b := b) (t := tt) (cs := [v0, v1, v2, u3, u4]) (i := 3) k v3 (by simp [hkl])
  have s5 := s4.set (b := b) (t := tt) (cs := [v0, v1, v2, v3, u4]) (i := 4) k v4 (by simp [hkl])
  simp only [List.set_set, List.set_cons_zero, List.set_cons_succ] at s5
  exact unitP_ok (st28 (hS.cell k hk rfl) (hS.cell k hk rfl) (hS.cell k hk rfl) (hS.cell k hk rfl) (hS.cell k hk rfl) (hf _) o0 (hf _) o1 (hf _) o2 (hf _) o3 (hf _) o4) (h _ s5)
theorem sr28 {w0 w : World} {F : List Nat} {L : List Res} {e m g c j : Nat} {xs : List Value} {K : Value → World → Prop} {v0 v1 v2 v3 v4 : Value} (k : Nat) (hS : St w0 F w L) (hk : L[k]? = some (Res.row e 5 (.slice (some ⟨g, 0, none⟩) m c) m xs)) (hj : j + 5 ≤ xs.length) (o0 : v0.oneCell' = true) (o1 : v1.oneCell' = true) (o2 : v2.oneCell' = true) (o3 : v3.oneCell' = true) (o4 : v4.oneCell' = true) (h : ∀ w', St w0 F w' (L.set k (Res.row e 5 (.slice (some ⟨g, 0, none⟩) m c) m (setAll xs j [v0, v1, v2, v3, v4]))) → K undef w') : unitP Try.prog (Instr.storeAt 28 (.pointer (some ⟨g, j, none⟩)) (.agg #[v0, v1, v2, v3, v4])) w K := by
  have hS' := hS.row_sets k [v0, v1, v2, v3, v4] j hk hj
  exact unitP_ok (st28 (hS.row_cell k hk (u := xs[j]'(by omega)) (by simp)) (hS.row_cell k hk (u := xs[j + 1]'(by omega)) (by simp)) (hS.row_cell k hk (u := xs[j + 2]'(by omega)) (by simp)) (hS.row_cell k hk (u := xs[j + 3]'(by omega)) (by simp)) (hS.row_cell k hk (u := xs[j + 4]'(by omega)) (by simp)) (hS.row_frozen k hk) o0 (hS.row_frozen k hk) o1 (hS.row_frozen k hk) o2 (hS.row_frozen k hk) o3 (hS.row_frozen k hk) o4) (h _ hS')
theorem st26 {w : World} {p : Addr} {u v : Value} (h : w.cell? p = some u) (hf : w.frozen? p = false) (ho : v.oneCell' = true) : (Instr.storeAt 26 (.pointer (some p)) v).run Try.prog w = .ok () (w.setCell p v) := by
  cases v <;> first | (simp [Value.oneCell'] at ho; done) | (simp [go_sem, h, hf]; done) | (simp [go_sem]; rw [run_store _ _ _ _ _ rfl, h]; simp [hf])
theorem lc28 {w : World} {b o : Nat} {v0 v1 v2 v3 v4 : Value} (h0 : w.cell? ⟨b, o, none⟩ = some v0) (h1 : w.cell? ⟨b, o + 1, none⟩ = some v1) (h2 : w.cell? ⟨b, o + 2, none⟩ = some v2) (h3 : w.cell? ⟨b, o + 3, none⟩ = some v3) (h4 : w.cell? ⟨b, o + 4, none⟩ = some v4) : (loadC 28 (.pointer (some ⟨b, o, none⟩))).run Try.prog w = .ok (.agg #[v0, v1, v2, v3, v4]) w := by simp [loadC, go_sem, Addr.add, h0, h1, h2, h3, h4]
theorem len24 {A : Option Addr} {n c : Nat} {t : TypeId} {cs : Array Bool} (w : World) : (builtin .len #[24] t cs #[.slice A n c] : Sem Next).run Try.prog w = .ok (.value (.int .i64 (n : Int))) w := by simp [go_sem]
theorem ix24 {g o n c k : Nat} (h : k < n) (w : World) : (Instr.indexAt 24 (.slice (some ⟨g, o, none⟩) n c) (.int .i64 (k : Int))).run Try.prog w = .ok (.pointer (some ⟨g, o + k * 3, none⟩)) w := by
  have h' : (k : Int) < n := by omega
  simp [go_sem, h', h, add_none]
theorem ixz24 {g n c k : Nat} (h : k < n) (w : World) : (Instr.indexAt 24 (.slice (some ⟨g, 0, none⟩) n c) (.int .i64 (k : Int))).run Try.prog w = .ok (.pointer (some ⟨g, k * 3, none⟩)) w := by
  rw [ix24 h]; simp
theorem bd46_0_1_2 {a0 a1 a2 : Value} (o0 : a0.oneCell' = true) (o1 : a1.oneCell' = true) (o2 : a2.oneCell' = true) (w : World) : (Instr.build 46 #[(0, a0), (1, a1), (2, a2)]).run Try.prog w = .ok (.agg #[a0, a1, a2]) w := by
  have e : ∀ v : Value, v.oneCell' = true → v.cells = #[v] := fun v h => by cases v <;> first | rfl | (simp [Value.oneCell'] at h)
  simp only [Value.cells] at e
  simp [go_sem, e _ o0, e _ o1, e _ o2]
theorem sl24 : SlT Try.prog 24 46 3 32 (.agg #[.int .i64 0, .int .i64 0, .string ⟨#[]⟩]) := by unfold SlT; exact ⟨by kernel_rfl, by kernel_rfl, by kernel_rfl, Nat.lt_of_lt_of_le (by decide) (Nat.le_refl _)⟩
theorem bs24_1 {a0_0 a0_1 a0_2 : Value} (w : World) : (Instr.buildSlice 24 1 #[(0, .agg #[a0_0, a0_1, a0_2])]).run Try.prog w = .ok (.slice (some ⟨w.heap.size, 0, none⟩) 1 1) (w.alloc (.cells #[a0_0, a0_1, a0_2] 46)) := by
  have e : ∀ v : Value, v.oneCell' = true → v.cells = #[v] := fun v h => by cases v <;> first | rfl | (simp [Value.oneCell'] at h)
  simp only [Value.cells] at e
  simp [go_sem]
theorem sh24 {A : Option Addr} {n c k : Nat} (h : k ≤ c) (w : World) : (Instr.sliceAt 24 (.slice A n c) none (some (.int .i64 (k : Int))) none).run Try.prog w = .ok (.slice A k c) w := by
  have h' : ¬ c < k := by omega
  simp [go_sem, h', Addr.add]
theorem st9 {w : World} {p : Addr} {u v : Value} (h : w.cell? p = some u) (hf : w.frozen? p = false) (ho : v.oneCell' = true) : (Instr.storeAt 9 (.pointer (some p)) v).run Try.prog w = .ok () (w.setCell p v) := by
  cases v <;> first | (simp [Value.oneCell'] at ho; done) | (simp [go_sem, h, hf]; done) | (simp [go_sem]; rw [run_store _ _ _ _ _ rfl, h]; simp [hf])
theorem bd28_0 {a0 : Value} (o0 : a0.oneCell' = true) (w : World) : (Instr.build 28 #[(0, a0)]).run Try.prog w = .ok (.agg #[a0, .int .i64 0, .int .i64 0, .int .i64 0, .slice none 0 0]) w := by
  have e : ∀ v : Value, v.oneCell' = true → v.cells = #[v] := fun v h => by cases v <;> first | rfl | (simp [Value.oneCell'] at h)
  simp only [Value.cells] at e
  simp [go_sem, e _ o0]
theorem so24 {A : Option Addr} {n c k : Nat} (h : k ≤ n) (hc : n ≤ c) (w : World) : (Instr.sliceAt 24 (.slice A n c) (some (.int .i64 (k : Int))) none none).run Try.prog w = .ok (.slice (if c = k then A else A.map (·.add (k * 3))) (n - k) (c - k)) w := by
  have h' : ¬ n < k := by omega
  simp [go_sem, h', Addr.add]
end Go.Proofs.Ytnhgdngbdoifnaa.M
