/- The steps of the plain reading at this seat's types; printed by a program of this work. -/
import Derived.Test.YtojgdmcojmllkaaFwT
import Derived.Test.YtojgdmcojmllkaaProg
namespace Go.Proofs.Ytojgdmcojmllkaa.M
open Go.Proofs.Ytojgdmcojmllkaa.F Go.RowKit
set_option linter.unusedVariables false
set_option linter.unusedSimpArgs false
theorem eq31 (x y : Operand) (A : Option Addr) (n c : Nat) (w : World) : (binS .eql 31 x y (.slice A n c) (.slice none 0 0)).run Try.prog w = .ok (.bool (A.isNone)) w := by
  rw [binS_run _ _ _ _ _ _ (by rfl)]
  simp only [binOp]
  simp [Op.equal, Op.maxDepth, Lib.run_equalIn_slice_nil w 9999 31 28 A n c 0 0 Try.underlying31]
theorem sl31 : SlT Try.prog 31 28 2 16 (.agg #[.int .i64 0, .int .i64 0]) := by unfold SlT; exact ⟨by kernel_rfl, by kernel_rfl, by kernel_rfl, Nat.lt_of_lt_of_le (by decide) (Nat.le_refl _)⟩
theorem bs31_0  (w : World) : (Instr.buildSlice 31 0 #[]).run Try.prog w = .ok (.slice (some ⟨w.heap.size, 0, none⟩) 0 0) (w.alloc (.cells #[] 28)) := by
  have e : ∀ v : Value, v.oneCell' = true → v.cells = #[v] := fun v h => by cases v <;> first | rfl | (simp [Value.oneCell'] at h)
  simp only [Value.cells] at e
  simp [go_sem]
theorem len90 {A : Option Addr} {n c : Nat} {t : TypeId} {cs : Array Bool} (w : World) : (builtin .len #[90] t cs #[.slice A n c] : Sem Next).run Try.prog w = .ok (.value (.int .i64 (n : Int))) w := by simp [go_sem]
theorem ix90 {g o n c k : Nat} (h : k < n) (w : World) : (Instr.indexAt 90 (.slice (some ⟨g, o, none⟩) n c) (.int .i64 (k : Int))).run Try.prog w = .ok (.pointer (some ⟨g, o + k, none⟩)) w := by
  have h' : (k : Int) < n := by omega
  simp [go_sem, h', h, add_none]
theorem ixz90 {g n c k : Nat} (h : k < n) (w : World) : (Instr.indexAt 90 (.slice (some ⟨g, 0, none⟩) n c) (.int .i64 (k : Int))).run Try.prog w = .ok (.pointer (some ⟨g, k, none⟩)) w := by
  rw [ix90 h]; simp
theorem ld3 {w : World} {p : Addr} {v : Value} (h : w.cell? p = some v) : (Instr.loadAt 3 (.pointer (some p))).run Try.prog w = .ok v w := by simp [go_sem, h]
theorem ne3 (x y : Operand) (a b : Int) (w : World) : (binS .neq 3 x y (.int .i64 a) (.int .i64 b)).run Try.prog w = .ok (.bool (decide (¬ a = b))) w := by
  by_cases h : a = b <;> simp [binS, go_sem, h]
theorem len24 {A : Option Addr} {n c : Nat} {t : TypeId} {cs : Array Bool} (w : World) : (builtin .len #[24] t cs #[.slice A n c] : Sem Next).run Try.prog w = .ok (.value (.int .i64 (n : Int))) w := by simp [go_sem]
theorem ix24 {g o n c k : Nat} (h : k < n) (w : World) : (Instr.indexAt 24 (.slice (some ⟨g, o, none⟩) n c) (.int .i64 (k : Int))).run Try.prog w = .ok (.pointer (some ⟨g, o + k * 2, none⟩)) w := by
  have h' : (k : Int) < n := by omega
  simp [go_sem, h', h, add_none]
theorem ixz24 {g n c k : Nat} (h : k < n) (w : World) : (Instr.indexAt 24 (.slice (some ⟨g, 0, none⟩) n c) (.int .i64 (k : Int))).run Try.prog w = .ok (.pointer (some ⟨g, k * 2, none⟩)) w := by
  rw [ix24 h]; simp
theorem ld33 {w : World} {b o : Nat} {v0 v1 : Value} (h0 : w.cell? ⟨b, o, none⟩ = some v0) (h1 : w.cell? ⟨b, o + 1, none⟩ = some v1) : (Instr.loadAt 33 (.pointer (some ⟨b, o, none⟩))).run Try.prog w = .ok (.agg #[v0, v1]) w := by simp [go_sem, Addr.add, h0, h1]
theorem ls33 {w0 w : World} {F : List Nat} {L : List Res} {b tt : Nat} {K : Value → World → Prop} {v0 v1 : Value} (k : Nat) (hS : St w0 F w L) (hk : L[k]? = some (Res.cells b tt [v0, v1])) (h : K (.agg #[v0, v1]) w) : valP Try.prog (Instr.loadAt 33 (.pointer (some ⟨b, 0, none⟩))) w K :=
  valP_ok (ld33 (hS.cell k hk rfl) (hS.cell k hk rfl)) h
theorem bx23 (v0 v1 : Value) (w : World) : (Instr.box 23 (.agg #[v0, v1])).run Try.prog w = .ok (.pointer (some ⟨w.heap.size, 0, none⟩)) (w.alloc (.cells #[v0, v1] 23)) := by simp [go_sem]
theorem fa23_0 (b : Nat) (w : World) : (Instr.fieldAt 23 (.pointer (some ⟨b, 0, none⟩)) 0).run Try.prog w = .ok (.pointer (some ⟨b, 0, none⟩)) w := by kernel_rfl
theorem fao23_0 (b o : Nat) (w : World) : (Instr.fieldAt 23 (.pointer (some ⟨b, o, none⟩)) 0).run Try.prog w = .ok (.pointer (some ⟨b, o, none⟩)) w := by kernel_rfl
theorem fa23_1 (b : Nat) (w : World) : (Instr.fieldAt 23 (.pointer (some ⟨b, 0, none⟩)) 1).run Try.prog w = .ok (.pointer (some ⟨b, 1, none⟩)) w := by kernel_rfl
theorem fao23_1 (b o : Nat) (w : World) : (Instr.fieldAt 23 (.pointer (some ⟨b, o, none⟩)) 1).run Try.prog w = .ok (.pointer (some ⟨b, o + 1, none⟩)) w := by kernel_rfl
theorem bx33 (v0 v1 : Value) (w : World) : (Instr.box 33 (.agg #[v0, v1])).run Try.prog w = .ok (.pointer (some ⟨w.heap.size, 0, none⟩)) (w.alloc (.cells #[v0, v1] 33)) := by simp [go_sem]
theorem fa33_1 (b : Nat) (w : World) : (Instr.fieldAt 33 (.pointer (some ⟨b, 0, none⟩)) 1).run Try.prog w = .ok (.pointer (some ⟨b, 1, none⟩)) w := by kernel_rfl
theorem fao33_1 (b o : Nat) (w : World) : (Instr.fieldAt 33 (.pointer (some ⟨b, o, none⟩)) 1).run Try.prog w = .ok (.pointer (some ⟨b, o + 1, none⟩)) w := by kernel_rfl
theorem ld31 {w : World} {p : Addr} {v : Value} (h : w.cell? p = some v) : (Instr.loadAt 31 (.pointer (some p))).run Try.prog w = .ok v w := by simp [go_sem, h]
theorem ix31 {g o n c k : Nat} (h : k < n) (w : World) : (Instr.indexAt 31 (.slice (some ⟨g, o, none⟩) n c) (.int .i64 (k : Int))).run Try.prog w = .ok (.pointer (some ⟨g, o + k * 2, none⟩)) w := by
  have h' : (k : Int) < n := by omega
  simp [go_sem, h', h, add_none]
theorem ixz31 {g n c k : Nat} (h : k < n) (w : World) : (Instr.indexAt 31 (.slice (some ⟨g, 0, none⟩) n c) (.int .i64 (k : Int))).run Try.prog w = .ok (.pointer (some ⟨g, k * 2, none⟩)) w := by
  rw [ix31 h]; simp
theorem fa28_0 (b : Nat) (w : World) : (Instr.fieldAt 28 (.pointer (some ⟨b, 0, none⟩)) 0).run Try.prog w = .ok (.pointer (some ⟨b, 0, none⟩)) w := by kernel_rfl
theorem fao28_0 (b o : Nat) (w : World) : (Instr.fieldAt 28 (.pointer (some ⟨b, o, none⟩)) 0).run Try.prog w = .ok (.pointer (some ⟨b, o, none⟩)) w := by kernel_rfl
theorem len31 {A : Option Addr} {n c : Nat} {t : TypeId} {cs : Array Bool} (w : World) : (builtin .len #[31] t cs #[.slice A n c] : Sem Next).run Try.prog w = .ok (.value (.int .i64 (n : Int))) w := by simp [go_sem]
theorem fa33_0 (b : Nat) (w : World) : (Instr.fieldAt 33 (.pointer (some ⟨b, 0, none⟩)) 0).run Try.prog w = .ok (.pointer (some ⟨b, 0, none⟩)) w := by kernel_rfl
theorem fao33_0 (b o : Nat) (w : World) : (Instr.fieldAt 33 (.pointer (some ⟨b, o, none⟩)) 0).run Try.prog w = .ok (.pointer (some ⟨b, o, none⟩)) w := by kernel_rfl
theorem eq3 (x y : Operand) (a b : Int) (w : World) : (binS .eql 3 x y (.int .i64 a) (.int .i64 b)).run Try.prog w = .ok (.bool (decide (a = b))) w := by
  by_cases h : a = b <;> simp [binS, go_sem, h]
theorem ld23 {w : World} {b o : Nat} {v0 v1 : Value} (h0 : w.cell? ⟨b, o, none⟩ = some v0) (h1 : w.cell? ⟨b, o + 1, none⟩ = some v1) : (Instr.loadAt 23 (.pointer (some ⟨b, o, none⟩))).run Try.prog w = .ok (.agg #[v0, v1]) w := by simp [go_sem, Addr.add, h0, h1]
theorem ls23 {w0 w : World} {F : List Nat} {L : List Res} {b tt : Nat} {K : Value → World → Prop} {v0 v1 : Value} (k : Nat) (hS : St w0 F w L) (hk : L[k]? = some (Res.cells b tt [v0, v1])) (h : K (.agg #[v0, v1]) w) : valP Try.prog (Instr.loadAt 23 (.pointer (some ⟨b, 0, none⟩))) w K :=
  valP_ok (ld23 (hS.cell k hk rfl) (hS.cell k hk rfl)) h
theorem fa26_2 (b : Nat) (w : World) : (Instr.fieldAt 26 (.pointer (some ⟨b, 0, none⟩)) 2).run Try.prog w = .ok (.pointer (some ⟨b, 2, none⟩)) w := by kernel_rfl
theorem fao26_2 (b o : Nat) (w : World) : (Instr.fieldAt 26 (.pointer (some ⟨b, o, none⟩)) 2).run Try.prog w = .ok (.pointer (some ⟨b, o + 2, none⟩)) w := by kernel_rfl
theorem ld24 {w : World} {p : Addr} {v : Value} (h : w.cell? p = some v) : (Instr.loadAt 24 (.pointer (some p))).run Try.prog w = .ok v w := by simp [go_sem, h]
theorem ld28 {w : World} {b o : Nat} {v0 v1 : Value} (h0 : w.cell? ⟨b, o, none⟩ = some v0) (h1 : w.cell? ⟨b, o + 1, none⟩ = some v1) : (Instr.loadAt 28 (.pointer (some ⟨b, o, none⟩))).run Try.prog w = .ok (.agg #[v0, v1]) w := by simp [go_sem, Addr.add, h0, h1]
theorem ls28 {w0 w : World} {F : List Nat} {L : List Res} {b tt : Nat} {K : Value → World → Prop} {v0 v1 : Value} (k : Nat) (hS : St w0 F w L) (hk : L[k]? = some (Res.cells b tt [v0, v1])) (h : K (.agg #[v0, v1]) w) : valP Try.prog (Instr.loadAt 28 (.pointer (some ⟨b, 0, none⟩))) w K :=
  valP_ok (ld28 (hS.cell k hk rfl) (hS.cell k hk rfl)) h
theorem al28 (w : World) : (Instr.alloc 28 true (.tuple #[])).run Try.prog w = .ok (.pointer (some ⟨w.heap.size, 0, none⟩)) (w.alloc (.cells #[.int .i64 0, .int .i64 0] 28)) := by simp [go_sem]
theorem st28 {w : World} {b o : Nat} {v0 v1 : Value} {u0 u1 : Value} (h0 : w.cell? ⟨b, o, none⟩ = some u0) (h1 : w.cell? ⟨b, o + 1, none⟩ = some u1) (f0 : w.frozen? ⟨b, o, none⟩ = false) (o0 : v0.oneCell' = true) (f1 : w.frozen? ⟨b, o + 1, none⟩ = false) (o1 : v1.oneCell' = true) : (Instr.storeAt 28 (.pointer (some ⟨b, o, none⟩)) (.agg #[v0, v1])).run Try.prog w = .ok () ((w.setCell ⟨b, o, none⟩ v0).setCell ⟨b, o + 1, none⟩ v1) := by
  simp [go_sem, Addr.add, h0, h1, f0, f1, o0, o1, run_store, World.cell?_setCell_other, World.frozen?_setCell]
theorem ss28 {w0 w : World} {F : List Nat} {L : List Res} {b tt : Nat} {K : Value → World → Prop} {v0 v1 u0 u1 : Value} (k : Nat) (hS : St w0 F w L) (hk : L[k]? = some (Res.cells b tt [u0, u1])) (o0 : v0.oneCell' = true) (o1 : v1.oneCell' = true) (h : ∀ w', St w0 F w' (L.set k (Res.cells b tt [v0, v1])) → K undef w') : unitP Try.prog (Instr.storeAt 28 (.pointer (some ⟨b, 0, none⟩)) (.agg #[v0, v1])) w K := by
  obtain ⟨hkl, _⟩ := List.getElem?_eq_some_iff.1 hk
  have hf := fun i => hS.frozen (i := i) k hk
  have s1 := hS.set (b := b) (t := tt) (cs := [u0, u1]) (i := 0) k v0 hk
  have s2 := s1.set (b := b) (t := tt) (cs := [v0, u1]) (i := 1) k v1 (by simp [hkl])
  simp only [List.set_set, List.set_cons_zero, List.set_cons_succ] at s2
  exact unitP_ok (st28 (hS.cell k hk rfl) (hS.cell k hk rfl) (hf _) o0 (hf _) o1) (h _ s2)
theorem sr28 {w0 w : World} {F : List Nat} {L : List Res} {e m g c j : Nat} {xs : List Value} {K : Value → World → Prop} {v0 v1 : Value} (k : Nat) (hS : St w0 F w L) (hk : L[k]? = some (Res.row e 2 (.slice (some ⟨g, 0, none⟩) m c) m xs)) (hj : j + 2 ≤ xs.length) (o0 : v0.oneCell' = true) (o1 : v1.oneCell' = true) (h : ∀ w', St w0 F w' (L.set k (Res.row e 2 (.slice (some ⟨g, 0, none⟩) m c) m (setAll xs j [v0, v1]))) → K undef w') : unitP Try.prog (Instr.storeAt 28 (.pointer (some ⟨g, j, none⟩)) (.agg #[v0, v1])) w K := by
  have hS' := hS.row_sets k [v0, v1] j hk hj
  exact unitP_ok (st28 (hS.row_cell k hk (u := xs[j]'(by omega)) (by simp)) (hS.row_cell k hk (u := xs[j + 1]'(by omega)) (by simp)) (hS.row_frozen k hk) o0 (hS.row_frozen k hk) o1) (h _ hS')
theorem sl90 : SlT Try.prog 90 3 1 8 (.int .i64 0) := by unfold SlT; exact ⟨by kernel_rfl, by kernel_rfl, by kernel_rfl, Nat.lt_of_lt_of_le (by decide) (Nat.le_refl _)⟩
theorem bs90_2 {a0 a1 : Value} (o0 : a0.oneCell' = true) (o1 : a1.oneCell' = true) (w : World) : (Instr.buildSlice 90 2 #[(0, a0), (1, a1)]).run Try.prog w = .ok (.slice (some ⟨w.heap.size, 0, none⟩) 2 2) (w.alloc (.cells #[a0, a1] 3)) := by
  have e : ∀ v : Value, v.oneCell' = true → v.cells = #[v] := fun v h => by cases v <;> first | rfl | (simp [Value.oneCell'] at h)
  simp only [Value.cells] at e
  simp [go_sem, e _ o0, e _ o1]
theorem bx28 (v0 v1 : Value) (w : World) : (Instr.box 28 (.agg #[v0, v1])).run Try.prog w = .ok (.pointer (some ⟨w.heap.size, 0, none⟩)) (w.alloc (.cells #[v0, v1] 28)) := by simp [go_sem]
theorem fa28_1 (b : Nat) (w : World) : (Instr.fieldAt 28 (.pointer (some ⟨b, 0, none⟩)) 1).run Try.prog w = .ok (.pointer (some ⟨b, 1, none⟩)) w := by kernel_rfl
theorem fao28_1 (b o : Nat) (w : World) : (Instr.fieldAt 28 (.pointer (some ⟨b, o, none⟩)) 1).run Try.prog w = .ok (.pointer (some ⟨b, o + 1, none⟩)) w := by kernel_rfl
theorem al26 (w : World) : (Instr.alloc 26 true (.tuple #[])).run Try.prog w = .ok (.pointer (some ⟨w.heap.size, 0, none⟩)) (w.alloc (.cells #[.int .i64 0, .int .i64 0, .slice none 0 0] 26)) := by simp [go_sem]
theorem bd26_0 {a0 : Value} (o0 : a0.oneCell' = true) (w : World) : (Instr.build 26 #[(0, a0)]).run Try.prog w = .ok (.agg #[a0, .int .i64 0, .slice none 0 0]) w := by
  have e : ∀ v : Value, v.oneCell' = true → v.cells = #[v] := fun v h => by cases v <;> first | rfl | (simp [Value.oneCell'] at h)
  simp only [Value.cells] at e
  simp [go_sem, e _ o0]
theorem st26 {w : World} {b o : Nat} {v0 v1 v2 : Value} {u0 u1 u2 : Value} (h0 : w.cell? ⟨b, o, none⟩ = some u0) (h1 : w.cell? ⟨b, o + 1, none⟩ = some u1) (h2 : w.cell? ⟨b, o + 2, none⟩ = some u2) (f0 : w.frozen? ⟨b, o, none⟩ = false) (o0 : v0.oneCell' = true) (f1 : w.frozen? ⟨b, o + 1, none⟩ = false) (o1 : v1.oneCell' = true) (f2 : w.frozen? ⟨b, o + 2, none⟩ = false) (o2 : v2.oneCell' = true) : (Instr.storeAt 26 (.pointer (some ⟨b, o, none⟩)) (.agg #[v0, v1, v2])).run Try.prog w = .ok () (((w.setCell ⟨b, o, none⟩ v0).setCell ⟨b, o + 1, none⟩ v1).setCell ⟨b, o + 2, none⟩ v2) := by
  simp [go_sem, Addr.add, h0, h1, h2, f0, f1, f2, o0, o1, o2, run_store, World.cell?_setCell_other, World.frozen?_setCell]
theorem ss26 {w0 w : World} {F : List Nat} {L : List Res} {b tt : Nat} {K : Value → World → Prop} {v0 v1 v2 u0 u1 u2 : Value} (k : Nat) (hS : St w0 F w L) (hk : L[k]? = some (Res.cells b tt [u0, u1, u2])) (o0 : v0.oneCell' = true) (o1 : v1.oneCell' = true) (o2 : v2.oneCell' = true) (h : ∀ w', St w0 F w' (L.set k (Res.cells b tt [v0, v1, v2])) → K undef w') : unitP Try.prog (Instr.storeAt 26 (.pointer (some ⟨b, 0, none⟩)) (.agg #[v0, v1, v2])) w K := by
  obtain ⟨hkl, _⟩ := List.getElem?_eq_some_iff.1 hk
  have hf := fun i => hS.frozen (i := i) k hk
  have s1 := hS.set (b := b) (t := tt) (cs := [u0, u1, u2]) (i := 0) k v0 hk
  have s2 := s1.set (b := b) (t := tt) (cs := [v0, u1, u2]) (i := 1) k v1 (by simp [hkl])
  have s3 := s2.set (b := b) (t := tt) (cs := [v0, v1, u2]) (i := 2) k v2 (by simp [hkl])
  simp only [List.set_set, List.set_cons_zero, List.set_cons_succ] at s3
  exact unitP_ok (st26 (hS.cell k hk rfl) (hS.cell k hk rfl) (hS.cell k hk rfl) (hf _) o0 (hf _) o1 (hf _) o2) (h _ s3)
theorem sr26 {w0 w : World} {F : List Nat} {L : List Res} {e m g c j : Nat} {xs : List Value} {K : Value → World → Prop} {v0 v1 v2 : Value} (k : Nat) (hS : St w0 F w L) (hk : L[k]? = some (Res.row e 3 (.slice (some ⟨g, 0, none⟩) m c) m xs)) (hj : j + 3 ≤ xs.length) (o0 : v0.oneCell' = true) (o1 : v1.oneCell' = true) (o2 : v2.oneCell' = true) (h : ∀ w', St w0 F w' (L.set k (Res.row e 3 (.slice (some ⟨g, 0, none⟩) m c) m (setAll xs j [v0, v1, v2]))) → K undef w') : unitP Try.prog (Instr.storeAt 26 (.pointer (some ⟨g, j, none⟩)) (.agg #[v0, v1, v2])) w K := by
  have hS' := hS.row_sets k [v0, v1, v2] j hk hj
  exact unitP_ok (st26 (hS.row_cell k hk (u := xs[j]'(by omega)) (by simp)) (hS.row_cell k hk (u := xs[j + 1]'(by omega)) (by simp)) (hS.row_cell k hk (u := xs[j + 2]'(by omega)) (by simp)) (hS.row_frozen k hk) o0 (hS.row_frozen k hk) o1 (hS.row_frozen k hk) o2) (h _ hS')
theorem ld26 {w : World} {b o : Nat} {v0 v1 v2 : Value} (h0 : w.cell? ⟨b, o, none⟩ = some v0) (h1 : w.cell? ⟨b, o + 1, none⟩ = some v1) (h2 : w.cell? ⟨b, o + 2, none⟩ = some v2) : (Instr.loadAt 26 (.pointer (some ⟨b, o, none⟩))).run Try.prog w = .ok (.agg #[v0, v1, v2]) w := by simp [go_sem, Addr.add, h0, h1, h2]
theorem lc26 {w : World} {b o : Nat} {v0 v1 v2 : Value} (h0 : w.cell? ⟨b, o, none⟩ = some v0) (h1 : w.cell? ⟨b, o + 1, none⟩ = some v1) (h2 : w.cell? ⟨b, o + 2, none⟩ = some v2) : (loadC 26 (.pointer (some ⟨b, o, none⟩))).run Try.prog w = .ok (.agg #[v0, v1, v2]) w := by simp [loadC, go_sem, Addr.add, h0, h1, h2]
theorem bx26 (v0 v1 v2 : Value) (w : World) : (Instr.box 26 (.agg #[v0, v1, v2])).run Try.prog w = .ok (.pointer (some ⟨w.heap.size, 0, none⟩)) (w.alloc (.cells #[v0, v1, v2] 26)) := by simp [go_sem]
theorem fa26_0 (b : Nat) (w : World) : (Instr.fieldAt 26 (.pointer (some ⟨b, 0, none⟩)) 0).run Try.prog w = .ok (.pointer (some ⟨b, 0, none⟩)) w := by kernel_rfl
theorem fao26_0 (b o : Nat) (w : World) : (Instr.fieldAt 26 (.pointer (some ⟨b, o, none⟩)) 0).run Try.prog w = .ok (.pointer (some ⟨b, o, none⟩)) w := by kernel_rfl
theorem fa26_1 (b : Nat) (w : World) : (Instr.fieldAt 26 (.pointer (some ⟨b, 0, none⟩)) 1).run Try.prog w = .ok (.pointer (some ⟨b, 1, none⟩)) w := by kernel_rfl
theorem fao26_1 (b o : Nat) (w : World) : (Instr.fieldAt 26 (.pointer (some ⟨b, o, none⟩)) 1).run Try.prog w = .ok (.pointer (some ⟨b, o + 1, none⟩)) w := by kernel_rfl
theorem al3 (w : World) : (Instr.alloc 3 true (.tuple #[])).run Try.prog w = .ok (.pointer (some ⟨w.heap.size, 0, none⟩)) (w.alloc (.cells #[.int .i64 0] 3)) := by simp [go_sem]
theorem st3 {w : World} {p : Addr} {u v : Value} (h : w.cell? p = some u) (hf : w.frozen? p = false) (ho : v.oneCell' = true) : (Instr.storeAt 3 (.pointer (some p)) v).run Try.prog w = .ok () (w.setCell p v) := by
  cases v <;> first | (simp [Value.oneCell'] at ho; done) | (simp [go_sem, h, hf]; done) | (simp [go_sem]; rw [run_store _ _ _ _ _ rfl, h]; simp [hf])
theorem sh24 {A : Option Addr} {n c k : Nat} (h : k ≤ c) (w : World) : (Instr.sliceAt 24 (.slice A n c) none (some (.int .i64 (k : Int))) none).run Try.prog w = .ok (.slice A k c) w := by
  have h' : ¬ c < k := by omega
  simp [go_sem, h', Addr.add]
theorem mf36 (c0 : Value) (c1 : Value) (c2 : Value)  (w : World) : (Instr.makeFunc (Fn.func 36) #[] #[c0, c1, c2]).run Try.prog w = .ok (.func (.func 36) #[] #[c0, c1, c2]) w := by first | rfl | simp [go_sem]
theorem bs31_1 {a0_0 a0_1 : Value} (w : World) : (Instr.buildSlice 31 1 #[(0, .agg #[a0_0, a0_1])]).run Try.prog w = .ok (.slice (some ⟨w.heap.size, 0, none⟩) 1 1) (w.alloc (.cells #[a0_0, a0_1] 28)) := by
  have e : ∀ v : Value, v.oneCell' = true → v.cells = #[v] := fun v h => by cases v <;> first | rfl | (simp [Value.oneCell'] at h)
  simp only [Value.cells] at e
  simp [go_sem]
theorem bd33_0_1 {a0 a1 : Value} (o0 : a0.oneCell' = true) (o1 : a1.oneCell' = true) (w : World) : (Instr.build 33 #[(0, a0), (1, a1)]).run Try.prog w = .ok (.agg #[a0, a1]) w := by
  have e : ∀ v : Value, v.oneCell' = true → v.cells = #[v] := fun v h => by cases v <;> first | rfl | (simp [Value.oneCell'] at h)
  simp only [Value.cells] at e
  simp [go_sem, e _ o0, e _ o1]
theorem al33 (w : World) : (Instr.alloc 33 true (.tuple #[])).run Try.prog w = .ok (.pointer (some ⟨w.heap.size, 0, none⟩)) (w.alloc (.cells #[.int .i64 0, .slice none 0 0] 33)) := by simp [go_sem]
theorem st33 {w : World} {b o : Nat} {v0 v1 : Value} {u0 u1 : Value} (h0 : w.cell? ⟨b, o, none⟩ = some u0) (h1 : w.cell? ⟨b, o + 1, none⟩ = some u1) (f0 : w.frozen? ⟨b, o, none⟩ = false) (o0 : v0.oneCell' = true) (f1 : w.frozen? ⟨b, o + 1, none⟩ = false) (o1 : v1.oneCell' = true) : (Instr.storeAt 33 (.pointer (some ⟨b, o, none⟩)) (.agg #[v0, v1])).run Try.prog w = .ok () ((w.setCell ⟨b, o, none⟩ v0).setCell ⟨b, o + 1, none⟩ v1) := by
  simp [go_sem, Addr.add, h0, h1, f0, f1, o0, o1, run_store, World.cell?_setCell_other, World.frozen?_setCell]
theorem ss33 {w0 w : World} {F : List Nat} {L : List Res} {b tt : Nat} {K : Value → World → Prop} {v0 v1 u0 u1 : Value} (k : Nat) (hS : St w0 F w L) (hk : L[k]? = some (Res.cells b tt [u0, u1])) (o0 : v0.oneCell' = true) (o1 : v1.oneCell' = true) (h : ∀ w', St w0 F w' (L.set k (Res.cells b tt [v0, v1])) → K undef w') : unitP Try.prog (Instr.storeAt 33 (.pointer (some ⟨b, 0, none⟩)) (.agg #[v0, v1])) w K := by
  obtain ⟨hkl, _⟩ := List.getElem?_eq_some_iff.1 hk
  have hf := fun i => hS.frozen (i := i) k hk
  have s1 := hS.set (b := b) (t := tt) (cs := [u0, u1]) (i := 0) k v0 hk
  have s2 := s1.set (b := b) (t := tt) (cs := [v0, u1]) (i := 1) k v1 (by simp [hkl])
  simp only [List.set_set, List.set_cons_zero, List.set_cons_succ] at s2
  exact unitP_ok (st33 (hS.cell k hk rfl) (hS.cell k hk rfl) (hf _) o0 (hf _) o1) (h _ s2)
theorem sr33 {w0 w : World} {F : List Nat} {L : List Res} {e m g c j : Nat} {xs : List Value} {K : Value → World → Prop} {v0 v1 : Value} (k : Nat) (hS : St w0 F w L) (hk : L[k]? = some (Res.row e 2 (.slice (some ⟨g, 0, none⟩) m c) m xs)) (hj : j + 2 ≤ xs.length) (o0 : v0.oneCell' = true) (o1 : v1.oneCell' = true) (h : ∀ w', St w0 F w' (L.set k (Res.row e 2 (.slice (some ⟨g, 0, none⟩) m c) m (setAll xs j [v0, v1]))) → K undef w') : unitP Try.prog (Instr.storeAt 33 (.pointer (some ⟨g, j, none⟩)) (.agg #[v0, v1])) w K := by
  have hS' := hS.row_sets k [v0, v1] j hk hj
  exact unitP_ok (st33 (hS.row_cell k hk (u := xs[j]'(by omega)) (by simp)) (hS.row_cell k hk (u := xs[j + 1]'(by omega)) (by simp)) (hS.row_frozen k hk) o0 (hS.row_frozen k hk) o1) (h _ hS')
theorem st31 {w : World} {p : Addr} {u v : Value} (h : w.cell? p = some u) (hf : w.frozen? p = false) (ho : v.oneCell' = true) : (Instr.storeAt 31 (.pointer (some p)) v).run Try.prog w = .ok () (w.setCell p v) := by
  cases v <;> first | (simp [Value.oneCell'] at ho; done) | (simp [go_sem, h, hf]; done) | (simp [go_sem]; rw [run_store _ _ _ _ _ rfl, h]; simp [hf])
theorem sl24 : SlT Try.prog 24 33 2 32 (.agg #[.int .i64 0, .slice none 0 0]) := by unfold SlT; exact ⟨by kernel_rfl, by kernel_rfl, by kernel_rfl, Nat.lt_of_lt_of_le (by decide) (Nat.le_refl _)⟩
theorem bs24_1 {a0_0 a0_1 : Value} (w : World) : (Instr.buildSlice 24 1 #[(0, .agg #[a0_0, a0_1])]).run Try.prog w = .ok (.slice (some ⟨w.heap.size, 0, none⟩) 1 1) (w.alloc (.cells #[a0_0, a0_1] 33)) := by
  have e : ∀ v : Value, v.oneCell' = true → v.cells = #[v] := fun v h => by cases v <;> first | rfl | (simp [Value.oneCell'] at h)
  simp only [Value.cells] at e
  simp [go_sem]
theorem ls26 {w0 w : World} {F : List Nat} {L : List Res} {b tt : Nat} {K : Value → World → Prop} {v0 v1 v2 : Value} (k : Nat) (hS : St w0 F w L) (hk : L[k]? = some (Res.cells b tt [v0, v1, v2])) (h : K (.agg #[v0, v1, v2]) w) : valP Try.prog (Instr.loadAt 26 (.pointer (some ⟨b, 0, none⟩))) w K :=
  valP_ok (ld26 (hS.cell k hk rfl) (hS.cell k hk rfl) (hS.cell k hk rfl)) h
theorem ne34 (x y : Operand) (a b : Int) (w : World) : (binS .neq 34 x y (.int .i64 a) (.int .i64 b)).run Try.prog w = .ok (.bool (decide (¬ a = b))) w := by
  by_cases h : a = b <;> simp [binS, go_sem, h]
theorem bd26  (w : World) : (Instr.build 26 #[]).run Try.prog w = .ok (.agg #[.int .i64 0, .int .i64 0, .slice none 0 0]) w := by
  have e : ∀ v : Value, v.oneCell' = true → v.cells = #[v] := fun v h => by cases v <;> first | rfl | (simp [Value.oneCell'] at h)
  simp only [Value.cells] at e
  simp [go_sem, Value.cells]
theorem st24 {w : World} {p : Addr} {u v : Value} (h : w.cell? p = some u) (hf : w.frozen? p = false) (ho : v.oneCell' = true) : (Instr.storeAt 24 (.pointer (some p)) v).run Try.prog w = .ok () (w.setCell p v) := by
  cases v <;> first | (simp [Value.oneCell'] at ho; done) | (simp [go_sem, h, hf]; done) | (simp [go_sem]; rw [run_store _ _ _ _ _ rfl, h]; simp [hf])
theorem ne28 (x y : Operand) (a0 : Int) (a1 : Int) (b0 : Int) (b1 : Int) (w : World) : (binS .neq 28 x y (.agg #[.int .i64 a0, .int .i64 a1]) (.agg #[.int .i64 b0, .int .i64 b1])).run Try.prog w = .ok (.bool (decide (¬ (a0 = b0 ∧ a1 = b1)))) w := by
  rw [binS_run _ _ _ _ _ _ (by kernel_rfl), run_neq_struct, run_equalIn_struct w 9999 28 _ _ (by simp [Program.fieldsOf, Try.underlying28]) (by kernel_rfl)]
  by_cases h0 : a0 = b0 <;> by_cases h1 : a1 = b1 <;> simp [go_sem, Program.fieldsOf, Try.underlying28, Op.eqFields, *]
theorem so31 {A : Option Addr} {n c k : Nat} (h : k ≤ n) (hc : n ≤ c) (w : World) : (Instr.sliceAt 31 (.slice A n c) (some (.int .i64 (k : Int))) none none).run Try.prog w = .ok (.slice (if c = k then A else A.map (·.add (k * 2))) (n - k) (c - k)) w := by
  have h' : ¬ n < k := by omega
  simp [go_sem, h', Addr.add]
theorem so24 {A : Option Addr} {n c k : Nat} (h : k ≤ n) (hc : n ≤ c) (w : World) : (Instr.sliceAt 24 (.slice A n c) (some (.int .i64 (k : Int))) none none).run Try.prog w = .ok (.slice (if c = k then A else A.map (·.add (k * 2))) (n - k) (c - k)) w := by
  have h' : ¬ n < k := by omega
  simp [go_sem, h', Addr.add]
theorem bd26_0_1 {a0 a1 : Value} (o0 : a0.oneCell' = true) (o1 : a1.oneCell' = true) (w : World) : (Instr.build 26 #[(0, a0), (1, a1)]).run Try.prog w = .ok (.agg #[a0, a1, .slice none 0 0]) w := by
  have e : ∀ v : Value, v.oneCell' = true → v.cells = #[v] := fun v h => by cases v <;> first | rfl | (simp [Value.oneCell'] at h)
  simp only [Value.cells] at e
  simp [go_sem, e _ o0, e _ o1]
theorem len44 {A : Option Addr} {n c : Nat} {t : TypeId} {cs : Array Bool} (w : World) : (builtin .len #[44] t cs #[.slice A n c] : Sem Next).run Try.prog w = .ok (.value (.int .i64 (n : Int))) w := by simp [go_sem]
theorem sh44 {A : Option Addr} {n c k : Nat} (h : k ≤ c) (w : World) : (Instr.sliceAt 44 (.slice A n c) none (some (.int .i64 (k : Int))) none).run Try.prog w = .ok (.slice A k c) w := by
  have h' : ¬ c < k := by omega
  simp [go_sem, h', Addr.add]
theorem ix44 {g o n c k : Nat} (h : k < n) (w : World) : (Instr.indexAt 44 (.slice (some ⟨g, o, none⟩) n c) (.int .i64 (k : Int))).run Try.prog w = .ok (.pointer (some ⟨g, o + k * 3, none⟩)) w := by
  have h' : (k : Int) < n := by omega
  simp [go_sem, h', h, add_none]
theorem ixz44 {g n c k : Nat} (h : k < n) (w : World) : (Instr.indexAt 44 (.slice (some ⟨g, 0, none⟩) n c) (.int .i64 (k : Int))).run Try.prog w = .ok (.pointer (some ⟨g, k * 3, none⟩)) w := by
  rw [ix44 h]; simp
theorem fa54_0 (b : Nat) (w : World) : (Instr.fieldAt 54 (.pointer (some ⟨b, 0, none⟩)) 0).run Try.prog w = .ok (.pointer (some ⟨b, 0, none⟩)) w := by kernel_rfl
theorem fao54_0 (b o : Nat) (w : World) : (Instr.fieldAt 54 (.pointer (some ⟨b, o, none⟩)) 0).run Try.prog w = .ok (.pointer (some ⟨b, o, none⟩)) w := by kernel_rfl
theorem fa54_1 (b : Nat) (w : World) : (Instr.fieldAt 54 (.pointer (some ⟨b, 0, none⟩)) 1).run Try.prog w = .ok (.pointer (some ⟨b, 1, none⟩)) w := by kernel_rfl
theorem fao54_1 (b o : Nat) (w : World) : (Instr.fieldAt 54 (.pointer (some ⟨b, o, none⟩)) 1).run Try.prog w = .ok (.pointer (some ⟨b, o + 1, none⟩)) w := by kernel_rfl
theorem bd23_0_1 {a0 a1 : Value} (o0 : a0.oneCell' = true) (o1 : a1.oneCell' = true) (w : World) : (Instr.build 23 #[(0, a0), (1, a1)]).run Try.prog w = .ok (.agg #[a0, a1]) w := by
  have e : ∀ v : Value, v.oneCell' = true → v.cells = #[v] := fun v h => by cases v <;> first | rfl | (simp [Value.oneCell'] at h)
  simp only [Value.cells] at e
  simp [go_sem, e _ o0, e _ o1]
theorem al23 (w : World) : (Instr.alloc 23 true (.tuple #[])).run Try.prog w = .ok (.pointer (some ⟨w.heap.size, 0, none⟩)) (w.alloc (.cells #[.int .i64 0, .int .i64 0] 23)) := by simp [go_sem]
theorem st23 {w : World} {b o : Nat} {v0 v1 : Value} {u0 u1 : Value} (h0 : w.cell? ⟨b, o, none⟩ = some u0) (h1 : w.cell? ⟨b, o + 1, none⟩ = some u1) (f0 : w.frozen? ⟨b, o, none⟩ = false) (o0 : v0.oneCell' = true) (f1 : w.frozen? ⟨b, o + 1, none⟩ = false) (o1 : v1.oneCell' = true) : (Instr.storeAt 23 (.pointer (some ⟨b, o, none⟩)) (.agg #[v0, v1])).run Try.prog w = .ok () ((w.setCell ⟨b, o, none⟩ v0).setCell ⟨b, o + 1, none⟩ v1) := by
  simp [go_sem, Addr.add, h0, h1, f0, f1, o0, o1, run_store, World.cell?_setCell_other, World.frozen?_setCell]
theorem ss23 {w0 w : World} {F : List Nat} {L : List Res} {b tt : Nat} {K : Value → World → Prop} {v0 v1 u0 u1 : Value} (k : Nat) (hS : St w0 F w L) (hk : L[k]? = some (Res.cells b tt [u0, u1])) (o0 : v0.oneCell' = true) (o1 : v1.oneCell' = true) (h : ∀ w', St w0 F w' (L.set k (Res.cells b tt [v0, v1])) → K undef w') : unitP Try.prog (Instr.storeAt 23 (.pointer (some ⟨b, 0, none⟩)) (.agg #[v0, v1])) w K := by
  obtain ⟨hkl, _⟩ := List.getElem?_eq_some_iff.1 hk
  have hf := fun i => hS.frozen (i := i) k hk
  have s1 := hS.set (b := b) (t := tt) (cs := [u0, u1]) (i := 0) k v0 hk
  have s2 := s1.set (b := b) (t := tt) (cs := [v0, u1]) (i := 1) k v1 (by simp [hkl])
  simp only [List.set_set, List.set_cons_zero, List.set_cons_succ] at s2
  exact unitP_ok (st23 (hS.cell k hk rfl) (hS.cell k hk rfl) (hf _) o0 (hf _) o1) (h _ s2)
theorem sr23 {w0 w : World} {F : List Nat} {L : List Res} {e m g c j : Nat} {xs : List Value} {K : Value → World → Prop} {v0 v1 : Value} (k : Nat) (hS : St w0 F w L) (hk : L[k]? = some (Res.row e 2 (.slice (some ⟨g, 0, none⟩) m c) m xs)) (hj : j + 2 ≤ xs.length) (o0 : v0.oneCell' = true) (o1 : v1.oneCell' = true) (h : ∀ w', St w0 F w' (L.set k (Res.row e 2 (.slice (some ⟨g, 0, none⟩) m c) m (setAll xs j [v0, v1]))) → K undef w') : unitP Try.prog (Instr.storeAt 23 (.pointer (some ⟨g, j, none⟩)) (.agg #[v0, v1])) w K := by
  have hS' := hS.row_sets k [v0, v1] j hk hj
  exact unitP_ok (st23 (hS.row_cell k hk (u := xs[j]'(by omega)) (by simp)) (hS.row_cell k hk (u := xs[j + 1]'(by omega)) (by simp)) (hS.row_frozen k hk) o0 (hS.row_frozen k hk) o1) (h _ hS')
theorem bd28_0 {a0 : Value} (o0 : a0.oneCell' = true) (w : World) : (Instr.build 28 #[(0, a0)]).run Try.prog w = .ok (.agg #[a0, .int .i64 0]) w := by
  have e : ∀ v : Value, v.oneCell' = true → v.cells = #[v] := fun v h => by cases v <;> first | rfl | (simp [Value.oneCell'] at h)
  simp only [Value.cells] at e
  simp [go_sem, e _ o0]
theorem bd54_0_1 {a0 a1_0 a1_1 : Value} (o0 : a0.oneCell' = true) (w : World) : (Instr.build 54 #[(0, a0), (1, .agg #[a1_0, a1_1])]).run Try.prog w = .ok (.agg #[a0, a1_0, a1_1]) w := by
  have e : ∀ v : Value, v.oneCell' = true → v.cells = #[v] := fun v h => by cases v <;> first | rfl | (simp [Value.oneCell'] at h)
  simp only [Value.cells] at e
  simp [go_sem, e _ o0]
theorem sl44 : SlT Try.prog 44 54 3 24 (.agg #[.int .i64 0, .int .i64 0, .int .i64 0]) := by unfold SlT; exact ⟨by kernel_rfl, by kernel_rfl, by kernel_rfl, Nat.lt_of_lt_of_le (by decide) (Nat.le_refl _)⟩
theorem bs44_4 {a0_0 a0_1 a0_2 a1_0 a1_1 a1_2 a2_0 a2_1 a2_2 a3_0 a3_1 a3_2 : Value} (w : World) : (Instr.buildSlice 44 4 #[(0, .agg #[a0_0, a0_1, a0_2]), (1, .agg #[a1_0, a1_1, a1_2]), (2, .agg #[a2_0, a2_1, a2_2]), (3, .agg #[a3_0, a3_1, a3_2])]).run Try.prog w = .ok (.slice (some ⟨w.heap.size, 0, none⟩) 4 4) (w.alloc (.cells #[a0_0, a0_1, a0_2, a1_0, a1_1, a1_2, a2_0, a2_1, a2_2, a3_0, a3_1, a3_2] 54)) := by
  have e : ∀ v : Value, v.oneCell' = true → v.cells = #[v] := fun v h => by cases v <;> first | rfl | (simp [Value.oneCell'] at h)
  simp only [Value.cells] at e
  simp [go_sem]
theorem eq34 (x y : Operand) (a b : Int) (w : World) : (binS .eql 34 x y (.int .i64 a) (.int .i64 b)).run Try.prog w = .ok (.bool (decide (a = b))) w := by
  by_cases h : a = b <;> simp [binS, go_sem, h]
theorem bs31_3 {a0_0 a0_1 a1_0 a1_1 a2_0 a2_1 : Value} (w : World) : (Instr.buildSlice 31 3 #[(0, .agg #[a0_0, a0_1]), (1, .agg #[a1_0, a1_1]), (2, .agg #[a2_0, a2_1])]).run Try.prog w = .ok (.slice (some ⟨w.heap.size, 0, none⟩) 3 3) (w.alloc (.cells #[a0_0, a0_1, a1_0, a1_1, a2_0, a2_1] 28)) := by
  have e : ∀ v : Value, v.oneCell' = true → v.cells = #[v] := fun v h => by cases v <;> first | rfl | (simp [Value.oneCell'] at h)
  simp only [Value.cells] at e
  simp [go_sem]
theorem al58 (w : World) : (Instr.alloc 58 true (.tuple #[])).run Try.prog w = .ok (.pointer (some ⟨w.heap.size, 0, none⟩)) (w.alloc (.cells #[.int .i64 0, .int .i64 0, .int .i64 0, .int .i64 0, .int .i64 0, .int .i64 0, .int .i64 0, .int .i64 0, .int .i64 0, .int .i64 0] 58)) := by simp [go_sem]
theorem bd58  (w : World) : (Instr.build 58 #[]).run Try.prog w = .ok (.agg #[.int .i64 0, .int .i64 0, .int .i64 0, .int .i64 0, .int .i64 0, .int .i64 0, .int .i64 0, .int .i64 0, .int .i64 0, .int .i64 0]) w := by
  have e : ∀ v : Value, v.oneCell' = true → v.cells = #[v] := fun v h => by cases v <;> first | rfl | (simp [Value.oneCell'] at h)
  simp only [Value.cells] at e
  simp [go_sem, Value.cells]
theorem st58 {w : World} {b o : Nat} {v0 v1 v2 v3 v4 v5 v6 v7 v8 v9 : Value} {u0 u1 u2 u3 u4 u5 u6 u7 u8 u9 : Value} (h0 : w.cell? ⟨b, o, none⟩ = some u0) (h1 : w.cell? ⟨b, o + 1, none⟩ = some u1) (h2 : w.cell? ⟨b, o + 2, none⟩ = some u2) (h3 : w.cell? ⟨b, o + 3, none⟩ = some u3) (h4 : w.cell? ⟨b, o + 4, none⟩ = some u4) (h5 : w.cell? ⟨b, o + 5, none⟩ = some u5) (h6 : w.cell? ⟨b, o + 6, none⟩ = some u6) (h7 : w.cell? ⟨b, o + 7, none⟩ = some u7) (h8 : w.cell? ⟨b, o + 8, none⟩ = some u8) (h9 : w.cell? ⟨b, o + 9, none⟩ = some u9) (f0 : w.frozen? ⟨b, o, none⟩ = false) (o0 : v0.oneCell' = true) (f1 : w.frozen? ⟨b, o + 1, none⟩ = false) (o1 : v1.oneCell' = true) (f2 : w.frozen? ⟨b, o + 2, none⟩ = false) (o2 : v2.oneCell' = true) (f3 : w.frozen? ⟨b, o + 3, none⟩ = false) (o3 : v3.oneCell' = true) (f4 : w.frozen? ⟨b, o + 4, none⟩ = false) (o4 : v4.oneCell' = true) (f5 : w.frozen? ⟨b, o + 5, none⟩ = false) (o5 : v5.oneCell' = true) (f6 : w.frozen? ⟨b, o + 6, none⟩ = false) (o6 : v6.oneCell' = true) (f7 : w.frozen? ⟨b, o + 7, none⟩ = false) (o7 : v7.oneCell' = true) (f8 : w.frozen? ⟨b, o + 8, none⟩ = false) (o8 : v8.oneCell' = true) (f9 : w.frozen? ⟨b, o + 9, none⟩ = false) (o9 : v9.oneCell' = true) : (Instr.storeAt 58 (.pointer (some ⟨b, o, none⟩)) (.agg #[v0, v1, v2, v3, v4, v5, v6, v7, v8, v9])).run Try.prog w = .ok () ((((((((((w.setCell ⟨b, o, none⟩ v0).setCell ⟨b, o + 1, none⟩ v1).setCell ⟨b, o + 2, none⟩ v2).setCell ⟨b, o + 3, none⟩ v3).setCell ⟨b, o + 4, none⟩ v4).setCell ⟨b, o + 5, none⟩ v5).setCell ⟨b, o + 6, none⟩ v6).setCell ⟨b, o + 7, none⟩ v7).setCell ⟨b, o + 8, none⟩ v8).setCell ⟨b, o + 9, none⟩ v9) := by
  simp [go_sem, Addr.add, h0, h1, h2, h3, h4, h5, h6, h7, h8, h9, f0, f1, f2, f3, f4, f5, f6, f7, f8, f9, o0, o1, o2, o3, o4, o5, o6, o7, o8, o9, run_store, World.cell?_setCell_other, World.frozen?_setCell]
theorem ss58 {w0 w : World} {F : List Nat} {L : List Res} {b tt : Nat} {K : Value → World → Prop} {v0 v1 v2 v3 v4 v5 v6 v7 v8 v9 u0 u1 u2 u3 u4 u5 u6 u7 u8 u9 : Value} (k : Nat) (hS : St w0 F w L) (hk : L[k]? = some (Res.cells b tt [u0, u1, u2, u3, u4, u5, u6, u7, u8, u9])) (o0 : v0.oneCell' = true) (o1 : v1.oneCell' = true) (o2 : v2.oneCell' = true) (o3 : v3.oneCell' = true) (o4 : v4.oneCell' = true) (o5 : v5.oneCell' = true) (o6 : v6.oneCell' = true) (o7 : v7.oneCell' = true) (o8 : v8.oneCell' = true) (o9 : v9.oneCell' = true) (h : ∀ w', St w0 F w' (L.set k (Res.cells b tt [v0, v1, v2, v3, v4, v5, v6, v7, v8, v9])) → K undef w') : unitP Try.prog (Instr.storeAt 58 (.pointer (some ⟨b, 0, none⟩)) (.agg #[v0, v1, v2, v3, v4, v5, v6, v7, v8, v9])) w K := by
  obtain ⟨hkl, _⟩ := List.getElem?_eq_some_iff.1 hk
  have hf := fun i => hS.frozen (i := i) k hk
  have s1 := hS.set (b := b) (t := tt) (cs := [u0, u1, u2, u3, u4, u5, u6, u7, u8, u9]) (i := 0) k v0 hk
  have s2 := s1.set (b := b) (t := tt) (cs := [v0, u1, u2, u3, u4, u5, u6, u7, u8, u9]) (i := 1) k v1 (by simp [hkl])
  have s3 := s2.set (b := b) (t := tt) (cs := [v0, v1, u2, u3, u4, u5, u6, u7, u8, u9]) (i := 2) k v2 (by simp [hkl])
  have s4 := s3.set (b := b) (t := tt) (cs := [v0, v1, v2, u3, u4, u5, u6, u7, u8, u9]) (i := 3) k v3 (by simp [hkl])
  have s5 := s4.set (b := b) (t := tt) (cs := [v0, v1, v2, v3, u4, u5, u6, u7, u8, u9]) (i := 4) k v4 (by simp [hkl])
  have s6 := s5.set (b := b) (t := tt) (cs := [v0, v1, v2, v3, v4, u5, u6, u7, u8, u9]) (i := 5) k v5 (by simp [hkl])
  have s7 := s6.set (b := b) (t := tt) (cs := [v0, v1, v2, v3, v4, v5, u6, u7, u8, u9]) (i := 6) k v6 (by simp [hkl])
  have s8 := s7.set (b := b) (t := tt) (cs := [v0, v1, v2, v3, v4, v5, v6, u7, u8, u9]) (i := 7) k v7 (by simp [hkl])
  have s9 := s8.set (b := b) (t := tt) (cs := [v0, v1, v2, v3, v4, v5, v6, v7, u8, u9]) (i := 8) k v8 (by simp [hkl])
  have s10 := s9.set (b := b) (t := tt) (cs := [v0, v1, v2, v3, v4, v5, v6, v7, v8, u9]) (i := 9) k v9 (by simp [hkl])
  simp only [List.set_set, List.set_cons_zero, List.set_cons_succ] at s10
  exact unitP_ok (st58 (hS.cell k hk rfl) (hS.cell k hk rfl) (hS.cell k hk rfl) (hS.cell k hk rfl) (hS.cell k hk rfl) (hS.cell k hk rfl) (hS.cell k hk rfl) (hS.cell k hk rfl) (hS.cell k hk rfl) (hS.cell k hk rfl) (hf _) o0 (hf _) o1 (hf _) o2 (hf _) o3 (hf _) o4 (hf _) o5 (hf _) o6 (hf _) o7 (hf _) o8 (hf _) o9) (h _ s10)
theorem sr58 {w0 w : World} {F : List Nat} {L : List Res} {e m g c j : Nat} {xs : List Value} {K : Value → World → Prop} {v0 v1 v2 v3 v4 v5 v6 v7 v8 v9 : Value} (k : Nat) (hS : St w0 F w L) (hk : L[k]? = some (Res.row e 10 (.slice (some ⟨g, 0, none⟩) m c) m xs)) (hj : j + 10 ≤ xs.length) (o0 : v0.oneCell' = true) (o1 : v1.oneCell' = true) (o2 : v2.oneCell' = true) (o3 : v3.oneCell' = true) (o4 : v4.oneCell' = true) (o5 : v5.oneCell' = true) (o6 : v6.oneCell' = true) (o7 : v7.oneCell' = true) (o8 : v8.oneCell' = true) (o9 : v9.oneCell' = true) (h : ∀ w', St w0 F w' (L.set k (Res.row e 10 (.slice (some ⟨g, 0, none⟩) m c) m (setAll xs j [v0, v1, v2, v3, v4, v5, v6, v7, v8, v9]))) → K undef w') : unitP Try.prog (Instr.storeAt 58 (.pointer (some ⟨g, j, none⟩)) (.agg #[v0, v1, v2, v3, v4, v5, v6, v7, v8, v9])) w K := by
  have hS' := hS.row_sets k [v0, v1, v2, v3, v4, v5, v6, v7, v8, v9] j hk hj
  exact unitP_ok (st58 (hS.row_cell k hk (u := xs[j]'(by omega)) (by simp)) (hS.row_cell k hk (u := xs[j + 1]'(by omega)) (by simp)) (hS.row_cell k hk (u := xs[j + 2]'(by omega)) (by simp)) (hS.row_cell k hk (u := xs[j + 3]'(by omega)) (by simp)) (hS.row_cell k hk (u := xs[j + 4]'(by omega)) (by simp)) (hS.row_cell k hk (u := xs[j + 5]'(by omega)) (by simp)) (hS.row_cell k hk (u := xs[j + 6]'(by omega)) (by simp)) (hS.row_cell k hk (u := xs[j + 7]'(by omega)) (by simp)) (hS.row_cell k hk (u := xs[j + 8]'(by omega)) (by simp)) (hS.row_cell k hk (u := xs[j + 9]'(by omega)) (by simp)) (hS.row_frozen k hk) o0 (hS.row_frozen k hk) o1 (hS.row_frozen k hk) o2 (hS.row_frozen k hk) o3 (hS.row_frozen k hk) o4 (hS.row_frozen k hk) o5 (hS.row_frozen k hk) o6 (hS.row_frozen k hk) o7 (hS.row_frozen k hk) o8 (hS.row_frozen k hk) o9) (h _ hS')
theorem ld58 {w : World} {b o : Nat} {v0 v1 v2 v3 v4 v5 v6 v7 v8 v9 : Value} (h0 : w.cell? ⟨b, o, none⟩ = some v0) (h1 : w.cell? ⟨b, o + 1, none⟩ = some v1) (h2 : w.cell? ⟨b, o + 2, none⟩ = some v2) (h3 : w.cell? ⟨b, o + 3, none⟩ = some v3) (h4 : w.cell? ⟨b, o + 4, none⟩ = some v4) (h5 : w.cell? ⟨b, o + 5, none⟩ = some v5) (h6 : w.cell? ⟨b, o + 6, none⟩ = some v6) (h7 : w.cell? ⟨b, o + 7, none⟩ = some v7) (h8 : w.cell? ⟨b, o + 8, none⟩ = some v8) (h9 : w.cell? ⟨b, o + 9, none⟩ = some v9) : (Instr.loadAt 58 (.pointer (some ⟨b, o, none⟩))).run Try.prog w = .ok (.agg #[v0, v1, v2, v3, v4, v5, v6, v7, v8, v9]) w := by simp [go_sem, Addr.add, h0, h1, h2, h3, h4, h5, h6, h7, h8, h9]
theorem ls58 {w0 w : World} {F : List Nat} {L : List Res} {b tt : Nat} {K : Value → World → Prop} {v0 v1 v2 v3 v4 v5 v6 v7 v8 v9 : Value} (k : Nat) (hS : St w0 F w L) (hk : L[k]? = some (Res.cells b tt [v0, v1, v2, v3, v4, v5, v6, v7, v8, v9])) (h : K (.agg #[v0, v1, v2, v3, v4, v5, v6, v7, v8, v9]) w) : valP Try.prog (Instr.loadAt 58 (.pointer (some ⟨b, 0, none⟩))) w K :=
  valP_ok (ld58 (hS.cell k hk rfl) (hS.cell k hk rfl) (hS.cell k hk rfl) (hS.cell k hk rfl) (hS.cell k hk rfl) (hS.cell k hk rfl) (hS.cell k hk rfl) (hS.cell k hk rfl) (hS.cell k hk rfl) (hS.cell k hk rfl)) h
theorem lc58 {w : World} {b o : Nat} {v0 v1 v2 v3 v4 v5 v6 v7 v8 v9 : Value} (h0 : w.cell? ⟨b, o, none⟩ = some v0) (h1 : w.cell? ⟨b, o + 1, none⟩ = some v1) (h2 : w.cell? ⟨b, o + 2, none⟩ = some v2) (h3 : w.cell? ⟨b, o + 3, none⟩ = some v3) (h4 : w.cell? ⟨b, o + 4, none⟩ = some v4) (h5 : w.cell? ⟨b, o + 5, none⟩ = some v5) (h6 : w.cell? ⟨b, o + 6, none⟩ = some v6) (h7 : w.cell? ⟨b, o + 7, none⟩ = some v7) (h8 : w.cell? ⟨b, o + 8, none⟩ = some v8) (h9 : w.cell? ⟨b, o + 9, none⟩ = some v9) : (loadC 58 (.pointer (some ⟨b, o, none⟩))).run Try.prog w = .ok (.agg #[v0, v1, v2, v3, v4, v5, v6, v7, v8, v9]) w := by simp [loadC, go_sem, Addr.add, h0, h1, h2, h3, h4, h5, h6, h7, h8, h9]
theorem bx58 (v0 v1 v2 v3 v4 v5 v6 v7 v8 v9 : Value) (w : World) : (Instr.box 58 (.agg #[v0, v1, v2, v3, v4, v5, v6, v7, v8, v9])).run Try.prog w = .ok (.pointer (some ⟨w.heap.size, 0, none⟩)) (w.alloc (.cells #[v0, v1, v2, v3, v4, v5, v6, v7, v8, v9] 58)) := by simp [go_sem]
theorem fa58_0 (b : Nat) (w : World) : (Instr.fieldAt 58 (.pointer (some ⟨b, 0, none⟩)) 0).run Try.prog w = .ok (.pointer (some ⟨b, 0, none⟩)) w := by kernel_rfl
theorem fao58_0 (b o : Nat) (w : World) : (Instr.fieldAt 58 (.pointer (some ⟨b, o, none⟩)) 0).run Try.prog w = .ok (.pointer (some ⟨b, o, none⟩)) w := by kernel_rfl
theorem fa58_2 (b : Nat) (w : World) : (Instr.fieldAt 58 (.pointer (some ⟨b, 0, none⟩)) 2).run Try.prog w = .ok (.pointer (some ⟨b, 2, none⟩)) w := by kernel_rfl
theorem fao58_2 (b o : Nat) (w : World) : (Instr.fieldAt 58 (.pointer (some ⟨b, o, none⟩)) 2).run Try.prog w = .ok (.pointer (some ⟨b, o + 2, none⟩)) w := by kernel_rfl
theorem fa58_3 (b : Nat) (w : World) : (Instr.fieldAt 58 (.pointer (some ⟨b, 0, none⟩)) 3).run Try.prog w = .ok (.pointer (some ⟨b, 3, none⟩)) w := by kernel_rfl
theorem fao58_3 (b o : Nat) (w : World) : (Instr.fieldAt 58 (.pointer (some ⟨b, o, none⟩)) 3).run Try.prog w = .ok (.pointer (some ⟨b, o + 3, none⟩)) w := by kernel_rfl
theorem fa58_1 (b : Nat) (w : World) : (Instr.fieldAt 58 (.pointer (some ⟨b, 0, none⟩)) 1).run Try.prog w = .ok (.pointer (some ⟨b, 1, none⟩)) w := by kernel_rfl
theorem fao58_1 (b o : Nat) (w : World) : (Instr.fieldAt 58 (.pointer (some ⟨b, o, none⟩)) 1).run Try.prog w = .ok (.pointer (some ⟨b, o + 1, none⟩)) w := by kernel_rfl
theorem fa58_4 (b : Nat) (w : World) : (Instr.fieldAt 58 (.pointer (some ⟨b, 0, none⟩)) 4).run Try.prog w = .ok (.pointer (some ⟨b, 4, none⟩)) w := by kernel_rfl
theorem fao58_4 (b o : Nat) (w : World) : (Instr.fieldAt 58 (.pointer (some ⟨b, o, none⟩)) 4).run Try.prog w = .ok (.pointer (some ⟨b, o + 4, none⟩)) w := by kernel_rfl
theorem fa58_5 (b : Nat) (w : World) : (Instr.fieldAt 58 (.pointer (some ⟨b, 0, none⟩)) 5).run Try.prog w = .ok (.pointer (some ⟨b, 8, none⟩)) w := by kernel_rfl
theorem fao58_5 (b o : Nat) (w : World) : (Instr.fieldAt 58 (.pointer (some ⟨b, o, none⟩)) 5).run Try.prog w = .ok (.pointer (some ⟨b, o + 8, none⟩)) w := by kernel_rfl
theorem fa58_6 (b : Nat) (w : World) : (Instr.fieldAt 58 (.pointer (some ⟨b, 0, none⟩)) 6).run Try.prog w = .ok (.pointer (some ⟨b, 9, none⟩)) w := by kernel_rfl
theorem fao58_6 (b o : Nat) (w : World) : (Instr.fieldAt 58 (.pointer (some ⟨b, o, none⟩)) 6).run Try.prog w = .ok (.pointer (some ⟨b, o + 9, none⟩)) w := by kernel_rfl
theorem eq4 (x y : Operand) (a b : Bool) (w : World) : (binS .eql 4 x y (.bool a) (.bool b)).run Try.prog w = .ok (.bool (decide (a = b))) w := by
  cases a <;> cases b <;> simp [binS, go_sem]
theorem sl52 : SlT Try.prog 52 4 1 1 (.bool false) := by unfold SlT; exact ⟨by kernel_rfl, by kernel_rfl, by kernel_rfl, Nat.lt_of_lt_of_le (by decide) (Nat.le_refl _)⟩
theorem ix52 {g o n c k : Nat} (h : k < n) (w : World) : (Instr.indexAt 52 (.slice (some ⟨g, o, none⟩) n c) (.int .i64 (k : Int))).run Try.prog w = .ok (.pointer (some ⟨g, o + k, none⟩)) w := by
  have h' : (k : Int) < n := by omega
  simp [go_sem, h', h, add_none]
theorem ixz52 {g n c k : Nat} (h : k < n) (w : World) : (Instr.indexAt 52 (.slice (some ⟨g, 0, none⟩) n c) (.int .i64 (k : Int))).run Try.prog w = .ok (.pointer (some ⟨g, k, none⟩)) w := by
  rw [ix52 h]; simp
theorem ld4 {w : World} {p : Addr} {v : Value} (h : w.cell? p = some v) : (Instr.loadAt 4 (.pointer (some p))).run Try.prog w = .ok v w := by simp [go_sem, h]
theorem eq28 (x y : Operand) (a0 : Int) (a1 : Int) (b0 : Int) (b1 : Int) (w : World) : (binS .eql 28 x y (.agg #[.int .i64 a0, .int .i64 a1]) (.agg #[.int .i64 b0, .int .i64 b1])).run Try.prog w = .ok (.bool (decide (a0 = b0 ∧ a1 = b1))) w := by
  rw [binS_run _ _ _ _ _ _ (by kernel_rfl), run_eql_struct, run_equalIn_struct w 9999 28 _ _ (by simp [Program.fieldsOf, Try.underlying28]) (by kernel_rfl)]
  by_cases h0 : a0 = b0 <;> by_cases h1 : a1 = b1 <;> simp [go_sem, Program.fieldsOf, Try.underlying28, Op.eqFields, *]
theorem st4 {w : World} {p : Addr} {u v : Value} (h : w.cell? p = some u) (hf : w.frozen? p = false) (ho : v.oneCell' = true) : (Instr.storeAt 4 (.pointer (some p)) v).run Try.prog w = .ok () (w.setCell p v) := by
  cases v <;> first | (simp [Value.oneCell'] at ho; done) | (simp [go_sem, h, hf]; done) | (simp [go_sem]; rw [run_store _ _ _ _ _ rfl, h]; simp [hf])
theorem ld54 {w : World} {b o : Nat} {v0 v1 v2 : Value} (h0 : w.cell? ⟨b, o, none⟩ = some v0) (h1 : w.cell? ⟨b, o + 1, none⟩ = some v1) (h2 : w.cell? ⟨b, o + 2, none⟩ = some v2) : (Instr.loadAt 54 (.pointer (some ⟨b, o, none⟩))).run Try.prog w = .ok (.agg #[v0, v1, v2]) w := by simp [go_sem, Addr.add, h0, h1, h2]
theorem ls54 {w0 w : World} {F : List Nat} {L : List Res} {b tt : Nat} {K : Value → World → Prop} {v0 v1 v2 : Value} (k : Nat) (hS : St w0 F w L) (hk : L[k]? = some (Res.cells b tt [v0, v1, v2])) (h : K (.agg #[v0, v1, v2]) w) : valP Try.prog (Instr.loadAt 54 (.pointer (some ⟨b, 0, none⟩))) w K :=
  valP_ok (ld54 (hS.cell k hk rfl) (hS.cell k hk rfl) (hS.cell k hk rfl)) h
theorem al54 (w : World) : (Instr.alloc 54 true (.tuple #[])).run Try.prog w = .ok (.pointer (some ⟨w.heap.size, 0, none⟩)) (w.alloc (.cells #[.int .i64 0, .int .i64 0, .int .i64 0] 54)) := by simp [go_sem]
theorem st54 {w : World} {b o : Nat} {v0 v1 v2 : Value} {u0 u1 u2 : Value} (h0 : w.cell? ⟨b, o, none⟩ = some u0) (h1 : w.cell? ⟨b, o + 1, none⟩ = some u1) (h2 : w.cell? ⟨b, o + 2, none⟩ = some u2) (f0 : w.frozen? ⟨b, o, none⟩ = false) (o0 : v0.oneCell' = true) (f1 : w.frozen? ⟨b, o + 1, none⟩ = false) (o1 : v1.oneCell' = true) (f2 : w.frozen? ⟨b, o + 2, none⟩ = false) (o2 : v2.oneCell' = true) : (Instr.storeAt 54 (.pointer (some ⟨b, o, none⟩)) (.agg #[v0, v1, v2])).run Try.prog w = .ok () (((w.setCell ⟨b, o, none⟩ v0).setCell ⟨b, o + 1, none⟩ v1).setCell ⟨b, o + 2, none⟩ v2) := by
  simp [go_sem, Addr.add, h0, h1, h2, f0, f1, f2, o0, o1, o2, run_store, World.cell?_setCell_other, World.frozen?_setCell]
theorem ss54 {w0 w : World} {F : List Nat} {L : List Res} {b tt : Nat} {K : Value → World → Prop} {v0 v1 v2 u0 u1 u2 : Value} (k : Nat) (hS : St w0 F w L) (hk : L[k]? = some (Res.cells b tt [u0, u1, u2])) (o0 : v0.oneCell' = true) (o1 : v1.oneCell' = true) (o2 : v2.oneCell' = true) (h : ∀ w', St w0 F w' (L.set k (Res.cells b tt [v0, v1, v2])) → K undef w') : unitP Try.prog (Instr.storeAt 54 (.pointer (some ⟨b, 0, none⟩)) (.agg #[v0, v1, v2])) w K := by
  obtain ⟨hkl, _⟩ := List.getElem?_eq_some_iff.1 hk
  have hf := fun i => hS.frozen (i := i) k hk
  have s1 := hS.set (b := b) (t := tt) (cs := [u0, u1, u2]) (i := 0) k v0 hk
  have s2 := s1.set (b := b) (t := tt) (cs := [v0, u1, u2]) (i := 1) k v1 (by simp [hkl])
  have s3 := s2.set (b := b) (t := tt) (cs := [v0, v1, u2]) (i := 2) k v2 (by simp [hkl])
  simp only [List.set_set, List.set_cons_zero, List.set_cons_succ] at s3
  exact unitP_ok (st54 (hS.cell k hk rfl) (hS.cell k hk rfl) (hS.cell k hk rfl) (hf _) o0 (hf _) o1 (hf _) o2) (h _ s3)
theorem sr54 {w0 w : World} {F : List Nat} {L : List Res} {e m g c j : Nat} {xs : List Value} {K : Value → World → Prop} {v0 v1 v2 : Value} (k : Nat) (hS : St w0 F w L) (hk : L[k]? = some (Res.row e 3 (.slice (some ⟨g, 0, none⟩) m c) m xs)) (hj : j + 3 ≤ xs.length) (o0 : v0.oneCell' = true) (o1 : v1.oneCell' = true) (o2 : v2.oneCell' = true) (h : ∀ w', St w0 F w' (L.set k (Res.row e 3 (.slice (some ⟨g, 0, none⟩) m c) m (setAll xs j [v0, v1, v2]))) → K undef w') : unitP Try.prog (Instr.storeAt 54 (.pointer (some ⟨g, j, none⟩)) (.agg #[v0, v1, v2])) w K := by
  have hS' := hS.row_sets k [v0, v1, v2] j hk hj
  exact unitP_ok (st54 (hS.row_cell k hk (u := xs[j]'(by omega)) (by simp)) (hS.row_cell k hk (u := xs[j + 1]'(by omega)) (by simp)) (hS.row_cell k hk (u := xs[j + 2]'(by omega)) (by simp)) (hS.row_frozen k hk) o0 (hS.row_frozen k hk) o1 (hS.row_frozen k hk) o2) (h _ hS')
theorem bs44_1 {a0_0 a0_1 a0_2 : Value} (w : World) : (Instr.buildSlice 44 1 #[(0, .agg #[a0_0, a0_1, a0_2])]).run Try.prog w = .ok (.slice (some ⟨w.heap.size, 0, none⟩) 1 1) (w.alloc (.cells #[a0_0, a0_1, a0_2] 54)) := by
  have e : ∀ v : Value, v.oneCell' = true → v.cells = #[v] := fun v h => by cases v <;> first | rfl | (simp [Value.oneCell'] at h)
  simp only [Value.cells] at e
  simp [go_sem]
theorem so44 {A : Option Addr} {n c k : Nat} (h : k ≤ n) (hc : n ≤ c) (w : World) : (Instr.sliceAt 44 (.slice A n c) (some (.int .i64 (k : Int))) none none).run Try.prog w = .ok (.slice (if c = k then A else A.map (·.add (k * 3))) (n - k) (c - k)) w := by
  have h' : ¬ n < k := by omega
  simp [go_sem, h', Addr.add]
end Go.Proofs.Ytojgdmcojmllkaa.M
