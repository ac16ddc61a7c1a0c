/- Parts of a proof, in one text: what it needs of R, V2, Mbase0, V3, FwL, FwW, V4, V5. -/
import Derived.Test.YtnhgdngbdoifnaaJCleanerKeeps1
import Derived.Test.YtnhgdngbdoifnaaProg
import Derived.Deep.Slices
import Derived.Deep.Fields
import Derived.SizedLaws
namespace Go.Proofs.Ytnhgdngbdoifnaa.M
open Go.Proofs.Ytnhgdngbdoifnaa.F Go.RowKit
set_option linter.unusedVariables false
set_option linter.unusedSimpArgs false
theorem len9 {s : ByteArray} {t : TypeId} {cs : Array Bool} (w : World) : (builtin .len #[9] t cs #[.string s] : Sem Next).run Try.prog w = .ok (.value (.int .i64 (s.size : Int))) w := by simp [go_sem]
theorem eq3 (x y : Operand) (a b : Int) (w : World) : (binS .eql 3 x y (.int .i64 a) (.int .i64 b)).run Try.prog w = .ok (.bool (decide (a = b))) w := by
  by_cases h : a = b <;> simp [binS, go_sem, h]
theorem eq5 (x y : Operand) (a b : Int) (w : World) : (binS .eql 5 x y (.int .u8 a) (.int .u8 b)).run Try.prog w = .ok (.bool (decide (a = b))) w := by
  by_cases h : a = b <;> simp [binS, go_sem, h]
theorem sl74 : SlT Try.prog 74 5 1 1 (.int .u8 0) := by unfold SlT; exact ⟨by kernel_rfl, by kernel_rfl, by kernel_rfl, Nat.lt_of_lt_of_le (by decide) (Nat.le_refl _)⟩
theorem bs74_1 {a0 : Value} (o0 : a0.oneCell' = true) (w : World) : (Instr.buildSlice 74 1 #[(0, a0)]).run Try.prog w = .ok (.slice (some ⟨w.heap.size, 0, none⟩) 1 1) (w.alloc (.cells #[a0] 5)) := by
  have e : ∀ v : Value, v.oneCell' = true → v.cells = #[v] := fun v h => by cases v <;> first | rfl | (simp [Value.oneCell'] at h)
  simp only [Value.cells] at e
  simp [go_sem, e _ o0]
theorem eq73 (x y : Operand) (a b : Int) (w : World) : (binS .eql 73 x y (.int .u64 a) (.int .u64 b)).run Try.prog w = .ok (.bool (decide (a = b))) w := by
  by_cases h : a = b <;> simp [binS, go_sem, h]
theorem bytes_inj {a b : ByteArray} (h : a.toList = b.toList) : a = b := by
  rw [ByteArray.toList_eq, ByteArray.toList_eq] at h
  exact ByteArray.ext (Array.toList_inj.mp h)
theorem bytes_iff {a b : ByteArray} : a.toList = b.toList ↔ a = b := ⟨bytes_inj, fun e => e ▸ rfl⟩
theorem ne9 (x y : Operand) (a b : ByteArray) (w : World) : (binS .neq 9 x y (.string a) (.string b)).run Try.prog w = .ok (.bool (decide (¬ a = b))) w := by
  by_cases h : a = b
  · simp [binS, go_sem, h]
  · have h' : ¬ a.toList = b.toList := fun e => h (bytes_inj e)
    simp [binS, go_sem, h, h']
theorem al96 (w : World) : (Instr.alloc 96 true (.tuple #[])).run Try.prog w = .ok (.pointer (some ⟨w.heap.size, 0, none⟩)) (w.alloc (.cells #[.int .u8 0, .int .u8 0, .int .u8 0, .int .u8 0, .int .u8 0, .int .u8 0, .int .u8 0, .int .u8 0, .int .u8 0, .int .u8 0] 96)) := by simp [go_sem]
theorem st5 {w : World} {p : Addr} {u v : Value} (h : w.cell? p = some u) (hf : w.frozen? p = false) (ho : v.oneCell' = true) : (Instr.storeAt 5 (.pointer (some p)) v).run Try.prog w = .ok () (w.setCell p v) := by
  cases v <;> first | (simp [Value.oneCell'] at ho; done) | (simp [go_sem, h, hf]; done) | (simp [go_sem]; rw [run_store _ _ _ _ _ rfl, h]; simp [hf])
theorem bx46 (v0 v1 v2 : Value) (w : World) : (Instr.box 46 (.agg #[v0, v1, v2])).run Try.prog w = .ok (.pointer (some ⟨w.heap.size, 0, none⟩)) (w.alloc (.cells #[v0, v1, v2] 46)) := by simp [go_sem]
theorem al46 (w : World) : (Instr.alloc 46 true (.tuple #[])).run Try.prog w = .ok (.pointer (some ⟨w.heap.size, 0, none⟩)) (w.alloc (.cells #[.int .i64 0, .int .i64 0, .string ⟨#[]⟩] 46)) := by simp [go_sem]
theorem fa46_2 (b : Nat) (w : World) : (Instr.fieldAt 46 (.pointer (some ⟨b, 0, none⟩)) 2).run Try.prog w = .ok (.pointer (some ⟨b, 2, none⟩)) w := by kernel_rfl
theorem fao46_2 (b o : Nat) (w : World) : (Instr.fieldAt 46 (.pointer (some ⟨b, o, none⟩)) 2).run Try.prog w = .ok (.pointer (some ⟨b, o + 2, none⟩)) w := by kernel_rfl
theorem ld9 {w : World} {p : Addr} {v : Value} (h : w.cell? p = some v) : (Instr.loadAt 9 (.pointer (some p))).run Try.prog w = .ok v w := by simp [go_sem, h]
theorem ne35 (x y : Operand) (a b : Int) (w : World) : (binS .neq 35 x y (.int .i64 a) (.int .i64 b)).run Try.prog w = .ok (.bool (decide (¬ a = b))) w := by
  by_cases h : a = b <;> simp [binS, go_sem, h]
theorem bd46  (w : World) : (Instr.build 46 #[]).run Try.prog w = .ok (.agg #[.int .i64 0, .int .i64 0, .string ⟨#[]⟩]) w := by
  have e : ∀ v : Value, v.oneCell' = true → v.cells = #[v] := fun v h => by cases v <;> first | rfl | (simp [Value.oneCell'] at h)
  simp only [Value.cells] at e
  simp [go_sem, Value.cells]
theorem st46 {w : World} {b o : Nat} {v0 v1 v2 : Value} {u0 u1 u2 : Value} (h0 : w.cell? ⟨b, o, none⟩ = some u0) (h1 : w.cell? ⟨b, o + 1, none⟩ = some u1) (h2 : w.cell? ⟨b, o + 2, none⟩ = some u2) (f0 : w.frozen? ⟨b, o, none⟩ = false) (o0 : v0.oneCell' = true) (f1 : w.frozen? ⟨b, o + 1, none⟩ = false) (o1 : v1.oneCell' = true) (f2 : w.frozen? ⟨b, o + 2, none⟩ = false) (o2 : v2.oneCell' = true) : (Instr.storeAt 46 (.pointer (some ⟨b, o, none⟩)) (.agg #[v0, v1, v2])).run Try.prog w = .ok () (((w.setCell ⟨b, o, none⟩ v0).setCell ⟨b, o + 1, none⟩ v1).setCell ⟨b, o + 2, none⟩ v2) := by
  simp [go_sem, Addr.add, h0, h1, h2, f0, f1, f2, o0, o1, o2, run_store, World.cell?_setCell_other, World.frozen?_setCell]
theorem ss46 {w0 w : World} {F : List Nat} {L : List Res} {b tt : Nat} {K : Value → World → Prop} {v0 v1 v2 u0 u1 u2 : Value} (k : Nat) (hS : St w0 F w L) (hk : L[k]? = some (Res.cells b tt [u0, u1, u2])) (o0 : v0.oneCell' = true) (o1 : v1.oneCell' = true) (o2 : v2.oneCell' = true) (h : ∀ w', St w0 F w' (L.set k (Res.cells b tt [v0, v1, v2])) → K undef w') : unitP Try.prog (Instr.storeAt 46 (.pointer (some ⟨b, 0, none⟩)) (.agg #[v0, v1, v2])) w K := by
  obtain ⟨hkl, _⟩ := List.getElem?_eq_some_iff.1 hk
  have hf := fun i => hS.frozen (i := i) k hk
  have s1 := hS.set (b := b) (t := tt) (cs := [u0, u1, u2]) (i := 0) k v0 hk
  have s2 := s1.set (b := b) (t := tt) (cs := [v0, u1, u2]) (i := 1) k v1 (by simp [hkl])
  have s3 := s2.set (b := b) (t := tt) (cs := [v0, v1, u2]) (i := 2) k v2 (by simp [hkl])
  simp only [List.set_set, List.set_cons_zero, List.set_cons_succ] at s3
  exact unitP_ok (st46 (hS.cell k hk rfl) (hS.cell k hk rfl) (hS.cell k hk rfl) (hf _) o0 (hf _) o1 (hf _) o2) (h _ s3)
theorem bd46_2 {a2 : Value} (o2 : a2.oneCell' = true) (w : World) : (Instr.build 46 #[(2, a2)]).run Try.prog w = .ok (.agg #[.int .i64 0, .int .i64 0, a2]) w := by
  have e : ∀ v : Value, v.oneCell' = true → v.cells = #[v] := fun v h => by cases v <;> first | rfl | (simp [Value.oneCell'] at h)
  simp only [Value.cells] at e
  simp [go_sem, e _ o2]
theorem fa46_0 (b : Nat) (w : World) : (Instr.fieldAt 46 (.pointer (some ⟨b, 0, none⟩)) 0).run Try.prog w = .ok (.pointer (some ⟨b, 0, none⟩)) w := by kernel_rfl
theorem fao46_0 (b o : Nat) (w : World) : (Instr.fieldAt 46 (.pointer (some ⟨b, o, none⟩)) 0).run Try.prog w = .ok (.pointer (some ⟨b, o, none⟩)) w := by kernel_rfl
theorem ld3 {w : World} {p : Addr} {v : Value} (h : w.cell? p = some v) : (Instr.loadAt 3 (.pointer (some p))).run Try.prog w = .ok v w := by simp [go_sem, h]
theorem fa46_1 (b : Nat) (w : World) : (Instr.fieldAt 46 (.pointer (some ⟨b, 0, none⟩)) 1).run Try.prog w = .ok (.pointer (some ⟨b, 1, none⟩)) w := by kernel_rfl
theorem fao46_1 (b o : Nat) (w : World) : (Instr.fieldAt 46 (.pointer (some ⟨b, o, none⟩)) 1).run Try.prog w = .ok (.pointer (some ⟨b, o + 1, none⟩)) w := by kernel_rfl
theorem bd46_0_1 {a0 a1 : Value} (o0 : a0.oneCell' = true) (o1 : a1.oneCell' = true) (w : World) : (Instr.build 46 #[(0, a0), (1, a1)]).run Try.prog w = .ok (.agg #[a0, a1, .string ⟨#[]⟩]) w := by
  have e : ∀ v : Value, v.oneCell' = true → v.cells = #[v] := fun v h => by cases v <;> first | rfl | (simp [Value.oneCell'] at h)
  simp only [Value.cells] at e
  simp [go_sem, e _ o0, e _ o1]
theorem ld46 {w : World} {b o : Nat} {v0 v1 v2 : Value} (h0 : w.cell? ⟨b, o, none⟩ = some v0) (h1 : w.cell? ⟨b, o + 1, none⟩ = some v1) (h2 : w.cell? ⟨b, o + 2, none⟩ = some v2) : (Instr.loadAt 46 (.pointer (some ⟨b, o, none⟩))).run Try.prog w = .ok (.agg #[v0, v1, v2]) w := by simp [go_sem, Addr.add, h0, h1, h2]
theorem lc46 {w : World} {b o : Nat} {v0 v1 v2 : Value} (h0 : w.cell? ⟨b, o, none⟩ = some v0) (h1 : w.cell? ⟨b, o + 1, none⟩ = some v1) (h2 : w.cell? ⟨b, o + 2, none⟩ = some v2) : (loadC 46 (.pointer (some ⟨b, o, none⟩))).run Try.prog w = .ok (.agg #[v0, v1, v2]) w := by simp [loadC, go_sem, Addr.add, h0, h1, h2]
theorem eq9 (x y : Operand) (a b : ByteArray) (w : World) : (binS .eql 9 x y (.string a) (.string b)).run Try.prog w = .ok (.bool (decide (a = b))) w := by
  by_cases h : a = b
  · simp [binS, go_sem, h]
  · have h' : ¬ a.toList = b.toList := fun e => h (bytes_inj e)
    simp [binS, go_sem, h, h']
theorem len25 {A : Option Addr} {n c : Nat} {t : TypeId} {cs : Array Bool} (w : World) : (builtin .len #[25] t cs #[.slice A n c] : Sem Next).run Try.prog w = .ok (.value (.int .i64 (n : Int))) w := by simp [go_sem]
theorem ix25 {g o n c k : Nat} (h : k < n) (w : World) : (Instr.indexAt 25 (.slice (some ⟨g, o, none⟩) n c) (.int .i64 (k : Int))).run Try.prog w = .ok (.pointer (some ⟨g, o + k * 4, none⟩)) w := by
  have h' : (k : Int) < n := by omega
  simp [go_sem, h', h, add_none]
theorem ld48 {w : World} {b o : Nat} {v0 v1 v2 v3 : Value} (h0 : w.cell? ⟨b, o, none⟩ = some v0) (h1 : w.cell? ⟨b, o + 1, none⟩ = some v1) (h2 : w.cell? ⟨b, o + 2, none⟩ = some v2) (h3 : w.cell? ⟨b, o + 3, none⟩ = some v3) : (Instr.loadAt 48 (.pointer (some ⟨b, o, none⟩))).run Try.prog w = .ok (.agg #[v0, v1, v2, v3]) w := by simp [go_sem, Addr.add, h0, h1, h2, h3]
theorem ls48 {w0 w : World} {F : List Nat} {L : List Res} {b tt : Nat} {K : Value → World → Prop} {v0 v1 v2 v3 : Value} (k : Nat) (hS : St w0 F w L) (hk : L[k]? = some (Res.cells b tt [v0, v1, v2, v3])) (h : K (.agg #[v0, v1, v2, v3]) w) : valP Try.prog (Instr.loadAt 48 (.pointer (some ⟨b, 0, none⟩))) w K :=
  valP_ok (ld48 (hS.cell k hk rfl) (hS.cell k hk rfl) (hS.cell k hk rfl) (hS.cell k hk rfl)) h
theorem al48 (w : World) : (Instr.alloc 48 true (.tuple #[])).run Try.prog w = .ok (.pointer (some ⟨w.heap.size, 0, none⟩)) (w.alloc (.cells #[.int .i64 0, .int .i64 0, .int .i64 0, .string ⟨#[]⟩] 48)) := by simp [go_sem]
theorem st48 {w : World} {b o : Nat} {v0 v1 v2 v3 : Value} {u0 u1 u2 u3 : Value} (h0 : w.cell? ⟨b, o, none⟩ = some u0) (h1 : w.cell? ⟨b, o + 1, none⟩ = some u1) (h2 : w.cell? ⟨b, o + 2, none⟩ = some u2) (h3 : w.cell? ⟨b, o + 3, none⟩ = some u3) (f0 : w.frozen? ⟨b, o, none⟩ = false) (o0 : v0.oneCell' = true) (f1 : w.frozen? ⟨b, o + 1, none⟩ = false) (o1 : v1.oneCell' = true) (f2 : w.frozen? ⟨b, o + 2, none⟩ = false) (o2 : v2.oneCell' = true) (f3 : w.frozen? ⟨b, o + 3, none⟩ = false) (o3 : v3.oneCell' = true) : (Instr.storeAt 48 (.pointer (some ⟨b, o, none⟩)) (.agg #[v0, v1, v2, v3])).run Try.prog w = .ok () ((((w.setCell ⟨b, o, none⟩ v0).setCell ⟨b, o + 1, none⟩ v1).setCell ⟨b, o + 2, none⟩ v2).setCell ⟨b, o + 3, none⟩ v3) := by
  simp [go_sem, Addr.add, h0, h1, h2, h3, f0, f1, f2, f3, o0, o1, o2, o3, run_store, World.cell?_setCell_other, World.frozen?_setCell]
theorem ss48 {w0 w : World} {F : List Nat} {L : List Res} {b tt : Nat} {K : Value → World → Prop} {v0 v1 v2 v3 u0 u1 u2 u3 : Value} (k : Nat) (hS : St w0 F w L) (hk : L[k]? = some (Res.cells b tt [u0, u1, u2, u3])) (o0 : v0.oneCell' = true) (o1 : v1.oneCell' = true) (o2 : v2.oneCell' = true) (o3 : v3.oneCell' = true) (h : ∀ w', St w0 F w' (L.set k (Res.cells b tt [v0, v1, v2, v3])) → K undef w') : unitP Try.prog (Instr.storeAt 48 (.pointer (some ⟨b, 0, none⟩)) (.agg #[v0, v1, v2, v3])) w K := by
  obtain ⟨hkl, _⟩ := List.getElem?_eq_some_iff.1 hk
  have hf := fun i => hS.frozen (i := i) k hk
  have s1 := hS.set (b := b) (t := tt) (cs := [u0, u1, u2, u3]) (i := 0) k v0 hk
  have s2 := s1.set (b := b) (t := tt) (cs := [v0, u1, u2, u3]) (i := 1) k v1 (by simp [hkl])
  have s3 := s2.set (b := b) (t := tt) (cs := [v0, v1, u2, u3]) (i := 2) k v2 (by simp [hkl])
  have s4 := s3.set (b := b) (t := tt) (cs := [v0, v1, v2, u3]) (i := 3) k v3 (by simp [hkl])
  simp only [List.set_set, List.set_cons_zero, List.set_cons_succ] at s4
  exact unitP_ok (st48 (hS.cell k hk rfl) (hS.cell k hk rfl) (hS.cell k hk rfl) (hS.cell k hk rfl) (hf _) o0 (hf _) o1 (hf _) o2 (hf _) o3) (h _ s4)
theorem fa48_1 (b : Nat) (w : World) : (Instr.fieldAt 48 (.pointer (some ⟨b, 0, none⟩)) 1).run Try.prog w = .ok (.pointer (some ⟨b, 1, none⟩)) w := by kernel_rfl
theorem fao48_1 (b o : Nat) (w : World) : (Instr.fieldAt 48 (.pointer (some ⟨b, o, none⟩)) 1).run Try.prog w = .ok (.pointer (some ⟨b, o + 1, none⟩)) w := by kernel_rfl
theorem ls46 {w0 w : World} {F : List Nat} {L : List Res} {b tt : Nat} {K : Value → World → Prop} {v0 v1 v2 : Value} (k : Nat) (hS : St w0 F w L) (hk : L[k]? = some (Res.cells b tt [v0, v1, v2])) (h : K (.agg #[v0, v1, v2]) w) : valP Try.prog (Instr.loadAt 46 (.pointer (some ⟨b, 0, none⟩))) w K :=
  valP_ok (ld46 (hS.cell k hk rfl) (hS.cell k hk rfl) (hS.cell k hk rfl)) h
theorem fa48_0 (b : Nat) (w : World) : (Instr.fieldAt 48 (.pointer (some ⟨b, 0, none⟩)) 0).run Try.prog w = .ok (.pointer (some ⟨b, 0, none⟩)) w := by kernel_rfl
theorem fao48_0 (b o : Nat) (w : World) : (Instr.fieldAt 48 (.pointer (some ⟨b, o, none⟩)) 0).run Try.prog w = .ok (.pointer (some ⟨b, o, none⟩)) w := by kernel_rfl
theorem ne3 (x y : Operand) (a b : Int) (w : World) : (binS .neq 3 x y (.int .i64 a) (.int .i64 b)).run Try.prog w = .ok (.bool (decide (¬ a = b))) w := by
  by_cases h : a = b <;> simp [binS, go_sem, h]
theorem sl25 : SlT Try.prog 25 48 4 40 (.agg #[.int .i64 0, .int .i64 0, .int .i64 0, .string ⟨#[]⟩]) := by unfold SlT; exact ⟨by kernel_rfl, by kernel_rfl, by kernel_rfl, Nat.lt_of_lt_of_le (by decide) (Nat.le_refl _)⟩
theorem bs25_1 {a0_0 a0_1 a0_2 a0_3 : Value} (w : World) : (Instr.buildSlice 25 1 #[(0, .agg #[a0_0, a0_1, a0_2, a0_3])]).run Try.prog w = .ok (.slice (some ⟨w.heap.size, 0, none⟩) 1 1) (w.alloc (.cells #[a0_0, a0_1, a0_2, a0_3] 48)) := by
  have e : ∀ v : Value, v.oneCell' = true → v.cells = #[v] := fun v h => by cases v <;> first | rfl | (simp [Value.oneCell'] at h)
  simp only [Value.cells] at e
  simp [go_sem]
theorem ne48 (x y : Operand) (a0 : Int) (a1 : Int) (a2 : Int) (a3 : ByteArray) (b0 : Int) (b1 : Int) (b2 : Int) (b3 : ByteArray) (w : World) : (binS .neq 48 x y (.agg #[.int .i64 a0, .int .i64 a1, .int .i64 a2, .string a3]) (.agg #[.int .i64 b0, .int .i64 b1, .int .i64 b2, .string b3])).run Try.prog w = .ok (.bool (decide (¬ (a0 = b0 ∧ a1 = b1 ∧ a2 = b2 ∧ a3 = b3)))) w := by
  rw [binS_run _ _ _ _ _ _ (by kernel_rfl), run_neq_struct, run_equalIn_struct w 9999 48 _ _ (by simp [Program.fieldsOf, Try.underlying48]) (by kernel_rfl)]
  by_cases h0 : a0 = b0 <;> by_cases h1 : a1 = b1 <;> by_cases h2 : a2 = b2 <;> by_cases h3 : a3 = b3 <;> simp [go_sem, Program.fieldsOf, Try.underlying48, Op.eqFields, bytes_iff, *]
theorem sl51 : SlT Try.prog 51 3 1 8 (.int .i64 0) := by unfold SlT; exact ⟨by kernel_rfl, by kernel_rfl, by kernel_rfl, Nat.lt_of_lt_of_le (by decide) (Nat.le_refl _)⟩
theorem bs51_5 {a0 a1 a2 a3 a4 : Value} (o0 : a0.oneCell' = true) (o1 : a1.oneCell' = true) (o2 : a2.oneCell' = true) (o3 : a3.oneCell' = true) (o4 : a4.oneCell' = true) (w : World) : (Instr.buildSlice 51 5 #[(0, a0), (1, a1), (2, a2), (3, a3), (4, a4)]).run Try.prog w = .ok (.slice (some ⟨w.heap.size, 0, none⟩) 5 5) (w.alloc (.cells #[a0, a1, a2, a3, a4] 3)) := by
  have e : ∀ v : Value, v.oneCell' = true → v.cells = #[v] := fun v h => by cases v <;> first | rfl | (simp [Value.oneCell'] at h)
  simp only [Value.cells] at e
  simp [go_sem, e _ o0, e _ o1, e _ o2, e _ o3, e _ o4]
theorem bd48_1 {a1_0 a1_1 a1_2 : Value} (w : World) : (Instr.build 48 #[(1, .agg #[a1_0, a1_1, a1_2])]).run Try.prog w = .ok (.agg #[.int .i64 0, a1_0, a1_1, a1_2]) w := by
  have e : ∀ v : Value, v.oneCell' = true → v.cells = #[v] := fun v h => by cases v <;> first | rfl | (simp [Value.oneCell'] at h)
  simp only [Value.cells] at e
  simp [go_sem, Value.cells]
theorem bd46_0_2 {a0 a2 : Value} (o0 : a0.oneCell' = true) (o2 : a2.oneCell' = true) (w : World) : (Instr.build 46 #[(0, a0), (2, a2)]).run Try.prog w = .ok (.agg #[a0, .int .i64 0, a2]) w := by
  have e : ∀ v : Value, v.oneCell' = true → v.cells = #[v] := fun v h => by cases v <;> first | rfl | (simp [Value.oneCell'] at h)
  simp only [Value.cells] at e
  simp [go_sem, e _ o0, e _ o2]
theorem bd48_0_1 {a0 a1_0 a1_1 a1_2 : Value} (o0 : a0.oneCell' = true) (w : World) : (Instr.build 48 #[(0, a0), (1, .agg #[a1_0, a1_1, a1_2])]).run Try.prog w = .ok (.agg #[a0, a1_0, a1_1, a1_2]) w := by
  have e : ∀ v : Value, v.oneCell' = true → v.cells = #[v] := fun v h => by cases v <;> first | rfl | (simp [Value.oneCell'] at h)
  simp only [Value.cells] at e
  simp [go_sem, e _ o0]
theorem bs25_4 {a0_0 a0_1 a0_2 a0_3 a1_0 a1_1 a1_2 a1_3 a2_0 a2_1 a2_2 a2_3 a3_0 a3_1 a3_2 a3_3 : Value} (w : World) : (Instr.buildSlice 25 4 #[(0, .agg #[a0_0, a0_1, a0_2, a0_3]), (1, .agg #[a1_0, a1_1, a1_2, a1_3]), (2, .agg #[a2_0, a2_1, a2_2, a2_3]), (3, .agg #[a3_0, a3_1, a3_2, a3_3])]).run Try.prog w = .ok (.slice (some ⟨w.heap.size, 0, none⟩) 4 4) (w.alloc (.cells #[a0_0, a0_1, a0_2, a0_3, a1_0, a1_1, a1_2, a1_3, a2_0, a2_1, a2_2, a2_3, a3_0, a3_1, a3_2, a3_3] 48)) := by
  have e : ∀ v : Value, v.oneCell' = true → v.cells = #[v] := fun v h => by cases v <;> first | rfl | (simp [Value.oneCell'] at h)
  simp only [Value.cells] at e
  simp [go_sem]
theorem so25 {A : Option Addr} {n c k : Nat} (h : k ≤ n) (hc : n ≤ c) (w : World) : (Instr.sliceAt 25 (.slice A n c) (some (.int .i64 (k : Int))) none none).run Try.prog w = .ok (.slice (if c = k then A else A.map (·.add (k * 4))) (n - k) (c - k)) w := by
  have h' : ¬ n < k := by omega
  simp [go_sem, h', Addr.add]
theorem len51 {A : Option Addr} {n c : Nat} {t : TypeId} {cs : Array Bool} (w : World) : (builtin .len #[51] t cs #[.slice A n c] : Sem Next).run Try.prog w = .ok (.value (.int .i64 (n : Int))) w := by simp [go_sem]
theorem ix51 {g o n c k : Nat} (h : k < n) (w : World) : (Instr.indexAt 51 (.slice (some ⟨g, o, none⟩) n c) (.int .i64 (k : Int))).run Try.prog w = .ok (.pointer (some ⟨g, o + k, none⟩)) w := by
  have h' : (k : Int) < n := by omega
  simp [go_sem, h', h, add_none]
theorem ixz51 {g n c k : Nat} (h : k < n) (w : World) : (Instr.indexAt 51 (.slice (some ⟨g, 0, none⟩) n c) (.int .i64 (k : Int))).run Try.prog w = .ok (.pointer (some ⟨g, k, none⟩)) w := by
  rw [ix51 h]; simp
theorem bx23 (v0 v1 v2 : Value) (w : World) : (Instr.box 23 (.agg #[v0, v1, v2])).run Try.prog w = .ok (.pointer (some ⟨w.heap.size, 0, none⟩)) (w.alloc (.cells #[v0, v1, v2] 23)) := by simp [go_sem]
theorem fa23_0 (b : Nat) (w : World) : (Instr.fieldAt 23 (.pointer (some ⟨b, 0, none⟩)) 0).run Try.prog w = .ok (.pointer (some ⟨b, 0, none⟩)) w := by kernel_rfl
theorem fao23_0 (b o : Nat) (w : World) : (Instr.fieldAt 23 (.pointer (some ⟨b, o, none⟩)) 0).run Try.prog w = .ok (.pointer (some ⟨b, o, none⟩)) w := by kernel_rfl
theorem fa23_1 (b : Nat) (w : World) : (Instr.fieldAt 23 (.pointer (some ⟨b, 0, none⟩)) 1).run Try.prog w = .ok (.pointer (some ⟨b, 1, none⟩)) w := by kernel_rfl
theorem fao23_1 (b o : Nat) (w : World) : (Instr.fieldAt 23 (.pointer (some ⟨b, o, none⟩)) 1).run Try.prog w = .ok (.pointer (some ⟨b, o + 1, none⟩)) w := by kernel_rfl
theorem fa23_2 (b : Nat) (w : World) : (Instr.fieldAt 23 (.pointer (some ⟨b, 0, none⟩)) 2).run Try.prog w = .ok (.pointer (some ⟨b, 2, none⟩)) w := by kernel_rfl
theorem fao23_2 (b o : Nat) (w : World) : (Instr.fieldAt 23 (.pointer (some ⟨b, o, none⟩)) 2).run Try.prog w = .ok (.pointer (some ⟨b, o + 2, none⟩)) w := by kernel_rfl
theorem ld23 {w : World} {b o : Nat} {v0 v1 v2 : Value} (h0 : w.cell? ⟨b, o, none⟩ = some v0) (h1 : w.cell? ⟨b, o + 1, none⟩ = some v1) (h2 : w.cell? ⟨b, o + 2, none⟩ = some v2) : (Instr.loadAt 23 (.pointer (some ⟨b, o, none⟩))).run Try.prog w = .ok (.agg #[v0, v1, v2]) w := by simp [go_sem, Addr.add, h0, h1, h2]
theorem ls23 {w0 w : World} {F : List Nat} {L : List Res} {b tt : Nat} {K : Value → World → Prop} {v0 v1 v2 : Value} (k : Nat) (hS : St w0 F w L) (hk : L[k]? = some (Res.cells b tt [v0, v1, v2])) (h : K (.agg #[v0, v1, v2]) w) : valP Try.prog (Instr.loadAt 23 (.pointer (some ⟨b, 0, none⟩))) w K :=
  valP_ok (ld23 (hS.cell k hk rfl) (hS.cell k hk rfl) (hS.cell k hk rfl)) h
theorem bs51_1 {a0 : Value} (o0 : a0.oneCell' = true) (w : World) : (Instr.buildSlice 51 1 #[(0, a0)]).run Try.prog w = .ok (.slice (some ⟨w.heap.size, 0, none⟩) 1 1) (w.alloc (.cells #[a0] 3)) := by
  have e : ∀ v : Value, v.oneCell' = true → v.cells = #[v] := fun v h => by cases v <;> first | rfl | (simp [Value.oneCell'] at h)
  simp only [Value.cells] at e
  simp [go_sem, e _ o0]
theorem bx65 (v0 v1 v2 v3 v4 v5 v6 v7 v8 v9 : Value) (w : World) : (Instr.box 65 (.agg #[v0, v1, v2, v3, v4, v5, v6, v7, v8, v9])).run Try.prog w = .ok (.pointer (some ⟨w.heap.size, 0, none⟩)) (w.alloc (.cells #[v0, v1, v2, v3, v4, v5, v6, v7, v8, v9] 65)) := by simp [go_sem]
theorem al65 (w : World) : (Instr.alloc 65 true (.tuple #[])).run Try.prog w = .ok (.pointer (some ⟨w.heap.size, 0, none⟩)) (w.alloc (.cells #[.int .i64 0, .int .i64 0, .int .i64 0, .int .i64 0, .int .i64 0, .int .i64 0, .int .i64 0, .int .i64 0, .int .i64 0, .int .i64 0] 65)) := by simp [go_sem]
theorem ld65 {w : World} {b o : Nat} {v0 v1 v2 v3 v4 v5 v6 v7 v8 v9 : Value} (h0 : w.cell? ⟨b, o, none⟩ = some v0) (h1 : w.cell? ⟨b, o + 1, none⟩ = some v1) (h2 : w.cell? ⟨b, o + 2, none⟩ = some v2) (h3 : w.cell? ⟨b, o + 3, none⟩ = some v3) (h4 : w.cell? ⟨b, o + 4, none⟩ = some v4) (h5 : w.cell? ⟨b, o + 5, none⟩ = some v5) (h6 : w.cell? ⟨b, o + 6, none⟩ = some v6) (h7 : w.cell? ⟨b, o + 7, none⟩ = some v7) (h8 : w.cell? ⟨b, o + 8, none⟩ = some v8) (h9 : w.cell? ⟨b, o + 9, none⟩ = some v9) : (Instr.loadAt 65 (.pointer (some ⟨b, o, none⟩))).run Try.prog w = .ok (.agg #[v0, v1, v2, v3, v4, v5, v6, v7, v8, v9]) w := by simp [go_sem, Addr.add, h0, h1, h2, h3, h4, h5, h6, h7, h8, h9]
theorem ls65 {w0 w : World} {F : List Nat} {L : List Res} {b tt : Nat} {K : Value → World → Prop} {v0 v1 v2 v3 v4 v5 v6 v7 v8 v9 : Value} (k : Nat) (hS : St w0 F w L) (hk : L[k]? = some (Res.cells b tt [v0, v1, v2, v3, v4, v5, v6, v7, v8, v9])) (h : K (.agg #[v0, v1, v2, v3, v4, v5, v6, v7, v8, v9]) w) : valP Try.prog (Instr.loadAt 65 (.pointer (some ⟨b, 0, none⟩))) w K :=
  valP_ok (ld65 (hS.cell k hk rfl) (hS.cell k hk rfl) (hS.cell k hk rfl) (hS.cell k hk rfl) (hS.cell k hk rfl) (hS.cell k hk rfl) (hS.cell k hk rfl) (hS.cell k hk rfl) (hS.cell k hk rfl) (hS.cell k hk rfl)) h
theorem st65 {w : World} {b o : Nat} {v0 v1 v2 v3 v4 v5 v6 v7 v8 v9 : Value} {u0 u1 u2 u3 u4 u5 u6 u7 u8 u9 : Value} (h0 : w.cell? ⟨b, o, none⟩ = some u0) (h1 : w.cell? ⟨b, o + 1, none⟩ = some u1) (h2 : w.cell? ⟨b, o + 2, none⟩ = some u2) (h3 : w.cell? ⟨b, o + 3, none⟩ = some u3) (h4 : w.cell? ⟨b, o + 4, none⟩ = some u4) (h5 : w.cell? ⟨b, o + 5, none⟩ = some u5) (h6 : w.cell? ⟨b, o + 6, none⟩ = some u6) (h7 : w.cell? ⟨b, o + 7, none⟩ = some u7) (h8 : w.cell? ⟨b, o + 8, none⟩ = some u8) (h9 : w.cell? ⟨b, o + 9, none⟩ = some u9) (f0 : w.frozen? ⟨b, o, none⟩ = false) (o0 : v0.oneCell' = true) (f1 : w.frozen? ⟨b, o + 1, none⟩ = false) (o1 : v1.oneCell' = true) (f2 : w.frozen? ⟨b, o + 2, none⟩ = false) (o2 : v2.oneCell' = true) (f3 : w.frozen? ⟨b, o + 3, none⟩ = false) (o3 : v3.oneCell' = true) (f4 : w.frozen? ⟨b, o + 4, none⟩ = false) (o4 : v4.oneCell' = true) (f5 : w.frozen? ⟨b, o + 5, none⟩ = false) (o5 : v5.oneCell' = true) (f6 : w.frozen? ⟨b, o + 6, none⟩ = false) (o6 : v6.oneCell' = true) (f7 : w.frozen? ⟨b, o + 7, none⟩ = false) (o7 : v7.oneCell' = true) (f8 : w.frozen? ⟨b, o + 8, none⟩ = false) (o8 : v8.oneCell' = true) (f9 : w.frozen? ⟨b, o + 9, none⟩ = false) (o9 : v9.oneCell' = true) : (Instr.storeAt 65 (.pointer (some ⟨b, o, none⟩)) (.agg #[v0, v1, v2, v3, v4, v5, v6, v7, v8, v9])).run Try.prog w = .ok () ((((((((((w.setCell ⟨b, o, none⟩ v0).setCell ⟨b, o + 1, none⟩ v1).setCell ⟨b, o + 2, none⟩ v2).setCell ⟨b, o + 3, none⟩ v3).setCell ⟨b, o + 4, none⟩ v4).setCell ⟨b, o + 5, none⟩ v5).setCell ⟨b, o + 6, none⟩ v6).setCell ⟨b, o + 7, none⟩ v7).setCell ⟨b, o + 8, none⟩ v8).setCell ⟨b, o + 9, none⟩ v9) := by
  simp [go_sem, Addr.add, h0, h1, h2, h3, h4, h5, h6, h7, h8, h9, f0, f1, f2, f3, f4, f5, f6, f7, f8, f9, o0, o1, o2, o3, o4, o5, o6, o7, o8, o9, run_store, World.cell?_setCell_other, World.frozen?_setCell]
theorem ss65 {w0 w : World} {F : List Nat} {L : List Res} {b tt : Nat} {K : Value → World → Prop} {v0 v1 v2 v3 v4 v5 v6 v7 v8 v9 u0 u1 u2 u3 u4 u5 u6 u7 u8 u9 : Value} (k : Nat) (hS : St w0 F w L) (hk : L[k]? = some (Res.cells b tt [u0, u1, u2, u3, u4, u5, u6, u7, u8, u9])) (o0 : v0.oneCell' = true) (o1 : v1.oneCell' = true) (o2 : v2.oneCell' = true) (o3 : v3.oneCell' = true) (o4 : v4.oneCell' = true) (o5 : v5.oneCell' = true) (o6 : v6.oneCell' = true) (o7 : v7.oneCell' = true) (o8 : v8.oneCell' = true) (o9 : v9.oneCell' = true) (h : ∀ w', St w0 F w' (L.set k (Res.cells b tt [v0, v1, v2, v3, v4, v5, v6, v7, v8, v9])) → K undef w') : unitP Try.prog (Instr.storeAt 65 (.pointer (some ⟨b, 0, none⟩)) (.agg #[v0, v1, v2, v3, v4, v5, v6, v7, v8, v9])) w K := by
  obtain ⟨hkl, _⟩ := List.getElem?_eq_some_iff.1 hk
  have hf := fun i => hS.frozen (i := i) k hk
  have s1 := hS.set (b := b) (t := tt) (cs := [u0, u1, u2, u3, u4, u5, u6, u7, u8, u9]) (i := 0) k v0 hk
  have s2 := s1.set (b := b) (t := tt) (cs := [v0, u1, u2, u3, u4, u5, u6, u7, u8, u9]) (i := 1) k v1 (by simp [hkl])
  have s3 := s2.set (b := b) (t := tt) (cs := [v0, v1, u2, u3, u4, u5, u6, u7, u8, u9]) (i := 2) k v2 (by simp [hkl])
  have s4 := s3.set (b := b) (t := tt) (cs := [v0, v1, v2, u3, u4, u5, u6, u7, u8, u9]) (i := 3) k v3 (by simp [hkl])
  have s5 := s4.set (b := b) (t := tt) (cs := [v0, v1, v2, v3, u4, u5, u6, u7, u8, u9]) (i := 4) k v4 (by simp [hkl])
  have s6 := s5.set (b := b) (t := tt) (cs := [v0, v1, v2, v3, v4, u5, u6, u7, u8, u9]) (i := 5) k v5 (by simp [hkl])
  have s7 := s6.set (b := b) (t := tt) (cs := [v0, v1, v2, v3, v4, v5, u6, u7, u8, u9]) (i := 6) k v6 (by simp [hkl])
  have s8 := s7.set (b := b) (t := tt) (cs := [v0, v1, v2, v3, v4, v5, v6, u7, u8, u9]) (i := 7) k v7 (by simp [hkl])
  have s9 := s8.set (b := b) (t := tt) (cs := [v0, v1, v2, v3, v4, v5, v6, v7, u8, u9]) (i := 8) k v8 (by simp [hkl])
  have s10 := s9.set (b := b) (t := tt) (cs := [v0, v1, v2, v3, v4, v5, v6, v7, v8, u9]) (i := 9) k v9 (by simp [hkl])
  simp only [List.set_set, List.set_cons_zero, List.set_cons_succ] at s10
  exact unitP_ok (st65 (hS.cell k hk rfl) (hS.cell k hk rfl) (hS.cell k hk rfl) (hS.cell k hk rfl) (hS.cell k hk rfl) (hS.cell k hk rfl) (hS.cell k hk rfl) (hS.cell k hk rfl) (hS.cell k hk rfl) (hS.cell k hk rfl) (hf _) o0 (hf _) o1 (hf _) o2 (hf _) o3 (hf _) o4 (hf _) o5 (hf _) o6 (hf _) o7 (hf _) o8 (hf _) o9) (h _ s10)
theorem fa65_0 (b : Nat) (w : World) : (Instr.fieldAt 65 (.pointer (some ⟨b, 0, none⟩)) 0).run Try.prog w = .ok (.pointer (some ⟨b, 0, none⟩)) w := by kernel_rfl
theorem fao65_0 (b o : Nat) (w : World) : (Instr.fieldAt 65 (.pointer (some ⟨b, o, none⟩)) 0).run Try.prog w = .ok (.pointer (some ⟨b, o, none⟩)) w := by kernel_rfl
theorem fa65_2 (b : Nat) (w : World) : (Instr.fieldAt 65 (.pointer (some ⟨b, 0, none⟩)) 2).run Try.prog w = .ok (.pointer (some ⟨b, 2, none⟩)) w := by kernel_rfl
theorem fao65_2 (b o : Nat) (w : World) : (Instr.fieldAt 65 (.pointer (some ⟨b, o, none⟩)) 2).run Try.prog w = .ok (.pointer (some ⟨b, o + 2, none⟩)) w := by kernel_rfl
theorem st3 {w : World} {p : Addr} {u v : Value} (h : w.cell? p = some u) (hf : w.frozen? p = false) (ho : v.oneCell' = true) : (Instr.storeAt 3 (.pointer (some p)) v).run Try.prog w = .ok () (w.setCell p v) := by
  cases v <;> first | (simp [Value.oneCell'] at ho; done) | (simp [go_sem, h, hf]; done) | (simp [go_sem]; rw [run_store _ _ _ _ _ rfl, h]; simp [hf])
theorem fa65_3 (b : Nat) (w : World) : (Instr.fieldAt 65 (.pointer (some ⟨b, 0, none⟩)) 3).run Try.prog w = .ok (.pointer (some ⟨b, 3, none⟩)) w := by kernel_rfl
theorem fao65_3 (b o : Nat) (w : World) : (Instr.fieldAt 65 (.pointer (some ⟨b, o, none⟩)) 3).run Try.prog w = .ok (.pointer (some ⟨b, o + 3, none⟩)) w := by kernel_rfl
theorem fa65_1 (b : Nat) (w : World) : (Instr.fieldAt 65 (.pointer (some ⟨b, 0, none⟩)) 1).run Try.prog w = .ok (.pointer (some ⟨b, 1, none⟩)) w := by kernel_rfl
theorem fao65_1 (b o : Nat) (w : World) : (Instr.fieldAt 65 (.pointer (some ⟨b, o, none⟩)) 1).run Try.prog w = .ok (.pointer (some ⟨b, o + 1, none⟩)) w := by kernel_rfl
theorem fa65_4 (b : Nat) (w : World) : (Instr.fieldAt 65 (.pointer (some ⟨b, 0, none⟩)) 4).run Try.prog w = .ok (.pointer (some ⟨b, 4, none⟩)) w := by kernel_rfl
theorem fao65_4 (b o : Nat) (w : World) : (Instr.fieldAt 65 (.pointer (some ⟨b, o, none⟩)) 4).run Try.prog w = .ok (.pointer (some ⟨b, o + 4, none⟩)) w := by kernel_rfl
theorem ixa63 {b o k : Nat} (h : k < 4) (w : World) : (Instr.indexAt 63 (.pointer (some ⟨b, o, none⟩)) (.int .i64 (k : Int))).run Try.prog w = .ok (.pointer (some ⟨b, o + k, none⟩)) w := by
  have hk : ((k : Int) < 4) := by omega
  simp [go_sem, hk, h, Addr.add]
theorem fa65_5 (b : Nat) (w : World) : (Instr.fieldAt 65 (.pointer (some ⟨b, 0, none⟩)) 5).run Try.prog w = .ok (.pointer (some ⟨b, 8, none⟩)) w := by kernel_rfl
theorem fao65_5 (b o : Nat) (w : World) : (Instr.fieldAt 65 (.pointer (some ⟨b, o, none⟩)) 5).run Try.prog w = .ok (.pointer (some ⟨b, o + 8, none⟩)) w := by kernel_rfl
theorem fa65_6 (b : Nat) (w : World) : (Instr.fieldAt 65 (.pointer (some ⟨b, 0, none⟩)) 6).run Try.prog w = .ok (.pointer (some ⟨b, 9, none⟩)) w := by kernel_rfl
theorem fao65_6 (b o : Nat) (w : World) : (Instr.fieldAt 65 (.pointer (some ⟨b, o, none⟩)) 6).run Try.prog w = .ok (.pointer (some ⟨b, o + 9, none⟩)) w := by kernel_rfl
theorem lc65 {w : World} {b o : Nat} {v0 v1 v2 v3 v4 v5 v6 v7 v8 v9 : Value} (h0 : w.cell? ⟨b, o, none⟩ = some v0) (h1 : w.cell? ⟨b, o + 1, none⟩ = some v1) (h2 : w.cell? ⟨b, o + 2, none⟩ = some v2) (h3 : w.cell? ⟨b, o + 3, none⟩ = some v3) (h4 : w.cell? ⟨b, o + 4, none⟩ = some v4) (h5 : w.cell? ⟨b, o + 5, none⟩ = some v5) (h6 : w.cell? ⟨b, o + 6, none⟩ = some v6) (h7 : w.cell? ⟨b, o + 7, none⟩ = some v7) (h8 : w.cell? ⟨b, o + 8, none⟩ = some v8) (h9 : w.cell? ⟨b, o + 9, none⟩ = some v9) : (loadC 65 (.pointer (some ⟨b, o, none⟩))).run Try.prog w = .ok (.agg #[v0, v1, v2, v3, v4, v5, v6, v7, v8, v9]) w := by simp [loadC, go_sem, Addr.add, h0, h1, h2, h3, h4, h5, h6, h7, h8, h9]
theorem bs51_10 {a0 a1 a2 a3 a4 a5 a6 a7 a8 a9 : Value} (o0 : a0.oneCell' = true) (o1 : a1.oneCell' = true) (o2 : a2.oneCell' = true) (o3 : a3.oneCell' = true) (o4 : a4.oneCell' = true) (o5 : a5.oneCell' = true) (o6 : a6.oneCell' = true) (o7 : a7.oneCell' = true) (o8 : a8.oneCell' = true) (o9 : a9.oneCell' = true) (w : World) : (Instr.buildSlice 51 10 #[(0, a0), (1, a1), (2, a2), (3, a3), (4, a4), (5, a5), (6, a6), (7, a7), (8, a8), (9, a9)]).run Try.prog w = .ok (.slice (some ⟨w.heap.size, 0, none⟩) 10 10) (w.alloc (.cells #[a0, a1, a2, a3, a4, a5, a6, a7, a8, a9] 3)) := by
  have e : ∀ v : Value, v.oneCell' = true → v.cells = #[v] := fun v h => by cases v <;> first | rfl | (simp [Value.oneCell'] at h)
  simp only [Value.cells] at e
  simp [go_sem, e _ o0, e _ o1, e _ o2, e _ o3, e _ o4, e _ o5, e _ o6, e _ o7, e _ o8, e _ o9]
theorem bx67 (v0 v1 v2 v3 v4 v5 v6 v7 v8 v9 v10 v11 : Value) (w : World) : (Instr.box 67 (.agg #[v0, v1, v2, v3, v4, v5, v6, v7, v8, v9, v10, v11])).run Try.prog w = .ok (.pointer (some ⟨w.heap.size, 0, none⟩)) (w.alloc (.cells #[v0, v1, v2, v3, v4, v5, v6, v7, v8, v9, v10, v11] 67)) := by simp [go_sem]
theorem fa67_1 (b : Nat) (w : World) : (Instr.fieldAt 67 (.pointer (some ⟨b, 0, none⟩)) 1).run Try.prog w = .ok (.pointer (some ⟨b, 1, none⟩)) w := by kernel_rfl
theorem fao67_1 (b o : Nat) (w : World) : (Instr.fieldAt 67 (.pointer (some ⟨b, o, none⟩)) 1).run Try.prog w = .ok (.pointer (some ⟨b, o + 1, none⟩)) w := by kernel_rfl
theorem fa67_0 (b : Nat) (w : World) : (Instr.fieldAt 67 (.pointer (some ⟨b, 0, none⟩)) 0).run Try.prog w = .ok (.pointer (some ⟨b, 0, none⟩)) w := by kernel_rfl
theorem fao67_0 (b o : Nat) (w : World) : (Instr.fieldAt 67 (.pointer (some ⟨b, o, none⟩)) 0).run Try.prog w = .ok (.pointer (some ⟨b, o, none⟩)) w := by kernel_rfl
theorem bx28 (v0 v1 v2 v3 v4 : Value) (w : World) : (Instr.box 28 (.agg #[v0, v1, v2, v3, v4])).run Try.prog w = .ok (.pointer (some ⟨w.heap.size, 0, none⟩)) (w.alloc (.cells #[v0, v1, v2, v3, v4] 28)) := by simp [go_sem]
theorem fa28_0 (b : Nat) (w : World) : (Instr.fieldAt 28 (.pointer (some ⟨b, 0, none⟩)) 0).run Try.prog w = .ok (.pointer (some ⟨b, 0, none⟩)) w := by kernel_rfl
theorem fao28_0 (b o : Nat) (w : World) : (Instr.fieldAt 28 (.pointer (some ⟨b, o, none⟩)) 0).run Try.prog w = .ok (.pointer (some ⟨b, o, none⟩)) w := by kernel_rfl
theorem fa28_1 (b : Nat) (w : World) : (Instr.fieldAt 28 (.pointer (some ⟨b, 0, none⟩)) 1).run Try.prog w = .ok (.pointer (some ⟨b, 1, none⟩)) w := by kernel_rfl
theorem fao28_1 (b o : Nat) (w : World) : (Instr.fieldAt 28 (.pointer (some ⟨b, o, none⟩)) 1).run Try.prog w = .ok (.pointer (some ⟨b, o + 1, none⟩)) w := by kernel_rfl
theorem fa28_2 (b : Nat) (w : World) : (Instr.fieldAt 28 (.pointer (some ⟨b, 0, none⟩)) 2).run Try.prog w = .ok (.pointer (some ⟨b, 2, none⟩)) w := by kernel_rfl
theorem fao28_2 (b o : Nat) (w : World) : (Instr.fieldAt 28 (.pointer (some ⟨b, o, none⟩)) 2).run Try.prog w = .ok (.pointer (some ⟨b, o + 2, none⟩)) w := by kernel_rfl
theorem fa28_3 (b : Nat) (w : World) : (Instr.fieldAt 28 (.pointer (some ⟨b, 0, none⟩)) 3).run Try.prog w = .ok (.pointer (some ⟨b, 3, none⟩)) w := by kernel_rfl
theorem fao28_3 (b o : Nat) (w : World) : (Instr.fieldAt 28 (.pointer (some ⟨b, o, none⟩)) 3).run Try.prog w = .ok (.pointer (some ⟨b, o + 3, none⟩)) w := by kernel_rfl
theorem fa28_4 (b : Nat) (w : World) : (Instr.fieldAt 28 (.pointer (some ⟨b, 0, none⟩)) 4).run Try.prog w = .ok (.pointer (some ⟨b, 4, none⟩)) w := by kernel_rfl
theorem fao28_4 (b o : Nat) (w : World) : (Instr.fieldAt 28 (.pointer (some ⟨b, o, none⟩)) 4).run Try.prog w = .ok (.pointer (some ⟨b, o + 4, none⟩)) w := by kernel_rfl
theorem ld26 {w : World} {p : Addr} {v : Value} (h : w.cell? p = some v) : (Instr.loadAt 26 (.pointer (some p))).run Try.prog w = .ok v w := by simp [go_sem, h]
theorem len26 {A : Option Addr} {n c : Nat} {t : TypeId} {cs : Array Bool} (w : World) : (builtin .len #[26] t cs #[.slice A n c] : Sem Next).run Try.prog w = .ok (.value (.int .i64 (n : Int))) w := by simp [go_sem]
theorem ix26 {g o n c k : Nat} (h : k < n) (w : World) : (Instr.indexAt 26 (.slice (some ⟨g, o, none⟩) n c) (.int .i64 (k : Int))).run Try.prog w = .ok (.pointer (some ⟨g, o + k * 12, none⟩)) w := by
  have h' : (k : Int) < n := by omega
  simp [go_sem, h', h, add_none]
theorem ixz26 {g n c k : Nat} (h : k < n) (w : World) : (Instr.indexAt 26 (.slice (some ⟨g, 0, none⟩) n c) (.int .i64 (k : Int))).run Try.prog w = .ok (.pointer (some ⟨g, k * 12, none⟩)) w := by
  rw [ix26 h]; simp
theorem ld67 {w : World} {b o : Nat} {v0 v1 v2 v3 v4 v5 v6 v7 v8 v9 v10 v11 : Value} (h0 : w.cell? ⟨b, o, none⟩ = some v0) (h1 : w.cell? ⟨b, o + 1, none⟩ = some v1) (h2 : w.cell? ⟨b, o + 2, none⟩ = some v2) (h3 : w.cell? ⟨b, o + 3, none⟩ = some v3) (h4 : w.cell? ⟨b, o + 4, none⟩ = some v4) (h5 : w.cell? ⟨b, o + 5, none⟩ = some v5) (h6 : w.cell? ⟨b, o + 6, none⟩ = some v6) (h7 : w.cell? ⟨b, o + 7, none⟩ = some v7) (h8 : w.cell? ⟨b, o + 8, none⟩ = some v8) (h9 : w.cell? ⟨b, o + 9, none⟩ = some v9) (h10 : w.cell? ⟨b, o + 10, none⟩ = some v10) (h11 : w.cell? ⟨b, o + 11, none⟩ = some v11) : (Instr.loadAt 67 (.pointer (some ⟨b, o, none⟩))).run Try.prog w = .ok (.agg #[v0, v1, v2, v3, v4, v5, v6, v7, v8, v9, v10, v11]) w := by simp [go_sem, Addr.add, h0, h1, h2, h3, h4, h5, h6, h7, h8, h9, h10, h11]
theorem al67 (w : World) : (Instr.alloc 67 true (.tuple #[])).run Try.prog w = .ok (.pointer (some ⟨w.heap.size, 0, none⟩)) (w.alloc (.cells #[.int .i64 0, .int .i64 0, .int .i64 0, .int .i64 0, .int .i64 0, .int .i64 0, .int .i64 0, .int .i64 0, .int .i64 0, .int .i64 0, .int .i64 0, .int .i64 0] 67)) := by simp [go_sem]
theorem st67 {w : World} {b o : Nat} {v0 v1 v2 v3 v4 v5 v6 v7 v8 v9 v10 v11 : Value} {u0 u1 u2 u3 u4 u5 u6 u7 u8 u9 u10 u11 : Value} (h0 : w.cell? ⟨b, o, none⟩ = some u0) (h1 : w.cell? ⟨b, o + 1, none⟩ = some u1) (h2 : w.cell? ⟨b, o + 2, none⟩ = some u2) (h3 : w.cell? ⟨b, o + 3, none⟩ = some u3) (h4 : w.cell? ⟨b, o + 4, none⟩ = some u4) (h5 : w.cell? ⟨b, o + 5, none⟩ = some u5) (h6 : w.cell? ⟨b, o + 6, none⟩ = some u6) (h7 : w.cell? ⟨b, o + 7, none⟩ = some u7) (h8 : w.cell? ⟨b, o + 8, none⟩ = some u8) (h9 : w.cell? ⟨b, o + 9, none⟩ = some u9) (h10 : w.cell? ⟨b, o + 10, none⟩ = some u10) (h11 : w.cell? ⟨b, o + 11, none⟩ = some u11) (f0 : w.frozen? ⟨b, o, none⟩ = false) (o0 : v0.oneCell' = true) (f1 : w.frozen? ⟨b, o + 1, none⟩ = false) (o1 : v1.oneCell' = true) (f2 : w.frozen? ⟨b, o + 2, none⟩ = false) (o2 : v2.oneCell' = true) (f3 : w.frozen? ⟨b, o + 3, none⟩ = false) (o3 : v3.oneCell' = true) (f4 : w.frozen? ⟨b, o + 4, none⟩ = false) (o4 : v4.oneCell' = true) (f5 : w.frozen? ⟨b, o + 5, none⟩ = false) (o5 : v5.oneCell' = true) (f6 : w.frozen? ⟨b, o + 6, none⟩ = false) (o6 : v6.oneCell' = true) (f7 : w.frozen? ⟨b, o + 7, none⟩ = false) (o7 : v7.oneCell' = true) (f8 : w.frozen? ⟨b, o + 8, none⟩ = false) (o8 : v8.oneCell' = true) (f9 : w.frozen? ⟨b, o + 9, none⟩ = false) (o9 : v9.oneCell' = true) (f10 : w.frozen? ⟨b, o + 10, none⟩ = false) (o10 : v10.oneCell' = true) (f11 : w.frozen? ⟨b, o + 11, none⟩ = false) (o11 : v11.oneCell' = true) : (Instr.storeAt 67 (.pointer (some ⟨b, o, none⟩)) (.agg #[v0, v1, v2, v3, v4, v5, v6, v7, v8, v9, v10, v11])).run Try.prog w = .ok () ((((((((((((w.setCell ⟨b, o, none⟩ v0).setCell ⟨b, o + 1, none⟩ v1).setCell ⟨b, o + 2, none⟩ v2).setCell ⟨b, o + 3, none⟩ v3).setCell ⟨b, o + 4, none⟩ v4).setCell ⟨b, o + 5, none⟩ v5).setCell ⟨b, o + 6, none⟩ v6).setCell ⟨b, o + 7, none⟩ v7).setCell ⟨b, o + 8, none⟩ v8).setCell ⟨b, o + 9, none⟩ v9).setCell ⟨b, o + 10, none⟩ v10).setCell ⟨b, o + 11, none⟩ v11) := by
  simp [go_sem, Addr.add, h0, h1, h2, h3, h4, h5, h6, h7, h8, h9, h10, h11, f0, f1, f2, f3, f4, f5, f6, f7, f8, f9, f10, f11, o0, o1, o2, o3, o4, o5, o6, o7, o8, o9, o10, o11, run_store, World.cell?_setCell_other, World.frozen?_setCell]
theorem ss67 {w0 w : World} {F : List Nat} {L : List Res} {b tt : Nat} {K : Value → World → Prop} {v0 v1 v2 v3 v4 v5 v6 v7 v8 v9 v10 v11 u0 u1 u2 u3 u4 u5 u6 u7 u8 u9 u10 u11 : Value} (k : Nat) (hS : St w0 F w L) (hk : L[k]? = some (Res.cells b tt [u0, u1, u2, u3, u4, u5, u6, u7, u8, u9, u10, u11])) (o0 : v0.oneCell' = true) (o1 : v1.oneCell' = true) (o2 : v2.oneCell' = true) (o3 : v3.oneCell' = true) (o4 : v4.oneCell' = true) (o5 : v5.oneCell' = true) (o6 : v6.oneCell' = true) (o7 : v7.oneCell' = true) (o8 : v8.oneCell' = true) (o9 : v9.oneCell' = true) (o10 : v10.oneCell' = true) (o11 : v11.oneCell' = true) (h : ∀ w', St w0 F w' (L.set k (Res.cells b tt [v0, v1, v2, v3, v4, v5, v6, v7, v8, v9, v10, v11])) → K undef w') : unitP Try.prog (Instr.storeAt 67 (.pointer (some ⟨b, 0, none⟩)) (.agg #[v0, v1, v2, v3, v4, v5, v6, v7, v8, v9, v10, v11])) w K := by
  obtain ⟨hkl, _⟩ := List.getElem?_eq_some_iff.1 hk
  have hf := fun i => hS.frozen (i := i) k hk
  have s1 := hS.set (b := b) (t := tt) (cs := [u0, u1, u2, u3, u4, u5, u6, u7, u8, u9, u10, u11]) (i := 0) k v0 hk
  have s2 := s1.set (b := b) (t := tt) (cs := [v0, u1, u2, u3, u4, u5, u6, u7, u8, u9, u10, u11]) (i := 1) k v1 (by simp [hkl])
  have s3 := s2.set (b := b) (t := tt) (cs := [v0, v1, u2, u3, u4, u5, u6, u7, u8, u9, u10, u11]) (i := 2) k v2 (by simp [hkl])
  have s4 := s3.set (b := b) (t := tt) (cs := [v0, v1, v2, u3, u4, u5, u6, u7, u8, u9, u10, u11]) (i := 3) k v3 (by simp [hkl])
  have s5 := s4.set (b := b) (t := tt) (cs := [v0, v1, v2, v3, u4, u5, u6, u7, u8, u9, u10, u11]) (i := 4) k v4 (by simp [hkl])
  have s6 := s5.set (b := b) (t := tt) (cs := [v0, v1, v2, v3, v4, u5, u6, u7, u8, u9, u10, u11]) (i := 5) k v5 (by simp [hkl])
  have s7 := s6.set (b := b) (t := tt) (cs := [v0, v1, v2, v3, v4, v5, u6, u7, u8, u9, u10, u11]) (i := 6) k v6 (by simp [hkl])
  have s8 := s7.set (b := b) (t := tt) (cs := [v0, v1, v2, v3, v4, v5, v6, u7, u8, u9, u10, u11]) (i := 7) k v7 (by simp [hkl])
  have s9 := s8.set (b := b) (t := tt) (cs := [v0, v1, v2, v3, v4, v5, v6, v7, u8, u9, u10, u11]) (i := 8) k v8 (by simp [hkl])
  have s10 := s9.set (b := b) (t := tt) (cs := [v0, v1, v2, v3, v4, v5, v6, v7, v8, u9, u10, u11]) (i := 9) k v9 (by simp [hkl])
  have s11 := s10.set (b := b) (t := tt) (cs := [v0, v1, v2, v3, v4, v5, v6, v7, v8, v9, u10, u11]) (i := 10) k v10 (by simp [hkl])
  have s12 := s11.set (b := b) (t := tt) (cs := [v0, v1, v2, v3, v4, v5, v6, v7, v8, v9, v10, u11]) (i := 11) k v11 (by simp [hkl])
  simp only [List.set_set, List.set_cons_zero, List.set_cons_succ] at s12
  exact unitP_ok (st67 (hS.cell k hk rfl) (hS.cell k hk rfl) (hS.cell k hk rfl) (hS.cell k hk rfl) (hS.cell k hk rfl) (hS.cell k hk rfl) (hS.cell k hk rfl) (hS.cell k hk rfl) (hS.cell k hk rfl) (hS.cell k hk rfl) (hS.cell k hk rfl) (hS.cell k hk rfl) (hf _) o0 (hf _) o1 (hf _) o2 (hf _) o3 (hf _) o4 (hf _) o5 (hf _) o6 (hf _) o7 (hf _) o8 (hf _) o9 (hf _) o10 (hf _) o11) (h _ s12)
theorem fa67_2 (b : Nat) (w : World) : (Instr.fieldAt 67 (.pointer (some ⟨b, 0, none⟩)) 2).run Try.prog w = .ok (.pointer (some ⟨b, 2, none⟩)) w := by kernel_rfl
theorem fao67_2 (b o : Nat) (w : World) : (Instr.fieldAt 67 (.pointer (some ⟨b, o, none⟩)) 2).run Try.prog w = .ok (.pointer (some ⟨b, o + 2, none⟩)) w := by kernel_rfl
theorem bd67_0_1 {a0 a1 : Value} (o0 : a0.oneCell' = true) (o1 : a1.oneCell' = true) (w : World) : (Instr.build 67 #[(0, a0), (1, a1)]).run Try.prog w = .ok (.agg #[a0, a1, .int .i64 0, .int .i64 0, .int .i64 0, .int .i64 0, .int .i64 0, .int .i64 0, .int .i64 0, .int .i64 0, .int .i64 0, .int .i64 0]) w := by
  have e : ∀ v : Value, v.oneCell' = true → v.cells = #[v] := fun v h => by cases v <;> first | rfl | (simp [Value.oneCell'] at h)
  simp only [Value.cells] at e
  simp [go_sem, e _ o0, e _ o1]
theorem sl26 : SlT Try.prog 26 67 12 96 (.agg #[.int .i64 0, .int .i64 0, .int .i64 0, .int .i64 0, .int .i64 0, .int .i64 0, .int .i64 0, .int .i64 0, .int .i64 0, .int .i64 0, .int .i64 0, .int .i64 0]) := by unfold SlT; exact ⟨by kernel_rfl, by kernel_rfl, by kernel_rfl, Nat.lt_of_lt_of_le (by decide) (Nat.le_refl _)⟩
theorem bs26_1 {a0_0 a0_1 a0_2 a0_3 a0_4 a0_5 a0_6 a0_7 a0_8 a0_9 a0_10 a0_11 : Value} (w : World) : (Instr.buildSlice 26 1 #[(0, .agg #[a0_0, a0_1, a0_2, a0_3, a0_4, a0_5, a0_6, a0_7, a0_8, a0_9, a0_10, a0_11])]).run Try.prog w = .ok (.slice (some ⟨w.heap.size, 0, none⟩) 1 1) (w.alloc (.cells #[a0_0, a0_1, a0_2, a0_3, a0_4, a0_5, a0_6, a0_7, a0_8, a0_9, a0_10, a0_11] 67)) := by
  have e : ∀ v : Value, v.oneCell' = true → v.cells = #[v] := fun v h => by cases v <;> first | rfl | (simp [Value.oneCell'] at h)
  simp only [Value.cells] at e
  simp [go_sem]
theorem so26 {A : Option Addr} {n c k : Nat} (h : k ≤ n) (hc : n ≤ c) (w : World) : (Instr.sliceAt 26 (.slice A n c) (some (.int .i64 (k : Int))) none none).run Try.prog w = .ok (.slice (if c = k then A else A.map (·.add (k * 12))) (n - k) (c - k)) w := by
  have h' : ¬ n < k := by omega
  simp [go_sem, h', Addr.add]
theorem al28 (w : World) : (Instr.alloc 28 true (.tuple #[])).run Try.prog w = .ok (.pointer (some ⟨w.heap.size, 0, none⟩)) (w.alloc (.cells #[.int .i64 0, .int .i64 0, .int .i64 0, .int .i64 0, .slice none 0 0] 28)) := by simp [go_sem]
theorem ld28 {w : World} {b o : Nat} {v0 v1 v2 v3 v4 : Value} (h0 : w.cell? ⟨b, o, none⟩ = some v0) (h1 : w.cell? ⟨b, o + 1, none⟩ = some v1) (h2 : w.cell? ⟨b, o + 2, none⟩ = some v2) (h3 : w.cell? ⟨b, o + 3, none⟩ = some v3) (h4 : w.cell? ⟨b, o + 4, none⟩ = some v4) : (Instr.loadAt 28 (.pointer (some ⟨b, o, none⟩))).run Try.prog w = .ok (.agg #[v0, v1, v2, v3, v4]) w := by simp [go_sem, Addr.add, h0, h1, h2, h3, h4]
theorem ls28 {w0 w : World} {F : List Nat} {L : List Res} {b tt : Nat} {K : Value → World → Prop} {v0 v1 v2 v3 v4 : Value} (k : Nat) (hS : St w0 F w L) (hk : L[k]? = some (Res.cells b tt [v0, v1, v2, v3, v4])) (h : K (.agg #[v0, v1, v2, v3, v4]) w) : valP Try.prog (Instr.loadAt 28 (.pointer (some ⟨b, 0, none⟩))) w K :=
  valP_ok (ld28 (hS.cell k hk rfl) (hS.cell k hk rfl) (hS.cell k hk rfl) (hS.cell k hk rfl) (hS.cell k hk rfl)) h
theorem bd28  (w : World) : (Instr.build 28 #[]).run Try.prog w = .ok (.agg #[.int .i64 0, .int .i64 0, .int .i64 0, .int .i64 0, .slice none 0 0]) w := by
  have e : ∀ v : Value, v.oneCell' = true → v.cells = #[v] := fun v h => by cases v <;> first | rfl | (simp [Value.oneCell'] at h)
  simp only [Value.cells] at e
  simp [go_sem, Value.cells]
theorem st28 {w : World} {b o : Nat} {v0 v1 v2 v3 v4 : Value} {u0 u1 u2 u3 u4 : Value} (h0 : w.cell? ⟨b, o, none⟩ = some u0) (h1 : w.cell? ⟨b, o + 1, none⟩ = some u1) (h2 : w.cell? ⟨b, o + 2, none⟩ = some u2) (h3 : w.cell? ⟨b, o + 3, none⟩ = some u3) (h4 : w.cell? ⟨b, o + 4, none⟩ = some u4) (f0 : w.frozen? ⟨b, o, none⟩ = false) (o0 : v0.oneCell' = true) (f1 : w.frozen? ⟨b, o + 1, none⟩ = false) (o1 : v1.oneCell' = true) (f2 : w.frozen? ⟨b, o + 2, none⟩ = false) (o2 : v2.oneCell' = true) (f3 : w.frozen? ⟨b, o + 3, none⟩ = false) (o3 : v3.oneCell' = true) (f4 : w.frozen? ⟨b, o + 4, none⟩ = false) (o4 : v4.oneCell' = true) : (Instr.storeAt 28 (.pointer (some ⟨b, o, none⟩)) (.agg #[v0, v1, v2, v3, v4])).run Try.prog w = .ok () (((((w.setCell ⟨b, o, none⟩ v0).setCell ⟨b, o + 1, none⟩ v1).setCell ⟨b, o + 2, none⟩ v2).setCell ⟨b, o + 3, none⟩ v3).setCell ⟨b, o + 4, none⟩ v4) := by
  simp [go_sem, Addr.add, h0, h1, h2, h3, h4, f0, f1, f2, f3, f4, o0, o1, o2, o3, o4, run_store, World.cell?_setCell_other, World.frozen?_setCell]
theorem ss28 {w0 w : World} {F : List Nat} {L : List Res} {b tt : Nat} {K : Value → World → Prop} {v0 v1 v2 v3 v4 u0 u1 u2 u3 u4 : Value} (k : Nat) (hS : St w0 F w L) (hk : L[k]? = some (Res.cells b tt [u0, u1, u2, u3, u4])) (o0 : v0.oneCell' = true) (o1 : v1.oneCell' = true) (o2 : v2.oneCell' = true) (o3 : v3.oneCell' = true) (o4 : v4.oneCell' = true) (h : ∀ w', St w0 F w' (L.set k (Res.cells b tt [v0, v1, v2, v3, v4])) → K undef w') : unitP Try.prog (Instr.storeAt 28 (.pointer (some ⟨b, 0, none⟩)) (.agg #[v0, v1, v2, v3, v4])) w K := by
  obtain ⟨hkl, _⟩ := List.getElem?_eq_some_iff.1 hk
  have hf := fun i => hS.frozen (i := i) k hk
  have s1 := hS.set (b := b) (t := tt) (cs := [u0, u1, u2, u3, u4]) (i := 0) k v0 hk
  have s2 := s1.set (b := b) (t := tt) (cs := [v0, u1, u2, u3, u4]) (i := 1) k v1 (by simp [hkl])
  have s3 := s2.set (b := b) (t := tt) (cs := [v0, v1, u2, u3, u4]) (i := 2) k v2 (by simp [hkl])
  have s4 := s3.set (b := b) (t := tt) (cs := [v0, v1, v2, u3, u4]) (i := 3) k v3 (by simp [hkl])
  have s5 := s4.set (b := b) (t := tt) (cs := [v0, v1, v2, v3, u4]) (i := 4) k v4 (by simp [hkl])
  simp only [List.set_set, List.set_cons_zero, List.set_cons_succ] at s5
  exact unitP_ok (st28 (hS.cell k hk rfl) (hS.cell k hk rfl) (hS.cell k hk rfl) (hS.cell k hk rfl) (hS.cell k hk rfl) (hf _) o0 (hf _) o1 (hf _) o2 (hf _) o3 (hf _) o4) (h _ s5)
theorem st26 {w : World} {p : Addr} {u v : Value} (h : w.cell? p = some u) (hf : w.frozen? p = false) (ho : v.oneCell' = true) : (Instr.storeAt 26 (.pointer (some p)) v).run Try.prog w = .ok () (w.setCell p v) := by
  cases v <;> first | (simp [Value.oneCell'] at ho; done) | (simp [go_sem, h, hf]; done) | (simp [go_sem]; rw [run_store _ _ _ _ _ rfl, h]; simp [hf])
theorem lc28 {w : World} {b o : Nat} {v0 v1 v2 v3 v4 : Value} (h0 : w.cell? ⟨b, o, none⟩ = some v0) (h1 : w.cell? ⟨b, o + 1, none⟩ = some v1) (h2 : w.cell? ⟨b, o + 2, none⟩ = some v2) (h3 : w.cell? ⟨b, o + 3, none⟩ = some v3) (h4 : w.cell? ⟨b, o + 4, none⟩ = some v4) : (loadC 28 (.pointer (some ⟨b, o, none⟩))).run Try.prog w = .ok (.agg #[v0, v1, v2, v3, v4]) w := by simp [loadC, go_sem, Addr.add, h0, h1, h2, h3, h4]
theorem len24 {A : Option Addr} {n c : Nat} {t : TypeId} {cs : Array Bool} (w : World) : (builtin .len #[24] t cs #[.slice A n c] : Sem Next).run Try.prog w = .ok (.value (.int .i64 (n : Int))) w := by simp [go_sem]
theorem ix24 {g o n c k : Nat} (h : k < n) (w : World) : (Instr.indexAt 24 (.slice (some ⟨g, o, none⟩) n c) (.int .i64 (k : Int))).run Try.prog w = .ok (.pointer (some ⟨g, o + k * 3, none⟩)) w := by
  have h' : (k : Int) < n := by omega
  simp [go_sem, h', h, add_none]
theorem ixz24 {g n c k : Nat} (h : k < n) (w : World) : (Instr.indexAt 24 (.slice (some ⟨g, 0, none⟩) n c) (.int .i64 (k : Int))).run Try.prog w = .ok (.pointer (some ⟨g, k * 3, none⟩)) w := by
  rw [ix24 h]; simp
theorem bd46_0_1_2 {a0 a1 a2 : Value} (o0 : a0.oneCell' = true) (o1 : a1.oneCell' = true) (o2 : a2.oneCell' = true) (w : World) : (Instr.build 46 #[(0, a0), (1, a1), (2, a2)]).run Try.prog w = .ok (.agg #[a0, a1, a2]) w := by
  have e : ∀ v : Value, v.oneCell' = true → v.cells = #[v] := fun v h => by cases v <;> first | rfl | (simp [Value.oneCell'] at h)
  simp only [Value.cells] at e
  simp [go_sem, e _ o0, e _ o1, e _ o2]
theorem sl24 : SlT Try.prog 24 46 3 32 (.agg #[.int .i64 0, .int .i64 0, .string ⟨#[]⟩]) := by unfold SlT; exact ⟨by kernel_rfl, by kernel_rfl, by kernel_rfl, Nat.lt_of_lt_of_le (by decide) (Nat.le_refl _)⟩
theorem bs24_1 {a0_0 a0_1 a0_2 : Value} (w : World) : (Instr.buildSlice 24 1 #[(0, .agg #[a0_0, a0_1, a0_2])]).run Try.prog w = .ok (.slice (some ⟨w.heap.size, 0, none⟩) 1 1) (w.alloc (.cells #[a0_0, a0_1, a0_2] 46)) := by
  have e : ∀ v : Value, v.oneCell' = true → v.cells = #[v] := fun v h => by cases v <;> first | rfl | (simp [Value.oneCell'] at h)
  simp only [Value.cells] at e
  simp [go_sem]
theorem sh24 {A : Option Addr} {n c k : Nat} (h : k ≤ c) (w : World) : (Instr.sliceAt 24 (.slice A n c) none (some (.int .i64 (k : Int))) none).run Try.prog w = .ok (.slice A k c) w := by
  have h' : ¬ c < k := by omega
  simp [go_sem, h', Addr.add]
theorem st9 {w : World} {p : Addr} {u v : Value} (h : w.cell? p = some u) (hf : w.frozen? p = false) (ho : v.oneCell' = true) : (Instr.storeAt 9 (.pointer (some p)) v).run Try.prog w = .ok () (w.setCell p v) := by
  cases v <;> first | (simp [Value.oneCell'] at ho; done) | (simp [go_sem, h, hf]; done) | (simp [go_sem]; rw [run_store _ _ _ _ _ rfl, h]; simp [hf])
theorem bd28_0 {a0 : Value} (o0 : a0.oneCell' = true) (w : World) : (Instr.build 28 #[(0, a0)]).run Try.prog w = .ok (.agg #[a0, .int .i64 0, .int .i64 0, .int .i64 0, .slice none 0 0]) w := by
  have e : ∀ v : Value, v.oneCell' = true → v.cells = #[v] := fun v h => by cases v <;> first | rfl | (simp [Value.oneCell'] at h)
  simp only [Value.cells] at e
  simp [go_sem, e _ o0]
theorem so24 {A : Option Addr} {n c k : Nat} (h : k ≤ n) (hc : n ≤ c) (w : World) : (Instr.sliceAt 24 (.slice A n c) (some (.int .i64 (k : Int))) none none).run Try.prog w = .ok (.slice (if c = k then A else A.map (·.add (k * 3))) (n - k) (c - k)) w := by
  have h' : ¬ n < k := by omega
  simp [go_sem, h', Addr.add]
theorem ld63 {w : World} {b o : Nat} {v0 v1 v2 v3 : Value} (h0 : w.cell? ⟨b, o, none⟩ = some v0) (h1 : w.cell? ⟨b, o + 1, none⟩ = some v1) (h2 : w.cell? ⟨b, o + 2, none⟩ = some v2) (h3 : w.cell? ⟨b, o + 3, none⟩ = some v3) : (Instr.loadAt 63 (.pointer (some ⟨b, o, none⟩))).run Try.prog w = .ok (.agg #[v0, v1, v2, v3]) w := by simp [go_sem, Addr.add, h0, h1, h2, h3]
theorem bd65_0_1_2_3_4_5_6 {a0 a1 a2 a3 a4_0 a4_1 a4_2 a4_3 a5 a6 : Value} (o0 : a0.oneCell' = true) (o1 : a1.oneCell' = true) (o2 : a2.oneCell' = true) (o3 : a3.oneCell' = true) (o5 : a5.oneCell' = true) (o6 : a6.oneCell' = true) (w : World) : (Instr.build 65 #[(0, a0), (1, a1), (2, a2), (3, a3), (4, .agg #[a4_0, a4_1, a4_2, a4_3]), (5, a5), (6, a6)]).run Try.prog w = .ok (.agg #[a0, a1, a2, a3, a4_0, a4_1, a4_2, a4_3, a5, a6]) w := by
  have e : ∀ v : Value, v.oneCell' = true → v.cells = #[v] := fun v h => by cases v <;> first | rfl | (simp [Value.oneCell'] at h)
  simp only [Value.cells] at e
  simp [go_sem, e _ o0, e _ o1, e _ o2, e _ o3, e _ o5, e _ o6]
theorem bs51_2 {a0 a1 : Value} (o0 : a0.oneCell' = true) (o1 : a1.oneCell' = true) (w : World) : (Instr.buildSlice 51 2 #[(0, a0), (1, a1)]).run Try.prog w = .ok (.slice (some ⟨w.heap.size, 0, none⟩) 2 2) (w.alloc (.cells #[a0, a1] 3)) := by
  have e : ∀ v : Value, v.oneCell' = true → v.cells = #[v] := fun v h => by cases v <;> first | rfl | (simp [Value.oneCell'] at h)
  simp only [Value.cells] at e
  simp [go_sem, e _ o0, e _ o1]
theorem eq35 (x y : Operand) (a b : Int) (w : World) : (binS .eql 35 x y (.int .i64 a) (.int .i64 b)).run Try.prog w = .ok (.bool (decide (a = b))) w := by
  by_cases h : a = b <;> simp [binS, go_sem, h]
theorem bs51_3 {a0 a1 a2 : Value} (o0 : a0.oneCell' = true) (o1 : a1.oneCell' = true) (o2 : a2.oneCell' = true) (w : World) : (Instr.buildSlice 51 3 #[(0, a0), (1, a1), (2, a2)]).run Try.prog w = .ok (.slice (some ⟨w.heap.size, 0, none⟩) 3 3) (w.alloc (.cells #[a0, a1, a2] 3)) := by
  have e : ∀ v : Value, v.oneCell' = true → v.cells = #[v] := fun v h => by cases v <;> first | rfl | (simp [Value.oneCell'] at h)
  simp only [Value.cells] at e
  simp [go_sem, e _ o0, e _ o1, e _ o2]
theorem eq26 (x y : Operand) (A : Option Addr) (n c : Nat) (w : World) : (binS .eql 26 x y (.slice A n c) (.slice none 0 0)).run Try.prog w = .ok (.bool (A.isNone)) w := by
  rw [binS_run _ _ _ _ _ _ (by rfl)]
  simp only [binOp]
  simp [Op.equal, Op.maxDepth, Lib.run_equalIn_slice_nil w 9999 26 67 A n c 0 0 Try.underlying26]
theorem bs26_0  (w : World) : (Instr.buildSlice 26 0 #[]).run Try.prog w = .ok (.slice (some ⟨w.heap.size, 0, none⟩) 0 0) (w.alloc (.cells #[] 67)) := by
  have e : ∀ v : Value, v.oneCell' = true → v.cells = #[v] := fun v h => by cases v <;> first | rfl | (simp [Value.oneCell'] at h)
  simp only [Value.cells] at e
  simp [go_sem]
theorem sh26 {A : Option Addr} {n c k : Nat} (h : k ≤ c) (w : World) : (Instr.sliceAt 26 (.slice A n c) none (some (.int .i64 (k : Int))) none).run Try.prog w = .ok (.slice A k c) w := by
  have h' : ¬ c < k := by omega
  simp [go_sem, h', Addr.add]
end Go.Proofs.Ytnhgdngbdoifnaa.M
namespace Go.Proofs.Ytnhgdngbdoifnaa.M
open Go.Proofs.Ytnhgdngbdoifnaa.F Go.RowKit
set_option linter.unusedVariables false
set_option linter.unusedSimpArgs false
set_option maxRecDepth 100000
set_option maxHeartbeats 2000000
attribute [local irreducible] Res.cells Res.row Res.map Res.any World.cell? World.frozen? Instr.fieldAt Instr.loadAt Instr.storeAt Instr.indexAt Instr.lookup Instr.mapUpdate Instr.box Instr.build Instr.buildSlice Instr.extract Instr.alloc Instr.field Instr.index Instr.sliceAt Instr.makeSlice Instr.makeMap Instr.makeFunc binS Op.unary Sem.run
section
variable (x y : Operand) (w : World)
theorem sidx {s : ByteArray} {k : Nat} (h : k < s.size) : (Instr.index 9 (.string s) (.int .i64 (k : Int))).run Try.prog w = .ok (.int .u8 (s[k].toNat : Int)) w := by
  have h' : (k : Int) < s.size := by omega
  simp [go_sem, h, h']
theorem sfrom {s : ByteArray} {k : Nat} (h : k ≤ s.size) : (Instr.sliceAt 9 (.string s) (some (.int .i64 (k : Int))) none none).run Try.prog w = .ok (.string (s.extract k s.size)) w := by
  have h' : ¬ s.size < k := by omega
  simp [go_sem, h, h']
theorem sto {s : ByteArray} {k : Nat} (h : k ≤ s.size) : (Instr.sliceAt 9 (.string s) none (some (.int .i64 (k : Int))) none).run Try.prog w = .ok (.string (s.extract 0 k)) w := by
  have h' : ¬ s.size < k := by omega
  simp [go_sem, h, h']
theorem and8 (a b : Int) : (binS .and 5 x y (.int .u8 a) (.int .u8 b)).run Try.prog w = .ok (.int .u8 (Go.bits .and .u8 a b)) w := by
  rw [binS_run _ _ _ _ _ _ (by kernel_rfl)]; simp [go_sem, binOp]
theorem or8 (a b : Int) : (binS .or 5 x y (.int .u8 a) (.int .u8 b)).run Try.prog w = .ok (.int .u8 (Go.bits .or .u8 a b)) w := by
  rw [binS_run _ _ _ _ _ _ (by kernel_rfl)]; simp [go_sem, binOp]
theorem and64 (a b : Int) : (binS .and 73 x y (.int .u64 a) (.int .u64 b)).run Try.prog w = .ok (.int .u64 (Go.bits .and .u64 a b)) w := by
  rw [binS_run _ _ _ _ _ _ (by kernel_rfl)]; simp [go_sem, binOp]
theorem or64 (a b : Int) : (binS .or 73 x y (.int .u64 a) (.int .u64 b)).run Try.prog w = .ok (.int .u64 (Go.bits .or .u64 a b)) w := by
  rw [binS_run _ _ _ _ _ _ (by kernel_rfl)]; simp [go_sem, binOp]
theorem xor64 (a b : Int) : (binS .xor 73 x y (.int .u64 a) (.int .u64 b)).run Try.prog w = .ok (.int .u64 (Go.bits .xor .u64 a b)) w := by
  rw [binS_run _ _ _ _ _ _ (by kernel_rfl)]; simp [go_sem, binOp]
theorem xorI (a b : Int) : (binS .xor 3 x y (.int .i64 a) (.int .i64 b)).run Try.prog w = .ok (.int .i64 (Go.bits .xor .i64 a b)) w := by
  rw [binS_run _ _ _ _ _ _ (by kernel_rfl)]; simp [go_sem, binOp]
theorem shl64 (a : Int) {k : Nat} (h : k < 64) : (binS .shl 73 x y (.int .u64 a) (.int .i64 (k : Int))).run Try.prog w = .ok (.int .u64 (IntKind.u64.wrap (a * 2 ^ k))) w := by
  rw [binS_run _ _ _ _ _ _ (by kernel_rfl)]
  have h1 : (0 : Int) ≤ k := by omega
  have h2 : (k : Int) < 64 := by omega
  have h3 : (k : Int) ≤ 64 := by omega
  simp [go_sem, binOp, h, h1, h2, h3]
theorem shl1 (a : Int) : (binS .shl 73 x y (.int .u64 a) (.int .u64 1)).run Try.prog w = .ok (.int .u64 (IntKind.u64.wrap (a * 2))) w := by
  rw [binS_run _ _ _ _ _ _ (by kernel_rfl)]
  simp [go_sem, binOp]
theorem shr1 (a : Int) : (binS .shr 73 x y (.int .u64 a) (.int .u64 1)).run Try.prog w = .ok (.int .u64 (a / 2)) w := by
  rw [binS_run _ _ _ _ _ _ (by kernel_rfl)]
  simp [go_sem, binOp]
theorem shr7 (a : Int) : (binS .shr 73 x y (.int .u64 a) (.int .u64 7)).run Try.prog w = .ok (.int .u64 (a / 128)) w := by
  rw [binS_run _ _ _ _ _ _ (by kernel_rfl)]
  simp [go_sem, binOp]
theorem shr63 (a : Int) : (binS .shr 3 x y (.int .i64 a) (.int .u64 63)).run Try.prog w = .ok (.int .i64 (a / 9223372036854775808)) w := by
  rw [binS_run _ _ _ _ _ _ (by kernel_rfl)]
  simp [go_sem, binOp]
theorem cv8_64 (a : Int) : (convert 5 73 (.int .u8 a)).run Try.prog w = .ok (.int .u64 (IntKind.u64.wrap a)) w := by simp [go_sem]
theorem cv64_i (a : Int) : (convert 73 3 (.int .u64 a)).run Try.prog w = .ok (.int .i64 (IntKind.i64.wrap a)) w := by simp [go_sem]
theorem cvi_64 (a : Int) : (convert 3 73 (.int .i64 a)).run Try.prog w = .ok (.int .u64 (IntKind.u64.wrap a)) w := by simp [go_sem]
theorem cv64_8 (a : Int) : (convert 73 5 (.int .u64 a)).run Try.prog w = .ok (.int .u8 (IntKind.u8.wrap a)) w := by simp [go_sem]
theorem negI (a : Int) : (Op.unary .neg (.int .i64 a)).run Try.prog w = .ok (.int .i64 (IntKind.i64.wrap (-a))) w := by simp [go_sem]
theorem iarr {b k : Nat} (h : k < 10) : (Instr.indexAt 96 (.pointer (some ⟨b, 0, none⟩)) (.int .i64 (k : Int))).run Try.prog w = .ok (.pointer (some ⟨b, k, none⟩)) w := by
  have h' : (k : Int) < 10 := by omega
  have e : Try.prog.arrayLen 96 = 10 := by kernel_rfl
  simp [go_sem, h', h, e, Addr.add]
  exact fun h => h.symm
theorem sarr {b k : Nat} (h : k ≤ 10) : (Instr.sliceAt 96 (.pointer (some ⟨b, 0, none⟩)) none (some (.int .i64 (k : Int))) none).run Try.prog w = .ok (.slice (some ⟨b, 0, none⟩) k 10) w := by
  have e : Try.prog.arrayLen 96 = 10 := by kernel_rfl
  have h' : ((k : Nat) : Int) ≤ Try.prog.arrayLen 96 := by rw [e]; omega
  rw [run_sliceAt_array_h (P := Try.prog) w 96 ⟨b, 0, none⟩ (by simp [Program.arrayLen, Program.elem, Try.underlying96]) .i64 (k : Int) (by omega) h']
  obtain ⟨i, hi⟩ := info_of_underlying Try.underlying5
  rw [show Try.prog.elem 96 = 5 from by simp [Program.elem, Try.underlying96], run_sizeOf w hi]
  simp [slicedAt, e, Addr.add]
end
end Go.Proofs.Ytnhgdngbdoifnaa.M
namespace Go.Proofs.Ytnhgdngbdoifnaa.M
open Go.Proofs.Ytnhgdngbdoifnaa.F
set_option linter.unusedVariables false
set_option maxRecDepth 100000
variable {R : VP} {Q : EQ}
def m31_16 (R : VP) (K1 : (Value × Value) → World → Prop) (t2 t3 t4 : Value) (w : World) : Prop :=
  R (Value.tuple #[t2, t3, t4]) w
def m31_13 (R : VP) (K1 : (Value × Value) → World → Prop) (t2 t3 t4 : Value) (w : World) : Prop :=
  R (Value.tuple #[t2, t3, t4]) w
def m31_11 (R : VP) (K1 : (Value × Value) → World → Prop) (t2 t3 t4 : Value) (w : World) : Prop :=
  R (Value.tuple #[t2, t3, t4]) w
def m31_10 (R : VP) (K1 : (Value × Value) → World → Prop) (s0 u5 k6 : Value) (w : World) : Prop :=
  valQ Try.prog (binS BinOp.shr 73 (tm 45) (Operand.const (Value.int IntKind.u64 1)) u5 (Value.int IntKind.u64 1)) w fun t46 =>
  valQ Try.prog (convert 73 3 t46) w fun t47 =>
  valQ Try.prog (binS BinOp.and 73 (tm 48) (Operand.const (Value.int IntKind.u64 1)) u5 (Value.int IntKind.u64 1)) w fun t49 =>
  valQ Try.prog (convert 73 3 t49) w fun t50 =>
  valQ Try.prog (Op.unary UnOp.neg t50) w fun t51 =>
  valQ Try.prog (binS BinOp.xor 3 (tm 47) (tm 51) t47 t51) w fun t52 =>
  valQ Try.prog (Instr.sliceAt 9 s0 (some k6) none none) w fun t55 =>
  anyDraw w fun w =>
  m31_11 R K1 t52 t55 (vi 0) w
def m31_12 (R : VP) (K1 : (Value × Value) → World → Prop) (s0 u5 k6 t44 : Value) (w : World) : Prop :=
  condP t44
  (m31_13 R K1 (vi 0) (Value.string ⟨#[]⟩) (vi 2) w)
  (m31_10 R K1 s0 u5 k6 w)
def m31_9 (R : VP) (K1 : (Value × Value) → World → Prop) (s0 u5 k6 c7 : Value) (w : World) : Prop :=
  valP Try.prog (binS BinOp.gtr 3 (tm 31) (ci 1) k6 (vi 1)) w fun t32 w =>
  condP t32
  (valP Try.prog (binS BinOp.eql 5 (tm 34) (Operand.const (Value.int IntKind.u8 0)) c7 (Value.int IntKind.u8 0)) w fun t35 w =>
  pickP t32 t35 (Value.bool false) fun t36 =>
  condP t36
  (pickP t36 (Value.bool true) undef fun t44 =>
  m31_12 R K1 s0 u5 k6 t44 w)
  (valP Try.prog (binS BinOp.eql 3 (tm 38) (ci 10) k6 (vi 10)) w fun t39 w =>
  condP t39
  (valP Try.prog (binS BinOp.gtr 5 (tm 41) (Operand.const (Value.int IntKind.u8 1)) c7 (Value.int IntKind.u8 1)) w fun t42 w =>
  pickP t39 t42 (Value.bool false) fun t43 =>
  pickP t36 (Value.bool true) t43 fun t44 =>
  m31_12 R K1 s0 u5 k6 t44 w)
  (pickP t39 undef (Value.bool false) fun t43 =>
  pickP t36 (Value.bool true) t43 fun t44 =>
  m31_12 R K1 s0 u5 k6 t44 w)))
  (pickP t32 undef (Value.bool false) fun t36 =>
  condP t36
  (pickP t36 (Value.bool true) undef fun t44 =>
  m31_12 R K1 s0 u5 k6 t44 w)
  (valP Try.prog (binS BinOp.eql 3 (tm 38) (ci 10) k6 (vi 10)) w fun t39 w =>
  condP t39
  (valP Try.prog (binS BinOp.gtr 5 (tm 41) (Operand.const (Value.int IntKind.u8 1)) c7 (Value.int IntKind.u8 1)) w fun t42 w =>
  pickP t39 t42 (Value.bool false) fun t43 =>
  pickP t36 (Value.bool true) t43 fun t44 =>
  m31_12 R K1 s0 u5 k6 t44 w)
  (pickP t39 undef (Value.bool false) fun t43 =>
  pickP t36 (Value.bool true) t43 fun t44 =>
  m31_12 R K1 s0 u5 k6 t44 w)))
def m31_14 (R : VP) (K1 : (Value × Value) → World → Prop) (s0 u5 k6 c7 t30 : Value) (w : World) : Prop :=
  condP t30
  (K1 (u5, k6) w)
  (m31_9 R K1 s0 u5 k6 c7 w)
def m31_8 (R : VP) (K1 : (Value × Value) → World → Prop) (s0 u5 k6 c7 : Value) (w : World) : Prop :=
  valP Try.prog (binS BinOp.geq 5 (tm 29) (Operand.const (Value.int IntKind.u8 128)) c7 (Value.int IntKind.u8 128)) w fun t30 w =>
  m31_14 R K1 s0 u5 k6 c7 t30 w
def m31_7 (R : VP) (K1 : (Value × Value) → World → Prop) (s0 u5 k6 c7 : Value) (w : World) : Prop :=
  valP Try.prog (binS BinOp.add 3 (tm 27) (ci 1) k6 (vi 1)) w fun t28 w =>
  m31_8 R K1 s0 u5 t28 c7 w
def m31_6 (R : VP) (K1 : (Value × Value) → World → Prop) (s0 u5 k6 c7 : Value) (w : World) : Prop :=
  valP Try.prog (binS BinOp.and 5 (tm 20) (Operand.const (Value.int IntKind.u8 127)) c7 (Value.int IntKind.u8 127)) w fun t21 w =>
  valP Try.prog (convert 5 73 t21) w fun t22 w =>
  valP Try.prog (binS BinOp.mul 3 (ci 7) (tm 23) (vi 7) k6) w fun t24 w =>
  valP Try.prog (binS BinOp.shl 73 (tm 22) (tm 24) t22 t24) w fun t25 w =>
  valP Try.prog (binS BinOp.or 73 (tm 19) (tm 25) u5 t25) w fun t26 w =>
  m31_7 R K1 s0 t26 k6 c7 w
def m31_5 (R : VP) (K1 : (Value × Value) → World → Prop) (s0 u5 k6 : Value) (w : World) : Prop :=
  valP Try.prog (Instr.index 9 s0 k6) w fun t18 w =>
  m31_6 R K1 s0 u5 k6 t18 w
def m31_15 (R : VP) (K1 : (Value × Value) → World → Prop) (s0 u5 k6 t15 : Value) (w : World) : Prop :=
  condP t15
  (m31_16 R K1 (vi 0) (Value.string ⟨#[]⟩) (vi 2) w)
  (m31_5 R K1 s0 u5 k6 w)
def m31_4 (R : VP) (K1 : (Value × Value) → World → Prop) (s0 u5 k6 : Value) (w : World) : Prop :=
  builtinP Try.prog Builtin.len #[9] 3 #[false] #[s0] w fun t10 w =>
  valP Try.prog (binS BinOp.eql 3 (tm 8) (tm 10) k6 t10) w fun t11 w =>
  condP t11
  (pickP t11 (Value.bool true) undef fun t15 =>
  m31_15 R K1 s0 u5 k6 t15 w)
  (valP Try.prog (binS BinOp.eql 3 (tm 13) (ci 10) k6 (vi 10)) w fun t14 w =>
  pickP t11 (Value.bool true) t14 fun t15 =>
  m31_15 R K1 s0 u5 k6 t15 w)
def m31_3 (R : VP) (s0 u5 k6 : Value) (w : World) : Prop :=
  loopP (fun (K1 : (Value × Value) → World → Prop) (s : Value × Value) w => m31_4 R K1 s0 s.1 s.2 w) (u5, k6) w
def m31_2 (R : VP) (s0 u5 : Value) (w : World) : Prop :=
  m31_3 R s0 u5 (vi 0) w
def m31_1 (R : VP) (s0 : Value) (w : World) : Prop :=
  m31_2 R s0 (Value.int IntKind.u64 0) w
def m31_0 (R : VP) (s0 : Value) (w : World) : Prop :=
  m31_1 R s0 w
abbrev W31 := cwp Try.prog (fun i => cond (Nat.beq i 11) 1 (0))
abbrev WL31 := cwpL Try.prog (fun i => cond (Nat.beq i 11) 1 (0))
abbrev WT31 := cwpT Try.prog (fun i => cond (Nat.beq i 11) 1 (0))
noncomputable def k31_0 := bodyOf Try.f31
noncomputable def k31_1 := cS (c2 k31_0)
noncomputable def k31_2 := c2 k31_1
noncomputable def k31_3 := c2 k31_2
noncomputable def k31_4 := c2 k31_3
noncomputable def k31_5 := c2 k31_4
noncomputable def k31_6 := c2 k31_5
noncomputable def k31_7 := c2 k31_6
noncomputable def k31_8 := c2 k31_7
noncomputable def k31_9 := c2 k31_8
noncomputable def k31_10 := c2 k31_9
noncomputable def k31_11 := c2 k31_10
noncomputable def k31_12 := c2 (c1 k31_9)
noncomputable def k31_13 := c2 (c1 k31_12)
noncomputable def k31_14 := c2 (c1 k31_8)
noncomputable def k31_15 := c2 (c1 k31_4)
noncomputable def k31_16 := c2 (c1 k31_15)
abbrev hR31 (R : VP) (Q : EQ) : Prop := ∀ e w, (R (Value.tuple #[(e 2), (e 3), (e 4)]) w) → Q .ret e w
theorem s31_16 {K1 : (Value × Value) → World → Prop} (hR : hR31 R Q) (e : Env) (w : World) (h : m31_16 R K1 (e 2) (e 3) (e 4) w) : W31 k31_16 Q e w := by
  exact reA (hR _ _ h)
theorem s31_13 {K1 : (Value × Value) → World → Prop} (hR : hR31 R Q) (e : Env) (w : World) (h : m31_13 R K1 (e 2) (e 3) (e 4) w) : W31 k31_13 Q e w := by
  exact reA (hR _ _ h)
theorem s31_11 {K1 : (Value × Value) → World → Prop} (hR : hR31 R Q) (e : Env) (w : World) (h : m31_11 R K1 (e 2) (e 3) (e 4) w) : W31 k31_11 Q e w := by
  exact reA (hR _ _ h)
theorem s31_10 {K1 : (Value × Value) → World → Prop} (hR : hR31 R Q) (e : Env) (w : World) (h : m31_10 R K1 (e 0) (e 5) (e 6) w) : W31 k31_10 Q e w := by
  refine seA ?_
  have hN : ∀ e w, (m31_11 R K1 (e 2) (e 3) (e 4) w) → (thenE (W31 k31_11 Q) Q) .normal e w := fun e w h => then_N (s31_11 hR e w h)
  exact quA 11 (fun e w => m31_11 R K1 (e 2) (e 3) (e 4) w) h hN
theorem s31_12 {K1 : (Value × Value) → World → Prop} (hN : ∀ e w, (m31_10 R K1 (e 0) (e 5) (e 6) w) → Q .normal e w) (hR : hR31 R Q) (e : Env) (w : World) (h : m31_12 R K1 (e 0) (e 5) (e 6) (e 44) w) : W31 k31_12 Q e w := by
  refine coA (Operand.tmp 44) h (fun h1 => ?_) (fun h1 => ?_)
  · refine seA ?_
    exact rgA 10 (fun e w => m31_13 R K1 (e 2) (e 3) (e 4) w) h1 fun e w h => then_N (s31_13 hR e w h)
  · exact skA (hN _ _ h1)
theorem s31_9 {K1 : (Value × Value) → World → Prop} (hR : hR31 R Q) (e : Env) (w : World) (h : m31_9 R K1 (e 0) (e 5) (e 6) (e 7) w) : W31 k31_9 Q e w := by
  refine seA ?_
  have hN : ∀ e w, (m31_10 R K1 (e 0) (e 5) (e 6) w) → (thenE (W31 k31_10 Q) Q) .normal e w := fun e w h => then_N (s31_10 hR e w h)
  have hR : hR31 R (thenE (W31 k31_10 Q) Q) := fun e w h => then_R (hR e w h)
  refine seA ?_
  exact rgA 9 (fun e w => m31_12 R K1 (e 0) (e 5) (e 6) (e 44) w) h fun e w h => then_N (s31_12 hN hR e w h)
theorem s31_14 {K1 : (Value × Value) → World → Prop} (hG0 : ∀ e w, (K1 ((e 5), (e 6)) w) → Q (.goto 0) e w) (hN : ∀ e w, (m31_9 R K1 (e 0) (e 5) (e 6) (e 7) w) → Q .normal e w) (e : Env) (w : World) (h : m31_14 R K1 (e 0) (e 5) (e 6) (e 7) (e 30) w) : W31 k31_14 Q e w := by
  refine coA (Operand.tmp 30) h (fun h1 => ?_) (fun h1 => ?_)
  · exact goA 0 (hG0 _ _ h1)
  · exact skA (hN _ _ h1)
theorem s31_8 {K1 : (Value × Value) → World → Prop} (hG0 : ∀ e w, (K1 ((e 5), (e 6)) w) → Q (.goto 0) e w) (hR : hR31 R Q) (e : Env) (w : World) (h : m31_8 R K1 (e 0) (e 5) (e 6) (e 7) w) : W31 k31_8 Q e w := by
  refine seA ?_
  have hN : ∀ e w, (m31_9 R K1 (e 0) (e 5) (e 6) (e 7) w) → (thenE (W31 k31_9 Q) Q) .normal e w := fun e w h => then_N (s31_9 hR e w h)
  have hG0 : ∀ e w, (K1 ((e 5), (e 6)) w) → (thenE (W31 k31_9 Q) Q) (.goto 0) e w := fun e w h => then_G (hG0 e w h)
  refine seA ?_
  exact rgA 8 (fun e w => m31_14 R K1 (e 0) (e 5) (e 6) (e 7) (e 30) w) h fun e w h => then_N (s31_14 (K1 := K1) hG0 hN e w h)
theorem s31_7 {K1 : (Value × Value) → World → Prop} (hG0 : ∀ e w, (K1 ((e 5), (e 6)) w) → Q (.goto 0) e w) (hR : hR31 R Q) (e : Env) (w : World) (h : m31_7 R K1 (e 0) (e 5) (e 6) (e 7) w) : W31 k31_7 Q e w := by
  refine seA ?_
  exact rgA 7 (fun e w => m31_8 R K1 (e 0) (e 5) (e 6) (e 7) w) h fun e w h => then_N (s31_8 (K1 := K1) hG0 hR e w h)
theorem s31_6 {K1 : (Value × Value) → World → Prop} (hG0 : ∀ e w, (K1 ((e 5), (e 6)) w) → Q (.goto 0) e w) (hR : hR31 R Q) (e : Env) (w : World) (h : m31_6 R K1 (e 0) (e 5) (e 6) (e 7) w) : W31 k31_6 Q e w := by
  refine seA ?_
  exact rgA 6 (fun e w => m31_7 R K1 (e 0) (e 5) (e 6) (e 7) w) h fun e w h => then_N (s31_7 (K1 := K1) hG0 hR e w h)
theorem s31_5 {K1 : (Value × Value) → World → Prop} (hG0 : ∀ e w, (K1 ((e 5), (e 6)) w) → Q (.goto 0) e w) (hR : hR31 R Q) (e : Env) (w : World) (h : m31_5 R K1 (e 0) (e 5) (e 6) w) : W31 k31_5 Q e w := by
  refine seA ?_
  exact rgA 5 (fun e w => m31_6 R K1 (e 0) (e 5) (e 6) (e 7) w) h fun e w h => then_N (s31_6 (K1 := K1) hG0 hR e w h)
theorem s31_15 {K1 : (Value × Value) → World → Prop} (hN : ∀ e w, (m31_5 R K1 (e 0) (e 5) (e 6) w) → Q .normal e w) (hR : hR31 R Q) (e : Env) (w : World) (h : m31_15 R K1 (e 0) (e 5) (e 6) (e 15) w) : W31 k31_15 Q e w := by
  refine coA (Operand.tmp 15) h (fun h1 => ?_) (fun h1 => ?_)
  · refine seA ?_
    exact rgA 4 (fun e w => m31_16 R K1 (e 2) (e 3) (e 4) w) h1 fun e w h => then_N (s31_16 hR e w h)
  · exact skA (hN _ _ h1)
theorem s31_4 {K1 : (Value × Value) → World → Prop} (hG0 : ∀ e w, (K1 ((e 5), (e 6)) w) → Q (.goto 0) e w) (hR : hR31 R Q) (e : Env) (w : World) (h : m31_4 R K1 (e 0) (e 5) (e 6) w) : W31 k31_4 Q e w := by
  refine seA ?_
  have hN : ∀ e w, (m31_5 R K1 (e 0) (e 5) (e 6) w) → (thenE (W31 k31_5 Q) Q) .normal e w := fun e w h => then_N (s31_5 (K1 := K1) hG0 hR e w h)
  have hR : hR31 R (thenE (W31 k31_5 Q) Q) := fun e w h => then_R (hR e w h)
  refine seA ?_
  exact rgA 3 (fun e w => m31_15 R K1 (e 0) (e 5) (e 6) (e 15) w) h fun e w h => then_N (s31_15 hN hR e w h)
theorem s31_3 (hR : hR31 R Q) (e : Env) (w : World) (h : m31_3 R (e 0) (e 5) (e 6) w) : WL31 k31_3 Q e w := by
  refine lab_ok 0 (fun (e : Env) => (e 5, e 6)) [0] (by kernel_rfl) (by kernel_rfl) h (fun K e' w' hk h' => ?_)
  have r0 : e' 0 = e 0 := hk 0 (by decide)
  have hR : hR31 R (gotoE 0 (fun (e : Env) w => K ((e 5), (e 6)) w) Q) := fun e w h => goto_R (hR e w h)
  exact s31_4 (R := R) (Q := (gotoE 0 (fun (e : Env) w => K ((e 5), (e 6)) w) Q)) (K1 := K) (fun _ _ h => goto_K h) hR e' w' (by rw [r0]; exact h')
theorem s31_2 (hR : hR31 R Q) (e : Env) (w : World) (h : m31_2 R (e 0) (e 5) w) : WL31 k31_2 Q e w := by
  refine seL ?_
  exact rgA 2 (fun e w => m31_3 R (e 0) (e 5) (e 6) w) h fun e w h => then_N (s31_3 hR e w h)
theorem s31_1 (hR : hR31 R Q) (e : Env) (w : World) (h : m31_1 R (e 0) w) : WL31 k31_1 Q e w := by
  refine seL ?_
  exact rgA 1 (fun e w => m31_2 R (e 0) (e 5) w) h fun e w h => then_N (s31_2 hR e w h)
theorem s31_0 (hR : hR31 R Q) (e : Env) (w : World) (h : m31_0 R (e 0) w) : WT31 k31_0 Q e w := by
  show cwp Try.prog _ (c1 k31_0) (thenE (WL31 k31_1 Q) Q) e w
  exact rgA 0 (fun e w => m31_1 R (e 0) w) h fun e w h => then_N (s31_1 hR e w h)
abbrev m31 (R : VP) (s0 : Value) (w : World) : Prop := m31_0 R s0 w
theorem s31 (s0 : Value) {R : VP} {w : World} (h : m31 R s0 w) :
    Calls Try.prog 31 #[s0] w fun e w' => ∃ v, e = .returned v ∧ R v w' :=
  calls_of_cwpT (st := (fun i => cond (Nat.beq i 11) 1 (0))) (c := k31_0) 0 (by kernel_rfl) Try.func31 (by kernel_rfl) (by kernel_rfl) (Nat.le_of_ble_eq_true (by kernel_rfl)) (by kernel_rfl) (by kernel_rfl)
    (s31_0 (R := R) (Q := endE Try.prog Try.f31 R) (fun e w h => kcast (by kernel_rfl) h) (argsE #[s0]) w (kcast (by kernel_rfl) h))
def m17_10 (R : VP) (K1 : (Value × Value) → World → Prop) (u3 b4 : Value) (w : World) : Prop :=
  valP Try.prog (binS BinOp.quo 73 (tm 25) (Operand.const (Value.int IntKind.u64 128)) u3 (Value.int IntKind.u64 128)) w fun t26 w =>
  K1 (t26, b4) w
def m17_9 (R : VP) (K1 : (Value × Value) → World → Prop) (u3 b4 : Value) (w : World) : Prop :=
  valP Try.prog (binS BinOp.rem 73 (tm 19) (Operand.const (Value.int IntKind.u64 128)) u3 (Value.int IntKind.u64 128)) w fun t20 w =>
  valP Try.prog (binS BinOp.add 73 (tm 20) (Operand.const (Value.int IntKind.u64 128)) t20 (Value.int IntKind.u64 128)) w fun t21 w =>
  valP Try.prog (convert 73 5 t21) w fun t22 w =>
  valP Try.prog (Instr.buildSlice 74 1 #[(0, t22)]) w fun t23 w =>
  builtinP Try.prog Builtin.append #[74, 74] 74 #[false, false] #[b4, t23] w fun t24 w =>
  m17_10 R K1 u3 t24 w
def m17_7 (R : VP) (t2 : Value) (w : World) : Prop :=
  R t2 w
def m17_6 (R : VP) (b4 : Value) (w : World) : Prop :=
  valP Try.prog (convert 74 9 b4) w fun t33 w =>
  m17_7 R t33 w
def m17_5 (R : VP) (u3 b4 : Value) (w : World) : Prop :=
  valP Try.prog (convert 73 5 u3) w fun t29 w =>
  valP Try.prog (Instr.buildSlice 74 1 #[(0, t29)]) w fun t30 w =>
  builtinP Try.prog Builtin.append #[74, 74] 74 #[false, false] #[b4, t30] w fun t31 w =>
  m17_6 R t31 w
def m17_11 (R : VP) (K1 : (Value × Value) → World → Prop) (u3 b4 t17 : Value) (w : World) : Prop :=
  condP t17
  (m17_9 R K1 u3 b4 w)
  (m17_5 R u3 b4 w)
def m17_8 (R : VP) (K1 : (Value × Value) → World → Prop) (u3 b4 : Value) (w : World) : Prop :=
  valP Try.prog (binS BinOp.gtr 73 (tm 16) (Operand.const (Value.int IntKind.u64 127)) u3 (Value.int IntKind.u64 127)) w fun t17 w =>
  m17_11 R K1 u3 b4 t17 w
def m17_4 (R : VP) (u3 b4 : Value) (w : World) : Prop :=
  loopP (fun (K1 : (Value × Value) → World → Prop) (s : Value × Value) w => m17_8 R K1 s.1 s.2 w) (u3, b4) w
def m17_3 (R : VP) (u3 : Value) (w : World) : Prop :=
  m17_4 R u3 (Value.slice none 0 0) w
def m17_12 (R : VP) (n0 u3 t9 : Value) (w : World) : Prop :=
  condP t9
  (valP Try.prog (binS BinOp.add 3 (tm 10) (ci 1) n0 (vi 1)) w fun t11 w =>
  valP Try.prog (Op.unary UnOp.neg t11) w fun t12 w =>
  valP Try.prog (convert 3 73 t12) w fun t13 w =>
  valP Try.prog (binS BinOp.mul 73 (tm 13) (Operand.const (Value.int IntKind.u64 2)) t13 (Value.int IntKind.u64 2)) w fun t14 w =>
  valP Try.prog (binS BinOp.add 73 (tm 14) (Operand.const (Value.int IntKind.u64 1)) t14 (Value.int IntKind.u64 1)) w fun t15 w =>
  m17_3 R t15 w)
  (m17_3 R u3 w)
def m17_2 (R : VP) (n0 u3 : Value) (w : World) : Prop :=
  valP Try.prog (binS BinOp.lss 3 (tm 8) (ci 0) n0 (vi 0)) w fun t9 w =>
  m17_12 R n0 u3 t9 w
def m17_1 (R : VP) (n0 : Value) (w : World) : Prop :=
  valP Try.prog (convert 3 73 n0) w fun t6 w =>
  valP Try.prog (binS BinOp.mul 73 (tm 6) (Operand.const (Value.int IntKind.u64 2)) t6 (Value.int IntKind.u64 2)) w fun t7 w =>
  m17_2 R n0 t7 w
def m17_0 (R : VP) (n0 : Value) (w : World) : Prop :=
  m17_1 R n0 w
abbrev W17 := cwp Try.prog (fun i => 0)
noncomputable def k17_0 := bodyOf Try.f17
noncomputable def k17_1 := c2 k17_0
noncomputable def k17_2 := c2 k17_1
noncomputable def k17_3 := c2 k17_2
noncomputable def k17_4 := c2 k17_3
noncomputable def k17_5 := c2 k17_4
noncomputable def k17_6 := c2 k17_5
noncomputable def k17_7 := c2 k17_6
noncomputable def k17_8 := c1 (c1 (c1 k17_4))
noncomputable def k17_9 := c2 k17_8
noncomputable def k17_10 := c2 (c1 k17_9)
noncomputable def k17_11 := c2 (c1 k17_8)
noncomputable def k17_12 := c2 (c1 k17_2)
theorem s17_10 {K1 : (Value × Value) → World → Prop} (hN : ∀ e w, (K1 ((e 3), (e 4)) w) → Q .normal e w) (e : Env) (w : World) (h : m17_10 R K1 (e 3) (e 4) w) : W17 k17_10 Q e w := by
  exact rgA 7 (fun e w => K1 ((e 3), (e 4)) w) h hN
theorem s17_9 {K1 : (Value × Value) → World → Prop} (hN : ∀ e w, (K1 ((e 3), (e 4)) w) → Q .normal e w) (e : Env) (w : World) (h : m17_9 R K1 (e 3) (e 4) w) : W17 k17_9 Q e w := by
  refine block_ok 1 (by kernel_rfl) ?_
  have hN : ∀ e w, (K1 ((e 3), (e 4)) w) → (inBlockE 1 Q) .normal e w := fun e w h => block_N (hN e w h)
  refine seA ?_
  exact rgA 6 (fun e w => m17_10 R K1 (e 3) (e 4) w) h fun e w h => then_N (s17_10 (R := R) (Q := (inBlockE 1 Q)) hN e w h)
abbrev hR17 (R : VP) (Q : EQ) : Prop := ∀ e w, (R (e 2) w) → Q .ret e w
theorem s17_7 (hR : hR17 R Q) (e : Env) (w : World) (h : m17_7 R (e 2) w) : W17 k17_7 Q e w := by
  exact reA (hR _ _ h)
theorem s17_6 (hR : hR17 R Q) (e : Env) (w : World) (h : m17_6 R (e 4) w) : W17 k17_6 Q e w := by
  refine seA ?_
  exact rgA 9 (fun e w => m17_7 R (e 2) w) h fun e w h => then_N (s17_7 hR e w h)
theorem s17_5 (hR : hR17 R Q) (e : Env) (w : World) (h : m17_5 R (e 3) (e 4) w) : W17 k17_5 Q e w := by
  refine seA ?_
  exact rgA 8 (fun e w => m17_6 R (e 4) w) h fun e w h => then_N (s17_6 hR e w h)
theorem s17_11 {K1 : (Value × Value) → World → Prop} (hN : ∀ e w, (m17_9 R K1 (e 3) (e 4) w) → Q .normal e w) (hX0 : ∀ e w, (m17_5 R (e 3) (e 4) w) → Q (.exit 0) e w) (e : Env) (w : World) (h : m17_11 R K1 (e 3) (e 4) (e 17) w) : W17 k17_11 Q e w := by
  refine coA (Operand.tmp 17) h (fun h1 => ?_) (fun h1 => ?_)
  · exact skA (hN _ _ h1)
  · exact exA 0 (hX0 _ _ h1)
theorem s17_8 {K1 : (Value × Value) → World → Prop} (hN : ∀ e w, (K1 ((e 3), (e 4)) w) → Q .normal e w) (hX0 : ∀ e w, (m17_5 R (e 3) (e 4) w) → Q (.exit 0) e w) (e : Env) (w : World) (h : m17_8 R K1 (e 3) (e 4) w) : W17 k17_8 Q e w := by
  refine seA ?_
  have hN : ∀ e w, (m17_9 R K1 (e 3) (e 4) w) → (thenE (W17 k17_9 Q) Q) .normal e w := fun e w h => then_N (s17_9 hN e w h)
  have hX0 : ∀ e w, (m17_5 R (e 3) (e 4) w) → (thenE (W17 k17_9 Q) Q) (.exit 0) e w := fun e w h => then_X (hX0 e w h)
  refine seA ?_
  exact rgA 5 (fun e w => m17_11 R K1 (e 3) (e 4) (e 17) w) h fun e w h => then_N (s17_11 hN hX0 e w h)
theorem s17_4 (hR : hR17 R Q) (e : Env) (w : World) (h : m17_4 R (e 3) (e 4) w) : W17 k17_4 Q e w := by
  refine seA ?_
  have hN : ∀ e w, (m17_5 R (e 3) (e 4) w) → (thenE (W17 k17_5 Q) Q) .normal e w := fun e w h => then_N (s17_5 hR e w h)
  refine block_ok 0 (by kernel_rfl) ?_
  have hX0 : ∀ e w, (m17_5 R (e 3) (e 4) w) → (inBlockE 0 (thenE (W17 k17_5 Q) Q)) (.exit 0) e w := fun e w h => inBlock_same (Q := (thenE (W17 k17_5 Q) Q)) 0 (hN e w h)
  refine loop_ok' (fun (e : Env) => (e 3, e 4)) [] (by kernel_rfl) (by kernel_rfl) h (fun K e' w' hk h' => ?_)
  have hX0 : ∀ e w, (m17_5 R (e 3) (e 4) w) → (thenE (fun (e : Env) w => K ((e 3), (e 4)) w) (inBlockE 0 (thenE (W17 k17_5 Q) Q))) (.exit 0) e w := fun e w h => then_X (hX0 e w h)
  exact s17_8 (K1 := K) (fun _ _ h => then_N h) hX0 e' w' h'
theorem s17_3 (hR : hR17 R Q) (e : Env) (w : World) (h : m17_3 R (e 3) w) : W17 k17_3 Q e w := by
  refine seA ?_
  exact rgA 4 (fun e w => m17_4 R (e 3) (e 4) w) h fun e w h => then_N (s17_4 hR e w h)
theorem s17_12 (hN : ∀ e w, (m17_3 R (e 3) w) → Q .normal e w) (e : Env) (w : World) (h : m17_12 R (e 0) (e 3) (e 9) w) : W17 k17_12 Q e w := by
  refine coA (Operand.tmp 9) h (fun h1 => ?_) (fun h1 => ?_)
  · exact rgA 3 (fun e w => m17_3 R (e 3) w) h1 hN
  · exact skA (hN _ _ h1)
theorem s17_2 (hR : hR17 R Q) (e : Env) (w : World) (h : m17_2 R (e 0) (e 3) w) : W17 k17_2 Q e w := by
  refine seA ?_
  have hN : ∀ e w, (m17_3 R (e 3) w) → (thenE (W17 k17_3 Q) Q) .normal e w := fun e w h => then_N (s17_3 hR e w h)
  refine seA ?_
  exact rgA 2 (fun e w => m17_12 R (e 0) (e 3) (e 9) w) h fun e w h => then_N (s17_12 hN e w h)
theorem s17_1 (hR : hR17 R Q) (e : Env) (w : World) (h : m17_1 R (e 0) w) : W17 k17_1 Q e w := by
  refine seA ?_
  exact rgA 1 (fun e w => m17_2 R (e 0) (e 3) w) h fun e w h => then_N (s17_2 hR e w h)
theorem s17_0 (hR : hR17 R Q) (e : Env) (w : World) (h : m17_0 R (e 0) w) : W17 k17_0 Q e w := by
  refine seA ?_
  exact rgA 0 (fun e w => m17_1 R (e 0) w) h fun e w h => then_N (s17_1 hR e w h)
abbrev m17 (R : VP) (n0 : Value) (w : World) : Prop := m17_0 R n0 w
theorem s17 (n0 : Value) {R : VP} {w : World} (h : m17 R n0 w) :
    Calls Try.prog 17 #[n0] w fun e w' => ∃ v, e = .returned v ∧ R v w' :=
  calls_of_cwp (st := (fun i => 0)) (c := k17_0) (by kernel_rfl) Try.func17 (by kernel_rfl) (Nat.le_of_ble_eq_true (by kernel_rfl)) (by kernel_rfl)
    (s17_0 (R := R) (Q := endE Try.prog Try.f17 R) (fun e w h => kcast (by kernel_rfl) h) (argsE #[n0]) w (kcast (by kernel_rfl) h))
def m55_22 (R : VP) (K1 : VP) (s0 k5 : Value) (w : World) : Prop :=
  valP Try.prog (binS BinOp.add 3 (tm 23) (ci 1) k5 (vi 1)) w fun t24 w =>
  K1 t24 w
def m55_20 (R : VP) (t2 t3 t4 : Value) (w : World) : Prop :=
  R (Value.tuple #[t2, t3, t4]) w
def m55_17 (R : VP) (K1 : (Value × Value) → World → Prop) (s0 k5 u6 i7 : Value) (w : World) : Prop :=
  valP Try.prog (binS BinOp.sub 3 (tm 36) (ci 1) i7 (vi 1)) w fun t37 w =>
  K1 (u6, t37) w
def m55_16 (R : VP) (K1 : (Value × Value) → World → Prop) (s0 k5 u6 i7 : Value) (w : World) : Prop :=
  valP Try.prog (binS BinOp.mul 73 (tm 38) (Operand.const (Value.int IntKind.u64 128)) u6 (Value.int IntKind.u64 128)) w fun t39 w =>
  valP Try.prog (Instr.index 9 s0 i7) w fun t42 w =>
  valP Try.prog (convert 5 73 t42) w fun t43 w =>
  valP Try.prog (binS BinOp.rem 73 (tm 43) (Operand.const (Value.int IntKind.u64 128)) t43 (Value.int IntKind.u64 128)) w fun t44 w =>
  valP Try.prog (binS BinOp.add 73 (tm 39) (tm 44) t39 t44) w fun t45 w =>
  m55_17 R K1 s0 k5 t45 i7 w
def m55_12 (R : VP) (t2 t3 t4 : Value) (w : World) : Prop :=
  R (Value.tuple #[t2, t3, t4]) w
def m55_10 (R : VP) (t2 t3 t4 : Value) (w : World) : Prop :=
  R (Value.tuple #[t2, t3, t4]) w
def m55_9 (R : VP) (s0 k5 n8 : Value) (w : World) : Prop :=
  valQ Try.prog (binS BinOp.add 3 (tm 64) (ci 1) k5 (vi 1)) w fun t65 =>
  valQ Try.prog (Instr.sliceAt 9 s0 (some t65) none none) w fun t66 =>
  anyDraw w fun w =>
  m55_10 R n8 t66 (vi 0) w
def m55_11 (R : VP) (s0 k5 n8 t61 : Value) (w : World) : Prop :=
  condP t61
  (m55_12 R (vi 0) (Value.string ⟨#[]⟩) (vi 2) w)
  (m55_9 R s0 k5 n8 w)
def m55_8 (R : VP) (s0 k5 n8 : Value) (w : World) : Prop :=
  anyDraw w fun w =>
  pureP Try.prog (binS BinOp.add 3 (tm 58) (ci 1) k5 (vi 1)) fun t59 =>
  pureP Try.prog (Instr.sliceAt 9 s0 none (some t59) none) fun t60 =>
  callP Try.prog (fnV 17) #[n8] w fun t56 w =>
  pureP Try.prog (binS BinOp.neq 9 (tm 56) (tm 60) t56 t60) fun t61 =>
  m55_11 R s0 k5 n8 t61 w
def m55_13 (R : VP) (s0 k5 n8 t51 : Value) (w : World) : Prop :=
  condP t51
  (valP Try.prog (Op.unary UnOp.neg n8) w fun t53 w =>
  valP Try.prog (binS BinOp.sub 3 (tm 53) (ci 1) t53 (vi 1)) w fun t54 w =>
  m55_8 R s0 k5 t54 w)
  (m55_8 R s0 k5 n8 w)
def m55_7 (R : VP) (s0 k5 u6 n8 : Value) (w : World) : Prop :=
  valP Try.prog (binS BinOp.rem 73 (tm 49) (Operand.const (Value.int IntKind.u64 2)) u6 (Value.int IntKind.u64 2)) w fun t50 w =>
  valP Try.prog (binS BinOp.eql 73 (tm 50) (Operand.const (Value.int IntKind.u64 1)) t50 (Value.int IntKind.u64 1)) w fun t51 w =>
  m55_13 R s0 k5 n8 t51 w
def m55_6 (R : VP) (s0 k5 u6 : Value) (w : World) : Prop :=
  valP Try.prog (binS BinOp.quo 73 (tm 46) (Operand.const (Value.int IntKind.u64 2)) u6 (Value.int IntKind.u64 2)) w fun t47 w =>
  valP Try.prog (convert 73 3 t47) w fun t48 w =>
  m55_7 R s0 k5 u6 t48 w
def m55_18 (R : VP) (K1 : (Value × Value) → World → Prop) (s0 k5 u6 i7 t35 : Value) (w : World) : Prop :=
  condP t35
  (m55_16 R K1 s0 k5 u6 i7 w)
  (m55_6 R s0 k5 u6 w)
def m55_15 (R : VP) (K1 : (Value × Value) → World → Prop) (s0 k5 u6 i7 : Value) (w : World) : Prop :=
  valP Try.prog (binS BinOp.geq 3 (tm 34) (ci 0) i7 (vi 0)) w fun t35 w =>
  m55_18 R K1 s0 k5 u6 i7 t35 w
def m55_14 (R : VP) (s0 k5 u6 i7 : Value) (w : World) : Prop :=
  loopP (fun (K1 : (Value × Value) → World → Prop) (s : Value × Value) w => m55_15 R K1 s0 k5 s.1 s.2 w) (u6, i7) w
def m55_5 (R : VP) (s0 k5 u6 : Value) (w : World) : Prop :=
  m55_14 R s0 k5 u6 k5 w
def m55_4 (R : VP) (s0 k5 : Value) (w : World) : Prop :=
  m55_5 R s0 k5 (Value.int IntKind.u64 0) w
def m55_19 (R : VP) (s0 k5 t32 : Value) (w : World) : Prop :=
  condP t32
  (m55_20 R (vi 0) (Value.string ⟨#[]⟩) (vi 2) w)
  (m55_4 R s0 k5 w)
def m55_3 (R : VP) (s0 k5 : Value) (w : World) : Prop :=
  builtinP Try.prog Builtin.len #[9] 3 #[false] #[s0] w fun t27 w =>
  valP Try.prog (binS BinOp.eql 3 (tm 25) (tm 27) k5 t27) w fun t28 w =>
  condP t28
  (pickP t28 (Value.bool true) undef fun t32 =>
  m55_19 R s0 k5 t32 w)
  (valP Try.prog (binS BinOp.eql 3 (tm 30) (ci 10) k5 (vi 10)) w fun t31 w =>
  pickP t28 (Value.bool true) t31 fun t32 =>
  m55_19 R s0 k5 t32 w)
def m55_23 (R : VP) (K1 : VP) (s0 k5 t22 : Value) (w : World) : Prop :=
  condP t22
  (m55_22 R K1 s0 k5 w)
  (m55_3 R s0 k5 w)
def m55_21 (R : VP) (K1 : VP) (s0 k5 : Value) (w : World) : Prop :=
  builtinP Try.prog Builtin.len #[9] 3 #[false] #[s0] w fun t11 w =>
  valP Try.prog (binS BinOp.lss 3 (tm 9) (tm 11) k5 t11) w fun t12 w =>
  condP t12
  (valP Try.prog (binS BinOp.lss 3 (tm 14) (ci 10) k5 (vi 10)) w fun t15 w =>
  pickP t12 t15 (Value.bool false) fun t16 =>
  condP t16
  (valP Try.prog (Instr.index 9 s0 k5) w fun t20 w =>
  valP Try.prog (binS BinOp.gtr 5 (tm 20) (Operand.const (Value.int IntKind.u8 127)) t20 (Value.int IntKind.u8 127)) w fun t21 w =>
  pickP t16 t21 (Value.bool false) fun t22 =>
  m55_23 R K1 s0 k5 t22 w)
  (pickP t16 undef (Value.bool false) fun t22 =>
  m55_23 R K1 s0 k5 t22 w))
  (pickP t12 undef (Value.bool false) fun t16 =>
  condP t16
  (valP Try.prog (Instr.index 9 s0 k5) w fun t20 w =>
  valP Try.prog (binS BinOp.gtr 5 (tm 20) (Operand.const (Value.int IntKind.u8 127)) t20 (Value.int IntKind.u8 127)) w fun t21 w =>
  pickP t16 t21 (Value.bool false) fun t22 =>
  m55_23 R K1 s0 k5 t22 w)
  (pickP t16 undef (Value.bool false) fun t22 =>
  m55_23 R K1 s0 k5 t22 w))
def m55_2 (R : VP) (s0 k5 : Value) (w : World) : Prop :=
  loopP (fun (K1 : VP) (s : Value) w => m55_21 R K1 s0 s w) k5 w
def m55_1 (R : VP) (s0 : Value) (w : World) : Prop :=
  m55_2 R s0 (vi 0) w
def m55_0 (R : VP) (s0 : Value) (w : World) : Prop :=
  m55_1 R s0 w
abbrev W55 := cwp Try.prog (fun i => cond (Nat.beq i 16) 1 (0))
noncomputable def k55_0 := bodyOf Try.f55
noncomputable def k55_1 := c2 k55_0
noncomputable def k55_2 := c2 k55_1
noncomputable def k55_3 := c2 k55_2
noncomputable def k55_4 := c2 k55_3
noncomputable def k55_5 := c2 k55_4
noncomputable def k55_6 := c2 k55_5
noncomputable def k55_7 := c2 k55_6
noncomputable def k55_8 := c2 k55_7
noncomputable def k55_9 := c2 k55_8
noncomputable def k55_10 := c2 k55_9
noncomputable def k55_11 := c2 (c1 k55_8)
noncomputable def k55_12 := c2 (c1 k55_11)
noncomputable def k55_13 := c2 (c1 k55_7)
noncomputable def k55_14 := c2 (c1 k55_5)
noncomputable def k55_15 := c1 (c1 k55_14)
noncomputable def k55_16 := c2 k55_15
noncomputable def k55_17 := c2 k55_16
noncomputable def k55_18 := c2 (c1 k55_15)
noncomputable def k55_19 := c2 (c1 k55_3)
noncomputable def k55_20 := c2 (c1 k55_19)
noncomputable def k55_21 := c1 (c1 (c1 k55_2))
noncomputable def k55_22 := c2 k55_21
noncomputable def k55_23 := c2 (c1 k55_21)
theorem s55_22 {K1 : VP} (hN : ∀ e w, (K1 (e 5) w) → Q .normal e w) (e : Env) (w : World) (h : m55_22 R K1 (e 0) (e 5) w) : W55 k55_22 Q e w := by
  refine block_ok 1 (by kernel_rfl) ?_
  exact rgA 3 (fun e w => K1 (e 5) w) h fun e w h => block_N (hN e w h)
abbrev hR55 (R : VP) (Q : EQ) : Prop := ∀ e w, (R (Value.tuple #[(e 2), (e 3), (e 4)]) w) → Q .ret e w
theorem s55_20 (hR : hR55 R Q) (e : Env) (w : World) (h : m55_20 R (e 2) (e 3) (e 4) w) : W55 k55_20 Q e w := by
  exact reA (hR _ _ h)
theorem s55_17 {K1 : (Value × Value) → World → Prop} (hN : ∀ e w, (K1 ((e 6), (e 7)) w) → Q .normal e w) (e : Env) (w : World) (h : m55_17 R K1 (e 0) (e 5) (e 6) (e 7) w) : W55 k55_17 Q e w := by
  exact rgA 9 (fun e w => K1 ((e 6), (e 7)) w) h hN
theorem s55_16 {K1 : (Value × Value) → World → Prop} (hN : ∀ e w, (K1 ((e 6), (e 7)) w) → Q .normal e w) (e : Env) (w : World) (h : m55_16 R K1 (e 0) (e 5) (e 6) (e 7) w) : W55 k55_16 Q e w := by
  refine seA ?_
  have hN : ∀ e w, (m55_17 R K1 (e 0) (e 5) (e 6) (e 7) w) → (thenE (W55 k55_17 Q) Q) .normal e w := fun e w h => then_N (s55_17 hN e w h)
  refine block_ok 3 (by kernel_rfl) ?_
  exact rgA 10 (fun e w => m55_17 R K1 (e 0) (e 5) (e 6) (e 7) w) h fun e w h => block_N (hN e w h)
theorem s55_12 (hR : hR55 R Q) (e : Env) (w : World) (h : m55_12 R (e 2) (e 3) (e 4) w) : W55 k55_12 Q e w := by
  exact reA (hR _ _ h)
theorem s55_10 (hR : hR55 R Q) (e : Env) (w : World) (h : m55_10 R (e 2) (e 3) (e 4) w) : W55 k55_10 Q e w := by
  exact reA (hR _ _ h)
theorem s55_9 (hR : hR55 R Q) (e : Env) (w : World) (h : m55_9 R (e 0) (e 5) (e 8) w) : W55 k55_9 Q e w := by
  refine seA ?_
  have hN : ∀ e w, (m55_10 R (e 2) (e 3) (e 4) w) → (thenE (W55 k55_10 Q) Q) .normal e w := fun e w h => then_N (s55_10 hR e w h)
  exact quA 16 (fun e w => m55_10 R (e 2) (e 3) (e 4) w) h hN
theorem s55_11 (hN : ∀ e w, (m55_9 R (e 0) (e 5) (e 8) w) → Q .normal e w) (hR : hR55 R Q) (e : Env) (w : World) (h : m55_11 R (e 0) (e 5) (e 8) (e 61) w) : W55 k55_11 Q e w := by
  refine coA (Operand.tmp 61) h (fun h1 => ?_) (fun h1 => ?_)
  · refine seA ?_
    exact rgA 15 (fun e w => m55_12 R (e 2) (e 3) (e 4) w) h1 fun e w h => then_N (s55_12 hR e w h)
  · exact skA (hN _ _ h1)
theorem s55_8 (hR : hR55 R Q) (e : Env) (w : World) (h : m55_8 R (e 0) (e 5) (e 8) w) : W55 k55_8 Q e w := by
  refine seA ?_
  have hN : ∀ e w, (m55_9 R (e 0) (e 5) (e 8) w) → (thenE (W55 k55_9 Q) Q) .normal e w := fun e w h => then_N (s55_9 hR e w h)
  have hR : hR55 R (thenE (W55 k55_9 Q) Q) := fun e w h => then_R (hR e w h)
  refine seA ?_
  have hN : ∀ e w, (m55_11 R (e 0) (e 5) (e 8) (e 61) w) → (thenE (W55 k55_11 (thenE (W55 k55_9 Q) Q)) (thenE (W55 k55_9 Q) Q)) .normal e w := fun e w h => then_N (s55_11 hN hR e w h)
  exact tree_ok 14 7 (bt 7 0) (.take 0 (bt 7 1) (.take 2 (bt 7 5) (.take 3 (bt 7 13) (.take 4 (bt 7 29) (.take 5 (bt 7 61) (.alt 1 (bt 7 63) (.take 6 (bt 7 127) .done) .stop)))))) (fun e w => m55_11 R (e 0) (e 5) (e 8) (e 61) w) (by kernel_rfl) (by kernel_rfl) (by kernel_rfl) (by kernel_rfl) (by kernel_rfl) (by kernel_rfl) (kcast (by kernel_rfl) h) hN (by kernel_rfl)
theorem s55_13 (hN : ∀ e w, (m55_8 R (e 0) (e 5) (e 8) w) → Q .normal e w) (e : Env) (w : World) (h : m55_13 R (e 0) (e 5) (e 8) (e 51) w) : W55 k55_13 Q e w := by
  refine coA (Operand.tmp 51) h (fun h1 => ?_) (fun h1 => ?_)
  · exact rgA 13 (fun e w => m55_8 R (e 0) (e 5) (e 8) w) h1 hN
  · exact skA (hN _ _ h1)
theorem s55_7 (hR : hR55 R Q) (e : Env) (w : World) (h : m55_7 R (e 0) (e 5) (e 6) (e 8) w) : W55 k55_7 Q e w := by
  refine seA ?_
  have hN : ∀ e w, (m55_8 R (e 0) (e 5) (e 8) w) → (thenE (W55 k55_8 Q) Q) .normal e w := fun e w h => then_N (s55_8 hR e w h)
  refine seA ?_
  exact rgA 12 (fun e w => m55_13 R (e 0) (e 5) (e 8) (e 51) w) h fun e w h => then_N (s55_13 hN e w h)
theorem s55_6 (hR : hR55 R Q) (e : Env) (w : World) (h : m55_6 R (e 0) (e 5) (e 6) w) : W55 k55_6 Q e w := by
  refine seA ?_
  exact rgA 11 (fun e w => m55_7 R (e 0) (e 5) (e 6) (e 8) w) h fun e w h => then_N (s55_7 hR e w h)
theorem s55_18 {K1 : (Value × Value) → World → Prop} (hN : ∀ e w, (m55_16 R K1 (e 0) (e 5) (e 6) (e 7) w) → Q .normal e w) (hX2 : ∀ e w, (m55_6 R (e 0) (e 5) (e 6) w) → Q (.exit 2) e w) (e : Env) (w : World) (h : m55_18 R K1 (e 0) (e 5) (e 6) (e 7) (e 35) w) : W55 k55_18 Q e w := by
  refine coA (Operand.tmp 35) h (fun h1 => ?_) (fun h1 => ?_)
  · exact skA (hN _ _ h1)
  · exact exA 2 (hX2 _ _ h1)
theorem s55_15 {K1 : (Value × Value) → World → Prop} (hN : ∀ e w, (K1 ((e 6), (e 7)) w) → Q .normal e w) (hX2 : ∀ e w, (m55_6 R (e 0) (e 5) (e 6) w) → Q (.exit 2) e w) (e : Env) (w : World) (h : m55_15 R K1 (e 0) (e 5) (e 6) (e 7) w) : W55 k55_15 Q e w := by
  refine seA ?_
  have hN : ∀ e w, (m55_16 R K1 (e 0) (e 5) (e 6) (e 7) w) → (thenE (W55 k55_16 Q) Q) .normal e w := fun e w h => then_N (s55_16 hN e w h)
  have hX2 : ∀ e w, (m55_6 R (e 0) (e 5) (e 6) w) → (thenE (W55 k55_16 Q) Q) (.exit 2) e w := fun e w h => then_X (hX2 e w h)
  refine seA ?_
  exact rgA 8 (fun e w => m55_18 R K1 (e 0) (e 5) (e 6) (e 7) (e 35) w) h fun e w h => then_N (s55_18 hN hX2 e w h)
theorem s55_14 (hN : ∀ e w, (m55_6 R (e 0) (e 5) (e 6) w) → Q .normal e w) (e : Env) (w : World) (h : m55_14 R (e 0) (e 5) (e 6) (e 7) w) : W55 k55_14 Q e w := by
  refine block_ok 2 (by kernel_rfl) ?_
  have hX2 : ∀ e w, (m55_6 R (e 0) (e 5) (e 6) w) → (inBlockE 2 Q) (.exit 2) e w := fun e w h => inBlock_same (Q := Q) 2 (hN e w h)
  refine loop_ok' (fun (e : Env) => (e 6, e 7)) [0, 5] (by kernel_rfl) (by kernel_rfl) h (fun K e' w' hk h' => ?_)
  have r0 : e' 0 = e 0 := hk 0 (by decide)
  have r5 : e' 5 = e 5 := hk 5 (by decide)
  have hX2 : ∀ e w, (m55_6 R (e 0) (e 5) (e 6) w) → (thenE (fun (e : Env) w => K ((e 6), (e 7)) w) (inBlockE 2 Q)) (.exit 2) e w := fun e w h => then_X (hX2 e w h)
  exact s55_15 (K1 := K) (fun _ _ h => then_N h) hX2 e' w' (by rw [r0, r5]; exact h')
theorem s55_5 (hR : hR55 R Q) (e : Env) (w : World) (h : m55_5 R (e 0) (e 5) (e 6) w) : W55 k55_5 Q e w := by
  refine seA ?_
  have hN : ∀ e w, (m55_6 R (e 0) (e 5) (e 6) w) → (thenE (W55 k55_6 Q) Q) .normal e w := fun e w h => then_N (s55_6 hR e w h)
  refine seA ?_
  exact rgA 7 (fun e w => m55_14 R (e 0) (e 5) (e 6) (e 7) w) h fun e w h => then_N (s55_14 hN e w h)
theorem s55_4 (hR : hR55 R Q) (e : Env) (w : World) (h : m55_4 R (e 0) (e 5) w) : W55 k55_4 Q e w := by
  refine seA ?_
  exact rgA 6 (fun e w => m55_5 R (e 0) (e 5) (e 6) w) h fun e w h => then_N (s55_5 hR e w h)
theorem s55_19 (hN : ∀ e w, (m55_4 R (e 0) (e 5) w) → Q .normal e w) (hR : hR55 R Q) (e : Env) (w : World) (h : m55_19 R (e 0) (e 5) (e 32) w) : W55 k55_19 Q e w := by
  refine coA (Operand.tmp 32) h (fun h1 => ?_) (fun h1 => ?_)
  · refine seA ?_
    exact rgA 5 (fun e w => m55_20 R (e 2) (e 3) (e 4) w) h1 fun e w h => then_N (s55_20 hR e w h)
  · exact skA (hN _ _ h1)
theorem s55_3 (hR : hR55 R Q) (e : Env) (w : World) (h : m55_3 R (e 0) (e 5) w) : W55 k55_3 Q e w := by
  refine seA ?_
  have hN : ∀ e w, (m55_4 R (e 0) (e 5) w) → (thenE (W55 k55_4 Q) Q) .normal e w := fun e w h => then_N (s55_4 hR e w h)
  have hR : hR55 R (thenE (W55 k55_4 Q) Q) := fun e w h => then_R (hR e w h)
  refine seA ?_
  exact rgA 4 (fun e w => m55_19 R (e 0) (e 5) (e 32) w) h fun e w h => then_N (s55_19 hN hR e w h)
theorem s55_23 {K1 : VP} (hN : ∀ e w, (m55_22 R K1 (e 0) (e 5) w) → Q .normal e w) (hX0 : ∀ e w, (m55_3 R (e 0) (e 5) w) → Q (.exit 0) e w) (e : Env) (w : World) (h : m55_23 R K1 (e 0) (e 5) (e 22) w) : W55 k55_23 Q e w := by
  refine coA (Operand.tmp 22) h (fun h1 => ?_) (fun h1 => ?_)
  · exact skA (hN _ _ h1)
  · exact exA 0 (hX0 _ _ h1)
theorem s55_21 {K1 : VP} (hN : ∀ e w, (K1 (e 5) w) → Q .normal e w) (hX0 : ∀ e w, (m55_3 R (e 0) (e 5) w) → Q (.exit 0) e w) (e : Env) (w : World) (h : m55_21 R K1 (e 0) (e 5) w) : W55 k55_21 Q e w := by
  refine seA ?_
  have hN : ∀ e w, (m55_22 R K1 (e 0) (e 5) w) → (thenE (W55 k55_22 Q) Q) .normal e w := fun e w h => then_N (s55_22 hN e w h)
  have hX0 : ∀ e w, (m55_3 R (e 0) (e 5) w) → (thenE (W55 k55_22 Q) Q) (.exit 0) e w := fun e w h => then_X (hX0 e w h)
  refine seA ?_
  exact rgA 2 (fun e w => m55_23 R K1 (e 0) (e 5) (e 22) w) h fun e w h => then_N (s55_23 hN hX0 e w h)
theorem s55_2 (hR : hR55 R Q) (e : Env) (w : World) (h : m55_2 R (e 0) (e 5) w) : W55 k55_2 Q e w := by
  refine seA ?_
  have hN : ∀ e w, (m55_3 R (e 0) (e 5) w) → (thenE (W55 k55_3 Q) Q) .normal e w := fun e w h => then_N (s55_3 hR e w h)
  refine block_ok 0 (by kernel_rfl) ?_
  have hX0 : ∀ e w, (m55_3 R (e 0) (e 5) w) → (inBlockE 0 (thenE (W55 k55_3 Q) Q)) (.exit 0) e w := fun e w h => inBlock_same (Q := (thenE (W55 k55_3 Q) Q)) 0 (hN e w h)
  refine loop_ok' (fun (e : Env) => e 5) [0] (by kernel_rfl) (by kernel_rfl) h (fun K e' w' hk h' => ?_)
  have r0 : e' 0 = e 0 := hk 0 (by decide)
  have hX0 : ∀ e w, (m55_3 R (e 0) (e 5) w) → (thenE (fun (e : Env) w => K (e 5) w) (inBlockE 0 (thenE (W55 k55_3 Q) Q))) (.exit 0) e w := fun e w h => then_X (hX0 e w h)
  exact s55_21 (K1 := K) (fun _ _ h => then_N h) hX0 e' w' (by rw [r0]; exact h')
theorem s55_1 (hR : hR55 R Q) (e : Env) (w : World) (h : m55_1 R (e 0) w) : W55 k55_1 Q e w := by
  refine seA ?_
  exact rgA 1 (fun e w => m55_2 R (e 0) (e 5) w) h fun e w h => then_N (s55_2 hR e w h)
theorem s55_0 (hR : hR55 R Q) (e : Env) (w : World) (h : m55_0 R (e 0) w) : W55 k55_0 Q e w := by
  refine seA ?_
  exact rgA 0 (fun e w => m55_1 R (e 0) w) h fun e w h => then_N (s55_1 hR e w h)
abbrev m55 (R : VP) (s0 : Value) (w : World) : Prop := m55_0 R s0 w
theorem s55 (s0 : Value) {R : VP} {w : World} (h : m55 R s0 w) :
    Calls Try.prog 55 #[s0] w fun e w' => ∃ v, e = .returned v ∧ R v w' :=
  calls_of_cwp (st := (fun i => cond (Nat.beq i 16) 1 (0))) (c := k55_0) (by kernel_rfl) Try.func55 (by kernel_rfl) (Nat.le_of_ble_eq_true (by kernel_rfl)) (by kernel_rfl)
    (s55_0 (R := R) (Q := endE Try.prog Try.f55 R) (fun e w h => kcast (by kernel_rfl) h) (argsE #[s0]) w (kcast (by kernel_rfl) h))
def m32_10 (R : VP) (K1 : (Value × Value) → World → Prop) (u3 b4 k5 : Value) (w : World) : Prop :=
  valP Try.prog (binS BinOp.add 3 (tm 15) (ci 1) k5 (vi 1)) w fun t16 w =>
  K1 (u3, t16) w
def m32_11 (R : VP) (K1 : (Value × Value) → World → Prop) (u3 b4 k5 : Value) (w : World) : Prop :=
  valP Try.prog (binS BinOp.shr 73 (tm 22) (Operand.const (Value.int IntKind.u64 7)) u3 (Value.int IntKind.u64 7)) w fun t23 w =>
  m32_10 R K1 t23 b4 k5 w
def m32_9 (R : VP) (K1 : (Value × Value) → World → Prop) (u3 b4 k5 : Value) (w : World) : Prop :=
  valP Try.prog (convert 73 5 u3) w fun t19 w =>
  valP Try.prog (binS BinOp.or 5 (tm 19) (Operand.const (Value.int IntKind.u8 128)) t19 (Value.int IntKind.u8 128)) w fun t20 w =>
  valP Try.prog (Instr.indexAt 96 b4 k5) w fun t21 w =>
  unitP Try.prog (Instr.storeAt 5 t21 t20) w fun _ w =>
  m32_11 R K1 u3 b4 k5 w
def m32_7 (R : VP) (t2 : Value) (w : World) : Prop :=
  R t2 w
def m32_6 (R : VP) (b4 k5 : Value) (w : World) : Prop :=
  valP Try.prog (binS BinOp.add 3 (tm 28) (ci 1) k5 (vi 1)) w fun t29 w =>
  valP Try.prog (Instr.sliceAt 96 b4 none (some t29) none) w fun t30 w =>
  valP Try.prog (convert 74 9 t30) w fun t31 w =>
  m32_7 R t31 w
def m32_5 (R : VP) (u3 b4 k5 : Value) (w : World) : Prop :=
  valP Try.prog (convert 73 5 u3) w fun t26 w =>
  valP Try.prog (Instr.indexAt 96 b4 k5) w fun t27 w =>
  unitP Try.prog (Instr.storeAt 5 t27 t26) w fun _ w =>
  m32_6 R b4 k5 w
def m32_12 (R : VP) (K1 : (Value × Value) → World → Prop) (u3 b4 k5 t14 : Value) (w : World) : Prop :=
  condP t14
  (m32_9 R K1 u3 b4 k5 w)
  (m32_5 R u3 b4 k5 w)
def m32_8 (R : VP) (K1 : (Value × Value) → World → Prop) (u3 b4 k5 : Value) (w : World) : Prop :=
  valP Try.prog (binS BinOp.geq 73 (tm 13) (Operand.const (Value.int IntKind.u64 128)) u3 (Value.int IntKind.u64 128)) w fun t14 w =>
  m32_12 R K1 u3 b4 k5 t14 w
def m32_4 (R : VP) (u3 b4 k5 : Value) (w : World) : Prop :=
  loopP (fun (K1 : (Value × Value) → World → Prop) (s : Value × Value) w => m32_8 R K1 s.1 b4 s.2 w) (u3, k5) w
def m32_3 (R : VP) (u3 b4 : Value) (w : World) : Prop :=
  m32_4 R u3 b4 (vi 0) w
def m32_2 (R : VP) (u3 : Value) (w : World) : Prop :=
  valP Try.prog (Instr.alloc 96 true (.tuple #[])) w fun b4 w =>
  m32_3 R u3 b4 w
def m32_1 (R : VP) (n0 : Value) (w : World) : Prop :=
  valP Try.prog (convert 3 73 n0) w fun t7 w =>
  valP Try.prog (binS BinOp.shl 73 (tm 7) (Operand.const (Value.int IntKind.u64 1)) t7 (Value.int IntKind.u64 1)) w fun t8 w =>
  valP Try.prog (binS BinOp.shr 3 (tm 9) (Operand.const (Value.int IntKind.u64 63)) n0 (Value.int IntKind.u64 63)) w fun t10 w =>
  valP Try.prog (convert 3 73 t10) w fun t11 w =>
  valP Try.prog (binS BinOp.xor 73 (tm 8) (tm 11) t8 t11) w fun t12 w =>
  m32_2 R t12 w
def m32_0 (R : VP) (n0 : Value) (w : World) : Prop :=
  m32_1 R n0 w
abbrev W32 := cwp Try.prog (fun i => 0)
noncomputable def k32_0 := bodyOf Try.f32
noncomputable def k32_1 := c2 k32_0
noncomputable def k32_2 := c2 k32_1
noncomputable def k32_3 := c2 k32_2
noncomputable def k32_4 := c2 k32_3
noncomputable def k32_5 := c2 k32_4
noncomputable def k32_6 := c2 k32_5
noncomputable def k32_7 := c2 k32_6
noncomputable def k32_8 := c1 (c1 (c1 k32_4))
noncomputable def k32_9 := c2 k32_8
noncomputable def k32_10 := c2 k32_9
noncomputable def k32_11 := c2 (c1 (c1 k32_9))
noncomputable def k32_12 := c2 (c1 k32_8)
theorem s32_10 {K1 : (Value × Value) → World → Prop} (hN : ∀ e w, (K1 ((e 3), (e 5)) w) → Q .normal e w) (e : Env) (w : World) (h : m32_10 R K1 (e 3) (e 4) (e 5) w) : W32 k32_10 Q e w := by
  exact rgA 5 (fun e w => K1 ((e 3), (e 5)) w) h hN
theorem s32_11 {K1 : (Value × Value) → World → Prop} (hN : ∀ e w, (m32_10 R K1 (e 3) (e 4) (e 5) w) → Q .normal e w) (e : Env) (w : World) (h : m32_11 R K1 (e 3) (e 4) (e 5) w) : W32 k32_11 Q e w := by
  exact rgA 7 (fun e w => m32_10 R K1 (e 3) (e 4) (e 5) w) h hN
theorem s32_9 {K1 : (Value × Value) → World → Prop} (hN : ∀ e w, (K1 ((e 3), (e 5)) w) → Q .normal e w) (e : Env) (w : World) (h : m32_9 R K1 (e 3) (e 4) (e 5) w) : W32 k32_9 Q e w := by
  refine seA ?_
  have hN : ∀ e w, (m32_10 R K1 (e 3) (e 4) (e 5) w) → (thenE (W32 k32_10 Q) Q) .normal e w := fun e w h => then_N (s32_10 hN e w h)
  refine block_ok 1 (by kernel_rfl) ?_
  have hN : ∀ e w, (m32_10 R K1 (e 3) (e 4) (e 5) w) → (inBlockE 1 (thenE (W32 k32_10 Q) Q)) .normal e w := fun e w h => block_N (hN e w h)
  refine seA ?_
  exact rgA 6 (fun e w => m32_11 R K1 (e 3) (e 4) (e 5) w) h fun e w h => then_N (s32_11 (R := R) (Q := (inBlockE 1 (thenE (W32 k32_10 Q) Q))) hN e w h)
abbrev hR32 (R : VP) (Q : EQ) : Prop := ∀ e w, (R (e 2) w) → Q .ret e w
theorem s32_7 (hR : hR32 R Q) (e : Env) (w : World) (h : m32_7 R (e 2) w) : W32 k32_7 Q e w := by
  exact reA (hR _ _ h)
theorem s32_6 (hR : hR32 R Q) (e : Env) (w : World) (h : m32_6 R (e 4) (e 5) w) : W32 k32_6 Q e w := by
  refine seA ?_
  exact rgA 9 (fun e w => m32_7 R (e 2) w) h fun e w h => then_N (s32_7 hR e w h)
theorem s32_5 (hR : hR32 R Q) (e : Env) (w : World) (h : m32_5 R (e 3) (e 4) (e 5) w) : W32 k32_5 Q e w := by
  refine seA ?_
  exact rgA 8 (fun e w => m32_6 R (e 4) (e 5) w) h fun e w h => then_N (s32_6 hR e w h)
theorem s32_12 {K1 : (Value × Value) → World → Prop} (hN : ∀ e w, (m32_9 R K1 (e 3) (e 4) (e 5) w) → Q .normal e w) (hX0 : ∀ e w, (m32_5 R (e 3) (e 4) (e 5) w) → Q (.exit 0) e w) (e : Env) (w : World) (h : m32_12 R K1 (e 3) (e 4) (e 5) (e 14) w) : W32 k32_12 Q e w := by
  refine coA (Operand.tmp 14) h (fun h1 => ?_) (fun h1 => ?_)
  · exact skA (hN _ _ h1)
  · exact exA 0 (hX0 _ _ h1)
theorem s32_8 {K1 : (Value × Value) → World → Prop} (hN : ∀ e w, (K1 ((e 3), (e 5)) w) → Q .normal e w) (hX0 : ∀ e w, (m32_5 R (e 3) (e 4) (e 5) w) → Q (.exit 0) e w) (e : Env) (w : World) (h : m32_8 R K1 (e 3) (e 4) (e 5) w) : W32 k32_8 Q e w := by
  refine seA ?_
  have hN : ∀ e w, (m32_9 R K1 (e 3) (e 4) (e 5) w) → (thenE (W32 k32_9 Q) Q) .normal e w := fun e w h => then_N (s32_9 hN e w h)
  have hX0 : ∀ e w, (m32_5 R (e 3) (e 4) (e 5) w) → (thenE (W32 k32_9 Q) Q) (.exit 0) e w := fun e w h => then_X (hX0 e w h)
  refine seA ?_
  exact rgA 4 (fun e w => m32_12 R K1 (e 3) (e 4) (e 5) (e 14) w) h fun e w h => then_N (s32_12 hN hX0 e w h)
theorem s32_4 (hR : hR32 R Q) (e : Env) (w : World) (h : m32_4 R (e 3) (e 4) (e 5) w) : W32 k32_4 Q e w := by
  refine seA ?_
  have hN : ∀ e w, (m32_5 R (e 3) (e 4) (e 5) w) → (thenE (W32 k32_5 Q) Q) .normal e w := fun e w h => then_N (s32_5 hR e w h)
  refine block_ok 0 (by kernel_rfl) ?_
  have hX0 : ∀ e w, (m32_5 R (e 3) (e 4) (e 5) w) → (inBlockE 0 (thenE (W32 k32_5 Q) Q)) (.exit 0) e w := fun e w h => inBlock_same (Q := (thenE (W32 k32_5 Q) Q)) 0 (hN e w h)
  refine loop_ok' (fun (e : Env) => (e 3, e 5)) [4] (by kernel_rfl) (by kernel_rfl) h (fun K e' w' hk h' => ?_)
  have r4 : e' 4 = e 4 := hk 4 (by decide)
  have hX0 : ∀ e w, (m32_5 R (e 3) (e 4) (e 5) w) → (thenE (fun (e : Env) w => K ((e 3), (e 5)) w) (inBlockE 0 (thenE (W32 k32_5 Q) Q))) (.exit 0) e w := fun e w h => then_X (hX0 e w h)
  exact s32_8 (K1 := K) (fun _ _ h => then_N h) hX0 e' w' (by rw [r4]; exact h')
theorem s32_3 (hR : hR32 R Q) (e : Env) (w : World) (h : m32_3 R (e 3) (e 4) w) : W32 k32_3 Q e w := by
  refine seA ?_
  exact rgA 3 (fun e w => m32_4 R (e 3) (e 4) (e 5) w) h fun e w h => then_N (s32_4 hR e w h)
theorem s32_2 (hR : hR32 R Q) (e : Env) (w : World) (h : m32_2 R (e 3) w) : W32 k32_2 Q e w := by
  refine seA ?_
  exact rgA 2 (fun e w => m32_3 R (e 3) (e 4) w) h fun e w h => then_N (s32_3 hR e w h)
theorem s32_1 (hR : hR32 R Q) (e : Env) (w : World) (h : m32_1 R (e 0) w) : W32 k32_1 Q e w := by
  refine seA ?_
  exact rgA 1 (fun e w => m32_2 R (e 3) w) h fun e w h => then_N (s32_2 hR e w h)
theorem s32_0 (hR : hR32 R Q) (e : Env) (w : World) (h : m32_0 R (e 0) w) : W32 k32_0 Q e w := by
  refine seA ?_
  exact rgA 0 (fun e w => m32_1 R (e 0) w) h fun e w h => then_N (s32_1 hR e w h)
abbrev m32 (R : VP) (n0 : Value) (w : World) : Prop := m32_0 R n0 w
theorem s32 (n0 : Value) {R : VP} {w : World} (h : m32 R n0 w) :
    Calls Try.prog 32 #[n0] w fun e w' => ∃ v, e = .returned v ∧ R v w' :=
  calls_of_cwp (st := (fun i => 0)) (c := k32_0) (by kernel_rfl) Try.func32 (by kernel_rfl) (Nat.le_of_ble_eq_true (by kernel_rfl)) (by kernel_rfl)
    (s32_0 (R := R) (Q := endE Try.prog Try.f32 R) (fun e w h => kcast (by kernel_rfl) h) (argsE #[n0]) w (kcast (by kernel_rfl) h))
def m18_6 (R : VP) (t2 t3 : Value) (w : World) : Prop :=
  valS Try.prog (loadC 46 t2) w fun r0 =>
  R (Value.tuple #[r0, t3]) w
def m18_8 (R : VP) (t2 t3 : Value) (w : World) : Prop :=
  valS Try.prog (loadC 46 t2) w fun r0 =>
  R (Value.tuple #[r0, t3]) w
def m18_4 (R : VP) (t2 t3 : Value) (w : World) : Prop :=
  valS Try.prog (loadC 46 t2) w fun r0 =>
  R (Value.tuple #[r0, t3]) w
def m18_3 (R : VP) (r1 t2 : Value) (w : World) : Prop :=
  valP Try.prog (Instr.fieldAt 46 r1 0) w fun t30 w =>
  valP Try.prog (Instr.loadAt 3 t30) w fun t31 w =>
  valP Try.prog (Instr.fieldAt 46 r1 1) w fun t32 w =>
  valP Try.prog (Instr.loadAt 3 t32) w fun t33 w =>
  valP Try.prog (Instr.build 46 #[(0, t31), (1, t33)]) w fun t34 w =>
  unitP Try.prog (Instr.storeAt 46 t2 t34) w fun _ w =>
  m18_4 R t2 (Value.bool true) w
def m18_7 (R : VP) (r1 t2 t26 : Value) (w : World) : Prop :=
  condP t26
  (valP Try.prog (Instr.build 46 #[(2, (Value.string ⟨#[99, 111, 117, 110, 116, 115]⟩))]) w fun t29 w =>
  unitP Try.prog (Instr.storeAt 46 t2 t29) w fun _ w =>
  m18_8 R t2 (Value.bool true) w)
  (m18_3 R r1 t2 w)
def m18_5 (R : VP) (r1 t2 sort4 t14 : Value) (w : World) : Prop :=
  condP t14
  (valP Try.prog (Instr.build 46 #[]) w fun t25 w =>
  unitP Try.prog (Instr.storeAt 46 t2 t25) w fun _ w =>
  m18_6 R t2 (Value.bool false) w)
  (valP Try.prog (binS BinOp.eql 3 (tm 27) (ci 0) sort4 (vi 0)) w fun t28 w =>
  m18_7 R r1 t2 t28 w)
def m18_2 (R : VP) (r1 t2 sort4 e6 : Value) (w : World) : Prop :=
  valP Try.prog (binS BinOp.neq 35 (tm 15) (ci 0) e6 (vi 0)) w fun t16 w =>
  condP t16
  (pickP t16 (Value.bool true) undef fun t20 =>
  condP t20
  (pickP t20 (Value.bool true) undef fun t24 =>
  m18_5 R r1 t2 sort4 t24 w)
  (valP Try.prog (binS BinOp.gtr 3 (tm 22) (ci 2) sort4 (vi 2)) w fun t23 w =>
  pickP t20 (Value.bool true) t23 fun t24 =>
  m18_5 R r1 t2 sort4 t24 w))
  (valP Try.prog (binS BinOp.lss 3 (tm 18) (ci 0) sort4 (vi 0)) w fun t19 w =>
  pickP t16 (Value.bool true) t19 fun t20 =>
  condP t20
  (pickP t20 (Value.bool true) undef fun t24 =>
  m18_5 R r1 t2 sort4 t24 w)
  (valP Try.prog (binS BinOp.gtr 3 (tm 22) (ci 2) sort4 (vi 2)) w fun t23 w =>
  pickP t20 (Value.bool true) t23 fun t24 =>
  m18_5 R r1 t2 sort4 t24 w))
def m18_1 (R : VP) (r1 t2 : Value) (w : World) : Prop :=
  valP Try.prog (Instr.fieldAt 46 r1 2) w fun t8 w =>
  valP Try.prog (Instr.loadAt 9 t8) w fun t9 w =>
  callP Try.prog (fnV 31) #[t9] w fun t10 w =>
  valP Try.prog (Instr.extract t10 0) w fun t11 w =>
  valP Try.prog (Instr.extract t10 1) w fun t12 w =>
  valP Try.prog (Instr.extract t10 2) w fun t13 w =>
  m18_2 R r1 t2 t11 t13 w
def m18_0 (R : VP) (r0 : Value) (w : World) : Prop :=
  valP Try.prog (Instr.box 46 r0) w fun r1 w =>
  valP Try.prog (Instr.alloc 46 true (.tuple #[])) w fun t2 w =>
  m18_1 R r1 t2 w
abbrev W18 := cwp Try.prog (fun i => 0)
noncomputable def k18_0 := bodyOf Try.f18
noncomputable def k18_1 := c2 k18_0
noncomputable def k18_2 := c2 k18_1
noncomputable def k18_3 := c2 k18_2
noncomputable def k18_4 := c2 k18_3
noncomputable def k18_5 := c2 (c1 (c1 k18_2))
noncomputable def k18_6 := c2 (c1 k18_5)
noncomputable def k18_7 := c2 (c2 k18_5)
noncomputable def k18_8 := c2 (c1 k18_7)
abbrev hR18 (R : VP) (Q : EQ) : Prop := ∀ e w, (valS Try.prog (loadC 46 (e 2)) w fun r0 =>
R (Value.tuple #[r0, (e 3)]) w) → Q .ret e w
theorem s18_6 (hR : hR18 R Q) (e : Env) (w : World) (h : m18_6 R (e 2) (e 3) w) : W18 k18_6 Q e w := by
  exact reA (hR _ _ h)
theorem s18_8 (hR : hR18 R Q) (e : Env) (w : World) (h : m18_8 R (e 2) (e 3) w) : W18 k18_8 Q e w := by
  exact reA (hR _ _ h)
theorem s18_4 (hR : hR18 R Q) (e : Env) (w : World) (h : m18_4 R (e 2) (e 3) w) : W18 k18_4 Q e w := by
  exact reA (hR _ _ h)
theorem s18_3 (hR : hR18 R Q) (e : Env) (w : World) (h : m18_3 R (e 1) (e 2) w) : W18 k18_3 Q e w := by
  refine seA ?_
  exact rgA 6 (fun e w => m18_4 R (e 2) (e 3) w) h fun e w h => then_N (s18_4 hR e w h)
theorem s18_7 (hN : ∀ e w, (m18_3 R (e 1) (e 2) w) → Q .normal e w) (hR : hR18 R Q) (e : Env) (w : World) (h : m18_7 R (e 1) (e 2) (e 26) w) : W18 k18_7 Q e w := by
  refine coA (Operand.tmp 26) h (fun h1 => ?_) (fun h1 => ?_)
  · refine seA ?_
    exact rgA 5 (fun e w => m18_8 R (e 2) (e 3) w) h1 fun e w h => then_N (s18_8 hR e w h)
  · exact skA (hN _ _ h1)
theorem s18_5 (hN : ∀ e w, (m18_3 R (e 1) (e 2) w) → Q .normal e w) (hR : hR18 R Q) (e : Env) (w : World) (h : m18_5 R (e 1) (e 2) (e 4) (e 14) w) : W18 k18_5 Q e w := by
  refine coA (Operand.tmp 14) h (fun h1 => ?_) (fun h1 => ?_)
  · refine seA ?_
    exact rgA 3 (fun e w => m18_6 R (e 2) (e 3) w) h1 fun e w h => then_N (s18_6 hR e w h)
  · refine seA ?_
    exact rgA 4 (fun e w => m18_7 R (e 1) (e 2) (e 26) w) h1 fun e w h => then_N (s18_7 hN hR e w h)
theorem s18_2 (hR : hR18 R Q) (e : Env) (w : World) (h : m18_2 R (e 1) (e 2) (e 4) (e 6) w) : W18 k18_2 Q e w := by
  refine seA ?_
  have hN : ∀ e w, (m18_3 R (e 1) (e 2) w) → (thenE (W18 k18_3 Q) Q) .normal e w := fun e w h => then_N (s18_3 hR e w h)
  have hR : ∀ e w, (valS Try.prog (loadC 46 (e 2)) w fun r0 =>
  R (Value.tuple #[r0, (e 3)]) w) → (thenE (W18 k18_3 Q) Q) .ret e w := fun e w h => then_R (hR e w h)
  refine block_ok 0 (by kernel_rfl) ?_
  have hN : ∀ e w, (m18_3 R (e 1) (e 2) w) → (inBlockE 0 (thenE (W18 k18_3 Q) Q)) .normal e w := fun e w h => block_N (hN e w h)
  have hR : ∀ e w, (valS Try.prog (loadC 46 (e 2)) w fun r0 =>
  R (Value.tuple #[r0, (e 3)]) w) → (inBlockE 0 (thenE (W18 k18_3 Q) Q)) .ret e w := fun e w h => block_R (hR e w h)
  refine seA ?_
  exact rgA 2 (fun e w => m18_5 R (e 1) (e 2) (e 4) (e 14) w) h fun e w h => then_N (s18_5 (R := R) (Q := (inBlockE 0 (thenE (W18 k18_3 Q) Q))) hN hR e w h)
theorem s18_1 (hR : hR18 R Q) (e : Env) (w : World) (h : m18_1 R (e 1) (e 2) w) : W18 k18_1 Q e w := by
  refine seA ?_
  exact rgA 1 (fun e w => m18_2 R (e 1) (e 2) (e 4) (e 6) w) h fun e w h => then_N (s18_2 hR e w h)
theorem s18_0 (hR : hR18 R Q) (e : Env) (w : World) (h : m18_0 R (e 0) w) : W18 k18_0 Q e w := by
  refine seA ?_
  exact rgA 0 (fun e w => m18_1 R (e 1) (e 2) w) h fun e w h => then_N (s18_1 hR e w h)
abbrev m18 (R : VP) (r0 : Value) (w : World) : Prop := m18_0 R r0 w
theorem s18 (r0 : Value) {R : VP} {w : World} (h : m18 R r0 w) :
    Calls Try.prog 18 #[r0] w fun e w' => ∃ v, e = .returned v ∧ R v w' :=
  calls_of_cwp (st := (fun i => 0)) (c := k18_0) (by kernel_rfl) Try.func18 (by kernel_rfl) (Nat.le_of_ble_eq_true (by kernel_rfl)) (by kernel_rfl)
    (s18_0 (R := R) (Q := endE Try.prog Try.f18 R) (fun e w h => kcast (by kernel_rfl) h) (argsE #[r0]) w (kcast (by kernel_rfl) h))
def m19_2 (R : VP) (t2 : Value) (w : World) : Prop :=
  R t2 w
def m19_1 (R : VP) (r1 : Value) (w : World) : Prop :=
  anyDraw w fun w =>
  heldP w fun J =>
  valJ Try.prog J (Instr.fieldAt 46 r1 2) fun t3 =>
  valJ Try.prog J (Instr.loadAt 9 t3) fun t4 =>
  callP Try.prog (fnV 32) #[(vi 2)] w fun t5 w =>
  stayP J w
  (valJ Try.prog J (binS BinOp.eql 9 (tm 4) (tm 5) t4 t5) fun t6 =>
  m19_2 R t6 w)
def m19_0 (R : VP) (r0 : Value) (w : World) : Prop :=
  valP Try.prog (Instr.box 46 r0) w fun r1 w =>
  m19_1 R r1 w
abbrev W19 := cwp Try.prog (fun i => 0)
noncomputable def k19_0 := bodyOf Try.f19
noncomputable def k19_1 := c2 k19_0
noncomputable def k19_2 := c2 k19_1
abbrev hR19 (R : VP) (Q : EQ) : Prop := ∀ e w, (R (e 2) w) → Q .ret e w
theorem s19_2 (hR : hR19 R Q) (e : Env) (w : World) (h : m19_2 R (e 2) w) : W19 k19_2 Q e w := by
  exact reA (hR _ _ h)
theorem s19_1 (hR : hR19 R Q) (e : Env) (w : World) (h : m19_1 R (e 1) w) : W19 k19_1 Q e w := by
  refine seA ?_
  have hN : ∀ e w, (m19_2 R (e 2) w) → (thenE (W19 k19_2 Q) Q) .normal e w := fun e w h => then_N (s19_2 hR e w h)
  exact treeJ_ok 1 5 (bt 5 0) (.take 0 (bt 5 1) (.take 1 (bt 5 3) (.alt 2 (bt 5 7) (.take 3 (bt 5 15) (.take 4 (bt 5 31) .done)) .stop))) (fun e w => m19_2 R (e 2) w) (by kernel_rfl) (by kernel_rfl) (by kernel_rfl) (by kernel_rfl) (by kernel_rfl) (by kernel_rfl) (kcast (by kernel_rfl) h) hN (by kernel_rfl)
theorem s19_0 (hR : hR19 R Q) (e : Env) (w : World) (h : m19_0 R (e 0) w) : W19 k19_0 Q e w := by
  refine seA ?_
  exact rgA 0 (fun e w => m19_1 R (e 1) w) h fun e w h => then_N (s19_1 hR e w h)
abbrev m19 (R : VP) (r0 : Value) (w : World) : Prop := m19_0 R r0 w
theorem s19 (r0 : Value) {R : VP} {w : World} (h : m19 R r0 w) :
    Calls Try.prog 19 #[r0] w fun e w' => ∃ v, e = .returned v ∧ R v w' :=
  calls_of_cwp (st := (fun i => 0)) (c := k19_0) (by kernel_rfl) Try.func19 (by kernel_rfl) (Nat.le_of_ble_eq_true (by kernel_rfl)) (by kernel_rfl)
    (s19_0 (R := R) (Q := endE Try.prog Try.f19 R) (fun e w h => kcast (by kernel_rfl) h) (argsE #[r0]) w (kcast (by kernel_rfl) h))
end Go.Proofs.Ytnhgdngbdoifnaa.M
namespace Go.Proofs.Ytnhgdngbdoifnaa.M
open Go.Proofs.Ytnhgdngbdoifnaa.F Go.RowKit
set_option linter.unusedVariables false
set_option linter.unusedSimpArgs false
set_option maxRecDepth 100000
set_option maxHeartbeats 2000000
attribute [local irreducible] Res.cells Res.row Res.map Res.any World.cell? World.frozen? Instr.fieldAt Instr.loadAt Instr.storeAt Instr.indexAt Instr.lookup Instr.mapUpdate Instr.box Instr.build Instr.buildSlice Instr.extract Instr.alloc Instr.field Instr.index Instr.sliceAt Instr.makeSlice Instr.makeMap Instr.makeFunc binS Op.unary Sem.run
theorem wrap64_eq (n : Int) : IntKind.i64.wrap n = wrap64 n := by
  rw [IntKind.wrap_i64, wrap64]
abbrev noV : Value := .tuple #[.int .i64 0, .string ⟨#[]⟩, .int .i64 2]
def tkV (s : ByteArray) : Value := match takeS s with
  | none => noV
  | some (n, r) => .tuple #[.int .i64 n, .string r, .int .i64 0]
theorem strN_drop (s : ByteArray) (j : Nat) : strN ((bytesN s).drop j) = s.extract j s.size := by
  refine bytesN_inj ?_
  rw [bytesN_strN (fun b hb => bytesN_lt s b (List.mem_of_mem_drop hb)), bytesN_drop]
theorem takeS_none {s : ByteArray} (h : vT 0 0 (bytesN s) = none) : takeS s = none := by
  unfold takeS
  rw [h]
  rfl
theorem takeS_some {s : ByteArray} {v : Nat} {j : Nat} (h : vT 0 0 (bytesN s) = some (v, (bytesN s).drop j)) : takeS s = some (unz v, s.extract j s.size) := by
  unfold takeS
  rw [h]
  simp only [Option.map_some]
  rw [strN_drop]
def TkInv (s : ByteArray) (x : Int) (k : Nat) : Prop := k ≤ s.size ∧ ((k = 10 ∧ vT 0 0 (bytesN s) = none) ∨ ∃ a : Nat, x = (a : Int) ∧ a < 2 ^ (7 * k) ∧ k ≤ 9 ∧ vT k a ((bytesN s).drop k) = vT 0 0 (bytesN s))
theorem TkInv.le {s : ByteArray} {x : Int} {k : Nat} (h : TkInv s x k) : k ≤ 10 := by
  rcases h.2 with h | ⟨_, _, _, h, _⟩ <;> omega
theorem TkInv.stop {s : ByteArray} {x : Int} {k : Nat} (h : TkInv s x k) (hk : k = s.size ∨ k = 10) : takeS s = none := by
  rcases h.2 with h2 | ⟨a, rfl, ha, h9, e⟩
  · exact takeS_none h2.2
  · refine takeS_none (e ▸ ?_)
    have hd : (bytesN s).drop k = [] := List.drop_eq_nil_of_le (by rw [bytesN_length]; omega)
    rw [hd]
    rfl
theorem TkInv.at {s : ByteArray} {x : Int} {k : Nat} (h : TkInv s x k) (h10 : ¬ k = 10) (hk : k < s.size) : ∃ a : Nat, x = (a : Int) ∧ a < 2 ^ (7 * k) ∧ k ≤ 9 ∧
    (if 128 ≤ s[k].toNat then vT (k + 1) (a + (s[k].toNat - 128) * 2 ^ (7 * k)) ((bytesN s).drop (k + 1)) else if (0 < k ∧ s[k].toNat = 0) ∨ (k = 9 ∧ 1 < s[k].toNat) then none else some (a + s[k].toNat * 2 ^ (7 * k), (bytesN s).drop (k + 1))) = vT 0 0 (bytesN s) := by
  rcases h.2 with h2 | ⟨a, rfl, ha, h9, e⟩
  · omega
  · refine ⟨a, rfl, ha, h9, ?_⟩
    rw [← e, List.drop_eq_getElem_cons (l := bytesN s) (i := k) (by rw [bytesN_length]; exact hk), bytesN_get s k hk]
    simp only [vT]
    rw [if_neg (by omega : ¬ 10 ≤ k)]
theorem TkInv.next {s : ByteArray} {x : Int} {k : Nat} (h : TkInv s x k) (h10 : ¬ k = 10) (hk : k < s.size) (hc : 128 ≤ s[k].toNat) : TkInv s (nextU x s[k].toNat k) (k + 1) := by
  obtain ⟨a, rfl, ha, h9, e⟩ := h.at h10 hk
  rw [if_pos hc] at e
  have hlt := bytesN_lt s _ (List.getElem_mem (l := bytesN s) (n := k) (by rw [bytesN_length]; exact hk))
  rw [bytesN_get s k hk] at hlt
  refine ⟨hk, ?_⟩
  rcases Nat.lt_or_ge k 9 with g | g
  · have hn := nextU_eq a s[k].toNat k (by omega) ha hlt (by omega)
    have e1 : s[k].toNat % 128 = s[k].toNat - 128 := by omega
    refine .inr ⟨_, hn, ?_, by omega, by rw [e1]; exact e⟩
    rw [e1, pow7]
    have h127 : s[k].toNat - 128 ≤ 127 := by omega
    have hm : (s[k].toNat - 128) * 2 ^ (7 * k) ≤ 127 * 2 ^ (7 * k) := Nat.mul_le_mul h127 (Nat.le_refl _)
    generalize 2 ^ (7 * k) = z at *
    omega
  · obtain rfl : k = 9 := by omega
    exact .inl ⟨rfl, e.symm.trans (vT_ten _ _)⟩
theorem TkInv.bad {s : ByteArray} {x : Int} {k : Nat} (h : TkInv s x k) (h10 : ¬ k = 10) (hk : k < s.size) (hc : ¬ 128 ≤ s[k].toNat) (hb : (0 < k ∧ s[k].toNat = 0) ∨ (k = 9 ∧ 1 < s[k].toNat)) : takeS s = none := by
  obtain ⟨a, rfl, ha, h9, e⟩ := h.at h10 hk
  rw [if_neg hc, if_pos hb] at e
  exact takeS_none e.symm
theorem TkInv.good {s : ByteArray} {x : Int} {k : Nat} (h : TkInv s x k) (h10 : ¬ k = 10) (hk : k < s.size) (hc : ¬ 128 ≤ s[k].toNat) (hb : ¬ ((0 < k ∧ s[k].toNat = 0) ∨ (k = 9 ∧ 1 < s[k].toNat))) : takeS s = some (unzI (nextU x s[k].toNat k), s.extract (k + 1) s.size) := by
  obtain ⟨a, rfl, ha, h9, e⟩ := h.at h10 hk
  rw [if_neg hc, if_neg hb] at e
  have hn := nextU_eq a s[k].toNat k h9 ha (by omega) (fun e => by omega)
  rw [hn, show s[k].toNat % 128 = s[k].toNat by omega, unzI_eq]
  · exact takeS_some e.symm
  · rcases Nat.lt_or_ge k 9 with g | g
    · have h1 := Nat.pow_le_pow_right (n := 2) (by decide) (show 7 * k ≤ 56 by omega)
      have h127 : s[k].toNat ≤ 127 := by omega
      have hm : s[k].toNat * 2 ^ (7 * k) ≤ 127 * 2 ^ (7 * k) := Nat.mul_le_mul h127 (Nat.le_refl _)
      generalize 2 ^ (7 * k) = z at *
      omega
    · obtain rfl : k = 9 := by omega
      have h1' : s[9].toNat ≤ 1 := by omega
      have hm : s[9].toNat * 2 ^ (7 * 9) ≤ 1 * 2 ^ (7 * 9) := Nat.mul_le_mul h1' (Nat.le_refl _)
      omega
section
variable {w0 w : World} {F : List Nat} {L : List Res} {s : ByteArray}
theorem take_ret (hS : St w0 F w L) : Ret Try.prog 31 #[.string s] w fun v w' => v = tkV s ∧ St w0 F w' L := by
  refine s31 _ ?_
  unfold m31 m31_0 m31_1 m31_2 m31_3
  refine loop_in (fun u w' => ∃ (x : Int) (k : Nat), u = (.int .u64 x, .int .i64 (k : Int)) ∧ TkInv s x k ∧ St w0 F w' L) (fun u _ => 10 - (intOf u.2).toNat) ⟨0, 0, rfl, ⟨by omega, .inr ⟨0, rfl, by decide, by omega, rfl⟩⟩, hS⟩ ?_
  clear hS
  rintro u w ⟨x, k, rfl, hI, hS⟩
  simp only
  have hk := hI.1
  have hk10 := hI.le
  have bad : ∀ K1 w, takeS s = none → St w0 F w L → m31_16 (fun v w' => v = tkV s ∧ St w0 F w' L) K1 (.int .i64 0) (.string ⟨#[]⟩) (.int .i64 2) w := fun K1 w h hS => by
    unfold m31_16
    refine ⟨?_, hS⟩
    unfold tkV
    rw [h]
  unfold m31_4
  refine builtin_ok (len9 _) ?_
  refine valP_ok (eq3 _ _ _ _ _) ?_
  refine cond_split (fun h => ?_) (fun h => ?_)
  · first | refine pick_dt (by first | assumption | omega) ?_ | refine pick_df (by first | assumption | omega) ?_ | refine pick_t (by first | rfl | assumption) ?_ | refine pick_f (by first | rfl | assumption) ?_ | refine pick_dt rfl ?_ | refine pick_df (not_not_intro rfl) ?_
    unfold m31_15
    refine cond_t rfl ?_
    exact bad _ _ (hI.stop (.inl (by omega))) hS
  · refine valP_ok (eq3 _ _ _ _ _) ?_
    first | refine pick_dt (by first | assumption | omega) ?_ | refine pick_df (by first | assumption | omega) ?_ | refine pick_t (by first | rfl | assumption) ?_ | refine pick_f (by first | rfl | assumption) ?_ | refine pick_dt rfl ?_ | refine pick_df (not_not_intro rfl) ?_
    unfold m31_15
    refine cond_split (fun h1 => ?_) (fun h1 => ?_)
    · exact bad _ _ (hI.stop (.inr (by omega))) hS
    · have hlt : k < s.size := by omega
      have h10 : ¬ k = 10 := by omega
      unfold m31_5
      refine valP_ok (sidx _ hlt) ?_
      unfold m31_6
      refine valP_ok (and8 _ _ _ _ _) ?_
      refine valP_ok (cv8_64 _ _) ?_
      refine valP_ok (mul_ok _ _ _ (by omega) (by omega) _) ?_
      rw [show 7 * (k : Int) = ((7 * k : Nat) : Int) by omega]
      refine valP_ok (shl64 _ _ _ _ (by omega)) ?_
      refine valP_ok (or64 _ _ _ _ _) ?_
      show m31_7 _ _ _ (.int .u64 (nextU x s[k].toNat k)) _ _ _
      unfold m31_7
      refine valP_ok (add_ok _ _ _ (by omega) (by omega) _) ?_
      unfold m31_8
      refine valP_ok (geq_ok _ _ _ _ _ _ _) ?_
      unfold m31_14
      refine cond_split (fun h2 => ?_) (fun h2 => ?_)
      · exact ⟨⟨_, k + 1, rfl, hI.next h10 hlt (by omega), hS⟩, by simp [intOf]; omega⟩
      · have leaf : ∀ t : Bool, (t = true ↔ ((0 < k ∧ s[k].toNat = 0) ∨ (k = 9 ∧ 1 < s[k].toNat))) → ∀ K1, m31_12 (fun v w' => v = tkV s ∧ St w0 F w' L) K1 (.string s) (.int .u64 (nextU x s[k].toNat k)) (.int .i64 ((k : Int) + 1)) (.bool t) w := fun t ht K1 => by
          unfold m31_12
          cases t with
          | true =>
            refine cond_t rfl ?_
            exact bad K1 _ (hI.bad h10 hlt (by omega) (ht.1 rfl)) hS
          | false =>
            have hb : ¬ ((0 < k ∧ s[k].toNat = 0) ∨ (k = 9 ∧ 1 < s[k].toNat)) := fun h => by have := ht.2 h; cases this
            refine cond_f rfl ?_
            unfold m31_10
            refine valQ_ok (shr1 _ _ · _) ?_
            refine valQ_ok (cv64_i · _) ?_
            refine valQ_ok (and64 _ _ · _ _) ?_
            refine valQ_ok (cv64_i · _) ?_
            refine valQ_ok (negI · _) ?_
            refine valQ_ok (xorI _ _ · _ _) ?_
            rw [show (k : Int) + 1 = ((k + 1 : Nat) : Int) by omega]
            refine valQ_ok (fun w => sfrom w (by omega)) ?_
            refine drawn_ok hS ?_
            intro w hS
            unfold m31_11
            refine ⟨?_, hS⟩
            unfold tkV
            rw [hI.good h10 hlt (by omega) hb]
            simp only [unzI, wrap64_eq]
        unfold m31_9
        refine valP_ok (gtr_ok _ _ _ _ _ _ _) ?_
        first | refine cond_split (fun hc0 => ?_) (fun hc0 => ?_) | refine cond_bsplit (fun hc0 => ?_) (fun hc0 => ?_)
        · refine valP_ok (eq5 _ _ _ _ _) ?_
          first | refine pick_dt (by first | assumption | omega) ?_ | refine pick_df (by first | assumption | omega) ?_ | refine pick_t (by first | rfl | assumption) ?_ | refine pick_f (by first | rfl | assumption) ?_ | refine pick_dt rfl ?_ | refine pick_df (not_not_intro rfl) ?_
          first | refine cond_split (fun hc1 => ?_) (fun hc1 => ?_) | refine cond_bsplit (fun hc1 => ?_) (fun hc1 => ?_)
          · first | refine pick_dt (by first | assumption | omega) ?_ | refine pick_df (by first | assumption | omega) ?_ | refine pick_t (by first | rfl | assumption) ?_ | refine pick_f (by first | rfl | assumption) ?_ | refine pick_dt rfl ?_ | refine pick_df (not_not_intro rfl) ?_
            exact leaf _ (by simp only [decide_eq_true_eq, Bool.false_eq_true, false_iff, true_iff] <;> first | contradiction | omega) _
          · refine valP_ok (eq3 _ _ _ _ _) ?_
            first | refine cond_split (fun hc2 => ?_) (fun hc2 => ?_) | refine cond_bsplit (fun hc2 => ?_) (fun hc2 => ?_)
            · refine valP_ok (gtr_ok _ _ _ _ _ _ _) ?_
              first | refine pick_dt (by first | assumption | omega) ?_ | refine pick_df (by first | assumption | omega) ?_ | refine pick_t (by first | rfl | assumption) ?_ | refine pick_f (by first | rfl | assumption) ?_ | refine pick_dt rfl ?_ | refine pick_df (not_not_intro rfl) ?_
              first | refine pick_dt (by first | assumption | omega) ?_ | refine pick_df (by first | assumption | omega) ?_ | refine pick_t (by first | rfl | assumption) ?_ | refine pick_f (by first | rfl | assumption) ?_ | refine pick_dt rfl ?_ | refine pick_df (not_not_intro rfl) ?_
              exact leaf _ (by simp only [decide_eq_true_eq, Bool.false_eq_true, false_iff, true_iff] <;> first | contradiction | omega) _
            · first | refine pick_dt (by first | assumption | omega) ?_ | refine pick_df (by first | assumption | omega) ?_ | refine pick_t (by first | rfl | assumption) ?_ | refine pick_f (by first | rfl | assumption) ?_ | refine pick_dt rfl ?_ | refine pick_df (not_not_intro rfl) ?_
              first | refine pick_dt (by first | assumption | omega) ?_ | refine pick_df (by first | assumption | omega) ?_ | refine pick_t (by first | rfl | assumption) ?_ | refine pick_f (by first | rfl | assumption) ?_ | refine pick_dt rfl ?_ | refine pick_df (not_not_intro rfl) ?_
              exact leaf _ (by simp only [decide_eq_true_eq, Bool.false_eq_true, false_iff, true_iff] <;> first | contradiction | omega) _
        · first | refine pick_dt (by first | assumption | omega) ?_ | refine pick_df (by first | assumption | omega) ?_ | refine pick_t (by first | rfl | assumption) ?_ | refine pick_f (by first | rfl | assumption) ?_ | refine pick_dt rfl ?_ | refine pick_df (not_not_intro rfl) ?_
          first | refine cond_split (fun hc1 => ?_) (fun hc1 => ?_) | refine cond_bsplit (fun hc1 => ?_) (fun hc1 => ?_)
          · first | refine pick_dt (by first | assumption | omega) ?_ | refine pick_df (by first | assumption | omega) ?_ | refine pick_t (by first | rfl | assumption) ?_ | refine pick_f (by first | rfl | assumption) ?_ | refine pick_dt rfl ?_ | refine pick_df (not_not_intro rfl) ?_
            exact leaf _ (by simp only [decide_eq_true_eq, Bool.false_eq_true, false_iff, true_iff] <;> first | contradiction | omega) _
          · refine valP_ok (eq3 _ _ _ _ _) ?_
            first | refine cond_split (fun hc2 => ?_) (fun hc2 => ?_) | refine cond_bsplit (fun hc2 => ?_) (fun hc2 => ?_)
            · refine valP_ok (gtr_ok _ _ _ _ _ _ _) ?_
              first | refine pick_dt (by first | assumption | omega) ?_ | refine pick_df (by first | assumption | omega) ?_ | refine pick_t (by first | rfl | assumption) ?_ | refine pick_f (by first | rfl | assumption) ?_ | refine pick_dt rfl ?_ | refine pick_df (not_not_intro rfl) ?_
              first | refine pick_dt (by first | assumption | omega) ?_ | refine pick_df (by first | assumption | omega) ?_ | refine pick_t (by first | rfl | assumption) ?_ | refine pick_f (by first | rfl | assumption) ?_ | refine pick_dt rfl ?_ | refine pick_df (not_not_intro rfl) ?_
              exact leaf _ (by simp only [decide_eq_true_eq, Bool.false_eq_true, false_iff, true_iff] <;> first | contradiction | omega) _
            · first | refine pick_dt (by first | assumption | omega) ?_ | refine pick_df (by first | assumption | omega) ?_ | refine pick_t (by first | rfl | assumption) ?_ | refine pick_f (by first | rfl | assumption) ?_ | refine pick_dt rfl ?_ | refine pick_df (not_not_intro rfl) ?_
              first | refine pick_dt (by first | assumption | omega) ?_ | refine pick_df (by first | assumption | omega) ?_ | refine pick_t (by first | rfl | assumption) ?_ | refine pick_f (by first | rfl | assumption) ?_ | refine pick_dt rfl ?_ | refine pick_df (not_not_intro rfl) ?_
              exact leaf _ (by simp only [decide_eq_true_eq, Bool.false_eq_true, false_iff, true_iff] <;> first | contradiction | omega) _
end
end Go.Proofs.Ytnhgdngbdoifnaa.M
namespace Go.Proofs.Ytnhgdngbdoifnaa.F
set_option linter.unusedVariables false
set_option linter.unusedSimpArgs false
open Go Go.RowKit Go.ChangeShapes Go.WideShapes
section
variable {H : Type} {en : TypeId × Value → H} {P : Program} {w : World}
theorem list_of {α β : Type} {p : β → α → Prop} : ∀ (l : List β), (∀ y ∈ l, ∃ x, p y x) → ∃ m : List α, m.length = l.length ∧ ∀ (i : Nat) (h : i < l.length) (h' : i < m.length), p l[i] m[i]
  | [], _ => ⟨[], rfl, fun i h => absurd h (Nat.not_lt_zero _)⟩
  | y :: l, h => by
    obtain ⟨x, hx⟩ := h y (.head _)
    obtain ⟨m, hm, hp⟩ := list_of l (fun y hy => h y (.tail _ hy))
    refine ⟨x :: m, by simp [hm], fun i h1 h2 => ?_⟩
    cases i with
    | zero => exact hx
    | succ i => exact hp i (by simpa using h1) (by simpa using h2)
theorem open_rowsE {α : Type} (enc : α → List Value) (Ok : α → Prop) {t e k : Nat} (hk0 : 0 < k) (ht : P.underlying t = some (.slice e)) (hk : P.cellsOf e = k)
    (hel : ∀ n cs y, DataW.trod en P w 0 (fun _ => true) true n e cs = some y → ∃ x, cs = enc x ∧ (enc x).length = k ∧ Ok x) {fuel : Nat} {cs : List Value} {x : DataW H × List MemPlace}
    (h : DataW.trod en P w 0 (fun _ => true) true fuel t cs = some x) : ∃ (A : Option Addr) (c : Nat) (l : List α), cs = [.slice A l.length c] ∧ l.length ≤ c ∧ (A = none → c = 0) ∧ Rd w k A l.length (l.flatMap enc) ∧ ∀ x ∈ l, Ok x := by
  rcases Go.Deep.open_slice ht h with ⟨rfl, _⟩ | ⟨a, len, cap, m, n, D, Pl, rfl, hb, hl, hm, hmm, _, hx⟩
  · exact ⟨none, 0, [], rfl, by simp, fun _ => rfl, Rd.nil_ _ _ _, by simp⟩
  · simp only [if_true] at hmm
    subst hmm
    rw [hk] at hx
    have hx' : ∀ i ∈ List.range len, ∃ x : α, Ok x ∧ (enc x).length = k ∧ ∀ j v, (enc x)[j]? = some v → w.cell? ((a.add (i * k)).add j) = some v := fun i hi => by
      have hi := List.mem_range.1 hi
      obtain ⟨cs', h1, h2⟩ := hx i (by omega)
      obtain ⟨x, rfl, hlen, hok⟩ := hel _ _ _ h2
      obtain ⟨_, _, hc⟩ := World.cells?_some h1
      refine ⟨x, hok, hlen, fun j v hj => ?_⟩
      rw [hc j (by obtain ⟨h, _⟩ := List.getElem?_eq_some_iff.1 hj; omega)]
      exact hj
    obtain ⟨l, hll, hp⟩ := list_of (List.range len) hx'
    rw [List.length_range] at hll
    have hlen : ∀ x ∈ l, (enc x).length = k := fun x hx => by
      obtain ⟨i, hi, rfl⟩ := List.mem_iff_getElem.1 hx
      exact (hp i (by simp; omega) hi).2.1
    have hfl : ∀ m : List α, (∀ x ∈ m, (enc x).length = k) → (m.flatMap enc).length = m.length * k := fun m => by
      induction m with
      | nil => intro _; simp
      | cons a m ih => intro h; rw [List.flatMap_cons, List.length_append, ih (fun x hx => h x (.tail _ hx)), h a (.head _), List.length_cons, Nat.succ_mul, Nat.add_comm]
    have hget : ∀ (m : List α), (∀ x ∈ m, (enc x).length = k) → ∀ q v, (m.flatMap enc)[q]? = some v → ∃ (i j : Nat) (h : i < m.length), q = i * k + j ∧ (enc m[i])[j]? = some v := fun m => by
      induction m with
      | nil => intro _ q v h; simp at h
      | cons a m ih =>
        intro h q v hq
        rw [List.flatMap_cons] at hq
        by_cases hqk : q < k
        · rw [List.getElem?_append_left (by rw [h a (.head _)]; exact hqk)] at hq
          exact ⟨0, q, by simp, by simp, hq⟩
        · rw [List.getElem?_append_right (by rw [h a (.head _)]; omega), h a (.head _)] at hq
          obtain ⟨i, j, hi, he, hv⟩ := ih (fun x hx => h x (.tail _ hx)) _ v hq
          exact ⟨i + 1, j, by simpa using hi, by rw [Nat.succ_mul]; omega, hv⟩
    refine ⟨some a, m, l, (by rw [hll]), (by omega), (fun h => (by cases h)), ⟨hfl l hlen, fun hp0 => ?_⟩, fun x hx => ?_⟩
    · have h0 : 0 < l.length := by
        rcases Nat.eq_zero_or_pos l.length with h | h
        · rw [List.eq_nil_of_length_eq_zero h] at hp0; simp at hp0
        · exact h
      obtain ⟨b, o, spot⟩ := a
      obtain ⟨cs', c1, _⟩ := hx 0 (by omega)
      obtain ⟨_, c2, c3⟩ := World.cells?_some c1
      have hv := c3 0 hk0
      rw [Nat.zero_mul, List.getElem?_eq_getElem (by omega)] at hv
      have hspot : spot = none := by simpa [Addr.add] using World.cell?_spot hv
      subst hspot
      refine ⟨b, o, rfl, fun q u hq => ?_⟩
      obtain ⟨i, j, hi, rfl, hv⟩ := hget l hlen q u hq
      have := (hp i (by simp; omega) hi).2.2 j u hv
      rw [List.getElem_range, add_none, add_none, Nat.add_assoc] at this
      exact this
    · obtain ⟨i, hi, rfl⟩ := List.mem_iff_getElem.1 hx
      exact (hp i (by simp; omega) hi).1
theorem open_structE {t : Nat} {fs : Array Field} (hs : P.underlying t = some (.struct fs)) {fuel : Nat} {cs : List Value} {x : DataW H × List MemPlace} (h : DataW.trod en P w 0 (fun _ => true) true fuel t cs = some x) :
    cs.length = P.cellsOf t ∧ ∀ (i ft off k : Nat), (fs[i]?).map (fun f => (f.type, f.offset)) = some (ft, off) → P.cellsOf ft = k → ∃ n y, DataW.trod en P w 0 (fun _ => true) true n ft ((cs.drop off).take k) = some y := by
  obtain ⟨xs, n, _, _, hl, hxl, hf⟩ := DataW.trod_struct hs h
  refine ⟨hl, fun i ft off k hi hk => ?_⟩
  cases hfi : fs[i]? with
  | none => rw [hfi] at hi; cases hi
  | some f =>
    rw [hfi] at hi
    simp only [Option.map_some, Option.some.injEq, Prod.mk.injEq] at hi
    obtain ⟨rfl, rfl⟩ := hi
    have h1 := hf i f hfi
    have hlt : i < xs.length := by rw [hxl]; exact (Array.getElem?_eq_some_iff.1 hfi).1
    rw [List.getElem?_eq_getElem hlt, hk] at h1
    exact ⟨n, _, h1⟩
end
def Sz {H : Type} (P : Program) (t : TypeId) (d : DataW H) : Prop := ∀ n ∈ d.weights P t, n ≤ reachBytes
section
variable {H : Type} {en : TypeId × Value → H} {P : Program} {w : World}
theorem Sz.string {t : TypeId} {s : ByteArray} (h : Sz P t (.lit (.string s.data.toList) : DataW H)) : s.size ≤ reachBytes := by
  have := h s.data.toList.length (by simp [DataW.weights])
  simpa using this
end
def Hs (w0 : World) (F : List Nat) (L : List Res) (w : World) : Prop := ∃ L', St w0 F w L' ∧ ∀ r ∈ L, r ∈ L'
section
variable {w0 w : World} {F : List Nat} {L L' : List Res}
theorem Hs.of (hS : St w0 F w L') (h : ∀ r ∈ L, r ∈ L') : Hs w0 F L w := ⟨L', hS, h⟩
theorem held_Hs {G : (World → Prop) → Prop} (hS : St w0 F w L) (h : G (Hs w0 F L)) : heldP w G := ⟨Hs w0 F L, ⟨L, hS, fun _ h => h⟩, h⟩
theorem stay_Hs {A : Prop} (hS : St w0 F w L') (hs : ∀ r ∈ L, r ∈ L') (h : A) : stayP (Hs w0 F L) w A := ⟨⟨L', hS, hs⟩, h⟩
theorem Hs.cell (k : Nat) {b i : Nat} {t : TypeId} {cs : List Value} {v : Value} (hk : L[k]? = some (Res.cells b t cs)) (hi : cs[i]? = some v) (w : World) (h : Hs w0 F L w) : w.cell? ⟨b, i, none⟩ = some v := by
  obtain ⟨L', hS, hL⟩ := h
  obtain ⟨j, hj⟩ := List.mem_iff_getElem?.1 (hL _ (List.mem_of_getElem? hk))
  exact hS.cell j hj hi
theorem Hs.row_cell (k : Nat) {e size g n c j : Nat} {xs : List Value} {u : Value} (hk : L[k]? = some (Res.row e size (.slice (some ⟨g, 0, none⟩) n c) n xs)) (hj : xs[j]? = some u) (w : World) (h : Hs w0 F L w) : w.cell? ⟨g, j, none⟩ = some u := by
  obtain ⟨L', hS, hL⟩ := h
  obtain ⟨i, hi⟩ := List.mem_iff_getElem?.1 (hL _ (List.mem_of_getElem? hk))
  exact hS.row_cell i hi hj
theorem Hs.rd {size n : Nat} {A : Option Addr} {xs : List Value} (hb : Bes w0 F L size A n xs) (w : World) (h : Hs w0 F L w) : Rd w size A n xs := by
  obtain ⟨L', hS, hL⟩ := h
  exact hb w L' hS hL
theorem Bes.cons {size n : Nat} {A : Option Addr} {xs : List Value} (h : Bes w0 F L size A n xs) (a : Res) : Bes w0 F (a :: L) size A n xs := h.mono fun r hr => .tail _ hr
end
theorem append_none_ok {P : Program} {w0 w : World} {F : List Nat} {L : List Res} {K : Value → World → Prop} (k : Nat) {t e ty size bytes n : Nat} {z : Value} {v : Value} {cs : Array Bool} {xs : List Value} (hT : SlT P t e size bytes z) (hS : St w0 F w L) (hk : L[k]? = some (Res.row e size v n xs))
    (h : K v w) : builtinP P .append #[t, t] ty cs #[v, .slice none 0 0] w K := by
  obtain ⟨i, hi, hz, hs, hb⟩ := hT.parts
  exact builtin_ok (append_run (run_append_owned_none w 0 t ty e i size hT.1 hi v n xs (hS.own_row k hk))) h
theorem append_anyS {α : Type} {enc : α → List Value} {P : Program} {w0 w : World} {F : List Nat} {L : List Res} {K : Value → World → Prop} (k : Nat) {t e ty size bytes c c0 : Nat} {z : Value} {cs : Array Bool} {A A0 : Option Addr} {l0 l : List α} (hT : SlT P t e size bytes z) (hk : ∀ x, (enc x).length = size) (h1 : ∀ x, ∀ u ∈ enc x, u.oneCell' = true)
    (hm : l0.length + l.length ≤ maxLen) (hb : (l0.length + l.length) * bytes ≤ 140737488355328) (hS : St w0 F w L) (hq : L[k]? = some (Res.row e size (.slice A0 l0.length c0) l0.length (l0.flatMap enc))) (hR : Rd w size A l.length (l.flatMap enc)) (hz : A = none → c = 0)
    (h : ∀ A' c' w', St w0 F w' (L.set k (Res.row e size (.slice A' (l0 ++ l).length c') (l0 ++ l).length ((l0 ++ l).flatMap enc))) → K (.slice A' (l0 ++ l).length c') w') :
    builtinP P .append #[t, t] ty cs #[.slice A0 l0.length c0, .slice A l.length c] w K := by
  have hlen : (l0 ++ l).length = l0.length + l.length := by simp
  have hfl : l0.flatMap enc ++ l.flatMap enc = (l0 ++ l).flatMap enc := by simp
  cases A with
  | none =>
    obtain rfl := hz rfl
    have hl0 : l = [] := by
      rcases Nat.eq_zero_or_pos l.length with h | h
      · exact List.eq_nil_of_length_eq_zero h
      · obtain ⟨g, o, hA⟩ := hR.some_ h hT.2.2.2; cases hA
    subst hl0
    have hself : St w0 F w (L.set k (Res.row e size (.slice A0 l0.length c0) l0.length (l0.flatMap enc))) := by
      obtain ⟨hlt, he⟩ := List.getElem?_eq_some_iff.1 hq
      rw [← he, List.set_getElem_self]
      exact hS
    rw [List.append_nil] at h
    exact append_none_ok k hT hS hq (h _ _ _ hself)
  | some a =>
    refine append_rd k hT hS hq hR rfl (fun u hu => ?_) hm hb ?_
    · obtain ⟨x, _, hx⟩ := List.mem_flatMap.1 hu
      exact h1 x u hx
    intro A4 c4 w' hS'
    rw [hfl, ← hlen] at hS'
    rw [← hlen]
    exact h _ _ _ hS'
theorem append_one1 {α : Type} {enc : α → List Value} {P : Program} {w0 w : World} {F : List Nat} {L : List Res} {K : Value → World → Prop} (k : Nat) {t e ty size bytes b c : Nat} {z : Value} {cs : Array Bool} {A : Option Addr} {l : List α} (x : α) (hT : SlT P t e size bytes z) (hk : ∀ x, (enc x).length = size) (h1 : ∀ x, ∀ u ∈ enc x, u.oneCell' = true) (hm : l.length + 1 ≤ maxLen) (hb : (l.length + 1) * bytes ≤ 140737488355328)
    (hS : St w0 F w (Res.cells b e (enc x) :: L)) (hq : L[k]? = some (Res.row e size (.slice A l.length c) l.length (l.flatMap enc)))
    (h : ∀ A' c' w', St w0 F w' (L.set k (Res.row e size (.slice A' (l ++ [x]).length c') (l ++ [x]).length ((l ++ [x]).flatMap enc))) → K (.slice A' (l ++ [x]).length c') w') : builtinP P .append #[t, t] ty cs #[.slice A l.length c, .slice (some ⟨b, 0, none⟩) 1 1] w K := by
  refine append_ok (k + 1) hT hS (by rw [List.getElem?_cons_succ]; exact hq) (news := enc x) (m := 1) (by rw [hk, Nat.one_mul]) (fun j u hj => ?_) (h1 x) hm hb ?_
  · rw [add_none, Nat.zero_add]
    exact hS.cell 0 rfl hj
  · intro A' c' w' hS'
    rw [List.set_cons_succ] at hS'
    have e1 : l.flatMap enc ++ enc x = (l ++ [x]).flatMap enc := by simp
    have e2 : l.length + 1 = (l ++ [x]).length := by simp
    rw [e1, e2] at hS'
    rw [e2]
    exact h A' c' w' hS'.tail
theorem flatS_take {α : Type} {enc : α → List Value} {size : Nat} (hk : ∀ x, (enc x).length = size) : ∀ (l : List α) (k : Nat), (l.take k).flatMap enc = (l.flatMap enc).take (k * size)
  | [], k => by simp
  | a :: l, 0 => by simp
  | a :: l, k + 1 => by
    rw [List.take_succ_cons, List.flatMap_cons, List.flatMap_cons, flatS_take hk l k, List.take_append, hk, Nat.succ_mul, List.take_of_length_le (l := enc a) (by rw [hk]; omega), show k * size + size - size = k * size by omega]
theorem flatS_drop {α : Type} {enc : α → List Value} {size : Nat} (hk : ∀ x, (enc x).length = size) : ∀ (l : List α) (k : Nat), (l.drop k).flatMap enc = (l.flatMap enc).drop (k * size)
  | [], k => by simp
  | a :: l, 0 => by simp
  | a :: l, k + 1 => by
    rw [List.drop_succ_cons, List.flatMap_cons, flatS_drop hk l k, List.drop_append, hk, Nat.succ_mul, List.drop_of_length_le (l := enc a) (by rw [hk]; omega), show k * size + size - size = k * size by omega, List.nil_append]
theorem Rd.takeS {α : Type} {enc : α → List Value} {size : Nat} {w : World} {A : Option Addr} {l : List α} (hk : ∀ x, (enc x).length = size) (k : Nat) (h : Rd w size A l.length (l.flatMap enc)) : Rd w size A (l.take k).length ((l.take k).flatMap enc) := by
  have hl : (l.flatMap enc).length = l.length * size := h.1
  refine ⟨by rw [flat_len enc size hk], fun hp => ?_⟩
  have h0 : 0 < (l.flatMap enc).length := by
    rw [flatS_take hk, List.length_take] at hp
    omega
  obtain ⟨g, o, hA, hc⟩ := h.2 h0
  refine ⟨g, o, hA, fun j u hj => hc j u ?_⟩
  rw [flatS_take hk, List.getElem?_take] at hj
  split at hj
  · exact hj
  · cases hj
theorem Rd.dropS {α : Type} {enc : α → List Value} {size c : Nat} {w : World} {A : Option Addr} {l : List α} (hk : ∀ x, (enc x).length = size) {k : Nat} (hkl : k ≤ l.length) (hc : l.length ≤ c) (h : Rd w size A l.length (l.flatMap enc)) : Rd w size (if c = k then A else A.map (·.add (k * size))) (l.drop k).length ((l.drop k).flatMap enc) := by
  refine ⟨by rw [flat_len enc size hk], fun hp => ?_⟩
  rw [flat_len enc size hk, List.length_drop] at hp
  have hne : k ≠ l.length := fun e => by subst e; simp at hp
  have h0 : 0 < (l.flatMap enc).length := by
    rw [h.1]
    refine Nat.mul_pos (by omega) ?_
    rcases Nat.eq_zero_or_pos size with e | e
    · rw [e] at hp; simp at hp
    · exact e
  obtain ⟨g, o, hA, hcell⟩ := h.2 h0
  subst hA
  rw [if_neg (by omega)]
  refine ⟨g, o + k * size, by simp [add_none], fun j u hj => ?_⟩
  rw [flatS_drop hk, List.getElem?_drop] at hj
  rw [Nat.add_assoc]
  exact hcell _ _ hj
theorem St.sub {w0 w : World} {F : List Nat} {L L' : List Res} (h : St w0 F w L) (hs : List.Sublist L' L) : St w0 F w L' :=
  ⟨h.chg, fun r hr => h.H r (hs.mem hr), fun r hr => h.lt r (hs.mem hr), fun r hr => h.own r (hs.mem hr), h.apart.sublist hs⟩
theorem St.mid {w0 w : World} {F : List Nat} {A B C : List Res} (h : St w0 F w (A ++ (B ++ C))) : St w0 F w (A ++ C) := h.sub (List.Sublist.append (.refl A) (List.sublist_append_right B C))
theorem neg_run {P : Program} {a : Int} (h1 : -9223372036854775808 < a) (h2 : a ≤ 9223372036854775807) (w : World) : (Op.unary .neg (.int .i64 a)).run P w = .ok (.int .i64 (-a)) w := by
  simp [Op.unary, go_sem, IntKind.wrap_i64]
  omega
end Go.Proofs.Ytnhgdngbdoifnaa.F
namespace Go.Proofs.Ytnhgdngbdoifnaa.M
open Go.Proofs.Ytnhgdngbdoifnaa.F Go.RowKit
set_option linter.unusedVariables false
set_option linter.unusedSimpArgs false
set_option maxRecDepth 100000
set_option maxHeartbeats 2000000
attribute [local irreducible] Res.cells Res.row Res.map Res.any World.cell? World.frozen? Instr.fieldAt Instr.loadAt Instr.storeAt Instr.indexAt Instr.lookup Instr.mapUpdate Instr.box Instr.build Instr.buildSlice Instr.extract Instr.alloc Instr.field Instr.index Instr.sliceAt Instr.makeSlice Instr.makeMap Instr.makeFunc binS Op.unary Sem.run
section
variable (x y : Operand) (w : World)
theorem mulu (a b : Int) : (binS .mul 73 x y (.int .u64 a) (.int .u64 b)).run Try.prog w = .ok (.int .u64 (IntKind.u64.wrap (a * b))) w := by
  rw [binS_run _ _ _ _ _ _ (by kernel_rfl)]; simp [go_sem, binOp]
theorem addu (a b : Int) : (binS .add 73 x y (.int .u64 a) (.int .u64 b)).run Try.prog w = .ok (.int .u64 (IntKind.u64.wrap (a + b))) w := by
  rw [binS_run _ _ _ _ _ _ (by kernel_rfl)]; simp [go_sem, binOp]
theorem remu (a b : Nat) (hb : 0 < b) (ha : a < 2 ^ 64) : (binS .rem 73 x y (.int .u64 (a : Int)) (.int .u64 (b : Int))).run Try.prog w = .ok (.int .u64 ((a % b : Nat) : Int)) w := by
  rw [binS_run _ _ _ _ _ _ (by kernel_rfl)]
  have hne : ¬ (b : Int) = 0 := by omega
  have hne' : ¬ b = 0 := by omega
  have h1 : Int.tmod (a : Int) (b : Int) = ((a % b : Nat) : Int) := by rw [Int.tmod_eq_emod_of_nonneg (by omega)]; norm_cast
  have h2 : a % b ≤ a := Nat.mod_le _ _
  have h3 : IntKind.u64.wrap ((a % b : Nat) : Int) = ((a % b : Nat) : Int) := by
    generalize a % b = q at *
    exact wraps_u64 _ (by omega) (by omega)
  simp [go_sem, binOp, hne, hne', h1, h3, -Int.natCast_emod]
theorem quou (a b : Nat) (hb : 0 < b) (ha : a < 2 ^ 64) : (binS .quo 73 x y (.int .u64 (a : Int)) (.int .u64 (b : Int))).run Try.prog w = .ok (.int .u64 ((a / b : Nat) : Int)) w := by
  rw [binS_run _ _ _ _ _ _ (by kernel_rfl)]
  have hne : ¬ (b : Int) = 0 := by omega
  have hne' : ¬ b = 0 := by omega
  have h1 : Int.tdiv (a : Int) (b : Int) = ((a / b : Nat) : Int) := by rw [Int.tdiv_eq_ediv_of_nonneg (by omega)]; norm_cast
  have h2 : a / b ≤ a := Nat.div_le_self _ _
  have h3 : IntKind.u64.wrap ((a / b : Nat) : Int) = ((a / b : Nat) : Int) := by
    generalize a / b = q at *
    exact wraps_u64 _ (by omega) (by omega)
  simp [go_sem, binOp, hne, hne', h1, h3, -Int.natCast_ediv]
end
theorem or128 (u : Nat) : Go.bits .or .u8 ((u : Int) % 256) 128 = ((u % 128 + 128 : Nat) : Int) := by
  have e1 : ((u : Int) % 256) = ((u % 256 : Nat) : Int) := by omega
  rw [e1, show (128 : Int) = ((128 : Nat) : Int) from rfl, (bits_nat .u8 8 (by decide) wraps_u8 (u % 256) 128 (by omega) (by omega)).2]
  congr 1
  have h : u % 256 % 128 = u % 128 := by omega
  by_cases h2 : u % 256 < 128
  · have := Nat.two_pow_add_eq_or_of_lt (i := 7) (b := u % 256) h2 1
    rw [show 2 ^ 7 * 1 = 128 from rfl] at this
    rw [Nat.or_comm]
    omega
  · have := Nat.two_pow_add_eq_or_of_lt (i := 7) (b := u % 256 - 128) (by omega) 1
    rw [show 2 ^ 7 * 1 = 128 from rfl] at this
    have e3 : u % 256 = 128 ||| (u % 256 - 128) := by omega
    rw [e3, Nat.or_comm, ← Nat.or_assoc, Nat.or_self]
    omega
abbrev e8 (l : List Nat) : List Value := l.map fun (c : Nat) => .int .u8 (c : Int)
theorem e8_set (l : List Nat) (k c : Nat) : (e8 l).set k (.int .u8 (c : Int)) = e8 (l.set k c) := by
  unfold e8
  rw [List.map_set]
theorem e8_get {l rest : List Nat} {i : Nat} (hi : i < l.length) : (e8 (l ++ rest))[i]? = some (.int .u8 (l[i] : Int)) := by
  unfold e8
  rw [List.getElem?_map, List.getElem?_append_left hi, List.getElem?_eq_getElem hi]
  rfl
theorem lebN_pos (u : Nat) : 1 ≤ (lebN u).length := by
  by_cases h : u < 128
  · rw [lebN_lo h]; simp
  · rw [lebN_hi h]; simp
theorem set_mid (out : List Nat) (r c : Nat) (rest : List Nat) : (out ++ r :: rest).set out.length c = (out ++ [c]) ++ rest := by
  rw [List.set_append_right _ _ (Nat.le_refl _), Nat.sub_self]
  simp
theorem strOf_run {w : World} {b n c : Nat} {l : List Nat} (hn : n = l.length) (h : ∀ i (hi : i < l.length), w.cell? ⟨b, i, none⟩ = some (.int .u8 (l[i] : Int))) :
    (convert 74 9 (.slice (some ⟨b, 0, none⟩) n c)).run Try.prog w = .ok (.string (strN l)) w := by
  refine run_convert_bytes_arg (P := Try.prog) w 74 5 Try.underlying74 Try.underlying5 b 0 n c (ints l) (by rw [hn]; simp [ints]) (fun i hi => ?_) 9 Try.underlying9
  have hi' : i < l.length := by omega
  rw [Nat.zero_add, h i hi']
  simp [ints, List.getD, hi']
theorem zzI64 {n : Int} (h : -9223372036854775808 ≤ n ∧ n ≤ 9223372036854775807) : Go.bits .xor .u64 (IntKind.u64.wrap (IntKind.u64.wrap n * 2)) (IntKind.u64.wrap (n / 9223372036854775808)) = ((zz n : Nat) : Int) := zzI_eq n h.1 h.2
section
variable {w0 w : World} {F : List Nat} {L : List Res}
theorem put_ret {n : Int} (hn : -9223372036854775808 ≤ n ∧ n ≤ 9223372036854775807) (hS : St w0 F w L) : Ret Try.prog 32 #[.int .i64 n] w fun v w' => v = .string (putS n) ∧ St w0 F w' L := by
  have hz := zz_lt n hn.1 hn.2
  have hl10 := lebN_len (zz n) hz
  refine s32 _ ?_
  unfold m32 m32_0 m32_1
  refine valP_ok (cvi_64 _ _) ?_
  refine valP_ok (shl1 _ _ _ _) ?_
  refine valP_ok (shr63 _ _ _ _) ?_
  refine valP_ok (cvi_64 _ _) ?_
  refine valP_ok (xor64 _ _ _ _ _) ?_
  rw [zzI64 hn]
  unfold m32_2
  refine new_ok (al96 _) hS ?_
  intro b4 w hS
  unfold m32_3 m32_4
  refine loop_in (fun s w' => ∃ (u : Nat) (out rest : List Nat), s = (.int .u64 (u : Int), .int .i64 (out.length : Int)) ∧ u < 2 ^ 64 ∧ out ++ lebN u = lebN (zz n) ∧ out.length + rest.length = 10 ∧ St w0 F w' (Res.cells b4 96 (e8 (out ++ rest)) :: L)) (fun s _ => 10 - (intOf s.2).toNat) ⟨zz n, [], [0, 0, 0, 0, 0, 0, 0, 0, 0, 0], rfl, hz, rfl, rfl, hS⟩ ?_
  clear hS
  rintro s w ⟨u, out, rest, rfl, hu, ho, hlen, hS⟩
  simp only
  have hp := lebN_pos u
  have hl := congrArg List.length ho
  rw [List.length_append] at hl
  obtain ⟨r, rest, rfl⟩ : ∃ r rest', rest = r :: rest' := by
    cases rest with
    | nil => simp at hlen; omega
    | cons r rest => exact ⟨r, rest, rfl⟩
  have hk : out.length < (e8 (out ++ r :: rest)).length := by simp
  have hk10 : out.length < 10 := by omega
  unfold m32_8
  refine valP_ok (geq_ok _ _ _ _ _ _ _) ?_
  unfold m32_12
  refine cond_split (fun h => ?_) (fun h => ?_)
  · have h1 := lebN_hi (u := u) (by omega)
    unfold m32_9
    refine valP_ok (cv64_8 _ _) ?_
    rw [IntKind.wrap_u8]
    refine valP_ok (or8 _ _ _ _ _) ?_
    rw [or128]
    refine valP_ok (iarr _ hk10) ?_
    refine store_at 0 st5 hS rfl hk rfl ?_
    intro w hS
    simp only [List.set_cons_zero] at hS
    rw [e8_set, set_mid] at hS
    unfold m32_11
    refine valP_ok (shr7 _ _ _ _) ?_
    rw [show (u : Int) / 128 = ((u / 128 : Nat) : Int) by omega]
    unfold m32_10
    refine valP_ok (add_ok _ _ _ (by omega) (by omega) _) ?_
    refine ⟨⟨u / 128, out ++ [u % 128 + 128], rest, by simp, by omega, ?_, by simp at hlen ⊢; omega, hS⟩, by simp [intOf]; omega⟩
    rw [List.append_assoc, List.singleton_append, ← h1, ho]
  · have h1 := lebN_lo (u := u) (by omega)
    unfold m32_5
    refine valP_ok (cv64_8 _ _) ?_
    rw [IntKind.wrap_u8, show (u : Int) % 256 = ((u : Nat) : Int) by omega]
    refine valP_ok (iarr _ hk10) ?_
    refine store_at 0 st5 hS rfl hk rfl ?_
    intro w hS
    simp only [List.set_cons_zero] at hS
    rw [e8_set, set_mid] at hS
    unfold m32_6
    refine valP_ok (add_ok _ _ _ (by omega) (by omega) _) ?_
    rw [show (out.length : Int) + 1 = ((out.length + 1 : Nat) : Int) by omega]
    refine valP_ok (sarr _ (by omega)) ?_
    refine valP_ok (strOf_run (l := out ++ [u]) (by simp) (fun i hi => hS.cell 0 rfl (e8_get hi))) ?_
    unfold m32_7
    refine ⟨?_, hS.tail⟩
    unfold putS
    rw [← ho, h1]
abbrev r8 (A : Option Addr) (c : Nat) (l : List Nat) : Res := Res.row 5 1 (.slice A l.length c) l.length (l.flatMap fun (c : Nat) => [.int .u8 (c : Int)])
theorem flat8 (l : List Nat) : (l.flatMap fun (c : Nat) => [Value.int .u8 (c : Int)]) = e8 l := by
  induction l with
  | nil => rfl
  | cons c l ih => rw [List.flatMap_cons, ih]; rfl
theorem rput_ret {n : Int} (hn : -9223372036854775808 ≤ n ∧ n ≤ 9223372036854775807) (hS : St w0 F w L) : Ret Try.prog 17 #[.int .i64 n] w fun v w' => v = .string (putS n) ∧ St w0 F w' L := by
  have hz := zz_lt n hn.1 hn.2
  have hl10 := lebN_len (zz n) hz
  have main : m17_3 (fun v w' => v = .string (putS n) ∧ St w0 F w' L) (.int .u64 (zz n : Int)) w := by
    unfold m17_3 m17_4
    refine loop_in (fun s w' => ∃ (u : Nat) (out : List Nat) (A : Option Addr) (c : Nat), s = (.int .u64 (u : Int), .slice A out.length c) ∧ u < 2 ^ 64 ∧ out ++ lebN u = lebN (zz n) ∧ St w0 F w' (r8 A c out :: L)) (fun s _ => (intOf s.1).toNat) ⟨zz n, [], none, 0, rfl, hz, rfl, hS.row_nil 5 1⟩ ?_
    clear hS
    rintro s w ⟨u, out, A, c, rfl, hu, ho, hS⟩
    simp only
    have hp := lebN_pos u
    have hl := congrArg List.length ho
    rw [List.length_append] at hl
    unfold m17_8
    refine valP_ok (gtr_ok _ _ _ _ _ _ _) ?_
    unfold m17_11
    refine cond_split (fun h => ?_) (fun h => ?_)
    · have h1 := lebN_hi (u := u) (by omega)
      unfold m17_9
      refine valP_ok (remu _ _ _ u 128 (by omega) hu) ?_
      refine valP_ok (addu _ _ _ _ _) ?_
      rw [wraps_u64 _ (by omega) (by omega)]
      refine valP_ok (cv64_8 _ _) ?_
      rw [IntKind.wrap_u8, show (((u % 128 : Nat) : Int) + 128) % 256 = ((u % 128 + 128 : Nat) : Int) by omega]
      refine newslice_ok (bs74_1 rfl _) hS ?_
      intro b23 w hS
      refine append_one1 (enc := fun (c : Nat) => [.int .u8 (c : Int)]) 0 (u % 128 + 128) sl74 (fun _ => rfl) (fun _ v hv => by obtain rfl := List.mem_singleton.1 hv; rfl) (by unfold maxLen; omega) (by omega) hS rfl ?_
      intro A' c' w' hS
      simp only [List.set_cons_zero] at hS
      unfold m17_10
      refine valP_ok (quou _ _ _ u 128 (by omega) hu) ?_
      refine ⟨⟨u / 128, _, A', c', rfl, by omega, ?_, hS⟩, by simp [intOf]; omega⟩
      rw [List.append_assoc, List.singleton_append, ← h1, ho]
    · have h1 := lebN_lo (u := u) (by omega)
      unfold m17_5
      refine valP_ok (cv64_8 _ _) ?_
      rw [IntKind.wrap_u8, show (u : Int) % 256 = ((u : Nat) : Int) by omega]
      refine newslice_ok (bs74_1 rfl _) hS ?_
      intro b30 w hS
      refine append_one1 (enc := fun (c : Nat) => [.int .u8 (c : Int)]) 0 u sl74 (fun _ => rfl) (fun _ v hv => by obtain rfl := List.mem_singleton.1 hv; rfl) (by unfold maxLen; omega) (by omega) hS rfl ?_
      intro A' c' w' hS
      simp only [List.set_cons_zero] at hS
      obtain ⟨g, rfl⟩ := hS.row_ptr 0 rfl (by simp)
      unfold m17_6
      refine valP_ok (strOf_run (l := out ++ [u]) rfl (fun i hi => hS.row_cell 0 rfl (by have := e8_get (rest := []) hi; rw [List.append_nil] at this; rw [flat8]; exact this))) ?_
      unfold m17_7
      refine ⟨?_, hS.tail⟩
      unfold putS
      rw [← ho, h1]
  refine s17 _ ?_
  unfold m17 m17_0 m17_1
  refine valP_ok (cvi_64 _ _) ?_
  refine valP_ok (mulu _ _ _ _ _) ?_
  unfold m17_2
  refine valP_ok (lss_ok _ _ _ _ _ _ _) ?_
  unfold m17_12
  refine cond_split (fun h => ?_) (fun h => ?_)
  · refine valP_ok (add_ok _ _ _ (by omega) (by omega) _) ?_
    refine valP_ok (negI _ _) ?_
    refine valP_ok (cvi_64 _ _) ?_
    refine valP_ok (mulu _ _ _ _ _) ?_
    refine valP_ok (addu _ _ _ _ _) ?_
    have e : IntKind.u64.wrap (IntKind.u64.wrap (IntKind.u64.wrap (IntKind.i64.wrap (-(n + 1))) * 2) + 1) = ((zz n : Nat) : Int) := by
      unfold zz
      rw [if_neg (by omega), IntKind.wrap_i64, wrap_u64, wrap_u64, wrap_u64]
      omega
    rw [e]
    exact main
  · have e : IntKind.u64.wrap (IntKind.u64.wrap n * 2) = ((zz n : Nat) : Int) := by
      unfold zz
      rw [if_pos (by omega), wrap_u64, wrap_u64]
      omega
    rw [e]
    exact main
end
def hn : List Nat → Nat
  | [] => 0
  | b :: t => (hn t * 128 + b % 128) % 2 ^ 64
theorem hn_lt : ∀ l, hn l < 2 ^ 64
  | [] => by decide
  | b :: t => by unfold hn; exact Nat.mod_lt _ (by decide)
theorem hn_leb (u : Nat) : u < 2 ^ 64 → hn (lebN u) = u := by
  induction u using Nat.strongRecOn with
  | _ u ih =>
    intro hu
    by_cases h : u < 128
    · rw [lebN_lo h]; simp only [hn]; omega
    · rw [lebN_hi h]; simp only [hn]; rw [ih (u / 128) (by omega) (by omega)]; omega
theorem leb_more (u : Nat) : ∀ t, t + 1 < (lebN u).length → 128 ≤ (lebN u).getD t 0 := by
  induction u using Nat.strongRecOn with
  | _ u ih =>
    intro t ht
    by_cases h : u < 128
    · rw [lebN_lo h] at ht; simp at ht
    · rw [lebN_hi h] at ht ⊢
      rw [List.length_cons] at ht
      cases t with
      | zero => simp
      | succ t => simpa using ih (u / 128) (by omega) t (by omega)
theorem leb_last (u : Nat) : (lebN u).getD ((lebN u).length - 1) 0 < 128 := by
  induction u using Nat.strongRecOn with
  | _ u ih =>
    by_cases h : u < 128
    · rw [lebN_lo h]; simpa using h
    · rw [lebN_hi h]
      have h1 := ih (u / 128) (by omega)
      have h2 := lebN_pos (u / 128)
      rw [List.length_cons, show (lebN (u / 128)).length + 1 - 1 = ((lebN (u / 128)).length - 1) + 1 by omega]
      simpa using h1
theorem drop_at (l : List Nat) (i : Nat) (h : i < l.length) : l.drop i = l.getD i 0 :: l.drop (i + 1) := by
  rw [List.drop_eq_getElem_cons h]
  simp only [List.getD]; rw [List.getElem?_eq_getElem h]; rfl
theorem takeL_shape {s : ByteArray} {n : Int} {rest : List Nat} (h : takeL (bytesN s) = some (n, rest)) {j : Nat} (h3 : ∀ t, t < j → 127 < (bytesN s).getD t 0)
    (h4 : j = s.size ∨ j = 10 ∨ (j < s.size ∧ j < 10 ∧ (bytesN s).getD j 0 ≤ 127)) : (j < s.size ∧ j < 10) ∧ (bytesN s).take (j + 1) = lebN (zz n) ∧ (bytesN s).drop (j + 1) = rest ∧ zz n < 2 ^ 64 := by
  obtain ⟨e, n1, n2⟩ := takeL_canon (bytesN_lt s) h
  have hz := zz_lt n n1 n2
  have hl := lebN_len _ hz
  have hp := lebN_pos (zz n)
  have hlast := leb_last (zz n)
  have hmore := leb_more (zz n)
  have hsz : s.size = (lebN (zz n)).length + rest.length := by rw [← bytesN_length, e, List.length_append]
  have hg : ∀ t, t < (lebN (zz n)).length → (bytesN s).getD t 0 = (lebN (zz n)).getD t 0 := by
    intro t ht; rw [e]; simp only [List.getD]; rw [List.getElem?_append_left ht]
  generalize lebN (zz n) = L at *
  have hjL : j + 1 = L.length := by
    rcases Nat.lt_trichotomy (j + 1) L.length with c | c | c
    · have := hmore j c
      rw [← hg j (by omega)] at this
      omega
    · exact c
    · have := h3 (L.length - 1) (by omega)
      rw [hg _ (by omega)] at this
      omega
  refine ⟨⟨by omega, by omega⟩, ?_, ?_, hz⟩
  · rw [e, hjL, List.take_left]
  · rw [e, hjL, List.drop_left]
theorem takeS_L (s : ByteArray) : takeS s = (takeL (bytesN s)).map fun p => (p.1, strN p.2) := by
  unfold takeS takeL
  cases vT 0 0 (bytesN s) <;> rfl
theorem tkV_hn {s : ByteArray} {j : Nat} (hj : j < s.size) (hj2 : j < 10) (h3 : ∀ t, t < j → 127 < (bytesN s).getD t 0) (h4 : j = s.size ∨ j = 10 ∨ (j < s.size ∧ j < 10 ∧ (bytesN s).getD j 0 ≤ 127)) :
    tkV s = if putS (unz (hn ((bytesN s).take (j + 1)))) = s.extract 0 (j + 1) then .tuple #[.int .i64 (unz (hn ((bytesN s).take (j + 1)))), .string (s.extract (j + 1) s.size), .int .i64 0] else noV := by
  have hv := hn_lt ((bytesN s).take (j + 1))
  have ecmp : putS (unz (hn ((bytesN s).take (j + 1)))) = s.extract 0 (j + 1) ↔ lebN (hn ((bytesN s).take (j + 1))) = (bytesN s).take (j + 1) := by
    rw [← bytesN_take s (j + 1)]
    generalize s.extract 0 (j + 1) = z
    constructor
    · intro h
      have h5 := congrArg bytesN h
      rw [bytesN_putS, zz_unz] at h5
      exact h5
    · intro h
      refine bytesN_inj ?_
      rw [bytesN_putS, zz_unz]
      exact h
  unfold tkV
  rw [takeS_L]
  by_cases hc : lebN (hn ((bytesN s).take (j + 1))) = (bytesN s).take (j + 1)
  · rw [if_pos (ecmp.2 hc)]
    have hu1 : -9223372036854775808 ≤ unz (hn ((bytesN s).take (j + 1))) := by unfold unz; split <;> omega
    have hu2 : unz (hn ((bytesN s).take (j + 1))) ≤ 9223372036854775807 := by unfold unz; split <;> omega
    have h6 := takeL_put (unz (hn ((bytesN s).take (j + 1)))) ((bytesN s).drop (j + 1)) hu1 hu2
    rw [zz_unz, hc, List.take_append_drop] at h6
    rw [h6]
    simp only [Option.map_some]
    rw [strN_drop]
  · rw [if_neg (fun h => hc (ecmp.1 h))]
    cases hh : takeL (bytesN s) with
    | none => rfl
    | some p =>
      obtain ⟨n, rest⟩ := p
      obtain ⟨-, a2, -, a4⟩ := takeL_shape hh h3 h4
      exact absurd (by rw [a2, hn_leb _ a4]) hc
theorem tkV_bad {s : ByteArray} {j : Nat} (h3 : ∀ t, t < j → 127 < (bytesN s).getD t 0) (h4 : j = s.size ∨ j = 10) : tkV s = noV := by
  unfold tkV
  rw [takeS_L]
  cases hh : takeL (bytesN s) with
  | none => rfl
  | some p =>
    obtain ⟨n, rest⟩ := p
    have := (takeL_shape hh h3 (h4.imp id .inl)).1
    omega
theorem getD_byte {s : ByteArray} {i : Nat} (h : i < s.size) : (bytesN s).getD i 0 = s[i].toNat := by
  simp only [List.getD]
  rw [List.getElem?_eq_getElem (by rw [bytesN_length]; exact h), bytesN_get s i h]
  rfl
theorem hn_step {s : ByteArray} {j i : Nat} (hj : j < s.size) (hi : i < j + 1) : hn (((bytesN s).take (j + 1)).drop i) = (hn (((bytesN s).take (j + 1)).drop (i + 1)) * 128 + (s[i]'(by omega)).toNat % 128) % 2 ^ 64 := by
  have hlen : ((bytesN s).take (j + 1)).length = j + 1 := by rw [List.length_take, bytesN_length]; omega
  have e := drop_at ((bytesN s).take (j + 1)) i (by omega)
  have e0 : ((bytesN s).take (j + 1)).getD i 0 = (bytesN s).getD i 0 := by
    simp only [List.getD, List.getElem?_take]; rw [if_pos (by omega)]
  rw [e, hn, e0, getD_byte]
section
variable {w0 w : World} {F : List Nat} {L : List Res} {s : ByteArray}
theorem rtake_ret (hS : St w0 F w L) : Ret Try.prog 55 #[.string s] w fun v w' => v = tkV s ∧ St w0 F w' L := by
  have fin : ∀ (k : Nat) w, St w0 F w L → k ≤ s.size → k ≤ 10 → (∀ t, t < k → 127 < (bytesN s).getD t 0) → (k = s.size ∨ k = 10 ∨ (k < s.size ∧ k < 10 ∧ (bytesN s).getD k 0 ≤ 127)) → m55_3 (fun v w' => v = tkV s ∧ St w0 F w' L) (.string s) (.int .i64 (k : Int)) w := by
    clear hS
    intro k w hS hks hk10 h3 h4
    unfold m55_3
    refine builtin_ok (len9 _) ?_
    refine valP_ok (eq3 _ _ _ _ _) ?_
    refine cond_split (fun h => ?_) (fun h => ?_)
    · first | refine pick_dt (by first | assumption | omega) ?_ | refine pick_df (by first | assumption | omega) ?_ | refine pick_t (by first | rfl | assumption) ?_ | refine pick_f (by first | rfl | assumption) ?_ | refine pick_dt rfl ?_ | refine pick_df (not_not_intro rfl) ?_
      unfold m55_19
      refine cond_t rfl ?_
      unfold m55_20
      exact ⟨(tkV_bad h3 (.inl (by omega))).symm, hS⟩
    · refine valP_ok (eq3 _ _ _ _ _) ?_
      first | refine pick_dt (by first | assumption | omega) ?_ | refine pick_df (by first | assumption | omega) ?_ | refine pick_t (by first | rfl | assumption) ?_ | refine pick_f (by first | rfl | assumption) ?_ | refine pick_dt rfl ?_ | refine pick_df (not_not_intro rfl) ?_
      unfold m55_19
      refine cond_split (fun h1 => ?_) (fun h1 => ?_)
      · unfold m55_20
        exact ⟨(tkV_bad h3 (.inr (by omega))).symm, hS⟩
      · have hj : k < s.size := by omega
        have hj2 : k < 10 := by omega
        have hres := tkV_hn hj hj2 h3 h4
        have hlen : ((bytesN s).take (k + 1)).length = k + 1 := by rw [List.length_take, bytesN_length]; omega
        unfold m55_4 m55_5 m55_14
        refine loop_in (fun u w' => ∃ i : Nat, u = (.int .u64 (hn (((bytesN s).take (k + 1)).drop i) : Int), .int .i64 ((i : Int) - 1)) ∧ i ≤ k + 1 ∧ St w0 F w' L) (fun u _ => ((intOf u.2) + 1).toNat) ⟨k + 1, by rw [List.drop_eq_nil_of_le (by omega), show ((k + 1 : Nat) : Int) - 1 = (k : Int) by omega]; rfl, Nat.le_refl _, hS⟩ ?_
        clear hS
        rintro u w ⟨i, rfl, hi, hS⟩
        simp only
        unfold m55_15
        refine valP_ok (geq_ok _ _ _ _ _ _ _) ?_
        unfold m55_18
        refine cond_split (fun h5 => ?_) (fun h5 => ?_)
        · obtain ⟨i, rfl⟩ : ∃ i', i = i' + 1 := ⟨i - 1, by omega⟩
          have hst := hn_step (s := s) (j := k) (i := i) hj (by omega)
          have hlt := hn_lt (((bytesN s).take (k + 1)).drop (i + 1))
          have hil : i < s.size := by omega
          rw [show ((i + 1 : Nat) : Int) - 1 = (i : Int) by omega]
          unfold m55_16
          refine valP_ok (mulu _ _ _ _ _) ?_
          refine valP_ok (sidx _ hil) ?_
          refine valP_ok (cv8_64 _ _) ?_
          have hb : s[i].toNat < 256 := UInt8.toNat_lt _
          rw [wraps_u64 (s[i].toNat : Int) (by omega) (by omega)]
          refine valP_ok (remu _ _ _ s[i].toNat 128 (by omega) (by omega)) ?_
          refine valP_ok (addu _ _ _ _ _) ?_
          have e : IntKind.u64.wrap (IntKind.u64.wrap ((hn (((bytesN s).take (k + 1)).drop (i + 1)) : Int) * 128) + ((s[i].toNat % 128 : Nat) : Int)) = (hn (((bytesN s).take (k + 1)).drop i) : Int) := by
            rw [hst, wrap_u64, wrap_u64]
            omega
          rw [e]
          unfold m55_17
          refine valP_ok (sub_ok _ _ _ (by omega) (by omega) _) ?_
          exact ⟨⟨i, rfl, by omega, hS⟩, by simp [intOf]⟩
        · obtain rfl : i = 0 := by omega
          rw [List.drop_zero]
          have hv := hn_lt ((bytesN s).take (k + 1))
          generalize hn ((bytesN s).take (k + 1)) = v at hv hres
          have hu1 : -9223372036854775808 ≤ unz v := by unfold unz; split <;> omega
          have hu2 : unz v ≤ 9223372036854775807 := by unfold unz; split <;> omega
          have main : m55_8 (fun v w' => v = tkV s ∧ St w0 F w' L) (.string s) (.int .i64 (k : Int)) (.int .i64 (unz v)) w := by
            unfold m55_8
            refine drawn_ok hS ?_
            intro w hS
            refine pureP_ok (add_ok _ _ _ (by omega) (by omega)) ?_
            rw [show (k : Int) + 1 = ((k + 1 : Nat) : Int) by omega]
            refine pureP_ok (fun w => sto w (by omega)) ?_
            refine callR (by kernel_rfl) (rput_ret ⟨hu1, hu2⟩ hS) ?_
            rintro _ w ⟨rfl, hS⟩
            refine pureP_ok (ne9 _ _ _ _) ?_
            unfold m55_11
            refine cond_split (fun h6 => ?_) (fun h6 => ?_)
            · unfold m55_12
              rw [if_neg h6] at hres
              exact ⟨hres.symm, hS⟩
            · rw [if_pos (Classical.not_not.1 h6)] at hres
              unfold m55_9
              refine valQ_ok (add_ok _ _ _ (by omega) (by omega)) ?_
              rw [show (k : Int) + 1 = ((k + 1 : Nat) : Int) by omega]
              refine valQ_ok (fun w => sfrom w (by omega)) ?_
              refine drawn_ok hS ?_
              intro w hS
              unfold m55_10
              exact ⟨hres.symm, hS⟩
          unfold m55_6
          refine valP_ok (quou _ _ _ v 2 (by omega) hv) ?_
          refine valP_ok (cv64_i _ _) ?_
          unfold m55_7
          refine valP_ok (remu _ _ _ v 2 (by omega) hv) ?_
          refine valP_ok (eq73 _ _ _ _ _) ?_
          unfold m55_13
          refine cond_split (fun h6 => ?_) (fun h6 => ?_)
          · refine valP_ok (negI _ _) ?_
            have e : IntKind.i64.wrap (-(IntKind.i64.wrap ((v / 2 : Nat) : Int))) = -((v / 2 : Nat) : Int) := by
              rw [IntKind.wrap_i64, IntKind.wrap_i64]
              omega
            rw [e]
            refine valP_ok (sub_ok _ _ _ (by omega) (by omega) _) ?_
            rw [show -((v / 2 : Nat) : Int) - 1 = unz v by unfold unz; rw [if_neg (by omega)]]
            exact main
          · have e : IntKind.i64.wrap ((v / 2 : Nat) : Int) = unz v := by
              rw [IntKind.wrap_i64]
              unfold unz
              rw [if_pos (by omega)]
              omega
            rw [e]
            exact main
  refine s55 _ ?_
  unfold m55 m55_0 m55_1 m55_2
  refine loop_in (fun u w' => ∃ k : Nat, u = .int .i64 (k : Int) ∧ k ≤ s.size ∧ k ≤ 10 ∧ (∀ t, t < k → 127 < (bytesN s).getD t 0) ∧ St w0 F w' L) (fun u _ => 10 - (intOf u).toNat) ⟨0, rfl, by omega, by omega, fun t h => by omega, hS⟩ ?_
  clear hS
  rintro u w ⟨k, rfl, hks, hk10, h3, hS⟩
  unfold m55_21
  refine builtin_ok (len9 _) ?_
  refine valP_ok (lss_ok _ _ _ _ _ _ _) ?_
  refine cond_split (fun h => ?_) (fun h => ?_)
  · have hlt : k < s.size := by omega
    refine valP_ok (lss_ok _ _ _ _ _ _ _) ?_
    first | refine pick_dt (by first | assumption | omega) ?_ | refine pick_df (by first | assumption | omega) ?_ | refine pick_t (by first | rfl | assumption) ?_ | refine pick_f (by first | rfl | assumption) ?_ | refine pick_dt rfl ?_ | refine pick_df (not_not_intro rfl) ?_
    refine cond_split (fun h1 => ?_) (fun h1 => ?_)
    · refine valP_ok (sidx _ hlt) ?_
      refine valP_ok (gtr_ok _ _ _ _ _ _ _) ?_
      first | refine pick_dt (by first | assumption | omega) ?_ | refine pick_df (by first | assumption | omega) ?_ | refine pick_t (by first | rfl | assumption) ?_ | refine pick_f (by first | rfl | assumption) ?_ | refine pick_dt rfl ?_ | refine pick_df (not_not_intro rfl) ?_
      unfold m55_23
      refine cond_split (fun h2 => ?_) (fun h2 => ?_)
      · unfold m55_22
        refine valP_ok (add_ok _ _ _ (by omega) (by omega) _) ?_
        refine ⟨⟨k + 1, rfl, by omega, by omega, fun t ht => ?_, hS⟩, by simp [intOf]; omega⟩
        rcases Nat.lt_or_ge t k with g | g
        · exact h3 t g
        · obtain rfl : t = k := by omega
          rw [getD_byte hlt]
          omega
      · exact fin k w hS hks hk10 h3 (.inr (.inr ⟨hlt, by omega, by rw [getD_byte hlt]; omega⟩))
    · first | refine pick_dt (by first | assumption | omega) ?_ | refine pick_df (by first | assumption | omega) ?_ | refine pick_t (by first | rfl | assumption) ?_ | refine pick_f (by first | rfl | assumption) ?_ | refine pick_dt rfl ?_ | refine pick_df (not_not_intro rfl) ?_
      unfold m55_23
      refine cond_f rfl ?_
      exact fin k w hS hks hk10 h3 (.inr (.inl (by omega)))
  · first | refine pick_dt (by first | assumption | omega) ?_ | refine pick_df (by first | assumption | omega) ?_ | refine pick_t (by first | rfl | assumption) ?_ | refine pick_f (by first | rfl | assumption) ?_ | refine pick_dt rfl ?_ | refine pick_df (not_not_intro rfl) ?_
    refine cond_f rfl ?_
    first | refine pick_dt (by first | assumption | omega) ?_ | refine pick_df (by first | assumption | omega) ?_ | refine pick_t (by first | rfl | assumption) ?_ | refine pick_f (by first | rfl | assumption) ?_ | refine pick_dt rfl ?_ | refine pick_df (not_not_intro rfl) ?_
    unfold m55_23
    refine cond_f rfl ?_
    exact fin k w hS hks hk10 h3 (.inl (by omega))
end
end Go.Proofs.Ytnhgdngbdoifnaa.M
