/- Names: strings.Trim at letters; named. -/
import Derived.Test.YtcldjjmfpmkldaaDoorFwW
import Derived.Test.YtcldjjmfpmkldaaDoorFwB
import Derived.Test.YtcldjjmfpmkldaaDoorR
import Derived.Test.YtcldjjmfpmkldaaDoorShelf
import Derived.Deep.WholeRow
import Derived.Lib.AsciiSet
import Derived.Test.YtcldjjmfpmkldaaDoorMtrim0
namespace Go.Proofs.YtcldjjmfpmkldaaDoor.M
open Go.Proofs.YtcldjjmfpmkldaaDoor.F Go.RowKit
set_option linter.unusedVariables false
set_option linter.unusedSimpArgs false
set_option maxRecDepth 100000
set_option maxHeartbeats 2000000
attribute [local irreducible] Res.cells Res.row Res.map Res.any World.cell? World.frozen? Instr.fieldAt Instr.loadAt Instr.storeAt Instr.indexAt Instr.lookup Instr.mapUpdate Instr.box Instr.build Instr.buildSlice Instr.extract Instr.alloc Instr.field Instr.index Instr.sliceAt Instr.makeSlice Instr.makeMap Instr.makeFunc binS Op.unary Sem.run
section
variable (x y : Operand) (w : World)
theorem sidx {s : ByteArray} {k : Nat} (h : k < s.size) : (Instr.index 9 (.string s) (.int .i64 (k : Int))).run Tryd.prog w = .ok (.int .u8 (s[k].toNat : Int)) w := by
  have h' : (k : Int) < s.size := by omega
  simp [go_sem, h, h']
theorem sfrom {s : ByteArray} {k : Nat} (h : k ≤ s.size) : (Instr.sliceAt 9 (.string s) (some (.int .i64 (k : Int))) none none).run Tryd.prog w = .ok (.string (s.extract k s.size)) w := by
  have h' : ¬ s.size < k := by omega
  simp [go_sem, h, h']
theorem sto {s : ByteArray} {k : Nat} (h : k ≤ s.size) : (Instr.sliceAt 9 (.string s) none (some (.int .i64 (k : Int))) none).run Tryd.prog w = .ok (.string (s.extract 0 k)) w := by
  have h' : ¬ s.size < k := by omega
  simp [go_sem, h, h']
theorem sadd {a b : ByteArray} (h : a.size + b.size ≤ 9223372036854775807) (w : World) : (binS .add 9 x y (.string a) (.string b)).run Tryd.prog w = .ok (.string (a ++ b)) w := by
  rw [binS_run _ _ _ _ _ _ (by kernel_rfl)]; simp [go_sem, binOp, h]
end
theorem zero81 (w : World) : (zeroValue 81).run Tryd.prog w = .ok (.agg (Array.replicate 256 (.bool false))) w := by
  have e : (Tryd.prog.info? 81).map (·.zero) = some (some (.agg (Array.replicate 256 (.bool false)))) := by kernel_rfl
  obtain ⟨i, h1, h2⟩ := Option.map_eq_some_iff.1 e
  exact zeroValue_ok h1 h2 w
theorem size81 : (Tryd.prog.info? 81).map (·.size) = some 256 := by kernel_rfl
theorem alo81 (w : World) : (Instr.alloc 81 true (.tuple #[])).run Tryd.prog w = .ok (.pointer (some ⟨w.heap.size, 0, none⟩)) (w.alloc (.cells (Array.replicate 256 (.bool false)) 81)) := by
  have e : Tryd.zeroCells81 = Array.replicate 256 (.bool false) := by kernel_rfl
  simp [go_sem, zero81, Value.cells, e]
abbrev letters : ByteArray := ⟨#[97, 98, 99, 100, 101, 102, 103, 104, 105, 106, 107, 108, 109, 110, 111, 112, 113, 114, 115, 116, 117, 118, 119, 120, 121, 122, 48, 49, 50, 51, 52, 53, 54, 55, 56, 57, 46, 45]⟩
abbrev setL : List Value := (Go.Lib.setCells letters.data.toList).toList
/-- is it one of the letters of names? -/
def inL (b : UInt8) : Bool := letters.data.toList.contains b
theorem setL_at (b : UInt8) : setL[b.toNat]? = some (.bool (inL b)) := by
  have := Go.Lib.setCells_at letters.data.toList b
  unfold setL inL
  rw [Array.getElem?_toList]
  exact this
theorem sto81 (w : World) : (Instr.storeAt 81 (.pointer (some ⟨w.heap.size, 0, none⟩)) (.agg (Go.Lib.setCells letters.data.toList))).run Tryd.prog (w.alloc (.cells (Array.replicate 256 (.bool false)) 81)) = .ok () (w.alloc (.cells setL.toArray 81)) := by
  have := run_storeVar_new (P := Tryd.prog) w 81 (Array.replicate 256 (.bool false)) (Go.Lib.setCells letters.data.toList) (by rw [Go.Lib.setCells_size]; exact size81) (by rw [Go.Lib.setCells_size]; simp) (Go.Lib.setCells_one _)
  unfold setL
  rw [Array.toArray_toList]
  simpa [go_sem] using this

section
variable {w0 w : World} {F : List Nat} {L : List Res} {s : ByteArray}
theorem contains_ret {b : Nat} (x : UInt8) (hS : St w0 F w (Res.cells b 81 setL :: L)) : Ret Tryd.prog 68 #[.pointer (some ⟨b, 0, none⟩), .int .u8 (x.toNat : Int)] w fun v w' => v = .bool (inL x) ∧ St w0 F w' (Res.cells b 81 setL :: L) :=
  Calls.mono (Tryd.asciiSet_contains b x (inL x) w (hS.cell 0 rfl (setL_at x))) fun e w' ⟨he, hw⟩ => ⟨_, he, rfl, hw ▸ hS⟩
theorem ext_size (s : ByteArray) (i j : Nat) (h : j ≤ s.size) : (s.extract i j).size = j - i := by
  rw [ByteArray.size_extract]
  omega
theorem ext_get (s : ByteArray) (i j k : Nat) (h : j ≤ s.size) (hk : k < (s.extract i j).size) : (s.extract i j)[k] = s[i + k]'(by rw [ext_size s i j h] at hk; omega) := by
  simp [ByteArray.getElem_eq_getElem_data, ByteArray.data_extract]
theorem ext_ext (s : ByteArray) (i j k : Nat) (h : j ≤ s.size) (hk : i + k ≤ j) : (s.extract i j).extract k (s.extract i j).size = s.extract (i + k) j := by
  rw [ext_size s i j h]
  apply ByteArray.ext
  simp only [ByteArray.data_extract, Array.extract_extract]
  congr 1
  omega
theorem ext_take (s : ByteArray) (j k : Nat) (hk : k ≤ j) : (s.extract 0 j).extract 0 k = s.extract 0 k := by
  apply ByteArray.ext
  simp only [ByteArray.data_extract, Array.extract_extract]
  congr 1
  omega
theorem ext_all (s : ByteArray) : s.extract 0 s.size = s := by
  apply ByteArray.ext
  rw [ByteArray.data_extract]
  exact Array.extract_size
/-- all its bytes are letters. -/
def AllL (s : ByteArray) : Prop := ∀ i (h : i < s.size), inL s[i] = true
theorem right_ret {b : Nat} (hs : s.size ≤ 1000000) (hS : St w0 F w (Res.cells b 81 setL :: L)) : Ret Tryd.prog 54 #[.string s, .pointer (some ⟨b, 0, none⟩)] w fun v w' => (∃ k, v = .string (s.extract 0 k) ∧ k ≤ s.size ∧ (∀ i (h : i < s.size), k ≤ i → inL s[i] = true) ∧ (∀ h : k - 1 < s.size, 0 < k → inL s[k - 1] = false)) ∧ St w0 F w' (Res.cells b 81 setL :: L) := by
  refine s54 _ _ ?_
  unfold m54 m54_0 m54_1
  refine loop_in (fun u w' => ∃ k : Nat, u = .string (s.extract 0 k) ∧ k ≤ s.size ∧ (∀ i (h : i < s.size), k ≤ i → inL s[i] = true) ∧ St w0 F w' (Res.cells b 81 setL :: L)) (fun u _ => match u with | .string t => t.size | _ => 0) ⟨s.size, by rw [ext_all], Nat.le_refl _, fun i h h2 => by omega, hS⟩ ?_
  clear hS
  rintro u w ⟨k, rfl, hk, hall, hS⟩
  have hz := ext_size s 0 k hk
  unfold m54_4
  refine builtin_ok (len9 _) ?_
  refine valP_ok (gtr_ok _ _ _ _ _ _ _) ?_
  unfold m54_8
  refine cond_split (fun h => ?_) (fun h => ?_)
  · have hk0 : 0 < k := by omega
    have hk1 : k - 1 < s.size := by omega
    unfold m54_5
    refine builtin_ok (len9 _) ?_
    refine valP_ok (sub_ok _ _ _ (by omega) (by omega) _) ?_
    rw [show (((s.extract 0 k).size : Int) - 1) = ((k - 1 : Nat) : Int) by omega]
    refine valP_ok (sidx _ (by omega)) ?_
    rw [ext_get s 0 k (k - 1) hk (by omega)]
    refine callR (by kernel_rfl) (contains_ret _ hS) ?_
    rintro _ w ⟨rfl, hS⟩
    first | refine valP_ok (not_ok _ _) ?_ | refine valP_ok (notb_ok _ _) ?_
    have e0 : s[0 + (k - 1)]'(by omega) = s[k - 1] := by congr 1; omega
    rw [e0]
    unfold m54_7
    cases hb : inL s[k - 1] with
    | false =>
      refine cond_t rfl ?_
      unfold m54_2 m54_3
      exact ⟨⟨k, rfl, hk, hall, fun _ _ => hb⟩, hS⟩
    | true =>
      refine cond_f rfl ?_
      unfold m54_6
      refine builtin_ok (len9 _) ?_
      refine valP_ok (sub_ok _ _ _ (by omega) (by omega) _) ?_
      rw [show (((s.extract 0 k).size : Int) - 1) = ((k - 1 : Nat) : Int) by omega]
      refine valP_ok (sto _ (by omega)) ?_
      rw [ext_take s k (k - 1) (by omega)]
      refine ⟨⟨k - 1, rfl, by omega, fun i h1 h2 => ?_, hS⟩, ?_⟩
      · rcases Nat.lt_or_ge i k with g | g
        · obtain rfl : i = k - 1 := by omega
          exact hb
        · exact hall i h1 g
      · simp only
        rw [ext_size s 0 (k - 1) (by omega), hz]
        omega
  · obtain rfl : k = 0 := by omega
    unfold m54_2 m54_3
    exact ⟨⟨0, rfl, hk, hall, fun _ h => by omega⟩, hS⟩
theorem left_ret {b : Nat} (hS : St w0 F w (Res.cells b 81 setL :: L)) : Ret Tryd.prog 53 #[.string s, .pointer (some ⟨b, 0, none⟩)] w fun v w' => (∃ k, v = .string (s.extract k s.size) ∧ k ≤ s.size ∧ (∀ i (h : i < s.size), i < k → inL s[i] = true)) ∧ St w0 F w' (Res.cells b 81 setL :: L) := by
  refine s53 _ _ ?_
  unfold m53 m53_0 m53_1
  refine loop_in (fun u w' => ∃ k : Nat, u = .string (s.extract k s.size) ∧ k ≤ s.size ∧ (∀ i (h : i < s.size), i < k → inL s[i] = true) ∧ St w0 F w' (Res.cells b 81 setL :: L)) (fun u _ => match u with | .string t => t.size | _ => 0) ⟨0, by rw [ext_all], Nat.zero_le _, fun i h h2 => by omega, hS⟩ ?_
  clear hS
  rintro u w ⟨k, rfl, hk, hall, hS⟩
  have hz := ext_size s k s.size (Nat.le_refl _)
  unfold m53_4
  refine builtin_ok (len9 _) ?_
  refine valP_ok (gtr_ok _ _ _ _ _ _ _) ?_
  unfold m53_8
  refine cond_split (fun h => ?_) (fun h => ?_)
  · have hk1 : k < s.size := by omega
    unfold m53_5
    refine valP_ok (sidx (k := 0) _ (by omega)) ?_
    rw [ext_get s k s.size 0 (Nat.le_refl _) (by omega)]
    refine callR (by kernel_rfl) (contains_ret _ hS) ?_
    rintro _ w ⟨rfl, hS⟩
    first | refine valP_ok (not_ok _ _) ?_ | refine valP_ok (notb_ok _ _) ?_
    have e0 : s[k + 0]'(by omega) = s[k] := rfl
    rw [e0]
    unfold m53_7
    cases hb : inL s[k] with
    | false =>
      refine cond_t rfl ?_
      unfold m53_2 m53_3
      exact ⟨⟨k, rfl, hk, hall⟩, hS⟩
    | true =>
      refine cond_f rfl ?_
      unfold m53_6
      refine valP_ok (sfrom (k := 1) _ (by omega)) ?_
      rw [ext_ext s k s.size 1 (Nat.le_refl _) (by omega)]
      refine ⟨⟨k + 1, rfl, by omega, fun i h1 h2 => ?_, hS⟩, ?_⟩
      · rcases Nat.lt_or_ge i k with g | g
        · exact hall i h1 g
        · obtain rfl : i = k := by omega
          exact hb
      · simp only
        rw [ext_size s (k + 1) s.size (Nat.le_refl _), hz]
        omega
  · unfold m53_2 m53_3
    exact ⟨⟨k, rfl, hk, hall⟩, hS⟩
theorem empty_iff (s : ByteArray) : s = ⟨#[]⟩ ↔ s.size = 0 := by
  constructor
  · rintro rfl; rfl
  · intro h
    apply ByteArray.ext
    exact Array.eq_empty_of_size_eq_zero h
theorem trim_ret (h0 : 0 < s.size) (hs : s.size ≤ 1000000) (hS : St w0 F w L) : Ret Tryd.prog 46 #[.string s, .string letters] w fun v w' => (∃ t, v = .string t ∧ (t = ⟨#[]⟩ ↔ AllL s)) ∧ St w0 F w' L := by
  have hne : ¬ s = ⟨#[]⟩ := fun h => by rw [h] at h0; exact Nat.lt_irrefl 0 h0
  have hl : letters.size = 38 := by decide
  have hln : ¬ letters = ⟨#[]⟩ := fun h => by
    have := congrArg ByteArray.size h
    rw [hl] at this
    exact absurd this (by decide)
  refine s46 _ _ ?_
  unfold m46
  unfold m46_0
  unfold m46_1
  refine valP_ok (eq9 _ _ _ _ _) ?_
  refine cond_df hne ?_
  refine valP_ok (eq9 _ _ _ _ _) ?_
  first | refine pick_dt (by first | assumption | omega) ?_ | refine pick_df (by first | assumption | omega) ?_ | refine pick_t (by first | rfl | assumption) ?_ | refine pick_f (by first | rfl | assumption) ?_ | refine pick_dt rfl ?_ | refine pick_df (not_not_intro rfl) ?_
  unfold m46_11
  refine cond_df hln ?_
  unfold m46_2
  refine builtin_ok (len9 _) ?_
  refine valP_ok (eq3 _ _ _ _ _) ?_
  refine cond_df (by rw [hl]; omega) ?_
  first | refine pick_dt (by first | assumption | omega) ?_ | refine pick_df (by first | assumption | omega) ?_ | refine pick_t (by first | rfl | assumption) ?_ | refine pick_f (by first | rfl | assumption) ?_ | refine pick_dt rfl ?_ | refine pick_df (not_not_intro rfl) ?_
  unfold m46_9
  refine cond_f rfl ?_
  unfold m46_3
  refine call_ok (by kernel_rfl) (Calls.mono (Tryd.strings_makeASCIISet zero81 letters w (by rw [hl]; omega) (by
    have : (letters.data.toList.all fun b => decide (b.toNat < 128)) = true := by decide
    intro j b hb
    exact of_decide_eq_true (List.all_eq_true.1 this b (List.mem_of_getElem? hb)))) fun e w' ⟨he, hw⟩ => ⟨_, he, ?_⟩)
  subst hw
  have hS1 := (hS.alloc 81 setL).tail
  have e1 : setL.toArray = Go.Lib.setCells letters.data.toList := Array.toArray_toList
  rw [e1] at hS1
  generalize w.alloc (.cells (Go.Lib.setCells letters.data.toList) 81) = w1 at *
  refine valP_ok (extract_ok _ 0 rfl _) ?_
  refine valP_ok (extract_ok _ 1 rfl _) ?_
  refine valP_ok (alo81 _) ?_
  refine unitP_ok (sto81 _) ?_
  have hS2 := hS1.alloc 81 setL
  generalize hb : w1.heap.size = b at *
  generalize w1.alloc (.cells setL.toArray 81) = w2 at *
  unfold m46_6 m46_7
  refine cond_t rfl ?_
  refine callR (by kernel_rfl) (right_ret hs hS2) ?_
  rintro _ w ⟨⟨k, rfl, hk, hall, hnot⟩, hS⟩
  refine callR (by kernel_rfl) (left_ret hS) ?_
  rintro _ w ⟨⟨j, rfl, hj, hall2⟩, hS⟩
  unfold m46_8
  refine ⟨⟨_, rfl, ?_⟩, hS.tail⟩
  have hz := ext_size s 0 k hk
  have hz2 := ext_size (s.extract 0 k) j (s.extract 0 k).size (Nat.le_refl _)
  rw [empty_iff, hz2]
  constructor
  · intro h i hi
    rcases Nat.lt_or_ge i k with g | g
    · have hk1 : k - 1 < s.size := by omega
      have h3 := hall2 (k - 1) (by omega) (by omega)
      rw [ext_get s 0 k (k - 1) hk (by omega)] at h3
      have e0 : s[0 + (k - 1)]'(by omega) = s[k - 1] := by congr 1; omega
      rw [e0, hnot hk1 (by omega)] at h3
      cases h3
    · exact hall i hi g
  · intro h
    rcases Nat.eq_zero_or_pos k with g | g
    · omega
    · have hk1 : k - 1 < s.size := by omega
      have := h (k - 1) hk1
      rw [hnot hk1 g] at this
      cases this
/-- may a file have that name? -/
def Named (s : ByteArray) : Prop := 0 < s.size ∧ s.size ≤ 24 ∧ AllL s
instance (s : ByteArray) : Decidable (AllL s) := by unfold AllL; infer_instance
instance (s : ByteArray) : Decidable (Named s) := by unfold Named; infer_instance
theorem named_ret (hS : St w0 F w L) : Ret Tryd.prog 42 #[.string s] w fun v w' => v = .bool (decide (Named s)) ∧ St w0 F w' L := by
  refine s42 _ ?_
  unfold m42
  unfold m42_0
  have leaf : ∀ t : Bool, (t = true ↔ Named s) → ∀ w, St w0 F w L → m42_2 (fun v w' => v = .bool (decide (Named s)) ∧ St w0 F w' L) (.bool t) w := fun t ht w hS => by
    unfold m42_2
    refine ⟨congrArg Value.bool ?_, hS⟩
    cases t with
    | true => exact (decide_eq_true (ht.1 rfl)).symm
    | false => exact (decide_eq_false fun h => by have := ht.2 h; cases this).symm
  unfold m42_1
  refine valP_ok (ne9 _ _ _ _ _) ?_
  refine cond_split (fun h => ?_) (fun h => ?_)
  · refine builtin_ok (len9 _) ?_
    refine valP_ok (leq_ok _ _ _ _ _ _ _) ?_
    first | refine pick_dt (by first | assumption | omega) ?_ | refine pick_df (by first | assumption | omega) ?_ | refine pick_t (by first | rfl | assumption) ?_ | refine pick_f (by first | rfl | assumption) ?_ | refine pick_dt rfl ?_ | refine pick_df (not_not_intro rfl) ?_
    refine cond_split (fun h1 => ?_) (fun h1 => ?_)
    · have h0 : 0 < s.size := by
        rcases Nat.eq_zero_or_pos s.size with g | g
        · exact absurd ((empty_iff s).2 g) h
        · exact g
      refine callR (by kernel_rfl) (trim_ret h0 (by omega) hS) ?_
      rintro _ w ⟨⟨t, rfl, ht⟩, hS⟩
      refine valP_ok (eq9 _ _ _ _ _) ?_
      first | refine pick_dt (by first | assumption | omega) ?_ | refine pick_df (by first | assumption | omega) ?_ | refine pick_t (by first | rfl | assumption) ?_ | refine pick_f (by first | rfl | assumption) ?_ | refine pick_dt rfl ?_ | refine pick_df (not_not_intro rfl) ?_
      refine leaf _ ?_ _ hS
      rw [decide_eq_true_eq, ht]
      unfold Named
      exact ⟨fun h => ⟨h0, by omega, h⟩, fun h => h.2.2⟩
    · first | refine pick_dt (by first | assumption | omega) ?_ | refine pick_df (by first | assumption | omega) ?_ | refine pick_t (by first | rfl | assumption) ?_ | refine pick_f (by first | rfl | assumption) ?_ | refine pick_dt rfl ?_ | refine pick_df (not_not_intro rfl) ?_
      exact leaf _ (by unfold Named; exact ⟨fun h => (by cases h), fun h => by omega⟩) _ hS
  · first | refine pick_dt (by first | assumption | omega) ?_ | refine pick_df (by first | assumption | omega) ?_ | refine pick_t (by first | rfl | assumption) ?_ | refine pick_f (by first | rfl | assumption) ?_ | refine pick_dt rfl ?_ | refine pick_df (not_not_intro rfl) ?_
    refine cond_f rfl ?_
    first | refine pick_dt (by first | assumption | omega) ?_ | refine pick_df (by first | assumption | omega) ?_ | refine pick_t (by first | rfl | assumption) ?_ | refine pick_f (by first | rfl | assumption) ?_ | refine pick_dt rfl ?_ | refine pick_df (not_not_intro rfl) ?_
    refine leaf _ ⟨fun h => (by cases h), fun h1 => ?_⟩ _ hS
    exact absurd h1.1 (by rw [(empty_iff s).1 (Classical.not_not.1 h)]; omega)
end

end Go.Proofs.YtcldjjmfpmkldaaDoor.M
