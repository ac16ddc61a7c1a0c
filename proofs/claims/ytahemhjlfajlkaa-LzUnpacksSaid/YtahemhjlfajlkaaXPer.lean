/- What lz.period comes to. -/
import Derived.Test.YtahemhjlfajlkaaXPerP
namespace Go.Proofs.Ytahemhjlfajlkaa.PL
open Go.RowKit Go.Proofs.YtahemhjlfajlkaaW.PrintWords Go.Proofs.YtahemhjlfajlkaaW.PrintLast Go.Proofs.YtahemhjlfajlkaaW.PrintMore
set_option linter.unusedVariables false
set_option linter.unusedSimpArgs false

/-! ### lz.period -/
def rowI (w : World) (B : Nat) (xs : List Int) : Prop := w.heap[B]? = some (.cells (xs.map (Value.int .i64)).toArray 3 (0, 0))
theorem rowI_cell {w : World} {B : Nat} {xs : List Int} (h : rowI w B xs) (i : Nat) (hi : i < xs.length) : w.cell? ⟨B, i, none⟩ = some (.int .i64 (xs.getD i 0)) := by
  rw [blk_cell h i]; simp [List.getD, hi]
theorem rowI_set {w : World} {B : Nat} {xs : List Int} (h : rowI w B xs) (i : Nat) (v : Int) : rowI (w.setCell ⟨B, i, none⟩ (.int .i64 v)) B (xs.set i v) := by
  unfold rowI
  rw [blk_set h i]
  congr 2
  apply Array.toList_inj.mp
  simp [List.map_set]
theorem byteAt_get (s : ByteArray) (i : Nat) (h : i < s.size) : byteAt s i = s[i].toNat := by
  unfold byteAt
  have h' : i < s.data.toList.length := by rw [Array.length_toList]; exact h
  simp only [List.getD, List.getElem?_eq_getElem h', Option.getD_some]
  rfl
theorem rowI_drewN {w : World} {B : Nat} {xs : List Int} (h : rowI w B xs) (n : Nat) : rowI (w.drewN n) B xs := h
theorem below_drewN' {B : Nat} {a w : World} (h : Below B a w) (n : Nat) : Below B a (w.drewN n) := ⟨h.os, h.tape, h.output, h.size, h.block⟩
theorem per_step {s : ByteArray} {i k k' : Nat} {xs : List Int} (h : k = piN s i ∧ (i = 1 ∨ i ≤ s.size) ∧ xs.length = s.size + 1 ∧ ∀ j, j ≤ i → j ≤ s.size → xs.getD j 0 = ((piN s j : Nat) : Int)) (he : piN s (i + 1) = k') (hl : i < s.size) :
    Hid (k' = piN s (i + 1) ∧ (i + 1 = 1 ∨ i + 1 ≤ s.size) ∧ (xs.set (i + 1) (k' : Int)).length = s.size + 1 ∧ ∀ j, j ≤ i + 1 → j ≤ s.size → (xs.set (i + 1) (k' : Int)).getD j 0 = ((piN s j : Nat) : Int)) := by
  obtain ⟨h1, h2, h3, h4⟩ := h
  refine ⟨he.symm, .inr hl, by rw [List.length_set]; exact h3, fun j hj hj2 => ?_⟩
  by_cases e : j = i + 1
  · subst e
    simp [List.getD, h3, show i + 1 < s.size + 1 by omega, he]
  · have := h4 j (by omega) hj2
    rw [← this]
    simp only [List.getD, List.getElem?_set]
    rw [if_neg (by omega)]
def PerRel (w : World) (s : ByteArray) (v4 v5 : Value) (w' : World) : Prop :=
  ∃ (i k : Nat) (xs : List Int), v4 = .int .i64 k ∧ v5 = .int .i64 i ∧ 1 ≤ i ∧ i ≤ s.size + 1 ∧ Hid (k = piN s i ∧ (i = 1 ∨ i ≤ s.size) ∧ xs.length = s.size + 1 ∧ ∀ j, j ≤ i → j ≤ s.size → xs.getD j 0 = ((piN s j : Nat) : Int)) ∧ rowI w' w.heap.size xs ∧ Below w.heap.size w w'
def PerIn (w : World) (s : ByteArray) (i : Nat) (xs : List Int) (v4 : Value) (w' : World) : Prop :=
  ∃ k : Nat, v4 = .int .i64 k ∧ k ≤ i ∧ Hid (PInv s i k) ∧ rowI w' w.heap.size xs ∧ Below w.heap.size w w'
theorem infoInt : (Try.prog.info? 3).map (fun i => (i.zero, i.size, i.bytes)) = some (some (.int .i64 0), 1, 8) := by kernel_rfl
theorem madeI (n : Nat) : madeCells (Value.int .i64 0).cells (n * 1) = Array.replicate n (Value.int .i64 0) := by
  apply Array.ext
  · simp [size_madeCells]
  · intro i h1 h2
    simp [madeCells, Value.cells, Nat.mod_one]
theorem rowI_made (w : World) (n : Nat) : rowI (w.alloc (.cells (Array.replicate n (Value.int .i64 0)) 3)) w.heap.size (List.replicate n 0) := by
  unfold rowI
  rw [blk_new w _, List.map_replicate, List.toArray_replicate]
set_option maxHeartbeats 4000000 in
set_option maxRecDepth 100000 in
theorem period_walk (s : ByteArray) (w : World) (hs : s.size ≤ 1048576) :
    Calls Try.prog 19 #[.string s] w fun e w' => e = .returned (.int .i64 ((s.size : Int) - ((piN s s.size : Nat) : Int))) ∧ Below w.heap.size w w' := by
  obtain ⟨i0, hi, hz0, hz1, hz2⟩ := info_parts infoInt
  have hmk := run_makeSlice (P := Try.prog) w 59 3 i0 (.int .i64 0) Try.underlying59 hi hz0 .i64 .i64 ((s.size : Int) + 1) ((s.size : Int) + 1) (by omega) (by omega) (by rw [hz1]; omega) (by rw [hz2]; omega) (by omega)
  rw [hz1, show ((s.size : Int) + 1).toNat = s.size + 1 by omega, madeI] at hmk
  clear hi hz0 hz1 hz2
  go_enter Try.func19, Try.ntmps19
  go_wp2
  clear hmk
  go_loopw [4, 5] (PerRel w s) (fun _ v _ => s.size + 1 - (intOf' v).toNat)
  case atStart =>
    refine ⟨1, 0, List.replicate (s.size + 1) 0, rfl, rfl, by omega, by omega, ⟨(piN_one s).symm, .inl rfl, by simp, ?_⟩, rowI_made w _, below_alloc (Below.refl _ _) _⟩
    intro j hj hj2
    have : piN s j = 0 := by
      rcases Nat.lt_or_ge j 1 with h | h
      · obtain rfl : j = 0 := by omega
        rfl
      · obtain rfl : j = 1 := by omega
        exact piN_one s
    rw [this]
    simp [List.getD, show j < s.size + 1 by omega]
  case round =>
    obtain ⟨i, k, xs, rfl, rfl, h1, h2, HX, hb, HB⟩ := hrel
    by_cases hlt : i < s.size
    · have b1 : decide (i < s.size) = true := decide_eq_true hlt
      have HL := Lib.hid hlt
      have hkk : k ≤ i := by have := HX.out.1; have := piN_lt s i (by omega); omega
      go_wp2
      obtain ⟨wo, hwo⟩ : ∃ wo : World, wo = wr := ⟨_, rfl⟩
      clear hwo
      go_loopw [4] (PerIn w s i xs) (fun v _ => (intOf' v).toNat)
      case atStart => exact ⟨k, rfl, hkk, by have := HX.out.1; subst this; exact PInv_start s i (by omega), hb, HB⟩
      case round =>
        obtain ⟨k2, rfl, hk2, HP, hb2, HB2⟩ := hrel
        clear hb HB
        have hks : k2 < s.size := by omega
        have p1 : (0 ≤ (i : Int)) = True := eq_true (by omega)
        have p2 : ((i : Int) < (s.size : Int)) = True := eq_true (by omega)
        have p3 : (0 ≤ (k2 : Int)) = True := eq_true (by omega)
        have p4 : ((k2 : Int) < (s.size : Int)) = True := eq_true (by omega)
        by_cases he : s[i].toNat = s[k2].toNat
        · have q1 : ((s[i].toNat : Int) == (s[k2].toNat : Int)) = true := beq_iff_eq.mpr (by omega)
          have q2 : ((s[i].toNat : Int) != (s[k2].toNat : Int)) = false := bne_eq_false_iff_eq.mpr (by omega)
          have HE : Hid (piN s (i + 1) = k2 + 1) := PInv_hit HP.out (by rw [byteAt_get s i hlt, byteAt_get s k2 hks]; exact he)
          clear he
          by_cases hk0 : 0 < k2
          · have r1 : decide ((0 : Int) < (k2 : Int)) = true := decide_eq_true (by omega)
            have hcell := rowI_cell hb2 (i + 1) (by have := HX.out.2.2.1; omega)
            have hfr := blk_frozen hb2 (i + 1)
            have c1 : (0 ≤ (i : Int) + 1) = True := eq_true (by omega)
            have c2 : ((i : Int) + 1 < (s.size : Int) + 1) = True := eq_true (by omega)
            go_wp2
            go_quiet (fail)
            go_wp2
            go_quiet (fail)
            go_wp2
            refine ⟨⟨i + 1, k2 + 1, xs.set (i + 1) ((k2 + 1 : Nat) : Int), by go_num, by go_num, by omega, by omega, per_step HX.out HE.out HL.out, rowI_set (rowI_drewN hb2 _) (i + 1) _, (below_drewN' HB2 _).setCell (Nat.le_refl _) _⟩, by simp [intOf']; omega⟩
          · have r1 : decide ((0 : Int) < (k2 : Int)) = false := decide_eq_false (by omega)
            have hcell := rowI_cell hb2 (i + 1) (by have := HX.out.2.2.1; omega)
            have hfr := blk_frozen hb2 (i + 1)
            have c1 : (0 ≤ (i : Int) + 1) = True := eq_true (by omega)
            have c2 : ((i : Int) + 1 < (s.size : Int) + 1) = True := eq_true (by omega)
            go_wp2
            go_quiet (fail)
            go_wp2
            go_quiet (fail)
            go_wp2
            refine ⟨⟨i + 1, k2 + 1, xs.set (i + 1) ((k2 + 1 : Nat) : Int), by go_num, by go_num, by omega, by omega, per_step HX.out HE.out HL.out, rowI_set (rowI_drewN hb2 _) (i + 1) _, (below_drewN' HB2 _).setCell (Nat.le_refl _) _⟩, by simp [intOf']; omega⟩
        · have q1 : ((s[i].toNat : Int) == (s[k2].toNat : Int)) = false := beq_eq_false_iff_ne.mpr (by omega)
          have q2 : ((s[i].toNat : Int) != (s[k2].toNat : Int)) = true := bne_iff_ne.mpr (by omega)
          by_cases hk0 : 0 < k2
          · have r1 : decide ((0 : Int) < (k2 : Int)) = true := decide_eq_true (by omega)
            have HN : Hid (PInv s i (piN s k2)) := PInv_step HP.out hk0 (by rw [byteAt_get s i hlt, byteAt_get s k2 hks]; exact he)
            have hcell := rowI_cell hb2 k2 (by have := HX.out.2.2.1; omega)
            rw [HX.out.2.2.2 k2 hk2 (by omega)] at hcell
            have hpl := piN_lt s k2 hk0
            have c1 : ((k2 : Int) < (s.size : Int) + 1) = True := eq_true (by omega)
            clear he
            go_wp2
            go_quiet (fail)
            go_wp2
            go_roundw
            case rel => exact ⟨piN s k2, rfl, by omega, HN, rowI_drewN hb2 _, below_drewN' HB2 _⟩
            case measure => simp [intOf']; omega
          · have r1 : decide ((0 : Int) < (k2 : Int)) = false := decide_eq_false (by omega)
            have HE : Hid (piN s (i + 1) = 0) := by
              obtain rfl : k2 = 0 := by omega
              exact PInv_miss HP.out (by rw [byteAt_get s i hlt, byteAt_get s 0 hks]; exact he)
            obtain rfl : k2 = 0 := by omega
            clear he
            have hcell := rowI_cell hb2 (i + 1) (by have := HX.out.2.2.1; omega)
            have hfr := blk_frozen hb2 (i + 1)
            have c1 : (0 ≤ (i : Int) + 1) = True := eq_true (by omega)
            have c2 : ((i : Int) + 1 < (s.size : Int) + 1) = True := eq_true (by omega)
            go_wp2
            go_quiet (fail)
            go_wp2
            go_quiet (fail)
            go_wp2
            refine ⟨⟨i + 1, 0, xs.set (i + 1) ((0 : Nat) : Int), by go_num, by go_num, by omega, by omega, per_step HX.out HE.out HL.out, rowI_set (rowI_drewN hb2 _) (i + 1) _, (below_drewN' HB2 _).setCell (Nat.le_refl _) _⟩, by simp [intOf']; omega⟩
    · have b1 : decide (i < s.size) = false := decide_eq_false hlt
      have hcell := rowI_cell hb s.size (by have := HX.out.2.2.1; omega)
      rw [HX.out.2.2.2 s.size (by omega) (Nat.le_refl _)] at hcell
      have c1 : (0 ≤ (s.size : Int)) = True := eq_true (by omega)
      have c2 : ((s.size : Int) < (s.size : Int) + 1) = True := eq_true (by omega)
      have hpl : piN s s.size ≤ s.size := piF_le s s.size s.size
      go_wp2
      go_ret
      exact ⟨rfl, HB⟩
end Go.Proofs.Ytahemhjlfajlkaa.PL
