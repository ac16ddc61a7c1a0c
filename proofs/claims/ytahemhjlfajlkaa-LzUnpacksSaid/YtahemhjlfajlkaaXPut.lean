/- What varint.Put comes to, for every number. -/
import Derived.Test.YtahemhjlfajlkaaPLx0
import Derived.Lib.Hide
namespace Go.Proofs.Ytahemhjlfajlkaa.PL
open Go.RowKit Go.Proofs.YtahemhjlfajlkaaW.PrintWords Go.Proofs.YtahemhjlfajlkaaW.PrintLast Go.Proofs.YtahemhjlfajlkaaW.PrintMore
set_option linter.unusedVariables false
set_option linter.unusedSimpArgs false
def intOf' : Value → Int | .int _ q => q | _ => 0

/-! ### varint.Put -/
def leb (u : Nat) : List Int := if u < 128 then [(u : Int)] else ((u % 128 + 128 : Nat) : Int) :: leb (u / 128)
theorem leb_lo {u : Nat} (h : u < 128) : leb u = [(u : Int)] := by rw [leb, if_pos h]
theorem leb_hi {u : Nat} (h : ¬ u < 128) : leb u = ((u % 128 + 128 : Nat) : Int) :: leb (u / 128) := by rw [leb, if_neg h]
theorem leb_pos (u : Nat) : 1 ≤ (leb u).length := by rw [leb]; split <;> simp
theorem leb_len (m u : Nat) (h : u < 128 ^ m) (hm : 1 ≤ m) : (leb u).length ≤ m := by
  induction m generalizing u with
  | zero => omega
  | succ m ih =>
    by_cases h1 : u < 128
    · rw [leb_lo h1]; simp
    · rw [leb_hi h1, List.length_cons]
      cases m with
      | zero => simp at h; omega
      | succ m =>
        have := ih (u / 128) (by rw [Nat.pow_succ] at h; exact Nat.div_lt_of_lt_mul (by omega)) (by omega)
        omega
def zzI (n : Int) : Int := bits .xor .u64 (IntKind.u64.wrap (IntKind.u64.wrap n * 2)) (IntKind.u64.wrap (n / 9223372036854775808))
theorem u64_range (x : Int) : 0 ≤ IntKind.u64.wrap x ∧ IntKind.u64.wrap x < 18446744073709551616 := by
  simp only [IntKind.wrap, IntKind.signed, IntKind.bits]
  exact ⟨Int.emod_nonneg _ (by decide), Int.emod_lt_of_pos _ (by decide)⟩
theorem zzI_range (n : Int) : 0 ≤ zzI n ∧ zzI n < 18446744073709551616 := u64_range _
def varint_Put.f (n : Int) : Option ByteArray := some (strOfNums (leb (zzI n).toNat))
theorem or128 (u : Nat) : bits .or .u8 ((u : Int) % 256) 128 = ((u % 128 + 128 : Nat) : Int) := by
  have e1 : ((u : Int) % 256) = ((u % 256 : Nat) : Int) := by omega
  rw [e1, show (128 : Int) = ((128 : Nat) : Int) from rfl, (bits_nat .u8 8 (by decide) wraps_u8 (u % 256) 128 (by omega) (by omega)).2]
  congr 1
  have h : u % 256 % 128 = u % 128 := by omega
  by_cases h2 : u % 256 < 128
  · have := Nat.two_pow_add_eq_or_of_lt (i := 7) (b := u % 256) h2 1
    rw [show 2 ^ 7 * 1 = 128 from rfl] at this
    rw [Nat.or_comm]
    omega
  · have := Nat.two_pow_add_eq_or_of_lt (i := 7) (b := u % 256 - 128) (by omega) 1
    rw [show 2 ^ 7 * 1 = 128 from rfl] at this
    have e3 : u % 256 = 128 ||| (u % 256 - 128) := by omega
    rw [e3, Nat.or_comm, ← Nat.or_assoc, Nat.or_self]
    omega
/-- The array's cells. -/
def arrBlk (w : World) (B : Nat) (xs : List Int) : Prop := w.heap[B]? = some (.cells (xs.map (Value.int .u8)).toArray 61 (0, 0))
theorem arrBlk_cell {w : World} {B : Nat} {xs : List Int} (h : arrBlk w B xs) (i : Nat) (hi : i < xs.length) : w.cell? ⟨B, i, none⟩ = some (.int .u8 (xs.getD i 0)) := by
  rw [blk_cell h i]; simp [List.getD, hi]
theorem arrBlk_set {w : World} {B : Nat} {xs : List Int} (h : arrBlk w B xs) (i : Nat) (v : Int) : arrBlk (w.setCell ⟨B, i, none⟩ (.int .u8 v)) B (xs.set i v) := by
  unfold arrBlk
  rw [blk_set h i]
  congr 2
  apply Array.toList_inj.mp
  simp [List.map_set]
theorem arrLen : Try.prog.arrayLen 61 = 10 := by kernel_rfl
def PutRel (w : World) (u0 : Nat) (v3 v5 : Value) (w' : World) : Prop :=
  ∃ (k u : Nat) (xs : List Int), v3 = .int .u64 u ∧ v5 = .int .i64 k ∧ xs.length = 10 ∧ Hid (xs.take k ++ leb u = leb u0) ∧ k + (leb u).length ≤ 10 ∧ u < 18446744073709551616 ∧ arrBlk w' w.heap.size xs ∧ Below w.heap.size w w'
theorem take_set_succ (xs : List Int) (k : Nat) (v : Int) (h : k < xs.length) : (xs.set k v).take (k + 1) = xs.take k ++ [v] := by
  rw [List.take_succ_eq_append_getElem (by simpa using h), List.getElem_set_self, List.take_set_of_le (Nat.le_refl k)]
set_option maxRecDepth 1000000 in
set_option maxHeartbeats 4000000 in
theorem put_walk (n : Int) (w : World) :
    Calls Try.prog 27 #[.int .i64 n] w fun e w' => e = .returned (.string (strOfNums (leb (zzI n).toNat))) ∧ Below w.heap.size w w' := by
  obtain ⟨u0, hu0⟩ : ∃ u0 : Nat, zzI n = (u0 : Int) := ⟨(zzI n).toNat, by have := (zzI_range n).1; omega⟩
  have hlt : u0 < 18446744073709551616 := by have := (zzI_range n).2; omega
  rw [hu0, Int.toNat_natCast]
  have H0 : Hid (zzI n = (u0 : Int)) := hu0
  clear hu0
  go_enter Try.func27, Try.ntmps27
  go_wp2
  go_loopw [3, 5] (PutRel w u0) (fun _ v _ => 10 - (intOf' v).toNat)
  case atStart =>
    refine ⟨0, u0, [0, 0, 0, 0, 0, 0, 0, 0, 0, 0], ?_, rfl, rfl, rfl, ?_, hlt, blk_new w _, below_alloc (Below.refl _ _) _⟩
    · rw [← H0.out]; rfl
    · have := leb_len 10 u0 (by omega) (by decide); omega
  case round =>
    obtain ⟨k, u, xs, rfl, rfl, hx, HU, hk, hu, hb, HB⟩ := hrel
    have hp := leb_pos u
    have hfr := blk_frozen hb k
    by_cases h128 : (128 : Int) ≤ u
    · have e1 := leb_hi (u := u) (by omega)
      have hk' : k + 1 + (leb (u / 128)).length ≤ 10 := by rw [e1, List.length_cons] at hk; omega
      have hp' := leb_pos (u / 128)
      have E1 := Lib.hid e1
      have HK := Lib.hid hk
      clear e1 hk
      have hcell := arrBlk_cell hb k (by omega)
      have b1 : decide ((128 : Int) ≤ (u : Int)) = true := decide_eq_true h128
      have b2 : (0 ≤ (k : Int)) = True := eq_true (by omega)
      have b3 : ((k : Int) < 10) = True := eq_true (by omega)
      have or1 := or128 u
      have al := arrLen
      clear hp hp'
      have HX := Lib.hid hx
      clear hx
      go_wp2
      go_roundw
      case rel =>
        refine ⟨k + 1, u / 128, xs.set k ((u % 128 + 128 : Nat) : Int), by go_num, by go_num, by rw [List.length_set]; exact HX.out, ?_, hk', by omega, arrBlk_set hb k _, ?_⟩
        · show List.take (k + 1) _ ++ _ = _
          have := HX.out
          rw [take_set_succ _ _ _ (by omega), List.append_assoc, List.singleton_append, ← E1.out]
          exact HU.out
        · exact HB.setCell (Nat.le_refl _) _
      case measure => simp [intOf']; omega
    · have e1 := leb_lo (u := u) (by omega)
      have E1 := Lib.hid e1
      have hk9 : k < 10 := by omega
      clear e1
      have hcell := arrBlk_cell hb k (by omega)
      have b1 : decide ((128 : Int) ≤ (u : Int)) = false := decide_eq_false h128
      have b2 : (0 ≤ (k : Int)) = True := eq_true (by omega)
      have b3 : ((k : Int) < 10) = True := eq_true (by omega)
      have b4 : (0 ≤ (k : Int) + 1) = True := eq_true (by omega)
      have b5 : ((k : Int) + 1 ≤ 10) = True := eq_true (by omega)
      have al := arrLen
      have eu : (u : Int) % 256 = (u : Int) := by omega
      have hb2 := arrBlk_set hb k (u : Int)
      have hcv := run_convert_bytes_arg (P := Try.prog) (wr.setCell ⟨w.heap.size, k, none⟩ (.int .u8 (u : Int))) 32 5 Try.underlying32 Try.underlying5 w.heap.size 0 (k + 1) 10 ((xs.set k (u : Int)).take (k + 1)) (by rw [List.length_take, List.length_set, hx]; omega)
        (fun i hi => by
          rw [Nat.zero_add, arrBlk_cell hb2 i (by rw [List.length_set, hx]; omega)]
          simp [List.getD, List.getElem?_take, hi]) 9 Try.underlying9
      have HX := Lib.hid hx
      clear hx hp hk hb2
      go_wp2
      go_ret
      have efin : List.take (k + 1) (xs.set k (u : Int)) = leb u0 := by rw [take_set_succ _ _ _ (by rw [HX.out]; exact hk9), ← E1.out, HU.out]
      refine ⟨?_, HB.setCell (Nat.le_refl _) _⟩
      exact congrArg (fun l => Ending.returned (Value.string (strOfNums l))) efin
theorem varint_Put.calls (a0 : Int) (r : ByteArray) (w : World) (h : varint_Put.f a0 = some r) :
    Calls Try.prog 27 #[.int .i64 a0] w fun e w' => e = .returned (.string r) ∧ Below w.heap.size w w' := by
  obtain rfl := Option.some.inj h
  exact put_walk a0 w
end Go.Proofs.Ytahemhjlfajlkaa.PL
