/- The members' row: slices.DeleteFunc, slices.Compact. -/
import Derived.Test.YtjjmlopmemmobaaXS
import Derived.Test.YtjjmlopmemmobaaXM
import Derived.Test.YtjjmlopmemmobaaGen
import Derived.Lib.OwnBridge
import Derived.Lib.SliceRun
namespace Go.Proofs.Ytjjmlopmemmobaa.L
open Go.RowKit
set_option linter.unusedVariables false
set_option linter.unusedSimpArgs false

/-! ### The members' row -/
open Go.Shelf Go.Sort
/-- The slice that starts at A holds the list M, in a block of the call's own that may be written. -/
def RowAt (B : Nat) (W : World) (A : Option Addr) (M : List Int) (c : Nat) : Prop :=
  (A = none ∧ M = []) ∨ ∃ g, A = some ⟨g, 0, none⟩ ∧ B ≤ g ∧ g < W.heap.size ∧ Holds (Value.int .i64) W g 0 M.toArray ∧ M.length ≤ c
theorem RowAt.below {B : Nat} {W W' : World} {A : Option Addr} {M : List Int} {c : Nat} (h : RowAt B W A M c) (hb : Below W.heap.size W W') : RowAt B W' A M c := by
  rcases h with h | ⟨g, e, h1, h2, h3, h4⟩
  · exact .inl h
  · refine .inr ⟨g, e, h1, Nat.lt_of_lt_of_le h2 hb.size, fun j hj => ?_, h4⟩
    have hl : W'.heap[g]? = W.heap[g]? := hb.block g h2
    obtain ⟨a1, a2⟩ := h3 j hj
    refine ⟨?_, ?_⟩
    · rw [← a1]; exact hb.cell (p := ⟨g, 0 + j, none⟩) h2
    · rw [← a2]; unfold World.frozen?; rw [hl]
theorem RowAt.of_owns {B : Nat} {W : World} {v : Value} {M : List Int} (h : W.ownsRow B 3 1 v M.length (M.map (Value.int .i64))) : ∃ A c, v = .slice A M.length c ∧ RowAt B W A M c ∧ (A = none → c = 0) := by
  rcases h.2 with ⟨rfl, hz⟩ | ⟨gb, cap, cur, rfl, hbase, hgb, r1, r2, r3, r4⟩
  · have : M = [] := List.eq_nil_of_length_eq_zero hz
    subst this
    exact ⟨none, 0, rfl, .inl ⟨rfl, rfl⟩, fun _ => rfl⟩
  · exact ⟨_, cap, rfl, .inr ⟨gb, rfl, hbase, (Array.getElem?_eq_some_iff.1 hgb).1, holds_of_block_i hgb (by simpa using r4), r1⟩, fun e => by cases e⟩
theorem Holds.head {W : World} {g : Nat} {a b : List Int} (h : Holds (Value.int .i64) W g 0 (a ++ b).toArray) : Holds (Value.int .i64) W g 0 a.toArray := by
  intro j hj
  have hj' : j < a.length := hj
  have hx : j < (a ++ b).toArray.size := by show j < (a ++ b).length; rw [List.length_append]; omega
  obtain ⟨h1, h2⟩ := h j hx
  refine ⟨?_, h2⟩
  rw [h1]
  congr 2
  rw [getElem!_pos (a ++ b).toArray j hx, getElem!_pos a.toArray j hj]
  show (a ++ b)[j] = a[j]
  rw [List.getElem_append_left hj']
theorem RowAt.put {B : Nat} {W : World} {g c q : Nat} {M R Z : List Int} (hg : B ≤ g) (hl : g < W.heap.size) (h : Holds (Value.int .i64) W g 0 M.toArray) (hlen : (R ++ Z).length = M.length) (hc : M.length ≤ c) :
    RowAt B (putRow (Value.int .i64) (Sort.ahead W q) g 0 (R ++ Z).toArray) (some ⟨g, 0, none⟩) R c ∧ Below B W (putRow (Value.int .i64) (Sort.ahead W q) g 0 (R ++ Z).toArray) := by
  have h0 : Holds (Value.int .i64) (Sort.ahead W q) g 0 M.toArray := h
  have h1 := holds_putRow (Value.int .i64) (Sort.ahead W q) g 0 M.toArray (R ++ Z).toArray h0 (by show (R ++ Z).length = M.length; exact hlen)
  refine ⟨.inr ⟨g, rfl, hg, by rw [size_putRow]; exact hl, Holds.head h1, ?_⟩, Lib.below_putRow (Below.refl _ _) hg⟩
  rw [List.length_append] at hlen; omega
set_option maxHeartbeats 1000000 in
theorem above_gives (x : Int) (W : World) : FnGives Try.prog 117 #[] #[.int .i64 x] (.bool (decide (x ≤ 0))) W := by
  show Calls Try.prog 117 #[.int .i64 x] W _
  go_enter Try.func117, Try.ntmps117
  go_wp2
  all_goals (go_ret; exact ⟨by simp_all, 0, rfl⟩)
def aboveL (xs : List Int) : List Int := xs.filter fun x => !decide (x ≤ 0)
set_option maxHeartbeats 1000000 in
theorem index_nil (c : Nat) (W : World) : Calls Try.prog 90 #[.slice none 0 c, .func (.func 117) #[] #[]] W fun e w' => e = .returned (.int .i64 (-1)) ∧ w' = W := by
  go_enter Try.func90, Try.ntmps90
  go_wp2
  go_loopw [8] (fun v wr => v = .int .i64 0 ∧ wr = W) (fun _ _ => 0)
  case atStart => exact ⟨rfl, rfl⟩
  case round =>
    obtain ⟨rfl, rfl⟩ := hrel
    go_wp2
    go_ret
    exact ⟨rfl, rfl⟩
set_option maxHeartbeats 1000000 in
theorem delete_calls (B : Nat) (A : Option Addr) (c : Nat) (M : List Int) (W : World) (h : RowAt B W A M c) (hlen : M.length ≤ maxLen) (hc0 : A = none → c = 0) :
    Calls Try.prog 65 #[.slice A M.length c, .func (.func 117) #[] #[]] W fun e w' => e = .returned (.slice A (aboveL M).length c) ∧ RowAt B w' A (aboveL M) c ∧ Below B W w' := by
  have eg : ∀ args w, (callFunc 117 args).run Try.prog w = .ok (.enter 117 args) w := enters_of Try.func117 (by kernel_rfl) rfl
  rcases h with ⟨rfl, rfl⟩ | ⟨g, rfl, h1, h2, h3, h4⟩
  · obtain rfl := hc0 rfl
    have cI := index_nil 0 W
    go_enter Try.func65, Try.ntmps65
    go_wp2_with (go_at_call 90; refine cI.mono ?_; rintro e w' ⟨rfl, rfl⟩)
    go_ret
    exact ⟨rfl, .inl ⟨rfl, rfl⟩, Below.refl _ _⟩
  · have hcon := AnyE.slices_DeleteFunc Try.delL (Value.int .i64) (fun _ => rfl) (fun x => decide (x ≤ 0)) 117 #[] eg 0 Try.zeroValue3 g 0 c M.toArray W
      (fun W' x _ => above_gives x W') (fun n os dk x _ => above_gives x _) h3 (show M.length ≤ 9223372036854775807 from Nat.le_trans hlen (by decide)) h4
    change Calls Try.prog 65 _ _ _ at hcon
    refine hcon.mono ?_
    rintro e w' ⟨rfl, q, rfl⟩
    have hfl : (aboveL M).length ≤ M.length := List.length_filter_le _ _
    obtain ⟨a, b⟩ := RowAt.put (q := q) (R := aboveL M) (Z := List.replicate (M.length - (aboveL M).length) 0) h1 h2 h3 (by rw [List.length_append, List.length_replicate]; omega) h4
    exact ⟨rfl, a, b⟩
set_option maxHeartbeats 1000000 in
theorem compact_calls (B : Nat) (A : Option Addr) (c : Nat) (M : List Int) (W : World) (h : RowAt B W A M c) (hlen : M.length ≤ maxLen) :
    Calls Try.prog 118 #[.slice A M.length c] W fun e w' => e = .returned (.slice A (Lib.compact M).length c) ∧ RowAt B w' A (Lib.compact M) c ∧ Below B W w' := by
  rcases h with ⟨rfl, rfl⟩ | ⟨g, rfl, h1, h2, h3, h4⟩
  · refine (Try.slices_Compact_int_empty none c W).mono ?_
    rintro e w' ⟨rfl, rfl⟩
    exact ⟨rfl, .inl ⟨rfl, rfl⟩, Below.refl _ _⟩
  · refine (Try.slices_Compact_int g 0 c M W h3 (Nat.le_trans hlen (by decide)) h4).mono ?_
    rintro e w' ⟨rfl, q, rfl⟩
    have hfl := Lib.compact_length_le M
    obtain ⟨a, b⟩ := RowAt.put (q := q) (R := Lib.compact M) (Z := List.replicate (M.length - (Lib.compact M).length) 0) h1 h2 h3 (by rw [List.length_append, List.length_replicate]; omega) h4
    exact ⟨rfl, a, b⟩
end Go.Proofs.Ytjjmlopmemmobaa.L
