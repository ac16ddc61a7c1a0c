/- What lz.literal and varint.PutAll come to. -/
import Derived.Test.YtahemhjlfajlkaaXBuild
import Derived.Test.YtahemhjlfajlkaaXPut
namespace Go.Proofs.Ytahemhjlfajlkaa.PL
open Go.RowKit Go.Proofs.YtahemhjlfajlkaaW.PrintWords Go.Proofs.YtahemhjlfajlkaaW.PrintLast Go.Proofs.YtahemhjlfajlkaaW.PrintMore
set_option linter.unusedVariables false
set_option linter.unusedSimpArgs false

/-! ### lz.literal, varint.PutAll -/
def putB (n : Int) : ByteArray := strOfNums (leb (zzI n).toNat)
theorem strOfNums_size (l : List Int) : (strOfNums l).size = l.length := by
  unfold strOfNums
  show (List.toArray _).size = _
  simp
theorem putB_size (n : Int) : (putB n).size ≤ 10 := by
  unfold putB; rw [strOfNums_size]
  have := zzI_range n
  exact leb_len 10 _ (by omega) (by decide)
theorem cells_app (l : List UInt8) (s : ByteArray) : Lib.byteCells l ++ Lib.strCells s = Lib.byteCells (l ++ s.data.toList) := by
  unfold Lib.byteCells Lib.strCells; rw [List.map_append]
theorem byteCells_length (l : List UInt8) : (Lib.byteCells l).length = l.length := by unfold Lib.byteCells; rw [List.length_map]
theorem write_l (B b : Nat) (l : List UInt8) (s : ByteArray) (w : World) (h : Lib.IsBuilder 43 5 B b (Lib.byteCells l) w) (hlen : l.length + s.size ≤ 140737488355328) (hBw : B ≤ w.heap.size) :
    Calls Try.prog 21 #[.pointer (some ⟨b, 0, none⟩), .string s] w fun e w' => e = .returned (.tuple #[.int .i64 s.size, .nilIface]) ∧ Lib.IsBuilder 43 5 B b (Lib.byteCells (l ++ s.data.toList)) w' ∧ Below B w w' ∧ B ≤ w'.heap.size ∧ MapsKept w w' := by
  refine (builder_write B b (Lib.byteCells l) s w h (by rw [byteCells_length]; exact hlen) hBw).mono ?_
  rintro e w' ⟨rfl, h1, h2, h3, h4⟩
  rw [cells_app] at h1
  exact ⟨rfl, h1, h2, h3, h4⟩
theorem isBuilder_below {T e B b : Nat} {bs : List Value} {w w' : World} (h : Lib.IsBuilder T e B b bs w) (hw : Below w.heap.size w w') : Lib.IsBuilder T e B b bs w' := by
  have key : ∀ p, Lib.BuilderAt T e B b p bs w → Lib.BuilderAt T e B b p bs w' := by
    rintro p ⟨hB, v, hb, hown, hne⟩
    exact ⟨hB, v, blk_below hb hw, hown.kept (row := none) (grown_of_below hw none) (by cases v.ownBlock <;> simp), hne⟩
  rcases h with h | h
  · exact .inl (key _ h)
  · exact .inr (key _ h)
def litL (s : ByteArray) : List UInt8 := if s.data.toList = [] then [] else (putB (2 * (s.size : Int))).data.toList ++ s.data.toList
set_option maxHeartbeats 1000000 in
set_option maxRecDepth 100000 in
theorem literal_walk (B b : Nat) (l : List UInt8) (s : ByteArray) (w : World) (h : Lib.IsBuilder 43 5 B b (Lib.byteCells l) w) (hlen : l.length + s.size + 10 ≤ 140737488355328) (hBw : B ≤ w.heap.size) :
    Calls Try.prog 20 #[.pointer (some ⟨b, 0, none⟩), .string s] w fun e w' => e = .returned (.tuple #[]) ∧ Lib.IsBuilder 43 5 B b (Lib.byteCells (l ++ litL s)) w' ∧ Below B w w' ∧ B ≤ w'.heap.size ∧ MapsKept w w' := by
  by_cases he : s.data.toList = []
  · have e1 : s.toList = [] := by rw [ByteArray.toList_eq]; exact he
    have e2 : (s.toList == []) = true := by rw [e1]; rfl
    have HE := Lib.hid he
    clear he
    go_enter Try.func20, Try.ntmps20
    go_wp2
    go_end0
    refine ⟨rfl, ?_, Below.refl _ _, hBw, MapsKept.refl _⟩
    unfold litL; rw [if_pos HE.out, List.append_nil]; exact h
  · have e1 : ¬ s.toList = [] := by rw [ByteArray.toList_eq]; exact he
    have e2 : (!s.toList.isEmpty) = true := by simp [e1]
    have e3 : s.toList.isEmpty = false := by simp [e1]
    have HE := Lib.hid he
    have hp := putB_size (2 * (s.size : Int))
    have hl2 : (l ++ (putB (2 * (s.size : Int))).data.toList).length + s.size ≤ 140737488355328 := by
      have e : (putB (2 * (s.size : Int))).data.toList.length = (putB (2 * (s.size : Int))).size := Array.length_toList
      rw [List.length_append, e]; omega
    clear he
    go_enter Try.func20, Try.ntmps20
    go_wp2_with (go_at_call 27; refine (varint_Put.calls _ (putB (2 * (s.size : Int))) _ rfl).mono ?_)
    rintro e w1 ⟨rfl, hb1⟩
    have hs1 := hb1.size
    have hi1 := isBuilder_below h hb1
    go_wp2_with (go_at_call 21; refine (write_l B b l (putB (2 * (s.size : Int))) _ hi1 (by omega) (by omega)).mono ?_)
    rintro e w2 ⟨rfl, hi2, hb2, hs2, hm2⟩
    have HM2 := Lib.hid hm2
    clear hm2
    go_wp2_with (go_at_call 21; refine (write_l B b _ s _ hi2 hl2 (by omega)).mono ?_)
    rintro e w3 ⟨rfl, hi3, hb3, hs3, hm3⟩
    have HM3 := Lib.hid hm3
    clear hm3
    go_wp2
    go_end0
    refine ⟨rfl, ?_, ((hb1.mono hBw).trans hb2).trans hb3, hs3, ((MapsKept.below hb1).trans HM2.out).trans HM3.out⟩
    unfold litL; rw [if_neg HE.out, ← List.append_assoc]; exact hi3
def putsL (xs : List Int) : List UInt8 := (xs.map fun n => (putB n).data.toList).flatten
theorem putsL_snoc (xs : List Int) (n : Int) : putsL (xs ++ [n]) = putsL xs ++ (putB n).data.toList := by
  unfold putsL; simp
theorem putsL_len (xs : List Int) : (putsL xs).length ≤ 10 * xs.length := by
  induction xs with
  | nil => simp [putsL]
  | cons x xs ih =>
    have e : (putsL (x :: xs)) = (putB x).data.toList ++ putsL xs := by simp [putsL]
    have e2 : (putB x).data.toList.length = (putB x).size := Array.length_toList
    have := putB_size x
    rw [e, List.length_append, e2, List.length_cons]; omega
def putAllB (xs : List Int) : ByteArray := ⟨(putsL xs).toArray⟩
def PARel (w : World) (xs : List Int) (v8 : Value) (wr : World) : Prop :=
  ∃ i : Nat, v8 = .int .i64 i ∧ i ≤ xs.length ∧ Lib.IsBuilder 43 5 w.heap.size w.heap.size (Lib.byteCells (putsL (xs.take i))) wr ∧ Below w.heap.size w wr
set_option maxHeartbeats 1000000 in
set_option maxRecDepth 100000 in
theorem putAll_walk (g c : Nat) (xs : List Int) (w : World) (hn : xs.length ≤ 1000000) (hc : ∀ i, i < xs.length → w.cell? ⟨g, i, none⟩ = some (.int .i64 (xs.getD i 0))) :
    Calls Try.prog 22 #[.slice (some ⟨g, 0, none⟩) xs.length c] w fun e w' => e = .returned (.string (putAllB xs)) ∧ Below w.heap.size w w' := by
  have HC := Lib.hid hc
  clear hc
  go_enter Try.func22, Try.ntmps22
  go_wp2
  go_loopw [8] (PARel w xs) (fun v _ => xs.length - (intOf' v).toNat)
  case atStart => exact ⟨0, rfl, Nat.zero_le _, Lib.fresh_isBuilder 43 5 w, below_alloc (Below.refl _ _) _⟩
  case round =>
    obtain ⟨i, rfl, hi, hib, HB⟩ := hrel
    have hsz := HB.size
    by_cases hlt : i < xs.length
    · have b1 : decide ((i : Int) < (xs.length : Int)) = true := decide_eq_true (by omega)
      have b2 : (0 ≤ (i : Int)) = True := eq_true (by omega)
      have b3 : ((i : Int) < (xs.length : Int)) = True := eq_true (by omega)
      have hcell : wr.cell? ⟨g, i, none⟩ = some (.int .i64 (xs.getD i 0)) := by
        have h0 := HC.out i hlt
        rw [← h0]; exact HB.cell (World.block_lt_of_cell? w _ h0)
      have HLT := Lib.hid hlt
      clear hlt
      go_wp2_with (go_at_call 27; refine (varint_Put.calls _ _ _ rfl).mono ?_)
      rintro e w1 ⟨rfl, hb1⟩
      have hs1 := hb1.size
      have hi1 := isBuilder_below hib hb1
      have hl := putsL_len (xs.take i)
      have hp := putB_size (xs.getD i 0)
      have ht : (xs.take i).length ≤ i := List.length_take_le _ _
      go_wp2_with (go_at_call 21; refine (write_l w.heap.size w.heap.size _ (putB (xs.getD i 0)) _ hi1 (by omega) (by omega)).mono ?_)
      rintro e w2 ⟨rfl, hi2, hb2, hs2, -⟩
      go_wp2
      go_roundw
      case rel =>
        refine ⟨i + 1, by go_num, HLT.out, ?_, (HB.trans (hb1.mono hsz)).trans hb2⟩
        have e1 : xs.take (i + 1) = xs.take i ++ [xs.getD i 0] := by
          rw [List.take_succ_eq_append_getElem HLT.out]
          simp [List.getD, HLT.out]
        rw [e1, putsL_snoc]; exact hi2
      case measure => have := HLT.out; simp [intOf']; omega
    · have b1 : decide (i < xs.length) = false := decide_eq_false (by omega)
      have e1 : xs.take i = xs := List.take_of_length_le (by omega)
      rw [e1] at hib
      clear hlt e1
      go_wp2_with (go_at_call 23; refine (Try.Builder_String_any w.heap.size w.heap.size _ _ hib hsz).mono ?_)
      rintro e w1 ⟨rfl, hb1⟩
      go_wp2
      go_ret
      exact ⟨rfl, HB.trans hb1⟩
end Go.Proofs.Ytahemhjlfajlkaa.PL
