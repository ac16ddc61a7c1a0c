import Derived.Test.YtdikkpmhepldgaaPCrcTurnedx0
import Derived.StillTailTactics
import Derived.Outline
import Derived.Lib.Hide
namespace Go.Proofs.Ytdikkpmhepldgaa.PCrcTurned
open Go.RowKit Go.Proofs.YtdikkpmhepldgaaW.PrintWords Go.Proofs.YtdikkpmhepldgaaW.PrintLast Go.Proofs.YtdikkpmhepldgaaW.PrintMore
set_option linter.unusedVariables false
set_option linter.unusedSimpArgs false
def intOf' : Value → Int | .int _ q => q | _ => 0
/-- A row of bytes at the head of block B, whose mark lies behind it. -/
def bytB (w : World) (B : Nat) (xs : List Int) : Prop := ∃ (cs : Array Value) (e : TypeId) (fr : Nat × Nat), w.heap[B]? = some (.cells cs e fr) ∧ xs.length ≤ cs.size ∧ (∀ i, i < xs.length → cs[i]? = some (.int .u8 (xs.getD i 0))) ∧ ∀ i, i < xs.length → ¬ (fr.1 ≤ i ∧ i < fr.2)
theorem bytB_cell {w : World} {B : Nat} {xs : List Int} (h : bytB w B xs) (i : Nat) (hi : i < xs.length) : w.cell? ⟨B, i, none⟩ = some (.int .u8 (xs.getD i 0)) := by
  obtain ⟨cs, e, fr, hb, hl, hc, hf⟩ := h
  rw [cell_of_row w B i cs e fr hb]; exact hc i hi
theorem bytB_frozen {w : World} {B : Nat} {xs : List Int} (h : bytB w B xs) (i : Nat) (hi : i < xs.length) : w.frozen? ⟨B, i, none⟩ = false := by
  obtain ⟨cs, e, fr, hb, hl, hc, hf⟩ := h
  have := hf i hi
  simp only [World.frozen?, hb]
  simp only [Bool.and_eq_false_iff, decide_eq_false_iff_not]
  omega
theorem bytB_set {w : World} {B : Nat} {xs : List Int} (h : bytB w B xs) (i : Nat) (v : Int) : bytB (w.setCell ⟨B, i, none⟩ (.int .u8 v)) B (xs.set i v) := by
  obtain ⟨cs, e, fr, hb, hl, hc, hf⟩ := h
  refine ⟨cs.setIfInBounds i (.int .u8 v), e, fr, by simp [World.setCell, Array.getElem?_modify, hb], by simpa using hl, ?_, by simpa using hf⟩
  intro j hj
  rw [List.length_set] at hj
  rw [Array.getElem?_setIfInBounds]
  by_cases e1 : i = j
  · subst e1
    rw [if_pos rfl, if_pos (by omega)]
    simp [List.getD, hj]
  · rw [if_neg e1, hc j hj]
    simp [List.getD, List.getElem?_set, e1]
theorem bytB_drew {w : World} {B : Nat} {xs : List Int} (h : bytB w B xs) : bytB w.drew B xs := h
def numsI (s : ByteArray) : List Int := s.data.toList.map fun b => (b.toNat : Int)
theorem numsI_length (s : ByteArray) : (numsI s).length = s.size := by unfold numsI; rw [List.length_map, Array.length_toList]; rfl
theorem csize (w : World) (s : ByteArray) : s.size ≤ (Lib.bytesCells w 5 s).size := by
  unfold Lib.bytesCells
  rw [Array.size_append, Array.size_map]
  exact Nat.le_add_right _ _
theorem bytB_conv (w : World) (s : ByteArray) : bytB (Lib.bytesWorld w 5 s) w.heap.size (numsI s) := by
  refine ⟨_, _, _, Lib.bytesWorld_at_new w 5 s, ?_, ?_, ?_⟩
  · rw [numsI_length]; exact csize w s
  · intro i hi
    rw [numsI_length] at hi
    rw [← cell_of_row (Lib.bytesWorld w 5 s) w.heap.size i _ _ _ (Lib.bytesWorld_at_new w 5 s), Lib.bytesWorld_cell w 5 s i hi]
    congr 2
    have hi' : i < s.data.toList.length := by simpa using hi
    simp only [numsI, List.getD, List.getElem?_map, List.getElem?_eq_getElem hi', Option.map_some, Option.getD_some]
  · intro i hi
    rw [numsI_length] at hi
    have := csize w s
    show ¬ ((Lib.bytesCells w 5 s).size ≤ i ∧ i < _)
    omega
def turnL (at_ mask : Int) : Nat → Nat → List Int → List Int
  | 0, _, l => l
  | f + 1, i, l => if at_ + i < 8 * l.length then
      (if bits .and .u32 (mask / 2 ^ i) 1 = 1 then turnL at_ mask f (i + 1) (l.set ((at_ + i) / 8).toNat (bits .xor .u8 (l.getD ((at_ + i) / 8).toNat 0) (IntKind.u8.wrap ((2 : Int) ^ ((at_ + i) % 8).toNat))))
       else turnL at_ mask f (i + 1) l) else l
def headgatelaw02_Turned.f (s : ByteArray) (at_ mask : Int) : Option ByteArray :=
  if 0 ≤ at_ ∧ at_ < 8 * s.size ∧ s.size ≤ 140737488355328 then some (strOfNums (turnL at_ mask 32 0 (numsI s))) else none
def TRel (w : World) (at_ mask : Int) (s : ByteArray) (r : List Int) (v8 : Value) (w' : World) : Prop :=
  ∃ (i : Nat) (l : List Int), v8 = .int .i64 i ∧ i ≤ 32 ∧ Hid (l.length = s.size) ∧ bytB w' w.heap.size l ∧ Below w.heap.size w w' ∧ Hid (turnL at_ mask (32 - i) i l = r)
set_option maxRecDepth 1000000 in
set_option maxHeartbeats 4000000 in
theorem turn_walk (s : ByteArray) (at_ mask : Int) (w : World) (r : List Int) (h0 : 0 ≤ at_) (h1 : at_ < 8 * s.size) (h2 : s.size ≤ 140737488355328) (HR : Hid (turnL at_ mask 32 0 (numsI s) = r)) :
    Calls Try.prog 19 #[.string s, .int .i64 at_, .int .u32 mask] w fun e w' => e = .returned (.string (strOfNums r)) ∧ Below w.heap.size w w' := by
  have hcv := Lib.run_convert_string_bytes (P := Try.prog) w 9 41 5 s Try.underlying9 Try.underlying41 Try.underlying5
  go_enter Try.func19, Try.ntmps19
  go_wp2
  clear hcv
  go_loopw [8] (TRel w at_ mask s r) (fun v _ => 32 - (intOf' v).toNat)
  case atStart => exact ⟨0, numsI s, rfl, by omega, numsI_length s, bytB_conv w s, bytes_below (Below.refl _ _) (Nat.le_refl _) _ _, HR⟩
  case round =>
    obtain ⟨i, l, rfl, hi, HL, hb, HB, HT⟩ := hrel
    have hlen := HL.out
    by_cases h32 : i = 32
    · have b1 : decide ((i : Int) < 32) = false := decide_eq_false (by omega)
      rw [show 32 - i = 0 by omega] at HT
      have er : l = r := HT.out
      subst er
      have hcv := run_convert_bytes_arg (P := Try.prog) wr 41 5 Try.underlying41 Try.underlying5 w.heap.size 0 s.size (grownCap w s.size 0 5) l hlen
        (fun j hj => by rw [Nat.zero_add]; exact bytB_cell hb j (by omega)) 9 Try.underlying9
      clear hlen h32 hi
      go_wp2
      go_ret
      exact ⟨rfl, HB⟩
    have b1 : decide ((i : Int) < 32) = true := decide_eq_true (by omega)
    have hs32 : 32 - i = (32 - (i + 1)) + 1 := by omega
    have hi1 : i < 32 := by omega
    by_cases hlt : at_ + i < 8 * s.size
    · have b2 : decide (at_ + (i : Int) < 8 * (s.size : Int)) = true := decide_eq_true hlt
      have s1 : (0 ≤ (i : Int)) = True := eq_true (by omega)
      have s2 : ((i : Int) ≤ 32) = True := eq_true (by omega)
      by_cases hm : bits .and .u32 (mask / 2 ^ i) 1 = 1
      · have b3 : (bits .and .u32 (mask / 2 ^ i) 1 == 1) = true := beq_iff_eq.mpr hm
        have HT2 : Hid (turnL at_ mask (32 - (i + 1)) (i + 1) (l.set ((at_ + i) / 8).toNat (bits .xor .u8 (l.getD ((at_ + i) / 8).toNat 0) (IntKind.u8.wrap ((2 : Int) ^ ((at_ + i) % 8).toNat)))) = r) := by
          have := HT.out
          rw [hs32] at this
          simp only [turnL] at this
          rw [if_pos (by omega), if_pos hm] at this
          exact this
        clear hm HT hs32
        obtain ⟨q, hq⟩ : ∃ q : Nat, (at_ + (i : Int)) / 8 = (q : Int) := ⟨((at_ + (i : Int)) / 8).toNat, by omega⟩
        have hqs : q < l.length := by rw [HL.out]; omega
        obtain ⟨m, hm⟩ : ∃ m : Nat, (at_ + (i : Int)) % 8 = (m : Int) := ⟨((at_ + (i : Int)) % 8).toNat, by omega⟩
        have hm8 : m < 8 := by omega
        rw [hq, hm, Int.toNat_natCast, Int.toNat_natCast] at HT2
        have c1 := bytB_cell hb q hqs
        have HQS := Lib.hid hqs
        have e0 : IntKind.i64.wrap (at_ + (i : Int)) = at_ + (i : Int) := by rw [IntKind.wrap_i64]; omega
        have e1 : IntKind.i64.wrap (Int.tdiv (at_ + (i : Int)) 8) = (q : Int) := by rw [Int.tdiv_eq_ediv_of_nonneg (by omega), IntKind.wrap_i64]; omega
        have e2 : Int.tmod (at_ + (i : Int)) 8 = (m : Int) := by rw [Int.tmod_eq_emod_of_nonneg (by omega)]; omega
        have e3 : IntKind.i64.wrap (m : Int) = (m : Int) := by rw [IntKind.wrap_i64]; omega
        have p2 : ((q : Int) < (s.size : Int)) = True := eq_true (by omega)
        have p3 : (0 ≤ (q : Int)) = True := eq_true (by omega)
        have p4 : (0 ≤ (m : Int)) = True := eq_true (by omega)
        have p5 : ((m : Int) ≤ 8) = True := eq_true (by omega)
        have p6 : ((q : Int)).toNat = q := rfl
        clear hq hqs hm hlt hlen h32
        go_wp2
        go_still_tail 19, (by kernel_rfl)
        change wpList _ _ _ _ _ wr.drew
        have hb2 := bytB_drew hb
        have HB2 : Below w.heap.size w wr.drew := below_drew1 HB
        clear c1 hb HB e0 e1 e2 e3
        generalize wr.drew = w2 at hb2 HB2 ⊢
        have c1 := bytB_cell hb2 q HQS.out
        have c2 := bytB_frozen hb2 q HQS.out
        go_wp2
        go_roundw
        case rel =>
          exact ⟨i + 1, _, by go_num, by omega, (List.length_set ..).trans HL.out, bytB_set hb2 q _, HB2.setCell (Nat.le_refl _) _, HT2⟩
        case measure => simp [intOf']; omega
      · have b3 : (bits .and .u32 (mask / 2 ^ i) 1 == 1) = false := beq_eq_false_iff_ne.mpr hm
        have HT2 : Hid (turnL at_ mask (32 - (i + 1)) (i + 1) l = r) := by
          have := HT.out
          rw [hs32] at this
          simp only [turnL] at this
          rw [if_pos (by omega), if_neg hm] at this
          exact this
        clear hm HT hs32 hlen h32
        go_wp2
        go_roundw
        case rel => exact ⟨i + 1, l, by go_num, by omega, HL, hb, HB, HT2⟩
        case measure => simp [intOf']; omega
    · have b2 : decide (at_ + (i : Int) < 8 * (s.size : Int)) = false := decide_eq_false hlt
      have er : l = r := by
        have := HT.out
        rw [hs32] at this
        simp only [turnL] at this
        rw [if_neg (by omega)] at this
        exact this
      subst er
      have hcv := run_convert_bytes_arg (P := Try.prog) wr 41 5 Try.underlying41 Try.underlying5 w.heap.size 0 s.size (grownCap w s.size 0 5) l hlen
        (fun j hj => by rw [Nat.zero_add]; exact bytB_cell hb j (by omega)) 9 Try.underlying9
      clear hlen h32 hs32 HT
      go_wp2
      go_ret
      exact ⟨rfl, HB⟩
theorem headgatelaw02_Turned.calls (a0 : ByteArray) (a1 a2 : Int) (r : ByteArray) (w : World) (h : headgatelaw02_Turned.f a0 a1 a2 = some r) :
    Calls Try.prog 19 #[.string a0, .int .i64 a1, .int .u32 a2] w fun e w' => e = .returned (.string r) ∧ Below w.heap.size w w' := by
  unfold headgatelaw02_Turned.f at h
  by_cases hc : 0 ≤ a1 ∧ a1 < 8 * a0.size ∧ a0.size ≤ 140737488355328
  · rw [if_pos hc] at h
    obtain rfl := Option.some.inj h
    exact turn_walk a0 a1 a2 w _ hc.1 hc.2.1 hc.2.2 (Lib.hid rfl)
  · rw [if_neg hc] at h
    cases h
end Go.Proofs.Ytdikkpmhepldgaa.PCrcTurned
