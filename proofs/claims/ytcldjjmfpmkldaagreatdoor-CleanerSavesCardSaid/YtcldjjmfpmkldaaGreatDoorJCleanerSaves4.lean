/- Parts of a proof, in one text: what it needs of V18, Shelf, XC, FwB, Mbld0, V19, Mrec0, V20, V21. -/
import Derived.Test.YtcldjjmfpmkldaaGreatDoorJCleanerSaves3
import Derived.Shelf.Strings.Builder1
import Derived.Shelf.Strings.Trim
import Derived.Shelf.Small.Utf8
import Derived.Shelf.Small.Bits
import Derived.Shelf.Small.Strs
import Derived.Shelf.Strings.BuilderF
import Derived.Shelf.Strings.BuilderK
import Derived.Shelf.Strconv.Itoa0
import Derived.Shelf.Strings.Search1
import Derived.Shelf.Sort.Plain
import Derived.Shelf.Unicode.Decode
import Derived.Shelf.Strings.Runes
import Derived.Shelf.Strings.AsciiSet
import Derived.Shelf.Unicode.DecodeSlow
import Derived.Shelf.Unicode.DecodeAny
import Derived.Shelf.Unicode.DecodeLast
import Derived.Shelf.Strings.BuilderCap
import Derived.Shelf.Slices.In.SortNone
import Derived.Test.YtcldjjmfpmkldaaGreatDoorProg
import Derived.Lib.Builder
import Derived.Lib.AppendStr
import Derived.Lib.UnsafeStr
import Derived.Laws.Externs
import Derived.Lib.Hide
namespace Go.Proofs.YtcldjjmfpmkldaaGreatDoor.M
open Go.Proofs.YtcldjjmfpmkldaaGreatDoor.F Go.RowKit
set_option linter.unusedVariables false
set_option linter.unusedSimpArgs false
set_option maxRecDepth 100000
set_option maxHeartbeats 2000000
attribute [local irreducible] Res.cells Res.row Res.map Res.any World.cell? World.frozen? Instr.fieldAt Instr.loadAt Instr.storeAt Instr.indexAt Instr.lookup Instr.mapUpdate Instr.box Instr.build Instr.buildSlice Instr.extract Instr.alloc Instr.field Instr.index Instr.sliceAt Instr.makeSlice Instr.makeMap Instr.makeFunc binS Op.unary Sem.run
theorem append_cancel {a b c : ByteArray} : a ++ b = a ++ c ↔ b = c := by
  constructor
  · intro h
    have h1 := congrArg bytesN h
    rw [bytesN_append, bytesN_append] at h1
    exact bytesN_inj (List.append_cancel_left h1)
  · rintro rfl; rfl
theorem take_drop {s : ByteArray} (k : Nat) : s.extract 0 k ++ s.extract k s.size = s := bytesN_inj (by rw [bytesN_append, bytesN_take, bytesN_drop, List.take_append_drop])
def unsealS (s : ByteArray) : Option ByteArray := if 4 ≤ s.size ∧ sealS (s.extract 0 (s.size - 4)) = s then some (s.extract 0 (s.size - 4)) else none
def unV (s : ByteArray) : Value := match unsealS s with
  | some t => .tuple #[.string t, .int .i64 0]
  | none => .tuple #[.string ⟨#[]⟩, .int .i64 2]
theorem extract_size (s : ByteArray) (k : Nat) (h : k ≤ s.size) : (s.extract 0 k).size = k := by
  rw [← bytesN_length, bytesN_take, List.length_take, bytesN_length]
  omega
theorem four_take (c k : Nat) (h : k < 4) : (four c).take (k + 1) = (four c).take k ++ [c / 256 ^ k % 256] := by
  rcases k with _ | _ | _ | _ | k
  · simp [four]
  · simp [four]
  · simp [four]
  · simp [four]
  · omega
section
variable {w0 w : World} {F : List Nat} {L : List Res} {s : ByteArray}
theorem seal_ret (hs : s.size + 4 ≤ maxLen) (hS : St w0 F w L) : Ret Tryz.prog 61 #[.string s] w fun v w' => v = .string (sealS s) ∧ St w0 F w' L := by
  have hs' : s.size + 4 ≤ 9223372036854775807 := hs
  refine s61 _ ?_
  unfold m61 m61_0 m61_1
  refine callR (by kernel_rfl) (csum_ret (by omega) hS) ?_
  rintro _ w ⟨rfl, hS⟩
  have hf : sealS s = s ++ strN (four (sumN s)) := rfl
  have hlt := four_lt (sumN s)
  have hz : (strN (four (sumN s))).size = 4 := strN_size _ hlt
  have hc := sumN_lt s
  unfold m61_2
  have e4 : four (sumN s) = [sumN s % 256, sumN s / 256 % 256, sumN s / 65536 % 256, sumN s / 16777216 % 256] := rfl
  generalize sumN s = c at *
  refine valP_ok (cv113_8 _ _) ?_
  refine valP_ok (shr113_8 _ _ _ _) ?_
  refine valP_ok (cv113_8 _ _) ?_
  refine valP_ok (shr113_16 _ _ _ _) ?_
  refine valP_ok (cv113_8 _ _) ?_
  refine valP_ok (shr113_24 _ _ _ _) ?_
  refine valP_ok (cv113_8 _ _) ?_
  rw [IntKind.wrap_u8, IntKind.wrap_u8, IntKind.wrap_u8, IntKind.wrap_u8, show (c : Int) % 256 = ((c % 256 : Nat) : Int) by omega, show (c : Int) / 256 % 256 = ((c / 256 % 256 : Nat) : Int) by omega, show (c : Int) / 65536 % 256 = ((c / 65536 % 256 : Nat) : Int) by omega, show (c : Int) / 16777216 % 256 = ((c / 16777216 % 256 : Nat) : Int) by omega]
  refine newslice_ok (bs97_4 rfl rfl rfl rfl _) hS ?_
  intro b18 w hS
  refine valP_ok (strOf_run (l := four c) rfl (fun i hi => hS.cell 0 rfl (by have := e8_get (rest := []) hi; rw [List.append_nil] at this; exact this))) ?_
  refine valP_ok (sadd _ _ (by omega) _) ?_
  unfold m61_3
  exact ⟨by rw [hf], hS.tail⟩
theorem unseal_ret (hs : s.size ≤ maxLen) (hS : St w0 F w L) : Ret Tryz.prog 72 #[.string s] w fun v w' => v = unV s ∧ St w0 F w' L := by
  have hs' : s.size ≤ 9223372036854775807 := hs
  refine s72 _ ?_
  unfold m72
  unfold m72_0
  unfold m72_1
  refine builtin_ok (len9 _) ?_
  refine valP_ok (sub_ok _ _ _ (by omega) (by omega) _) ?_
  have leaf : ∀ t : Bool, (t = true ↔ (4 ≤ s.size ∧ sealS (s.extract 0 (s.size - 4)) = s)) → ∀ w, St w0 F w L → m72_5 (fun v w' => v = unV s ∧ St w0 F w' L) (.string s) (.int .i64 ((s.size : Int) - 4)) (.bool t) w := fun t ht w hS => by
    unfold m72_5 unV unsealS
    cases t with
    | true =>
      have h := ht.1 rfl
      refine cond_t rfl ?_
      rw [if_pos h, show (s.size : Int) - 4 = ((s.size - 4 : Nat) : Int) by omega]
      refine valP_ok (sto _ (by omega)) ?_
      unfold m72_6
      exact ⟨rfl, hS⟩
    | false =>
      have h : ¬ (4 ≤ s.size ∧ sealS (s.extract 0 (s.size - 4)) = s) := fun h => by have := ht.2 h; cases this
      refine cond_f rfl ?_
      rw [if_neg h]
      unfold m72_2 m72_3
      exact ⟨rfl, hS⟩
  unfold m72_4
  refine valP_ok (geq_ok _ _ _ _ _ _ _) ?_
  refine cond_split (fun h => ?_) (fun h => ?_)
  · rw [show (s.size : Int) - 4 = ((s.size - 4 : Nat) : Int) by omega]
    refine valP_ok (sto _ (by omega)) ?_
    refine callR (by kernel_rfl) (seal_ret (by rw [extract_size _ _ (by omega)]; omega) hS) ?_
    rintro _ w ⟨rfl, hS⟩
    refine valP_ok (eq9 _ _ _ _ _) ?_
    refine pick_dt (by first | assumption | omega) ?_
    rw [show ((s.size - 4 : Nat) : Int) = (s.size : Int) - 4 by omega]
    refine leaf _ ?_ _ hS
    rw [decide_eq_true_eq]
    exact ⟨fun h1 => ⟨by omega, h1⟩, fun h1 => h1.2⟩
  · refine pick_df (by first | assumption | omega) ?_
    exact leaf _ ⟨fun h1 => (by cases h1), fun h1 => by have := h1.1; omega⟩ _ hS
theorem rbytes_ret {c : Nat} (hc : c < 2 ^ 32) (hS : St w0 F w L) : Ret Tryz.prog 105 #[.int .u32 (c : Int)] w fun v w' => v = .string (strN (four c)) ∧ St w0 F w' L := by
  refine s105 _ ?_
  unfold m105 m105_0 m105_1 m105_2 m105_5
  refine loop_in (fun u w' => ∃ (k : Nat) (A : Option Addr) (c' : Nat), u = (.int .u32 ((c / 256 ^ k : Nat) : Int), .slice A ((four c).take k).length c', .int .i64 (k : Int)) ∧ k ≤ 4 ∧ St w0 F w' (r8 A c' ((four c).take k) :: L)) (fun u _ => 4 - (intOf u.2.2).toNat) ⟨0, none, 0, by simp, by omega, hS.row_nil 5 1⟩ ?_
  clear hS
  rintro u w ⟨k, A, c', rfl, hk, hS⟩
  simp only
  have h4 : (four c).length = 4 := rfl
  have hlen : ((four c).take k).length = k := by rw [List.length_take]; omega
  unfold m105_6
  refine valP_ok (lss_ok _ _ _ _ _ _ _) ?_
  unfold m105_10
  refine cond_split (fun h => ?_) (fun h => ?_)
  · have hst := four_take c k (by omega)
    have hq : c / 256 ^ k < 2 ^ 32 := Nat.lt_of_le_of_lt (Nat.div_le_self _ _) hc
    have hq2 : c / 256 ^ k / 256 = c / 256 ^ (k + 1) := by rw [Nat.div_div_eq_div_mul, Nat.pow_succ]
    generalize hqe : c / 256 ^ k = q at *
    unfold m105_7
    refine valP_ok (rem113 _ _ _ q 256 (by omega) hq) ?_
    refine valP_ok (cv113_8 _ _) ?_
    rw [IntKind.wrap_u8, show ((q % 256 : Nat) : Int) % 256 = ((q % 256 : Nat) : Int) by omega]
    refine newslice_ok (bs97_1 rfl _) hS ?_
    intro b13 w hS
    refine append_one1 (enc := fun (c : Nat) => [.int .u8 (c : Int)]) 0 (q % 256) sl97 (fun _ => rfl) (fun _ v hv => by obtain rfl := List.mem_singleton.1 hv; rfl) (by unfold maxLen; omega) (by omega) hS rfl ?_
    intro A' c2 w' hS
    simp only [List.set_cons_zero] at hS
    unfold m105_9
    refine valP_ok (quo113 _ _ _ q 256 (by omega) hq) ?_
    rw [← hst] at hS ⊢
    rw [hq2]
    unfold m105_8
    refine valP_ok (add_ok _ _ _ (by omega) (by omega) _) ?_
    exact ⟨⟨k + 1, A', c2, rfl, by omega, hS⟩, by simp [intOf]; omega⟩
  · obtain rfl : k = 4 := by omega
    rw [List.take_of_length_le (by omega)] at hS ⊢
    unfold m105_3
    obtain ⟨g, rfl⟩ := hS.row_ptr 0 rfl (by omega)
    refine valP_ok (strOf_run (l := four c) rfl (fun i hi => hS.row_cell 0 rfl (by have := e8_get (rest := []) hi; rw [List.append_nil] at this; rw [flat8]; exact this))) ?_
    unfold m105_4
    exact ⟨rfl, hS.tail⟩
theorem rseal_ret (hs : s.size + 4 ≤ maxLen) (hS : St w0 F w L) : Ret Tryz.prog 79 #[.string s] w fun v w' => v = .string (sealS s) ∧ St w0 F w' L := by
  have hs' : s.size + 4 ≤ 9223372036854775807 := hs
  refine s79 _ ?_
  unfold m79 m79_0 m79_1
  refine callR (by kernel_rfl) (rsum_ret (by omega) hS) ?_
  rintro _ w ⟨rfl, hS⟩
  refine callR (by kernel_rfl) (rbytes_ret (sumN_lt s) hS) ?_
  rintro _ w ⟨rfl, hS⟩
  have hz : (strN (four (sumN s))).size = 4 := strN_size _ (four_lt _)
  refine valP_ok (sadd _ _ (by omega) _) ?_
  unfold m79_2
  exact ⟨rfl, hS⟩
theorem runseal_ret (hs : s.size ≤ maxLen) (hS : St w0 F w L) : Ret Tryz.prog 84 #[.string s] w fun v w' => v = unV s ∧ St w0 F w' L := by
  have hs' : s.size ≤ 9223372036854775807 := hs
  refine s84 _ ?_
  unfold m84
  unfold m84_0
  unfold m84_1
  refine builtin_ok (len9 _) ?_
  refine valP_ok (sub_ok _ _ _ (by omega) (by omega) _) ?_
  have leaf : ∀ t : Bool, (t = true ↔ ¬ (4 ≤ s.size ∧ sealS (s.extract 0 (s.size - 4)) = s)) → ∀ w, St w0 F w L → m84_5 (fun v w' => v = unV s ∧ St w0 F w' L) (.string s) (.int .i64 ((s.size : Int) - 4)) (.bool t) w := fun t ht w hS => by
    unfold m84_5 unV unsealS
    cases t with
    | true =>
      have h := ht.1 rfl
      refine cond_t rfl ?_
      rw [if_neg h]
      unfold m84_6
      exact ⟨rfl, hS⟩
    | false =>
      have h : (4 ≤ s.size ∧ sealS (s.extract 0 (s.size - 4)) = s) := Classical.byContradiction fun h => by have := ht.2 h; cases this
      refine cond_f rfl ?_
      rw [if_pos h]
      unfold m84_3
      rw [show (s.size : Int) - 4 = ((s.size - 4 : Nat) : Int) by omega]
      refine valP_ok (sto _ (by omega)) ?_
      unfold m84_4
      exact ⟨rfl, hS⟩
  unfold m84_2
  refine drawn_ok hS ?_
  intro w hS
  refine pureP_ok (lss_ok _ _ _ _ _ _) ?_
  refine cond_split (fun h => ?_) (fun h => ?_)
  · refine pick_dt (by first | assumption | omega) ?_
    exact leaf _ ⟨fun _ h1 => by have := h1.1; omega, fun _ => rfl⟩ _ hS
  · rw [show (s.size : Int) - 4 = ((s.size - 4 : Nat) : Int) by omega]
    refine pureP_ok (fun w => sto w (by omega)) ?_
    refine pureP_ok (fun w => sfrom w (by omega)) ?_
    refine callR (by kernel_rfl) (rsum_ret (by rw [extract_size _ _ (by omega)]; unfold maxLen; omega) hS) ?_
    rintro _ w ⟨rfl, hS⟩
    refine callR (by kernel_rfl) (rbytes_ret (sumN_lt _) hS) ?_
    rintro _ w ⟨rfl, hS⟩
    refine pureP_ok (ne9 _ _ _ _) ?_
    refine pick_df (by first | assumption | omega) ?_
    rw [show ((s.size - 4 : Nat) : Int) = (s.size : Int) - 4 by omega]
    refine leaf _ ?_ _ hS
    have e : sealS (s.extract 0 (s.size - 4)) = s ↔ strN (four (sumN (s.extract 0 (s.size - 4)))) = s.extract (s.size - 4) s.size := by
      have := take_drop (s := s) (s.size - 4)
      unfold sealS
      generalize s.extract 0 (s.size - 4) = a at *
      generalize s.extract (s.size - 4) s.size = b at *
      subst this
      exact append_cancel
    rw [decide_eq_true_eq, e]
    exact ⟨fun h1 h2 => h1 h2.2, fun h1 h2 => h1 ⟨by omega, h2⟩⟩
end
end Go.Proofs.YtcldjjmfpmkldaaGreatDoor.M
namespace Go.Proofs
open Go.Shelf
def Tryz.lays190_ren : Go.Shelf.Ren := ⟨fun | 190 => 70 | 125 => 100 | 258 => 99 | 128 => 123 | 129 => 124 | 302 => 114 | 303 => 115 | 304 => 116 | 305 => 117 | 306 => 118 | 307 => 119 | 308 => 120 | 309 => 121 | 310 => 122 | 333 => 131 | 329 => 132 | 330 => 133 | 334 => 134 | 335 => 135 | 336 => 136 | 344 => 143 | n => n, fun | 31 => 71 | 9 => 9 | 3 => 3 | 46 => 126 | 0 => 0 | 51 => 129 | 53 => 117 | 4 => 4 | 183 => 158 | 182 => 157 | 131 => 163 | 5 => 5 | 218 => 171 | 222 => 175 | 228 => 184 | 229 => 185 | n => n, fun | n => n⟩
theorem Tryz.lays190 : Go.Proofs.Lays.n190 Tryz.prog Tryz.lays190_ren := {
  mixed := by kernel_rfl
  f125 := Tryz.func100.trans (congrArg some (by kernel_rfl))
  f128 := Tryz.func123.trans (congrArg some (by kernel_rfl))
  f129 := Tryz.func124.trans (congrArg some (by kernel_rfl))
  f190 := Tryz.func70.trans (congrArg some (by kernel_rfl))
  f258 := Tryz.func99.trans (congrArg some (by kernel_rfl))
  f302 := Tryz.func114.trans (congrArg some (by kernel_rfl))
  f303 := Tryz.func115.trans (congrArg some (by kernel_rfl))
  f304 := Tryz.func116.trans (congrArg some (by kernel_rfl))
  f305 := Tryz.func117.trans (congrArg some (by kernel_rfl))
  f306 := Tryz.func118.trans (congrArg some (by kernel_rfl))
  f307 := Tryz.func119.trans (congrArg some (by kernel_rfl))
  f308 := Tryz.func120.trans (congrArg some (by kernel_rfl))
  f309 := Tryz.func121.trans (congrArg some (by kernel_rfl))
  f310 := Tryz.func122.trans (congrArg some (by kernel_rfl))
  f329 := Tryz.func132.trans (congrArg some (by kernel_rfl))
  f330 := Tryz.func133.trans (congrArg some (by kernel_rfl))
  f333 := Tryz.func131.trans (congrArg some (by kernel_rfl))
  f334 := Tryz.func134.trans (congrArg some (by kernel_rfl))
  f335 := Tryz.func135.trans (congrArg some (by kernel_rfl))
  f336 := Tryz.func136.trans (congrArg some (by kernel_rfl))
  f344 := Tryz.func143.trans (congrArg some (by kernel_rfl))
  t0 := Tryz.underlying0
  a0 := Tryz.isAgg0
  z0 := Tryz.sizeOf0
  v0 := Tryz.zeroValue0
  t3 := Tryz.underlying3
  a3 := Tryz.isAgg3
  z3 := Tryz.sizeOf3
  v3 := Tryz.zeroValue3
  t4 := Tryz.underlying4
  a4 := Tryz.isAgg4
  z4 := Tryz.sizeOf4
  v4 := Tryz.zeroValue4
  t5 := Tryz.underlying5
  a5 := Tryz.isAgg5
  z5 := Tryz.sizeOf5
  v5 := Tryz.zeroValue5
  t9 := Tryz.underlying9
  a9 := Tryz.isAgg9
  z9 := Tryz.sizeOf9
  v9 := Tryz.zeroValue9
  t31 := Tryz.underlying71
  a31 := Tryz.isAgg71
  z31 := Tryz.sizeOf71
  v31 := Tryz.zeroValue71
  t46 := Tryz.underlying126
  a46 := Tryz.isAgg126
  z46 := Tryz.sizeOf126
  v46 := Tryz.zeroValue126
  t51 := Tryz.underlying129
  a51 := Tryz.isAgg129
  z51 := Tryz.sizeOf129
  v51 := Tryz.zeroValue129
  t53 := Tryz.underlying117
  a53 := Tryz.isAgg117
  z53 := Tryz.sizeOf117
  v53 := Tryz.zeroValue117
  t131 := Tryz.underlying163
  a131 := Tryz.isAgg163
  z131 := Tryz.sizeOf163
  v131 := Tryz.zeroValue163
  t182 := Tryz.underlying157
  a182 := Tryz.isAgg157
  z182 := Tryz.sizeOf157
  v182 := Tryz.zeroValue157
  t183 := Tryz.underlying158
  a183 := Tryz.isAgg158
  z183 := Tryz.sizeOf158
  v183 := Tryz.zeroValue158
  t218 := Tryz.underlying171
  a218 := Tryz.isAgg171
  z218 := Tryz.sizeOf171
  v218 := Tryz.zeroValue171
  t222 := Tryz.underlying175
  a222 := Tryz.isAgg175
  z222 := Tryz.sizeOf175
  v222 := Tryz.zeroValue175
  t228 := Tryz.underlying184
  a228 := Tryz.isAgg184
  z228 := Tryz.sizeOf184
  v228 := Tryz.zeroValue184
  t229 := Tryz.underlying185
  a229 := Tryz.isAgg185
  z229 := Tryz.sizeOf185
  v229 := Tryz.zeroValue185 }
open Go.Sort Go.RowKit in
theorem Tryz.slices_Sort_string (blk off cap : Nat) (ss : List (List UInt8)) (w : World) (hH : Holds encStr w blk off ss.toArray) (hblk : blk < w.heap.size) (hsz : ss.length < 4611686018427387904) :
    Calls Tryz.prog 70 #[.slice (some ⟨blk, off, none⟩) ss.length cap] w fun e w' =>
      e = .returned (.tuple #[]) ∧ ∃ n os, w' = grow (putRow encStr (Sort.ahead w n) blk off (ss.mergeSort fun x y => decide (x ≤ y)).toArray) os := Any.slices_Sort_string Tryz.lays190 blk off cap ss w hH hblk hsz
def Tryz.lays227_ren : Go.Shelf.Ren := ⟨fun | 227 => 93 | n => n, fun | 9 => 9 | 116 => 134 | 4 => 4 | 0 => 0 | 3 => 3 | 5 => 5 | n => n, fun | n => n⟩
theorem Tryz.lays227 : Go.Proofs.Lays.n227 Tryz.prog Tryz.lays227_ren := {
  mixed := by kernel_rfl
  f227 := Tryz.func93.trans (congrArg some (by kernel_rfl))
  t0 := Tryz.underlying0
  a0 := Tryz.isAgg0
  z0 := Tryz.sizeOf0
  v0 := Tryz.zeroValue0
  t3 := Tryz.underlying3
  a3 := Tryz.isAgg3
  z3 := Tryz.sizeOf3
  v3 := Tryz.zeroValue3
  t4 := Tryz.underlying4
  a4 := Tryz.isAgg4
  z4 := Tryz.sizeOf4
  v4 := Tryz.zeroValue4
  t5 := Tryz.underlying5
  a5 := Tryz.isAgg5
  z5 := Tryz.sizeOf5
  v5 := Tryz.zeroValue5
  t9 := Tryz.underlying9
  a9 := Tryz.isAgg9
  z9 := Tryz.sizeOf9
  v9 := Tryz.zeroValue9
  t116 := Tryz.underlying134
  a116 := Tryz.isAgg134
  z116 := Tryz.sizeOf134 }
open Go.RowKit Go.Lib in
theorem Tryz.strings_makeASCIISet (hv116 : ∀ w, (zeroValue 134).run Tryz.prog w = .ok (.agg (Array.replicate 256 (.bool false))) w) (chars : ByteArray) (w : World) (hs : chars.size < 4294967281) (hascii : ∀ (j : Nat) b, chars.data.toList[j]? = some b → b.toNat < 128) :
    Calls Tryz.prog 93 #[.string chars] w fun e w' => e = .returned (.tuple #[.agg (Lib.setCells chars.data.toList), .bool true]) ∧ w' = w.alloc (.cells (Lib.setCells chars.data.toList) 134) := Any.strings_makeASCIISet Tryz.lays227 hv116 (by kernel_rfl) chars w hs hascii
def Tryz.lays228_ren : Go.Shelf.Ren := ⟨fun | 228 => 110 | n => n, fun | 124 => 138 | 5 => 5 | 4 => 4 | 0 => 0 | 116 => 134 | n => n, fun | n => n⟩
theorem Tryz.lays228 : Go.Proofs.Lays.n228 Tryz.prog Tryz.lays228_ren := {
  mixed := by kernel_rfl
  f228 := Tryz.func110.trans (congrArg some (by kernel_rfl))
  t0 := Tryz.underlying0
  a0 := Tryz.isAgg0
  z0 := Tryz.sizeOf0
  v0 := Tryz.zeroValue0
  t4 := Tryz.underlying4
  a4 := Tryz.isAgg4
  z4 := Tryz.sizeOf4
  v4 := Tryz.zeroValue4
  t5 := Tryz.underlying5
  a5 := Tryz.isAgg5
  z5 := Tryz.sizeOf5
  v5 := Tryz.zeroValue5
  t116 := Tryz.underlying134
  a116 := Tryz.isAgg134
  z116 := Tryz.sizeOf134
  t124 := Tryz.underlying138
  a124 := Tryz.isAgg138
  z124 := Tryz.sizeOf138
  v124 := Tryz.zeroValue138 }
open Go.RowKit Go.Lib in
/-- '(as *asciiSet) contains(c)': 'as[c]': the set lies at block b, whole. (LAID: no walk: one application.) -/
theorem Tryz.asciiSet_contains (b : Nat) (x : UInt8) (v : Bool) (w : World) (hc : w.cell? ⟨b, x.toNat, none⟩ = some (.bool v)) :
    Calls Tryz.prog 110 #[.pointer (some ⟨b, 0, none⟩), .int .u8 x.toNat] w fun e w' => e = .returned (.bool v) ∧ w' = w := Any.asciiSet_contains Tryz.lays228 b x v w hc
open Go.RowKit Go.Sort in
/-- .. and plain. (LAID: no walk: one application.) -/
theorem Tryz.slices_Sort_string_none (p : Option Addr) (cap : Nat) (w : World) :
    Calls Tryz.prog 70 #[.slice p 0 cap] w fun e w' => e = .returned (.tuple #[]) ∧ w' = w := Any.slices_Sort_string_none Tryz.lays190 p cap w
end Go.Proofs
namespace Go.Proofs.YtcldjjmfpmkldaaGreatDoor.M
open Go.RowKit
set_option linter.unusedVariables false
set_option linter.unusedSimpArgs false
theorem sizeBuilder : ∃ j, Tryz.prog.info? 99 = some j ∧ j.size ≠ 0 := by
  obtain ⟨j, h1, h2⟩ := Option.map_eq_some_iff.1 (show (Tryz.prog.info? 99).map (fun i => decide (i.size ≠ 0)) = some true by kernel_rfl)
  exact ⟨j, h1, of_decide_eq_true h2⟩
theorem liesBuilder : liesAt Tryz.prog Tryz.prog.depth 99 (2 / Tryz.prog.cellsOf 99) 0 99 1 = true := by kernel_rfl
set_option maxHeartbeats 1000000 in
set_option maxRecDepth 100000 in
theorem builder_cc_used (b : Nat) (w : World) (h0 : w.cell? ⟨b, 0, none⟩ = some (.pointer (some ⟨b, 0, none⟩))) :
    Calls Tryz.prog 87 #[.pointer (some ⟨b, 0, none⟩)] w fun e w' => e = .returned (.tuple #[]) ∧ w = w' := by
  obtain ⟨j, hj, -⟩ := sizeBuilder
  go_enter Tryz.func87, Tryz.ntmps87
  go_wp2
  rw [Lib.run_neq_ptr_same w _ Tryz.underlying96 hj]
  go_wp2
  go_end0
  exact ⟨rfl, rfl⟩
set_option maxHeartbeats 1000000 in
set_option maxRecDepth 100000 in
theorem builder_cc_fresh (b : Nat) (w : World) (h0 : w.cell? ⟨b, 0, none⟩ = some (.pointer none)) (hsh : w.shape? b = some (99, 2)) (hfz : w.frozen? ⟨b, 0, none⟩ = false) :
    Calls Tryz.prog 87 #[.pointer (some ⟨b, 0, none⟩)] w fun e w' => e = .returned (.tuple #[]) ∧ w.setCell ⟨b, 0, none⟩ (.pointer (some ⟨b, 0, none⟩)) = w' := by
  obtain ⟨j, hj, hjs⟩ := sizeBuilder
  go_enter Tryz.func87, Tryz.ntmps87
  go_wp2
  rw [Lib.run_to_unsafe w ⟨b, 0, none⟩ Tryz.underlying96 Tryz.underlying149 hj hjs hsh (Nat.zero_lt_succ 1)]
  simp only [Result.andThen]
  rw [Oper.upon_value]
  go_wp2
  rw [run_callFunc_extern Tryz.func108 (by kernel_rfl) (by kernel_rfl) (by kernel_rfl) (e := Extern.AbiNoEscape.same) (by kernel_rfl)]
  rw [Lib.run_noEscape]
  simp only [Result.andThen]
  rw [Oper.upon_value]
  go_wp2
  rw [Lib.run_from_unsafe w ⟨b, 0, none⟩ Tryz.underlying149 Tryz.underlying96 hj hsh liesBuilder]
  simp only [Result.andThen]
  rw [Oper.upon_value]
  go_wp2
  go_end0
  exact ⟨rfl, rfl⟩
end Go.Proofs.YtcldjjmfpmkldaaGreatDoor.M
namespace Go.Proofs.YtcldjjmfpmkldaaGreatDoor.F
set_option linter.unusedVariables false
set_option linter.unusedSimpArgs false
open Go Go.RowKit
section
variable {P : Program} {w0 w w' : World} {F : List Nat} {L : List Res} {K : Value → World → Prop}
theorem St.lose {r : Res} (h : St w0 F w (r :: L)) (hc : Chg r.blks w w') : St w0 F w' L := by
  have : St w0 F w ([r] ++ L) := h
  exact this.back (L1' := []) ⟨hc.mono (by simp), fun _ h => (by cases h), fun _ h => (by cases h), fun _ h => (by cases h), .nil⟩
theorem Chg.freeze (w : World) (g n : Nat) : Chg [g] w (w.freeze ⟨g, 0, none⟩ n) := by
  unfold World.freeze
  split
  · exact Chg.refl _ _
  · refine ⟨rfl, rfl, rfl, by simp, fun k hk hn => ?_⟩
    have hne : ¬ g = k := fun e => hn (by simp [e])
    simp only [Array.getElem?_modify]
    rw [if_neg hne]
theorem St.heap_cells (k : Nat) {b : Nat} {t : TypeId} {cs : List Value} (h : St w0 F w L) (hk : L[k]? = some (Res.cells b t cs)) : w.heap[b]? = some (.cells cs.toArray t (0, 0)) := h.get k hk
theorem append_str_ok (k : Nat) {t u e ty n : Nat} {v : Value} {cs : Array Bool} {xs : List Value} {s : ByteArray} (hT : SlT P t e 1 1 (.int .u8 0)) (hu : P.underlying u = some .string) (hS : St w0 F w L) (hk : L[k]? = some (Res.row e 1 v n xs))
    (h63 : n + s.size ≤ maxLen) (hb : n + s.size ≤ 140737488355328)
    (h : ∀ A' c' w', St w0 F w' (L.set k (Res.row e 1 (.slice A' (n + s.size) c') (n + s.size) (xs ++ Go.Lib.strCells s))) → K (.slice A' (n + s.size) c') w') : builtinP P .append #[t, u] ty cs #[v, .string s] w K := by
  obtain ⟨i, hi, hz, hs, hby⟩ := hT.parts
  have hown : w.ownsRow 0 e 1 v n xs := hS.get k hk
  obtain ⟨v', w', hr, hown', hgr, hiff⟩ := Go.Lib.run_append_own_string (P := P) w 0 t u ty e i hT.1 hu hi hz hs hby v n xs hown s h63 hb (Nat.zero_le _)
  have hblk : v'.ownBlock = v.ownBlock ∨ v'.ownBlock = some w.heap.size := by
    rcases hown.2 with ⟨rfl, rfl⟩ | ⟨g, cap, cur, rfl, hbg, hg, hnc, hcm, hcs, htake⟩
    · by_cases hm : s.size = 0
      · rw [hiff.2 ⟨rfl, hm⟩]
        exact .inl rfl
      · have hr2 := run_append_nil_string (P := P) w t u ty e i (.int .u8 0) hT.1 hu hi hz s (by omega) (by omega) (by rw [hby]; omega)
        obtain ⟨rfl, _⟩ := Result.ok.inj (hr.symm.trans hr2)
        exact .inr rfl
    · by_cases hroom : n + s.size ≤ cap
      · have hr2 := Go.Lib.run_append_room_string (P := P) w t u ty e i hT.1 hu hi hs g n cap cur hg s hroom (by omega)
        obtain ⟨rfl, _⟩ := Result.ok.inj (hr.symm.trans hr2)
        exact .inl rfl
      · have hxl : xs.length = n := by simpa using hown.1
        have hr2 := Go.Lib.run_append_grow_string (P := P) w t u ty e i (.int .u8 0) hT.1 hu hi hz ⟨g, 0, none⟩ n cap xs (by rw [hs]; omega) (hown.cells (g := g) rfl) s (by omega) (by unfold maxLen at h63; omega) (by rw [hby]; exact growslice_fits (by omega) (by omega))
        obtain ⟨rfl, _⟩ := Result.ok.inj (hr.symm.trans hr2)
        exact .inr rfl
  have hS' : St w0 F w' (L.set k (Res.row e 1 v' (n + s.size) (xs ++ Go.Lib.strCells s))) := by
    refine hS.updk k hk (Chg.of_grown hgr) hown' (fun g hg => ?_) (fun g hg => (hown'.lt g (by simpa [Res.row] using hg)).2)
    have hg' : v'.ownBlock = some g := by simpa [Res.row] using hg
    rcases hblk with h1 | h1
    · exact .inl (by show g ∈ v.ownBlock.toList; rw [← h1, hg']; simp)
    · exact .inr (by rw [h1] at hg'; injection hg' with e; omega)
  obtain ⟨hlt, _⟩ := List.getElem?_eq_some_iff.1 hk
  obtain ⟨A', c', rfl, _⟩ := hS'.row_form (e := e) (size := 1) (n := n + s.size) (v := v') (xs := xs ++ Go.Lib.strCells s) k (by simp [hlt])
  exact builtin_ok (append_run hr) (h A' c' w' hS')
theorem strCells_add (a b : ByteArray) : Go.Lib.strCells a ++ Go.Lib.strCells b = Go.Lib.strCells (a ++ b) := by
  unfold Go.Lib.strCells
  rw [ByteArray.data_append, Array.toList_append, List.map_append]
theorem sliceData_ok {ats : Array TypeId} {t : TypeId} {cs : Array Bool} {a : Addr} {n c : Nat} (hc : 0 < c) (h : K (.pointer (some a)) w) : builtinP P .unsafeSliceData ats t cs #[.slice (some a) n c] w K := by
  have hr := Go.Lib.run_unsafeSliceData_row (P := P) w ats t a n c (by omega)
  exact builtin_ok (by simp [builtin, hr]) h
theorem unsafeStr_ok {pt it ty e c g : Nat} {cs : Array Bool} {s : ByteArray} (hp : P.underlying pt = some (.pointer e)) (hce : P.cellsOf e = 1) (h0 : 0 < s.size) (hS : St w0 F w (Res.row e 1 (.slice (some ⟨g, 0, none⟩) s.size c) s.size (Go.Lib.strCells s) :: L))
    (h : ∀ w', St w0 F w' L → K (.string s) w') : builtinP P .unsafeString #[pt, it] ty cs #[.pointer (some ⟨g, 0, none⟩), .int .i64 (s.size : Int)] w K := by
  have hown : w.ownsRow 0 e 1 (.slice (some ⟨g, 0, none⟩) s.size c) s.size (Go.Lib.strCells s) := hS.get 0 rfl
  have hl : s.data.toList.length = s.size := by rw [Array.length_toList]; rfl
  rcases hown.2 with ⟨hv, _⟩ | ⟨g', cap, cur, hv, hbg, hg, hnc, hcm, hcs, htake⟩
  · cases hv
  · cases hv
    have hr := Go.Lib.run_unsafeString_row (P := P) w pt it ty e hp hce g cur.size (by simp [World.shape?, hg]) s.data.toList (fun h => by rw [h] at hl; simp at hl; omega) (by omega) (by unfold maxLen at hcm; omega) (fun j x hx => hown.cells (g := g) rfl j (.int .u8 x.toNat) (by simp only [Go.Lib.strCells, List.getElem?_map, hx, Option.map_some]))
    rw [hl] at hr
    have e1 : (⟨s.data.toList.toArray⟩ : ByteArray) = s := by cases s; simp
    rw [e1] at hr
    exact builtin_ok (w' := w.freeze ⟨g, 0, none⟩ s.size) (v := .string s) (by simp [builtin, hr]) (h _ (hS.lose ((Chg.freeze w g s.size).mono (fun x hx => by simpa [Res.row, Value.ownBlock] using hx))))
end
end Go.Proofs.YtcldjjmfpmkldaaGreatDoor.F
namespace Go.Proofs.YtcldjjmfpmkldaaGreatDoor.M
open Go.Proofs.YtcldjjmfpmkldaaGreatDoor.F
set_option linter.unusedVariables false
set_option maxRecDepth 100000
variable {R : VP} {Q : EQ}
def m58_4 (R : VP) (t4 t5 : Value) (w : World) : Prop :=
  R (Value.tuple #[t4, t5]) w
def m58_3 (R : VP) (s1 : Value) (w : World) : Prop :=
  builtinP Tryz.prog Builtin.len #[9] 3 #[false] #[s1] w fun t18 w =>
  m58_4 R t18 Value.nilIface w
def m58_2 (R : VP) (b0 s1 : Value) (w : World) : Prop :=
  nilCheckP b0 fun t10 =>
  valP Tryz.prog (Instr.fieldAt 99 t10 1) w fun t11 w =>
  valP Tryz.prog (Instr.loadAt 97 t11) w fun t12 w =>
  builtinP Tryz.prog Builtin.append #[97, 9] 97 #[false, false] #[t12, s1] w fun t14 w =>
  nilCheckP b0 fun t15 =>
  valP Tryz.prog (Instr.fieldAt 99 t15 1) w fun t16 w =>
  unitP Tryz.prog (Instr.storeAt 97 t16 t14) w fun _ w =>
  m58_3 R s1 w
def m58_1 (R : VP) (b0 s1 : Value) (w : World) : Prop :=
  callP Tryz.prog (fnV 87) #[b0] w fun t7 w =>
  m58_2 R b0 s1 w
def m58_0 (R : VP) (b0 s1 : Value) (w : World) : Prop :=
  m58_1 R b0 s1 w
abbrev W58 := cwp Tryz.prog (fun i => 0)
noncomputable def k58_0 := bodyOf Tryz.f58
noncomputable def k58_1 := c2 k58_0
noncomputable def k58_2 := c2 k58_1
noncomputable def k58_3 := c2 k58_2
noncomputable def k58_4 := c2 k58_3
abbrev hR58 (R : VP) (Q : EQ) : Prop := ∀ e w, (R (Value.tuple #[(e 4), (e 5)]) w) → Q .ret e w
theorem s58_4 (hR : hR58 R Q) (e : Env) (w : World) (h : m58_4 R (e 4) (e 5) w) : W58 k58_4 Q e w := by
  exact reA (hR _ _ h)
theorem s58_3 (hR : hR58 R Q) (e : Env) (w : World) (h : m58_3 R (e 1) w) : W58 k58_3 Q e w := by
  refine seA ?_
  exact rgA 3 (fun e w => m58_4 R (e 4) (e 5) w) h fun e w h => then_N (s58_4 hR e w h)
theorem s58_2 (hR : hR58 R Q) (e : Env) (w : World) (h : m58_2 R (e 0) (e 1) w) : W58 k58_2 Q e w := by
  refine seA ?_
  exact rgA 2 (fun e w => m58_3 R (e 1) w) h fun e w h => then_N (s58_3 hR e w h)
theorem s58_1 (hR : hR58 R Q) (e : Env) (w : World) (h : m58_1 R (e 0) (e 1) w) : W58 k58_1 Q e w := by
  refine seA ?_
  exact rgA 1 (fun e w => m58_2 R (e 0) (e 1) w) h fun e w h => then_N (s58_2 hR e w h)
theorem s58_0 (hR : hR58 R Q) (e : Env) (w : World) (h : m58_0 R (e 0) (e 1) w) : W58 k58_0 Q e w := by
  refine seA ?_
  exact rgA 0 (fun e w => m58_1 R (e 0) (e 1) w) h fun e w h => then_N (s58_1 hR e w h)
abbrev m58 (R : VP) (b0 s1 : Value) (w : World) : Prop := m58_0 R b0 s1 w
theorem s58 (b0 s1 : Value) {R : VP} {w : World} (h : m58 R b0 s1 w) :
    Calls Tryz.prog 58 #[b0, s1] w fun e w' => ∃ v, e = .returned v ∧ R v w' :=
  calls_of_cwp (st := (fun i => 0)) (c := k58_0) (by kernel_rfl) Tryz.func58 (by kernel_rfl) (Nat.le_of_ble_eq_true (by kernel_rfl)) (by kernel_rfl)
    (s58_0 (R := R) (Q := endE Tryz.prog Tryz.f58 R) (fun e w h => kcast (by kernel_rfl) h) (argsE #[b0, s1]) w (kcast (by kernel_rfl) h))
def m62_2 (R : VP) (t2 : Value) (w : World) : Prop :=
  R t2 w
def m62_1 (R : VP) (b0 : Value) (w : World) : Prop :=
  anyDraw w fun w =>
  heldP w fun J =>
  nilCheckP b0 fun t4 =>
  valJ Tryz.prog J (Instr.fieldAt 99 t4 1) fun t5 =>
  valJ Tryz.prog J (Instr.loadAt 97 t5) fun t6 =>
  nilCheckP b0 fun t9 =>
  valJ Tryz.prog J (Instr.fieldAt 99 t9 1) fun t10 =>
  valJ Tryz.prog J (Instr.loadAt 97 t10) fun t11 =>
  builtinJ Tryz.prog J Builtin.len #[97] 3 #[false] #[t11] fun t12 =>
  builtinP Tryz.prog Builtin.unsafeSliceData #[97] 131 #[false] #[t6] w fun t7 w =>
  stayP J w
  (builtinP Tryz.prog Builtin.unsafeString #[131, 3] 9 #[false, false] #[t7, t12] w fun t13 w =>
  stayP J w
  (m62_2 R t13 w))
def m62_0 (R : VP) (b0 : Value) (w : World) : Prop :=
  m62_1 R b0 w
abbrev W62 := cwp Tryz.prog (fun i => 0)
noncomputable def k62_0 := bodyOf Tryz.f62
noncomputable def k62_1 := c2 k62_0
noncomputable def k62_2 := c2 k62_1
abbrev hR62 (R : VP) (Q : EQ) : Prop := ∀ e w, (R (e 2) w) → Q .ret e w
theorem s62_2 (hR : hR62 R Q) (e : Env) (w : World) (h : m62_2 R (e 2) w) : W62 k62_2 Q e w := by
  exact reA (hR _ _ h)
theorem s62_1 (hR : hR62 R Q) (e : Env) (w : World) (h : m62_1 R (e 0) w) : W62 k62_1 Q e w := by
  refine seA ?_
  have hN : ∀ e w, (m62_2 R (e 2) w) → (thenE (W62 k62_2 Q) Q) .normal e w := fun e w h => then_N (s62_2 hR e w h)
  exact treeJ_ok 1 12 (bt 12 0) (.take 0 (bt 12 1) (.take 1 (bt 12 3) (.take 2 (bt 12 7) (.take 3 (bt 12 15) (.take 5 (bt 12 47) (.take 6 (bt 12 111) (.take 7 (bt 12 239) (.take 8 (bt 12 495) (.take 9 (bt 12 1007) (.alt 4 (bt 12 1023) (.alt 10 (bt 12 2047) (.take 11 (bt 12 4095) .done) .stop) .stop)))))))))) (fun e w => m62_2 R (e 2) w) (by kernel_rfl) (by kernel_rfl) (by kernel_rfl) (by kernel_rfl) (by kernel_rfl) (by kernel_rfl) (kcast (by kernel_rfl) h) hN (by kernel_rfl)
theorem s62_0 (hR : hR62 R Q) (e : Env) (w : World) (h : m62_0 R (e 0) w) : W62 k62_0 Q e w := by
  refine seA ?_
  exact rgA 0 (fun e w => m62_1 R (e 0) w) h fun e w h => then_N (s62_1 hR e w h)
abbrev m62 (R : VP) (b0 : Value) (w : World) : Prop := m62_0 R b0 w
theorem s62 (b0 : Value) {R : VP} {w : World} (h : m62 R b0 w) :
    Calls Tryz.prog 62 #[b0] w fun e w' => ∃ v, e = .returned v ∧ R v w' :=
  calls_of_cwp (st := (fun i => 0)) (c := k62_0) (by kernel_rfl) Tryz.func62 (by kernel_rfl) (Nat.le_of_ble_eq_true (by kernel_rfl)) (by kernel_rfl)
    (s62_0 (R := R) (Q := endE Tryz.prog Tryz.f62 R) (fun e w h => kcast (by kernel_rfl) h) (argsE #[b0]) w (kcast (by kernel_rfl) h))
end Go.Proofs.YtcldjjmfpmkldaaGreatDoor.M
namespace Go.Proofs.YtcldjjmfpmkldaaGreatDoor.M
open Go.Proofs.YtcldjjmfpmkldaaGreatDoor.F Go.RowKit
set_option linter.unusedVariables false
set_option linter.unusedSimpArgs false
set_option maxRecDepth 100000
set_option maxHeartbeats 2000000
attribute [local irreducible] Res.cells Res.row Res.map Res.any World.cell? World.frozen? Instr.fieldAt Instr.loadAt Instr.storeAt Instr.indexAt Instr.lookup Instr.mapUpdate Instr.box Instr.build Instr.buildSlice Instr.extract Instr.alloc Instr.field Instr.index Instr.sliceAt Instr.makeSlice Instr.makeMap Instr.makeFunc binS Op.unary Sem.run
abbrev bCell (b : Nat) (p : Option Addr) (A : Option Addr) (c : Nat) (s : ByteArray) : Res := Res.cells b 99 [.pointer p, .slice A s.size c]
abbrev bRow (A : Option Addr) (c : Nat) (s : ByteArray) : Res := Res.row 5 1 (.slice A s.size c) s.size (Go.Lib.strCells s)
def Bd (w0 : World) (F : List Nat) (L : List Res) (b : Nat) (s : ByteArray) (w : World) : Prop := ∃ p A c, (p = none ∨ p = some ⟨b, 0, none⟩) ∧ St w0 F w (bCell b p A c s :: bRow A c s :: L)
section
variable {w0 w : World} {F : List Nat} {L : List Res}
theorem Bd.start {b : Nat} (hS : St w0 F w (Res.cells b 99 [.pointer none, .slice none 0 0] :: L)) : Bd w0 F L b ⟨#[]⟩ w :=
  ⟨none, none, 0, .inl rfl, (hS.row_nil 5 1).perm (.swap _ _ _)⟩
theorem cc_ret {b c : Nat} {p A : Option Addr} {s : ByteArray} (hp : p = none ∨ p = some ⟨b, 0, none⟩) (hS : St w0 F w (bCell b p A c s :: L)) : Ret Tryz.prog 87 #[.pointer (some ⟨b, 0, none⟩)] w fun v w' => St w0 F w' (bCell b (some ⟨b, 0, none⟩) A c s :: L) := by
  rcases hp with rfl | rfl
  · have hh := hS.heap_cells 0 rfl
    refine Calls.mono (builder_cc_fresh b w (hS.cell 0 rfl rfl) (by simp [World.shape?, hh]) (hS.frozen 0 rfl)) ?_
    rintro e w' ⟨rfl, rfl⟩
    exact ⟨_, rfl, hS.set 0 _ rfl⟩
  · refine Calls.mono (builder_cc_used b w (hS.cell 0 rfl rfl)) ?_
    rintro e w' ⟨rfl, rfl⟩
    exact ⟨_, rfl, hS⟩
theorem write_ret {b : Nat} {s t : ByteArray} (hz : s.size + t.size ≤ 1000000000) (hB : Bd w0 F L b s w) : Ret Tryz.prog 58 #[.pointer (some ⟨b, 0, none⟩), .string t] w fun v w' => Bd w0 F L b (s ++ t) w' := by
  obtain ⟨p, A, c, hp, hS⟩ := hB
  refine s58 _ _ ?_
  unfold m58 m58_0 m58_1
  refine callR (by kernel_rfl) (cc_ret hp hS) ?_
  clear hS
  intro _ w hS
  unfold m58_2
  refine nil_ok ?_
  refine valP_ok (fa99_1 _ _) ?_
  refine valP_ok (ld97 (hS.cell 0 rfl rfl)) ?_
  refine append_str_ok 1 sl97 Tryz.underlying9 hS rfl (by unfold maxLen; omega) (by omega) ?_
  intro A' c' w hS
  simp only [List.set_cons_zero, List.set_cons_succ] at hS
  rw [strCells_add, ← ByteArray.size_append] at hS
  rw [← ByteArray.size_append]
  refine nil_ok ?_
  refine valP_ok (fa99_1 _ _) ?_
  refine store_at 0 st97 hS rfl (by simp) rfl ?_
  intro w hS
  simp only [List.set_cons_zero, List.set_cons_succ] at hS
  unfold m58_3
  refine builtin_ok (len9 _) ?_
  unfold m58_4
  exact ⟨_, A', c', .inr rfl, hS⟩
theorem bstring_ret {b : Nat} {s : ByteArray} (h0 : 0 < s.size) (hB : Bd w0 F L b s w) : Ret Tryz.prog 62 #[.pointer (some ⟨b, 0, none⟩)] w fun v w' => v = .string s ∧ St w0 F w' L := by
  obtain ⟨p, A, c, hp, hS⟩ := hB
  refine s62 _ ?_
  unfold m62 m62_0 m62_1
  refine drawn_ok hS ?_
  clear hS
  intro w hS
  obtain ⟨g, rfl⟩ := hS.row_ptr 1 rfl h0
  have hc := hS.row_max 1 rfl
  have hS2 := hS.perm (.swap _ _ _)
  refine held_Hs hS2.tail ?_
  refine nil_ok ?_
  refine valJ_ok (fa99_1 _) ?_
  refine valJ_load ld97 (Hs.cell 0 rfl rfl) ?_
  refine nil_ok ?_
  refine valJ_ok (fa99_1 _) ?_
  refine valJ_load ld97 (Hs.cell 0 rfl rfl) ?_
  refine builtinJ_ok (len97) ?_
  refine sliceData_ok (by omega) ?_
  refine stay_Hs hS2.tail (fun _ h => h) ?_
  refine unsafeStr_ok (by kernel_rfl) (by kernel_rfl) h0 hS2 ?_
  intro w hS
  refine stay_Hs hS (fun _ h => h) ?_
  unfold m62_2
  exact ⟨rfl, hS.tail⟩
end
end Go.Proofs.YtcldjjmfpmkldaaGreatDoor.M
namespace Go.Proofs.YtcldjjmfpmkldaaGreatDoor.M
open Go.Proofs.YtcldjjmfpmkldaaGreatDoor.F
set_option linter.unusedVariables false
set_option maxRecDepth 100000
variable {R : VP} {Q : EQ}
def m88_9 (R : VP) (K1 : VP) (b3 t6 t7 t8 : Value) (w : World) : Prop :=
  valP Tryz.prog (binS BinOp.add 3 (tm 8) (ci 1) t8 (vi 1)) w fun t15 w =>
  K1 t15 w
def m88_10 (R : VP) (K1 : VP) (b3 n5 t6 t7 t8 : Value) (w : World) : Prop :=
  callP Tryz.prog (fnV 59) #[n5] w fun t13 w =>
  callP Tryz.prog (fnV 58) #[b3, t13] w fun t14 w =>
  m88_9 R K1 b3 t6 t7 t8 w
def m88_8 (R : VP) (K1 : VP) (b3 t6 t7 t8 : Value) (w : World) : Prop :=
  valP Tryz.prog (Instr.indexAt 23 t6 t8) w fun t10 w =>
  valP Tryz.prog (Instr.loadAt 3 t10) w fun t11 w =>
  m88_10 R K1 b3 t11 t6 t7 t8 w
def m88_4 (R : VP) (t2 : Value) (w : World) : Prop :=
  R t2 w
def m88_3 (R : VP) (b3 : Value) (w : World) : Prop :=
  callP Tryz.prog (fnV 62) #[b3] w fun t16 w =>
  m88_4 R t16 w
def m88_7 (R : VP) (K1 : VP) (b3 t6 t7 t8 t9 : Value) (w : World) : Prop :=
  condP t9
  (m88_8 R K1 b3 t6 t7 t8 w)
  (m88_3 R b3 w)
def m88_6 (R : VP) (K1 : VP) (b3 t6 t7 t8 : Value) (w : World) : Prop :=
  valP Tryz.prog (binS BinOp.lss 3 (tm 8) (tm 7) t8 t7) w fun t9 w =>
  m88_7 R K1 b3 t6 t7 t8 t9 w
def m88_5 (R : VP) (b3 t6 t7 t8 : Value) (w : World) : Prop :=
  loopP (fun (K1 : VP) (s : Value) w => m88_6 R K1 b3 t6 t7 s w) t8 w
def m88_2 (R : VP) (l0 b3 : Value) (w : World) : Prop :=
  builtinP Tryz.prog Builtin.len #[23] 3 #[false] #[l0] w fun t7 w =>
  m88_5 R b3 l0 t7 (vi 0) w
def m88_1 (R : VP) (l0 : Value) (w : World) : Prop :=
  valP Tryz.prog (Instr.alloc 99 true (.tuple #[])) w fun b3 w =>
  m88_2 R l0 b3 w
def m88_0 (R : VP) (l0 : Value) (w : World) : Prop :=
  m88_1 R l0 w
abbrev W88 := cwp Tryz.prog (fun i => 0)
noncomputable def k88_0 := bodyOf Tryz.f88
noncomputable def k88_1 := c2 k88_0
noncomputable def k88_2 := c2 k88_1
noncomputable def k88_3 := c2 k88_2
noncomputable def k88_4 := c2 k88_3
noncomputable def k88_5 := c2 (c1 k88_2)
noncomputable def k88_6 := c1 (c1 k88_5)
noncomputable def k88_7 := c2 k88_6
noncomputable def k88_8 := c2 k88_7
noncomputable def k88_9 := c2 k88_8
noncomputable def k88_10 := c2 (c1 (c1 k88_8))
theorem s88_9 {K1 : VP} (hN : ∀ e w, (K1 (e 8) w) → Q .normal e w) (e : Env) (w : World) (h : m88_9 R K1 (e 3) (e 6) (e 7) (e 8) w) : W88 k88_9 Q e w := by
  exact rgA 6 (fun e w => K1 (e 8) w) h hN
theorem s88_10 {K1 : VP} (hN : ∀ e w, (m88_9 R K1 (e 3) (e 6) (e 7) (e 8) w) → Q .normal e w) (e : Env) (w : World) (h : m88_10 R K1 (e 3) (e 5) (e 6) (e 7) (e 8) w) : W88 k88_10 Q e w := by
  exact rgA 5 (fun e w => m88_9 R K1 (e 3) (e 6) (e 7) (e 8) w) h hN
theorem s88_8 {K1 : VP} (hN : ∀ e w, (K1 (e 8) w) → Q .normal e w) (e : Env) (w : World) (h : m88_8 R K1 (e 3) (e 6) (e 7) (e 8) w) : W88 k88_8 Q e w := by
  refine seA ?_
  have hN : ∀ e w, (m88_9 R K1 (e 3) (e 6) (e 7) (e 8) w) → (thenE (W88 k88_9 Q) Q) .normal e w := fun e w h => then_N (s88_9 hN e w h)
  refine block_ok 1 (by kernel_rfl) ?_
  have hN : ∀ e w, (m88_9 R K1 (e 3) (e 6) (e 7) (e 8) w) → (inBlockE 1 (thenE (W88 k88_9 Q) Q)) .normal e w := fun e w h => block_N (hN e w h)
  refine seA ?_
  exact rgA 4 (fun e w => m88_10 R K1 (e 3) (e 5) (e 6) (e 7) (e 8) w) h fun e w h => then_N (s88_10 (R := R) (Q := (inBlockE 1 (thenE (W88 k88_9 Q) Q))) hN e w h)
abbrev hR88 (R : VP) (Q : EQ) : Prop := ∀ e w, (R (e 2) w) → Q .ret e w
theorem s88_4 (hR : hR88 R Q) (e : Env) (w : World) (h : m88_4 R (e 2) w) : W88 k88_4 Q e w := by
  exact reA (hR _ _ h)
theorem s88_3 (hR : hR88 R Q) (e : Env) (w : World) (h : m88_3 R (e 3) w) : W88 k88_3 Q e w := by
  refine seA ?_
  exact rgA 7 (fun e w => m88_4 R (e 2) w) h fun e w h => then_N (s88_4 hR e w h)
theorem s88_7 {K1 : VP} (hN : ∀ e w, (K1 (e 8) w) → Q .normal e w) (hX0 : ∀ e w, (m88_3 R (e 3) w) → Q (.exit 0) e w) (e : Env) (w : World) (h : m88_7 R K1 (e 3) (e 6) (e 7) (e 8) (e 9) w) : W88 k88_7 Q e w := by
  refine seA ?_
  have hN : ∀ e w, (m88_8 R K1 (e 3) (e 6) (e 7) (e 8) w) → (thenE (W88 k88_8 Q) Q) .normal e w := fun e w h => then_N (s88_8 hN e w h)
  have hX0 : ∀ e w, (m88_3 R (e 3) w) → (thenE (W88 k88_8 Q) Q) (.exit 0) e w := fun e w h => then_X (hX0 e w h)
  refine coA (Operand.tmp 9) h (fun h1 => ?_) (fun h1 => ?_)
  · exact skA (hN _ _ h1)
  · exact exA 0 (hX0 _ _ h1)
theorem s88_6 {K1 : VP} (hN : ∀ e w, (K1 (e 8) w) → Q .normal e w) (hX0 : ∀ e w, (m88_3 R (e 3) w) → Q (.exit 0) e w) (e : Env) (w : World) (h : m88_6 R K1 (e 3) (e 6) (e 7) (e 8) w) : W88 k88_6 Q e w := by
  refine seA ?_
  exact rgA 3 (fun e w => m88_7 R K1 (e 3) (e 6) (e 7) (e 8) (e 9) w) h fun e w h => then_N (s88_7 hN hX0 e w h)
theorem s88_5 (hN : ∀ e w, (m88_3 R (e 3) w) → Q .normal e w) (e : Env) (w : World) (h : m88_5 R (e 3) (e 6) (e 7) (e 8) w) : W88 k88_5 Q e w := by
  refine block_ok 0 (by kernel_rfl) ?_
  have hX0 : ∀ e w, (m88_3 R (e 3) w) → (inBlockE 0 Q) (.exit 0) e w := fun e w h => inBlock_same (Q := Q) 0 (hN e w h)
  refine loop_ok' (fun (e : Env) => e 8) [3, 6, 7] (by kernel_rfl) (by kernel_rfl) h (fun K e' w' hk h' => ?_)
  have r3 : e' 3 = e 3 := hk 3 (by decide)
  have r6 : e' 6 = e 6 := hk 6 (by decide)
  have r7 : e' 7 = e 7 := hk 7 (by decide)
  have hX0 : ∀ e w, (m88_3 R (e 3) w) → (thenE (fun (e : Env) w => K (e 8) w) (inBlockE 0 Q)) (.exit 0) e w := fun e w h => then_X (hX0 e w h)
  exact s88_6 (K1 := K) (fun _ _ h => then_N h) hX0 e' w' (by rw [r3, r6, r7]; exact h')
theorem s88_2 (hR : hR88 R Q) (e : Env) (w : World) (h : m88_2 R (e 0) (e 3) w) : W88 k88_2 Q e w := by
  refine seA ?_
  have hN : ∀ e w, (m88_3 R (e 3) w) → (thenE (W88 k88_3 Q) Q) .normal e w := fun e w h => then_N (s88_3 hR e w h)
  refine seA ?_
  exact rgA 2 (fun e w => m88_5 R (e 3) (e 6) (e 7) (e 8) w) h fun e w h => then_N (s88_5 hN e w h)
theorem s88_1 (hR : hR88 R Q) (e : Env) (w : World) (h : m88_1 R (e 0) w) : W88 k88_1 Q e w := by
  refine seA ?_
  exact rgA 1 (fun e w => m88_2 R (e 0) (e 3) w) h fun e w h => then_N (s88_2 hR e w h)
theorem s88_0 (hR : hR88 R Q) (e : Env) (w : World) (h : m88_0 R (e 0) w) : W88 k88_0 Q e w := by
  refine seA ?_
  exact rgA 0 (fun e w => m88_1 R (e 0) w) h fun e w h => then_N (s88_1 hR e w h)
abbrev m88 (R : VP) (l0 : Value) (w : World) : Prop := m88_0 R l0 w
theorem s88 (l0 : Value) {R : VP} {w : World} (h : m88 R l0 w) :
    Calls Tryz.prog 88 #[l0] w fun e w' => ∃ v, e = .returned v ∧ R v w' :=
  calls_of_cwp (st := (fun i => 0)) (c := k88_0) (by kernel_rfl) Tryz.func88 (by kernel_rfl) (Nat.le_of_ble_eq_true (by kernel_rfl)) (by kernel_rfl)
    (s88_0 (R := R) (Q := endE Tryz.prog Tryz.f88 R) (fun e w h => kcast (by kernel_rfl) h) (argsE #[l0]) w (kcast (by kernel_rfl) h))
def m89_2 (R : VP) (t2 : Value) (w : World) : Prop :=
  R t2 w
def m89_1 (R : VP) (s0 : Value) (w : World) : Prop :=
  builtinP Tryz.prog Builtin.len #[9] 3 #[false] #[s0] w fun t4 w =>
  callP Tryz.prog (fnV 59) #[t4] w fun t5 w =>
  valP Tryz.prog (binS BinOp.add 9 (tm 5) (tm 6) t5 s0) w fun t7 w =>
  m89_2 R t7 w
def m89_0 (R : VP) (s0 : Value) (w : World) : Prop :=
  m89_1 R s0 w
abbrev W89 := cwp Tryz.prog (fun i => 0)
noncomputable def k89_0 := bodyOf Tryz.f89
noncomputable def k89_1 := c2 k89_0
noncomputable def k89_2 := c2 k89_1
abbrev hR89 (R : VP) (Q : EQ) : Prop := ∀ e w, (R (e 2) w) → Q .ret e w
theorem s89_2 (hR : hR89 R Q) (e : Env) (w : World) (h : m89_2 R (e 2) w) : W89 k89_2 Q e w := by
  exact reA (hR _ _ h)
theorem s89_1 (hR : hR89 R Q) (e : Env) (w : World) (h : m89_1 R (e 0) w) : W89 k89_1 Q e w := by
  refine seA ?_
  exact rgA 1 (fun e w => m89_2 R (e 2) w) h fun e w h => then_N (s89_2 hR e w h)
theorem s89_0 (hR : hR89 R Q) (e : Env) (w : World) (h : m89_0 R (e 0) w) : W89 k89_0 Q e w := by
  refine seA ?_
  exact rgA 0 (fun e w => m89_1 R (e 0) w) h fun e w h => then_N (s89_1 hR e w h)
abbrev m89 (R : VP) (s0 : Value) (w : World) : Prop := m89_0 R s0 w
theorem s89 (s0 : Value) {R : VP} {w : World} (h : m89 R s0 w) :
    Calls Tryz.prog 89 #[s0] w fun e w' => ∃ v, e = .returned v ∧ R v w' :=
  calls_of_cwp (st := (fun i => 0)) (c := k89_0) (by kernel_rfl) Tryz.func89 (by kernel_rfl) (Nat.le_of_ble_eq_true (by kernel_rfl)) (by kernel_rfl)
    (s89_0 (R := R) (Q := endE Tryz.prog Tryz.f89 R) (fun e w h => kcast (by kernel_rfl) h) (argsE #[s0]) w (kcast (by kernel_rfl) h))
def m104_2 (R : VP) (t2 : Value) (w : World) : Prop :=
  R t2 w
def m104_1 (R : VP) (s0 : Value) (w : World) : Prop :=
  builtinP Tryz.prog Builtin.len #[9] 3 #[false] #[s0] w fun t4 w =>
  callP Tryz.prog (fnV 37) #[t4] w fun t5 w =>
  valP Tryz.prog (binS BinOp.add 9 (tm 5) (tm 6) t5 s0) w fun t7 w =>
  m104_2 R t7 w
def m104_0 (R : VP) (s0 : Value) (w : World) : Prop :=
  m104_1 R s0 w
abbrev W104 := cwp Tryz.prog (fun i => 0)
noncomputable def k104_0 := bodyOf Tryz.f104
noncomputable def k104_1 := c2 k104_0
noncomputable def k104_2 := c2 k104_1
abbrev hR104 (R : VP) (Q : EQ) : Prop := ∀ e w, (R (e 2) w) → Q .ret e w
theorem s104_2 (hR : hR104 R Q) (e : Env) (w : World) (h : m104_2 R (e 2) w) : W104 k104_2 Q e w := by
  exact reA (hR _ _ h)
theorem s104_1 (hR : hR104 R Q) (e : Env) (w : World) (h : m104_1 R (e 0) w) : W104 k104_1 Q e w := by
  refine seA ?_
  exact rgA 1 (fun e w => m104_2 R (e 2) w) h fun e w h => then_N (s104_2 hR e w h)
theorem s104_0 (hR : hR104 R Q) (e : Env) (w : World) (h : m104_0 R (e 0) w) : W104 k104_0 Q e w := by
  refine seA ?_
  exact rgA 0 (fun e w => m104_1 R (e 0) w) h fun e w h => then_N (s104_1 hR e w h)
abbrev m104 (R : VP) (s0 : Value) (w : World) : Prop := m104_0 R s0 w
theorem s104 (s0 : Value) {R : VP} {w : World} (h : m104 R s0 w) :
    Calls Tryz.prog 104 #[s0] w fun e w' => ∃ v, e = .returned v ∧ R v w' :=
  calls_of_cwp (st := (fun i => 0)) (c := k104_0) (by kernel_rfl) Tryz.func104 (by kernel_rfl) (Nat.le_of_ble_eq_true (by kernel_rfl)) (by kernel_rfl)
    (s104_0 (R := R) (Q := endE Tryz.prog Tryz.f104 R) (fun e w h => kcast (by kernel_rfl) h) (argsE #[s0]) w (kcast (by kernel_rfl) h))
def m101_17 (R : VP) (t4 t5 t6 : Value) (w : World) : Prop :=
  R (Value.tuple #[t4, t5, t6]) w
def m101_15 (R : VP) (K1 : (Value × Value × Value) → World → Prop) (t4 t5 t6 : Value) (w : World) : Prop :=
  R (Value.tuple #[t4, t5, t6]) w
def m101_10 (R : VP) (K1 : (Value × Value × Value) → World → Prop) (s0 l7 t17 t18 : Value) (w : World) : Prop :=
  valP Tryz.prog (binS BinOp.add 3 (tm 18) (ci 1) t18 (vi 1)) w fun t34 w =>
  K1 (s0, l7, t34) w
def m101_13 (R : VP) (K1 : (Value × Value × Value) → World → Prop) (l7 rest9 t17 t18 : Value) (w : World) : Prop :=
  m101_10 R K1 rest9 l7 t17 t18 w
def m101_12 (R : VP) (K1 : (Value × Value × Value) → World → Prop) (l7 k8 rest9 t17 t18 : Value) (w : World) : Prop :=
  valP Tryz.prog (Instr.buildSlice 23 1 #[(0, k8)]) w fun t31 w =>
  builtinP Tryz.prog Builtin.append #[23, 23] 23 #[false, false] #[l7, t31] w fun t32 w =>
  m101_13 R K1 t32 rest9 t17 t18 w
def m101_14 (R : VP) (K1 : (Value × Value × Value) → World → Prop) (l7 k8 rest9 e10 t17 t18 t27 : Value) (w : World) : Prop :=
  condP t27
  (m101_15 R K1 (Value.slice none 0 0) (Value.string ⟨#[]⟩) e10 w)
  (m101_12 R K1 l7 k8 rest9 t17 t18 w)
def m101_11 (R : VP) (K1 : (Value × Value × Value) → World → Prop) (l7 k8 rest9 e10 t17 t18 : Value) (w : World) : Prop :=
  valP Tryz.prog (binS BinOp.neq 26 (tm 26) (ci 0) e10 (vi 0)) w fun t27 w =>
  m101_14 R K1 l7 k8 rest9 e10 t17 t18 t27 w
def m101_9 (R : VP) (K1 : (Value × Value × Value) → World → Prop) (s0 l7 t17 t18 : Value) (w : World) : Prop :=
  callP Tryz.prog (fnV 73) #[s0] w fun t22 w =>
  valP Tryz.prog (Instr.extract t22 0) w fun t23 w =>
  valP Tryz.prog (Instr.extract t22 1) w fun t24 w =>
  valP Tryz.prog (Instr.extract t22 2) w fun t25 w =>
  m101_11 R K1 l7 t23 t24 t25 t17 t18 w
def m101_5 (R : VP) (t4 t5 t6 : Value) (w : World) : Prop :=
  R (Value.tuple #[t4, t5, t6]) w
def m101_4 (R : VP) (s0 l7 : Value) (w : World) : Prop :=
  m101_5 R l7 s0 (vi 0) w
def m101_8 (R : VP) (K1 : (Value × Value × Value) → World → Prop) (s0 l7 t17 t18 t19 : Value) (w : World) : Prop :=
  condP t19
  (m101_9 R K1 s0 l7 t17 t18 w)
  (m101_4 R s0 l7 w)
def m101_7 (R : VP) (K1 : (Value × Value × Value) → World → Prop) (s0 l7 t17 t18 : Value) (w : World) : Prop :=
  valP Tryz.prog (binS BinOp.lss 3 (tm 18) (tm 17) t18 t17) w fun t19 w =>
  m101_8 R K1 s0 l7 t17 t18 t19 w
def m101_6 (R : VP) (s0 l7 t17 t18 : Value) (w : World) : Prop :=
  loopP (fun (K1 : (Value × Value × Value) → World → Prop) (s : Value × Value × Value) w => m101_7 R K1 s.1 s.2.1 t17 s.2.2 w) (s0, l7, t18) w
def m101_3 (R : VP) (s0 n1 l7 : Value) (w : World) : Prop :=
  m101_6 R s0 l7 n1 (vi 0) w
def m101_2 (R : VP) (s0 n1 : Value) (w : World) : Prop :=
  m101_3 R s0 n1 (Value.slice none 0 0) w
def m101_16 (R : VP) (s0 n1 t16 : Value) (w : World) : Prop :=
  condP t16
  (m101_17 R (Value.slice none 0 0) (Value.string ⟨#[]⟩) (vi 1) w)
  (m101_2 R s0 n1 w)
def m101_1 (R : VP) (s0 n1 : Value) (w : World) : Prop :=
  valP Tryz.prog (binS BinOp.lss 3 (tm 11) (ci 0) n1 (vi 0)) w fun t12 w =>
  condP t12
  (pickP t12 (Value.bool true) undef fun t16 =>
  m101_16 R s0 n1 t16 w)
  (valP Tryz.prog (binS BinOp.gtr 3 (tm 14) (ci 64) n1 (vi 64)) w fun t15 w =>
  pickP t12 (Value.bool true) t15 fun t16 =>
  m101_16 R s0 n1 t16 w)
def m101_0 (R : VP) (s0 n1 : Value) (w : World) : Prop :=
  m101_1 R s0 n1 w
abbrev W101 := cwp Tryz.prog (fun i => 0)
noncomputable def k101_0 := bodyOf Tryz.f101
noncomputable def k101_1 := c2 k101_0
noncomputable def k101_2 := c2 k101_1
noncomputable def k101_3 := c2 k101_2
noncomputable def k101_4 := c2 k101_3
noncomputable def k101_5 := c2 k101_4
noncomputable def k101_6 := c2 (c1 k101_3)
noncomputable def k101_7 := c1 (c1 k101_6)
noncomputable def k101_8 := c2 k101_7
noncomputable def k101_9 := c2 k101_8
noncomputable def k101_10 := c2 k101_9
noncomputable def k101_11 := c2 (c1 (c1 k101_9))
noncomputable def k101_12 := c2 k101_11
noncomputable def k101_13 := c2 k101_12
noncomputable def k101_14 := c2 (c1 k101_11)
noncomputable def k101_15 := c2 (c1 k101_14)
noncomputable def k101_16 := c2 (c1 k101_1)
noncomputable def k101_17 := c2 (c1 k101_16)
abbrev hR101 (R : VP) (Q : EQ) : Prop := ∀ e w, (R (Value.tuple #[(e 4), (e 5), (e 6)]) w) → Q .ret e w
theorem s101_17 (hR : hR101 R Q) (e : Env) (w : World) (h : m101_17 R (e 4) (e 5) (e 6) w) : W101 k101_17 Q e w := by
  exact reA (hR _ _ h)
theorem s101_15 {K1 : (Value × Value × Value) → World → Prop} (hR : hR101 R Q) (e : Env) (w : World) (h : m101_15 R K1 (e 4) (e 5) (e 6) w) : W101 k101_15 Q e w := by
  exact reA (hR _ _ h)
theorem s101_10 {K1 : (Value × Value × Value) → World → Prop} (hN : ∀ e w, (K1 ((e 0), (e 7), (e 18)) w) → Q .normal e w) (e : Env) (w : World) (h : m101_10 R K1 (e 0) (e 7) (e 17) (e 18) w) : W101 k101_10 Q e w := by
  exact rgA 11 (fun e w => K1 ((e 0), (e 7), (e 18)) w) h hN
theorem s101_13 {K1 : (Value × Value × Value) → World → Prop} (hN : ∀ e w, (m101_10 R K1 (e 0) (e 7) (e 17) (e 18) w) → Q .normal e w) (e : Env) (w : World) (h : m101_13 R K1 (e 7) (e 9) (e 17) (e 18) w) : W101 k101_13 Q e w := by
  exact rgA 10 (fun e w => m101_10 R K1 (e 0) (e 7) (e 17) (e 18) w) h hN
theorem s101_12 {K1 : (Value × Value × Value) → World → Prop} (hN : ∀ e w, (m101_10 R K1 (e 0) (e 7) (e 17) (e 18) w) → Q .normal e w) (e : Env) (w : World) (h : m101_12 R K1 (e 7) (e 8) (e 9) (e 17) (e 18) w) : W101 k101_12 Q e w := by
  refine seA ?_
  exact rgA 9 (fun e w => m101_13 R K1 (e 7) (e 9) (e 17) (e 18) w) h fun e w h => then_N (s101_13 hN e w h)
theorem s101_14 {K1 : (Value × Value × Value) → World → Prop} (hN : ∀ e w, (m101_12 R K1 (e 7) (e 8) (e 9) (e 17) (e 18) w) → Q .normal e w) (hR : hR101 R Q) (e : Env) (w : World) (h : m101_14 R K1 (e 7) (e 8) (e 9) (e 10) (e 17) (e 18) (e 27) w) : W101 k101_14 Q e w := by
  refine coA (Operand.tmp 27) h (fun h1 => ?_) (fun h1 => ?_)
  · refine seA ?_
    exact rgA 8 (fun e w => m101_15 R K1 (e 4) (e 5) (e 6) w) h1 fun e w h => then_N (s101_15 hR e w h)
  · exact skA (hN _ _ h1)
theorem s101_11 {K1 : (Value × Value × Value) → World → Prop} (hN : ∀ e w, (m101_10 R K1 (e 0) (e 7) (e 17) (e 18) w) → Q .normal e w) (hR : hR101 R Q) (e : Env) (w : World) (h : m101_11 R K1 (e 7) (e 8) (e 9) (e 10) (e 17) (e 18) w) : W101 k101_11 Q e w := by
  refine seA ?_
  have hN : ∀ e w, (m101_12 R K1 (e 7) (e 8) (e 9) (e 17) (e 18) w) → (thenE (W101 k101_12 Q) Q) .normal e w := fun e w h => then_N (s101_12 hN e w h)
  have hR : hR101 R (thenE (W101 k101_12 Q) Q) := fun e w h => then_R (hR e w h)
  refine seA ?_
  exact rgA 7 (fun e w => m101_14 R K1 (e 7) (e 8) (e 9) (e 10) (e 17) (e 18) (e 27) w) h fun e w h => then_N (s101_14 hN hR e w h)
theorem s101_9 {K1 : (Value × Value × Value) → World → Prop} (hN : ∀ e w, (K1 ((e 0), (e 7), (e 18)) w) → Q .normal e w) (hR : hR101 R Q) (e : Env) (w : World) (h : m101_9 R K1 (e 0) (e 7) (e 17) (e 18) w) : W101 k101_9 Q e w := by
  refine seA ?_
  have hN : ∀ e w, (m101_10 R K1 (e 0) (e 7) (e 17) (e 18) w) → (thenE (W101 k101_10 Q) Q) .normal e w := fun e w h => then_N (s101_10 hN e w h)
  have hR : hR101 R (thenE (W101 k101_10 Q) Q) := fun e w h => then_R (hR e w h)
  refine block_ok 1 (by kernel_rfl) ?_
  have hN : ∀ e w, (m101_10 R K1 (e 0) (e 7) (e 17) (e 18) w) → (inBlockE 1 (thenE (W101 k101_10 Q) Q)) .normal e w := fun e w h => block_N (hN e w h)
  have hR : hR101 R (inBlockE 1 (thenE (W101 k101_10 Q) Q)) := fun e w h => block_R (hR e w h)
  refine seA ?_
  exact rgA 6 (fun e w => m101_11 R K1 (e 7) (e 8) (e 9) (e 10) (e 17) (e 18) w) h fun e w h => then_N (s101_11 (R := R) (Q := (inBlockE 1 (thenE (W101 k101_10 Q) Q))) hN hR e w h)
theorem s101_5 (hR : hR101 R Q) (e : Env) (w : World) (h : m101_5 R (e 4) (e 5) (e 6) w) : W101 k101_5 Q e w := by
  exact reA (hR _ _ h)
theorem s101_4 (hR : hR101 R Q) (e : Env) (w : World) (h : m101_4 R (e 0) (e 7) w) : W101 k101_4 Q e w := by
  refine seA ?_
  exact rgA 12 (fun e w => m101_5 R (e 4) (e 5) (e 6) w) h fun e w h => then_N (s101_5 hR e w h)
theorem s101_8 {K1 : (Value × Value × Value) → World → Prop} (hN : ∀ e w, (K1 ((e 0), (e 7), (e 18)) w) → Q .normal e w) (hR : hR101 R Q) (hX0 : ∀ e w, (m101_4 R (e 0) (e 7) w) → Q (.exit 0) e w) (e : Env) (w : World) (h : m101_8 R K1 (e 0) (e 7) (e 17) (e 18) (e 19) w) : W101 k101_8 Q e w := by
  refine seA ?_
  have hN : ∀ e w, (m101_9 R K1 (e 0) (e 7) (e 17) (e 18) w) → (thenE (W101 k101_9 Q) Q) .normal e w := fun e w h => then_N (s101_9 hN hR e w h)
  have hX0 : ∀ e w, (m101_4 R (e 0) (e 7) w) → (thenE (W101 k101_9 Q) Q) (.exit 0) e w := fun e w h => then_X (hX0 e w h)
  refine coA (Operand.tmp 19) h (fun h1 => ?_) (fun h1 => ?_)
  · exact skA (hN _ _ h1)
  · exact exA 0 (hX0 _ _ h1)
theorem s101_7 {K1 : (Value × Value × Value) → World → Prop} (hN : ∀ e w, (K1 ((e 0), (e 7), (e 18)) w) → Q .normal e w) (hR : hR101 R Q) (hX0 : ∀ e w, (m101_4 R (e 0) (e 7) w) → Q (.exit 0) e w) (e : Env) (w : World) (h : m101_7 R K1 (e 0) (e 7) (e 17) (e 18) w) : W101 k101_7 Q e w := by
  refine seA ?_
  exact rgA 5 (fun e w => m101_8 R K1 (e 0) (e 7) (e 17) (e 18) (e 19) w) h fun e w h => then_N (s101_8 hN hR hX0 e w h)
theorem s101_6 (hN : ∀ e w, (m101_4 R (e 0) (e 7) w) → Q .normal e w) (hR : hR101 R Q) (e : Env) (w : World) (h : m101_6 R (e 0) (e 7) (e 17) (e 18) w) : W101 k101_6 Q e w := by
  refine block_ok 0 (by kernel_rfl) ?_
  have hX0 : ∀ e w, (m101_4 R (e 0) (e 7) w) → (inBlockE 0 Q) (.exit 0) e w := fun e w h => inBlock_same (Q := Q) 0 (hN e w h)
  have hR : hR101 R (inBlockE 0 Q) := fun e w h => block_R (hR e w h)
  refine loop_ok' (fun (e : Env) => (e 0, e 7, e 18)) [17] (by kernel_rfl) (by kernel_rfl) h (fun K e' w' hk h' => ?_)
  have r17 : e' 17 = e 17 := hk 17 (by decide)
  have hR : hR101 R (thenE (fun (e : Env) w => K ((e 0), (e 7), (e 18)) w) (inBlockE 0 Q)) := fun e w h => then_R (hR e w h)
  have hX0 : ∀ e w, (m101_4 R (e 0) (e 7) w) → (thenE (fun (e : Env) w => K ((e 0), (e 7), (e 18)) w) (inBlockE 0 Q)) (.exit 0) e w := fun e w h => then_X (hX0 e w h)
  exact s101_7 (K1 := K) (fun _ _ h => then_N h) hR hX0 e' w' (by rw [r17]; exact h')
theorem s101_3 (hR : hR101 R Q) (e : Env) (w : World) (h : m101_3 R (e 0) (e 1) (e 7) w) : W101 k101_3 Q e w := by
  refine seA ?_
  have hN : ∀ e w, (m101_4 R (e 0) (e 7) w) → (thenE (W101 k101_4 Q) Q) .normal e w := fun e w h => then_N (s101_4 hR e w h)
  have hR : hR101 R (thenE (W101 k101_4 Q) Q) := fun e w h => then_R (hR e w h)
  refine seA ?_
  exact rgA 4 (fun e w => m101_6 R (e 0) (e 7) (e 17) (e 18) w) h fun e w h => then_N (s101_6 hN hR e w h)
theorem s101_2 (hR : hR101 R Q) (e : Env) (w : World) (h : m101_2 R (e 0) (e 1) w) : W101 k101_2 Q e w := by
  refine seA ?_
  exact rgA 3 (fun e w => m101_3 R (e 0) (e 1) (e 7) w) h fun e w h => then_N (s101_3 hR e w h)
theorem s101_16 (hN : ∀ e w, (m101_2 R (e 0) (e 1) w) → Q .normal e w) (hR : hR101 R Q) (e : Env) (w : World) (h : m101_16 R (e 0) (e 1) (e 16) w) : W101 k101_16 Q e w := by
  refine coA (Operand.tmp 16) h (fun h1 => ?_) (fun h1 => ?_)
  · refine seA ?_
    exact rgA 2 (fun e w => m101_17 R (e 4) (e 5) (e 6) w) h1 fun e w h => then_N (s101_17 hR e w h)
  · exact skA (hN _ _ h1)
theorem s101_1 (hR : hR101 R Q) (e : Env) (w : World) (h : m101_1 R (e 0) (e 1) w) : W101 k101_1 Q e w := by
  refine seA ?_
  have hN : ∀ e w, (m101_2 R (e 0) (e 1) w) → (thenE (W101 k101_2 Q) Q) .normal e w := fun e w h => then_N (s101_2 hR e w h)
  have hR : hR101 R (thenE (W101 k101_2 Q) Q) := fun e w h => then_R (hR e w h)
  refine seA ?_
  exact rgA 1 (fun e w => m101_16 R (e 0) (e 1) (e 16) w) h fun e w h => then_N (s101_16 hN hR e w h)
theorem s101_0 (hR : hR101 R Q) (e : Env) (w : World) (h : m101_0 R (e 0) (e 1) w) : W101 k101_0 Q e w := by
  refine seA ?_
  exact rgA 0 (fun e w => m101_1 R (e 0) (e 1) w) h fun e w h => then_N (s101_1 hR e w h)
abbrev m101 (R : VP) (s0 n1 : Value) (w : World) : Prop := m101_0 R s0 n1 w
theorem s101 (s0 n1 : Value) {R : VP} {w : World} (h : m101 R s0 n1 w) :
    Calls Tryz.prog 101 #[s0, n1] w fun e w' => ∃ v, e = .returned v ∧ R v w' :=
  calls_of_cwp (st := (fun i => 0)) (c := k101_0) (by kernel_rfl) Tryz.func101 (by kernel_rfl) (Nat.le_of_ble_eq_true (by kernel_rfl)) (by kernel_rfl)
    (s101_0 (R := R) (Q := endE Tryz.prog Tryz.f101 R) (fun e w h => kcast (by kernel_rfl) h) (argsE #[s0, n1]) w (kcast (by kernel_rfl) h))
def m102_6 (R : VP) (t4 t5 t6 : Value) (w : World) : Prop :=
  R (Value.tuple #[t4, t5, t6]) w
def m102_4 (R : VP) (t4 t5 t6 : Value) (w : World) : Prop :=
  R (Value.tuple #[t4, t5, t6]) w
def m102_3 (R : VP) (n7 rest8 : Value) (w : World) : Prop :=
  valQ Tryz.prog (Instr.sliceAt 9 rest8 none (some n7) none) w fun t35 =>
  valQ Tryz.prog (Instr.sliceAt 9 rest8 (some n7) none none) w fun t38 =>
  anyDraw w fun w =>
  m102_4 R t35 t38 (vi 0) w
def m102_5 (R : VP) (n7 rest8 t32 : Value) (w : World) : Prop :=
  condP t32
  (m102_6 R (Value.string ⟨#[]⟩) (Value.string ⟨#[]⟩) (vi 2) w)
  (m102_3 R n7 rest8 w)
def m102_2 (R : VP) (most1 n7 rest8 e9 : Value) (w : World) : Prop :=
  valP Tryz.prog (binS BinOp.neq 26 (tm 16) (ci 0) e9 (vi 0)) w fun t17 w =>
  condP t17
  (pickP t17 (Value.bool true) undef fun t21 =>
  condP t21
  (pickP t21 (Value.bool true) undef fun t26 =>
  condP t26
  (pickP t26 (Value.bool true) undef fun t32 =>
  m102_5 R n7 rest8 t32 w)
  (builtinP Tryz.prog Builtin.len #[9] 3 #[false] #[rest8] w fun t30 w =>
  valP Tryz.prog (binS BinOp.gtr 3 (tm 28) (tm 30) n7 t30) w fun t31 w =>
  pickP t26 (Value.bool true) t31 fun t32 =>
  m102_5 R n7 rest8 t32 w))
  (valP Tryz.prog (binS BinOp.gtr 3 (tm 23) (tm 24) n7 most1) w fun t25 w =>
  pickP t21 (Value.bool true) t25 fun t26 =>
  condP t26
  (pickP t26 (Value.bool true) undef fun t32 =>
  m102_5 R n7 rest8 t32 w)
  (builtinP Tryz.prog Builtin.len #[9] 3 #[false] #[rest8] w fun t30 w =>
  valP Tryz.prog (binS BinOp.gtr 3 (tm 28) (tm 30) n7 t30) w fun t31 w =>
  pickP t26 (Value.bool true) t31 fun t32 =>
  m102_5 R n7 rest8 t32 w)))
  (valP Tryz.prog (binS BinOp.lss 3 (tm 19) (ci 0) n7 (vi 0)) w fun t20 w =>
  pickP t17 (Value.bool true) t20 fun t21 =>
  condP t21
  (pickP t21 (Value.bool true) undef fun t26 =>
  condP t26
  (pickP t26 (Value.bool true) undef fun t32 =>
  m102_5 R n7 rest8 t32 w)
  (builtinP Tryz.prog Builtin.len #[9] 3 #[false] #[rest8] w fun t30 w =>
  valP Tryz.prog (binS BinOp.gtr 3 (tm 28) (tm 30) n7 t30) w fun t31 w =>
  pickP t26 (Value.bool true) t31 fun t32 =>
  m102_5 R n7 rest8 t32 w))
  (valP Tryz.prog (binS BinOp.gtr 3 (tm 23) (tm 24) n7 most1) w fun t25 w =>
  pickP t21 (Value.bool true) t25 fun t26 =>
  condP t26
  (pickP t26 (Value.bool true) undef fun t32 =>
  m102_5 R n7 rest8 t32 w)
  (builtinP Tryz.prog Builtin.len #[9] 3 #[false] #[rest8] w fun t30 w =>
  valP Tryz.prog (binS BinOp.gtr 3 (tm 28) (tm 30) n7 t30) w fun t31 w =>
  pickP t26 (Value.bool true) t31 fun t32 =>
  m102_5 R n7 rest8 t32 w)))
def m102_1 (R : VP) (s0 most1 : Value) (w : World) : Prop :=
  callP Tryz.prog (fnV 73) #[s0] w fun t12 w =>
  valP Tryz.prog (Instr.extract t12 0) w fun t13 w =>
  valP Tryz.prog (Instr.extract t12 1) w fun t14 w =>
  valP Tryz.prog (Instr.extract t12 2) w fun t15 w =>
  m102_2 R most1 t13 t14 t15 w
def m102_0 (R : VP) (s0 most1 : Value) (w : World) : Prop :=
  m102_1 R s0 most1 w
abbrev W102 := cwp Tryz.prog (fun i => cond (Nat.beq i 4) 1 (0))
noncomputable def k102_0 := bodyOf Tryz.f102
noncomputable def k102_1 := c2 k102_0
noncomputable def k102_2 := c2 k102_1
noncomputable def k102_3 := c2 k102_2
noncomputable def k102_4 := c2 k102_3
noncomputable def k102_5 := c2 (c1 k102_2)
noncomputable def k102_6 := c2 (c1 k102_5)
abbrev hR102 (R : VP) (Q : EQ) : Prop := ∀ e w, (R (Value.tuple #[(e 4), (e 5), (e 6)]) w) → Q .ret e w
theorem s102_6 (hR : hR102 R Q) (e : Env) (w : World) (h : m102_6 R (e 4) (e 5) (e 6) w) : W102 k102_6 Q e w := by
  exact reA (hR _ _ h)
theorem s102_4 (hR : hR102 R Q) (e : Env) (w : World) (h : m102_4 R (e 4) (e 5) (e 6) w) : W102 k102_4 Q e w := by
  exact reA (hR _ _ h)
theorem s102_3 (hR : hR102 R Q) (e : Env) (w : World) (h : m102_3 R (e 7) (e 8) w) : W102 k102_3 Q e w := by
  refine seA ?_
  have hN : ∀ e w, (m102_4 R (e 4) (e 5) (e 6) w) → (thenE (W102 k102_4 Q) Q) .normal e w := fun e w h => then_N (s102_4 hR e w h)
  exact quA 4 (fun e w => m102_4 R (e 4) (e 5) (e 6) w) h hN
theorem s102_5 (hN : ∀ e w, (m102_3 R (e 7) (e 8) w) → Q .normal e w) (hR : hR102 R Q) (e : Env) (w : World) (h : m102_5 R (e 7) (e 8) (e 32) w) : W102 k102_5 Q e w := by
  refine coA (Operand.tmp 32) h (fun h1 => ?_) (fun h1 => ?_)
  · refine seA ?_
    exact rgA 3 (fun e w => m102_6 R (e 4) (e 5) (e 6) w) h1 fun e w h => then_N (s102_6 hR e w h)
  · exact skA (hN _ _ h1)
theorem s102_2 (hR : hR102 R Q) (e : Env) (w : World) (h : m102_2 R (e 1) (e 7) (e 8) (e 9) w) : W102 k102_2 Q e w := by
  refine seA ?_
  have hN : ∀ e w, (m102_3 R (e 7) (e 8) w) → (thenE (W102 k102_3 Q) Q) .normal e w := fun e w h => then_N (s102_3 hR e w h)
  have hR : hR102 R (thenE (W102 k102_3 Q) Q) := fun e w h => then_R (hR e w h)
  refine seA ?_
  exact rgA 2 (fun e w => m102_5 R (e 7) (e 8) (e 32) w) h fun e w h => then_N (s102_5 hN hR e w h)
theorem s102_1 (hR : hR102 R Q) (e : Env) (w : World) (h : m102_1 R (e 0) (e 1) w) : W102 k102_1 Q e w := by
  refine seA ?_
  exact rgA 1 (fun e w => m102_2 R (e 1) (e 7) (e 8) (e 9) w) h fun e w h => then_N (s102_2 hR e w h)
theorem s102_0 (hR : hR102 R Q) (e : Env) (w : World) (h : m102_0 R (e 0) (e 1) w) : W102 k102_0 Q e w := by
  refine seA ?_
  exact rgA 0 (fun e w => m102_1 R (e 0) (e 1) w) h fun e w h => then_N (s102_1 hR e w h)
abbrev m102 (R : VP) (s0 most1 : Value) (w : World) : Prop := m102_0 R s0 most1 w
theorem s102 (s0 most1 : Value) {R : VP} {w : World} (h : m102 R s0 most1 w) :
    Calls Tryz.prog 102 #[s0, most1] w fun e w' => ∃ v, e = .returned v ∧ R v w' :=
  calls_of_cwp (st := (fun i => cond (Nat.beq i 4) 1 (0))) (c := k102_0) (by kernel_rfl) Tryz.func102 (by kernel_rfl) (Nat.le_of_ble_eq_true (by kernel_rfl)) (by kernel_rfl)
    (s102_0 (R := R) (Q := endE Tryz.prog Tryz.f102 R) (fun e w h => kcast (by kernel_rfl) h) (argsE #[s0, most1]) w (kcast (by kernel_rfl) h))
def m107_6 (R : VP) (t4 t5 t6 : Value) (w : World) : Prop :=
  R (Value.tuple #[t4, t5, t6]) w
def m107_4 (R : VP) (t4 t5 t6 : Value) (w : World) : Prop :=
  R (Value.tuple #[t4, t5, t6]) w
def m107_3 (R : VP) (n7 rest8 : Value) (w : World) : Prop :=
  valQ Tryz.prog (Instr.sliceAt 9 rest8 none (some n7) none) w fun t35 =>
  valQ Tryz.prog (Instr.sliceAt 9 rest8 (some n7) none none) w fun t38 =>
  anyDraw w fun w =>
  m107_4 R t35 t38 (vi 0) w
def m107_5 (R : VP) (n7 rest8 t32 : Value) (w : World) : Prop :=
  condP t32
  (m107_6 R (Value.string ⟨#[]⟩) (Value.string ⟨#[]⟩) (vi 2) w)
  (m107_3 R n7 rest8 w)
def m107_2 (R : VP) (most1 n7 rest8 e9 : Value) (w : World) : Prop :=
  valP Tryz.prog (binS BinOp.neq 3 (tm 16) (ci 0) e9 (vi 0)) w fun t17 w =>
  condP t17
  (pickP t17 (Value.bool true) undef fun t21 =>
  condP t21
  (pickP t21 (Value.bool true) undef fun t26 =>
  condP t26
  (pickP t26 (Value.bool true) undef fun t32 =>
  m107_5 R n7 rest8 t32 w)
  (builtinP Tryz.prog Builtin.len #[9] 3 #[false] #[rest8] w fun t30 w =>
  valP Tryz.prog (binS BinOp.gtr 3 (tm 28) (tm 30) n7 t30) w fun t31 w =>
  pickP t26 (Value.bool true) t31 fun t32 =>
  m107_5 R n7 rest8 t32 w))
  (valP Tryz.prog (binS BinOp.gtr 3 (tm 23) (tm 24) n7 most1) w fun t25 w =>
  pickP t21 (Value.bool true) t25 fun t26 =>
  condP t26
  (pickP t26 (Value.bool true) undef fun t32 =>
  m107_5 R n7 rest8 t32 w)
  (builtinP Tryz.prog Builtin.len #[9] 3 #[false] #[rest8] w fun t30 w =>
  valP Tryz.prog (binS BinOp.gtr 3 (tm 28) (tm 30) n7 t30) w fun t31 w =>
  pickP t26 (Value.bool true) t31 fun t32 =>
  m107_5 R n7 rest8 t32 w)))
  (valP Tryz.prog (binS BinOp.lss 3 (tm 19) (ci 0) n7 (vi 0)) w fun t20 w =>
  pickP t17 (Value.bool true) t20 fun t21 =>
  condP t21
  (pickP t21 (Value.bool true) undef fun t26 =>
  condP t26
  (pickP t26 (Value.bool true) undef fun t32 =>
  m107_5 R n7 rest8 t32 w)
  (builtinP Tryz.prog Builtin.len #[9] 3 #[false] #[rest8] w fun t30 w =>
  valP Tryz.prog (binS BinOp.gtr 3 (tm 28) (tm 30) n7 t30) w fun t31 w =>
  pickP t26 (Value.bool true) t31 fun t32 =>
  m107_5 R n7 rest8 t32 w))
  (valP Tryz.prog (binS BinOp.gtr 3 (tm 23) (tm 24) n7 most1) w fun t25 w =>
  pickP t21 (Value.bool true) t25 fun t26 =>
  condP t26
  (pickP t26 (Value.bool true) undef fun t32 =>
  m107_5 R n7 rest8 t32 w)
  (builtinP Tryz.prog Builtin.len #[9] 3 #[false] #[rest8] w fun t30 w =>
  valP Tryz.prog (binS BinOp.gtr 3 (tm 28) (tm 30) n7 t30) w fun t31 w =>
  pickP t26 (Value.bool true) t31 fun t32 =>
  m107_5 R n7 rest8 t32 w)))
def m107_1 (R : VP) (s0 most1 : Value) (w : World) : Prop :=
  callP Tryz.prog (fnV 85) #[s0] w fun t12 w =>
  valP Tryz.prog (Instr.extract t12 0) w fun t13 w =>
  valP Tryz.prog (Instr.extract t12 1) w fun t14 w =>
  valP Tryz.prog (Instr.extract t12 2) w fun t15 w =>
  m107_2 R most1 t13 t14 t15 w
def m107_0 (R : VP) (s0 most1 : Value) (w : World) : Prop :=
  m107_1 R s0 most1 w
abbrev W107 := cwp Tryz.prog (fun i => cond (Nat.beq i 4) 1 (0))
noncomputable def k107_0 := bodyOf Tryz.f107
noncomputable def k107_1 := c2 k107_0
noncomputable def k107_2 := c2 k107_1
noncomputable def k107_3 := c2 k107_2
noncomputable def k107_4 := c2 k107_3
noncomputable def k107_5 := c2 (c1 k107_2)
noncomputable def k107_6 := c2 (c1 k107_5)
abbrev hR107 (R : VP) (Q : EQ) : Prop := ∀ e w, (R (Value.tuple #[(e 4), (e 5), (e 6)]) w) → Q .ret e w
theorem s107_6 (hR : hR107 R Q) (e : Env) (w : World) (h : m107_6 R (e 4) (e 5) (e 6) w) : W107 k107_6 Q e w := by
  exact reA (hR _ _ h)
theorem s107_4 (hR : hR107 R Q) (e : Env) (w : World) (h : m107_4 R (e 4) (e 5) (e 6) w) : W107 k107_4 Q e w := by
  exact reA (hR _ _ h)
theorem s107_3 (hR : hR107 R Q) (e : Env) (w : World) (h : m107_3 R (e 7) (e 8) w) : W107 k107_3 Q e w := by
  refine seA ?_
  have hN : ∀ e w, (m107_4 R (e 4) (e 5) (e 6) w) → (thenE (W107 k107_4 Q) Q) .normal e w := fun e w h => then_N (s107_4 hR e w h)
  exact quA 4 (fun e w => m107_4 R (e 4) (e 5) (e 6) w) h hN
theorem s107_5 (hN : ∀ e w, (m107_3 R (e 7) (e 8) w) → Q .normal e w) (hR : hR107 R Q) (e : Env) (w : World) (h : m107_5 R (e 7) (e 8) (e 32) w) : W107 k107_5 Q e w := by
  refine coA (Operand.tmp 32) h (fun h1 => ?_) (fun h1 => ?_)
  · refine seA ?_
    exact rgA 3 (fun e w => m107_6 R (e 4) (e 5) (e 6) w) h1 fun e w h => then_N (s107_6 hR e w h)
  · exact skA (hN _ _ h1)
theorem s107_2 (hR : hR107 R Q) (e : Env) (w : World) (h : m107_2 R (e 1) (e 7) (e 8) (e 9) w) : W107 k107_2 Q e w := by
  refine seA ?_
  have hN : ∀ e w, (m107_3 R (e 7) (e 8) w) → (thenE (W107 k107_3 Q) Q) .normal e w := fun e w h => then_N (s107_3 hR e w h)
  have hR : hR107 R (thenE (W107 k107_3 Q) Q) := fun e w h => then_R (hR e w h)
  refine seA ?_
  exact rgA 2 (fun e w => m107_5 R (e 7) (e 8) (e 32) w) h fun e w h => then_N (s107_5 hN hR e w h)
theorem s107_1 (hR : hR107 R Q) (e : Env) (w : World) (h : m107_1 R (e 0) (e 1) w) : W107 k107_1 Q e w := by
  refine seA ?_
  exact rgA 1 (fun e w => m107_2 R (e 1) (e 7) (e 8) (e 9) w) h fun e w h => then_N (s107_2 hR e w h)
theorem s107_0 (hR : hR107 R Q) (e : Env) (w : World) (h : m107_0 R (e 0) (e 1) w) : W107 k107_0 Q e w := by
  refine seA ?_
  exact rgA 0 (fun e w => m107_1 R (e 0) (e 1) w) h fun e w h => then_N (s107_1 hR e w h)
abbrev m107 (R : VP) (s0 most1 : Value) (w : World) : Prop := m107_0 R s0 most1 w
theorem s107 (s0 most1 : Value) {R : VP} {w : World} (h : m107 R s0 most1 w) :
    Calls Tryz.prog 107 #[s0, most1] w fun e w' => ∃ v, e = .returned v ∧ R v w' :=
  calls_of_cwp (st := (fun i => cond (Nat.beq i 4) 1 (0))) (c := k107_0) (by kernel_rfl) Tryz.func107 (by kernel_rfl) (Nat.le_of_ble_eq_true (by kernel_rfl)) (by kernel_rfl)
    (s107_0 (R := R) (Q := endE Tryz.prog Tryz.f107 R) (fun e w h => kcast (by kernel_rfl) h) (argsE #[s0, most1]) w (kcast (by kernel_rfl) h))
def m60_2 (R : VP) (t2 : Value) (w : World) : Prop :=
  R t2 w
def m60_1 (R : VP) (r1 : Value) (w : World) : Prop :=
  anyDraw w fun w =>
  heldP w fun J =>
  valJ Tryz.prog J (Instr.fieldAt 56 r1 0) fun t3 =>
  valJ Tryz.prog J (Instr.loadAt 3 t3) fun t4 =>
  valJ Tryz.prog J (Instr.fieldAt 56 r1 1) fun t5 =>
  valJ Tryz.prog J (Instr.loadAt 3 t5) fun t6 =>
  valJ Tryz.prog J (Instr.fieldAt 56 r1 2) fun t9 =>
  valJ Tryz.prog J (Instr.loadAt 9 t9) fun t10 =>
  valP Tryz.prog (Instr.buildSlice 23 2 #[(0, t4), (1, t6)]) w fun t7 w =>
  stayP J w
  (callP Tryz.prog (fnV 88) #[t7] w fun t8 w =>
  stayP J w
  (callP Tryz.prog (fnV 89) #[t10] w fun t11 w =>
  stayP J w
  (valJ Tryz.prog J (binS BinOp.add 9 (tm 8) (tm 11) t8 t11) fun t12 =>
  m60_2 R t12 w)))
def m60_0 (R : VP) (r0 : Value) (w : World) : Prop :=
  valP Tryz.prog (Instr.box 56 r0) w fun r1 w =>
  m60_1 R r1 w
abbrev W60 := cwp Tryz.prog (fun i => 0)
noncomputable def k60_0 := bodyOf Tryz.f60
noncomputable def k60_1 := c2 k60_0
noncomputable def k60_2 := c2 k60_1
abbrev hR60 (R : VP) (Q : EQ) : Prop := ∀ e w, (R (e 2) w) → Q .ret e w
theorem s60_2 (hR : hR60 R Q) (e : Env) (w : World) (h : m60_2 R (e 2) w) : W60 k60_2 Q e w := by
  exact reA (hR _ _ h)
theorem s60_1 (hR : hR60 R Q) (e : Env) (w : World) (h : m60_1 R (e 1) w) : W60 k60_1 Q e w := by
  refine seA ?_
  have hN : ∀ e w, (m60_2 R (e 2) w) → (thenE (W60 k60_2 Q) Q) .normal e w := fun e w h => then_N (s60_2 hR e w h)
  exact treeJ_ok 1 11 (bt 11 0) (.take 0 (bt 11 1) (.take 1 (bt 11 3) (.take 2 (bt 11 7) (.take 3 (bt 11 15) (.take 6 (bt 11 79) (.take 7 (bt 11 207) (.alt 4 (bt 11 223) (.alt 5 (bt 11 255) (.alt 8 (bt 11 511) (.take 9 (bt 11 1023) (.take 10 (bt 11 2047) .done)) .stop) .stop) .stop))))))) (fun e w => m60_2 R (e 2) w) (by kernel_rfl) (by kernel_rfl) (by kernel_rfl) (by kernel_rfl) (by kernel_rfl) (by kernel_rfl) (kcast (by kernel_rfl) h) hN (by kernel_rfl)
theorem s60_0 (hR : hR60 R Q) (e : Env) (w : World) (h : m60_0 R (e 0) w) : W60 k60_0 Q e w := by
  refine seA ?_
  exact rgA 0 (fun e w => m60_1 R (e 1) w) h fun e w h => then_N (s60_1 hR e w h)
abbrev m60 (R : VP) (r0 : Value) (w : World) : Prop := m60_0 R r0 w
theorem s60 (r0 : Value) {R : VP} {w : World} (h : m60 R r0 w) :
    Calls Tryz.prog 60 #[r0] w fun e w' => ∃ v, e = .returned v ∧ R v w' :=
  calls_of_cwp (st := (fun i => 0)) (c := k60_0) (by kernel_rfl) Tryz.func60 (by kernel_rfl) (Nat.le_of_ble_eq_true (by kernel_rfl)) (by kernel_rfl)
    (s60_0 (R := R) (Q := endE Tryz.prog Tryz.f60 R) (fun e w h => kcast (by kernel_rfl) h) (argsE #[r0]) w (kcast (by kernel_rfl) h))
def m78_2 (R : VP) (t2 : Value) (w : World) : Prop :=
  R t2 w
def m78_1 (R : VP) (r1 : Value) (w : World) : Prop :=
  anyDraw w fun w =>
  heldP w fun J =>
  valJ Tryz.prog J (Instr.fieldAt 56 r1 0) fun t3 =>
  valJ Tryz.prog J (Instr.loadAt 3 t3) fun t4 =>
  valJ Tryz.prog J (Instr.fieldAt 56 r1 1) fun t6 =>
  valJ Tryz.prog J (Instr.loadAt 3 t6) fun t7 =>
  valJ Tryz.prog J (Instr.fieldAt 56 r1 2) fun t10 =>
  valJ Tryz.prog J (Instr.loadAt 9 t10) fun t11 =>
  callP Tryz.prog (fnV 37) #[t4] w fun t5 w =>
  stayP J w
  (callP Tryz.prog (fnV 37) #[t7] w fun t8 w =>
  stayP J w
  (valJ Tryz.prog J (binS BinOp.add 9 (tm 5) (tm 8) t5 t8) fun t9 =>
  callP Tryz.prog (fnV 104) #[t11] w fun t12 w =>
  stayP J w
  (valJ Tryz.prog J (binS BinOp.add 9 (tm 9) (tm 12) t9 t12) fun t13 =>
  m78_2 R t13 w)))
def m78_0 (R : VP) (r0 : Value) (w : World) : Prop :=
  valP Tryz.prog (Instr.box 56 r0) w fun r1 w =>
  m78_1 R r1 w
abbrev W78 := cwp Tryz.prog (fun i => 0)
noncomputable def k78_0 := bodyOf Tryz.f78
noncomputable def k78_1 := c2 k78_0
noncomputable def k78_2 := c2 k78_1
abbrev hR78 (R : VP) (Q : EQ) : Prop := ∀ e w, (R (e 2) w) → Q .ret e w
theorem s78_2 (hR : hR78 R Q) (e : Env) (w : World) (h : m78_2 R (e 2) w) : W78 k78_2 Q e w := by
  exact reA (hR _ _ h)
theorem s78_1 (hR : hR78 R Q) (e : Env) (w : World) (h : m78_1 R (e 1) w) : W78 k78_1 Q e w := by
  refine seA ?_
  have hN : ∀ e w, (m78_2 R (e 2) w) → (thenE (W78 k78_2 Q) Q) .normal e w := fun e w h => then_N (s78_2 hR e w h)
  exact treeJ_ok 1 12 (bt 12 0) (.take 0 (bt 12 1) (.take 1 (bt 12 3) (.take 3 (bt 12 11) (.take 4 (bt 12 27) (.take 7 (bt 12 155) (.take 8 (bt 12 411) (.alt 2 (bt 12 415) (.alt 5 (bt 12 447) (.take 6 (bt 12 511) (.alt 9 (bt 12 1023) (.take 10 (bt 12 2047) (.take 11 (bt 12 4095) .done)) .stop)) .stop) .stop))))))) (fun e w => m78_2 R (e 2) w) (by kernel_rfl) (by kernel_rfl) (by kernel_rfl) (by kernel_rfl) (by kernel_rfl) (by kernel_rfl) (kcast (by kernel_rfl) h) hN (by kernel_rfl)
theorem s78_0 (hR : hR78 R Q) (e : Env) (w : World) (h : m78_0 R (e 0) w) : W78 k78_0 Q e w := by
  refine seA ?_
  exact rgA 0 (fun e w => m78_1 R (e 1) w) h fun e w h => then_N (s78_1 hR e w h)
abbrev m78 (R : VP) (r0 : Value) (w : World) : Prop := m78_0 R r0 w
theorem s78 (r0 : Value) {R : VP} {w : World} (h : m78 R r0 w) :
    Calls Tryz.prog 78 #[r0] w fun e w' => ∃ v, e = .returned v ∧ R v w' :=
  calls_of_cwp (st := (fun i => 0)) (c := k78_0) (by kernel_rfl) Tryz.func78 (by kernel_rfl) (Nat.le_of_ble_eq_true (by kernel_rfl)) (by kernel_rfl)
    (s78_0 (R := R) (Q := endE Tryz.prog Tryz.f78 R) (fun e w h => kcast (by kernel_rfl) h) (argsE #[r0]) w (kcast (by kernel_rfl) h))
def m74_13 (R : VP) (t2 t3 t4 : Value) (w : World) : Prop :=
  valS Tryz.prog (loadC 56 t2) w fun r0 =>
  R (Value.tuple #[r0, t3, t4]) w
def m74_10 (R : VP) (t2 t3 t4 : Value) (w : World) : Prop :=
  valS Tryz.prog (loadC 56 t2) w fun r0 =>
  R (Value.tuple #[r0, t3, t4]) w
def m74_8 (R : VP) (t2 t3 t4 : Value) (w : World) : Prop :=
  valS Tryz.prog (loadC 56 t2) w fun r0 =>
  R (Value.tuple #[r0, t3, t4]) w
def m74_7 (R : VP) (t2 rest6 r9 : Value) (w : World) : Prop :=
  valP Tryz.prog (Instr.loadAt 56 r9) w fun t45 w =>
  unitP Tryz.prog (Instr.storeAt 56 t2 t45) w fun _ w =>
  m74_8 R t2 rest6 (vi 0) w
def m74_9 (R : VP) (t2 rest6 r9 t43 : Value) (w : World) : Prop :=
  condP t43
  (valP Tryz.prog (Instr.build 56 #[]) w fun t44 w =>
  unitP Tryz.prog (Instr.storeAt 56 t2 t44) w fun _ w =>
  m74_10 R t2 (Value.string ⟨#[]⟩) (vi 2) w)
  (m74_7 R t2 rest6 r9 w)
def m74_6 (R : VP) (t2 rest6 e7 r9 : Value) (w : World) : Prop :=
  valP Tryz.prog (binS BinOp.neq 26 (tm 37) (ci 0) e7 (vi 0)) w fun t38 w =>
  condP t38
  (pickP t38 (Value.bool true) undef fun t43 =>
  m74_9 R t2 rest6 r9 t43 w)
  (valP Tryz.prog (Instr.loadAt 56 r9) w fun t40 w =>
  callP Tryz.prog (fnV 103) #[t40] w fun t41 w =>
  valP Tryz.prog (Op.unary UnOp.not t41) w fun t42 w =>
  pickP t38 (Value.bool true) t42 fun t43 =>
  m74_9 R t2 rest6 r9 t43 w)
def m74_11 (R : VP) (t2 l5 rest6 e7 t8 r9 t28 : Value) (w : World) : Prop :=
  condP t28
  (anyDraw w fun w =>
  valS Tryz.prog (Instr.indexAt 23 l5 (vi 0)) w fun t30 =>
  valS Tryz.prog (Instr.loadAt 3 t30) w fun t31 =>
  valS Tryz.prog (Instr.indexAt 23 l5 (vi 1)) w fun t33 =>
  valS Tryz.prog (Instr.loadAt 3 t33) w fun t34 =>
  valS Tryz.prog (Instr.build 56 #[(0, t31), (1, t34), (2, t8)]) w fun t36 =>
  unitP Tryz.prog (Instr.storeAt 56 r9 t36) w fun _ w =>
  m74_6 R t2 rest6 e7 r9 w)
  (m74_6 R t2 rest6 e7 r9 w)
def m74_5 (R : VP) (t2 l5 rest6 e7 t8 r9 : Value) (w : World) : Prop :=
  valP Tryz.prog (binS BinOp.eql 26 (tm 27) (ci 0) e7 (vi 0)) w fun t28 w =>
  m74_11 R t2 l5 rest6 e7 t8 r9 t28 w
def m74_4 (R : VP) (t2 l5 rest6 e7 t8 : Value) (w : World) : Prop :=
  valP Tryz.prog (Instr.build 56 #[]) w fun t26 w =>
  valP Tryz.prog (Instr.alloc 56 true (.tuple #[])) w fun r9 w =>
  unitP Tryz.prog (Instr.storeAt 56 r9 t26) w fun _ w =>
  m74_5 R t2 l5 rest6 e7 t8 r9 w
def m74_3 (R : VP) (t2 l5 rest6 : Value) (w : World) : Prop :=
  callP Tryz.prog (fnV 102) #[rest6, (vi 512)] w fun t22 w =>
  valP Tryz.prog (Instr.extract t22 0) w fun t23 w =>
  valP Tryz.prog (Instr.extract t22 1) w fun t24 w =>
  valP Tryz.prog (Instr.extract t22 2) w fun t25 w =>
  m74_4 R t2 l5 t24 t25 t23 w
def m74_12 (R : VP) (t2 l5 rest6 e7 t17 : Value) (w : World) : Prop :=
  condP t17
  (valP Tryz.prog (Instr.build 56 #[]) w fun t18 w =>
  unitP Tryz.prog (Instr.storeAt 56 t2 t18) w fun _ w =>
  m74_13 R t2 (Value.string ⟨#[]⟩) e7 w)
  (m74_3 R t2 l5 rest6 w)
def m74_2 (R : VP) (t2 l5 rest6 e7 : Value) (w : World) : Prop :=
  valP Tryz.prog (binS BinOp.neq 26 (tm 16) (ci 0) e7 (vi 0)) w fun t17 w =>
  m74_12 R t2 l5 rest6 e7 t17 w
def m74_1 (R : VP) (s0 t2 : Value) (w : World) : Prop :=
  callP Tryz.prog (fnV 101) #[s0, (vi 2)] w fun t12 w =>
  valP Tryz.prog (Instr.extract t12 0) w fun t13 w =>
  valP Tryz.prog (Instr.extract t12 1) w fun t14 w =>
  valP Tryz.prog (Instr.extract t12 2) w fun t15 w =>
  m74_2 R t2 t13 t14 t15 w
def m74_0 (R : VP) (s0 : Value) (w : World) : Prop :=
  valP Tryz.prog (Instr.alloc 56 true (.tuple #[])) w fun t2 w =>
  m74_1 R s0 t2 w
abbrev W74 := cwp Tryz.prog (fun i => cond (Nat.beq i 7) 10 (0))
noncomputable def k74_0 := bodyOf Tryz.f74
noncomputable def k74_1 := c2 k74_0
noncomputable def k74_2 := c2 k74_1
noncomputable def k74_3 := c2 k74_2
noncomputable def k74_4 := c2 k74_3
noncomputable def k74_5 := c2 k74_4
noncomputable def k74_6 := c2 k74_5
noncomputable def k74_7 := c2 k74_6
noncomputable def k74_8 := c2 k74_7
noncomputable def k74_9 := c2 (c1 k74_6)
noncomputable def k74_10 := c2 (c1 k74_9)
noncomputable def k74_11 := c2 (c1 k74_5)
noncomputable def k74_12 := c2 (c1 k74_2)
noncomputable def k74_13 := c2 (c1 k74_12)
abbrev hR74 (R : VP) (Q : EQ) : Prop := ∀ e w, (valS Tryz.prog (loadC 56 (e 2)) w fun r0 =>
R (Value.tuple #[r0, (e 3), (e 4)]) w) → Q .ret e w
theorem s74_13 (hR : hR74 R Q) (e : Env) (w : World) (h : m74_13 R (e 2) (e 3) (e 4) w) : W74 k74_13 Q e w := by
  exact reA (hR _ _ h)
theorem s74_10 (hR : hR74 R Q) (e : Env) (w : World) (h : m74_10 R (e 2) (e 3) (e 4) w) : W74 k74_10 Q e w := by
  exact reA (hR _ _ h)
theorem s74_8 (hR : hR74 R Q) (e : Env) (w : World) (h : m74_8 R (e 2) (e 3) (e 4) w) : W74 k74_8 Q e w := by
  exact reA (hR _ _ h)
theorem s74_7 (hR : hR74 R Q) (e : Env) (w : World) (h : m74_7 R (e 2) (e 6) (e 9) w) : W74 k74_7 Q e w := by
  refine seA ?_
  exact rgA 10 (fun e w => m74_8 R (e 2) (e 3) (e 4) w) h fun e w h => then_N (s74_8 hR e w h)
theorem s74_9 (hN : ∀ e w, (m74_7 R (e 2) (e 6) (e 9) w) → Q .normal e w) (hR : hR74 R Q) (e : Env) (w : World) (h : m74_9 R (e 2) (e 6) (e 9) (e 43) w) : W74 k74_9 Q e w := by
  refine coA (Operand.tmp 43) h (fun h1 => ?_) (fun h1 => ?_)
  · refine seA ?_
    exact rgA 9 (fun e w => m74_10 R (e 2) (e 3) (e 4) w) h1 fun e w h => then_N (s74_10 hR e w h)
  · exact skA (hN _ _ h1)
theorem s74_6 (hR : hR74 R Q) (e : Env) (w : World) (h : m74_6 R (e 2) (e 6) (e 7) (e 9) w) : W74 k74_6 Q e w := by
  refine seA ?_
  have hN : ∀ e w, (m74_7 R (e 2) (e 6) (e 9) w) → (thenE (W74 k74_7 Q) Q) .normal e w := fun e w h => then_N (s74_7 hR e w h)
  have hR : ∀ e w, (valS Tryz.prog (loadC 56 (e 2)) w fun r0 =>
  R (Value.tuple #[r0, (e 3), (e 4)]) w) → (thenE (W74 k74_7 Q) Q) .ret e w := fun e w h => then_R (hR e w h)
  refine seA ?_
  exact rgA 8 (fun e w => m74_9 R (e 2) (e 6) (e 9) (e 43) w) h fun e w h => then_N (s74_9 hN hR e w h)
theorem s74_11 (hN : ∀ e w, (m74_6 R (e 2) (e 6) (e 7) (e 9) w) → Q .normal e w) (e : Env) (w : World) (h : m74_11 R (e 2) (e 5) (e 6) (e 7) (e 8) (e 9) (e 28) w) : W74 k74_11 Q e w := by
  refine coA (Operand.tmp 28) h (fun h1 => ?_) (fun h1 => ?_)
  · exact taA 7 8 (fun e w => m74_6 R (e 2) (e 6) (e 7) (e 9) w) h1 hN
  · exact skA (hN _ _ h1)
theorem s74_5 (hR : hR74 R Q) (e : Env) (w : World) (h : m74_5 R (e 2) (e 5) (e 6) (e 7) (e 8) (e 9) w) : W74 k74_5 Q e w := by
  refine seA ?_
  have hN : ∀ e w, (m74_6 R (e 2) (e 6) (e 7) (e 9) w) → (thenE (W74 k74_6 Q) Q) .normal e w := fun e w h => then_N (s74_6 hR e w h)
  refine seA ?_
  exact rgA 6 (fun e w => m74_11 R (e 2) (e 5) (e 6) (e 7) (e 8) (e 9) (e 28) w) h fun e w h => then_N (s74_11 hN e w h)
theorem s74_4 (hR : hR74 R Q) (e : Env) (w : World) (h : m74_4 R (e 2) (e 5) (e 6) (e 7) (e 8) w) : W74 k74_4 Q e w := by
  refine seA ?_
  exact rgA 5 (fun e w => m74_5 R (e 2) (e 5) (e 6) (e 7) (e 8) (e 9) w) h fun e w h => then_N (s74_5 hR e w h)
theorem s74_3 (hR : hR74 R Q) (e : Env) (w : World) (h : m74_3 R (e 2) (e 5) (e 6) w) : W74 k74_3 Q e w := by
  refine seA ?_
  exact rgA 4 (fun e w => m74_4 R (e 2) (e 5) (e 6) (e 7) (e 8) w) h fun e w h => then_N (s74_4 hR e w h)
theorem s74_12 (hN : ∀ e w, (m74_3 R (e 2) (e 5) (e 6) w) → Q .normal e w) (hR : hR74 R Q) (e : Env) (w : World) (h : m74_12 R (e 2) (e 5) (e 6) (e 7) (e 17) w) : W74 k74_12 Q e w := by
  refine coA (Operand.tmp 17) h (fun h1 => ?_) (fun h1 => ?_)
  · refine seA ?_
    exact rgA 3 (fun e w => m74_13 R (e 2) (e 3) (e 4) w) h1 fun e w h => then_N (s74_13 hR e w h)
  · exact skA (hN _ _ h1)
theorem s74_2 (hR : hR74 R Q) (e : Env) (w : World) (h : m74_2 R (e 2) (e 5) (e 6) (e 7) w) : W74 k74_2 Q e w := by
  refine seA ?_
  have hN : ∀ e w, (m74_3 R (e 2) (e 5) (e 6) w) → (thenE (W74 k74_3 Q) Q) .normal e w := fun e w h => then_N (s74_3 hR e w h)
  have hR : ∀ e w, (valS Tryz.prog (loadC 56 (e 2)) w fun r0 =>
  R (Value.tuple #[r0, (e 3), (e 4)]) w) → (thenE (W74 k74_3 Q) Q) .ret e w := fun e w h => then_R (hR e w h)
  refine seA ?_
  exact rgA 2 (fun e w => m74_12 R (e 2) (e 5) (e 6) (e 7) (e 17) w) h fun e w h => then_N (s74_12 hN hR e w h)
theorem s74_1 (hR : hR74 R Q) (e : Env) (w : World) (h : m74_1 R (e 0) (e 2) w) : W74 k74_1 Q e w := by
  refine seA ?_
  exact rgA 1 (fun e w => m74_2 R (e 2) (e 5) (e 6) (e 7) w) h fun e w h => then_N (s74_2 hR e w h)
theorem s74_0 (hR : hR74 R Q) (e : Env) (w : World) (h : m74_0 R (e 0) w) : W74 k74_0 Q e w := by
  refine seA ?_
  exact rgA 0 (fun e w => m74_1 R (e 0) (e 2) w) h fun e w h => then_N (s74_1 hR e w h)
abbrev m74 (R : VP) (s0 : Value) (w : World) : Prop := m74_0 R s0 w
theorem s74 (s0 : Value) {R : VP} {w : World} (h : m74 R s0 w) :
    Calls Tryz.prog 74 #[s0] w fun e w' => ∃ v, e = .returned v ∧ R v w' :=
  calls_of_cwp (st := (fun i => cond (Nat.beq i 7) 10 (0))) (c := k74_0) (by kernel_rfl) Tryz.func74 (by kernel_rfl) (Nat.le_of_ble_eq_true (by kernel_rfl)) (by kernel_rfl)
    (s74_0 (R := R) (Q := endE Tryz.prog Tryz.f74 R) (fun e w h => kcast (by kernel_rfl) h) (argsE #[s0]) w (kcast (by kernel_rfl) h))
def m86_9 (R : VP) (t2 t3 t4 : Value) (w : World) : Prop :=
  valS Tryz.prog (loadC 56 t2) w fun r0 =>
  R (Value.tuple #[r0, t3, t4]) w
def m86_7 (R : VP) (t2 t3 t4 : Value) (w : World) : Prop :=
  valS Tryz.prog (loadC 56 t2) w fun r0 =>
  R (Value.tuple #[r0, t3, t4]) w
def m86_6 (R : VP) (t2 s312 r14 : Value) (w : World) : Prop :=
  valP Tryz.prog (Instr.loadAt 56 r14) w fun t53 w =>
  unitP Tryz.prog (Instr.storeAt 56 t2 t53) w fun _ w =>
  m86_7 R t2 s312 (vi 0) w
def m86_8 (R : VP) (t2 s312 r14 t51 : Value) (w : World) : Prop :=
  condP t51
  (valP Tryz.prog (Instr.build 56 #[]) w fun t52 w =>
  unitP Tryz.prog (Instr.storeAt 56 t2 t52) w fun _ w =>
  m86_9 R t2 (Value.string ⟨#[]⟩) (vi 2) w)
  (m86_6 R t2 s312 r14 w)
def m86_5 (R : VP) (t2 e17 e210 s312 e313 r14 : Value) (w : World) : Prop :=
  valP Tryz.prog (binS BinOp.neq 3 (tm 37) (ci 0) e17 (vi 0)) w fun t38 w =>
  condP t38
  (pickP t38 (Value.bool true) undef fun t42 =>
  condP t42
  (pickP t42 (Value.bool true) undef fun t46 =>
  condP t46
  (pickP t46 (Value.bool true) undef fun t51 =>
  m86_8 R t2 s312 r14 t51 w)
  (valP Tryz.prog (Instr.loadAt 56 r14) w fun t48 w =>
  callP Tryz.prog (fnV 35) #[t48] w fun t49 w =>
  valP Tryz.prog (Op.unary UnOp.not t49) w fun t50 w =>
  pickP t46 (Value.bool true) t50 fun t51 =>
  m86_8 R t2 s312 r14 t51 w))
  (valP Tryz.prog (binS BinOp.neq 3 (tm 44) (ci 0) e313 (vi 0)) w fun t45 w =>
  pickP t42 (Value.bool true) t45 fun t46 =>
  condP t46
  (pickP t46 (Value.bool true) undef fun t51 =>
  m86_8 R t2 s312 r14 t51 w)
  (valP Tryz.prog (Instr.loadAt 56 r14) w fun t48 w =>
  callP Tryz.prog (fnV 35) #[t48] w fun t49 w =>
  valP Tryz.prog (Op.unary UnOp.not t49) w fun t50 w =>
  pickP t46 (Value.bool true) t50 fun t51 =>
  m86_8 R t2 s312 r14 t51 w)))
  (valP Tryz.prog (binS BinOp.neq 3 (tm 40) (ci 0) e210 (vi 0)) w fun t41 w =>
  pickP t38 (Value.bool true) t41 fun t42 =>
  condP t42
  (pickP t42 (Value.bool true) undef fun t46 =>
  condP t46
  (pickP t46 (Value.bool true) undef fun t51 =>
  m86_8 R t2 s312 r14 t51 w)
  (valP Tryz.prog (Instr.loadAt 56 r14) w fun t48 w =>
  callP Tryz.prog (fnV 35) #[t48] w fun t49 w =>
  valP Tryz.prog (Op.unary UnOp.not t49) w fun t50 w =>
  pickP t46 (Value.bool true) t50 fun t51 =>
  m86_8 R t2 s312 r14 t51 w))
  (valP Tryz.prog (binS BinOp.neq 3 (tm 44) (ci 0) e313 (vi 0)) w fun t45 w =>
  pickP t42 (Value.bool true) t45 fun t46 =>
  condP t46
  (pickP t46 (Value.bool true) undef fun t51 =>
  m86_8 R t2 s312 r14 t51 w)
  (valP Tryz.prog (Instr.loadAt 56 r14) w fun t48 w =>
  callP Tryz.prog (fnV 35) #[t48] w fun t49 w =>
  valP Tryz.prog (Op.unary UnOp.not t49) w fun t50 w =>
  pickP t46 (Value.bool true) t50 fun t51 =>
  m86_8 R t2 s312 r14 t51 w)))
def m86_4 (R : VP) (t2 k5 e17 t8 e210 x11 s312 e313 : Value) (w : World) : Prop :=
  valP Tryz.prog (Instr.build 56 #[(0, k5), (1, t8), (2, x11)]) w fun t36 w =>
  valP Tryz.prog (Instr.alloc 56 true (.tuple #[])) w fun r14 w =>
  unitP Tryz.prog (Instr.storeAt 56 r14 t36) w fun _ w =>
  m86_5 R t2 e17 e210 s312 e313 r14 w
def m86_3 (R : VP) (t2 k5 e17 t8 s29 e210 : Value) (w : World) : Prop :=
  callP Tryz.prog (fnV 107) #[s29, (vi 512)] w fun t29 w =>
  valP Tryz.prog (Instr.extract t29 0) w fun t30 w =>
  valP Tryz.prog (Instr.extract t29 1) w fun t31 w =>
  valP Tryz.prog (Instr.extract t29 2) w fun t32 w =>
  m86_4 R t2 k5 e17 t8 e210 t30 t31 t32 w
def m86_2 (R : VP) (t2 k5 s16 e17 : Value) (w : World) : Prop :=
  callP Tryz.prog (fnV 85) #[s16] w fun t23 w =>
  valP Tryz.prog (Instr.extract t23 0) w fun t24 w =>
  valP Tryz.prog (Instr.extract t23 1) w fun t25 w =>
  valP Tryz.prog (Instr.extract t23 2) w fun t26 w =>
  m86_3 R t2 k5 e17 t24 t25 t26 w
def m86_1 (R : VP) (s0 t2 : Value) (w : World) : Prop :=
  callP Tryz.prog (fnV 85) #[s0] w fun t17 w =>
  valP Tryz.prog (Instr.extract t17 0) w fun t18 w =>
  valP Tryz.prog (Instr.extract t17 1) w fun t19 w =>
  valP Tryz.prog (Instr.extract t17 2) w fun t20 w =>
  m86_2 R t2 t18 t19 t20 w
def m86_0 (R : VP) (s0 : Value) (w : World) : Prop :=
  valP Tryz.prog (Instr.alloc 56 true (.tuple #[])) w fun t2 w =>
  m86_1 R s0 t2 w
abbrev W86 := cwp Tryz.prog (fun i => 0)
noncomputable def k86_0 := bodyOf Tryz.f86
noncomputable def k86_1 := c2 k86_0
noncomputable def k86_2 := c2 k86_1
noncomputable def k86_3 := c2 k86_2
noncomputable def k86_4 := c2 k86_3
noncomputable def k86_5 := c2 k86_4
noncomputable def k86_6 := c2 k86_5
noncomputable def k86_7 := c2 k86_6
noncomputable def k86_8 := c2 (c1 k86_5)
noncomputable def k86_9 := c2 (c1 k86_8)
abbrev hR86 (R : VP) (Q : EQ) : Prop := ∀ e w, (valS Tryz.prog (loadC 56 (e 2)) w fun r0 =>
R (Value.tuple #[r0, (e 3), (e 4)]) w) → Q .ret e w
theorem s86_9 (hR : hR86 R Q) (e : Env) (w : World) (h : m86_9 R (e 2) (e 3) (e 4) w) : W86 k86_9 Q e w := by
  exact reA (hR _ _ h)
theorem s86_7 (hR : hR86 R Q) (e : Env) (w : World) (h : m86_7 R (e 2) (e 3) (e 4) w) : W86 k86_7 Q e w := by
  exact reA (hR _ _ h)
theorem s86_6 (hR : hR86 R Q) (e : Env) (w : World) (h : m86_6 R (e 2) (e 12) (e 14) w) : W86 k86_6 Q e w := by
  refine seA ?_
  exact rgA 7 (fun e w => m86_7 R (e 2) (e 3) (e 4) w) h fun e w h => then_N (s86_7 hR e w h)
theorem s86_8 (hN : ∀ e w, (m86_6 R (e 2) (e 12) (e 14) w) → Q .normal e w) (hR : hR86 R Q) (e : Env) (w : World) (h : m86_8 R (e 2) (e 12) (e 14) (e 51) w) : W86 k86_8 Q e w := by
  refine coA (Operand.tmp 51) h (fun h1 => ?_) (fun h1 => ?_)
  · refine seA ?_
    exact rgA 6 (fun e w => m86_9 R (e 2) (e 3) (e 4) w) h1 fun e w h => then_N (s86_9 hR e w h)
  · exact skA (hN _ _ h1)
theorem s86_5 (hR : hR86 R Q) (e : Env) (w : World) (h : m86_5 R (e 2) (e 7) (e 10) (e 12) (e 13) (e 14) w) : W86 k86_5 Q e w := by
  refine seA ?_
  have hN : ∀ e w, (m86_6 R (e 2) (e 12) (e 14) w) → (thenE (W86 k86_6 Q) Q) .normal e w := fun e w h => then_N (s86_6 hR e w h)
  have hR : ∀ e w, (valS Tryz.prog (loadC 56 (e 2)) w fun r0 =>
  R (Value.tuple #[r0, (e 3), (e 4)]) w) → (thenE (W86 k86_6 Q) Q) .ret e w := fun e w h => then_R (hR e w h)
  refine seA ?_
  exact rgA 5 (fun e w => m86_8 R (e 2) (e 12) (e 14) (e 51) w) h fun e w h => then_N (s86_8 hN hR e w h)
theorem s86_4 (hR : hR86 R Q) (e : Env) (w : World) (h : m86_4 R (e 2) (e 5) (e 7) (e 8) (e 10) (e 11) (e 12) (e 13) w) : W86 k86_4 Q e w := by
  refine seA ?_
  exact rgA 4 (fun e w => m86_5 R (e 2) (e 7) (e 10) (e 12) (e 13) (e 14) w) h fun e w h => then_N (s86_5 hR e w h)
theorem s86_3 (hR : hR86 R Q) (e : Env) (w : World) (h : m86_3 R (e 2) (e 5) (e 7) (e 8) (e 9) (e 10) w) : W86 k86_3 Q e w := by
  refine seA ?_
  exact rgA 3 (fun e w => m86_4 R (e 2) (e 5) (e 7) (e 8) (e 10) (e 11) (e 12) (e 13) w) h fun e w h => then_N (s86_4 hR e w h)
theorem s86_2 (hR : hR86 R Q) (e : Env) (w : World) (h : m86_2 R (e 2) (e 5) (e 6) (e 7) w) : W86 k86_2 Q e w := by
  refine seA ?_
  exact rgA 2 (fun e w => m86_3 R (e 2) (e 5) (e 7) (e 8) (e 9) (e 10) w) h fun e w h => then_N (s86_3 hR e w h)
theorem s86_1 (hR : hR86 R Q) (e : Env) (w : World) (h : m86_1 R (e 0) (e 2) w) : W86 k86_1 Q e w := by
  refine seA ?_
  exact rgA 1 (fun e w => m86_2 R (e 2) (e 5) (e 6) (e 7) w) h fun e w h => then_N (s86_2 hR e w h)
theorem s86_0 (hR : hR86 R Q) (e : Env) (w : World) (h : m86_0 R (e 0) w) : W86 k86_0 Q e w := by
  refine seA ?_
  exact rgA 0 (fun e w => m86_1 R (e 0) (e 2) w) h fun e w h => then_N (s86_1 hR e w h)
abbrev m86 (R : VP) (s0 : Value) (w : World) : Prop := m86_0 R s0 w
theorem s86 (s0 : Value) {R : VP} {w : World} (h : m86 R s0 w) :
    Calls Tryz.prog 86 #[s0] w fun e w' => ∃ v, e = .returned v ∧ R v w' :=
  calls_of_cwp (st := (fun i => 0)) (c := k86_0) (by kernel_rfl) Tryz.func86 (by kernel_rfl) (Nat.le_of_ble_eq_true (by kernel_rfl)) (by kernel_rfl)
    (s86_0 (R := R) (Q := endE Tryz.prog Tryz.f86 R) (fun e w h => kcast (by kernel_rfl) h) (argsE #[s0]) w (kcast (by kernel_rfl) h))
def m35_2 (R : VP) (t2 : Value) (w : World) : Prop :=
  R t2 w
def m35_1 (R : VP) (r1 : Value) (w : World) : Prop :=
  valP Tryz.prog (Instr.fieldAt 56 r1 0) w fun t3 w =>
  valP Tryz.prog (Instr.loadAt 3 t3) w fun t4 w =>
  valP Tryz.prog (binS BinOp.geq 3 (tm 4) (ci 0) t4 (vi 0)) w fun t5 w =>
  condP t5
  (valP Tryz.prog (Instr.fieldAt 56 r1 0) w fun t7 w =>
  valP Tryz.prog (Instr.loadAt 3 t7) w fun t8 w =>
  valP Tryz.prog (binS BinOp.leq 3 (tm 8) (ci 1048576) t8 (vi 1048576)) w fun t9 w =>
  pickP t5 t9 (Value.bool false) fun t10 =>
  condP t10
  (valP Tryz.prog (Instr.fieldAt 56 r1 1) w fun t12 w =>
  valP Tryz.prog (Instr.loadAt 3 t12) w fun t13 w =>
  callP Tryz.prog (fnV 75) #[t13] w fun t14 w =>
  pickP t10 t14 (Value.bool false) fun t15 =>
  condP t15
  (valP Tryz.prog (Instr.fieldAt 56 r1 2) w fun t17 w =>
  valP Tryz.prog (Instr.loadAt 9 t17) w fun t18 w =>
  builtinP Tryz.prog Builtin.len #[9] 3 #[false] #[t18] w fun t19 w =>
  valP Tryz.prog (binS BinOp.leq 3 (tm 19) (ci 512) t19 (vi 512)) w fun t20 w =>
  pickP t15 t20 (Value.bool false) fun t21 =>
  m35_2 R t21 w)
  (pickP t15 undef (Value.bool false) fun t21 =>
  m35_2 R t21 w))
  (pickP t10 undef (Value.bool false) fun t15 =>
  condP t15
  (valP Tryz.prog (Instr.fieldAt 56 r1 2) w fun t17 w =>
  valP Tryz.prog (Instr.loadAt 9 t17) w fun t18 w =>
  builtinP Tryz.prog Builtin.len #[9] 3 #[false] #[t18] w fun t19 w =>
  valP Tryz.prog (binS BinOp.leq 3 (tm 19) (ci 512) t19 (vi 512)) w fun t20 w =>
  pickP t15 t20 (Value.bool false) fun t21 =>
  m35_2 R t21 w)
  (pickP t15 undef (Value.bool false) fun t21 =>
  m35_2 R t21 w)))
  (pickP t5 undef (Value.bool false) fun t10 =>
  condP t10
  (valP Tryz.prog (Instr.fieldAt 56 r1 1) w fun t12 w =>
  valP Tryz.prog (Instr.loadAt 3 t12) w fun t13 w =>
  callP Tryz.prog (fnV 75) #[t13] w fun t14 w =>
  pickP t10 t14 (Value.bool false) fun t15 =>
  condP t15
  (valP Tryz.prog (Instr.fieldAt 56 r1 2) w fun t17 w =>
  valP Tryz.prog (Instr.loadAt 9 t17) w fun t18 w =>
  builtinP Tryz.prog Builtin.len #[9] 3 #[false] #[t18] w fun t19 w =>
  valP Tryz.prog (binS BinOp.leq 3 (tm 19) (ci 512) t19 (vi 512)) w fun t20 w =>
  pickP t15 t20 (Value.bool false) fun t21 =>
  m35_2 R t21 w)
  (pickP t15 undef (Value.bool false) fun t21 =>
  m35_2 R t21 w))
  (pickP t10 undef (Value.bool false) fun t15 =>
  condP t15
  (valP Tryz.prog (Instr.fieldAt 56 r1 2) w fun t17 w =>
  valP Tryz.prog (Instr.loadAt 9 t17) w fun t18 w =>
  builtinP Tryz.prog Builtin.len #[9] 3 #[false] #[t18] w fun t19 w =>
  valP Tryz.prog (binS BinOp.leq 3 (tm 19) (ci 512) t19 (vi 512)) w fun t20 w =>
  pickP t15 t20 (Value.bool false) fun t21 =>
  m35_2 R t21 w)
  (pickP t15 undef (Value.bool false) fun t21 =>
  m35_2 R t21 w)))
def m35_0 (R : VP) (r0 : Value) (w : World) : Prop :=
  valP Tryz.prog (Instr.box 56 r0) w fun r1 w =>
  m35_1 R r1 w
abbrev W35 := cwp Tryz.prog (fun i => 0)
noncomputable def k35_0 := bodyOf Tryz.f35
noncomputable def k35_1 := c2 k35_0
noncomputable def k35_2 := c2 k35_1
abbrev hR35 (R : VP) (Q : EQ) : Prop := ∀ e w, (R (e 2) w) → Q .ret e w
theorem s35_2 (hR : hR35 R Q) (e : Env) (w : World) (h : m35_2 R (e 2) w) : W35 k35_2 Q e w := by
  exact reA (hR _ _ h)
theorem s35_1 (hR : hR35 R Q) (e : Env) (w : World) (h : m35_1 R (e 1) w) : W35 k35_1 Q e w := by
  refine seA ?_
  exact rgA 1 (fun e w => m35_2 R (e 2) w) h fun e w h => then_N (s35_2 hR e w h)
theorem s35_0 (hR : hR35 R Q) (e : Env) (w : World) (h : m35_0 R (e 0) w) : W35 k35_0 Q e w := by
  refine seA ?_
  exact rgA 0 (fun e w => m35_1 R (e 1) w) h fun e w h => then_N (s35_1 hR e w h)
abbrev m35 (R : VP) (r0 : Value) (w : World) : Prop := m35_0 R r0 w
theorem s35 (r0 : Value) {R : VP} {w : World} (h : m35 R r0 w) :
    Calls Tryz.prog 35 #[r0] w fun e w' => ∃ v, e = .returned v ∧ R v w' :=
  calls_of_cwp (st := (fun i => 0)) (c := k35_0) (by kernel_rfl) Tryz.func35 (by kernel_rfl) (Nat.le_of_ble_eq_true (by kernel_rfl)) (by kernel_rfl)
    (s35_0 (R := R) (Q := endE Tryz.prog Tryz.f35 R) (fun e w h => kcast (by kernel_rfl) h) (argsE #[r0]) w (kcast (by kernel_rfl) h))
def m103_2 (R : VP) (t2 : Value) (w : World) : Prop :=
  R t2 w
def m103_1 (R : VP) (r1 : Value) (w : World) : Prop :=
  valP Tryz.prog (Instr.fieldAt 56 r1 0) w fun t3 w =>
  valP Tryz.prog (Instr.loadAt 3 t3) w fun t4 w =>
  valP Tryz.prog (Instr.fieldAt 56 r1 1) w fun t5 w =>
  valP Tryz.prog (Instr.loadAt 3 t5) w fun t6 w =>
  valP Tryz.prog (Instr.buildSlice 23 2 #[(0, t4), (1, t6)]) w fun t7 w =>
  callP Tryz.prog (fnV 125) #[t7] w fun t8 w =>
  condP t8
  (valP Tryz.prog (Instr.fieldAt 56 r1 0) w fun t10 w =>
  valP Tryz.prog (Instr.loadAt 3 t10) w fun t11 w =>
  valP Tryz.prog (binS BinOp.leq 3 (tm 11) (ci 1048576) t11 (vi 1048576)) w fun t12 w =>
  pickP t8 t12 (Value.bool false) fun t13 =>
  condP t13
  (valP Tryz.prog (Instr.fieldAt 56 r1 2) w fun t15 w =>
  valP Tryz.prog (Instr.loadAt 9 t15) w fun t16 w =>
  builtinP Tryz.prog Builtin.len #[9] 3 #[false] #[t16] w fun t17 w =>
  valP Tryz.prog (binS BinOp.leq 3 (tm 17) (ci 512) t17 (vi 512)) w fun t18 w =>
  pickP t13 t18 (Value.bool false) fun t19 =>
  m103_2 R t19 w)
  (pickP t13 undef (Value.bool false) fun t19 =>
  m103_2 R t19 w))
  (pickP t8 undef (Value.bool false) fun t13 =>
  condP t13
  (valP Tryz.prog (Instr.fieldAt 56 r1 2) w fun t15 w =>
  valP Tryz.prog (Instr.loadAt 9 t15) w fun t16 w =>
  builtinP Tryz.prog Builtin.len #[9] 3 #[false] #[t16] w fun t17 w =>
  valP Tryz.prog (binS BinOp.leq 3 (tm 17) (ci 512) t17 (vi 512)) w fun t18 w =>
  pickP t13 t18 (Value.bool false) fun t19 =>
  m103_2 R t19 w)
  (pickP t13 undef (Value.bool false) fun t19 =>
  m103_2 R t19 w))
def m103_0 (R : VP) (r0 : Value) (w : World) : Prop :=
  valP Tryz.prog (Instr.box 56 r0) w fun r1 w =>
  m103_1 R r1 w
abbrev W103 := cwp Tryz.prog (fun i => 0)
noncomputable def k103_0 := bodyOf Tryz.f103
noncomputable def k103_1 := c2 k103_0
noncomputable def k103_2 := c2 k103_1
abbrev hR103 (R : VP) (Q : EQ) : Prop := ∀ e w, (R (e 2) w) → Q .ret e w
theorem s103_2 (hR : hR103 R Q) (e : Env) (w : World) (h : m103_2 R (e 2) w) : W103 k103_2 Q e w := by
  exact reA (hR _ _ h)
theorem s103_1 (hR : hR103 R Q) (e : Env) (w : World) (h : m103_1 R (e 1) w) : W103 k103_1 Q e w := by
  refine seA ?_
  exact rgA 1 (fun e w => m103_2 R (e 2) w) h fun e w h => then_N (s103_2 hR e w h)
theorem s103_0 (hR : hR103 R Q) (e : Env) (w : World) (h : m103_0 R (e 0) w) : W103 k103_0 Q e w := by
  refine seA ?_
  exact rgA 0 (fun e w => m103_1 R (e 1) w) h fun e w h => then_N (s103_1 hR e w h)
abbrev m103 (R : VP) (r0 : Value) (w : World) : Prop := m103_0 R r0 w
theorem s103 (r0 : Value) {R : VP} {w : World} (h : m103 R r0 w) :
    Calls Tryz.prog 103 #[r0] w fun e w' => ∃ v, e = .returned v ∧ R v w' :=
  calls_of_cwp (st := (fun i => 0)) (c := k103_0) (by kernel_rfl) Tryz.func103 (by kernel_rfl) (Nat.le_of_ble_eq_true (by kernel_rfl)) (by kernel_rfl)
    (s103_0 (R := R) (Q := endE Tryz.prog Tryz.f103 R) (fun e w h => kcast (by kernel_rfl) h) (argsE #[r0]) w (kcast (by kernel_rfl) h))
def m75_2 (R : VP) (t2 : Value) (w : World) : Prop :=
  R t2 w
def m75_1 (R : VP) (n0 : Value) (w : World) : Prop :=
  valP Tryz.prog (binS BinOp.geq 3 (tm 3) (ci 0) n0 (vi 0)) w fun t4 w =>
  condP t4
  (valP Tryz.prog (binS BinOp.leq 3 (tm 6) (ci 1099511627776) n0 (vi 1099511627776)) w fun t7 w =>
  pickP t4 t7 (Value.bool false) fun t8 =>
  m75_2 R t8 w)
  (pickP t4 undef (Value.bool false) fun t8 =>
  m75_2 R t8 w)
def m75_0 (R : VP) (n0 : Value) (w : World) : Prop :=
  m75_1 R n0 w
abbrev W75 := cwp Tryz.prog (fun i => 0)
noncomputable def k75_0 := bodyOf Tryz.f75
noncomputable def k75_1 := c2 k75_0
noncomputable def k75_2 := c2 k75_1
abbrev hR75 (R : VP) (Q : EQ) : Prop := ∀ e w, (R (e 2) w) → Q .ret e w
theorem s75_2 (hR : hR75 R Q) (e : Env) (w : World) (h : m75_2 R (e 2) w) : W75 k75_2 Q e w := by
  exact reA (hR _ _ h)
theorem s75_1 (hR : hR75 R Q) (e : Env) (w : World) (h : m75_1 R (e 0) w) : W75 k75_1 Q e w := by
  refine seA ?_
  exact rgA 1 (fun e w => m75_2 R (e 2) w) h fun e w h => then_N (s75_2 hR e w h)
theorem s75_0 (hR : hR75 R Q) (e : Env) (w : World) (h : m75_0 R (e 0) w) : W75 k75_0 Q e w := by
  refine seA ?_
  exact rgA 0 (fun e w => m75_1 R (e 0) w) h fun e w h => then_N (s75_1 hR e w h)
abbrev m75 (R : VP) (n0 : Value) (w : World) : Prop := m75_0 R n0 w
theorem s75 (n0 : Value) {R : VP} {w : World} (h : m75 R n0 w) :
    Calls Tryz.prog 75 #[n0] w fun e w' => ∃ v, e = .returned v ∧ R v w' :=
  calls_of_cwp (st := (fun i => 0)) (c := k75_0) (by kernel_rfl) Tryz.func75 (by kernel_rfl) (Nat.le_of_ble_eq_true (by kernel_rfl)) (by kernel_rfl)
    (s75_0 (R := R) (Q := endE Tryz.prog Tryz.f75 R) (fun e w h => kcast (by kernel_rfl) h) (argsE #[n0]) w (kcast (by kernel_rfl) h))
def m125_2 (R : VP) (t2 : Value) (w : World) : Prop :=
  R t2 w
def m125_1 (R : VP) (l0 : Value) (w : World) : Prop :=
  callP Tryz.prog (fnV 137) #[l0, (fnV 138)] w fun t4 w =>
  valP Tryz.prog (Op.unary UnOp.not t4) w fun t5 w =>
  m125_2 R t5 w
def m125_0 (R : VP) (l0 : Value) (w : World) : Prop :=
  m125_1 R l0 w
abbrev W125 := cwp Tryz.prog (fun i => 0)
noncomputable def k125_0 := bodyOf Tryz.f125
noncomputable def k125_1 := c2 k125_0
noncomputable def k125_2 := c2 k125_1
abbrev hR125 (R : VP) (Q : EQ) : Prop := ∀ e w, (R (e 2) w) → Q .ret e w
theorem s125_2 (hR : hR125 R Q) (e : Env) (w : World) (h : m125_2 R (e 2) w) : W125 k125_2 Q e w := by
  exact reA (hR _ _ h)
theorem s125_1 (hR : hR125 R Q) (e : Env) (w : World) (h : m125_1 R (e 0) w) : W125 k125_1 Q e w := by
  refine seA ?_
  exact rgA 1 (fun e w => m125_2 R (e 2) w) h fun e w h => then_N (s125_2 hR e w h)
theorem s125_0 (hR : hR125 R Q) (e : Env) (w : World) (h : m125_0 R (e 0) w) : W125 k125_0 Q e w := by
  refine seA ?_
  exact rgA 0 (fun e w => m125_1 R (e 0) w) h fun e w h => then_N (s125_1 hR e w h)
abbrev m125 (R : VP) (l0 : Value) (w : World) : Prop := m125_0 R l0 w
theorem s125 (l0 : Value) {R : VP} {w : World} (h : m125 R l0 w) :
    Calls Tryz.prog 125 #[l0] w fun e w' => ∃ v, e = .returned v ∧ R v w' :=
  calls_of_cwp (st := (fun i => 0)) (c := k125_0) (by kernel_rfl) Tryz.func125 (by kernel_rfl) (Nat.le_of_ble_eq_true (by kernel_rfl)) (by kernel_rfl)
    (s125_0 (R := R) (Q := endE Tryz.prog Tryz.f125 R) (fun e w h => kcast (by kernel_rfl) h) (argsE #[l0]) w (kcast (by kernel_rfl) h))
def m138_2 (R : VP) (t2 : Value) (w : World) : Prop :=
  R t2 w
def m138_1 (R : VP) (n0 : Value) (w : World) : Prop :=
  valP Tryz.prog (binS BinOp.lss 3 (tm 3) (ci 0) n0 (vi 0)) w fun t4 w =>
  condP t4
  (pickP t4 (Value.bool true) undef fun t8 =>
  m138_2 R t8 w)
  (valP Tryz.prog (binS BinOp.gtr 3 (tm 6) (ci 1099511627776) n0 (vi 1099511627776)) w fun t7 w =>
  pickP t4 (Value.bool true) t7 fun t8 =>
  m138_2 R t8 w)
def m138_0 (R : VP) (n0 : Value) (w : World) : Prop :=
  m138_1 R n0 w
abbrev W138 := cwp Tryz.prog (fun i => 0)
noncomputable def k138_0 := bodyOf Tryz.f138
noncomputable def k138_1 := c2 k138_0
noncomputable def k138_2 := c2 k138_1
abbrev hR138 (R : VP) (Q : EQ) : Prop := ∀ e w, (R (e 2) w) → Q .ret e w
theorem s138_2 (hR : hR138 R Q) (e : Env) (w : World) (h : m138_2 R (e 2) w) : W138 k138_2 Q e w := by
  exact reA (hR _ _ h)
theorem s138_1 (hR : hR138 R Q) (e : Env) (w : World) (h : m138_1 R (e 0) w) : W138 k138_1 Q e w := by
  refine seA ?_
  exact rgA 1 (fun e w => m138_2 R (e 2) w) h fun e w h => then_N (s138_2 hR e w h)
theorem s138_0 (hR : hR138 R Q) (e : Env) (w : World) (h : m138_0 R (e 0) w) : W138 k138_0 Q e w := by
  refine seA ?_
  exact rgA 0 (fun e w => m138_1 R (e 0) w) h fun e w h => then_N (s138_1 hR e w h)
abbrev m138 (R : VP) (n0 : Value) (w : World) : Prop := m138_0 R n0 w
theorem s138 (n0 : Value) {R : VP} {w : World} (h : m138 R n0 w) :
    Calls Tryz.prog 138 #[n0] w fun e w' => ∃ v, e = .returned v ∧ R v w' :=
  calls_of_cwp (st := (fun i => 0)) (c := k138_0) (by kernel_rfl) Tryz.func138 (by kernel_rfl) (Nat.le_of_ble_eq_true (by kernel_rfl)) (by kernel_rfl)
    (s138_0 (R := R) (Q := endE Tryz.prog Tryz.f138 R) (fun e w h => kcast (by kernel_rfl) h) (argsE #[n0]) w (kcast (by kernel_rfl) h))
def m137_2 (R : VP) (t4 : Value) (w : World) : Prop :=
  R t4 w
def m137_1 (R : VP) (s0 f1 : Value) (w : World) : Prop :=
  callP Tryz.prog (fnV 144) #[s0, f1] w fun t7 w =>
  valP Tryz.prog (binS BinOp.geq 3 (tm 7) (ci 0) t7 (vi 0)) w fun t8 w =>
  m137_2 R t8 w
def m137_0 (R : VP) (s0 f1 : Value) (w : World) : Prop :=
  m137_1 R s0 f1 w
abbrev W137 := cwp Tryz.prog (fun i => 0)
noncomputable def k137_0 := bodyOf Tryz.f137
noncomputable def k137_1 := c2 k137_0
noncomputable def k137_2 := c2 k137_1
abbrev hR137 (R : VP) (Q : EQ) : Prop := ∀ e w, (R (e 4) w) → Q .ret e w
theorem s137_2 (hR : hR137 R Q) (e : Env) (w : World) (h : m137_2 R (e 4) w) : W137 k137_2 Q e w := by
  exact reA (hR _ _ h)
theorem s137_1 (hR : hR137 R Q) (e : Env) (w : World) (h : m137_1 R (e 0) (e 1) w) : W137 k137_1 Q e w := by
  refine seA ?_
  exact rgA 1 (fun e w => m137_2 R (e 4) w) h fun e w h => then_N (s137_2 hR e w h)
theorem s137_0 (hR : hR137 R Q) (e : Env) (w : World) (h : m137_0 R (e 0) (e 1) w) : W137 k137_0 Q e w := by
  refine seA ?_
  exact rgA 0 (fun e w => m137_1 R (e 0) (e 1) w) h fun e w h => then_N (s137_1 hR e w h)
abbrev m137 (R : VP) (s0 f1 : Value) (w : World) : Prop := m137_0 R s0 f1 w
theorem s137 (s0 f1 : Value) {R : VP} {w : World} (h : m137 R s0 f1 w) :
    Calls Tryz.prog 137 #[s0, f1] w fun e w' => ∃ v, e = .returned v ∧ R v w' :=
  calls_of_cwp (st := (fun i => 0)) (c := k137_0) (by kernel_rfl) Tryz.func137 (by kernel_rfl) (Nat.le_of_ble_eq_true (by kernel_rfl)) (by kernel_rfl)
    (s137_0 (R := R) (Q := endE Tryz.prog Tryz.f137 R) (fun e w h => kcast (by kernel_rfl) h) (argsE #[s0, f1]) w (kcast (by kernel_rfl) h))
def m144_11 (R : VP) (K1 : VP) (t4 : Value) (w : World) : Prop :=
  R t4 w
def m144_8 (R : VP) (K1 : VP) (s0 f1 t7 t8 : Value) (w : World) : Prop :=
  valP Tryz.prog (binS BinOp.add 3 (tm 8) (ci 1) t8 (vi 1)) w fun t18 w =>
  K1 t18 w
def m144_10 (R : VP) (K1 : VP) (s0 f1 i5 t7 t8 t16 : Value) (w : World) : Prop :=
  condP t16
  (m144_11 R K1 i5 w)
  (m144_8 R K1 s0 f1 t7 t8 w)
def m144_9 (R : VP) (K1 : VP) (s0 f1 i5 t7 t8 : Value) (w : World) : Prop :=
  valP Tryz.prog (Instr.indexAt 23 s0 i5) w fun t14 w =>
  valP Tryz.prog (Instr.loadAt 3 t14) w fun t15 w =>
  callP Tryz.prog f1 #[t15] w fun t16 w =>
  m144_10 R K1 s0 f1 i5 t7 t8 t16 w
def m144_7 (R : VP) (K1 : VP) (s0 f1 t7 t8 : Value) (w : World) : Prop :=
  m144_9 R K1 s0 f1 t8 t7 t8 w
def m144_3 (R : VP) (t4 : Value) (w : World) : Prop :=
  R t4 w
def m144_2 (R : VP) (w : World) : Prop :=
  m144_3 R (vi (-1)) w
def m144_6 (R : VP) (K1 : VP) (s0 f1 t7 t8 t9 : Value) (w : World) : Prop :=
  condP t9
  (m144_7 R K1 s0 f1 t7 t8 w)
  (m144_2 R w)
def m144_5 (R : VP) (K1 : VP) (s0 f1 t7 t8 : Value) (w : World) : Prop :=
  valP Tryz.prog (binS BinOp.lss 3 (tm 8) (tm 7) t8 t7) w fun t9 w =>
  m144_6 R K1 s0 f1 t7 t8 t9 w
def m144_4 (R : VP) (s0 f1 t7 t8 : Value) (w : World) : Prop :=
  loopP (fun (K1 : VP) (s : Value) w => m144_5 R K1 s0 f1 t7 s w) t8 w
def m144_1 (R : VP) (s0 f1 : Value) (w : World) : Prop :=
  builtinP Tryz.prog Builtin.len #[23] 3 #[false] #[s0] w fun t7 w =>
  m144_4 R s0 f1 t7 (vi 0) w
def m144_0 (R : VP) (s0 f1 : Value) (w : World) : Prop :=
  m144_1 R s0 f1 w
abbrev W144 := cwp Tryz.prog (fun i => 0)
noncomputable def k144_0 := bodyOf Tryz.f144
noncomputable def k144_1 := c2 k144_0
noncomputable def k144_2 := c2 k144_1
noncomputable def k144_3 := c2 k144_2
noncomputable def k144_4 := c2 (c1 k144_1)
noncomputable def k144_5 := c1 (c1 k144_4)
noncomputable def k144_6 := c2 k144_5
noncomputable def k144_7 := c2 k144_6
noncomputable def k144_8 := c2 k144_7
noncomputable def k144_9 := c2 (c1 (c1 k144_7))
noncomputable def k144_10 := c2 k144_9
noncomputable def k144_11 := c2 (c1 k144_10)
abbrev hR144 (R : VP) (Q : EQ) : Prop := ∀ e w, (R (e 4) w) → Q .ret e w
theorem s144_11 {K1 : VP} (hR : hR144 R Q) (e : Env) (w : World) (h : m144_11 R K1 (e 4) w) : W144 k144_11 Q e w := by
  exact reA (hR _ _ h)
theorem s144_8 {K1 : VP} (hN : ∀ e w, (K1 (e 8) w) → Q .normal e w) (e : Env) (w : World) (h : m144_8 R K1 (e 0) (e 1) (e 7) (e 8) w) : W144 k144_8 Q e w := by
  exact rgA 6 (fun e w => K1 (e 8) w) h hN
theorem s144_10 {K1 : VP} (hN : ∀ e w, (m144_8 R K1 (e 0) (e 1) (e 7) (e 8) w) → Q .normal e w) (hR : hR144 R Q) (e : Env) (w : World) (h : m144_10 R K1 (e 0) (e 1) (e 5) (e 7) (e 8) (e 16) w) : W144 k144_10 Q e w := by
  refine coA (Operand.tmp 16) h (fun h1 => ?_) (fun h1 => ?_)
  · refine seA ?_
    exact rgA 5 (fun e w => m144_11 R K1 (e 4) w) h1 fun e w h => then_N (s144_11 hR e w h)
  · exact skA (hN _ _ h1)
theorem s144_9 {K1 : VP} (hN : ∀ e w, (m144_8 R K1 (e 0) (e 1) (e 7) (e 8) w) → Q .normal e w) (hR : hR144 R Q) (e : Env) (w : World) (h : m144_9 R K1 (e 0) (e 1) (e 5) (e 7) (e 8) w) : W144 k144_9 Q e w := by
  refine seA ?_
  exact rgA 4 (fun e w => m144_10 R K1 (e 0) (e 1) (e 5) (e 7) (e 8) (e 16) w) h fun e w h => then_N (s144_10 hN hR e w h)
theorem s144_7 {K1 : VP} (hN : ∀ e w, (K1 (e 8) w) → Q .normal e w) (hR : hR144 R Q) (e : Env) (w : World) (h : m144_7 R K1 (e 0) (e 1) (e 7) (e 8) w) : W144 k144_7 Q e w := by
  refine seA ?_
  have hN : ∀ e w, (m144_8 R K1 (e 0) (e 1) (e 7) (e 8) w) → (thenE (W144 k144_8 Q) Q) .normal e w := fun e w h => then_N (s144_8 hN e w h)
  have hR : hR144 R (thenE (W144 k144_8 Q) Q) := fun e w h => then_R (hR e w h)
  refine block_ok 1 (by kernel_rfl) ?_
  have hN : ∀ e w, (m144_8 R K1 (e 0) (e 1) (e 7) (e 8) w) → (inBlockE 1 (thenE (W144 k144_8 Q) Q)) .normal e w := fun e w h => block_N (hN e w h)
  have hR : hR144 R (inBlockE 1 (thenE (W144 k144_8 Q) Q)) := fun e w h => block_R (hR e w h)
  refine seA ?_
  exact rgA 3 (fun e w => m144_9 R K1 (e 0) (e 1) (e 5) (e 7) (e 8) w) h fun e w h => then_N (s144_9 (R := R) (Q := (inBlockE 1 (thenE (W144 k144_8 Q) Q))) hN hR e w h)
theorem s144_3 (hR : hR144 R Q) (e : Env) (w : World) (h : m144_3 R (e 4) w) : W144 k144_3 Q e w := by
  exact reA (hR _ _ h)
theorem s144_2 (hR : hR144 R Q) (e : Env) (w : World) (h : m144_2 R w) : W144 k144_2 Q e w := by
  refine seA ?_
  exact rgA 7 (fun e w => m144_3 R (e 4) w) h fun e w h => then_N (s144_3 hR e w h)
theorem s144_6 {K1 : VP} (hN : ∀ e w, (K1 (e 8) w) → Q .normal e w) (hR : hR144 R Q) (hX0 : ∀ e w, (m144_2 R w) → Q (.exit 0) e w) (e : Env) (w : World) (h : m144_6 R K1 (e 0) (e 1) (e 7) (e 8) (e 9) w) : W144 k144_6 Q e w := by
  refine seA ?_
  have hN : ∀ e w, (m144_7 R K1 (e 0) (e 1) (e 7) (e 8) w) → (thenE (W144 k144_7 Q) Q) .normal e w := fun e w h => then_N (s144_7 hN hR e w h)
  have hX0 : ∀ e w, (m144_2 R w) → (thenE (W144 k144_7 Q) Q) (.exit 0) e w := fun e w h => then_X (hX0 e w h)
  refine coA (Operand.tmp 9) h (fun h1 => ?_) (fun h1 => ?_)
  · exact skA (hN _ _ h1)
  · exact exA 0 (hX0 _ _ h1)
theorem s144_5 {K1 : VP} (hN : ∀ e w, (K1 (e 8) w) → Q .normal e w) (hR : hR144 R Q) (hX0 : ∀ e w, (m144_2 R w) → Q (.exit 0) e w) (e : Env) (w : World) (h : m144_5 R K1 (e 0) (e 1) (e 7) (e 8) w) : W144 k144_5 Q e w := by
  refine seA ?_
  exact rgA 2 (fun e w => m144_6 R K1 (e 0) (e 1) (e 7) (e 8) (e 9) w) h fun e w h => then_N (s144_6 hN hR hX0 e w h)
theorem s144_4 (hN : ∀ e w, (m144_2 R w) → Q .normal e w) (hR : hR144 R Q) (e : Env) (w : World) (h : m144_4 R (e 0) (e 1) (e 7) (e 8) w) : W144 k144_4 Q e w := by
  refine block_ok 0 (by kernel_rfl) ?_
  have hX0 : ∀ e w, (m144_2 R w) → (inBlockE 0 Q) (.exit 0) e w := fun e w h => inBlock_same (Q := Q) 0 (hN e w h)
  have hR : hR144 R (inBlockE 0 Q) := fun e w h => block_R (hR e w h)
  refine loop_ok' (fun (e : Env) => e 8) [0, 1, 7] (by kernel_rfl) (by kernel_rfl) h (fun K e' w' hk h' => ?_)
  have r0 : e' 0 = e 0 := hk 0 (by decide)
  have r1 : e' 1 = e 1 := hk 1 (by decide)
  have r7 : e' 7 = e 7 := hk 7 (by decide)
  have hR : hR144 R (thenE (fun (e : Env) w => K (e 8) w) (inBlockE 0 Q)) := fun e w h => then_R (hR e w h)
  have hX0 : ∀ e w, (m144_2 R w) → (thenE (fun (e : Env) w => K (e 8) w) (inBlockE 0 Q)) (.exit 0) e w := fun e w h => then_X (hX0 e w h)
  exact s144_5 (K1 := K) (fun _ _ h => then_N h) hR hX0 e' w' (by rw [r0, r1, r7]; exact h')
theorem s144_1 (hR : hR144 R Q) (e : Env) (w : World) (h : m144_1 R (e 0) (e 1) w) : W144 k144_1 Q e w := by
  refine seA ?_
  have hN : ∀ e w, (m144_2 R w) → (thenE (W144 k144_2 Q) Q) .normal e w := fun e w h => then_N (s144_2 hR e w h)
  have hR : hR144 R (thenE (W144 k144_2 Q) Q) := fun e w h => then_R (hR e w h)
  refine seA ?_
  exact rgA 1 (fun e w => m144_4 R (e 0) (e 1) (e 7) (e 8) w) h fun e w h => then_N (s144_4 hN hR e w h)
theorem s144_0 (hR : hR144 R Q) (e : Env) (w : World) (h : m144_0 R (e 0) (e 1) w) : W144 k144_0 Q e w := by
  refine seA ?_
  exact rgA 0 (fun e w => m144_1 R (e 0) (e 1) w) h fun e w h => then_N (s144_1 hR e w h)
abbrev m144 (R : VP) (s0 f1 : Value) (w : World) : Prop := m144_0 R s0 f1 w
theorem s144 (s0 f1 : Value) {R : VP} {w : World} (h : m144 R s0 f1 w) :
    Calls Tryz.prog 144 #[s0, f1] w fun e w' => ∃ v, e = .returned v ∧ R v w' :=
  calls_of_cwp (st := (fun i => 0)) (c := k144_0) (by kernel_rfl) Tryz.func144 (by kernel_rfl) (Nat.le_of_ble_eq_true (by kernel_rfl)) (by kernel_rfl)
    (s144_0 (R := R) (Q := endE Tryz.prog Tryz.f144 R) (fun e w h => kcast (by kernel_rfl) h) (argsE #[s0, f1]) w (kcast (by kernel_rfl) h))
end Go.Proofs.YtcldjjmfpmkldaaGreatDoor.M
namespace Go.Proofs.YtcldjjmfpmkldaaGreatDoor.M
open Go.Proofs.YtcldjjmfpmkldaaGreatDoor.F Go.RowKit
set_option linter.unusedVariables false
set_option linter.unusedSimpArgs false
set_option maxRecDepth 100000
set_option maxHeartbeats 2000000
attribute [local irreducible] Res.cells Res.row Res.map Res.any World.cell? World.frozen? Instr.fieldAt Instr.loadAt Instr.storeAt Instr.indexAt Instr.lookup Instr.mapUpdate Instr.box Instr.build Instr.buildSlice Instr.extract Instr.alloc Instr.field Instr.index Instr.sliceAt Instr.makeSlice Instr.makeMap Instr.makeFunc binS Op.unary Sem.run
abbrev iEnc (x : Int) : List Value := [.int .i64 x]
abbrev iRow (A : Option Addr) (c : Nat) (l : List Int) : Res := Res.row 3 1 (.slice A l.length c) l.length (l.flatMap iEnc)
theorem takeS_put {n : Int} (h : -9223372036854775808 ≤ n ∧ n ≤ 9223372036854775807) (r : ByteArray) : takeS (putS n ++ r) = some (n, r) := by
  rw [takeS_L, bytesN_append, bytesN_putS, takeL_put n _ h.1 h.2]
  simp only [Option.map_some]
  rw [strN_bytesN]
def takeAllS : Nat → ByteArray → Option (List Int × ByteArray)
  | 0, s => some ([], s)
  | n + 1, s => match takeS s with
    | none => none
    | some (k, r) => (takeAllS n r).map fun p => (k :: p.1, p.2)
theorem takeAllS_succ (n : Nat) (s : ByteArray) : takeAllS (n + 1) s = match takeS s with
    | none => none
    | some (k, r) => (takeAllS n r).map fun p => (k :: p.1, p.2) := rfl
def textS (s : ByteArray) (most : Int) : Option (ByteArray × ByteArray) := match takeS s with
  | none => none
  | some (n, r) => if 0 ≤ n ∧ n ≤ most ∧ n ≤ r.size then some (r.extract 0 n.toNat, r.extract n.toNat r.size) else none
abbrev noT : Value := .tuple #[.string ⟨#[]⟩, .string ⟨#[]⟩, .int .i64 2]
def textV (s : ByteArray) (most : Int) : Value := match textS s most with
  | none => noT
  | some (t, r) => .tuple #[.string t, .string r, .int .i64 0]
def textR (e n : Int) (r : ByteArray) (most : Int) : Value := if e = 0 ∧ 0 ≤ n ∧ n ≤ most ∧ n ≤ r.size then .tuple #[.string (r.extract 0 n.toNat), .string (r.extract n.toNat r.size), .int .i64 0] else noT
theorem textV_R (s : ByteArray) (most : Int) : textV s most = (match takeS s with
  | none => textR 2 0 ⟨#[]⟩ most
  | some (n, r) => textR 0 n r most) := by
  unfold textV textS textR
  cases takeS s with
  | none => simp
  | some p =>
    obtain ⟨n, r⟩ := p
    simp only
    by_cases h : 0 ≤ n ∧ n ≤ most ∧ n ≤ r.size
    · rw [if_pos h, if_pos ⟨trivial, h⟩]
    · rw [if_neg h, if_neg (fun h1 => h h1.2)]
def putTextS (s : ByteArray) : ByteArray := putS s.size ++ s
section
variable {w0 w : World} {F : List Nat} {L : List Res} {s : ByteArray}
theorem text_main {e n most : Int} {r : ByteArray} (hS : St w0 F w L) : m102_2 (fun v w' => v = textR e n r most ∧ St w0 F w' L) (.int .i64 most) (.int .i64 n) (.string r) (.int .i64 e) w := by
  have leaf : ∀ t : Bool, (t = true ↔ ¬ (e = 0 ∧ 0 ≤ n ∧ n ≤ most ∧ n ≤ r.size)) → m102_5 (fun v w' => v = textR e n r most ∧ St w0 F w' L) (.int .i64 n) (.string r) (.bool t) w := fun t ht => by
    unfold m102_5 textR
    cases t with
    | true =>
      refine cond_t rfl ?_
      rw [if_neg (ht.1 rfl)]
      unfold m102_6
      exact ⟨rfl, hS⟩
    | false =>
      have h : e = 0 ∧ 0 ≤ n ∧ n ≤ most ∧ n ≤ r.size := Classical.byContradiction fun h => by have := ht.2 h; cases this
      refine cond_f rfl ?_
      rw [if_pos h]
      obtain ⟨k, rfl⟩ : ∃ k : Nat, n = (k : Int) := ⟨n.toNat, by omega⟩
      unfold m102_3
      refine valQ_ok (fun w => sto w (by omega)) ?_
      refine valQ_ok (fun w => sfrom w (by omega)) ?_
      refine drawn_ok hS ?_
      intro w hS
      unfold m102_4
      rw [Int.toNat_natCast]
      exact ⟨rfl, hS⟩
  unfold m102_2
  refine valP_ok (ne26 _ _ _ _ _) ?_
  refine cond_split (fun hc0 => ?_) (fun hc0 => ?_)
  · refine pick_dt (by first | assumption | omega) ?_
    refine cond_bsplit (fun hc1 => ?_) (fun hc1 => ?_)
    · refine pick_dt (by first | assumption | omega) ?_
      refine cond_bsplit (fun hc2 => ?_) (fun hc2 => ?_)
      · refine pick_dt (by first | assumption | omega) ?_
        exact leaf _ (by simp only [decide_eq_true_eq, Bool.false_eq_true, false_iff, true_iff] <;> first | contradiction | omega)
      · refine builtin_ok (len9 _) ?_
        refine valP_ok (gtr_ok _ _ _ _ _ _ _) ?_
        refine pick_t (by first | rfl | assumption) ?_
        exact leaf _ (by simp only [decide_eq_true_eq, Bool.false_eq_true, false_iff, true_iff] <;> first | contradiction | omega)
    · refine valP_ok (gtr_ok _ _ _ _ _ _ _) ?_
      refine pick_t (by first | rfl | assumption) ?_
      refine cond_bsplit (fun hc2 => ?_) (fun hc2 => ?_)
      · refine pick_dt (by first | assumption | omega) ?_
        exact leaf _ (by simp only [decide_eq_true_eq, Bool.false_eq_true, false_iff, true_iff] <;> first | contradiction | omega)
      · refine builtin_ok (len9 _) ?_
        refine valP_ok (gtr_ok _ _ _ _ _ _ _) ?_
        refine pick_t (by first | rfl | assumption) ?_
        exact leaf _ (by simp only [decide_eq_true_eq, Bool.false_eq_true, false_iff, true_iff] <;> first | contradiction | omega)
  · refine valP_ok (lss_ok _ _ _ _ _ _ _) ?_
    refine pick_df (by first | assumption | omega) ?_
    refine cond_split (fun hc1 => ?_) (fun hc1 => ?_)
    · refine pick_dt (by first | assumption | omega) ?_
      refine cond_bsplit (fun hc2 => ?_) (fun hc2 => ?_)
      · refine pick_dt (by first | assumption | omega) ?_
        exact leaf _ (by simp only [decide_eq_true_eq, Bool.false_eq_true, false_iff, true_iff] <;> first | contradiction | omega)
      · refine builtin_ok (len9 _) ?_
        refine valP_ok (gtr_ok _ _ _ _ _ _ _) ?_
        refine pick_t (by first | rfl | assumption) ?_
        exact leaf _ (by simp only [decide_eq_true_eq, Bool.false_eq_true, false_iff, true_iff] <;> first | contradiction | omega)
    · refine valP_ok (gtr_ok _ _ _ _ _ _ _) ?_
      refine pick_df (by first | assumption | omega) ?_
      refine cond_split (fun hc2 => ?_) (fun hc2 => ?_)
      · refine pick_dt (by first | assumption | omega) ?_
        exact leaf _ (by simp only [decide_eq_true_eq, Bool.false_eq_true, false_iff, true_iff] <;> first | contradiction | omega)
      · refine builtin_ok (len9 _) ?_
        refine valP_ok (gtr_ok _ _ _ _ _ _ _) ?_
        refine pick_df (by first | assumption | omega) ?_
        exact leaf _ (by simp only [decide_eq_true_eq, Bool.false_eq_true, false_iff, true_iff] <;> first | contradiction | omega)
theorem text_ret {most : Int} (hS : St w0 F w L) : Ret Tryz.prog 102 #[.string s, .int .i64 most] w fun v w' => v = textV s most ∧ St w0 F w' L := by
  refine s102 _ _ ?_
  unfold m102 m102_0 m102_1
  refine callR (by kernel_rfl) (take_ret hS) ?_
  rintro _ w ⟨rfl, hS⟩
  rw [textV_R]
  unfold tkV
  cases takeS s with
  | none =>
    simp only
    refine valP_ok (extract_ok _ 0 rfl _) ?_
    refine valP_ok (extract_ok _ 1 rfl _) ?_
    refine valP_ok (extract_ok _ 2 rfl _) ?_
    exact text_main hS
  | some p =>
    obtain ⟨n, r⟩ := p
    simp only
    refine valP_ok (extract_ok _ 0 rfl _) ?_
    refine valP_ok (extract_ok _ 1 rfl _) ?_
    refine valP_ok (extract_ok _ 2 rfl _) ?_
    exact text_main hS
theorem rtext_main {e n most : Int} {r : ByteArray} (hS : St w0 F w L) : m107_2 (fun v w' => v = textR e n r most ∧ St w0 F w' L) (.int .i64 most) (.int .i64 n) (.string r) (.int .i64 e) w := by
  have leaf : ∀ t : Bool, (t = true ↔ ¬ (e = 0 ∧ 0 ≤ n ∧ n ≤ most ∧ n ≤ r.size)) → m107_5 (fun v w' => v = textR e n r most ∧ St w0 F w' L) (.int .i64 n) (.string r) (.bool t) w := fun t ht => by
    unfold m107_5 textR
    cases t with
    | true =>
      refine cond_t rfl ?_
      rw [if_neg (ht.1 rfl)]
      unfold m107_6
      exact ⟨rfl, hS⟩
    | false =>
      have h : e = 0 ∧ 0 ≤ n ∧ n ≤ most ∧ n ≤ r.size := Classical.byContradiction fun h => by have := ht.2 h; cases this
      refine cond_f rfl ?_
      rw [if_pos h]
      obtain ⟨k, rfl⟩ : ∃ k : Nat, n = (k : Int) := ⟨n.toNat, by omega⟩
      unfold m107_3
      refine valQ_ok (fun w => sto w (by omega)) ?_
      refine valQ_ok (fun w => sfrom w (by omega)) ?_
      refine drawn_ok hS ?_
      intro w hS
      unfold m107_4
      rw [Int.toNat_natCast]
      exact ⟨rfl, hS⟩
  unfold m107_2
  refine valP_ok (ne3 _ _ _ _ _) ?_
  refine cond_split (fun hc0 => ?_) (fun hc0 => ?_)
  · refine pick_dt (by first | assumption | omega) ?_
    refine cond_bsplit (fun hc1 => ?_) (fun hc1 => ?_)
    · refine pick_dt (by first | assumption | omega) ?_
      refine cond_bsplit (fun hc2 => ?_) (fun hc2 => ?_)
      · refine pick_dt (by first | assumption | omega) ?_
        exact leaf _ (by simp only [decide_eq_true_eq, Bool.false_eq_true, false_iff, true_iff] <;> first | contradiction | omega)
      · refine builtin_ok (len9 _) ?_
        refine valP_ok (gtr_ok _ _ _ _ _ _ _) ?_
        refine pick_t (by first | rfl | assumption) ?_
        exact leaf _ (by simp only [decide_eq_true_eq, Bool.false_eq_true, false_iff, true_iff] <;> first | contradiction | omega)
    · refine valP_ok (gtr_ok _ _ _ _ _ _ _) ?_
      refine pick_t (by first | rfl | assumption) ?_
      refine cond_bsplit (fun hc2 => ?_) (fun hc2 => ?_)
      · refine pick_dt (by first | assumption | omega) ?_
        exact leaf _ (by simp only [decide_eq_true_eq, Bool.false_eq_true, false_iff, true_iff] <;> first | contradiction | omega)
      · refine builtin_ok (len9 _) ?_
        refine valP_ok (gtr_ok _ _ _ _ _ _ _) ?_
        refine pick_t (by first | rfl | assumption) ?_
        exact leaf _ (by simp only [decide_eq_true_eq, Bool.false_eq_true, false_iff, true_iff] <;> first | contradiction | omega)
  · refine valP_ok (lss_ok _ _ _ _ _ _ _) ?_
    refine pick_df (by first | assumption | omega) ?_
    refine cond_split (fun hc1 => ?_) (fun hc1 => ?_)
    · refine pick_dt (by first | assumption | omega) ?_
      refine cond_bsplit (fun hc2 => ?_) (fun hc2 => ?_)
      · refine pick_dt (by first | assumption | omega) ?_
        exact leaf _ (by simp only [decide_eq_true_eq, Bool.false_eq_true, false_iff, true_iff] <;> first | contradiction | omega)
      · refine builtin_ok (len9 _) ?_
        refine valP_ok (gtr_ok _ _ _ _ _ _ _) ?_
        refine pick_t (by first | rfl | assumption) ?_
        exact leaf _ (by simp only [decide_eq_true_eq, Bool.false_eq_true, false_iff, true_iff] <;> first | contradiction | omega)
    · refine valP_ok (gtr_ok _ _ _ _ _ _ _) ?_
      refine pick_df (by first | assumption | omega) ?_
      refine cond_split (fun hc2 => ?_) (fun hc2 => ?_)
      · refine pick_dt (by first | assumption | omega) ?_
        exact leaf _ (by simp only [decide_eq_true_eq, Bool.false_eq_true, false_iff, true_iff] <;> first | contradiction | omega)
      · refine builtin_ok (len9 _) ?_
        refine valP_ok (gtr_ok _ _ _ _ _ _ _) ?_
        refine pick_df (by first | assumption | omega) ?_
        exact leaf _ (by simp only [decide_eq_true_eq, Bool.false_eq_true, false_iff, true_iff] <;> first | contradiction | omega)
theorem rtext_ret {most : Int} (hS : St w0 F w L) : Ret Tryz.prog 107 #[.string s, .int .i64 most] w fun v w' => v = textV s most ∧ St w0 F w' L := by
  refine s107 _ _ ?_
  unfold m107 m107_0 m107_1
  refine callR (by kernel_rfl) (rtake_ret hS) ?_
  rintro _ w ⟨rfl, hS⟩
  rw [textV_R]
  unfold tkV
  cases takeS s with
  | none =>
    simp only
    refine valP_ok (extract_ok _ 0 rfl _) ?_
    refine valP_ok (extract_ok _ 1 rfl _) ?_
    refine valP_ok (extract_ok _ 2 rfl _) ?_
    exact rtext_main hS
  | some p =>
    obtain ⟨n, r⟩ := p
    simp only
    refine valP_ok (extract_ok _ 0 rfl _) ?_
    refine valP_ok (extract_ok _ 1 rfl _) ?_
    refine valP_ok (extract_ok _ 2 rfl _) ?_
    exact rtext_main hS
theorem takeall_ret {n : Nat} (hn : n ≤ 64) (hS : St w0 F w L) : Ret Tryz.prog 101 #[.string s, .int .i64 (n : Int)] w fun v w' => match takeAllS n s with
    | none => v = .tuple #[.slice none 0 0, .string ⟨#[]⟩, .int .i64 2] ∧ St w0 F w' L
    | some (l, r) => ∃ A c, v = .tuple #[.slice A l.length c, .string r, .int .i64 0] ∧ l.length = n ∧ St w0 F w' (iRow A c l :: L) := by
  refine s101 _ _ ?_
  unfold m101 m101_0 m101_1
  refine valP_ok (lss_ok _ _ _ _ _ _ _) ?_
  refine cond_df (by omega) ?_
  refine valP_ok (gtr_ok _ _ _ _ _ _ _) ?_
  refine pick_df (by first | assumption | omega) ?_
  unfold m101_16
  refine cond_df (by omega) ?_
  unfold m101_2 m101_3 m101_6
  refine loop_in (fun u w' => ∃ (i : Nat) (l : List Int) (r : ByteArray) (A : Option Addr) (c : Nat), u = (.string r, .slice A l.length c, .int .i64 (i : Int)) ∧ i ≤ n ∧ l.length = i ∧ takeAllS n s = (takeAllS (n - i) r).map (fun p => (l ++ p.1, p.2)) ∧ St w0 F w' (iRow A c l :: L)) (fun u _ => n - (intOf u.2.2).toNat) ⟨0, [], s, none, 0, rfl, by omega, rfl, by simp, hS.row_nil 3 1⟩ ?_
  clear hS
  rintro u w ⟨i, l, r, A, c, rfl, hi, hl, he, hS⟩
  simp only
  unfold m101_7
  refine valP_ok (lss_ok _ _ _ _ _ _ _) ?_
  unfold m101_8
  refine cond_split (fun h => ?_) (fun h => ?_)
  · obtain ⟨m, hm⟩ : ∃ m, n - i = m + 1 := ⟨n - i - 1, by omega⟩
    rw [hm] at he
    unfold m101_9
    refine callR (by kernel_rfl) (take_ret hS) ?_
    rintro _ w ⟨rfl, hS⟩
    rw [takeAllS_succ] at he
    unfold tkV
    cases ht : takeS r with
    | none =>
      rw [ht] at he
      simp only [Option.map_none] at he
      simp only
      refine valP_ok (extract_ok _ 0 rfl _) ?_
      refine valP_ok (extract_ok _ 1 rfl _) ?_
      refine valP_ok (extract_ok _ 2 rfl _) ?_
      unfold m101_11
      refine valP_ok (ne26 _ _ _ _ _) ?_
      unfold m101_14
      refine cond_dt (by omega) ?_
      unfold m101_15
      simp only [he]
      exact ⟨rfl, hS.tail⟩
    | some p =>
      obtain ⟨k, r2⟩ := p
      rw [ht] at he
      simp only at he
      simp only
      refine valP_ok (extract_ok _ 0 rfl _) ?_
      refine valP_ok (extract_ok _ 1 rfl _) ?_
      refine valP_ok (extract_ok _ 2 rfl _) ?_
      unfold m101_11
      refine valP_ok (ne26 _ _ _ _ _) ?_
      unfold m101_14
      refine cond_df (by omega) ?_
      unfold m101_12
      refine newslice_ok (bs23_1 rfl _) hS ?_
      intro b31 w hS
      refine append_one1 (enc := iEnc) 0 k sl23 (fun _ => rfl) (fun _ v hv => by obtain rfl := List.mem_singleton.1 hv; rfl) (by unfold maxLen; omega) (by omega) hS rfl ?_
      intro A' c' w hS
      simp only [List.set_cons_zero] at hS
      unfold m101_13
      unfold m101_10
      refine valP_ok (add_ok _ _ _ (by omega) (by omega) _) ?_
      refine ⟨⟨i + 1, l ++ [k], r2, A', c', rfl, by omega, by simp [hl], ?_, hS⟩, by simp [intOf]; omega⟩
      rw [he, show n - (i + 1) = m by omega, Option.map_map]
      congr 1
      funext p
      simp
  · obtain rfl : i = n := by omega
    rw [Nat.sub_self] at he
    simp only [takeAllS, Option.map_some, List.append_nil] at he
    unfold m101_4 m101_5
    simp only [he]
    exact ⟨A, c, rfl, hl, hS⟩
theorem puttext_ret (hs : s.size ≤ 1000000) (hS : St w0 F w L) : Ret Tryz.prog 89 #[.string s] w fun v w' => v = .string (putTextS s) ∧ St w0 F w' L := by
  refine s89 _ ?_
  unfold m89
  unfold m89_0
  unfold m89_1
  refine builtin_ok (len9 _) ?_
  refine callR (by kernel_rfl) (put_ret (by omega) hS) ?_
  rintro _ w ⟨rfl, hS⟩
  have := putS_size (n := (s.size : Int)) (by omega)
  refine valP_ok (sadd _ _ (by omega) _) ?_
  unfold m89_2
  exact ⟨rfl, hS⟩
theorem rtextp_ret (hs : s.size ≤ 1000000) (hS : St w0 F w L) : Ret Tryz.prog 104 #[.string s] w fun v w' => v = .string (putTextS s) ∧ St w0 F w' L := by
  refine s104 _ ?_
  unfold m104
  unfold m104_0
  unfold m104_1
  refine builtin_ok (len9 _) ?_
  refine callR (by kernel_rfl) (rput_ret (by omega) hS) ?_
  rintro _ w ⟨rfl, hS⟩
  have := putS_size (n := (s.size : Int)) (by omega)
  refine valP_ok (sadd _ _ (by omega) _) ?_
  unfold m104_2
  exact ⟨rfl, hS⟩
theorem putS_pos (n : Int) : 0 < (putS n).size := by
  rw [← bytesN_length, bytesN_putS]
  exact lebN_pos _
theorem fold_ge (xs : List Int) (s : ByteArray) : s.size ≤ (xs.foldl (fun s n => s ++ putS n) s).size := by
  induction xs generalizing s with
  | nil => exact Nat.le_refl _
  | cons x xs ih =>
    have h1 := ih (s ++ putS x)
    rw [ByteArray.size_append] at h1
    rw [List.foldl_cons]
    omega
theorem all_pos {l : List Int} (h0 : 0 < l.length) (hx : ∀ x ∈ l, -9223372036854775808 ≤ x ∧ x ≤ 9223372036854775807) : 0 < (allS l).size := by
  cases l with
  | nil => simp at h0
  | cons x xs =>
    have h1 := fold_ge xs (⟨#[]⟩ ++ putS x)
    have h2 := putS_pos x
    rw [ByteArray.size_append] at h1
    unfold allS
    rw [List.foldl_cons]
    omega
theorem putall_ret {l : List Int} {A : Option Addr} {c : Nat} (h0 : 0 < l.length) (hm : l.length ≤ 1000) (hx : ∀ x ∈ l, -9223372036854775808 ≤ x ∧ x ≤ 9223372036854775807) (hE : Bes w0 F L 1 A l.length (l.map (Value.int .i64))) (hS : St w0 F w L) : Ret Tryz.prog 88 #[.slice A l.length c] w fun v w' => v = .string (allS l) ∧ St w0 F w' L := by
  refine s88 _ ?_
  unfold m88
  unfold m88_0
  unfold m88_1
  refine new_ok (al99 _) hS ?_
  intro b3 w hS
  have hB := Bd.start hS
  clear hS
  unfold m88_2
  refine builtin_ok (len23 _) ?_
  unfold m88_5
  refine loop_in (fun u w' => ∃ i : Nat, u = .int .i64 (i : Int) ∧ i ≤ l.length ∧ Bd w0 F L b3 (allS (l.take i)) w') (fun u _ => l.length - (intOf u).toNat) ⟨0, rfl, by omega, hB⟩ ?_
  clear hB
  rintro u w ⟨i, rfl, hi, hB⟩
  have hsz := fold_size (xs := l.take i) (fun x hx2 => hx x (List.mem_of_mem_take hx2)) ⟨#[]⟩
  have e0 : (⟨#[]⟩ : ByteArray).size = 0 := rfl
  have hlt : (l.take i).length ≤ 1000 := by rw [List.length_take]; omega
  unfold m88_6
  refine valP_ok (lss_ok _ _ _ _ _ _ _) ?_
  unfold m88_7
  refine cond_split (fun h => ?_) (fun h => ?_)
  · have hil : i < l.length := by omega
    have hxi := hx _ (List.getElem_mem hil)
    have hnx : allS (l.take (i + 1)) = allS (l.take i) ++ putS l[i] := by
      unfold allS
      rw [List.take_succ_eq_append_getElem hil, List.foldl_append]
      rfl
    have hpz := putS_size hxi
    obtain ⟨p, A2, c2, hp, hS⟩ := hB
    have hR := hE.rd2 hS
    obtain ⟨gb, o, rfl⟩ := hR.some_ (by omega) (by omega)
    unfold m88_8
    refine valP_ok (ix23 hil _) ?_
    refine valP_ok (ld3 (hR.cell_ (by rw [List.getElem?_map, List.getElem?_eq_getElem hil]; rfl))) ?_
    unfold m88_10
    refine callR (by kernel_rfl) (put_ret hxi hS) ?_
    rintro _ w ⟨rfl, hS⟩
    have hB : Bd w0 F L b3 (allS (l.take i)) w := ⟨p, A2, c2, hp, hS⟩
    refine callR (by kernel_rfl) (write_ret (by unfold allS; omega) hB) ?_
    intro _ w hB
    unfold m88_9
    refine valP_ok (add_ok _ _ _ (by omega) (by omega) _) ?_
    exact ⟨⟨i + 1, rfl, by omega, by rw [hnx]; exact hB⟩, by simp [intOf]; omega⟩
  · obtain rfl : i = l.length := by omega
    rw [List.take_length] at hB
    unfold m88_3
    refine callR (by kernel_rfl) (bstring_ret (all_pos h0 hx) hB) ?_
    rintro _ w ⟨rfl, hS⟩
    unfold m88_4
    exact ⟨rfl, hS⟩
end
def InM (n : Int) : Prop := 0 ≤ n ∧ n ≤ 1099511627776
def MayR (r : Rc) : Prop := 0 ≤ r.key ∧ r.key ≤ 1048576 ∧ InM r.time ∧ r.text.size ≤ 512
instance (n : Int) : Decidable (InM n) := by unfold InM; infer_instance
instance (r : Rc) : Decidable (MayR r) := by unfold MayR; infer_instance
def recS (r : Rc) : ByteArray := putS r.key ++ putS r.time ++ putTextS r.text
theorem all2 (a b : Int) : allS [a, b] = putS a ++ putS b := by
  refine bytesN_inj ?_
  simp only [allS, List.foldl_cons, List.foldl_nil, bytesN_append]
  rfl
section
variable {w0 w : World} {F : List Nat} {L : List Res} {r : Rc}
theorem in_ret {n : Int} (hS : St w0 F w L) : Ret Tryz.prog 75 #[.int .i64 n] w fun v w' => v = .bool (decide (InM n)) ∧ St w0 F w' L := by
  refine s75 _ ?_
  unfold m75
  unfold m75_0
  unfold m75_1
  refine valP_ok (geq_ok _ _ _ _ _ _ _) ?_
  refine cond_split (fun h => ?_) (fun h => ?_)
  · refine valP_ok (leq_ok _ _ _ _ _ _ _) ?_
    refine pick_dt (by first | assumption | omega) ?_
    unfold m75_2
    exact ⟨congrArg Value.bool (decide_eq_decide.2 (by unfold InM; omega)), hS⟩
  · refine pick_df (by first | assumption | omega) ?_
    unfold m75_2
    exact ⟨congrArg Value.bool (decide_eq_false (by unfold InM; omega)).symm, hS⟩
theorem within1_ret {n : Int} (hS : St w0 F w L) : Ret Tryz.prog 138 #[.int .i64 n] w fun v w' => v = .bool (decide (¬ InM n)) ∧ St w0 F w' L := by
  refine s138 _ ?_
  unfold m138
  unfold m138_0
  unfold m138_1
  refine valP_ok (lss_ok _ _ _ _ _ _ _) ?_
  refine cond_split (fun h => ?_) (fun h => ?_)
  · refine pick_dt (by first | assumption | omega) ?_
    unfold m138_2
    exact ⟨congrArg Value.bool (decide_eq_true (by unfold InM; omega)).symm, hS⟩
  · refine valP_ok (gtr_ok _ _ _ _ _ _ _) ?_
    refine pick_df (by first | assumption | omega) ?_
    unfold m138_2
    exact ⟨congrArg Value.bool (decide_eq_decide.2 (by unfold InM; omega)), hS⟩
theorem index_ret {l : List Int} {A : Option Addr} {c : Nat} (hm : l.length ≤ 1000) (hE : Bes w0 F L 1 A l.length (l.map (Value.int .i64))) (hS : St w0 F w L) : Ret Tryz.prog 144 #[.slice A l.length c, fnV 138] w fun v w' => (∃ k : Int, v = .int .i64 k ∧ (0 ≤ k ↔ ∃ x ∈ l, ¬ InM x)) ∧ St w0 F w' L := by
  refine s144 _ _ ?_
  unfold m144
  unfold m144_0
  unfold m144_1
  refine builtin_ok (len23 _) ?_
  unfold m144_4
  refine loop_in (fun u w' => ∃ i : Nat, u = .int .i64 (i : Int) ∧ i ≤ l.length ∧ (∀ j (hj : j < l.length), j < i → InM l[j]) ∧ St w0 F w' L) (fun u _ => l.length - (intOf u).toNat) ⟨0, rfl, by omega, fun j _ h => by omega, hS⟩ ?_
  clear hS
  rintro u w ⟨i, rfl, hi, hno, hS⟩
  unfold m144_5
  refine valP_ok (lss_ok _ _ _ _ _ _ _) ?_
  unfold m144_6
  refine cond_split (fun h => ?_) (fun h => ?_)
  · have hil : i < l.length := by omega
    have hR := hE.rd hS
    obtain ⟨gb, o, rfl⟩ := hR.some_ (by omega) (by omega)
    unfold m144_7 m144_9
    refine valP_ok (ix23 hil _) ?_
    refine valP_ok (ld3 (hR.cell_ (by rw [List.getElem?_map, List.getElem?_eq_getElem hil]; rfl))) ?_
    refine callR (by kernel_rfl) (within1_ret hS) ?_
    rintro _ w ⟨rfl, hS⟩
    unfold m144_10
    refine cond_split (fun h1 => ?_) (fun h1 => ?_)
    · unfold m144_11
      exact ⟨⟨_, rfl, ⟨fun _ => ⟨_, List.getElem_mem hil, h1⟩, fun _ => by omega⟩⟩, hS⟩
    · unfold m144_8
      refine valP_ok (add_ok _ _ _ (by omega) (by omega) _) ?_
      refine ⟨⟨i + 1, rfl, by omega, fun j hj h3 => ?_, hS⟩, by simp [intOf]; omega⟩
      rcases Nat.lt_or_ge j i with g | g
      · exact hno j hj g
      · obtain rfl : j = i := by omega
        exact Classical.not_not.1 h1
  · unfold m144_2 m144_3
    refine ⟨⟨_, rfl, ⟨fun h1 => by omega, fun ⟨x, hx, h1⟩ => ?_⟩⟩, hS⟩
    obtain ⟨j, hj, rfl⟩ := List.mem_iff_getElem.1 hx
    exact absurd (hno j hj (by omega)) h1
theorem within_ret {l : List Int} {A : Option Addr} {c : Nat} (hm : l.length ≤ 1000) (hE : Bes w0 F L 1 A l.length (l.map (Value.int .i64))) (hS : St w0 F w L) : Ret Tryz.prog 125 #[.slice A l.length c] w fun v w' => (∃ t : Bool, v = .bool t ∧ (t = true ↔ ∀ x ∈ l, InM x)) ∧ St w0 F w' L := by
  have h91 : Ret Tryz.prog 137 #[.slice A l.length c, fnV 138] w fun v w' => (∃ t : Bool, v = .bool t ∧ (t = true ↔ ∃ x ∈ l, ¬ InM x)) ∧ St w0 F w' L := by
    refine s137 _ _ ?_
    unfold m137 m137_0 m137_1
    refine callR (by kernel_rfl) (index_ret hm hE hS) ?_
    rintro _ w ⟨⟨k, rfl, hk⟩, hS⟩
    refine valP_ok (geq_ok _ _ _ _ _ _ _) ?_
    unfold m137_2
    exact ⟨⟨_, rfl, by rw [decide_eq_true_eq]; exact hk⟩, hS⟩
  refine s125 _ ?_
  unfold m125 m125_0 m125_1
  refine callR (by kernel_rfl) h91 ?_
  rintro _ w ⟨⟨t, rfl, ht⟩, hS⟩
  refine valP_ok (notb_ok _ _) ?_
  unfold m125_2
  refine ⟨⟨_, rfl, ?_⟩, hS⟩
  cases t with
  | true =>
    obtain ⟨x, hx, h⟩ := ht.1 rfl
    exact ⟨fun h => (by cases h), fun h1 => absurd (h1 x hx) h⟩
  | false => exact ⟨fun _ x hx => Classical.byContradiction fun h => (by have := ht.2 ⟨x, hx, h⟩; cases this), fun _ => rfl⟩
theorem may_ret (hS : St w0 F w L) : Ret Tryz.prog 103 #[rv r] w fun v w' => (∃ t : Bool, v = .bool t ∧ (t = true ↔ MayR r)) ∧ St w0 F w' L := by
  refine s103 _ ?_
  unfold m103
  unfold m103_0
  refine new_ok (bx56 _ _ _ _) hS ?_
  intro b1 w hS
  unfold m103_1
  refine valP_ok (fa56_0 _ _) ?_
  refine valP_ok (ld3 (hS.cell 0 rfl rfl)) ?_
  refine valP_ok (fa56_1 _ _) ?_
  refine valP_ok (ld3 (hS.cell 0 rfl rfl)) ?_
  refine newslice_ok (bs23_2 rfl rfl _) hS ?_
  intro b7 w hS
  refine callR (by kernel_rfl) (within_ret (l := [r.key, r.time]) (by simp) (Bes.of_cells 0 rfl rfl) hS) ?_
  rintro _ w ⟨⟨t, rfl, ht⟩, hS⟩
  simp only [List.mem_cons, List.not_mem_nil, or_false, forall_eq_or_imp, forall_eq] at ht
  have leaf : ∀ t : Bool, (t = true ↔ MayR r) → m103_2 (fun v w' => (∃ t : Bool, v = .bool t ∧ (t = true ↔ MayR r)) ∧ St w0 F w' L) (.bool t) w := fun t ht => by
    unfold m103_2
    exact ⟨⟨_, rfl, ht⟩, hS.tail.tail⟩
  cases t with
  | true =>
    have h := ht.1 rfl
    unfold InM at h
    refine cond_t rfl ?_
    refine valP_ok (fa56_0 _ _) ?_
    refine valP_ok (ld3 (hS.cell 1 rfl rfl)) ?_
    refine valP_ok (leq_ok _ _ _ _ _ _ _) ?_
    refine pick_t (by first | rfl | assumption) ?_
    refine cond_split (fun h1 => ?_) (fun h1 => ?_)
    · refine valP_ok (fa56_2 _ _) ?_
      refine valP_ok (ld9 (hS.cell 1 rfl rfl)) ?_
      refine builtin_ok (len9 _) ?_
      refine valP_ok (leq_ok _ _ _ _ _ _ _) ?_
      refine pick_dt (by first | assumption | omega) ?_
      exact leaf _ (by rw [decide_eq_true_eq]; unfold MayR InM; omega)
    · refine pick_df (by first | assumption | omega) ?_
      exact leaf _ (by unfold MayR InM; exact ⟨fun h => (by cases h), fun h => by omega⟩)
  | false =>
    have h : ¬ (InM r.key ∧ InM r.time) := fun h => by have := ht.2 h; cases this
    unfold InM at h
    refine cond_f rfl ?_
    refine pick_f (by first | rfl | assumption) ?_
    refine cond_f rfl ?_
    refine pick_f (by first | rfl | assumption) ?_
    exact leaf _ (by unfold MayR InM; exact ⟨fun h => (by cases h), fun h => by omega⟩)
theorem mayrec_ret (hS : St w0 F w L) : Ret Tryz.prog 35 #[rv r] w fun v w' => (∃ t : Bool, v = .bool t ∧ (t = true ↔ MayR r)) ∧ St w0 F w' L := by
  refine s35 _ ?_
  unfold m35
  unfold m35_0
  refine new_ok (bx56 _ _ _ _) hS ?_
  intro b1 w hS
  have leaf : ∀ t : Bool, (t = true ↔ MayR r) → ∀ w, St w0 F w (Res.cells b1 56 (encR r) :: L) → m35_2 (fun v w' => (∃ t : Bool, v = .bool t ∧ (t = true ↔ MayR r)) ∧ St w0 F w' L) (.bool t) w := fun t ht w hS => by
    unfold m35_2
    exact ⟨⟨_, rfl, ht⟩, hS.tail⟩
  have bad : ¬ MayR r → (false = true ↔ MayR r) := fun h => ⟨fun h2 => (nomatch h2), fun h1 => absurd h1 h⟩
  unfold m35_1
  refine valP_ok (fa56_0 _ _) ?_
  refine valP_ok (ld3 (hS.cell 0 rfl rfl)) ?_
  refine valP_ok (geq_ok _ _ _ _ _ _ _) ?_
  refine cond_split (fun h1 => ?_) (fun h1 => ?_)
  · refine valP_ok (fa56_0 _ _) ?_
    refine valP_ok (ld3 (hS.cell 0 rfl rfl)) ?_
    refine valP_ok (leq_ok _ _ _ _ _ _ _) ?_
    refine pick_dt (by first | assumption | omega) ?_
    refine cond_split (fun h2 => ?_) (fun h2 => ?_)
    · refine valP_ok (fa56_1 _ _) ?_
      refine valP_ok (ld3 (hS.cell 0 rfl rfl)) ?_
      refine callR (by kernel_rfl) (in_ret hS) ?_
      rintro _ w ⟨rfl, hS⟩
      refine pick_dt (by first | assumption | omega) ?_
      refine cond_split (fun h3 => ?_) (fun h3 => ?_)
      · refine valP_ok (fa56_2 _ _) ?_
        refine valP_ok (ld9 (hS.cell 0 rfl rfl)) ?_
        refine builtin_ok (len9 _) ?_
        refine valP_ok (leq_ok _ _ _ _ _ _ _) ?_
        refine pick_dt (by first | assumption | omega) ?_
        exact leaf _ (by rw [decide_eq_true_eq]; unfold MayR; exact ⟨fun h => ⟨h1, h2, h3, by omega⟩, fun h => by have := h.2.2.2; omega⟩) _ hS
      · refine pick_df (by first | assumption | omega) ?_
        exact leaf _ (bad fun h => h3 h.2.2.1) _ hS
    · refine pick_df (by first | assumption | omega) ?_
      refine cond_f rfl ?_
      refine pick_f (by first | rfl | assumption) ?_
      exact leaf _ (bad fun h => h2 h.2.1) _ hS
  · refine pick_df (by first | assumption | omega) ?_
    refine cond_f rfl ?_
    refine pick_f (by first | rfl | assumption) ?_
    refine cond_f rfl ?_
    refine pick_f (by first | rfl | assumption) ?_
    exact leaf _ (bad fun h => h1 h.1) _ hS
theorem putrec_ret (hk : -9223372036854775808 ≤ r.key ∧ r.key ≤ 9223372036854775807) (ht : -9223372036854775808 ≤ r.time ∧ r.time ≤ 9223372036854775807) (hs : r.text.size ≤ 1000) (hS : St w0 F w L) : Ret Tryz.prog 60 #[rv r] w fun v w' => v = .string (recS r) ∧ St w0 F w' L := by
  have z1 := putS_size hk
  have z2 := putS_size ht
  have z3 := putS_size (n := (r.text.size : Int)) (by omega)
  refine s60 _ ?_
  unfold m60
  unfold m60_0
  refine new_ok (bx56 _ _ _ _) hS ?_
  intro b1 w hS
  unfold m60_1
  refine drawn_ok hS ?_
  intro w hS
  refine held_Hs hS ?_
  refine valJ_ok (fa56_0 _) ?_
  refine valJ_load ld3 (Hs.cell 0 rfl rfl) ?_
  refine valJ_ok (fa56_1 _) ?_
  refine valJ_load ld3 (Hs.cell 0 rfl rfl) ?_
  refine valJ_ok (fa56_2 _) ?_
  refine valJ_load ld9 (Hs.cell 0 rfl rfl) ?_
  refine newslice_ok (bs23_2 rfl rfl _) hS ?_
  intro b7 w hS
  refine stay_Hs hS (by first | exact fun _ h => h | exact fun _ h => .tail _ h | exact fun _ h => .tail _ (.tail _ h) | simp) ?_
  refine callR (by kernel_rfl) (putall_ret (l := [r.key, r.time]) (by simp) (by simp) (by simp only [List.mem_cons, List.not_mem_nil, or_false, forall_eq_or_imp, forall_eq]; exact ⟨hk, ht⟩) (Bes.of_cells 0 rfl rfl) hS) ?_
  rintro _ w ⟨rfl, hS⟩
  refine stay_Hs hS (by first | exact fun _ h => h | exact fun _ h => .tail _ h | exact fun _ h => .tail _ (.tail _ h) | simp) ?_
  refine callR (by kernel_rfl) (puttext_ret (by omega) hS) ?_
  rintro _ w ⟨rfl, hS⟩
  refine stay_Hs hS (by first | exact fun _ h => h | exact fun _ h => .tail _ h | exact fun _ h => .tail _ (.tail _ h) | simp) ?_
  rw [all2]
  refine valJ_ok (sadd _ _ (by unfold putTextS; simp only [ByteArray.size_append]; omega)) ?_
  unfold m60_2
  exact ⟨rfl, hS.tail.tail⟩
theorem rec_ret (hk : -9223372036854775808 ≤ r.key ∧ r.key ≤ 9223372036854775807) (ht : -9223372036854775808 ≤ r.time ∧ r.time ≤ 9223372036854775807) (hs : r.text.size ≤ 1000) (hS : St w0 F w L) : Ret Tryz.prog 78 #[rv r] w fun v w' => v = .string (recS r) ∧ St w0 F w' L := by
  have z1 := putS_size hk
  have z2 := putS_size ht
  have z3 := putS_size (n := (r.text.size : Int)) (by omega)
  refine s78 _ ?_
  unfold m78
  unfold m78_0
  refine new_ok (bx56 _ _ _ _) hS ?_
  intro b1 w hS
  unfold m78_1
  refine drawn_ok hS ?_
  intro w hS
  refine held_Hs hS ?_
  refine valJ_ok (fa56_0 _) ?_
  refine valJ_load ld3 (Hs.cell 0 rfl rfl) ?_
  refine valJ_ok (fa56_1 _) ?_
  refine valJ_load ld3 (Hs.cell 0 rfl rfl) ?_
  refine valJ_ok (fa56_2 _) ?_
  refine valJ_load ld9 (Hs.cell 0 rfl rfl) ?_
  refine callR (by kernel_rfl) (rput_ret hk hS) ?_
  rintro _ w ⟨rfl, hS⟩
  refine stay_Hs hS (by first | exact fun _ h => h | exact fun _ h => .tail _ h | exact fun _ h => .tail _ (.tail _ h) | simp) ?_
  refine callR (by kernel_rfl) (rput_ret ht hS) ?_
  rintro _ w ⟨rfl, hS⟩
  refine stay_Hs hS (by first | exact fun _ h => h | exact fun _ h => .tail _ h | exact fun _ h => .tail _ (.tail _ h) | simp) ?_
  refine valJ_ok (sadd _ _ (by omega)) ?_
  refine callR (by kernel_rfl) (rtextp_ret (by omega) hS) ?_
  rintro _ w ⟨rfl, hS⟩
  refine stay_Hs hS (by first | exact fun _ h => h | exact fun _ h => .tail _ h | exact fun _ h => .tail _ (.tail _ h) | simp) ?_
  refine valJ_ok (sadd _ _ (by unfold putTextS; simp only [ByteArray.size_append]; omega)) ?_
  unfold m78_2
  exact ⟨rfl, hS.tail⟩
end
end Go.Proofs.YtcldjjmfpmkldaaGreatDoor.M
