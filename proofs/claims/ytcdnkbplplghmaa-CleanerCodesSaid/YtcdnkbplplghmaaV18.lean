/- Seal, Unseal, and the document's. -/
import Derived.Test.YtcdnkbplplghmaaV17
import Derived.Test.YtcdnkbplplghmaaFwW
import Derived.Test.YtcdnkbplplghmaaMcrc0
namespace Go.Proofs.Ytcdnkbplplghmaa.M
open Go.Proofs.Ytcdnkbplplghmaa.F Go.RowKit
set_option linter.unusedVariables false
set_option linter.unusedSimpArgs false
set_option maxRecDepth 100000
set_option maxHeartbeats 2000000
attribute [local irreducible] Res.cells Res.row Res.map Res.any World.cell? World.frozen? Instr.fieldAt Instr.loadAt Instr.storeAt Instr.indexAt Instr.lookup Instr.mapUpdate Instr.box Instr.build Instr.buildSlice Instr.extract Instr.alloc Instr.field Instr.index Instr.sliceAt Instr.makeSlice Instr.makeMap Instr.makeFunc binS Op.unary Sem.run
theorem append_cancel {a b c : ByteArray} : a ++ b = a ++ c ↔ b = c := by
  constructor
  · intro h
    have h1 := congrArg bytesN h
    rw [bytesN_append, bytesN_append] at h1
    exact bytesN_inj (List.append_cancel_left h1)
  · rintro rfl; rfl
theorem take_drop {s : ByteArray} (k : Nat) : s.extract 0 k ++ s.extract k s.size = s := bytesN_inj (by rw [bytesN_append, bytesN_take, bytesN_drop, List.take_append_drop])
def unsealS (s : ByteArray) : Option ByteArray := if 4 ≤ s.size ∧ sealS (s.extract 0 (s.size - 4)) = s then some (s.extract 0 (s.size - 4)) else none
def unV (s : ByteArray) : Value := match unsealS s with
  | some t => .tuple #[.string t, .int .i64 0]
  | none => .tuple #[.string ⟨#[]⟩, .int .i64 2]
theorem extract_size (s : ByteArray) (k : Nat) (h : k ≤ s.size) : (s.extract 0 k).size = k := by
  rw [← bytesN_length, bytesN_take, List.length_take, bytesN_length]
  omega
theorem unseal_seal (s : ByteArray) : unsealS (sealS s) = some s := by
  have hz := sealS_size s
  have e : (sealS s).extract 0 ((sealS s).size - 4) = s := by
    refine bytesN_inj ?_
    rw [bytesN_take, hz]
    unfold sealS
    rw [bytesN_append, show s.size + 4 - 4 = (bytesN s).length by rw [bytesN_length]; omega, List.take_left]
  unfold unsealS
  rw [e, if_pos ⟨by omega, rfl⟩]
theorem unseal_some {s t : ByteArray} (h : unsealS s = some t) : s = sealS t ∧ t.size + 4 = s.size := by
  unfold unsealS at h
  split at h
  · rename_i h1
    obtain rfl := Option.some.inj h
    refine ⟨h1.2.symm, ?_⟩
    rw [extract_size _ _ (by omega)]
    omega
  · cases h
theorem four_take (c k : Nat) (h : k < 4) : (four c).take (k + 1) = (four c).take k ++ [c / 256 ^ k % 256] := by
  rcases k with _ | _ | _ | _ | k
  · simp [four]
  · simp [four]
  · simp [four]
  · simp [four]
  · omega
section
variable {w0 w : World} {F : List Nat} {L : List Res} {s : ByteArray}
theorem seal_ret (hs : s.size + 4 ≤ maxLen) (hS : St w0 F w L) : Ret Try.prog 34 #[.string s] w fun v w' => v = .string (sealS s) ∧ St w0 F w' L := by
  have hs' : s.size + 4 ≤ 9223372036854775807 := hs
  refine s34 _ ?_
  unfold m34 m34_0 m34_1
  refine callR (by kernel_rfl) (csum_ret (by omega) hS) ?_
  rintro _ w ⟨rfl, hS⟩
  have hf : sealS s = s ++ strN (four (sumN s)) := rfl
  have hlt := four_lt (sumN s)
  have hz : (strN (four (sumN s))).size = 4 := strN_size _ hlt
  have hc := sumN_lt s
  unfold m34_2
  have e4 : four (sumN s) = [sumN s % 256, sumN s / 256 % 256, sumN s / 65536 % 256, sumN s / 16777216 % 256] := rfl
  generalize sumN s = c at *
  refine valP_ok (cv113_8 _ _) ?_
  refine valP_ok (shr113_8 _ _ _ _) ?_
  refine valP_ok (cv113_8 _ _) ?_
  refine valP_ok (shr113_16 _ _ _ _) ?_
  refine valP_ok (cv113_8 _ _) ?_
  refine valP_ok (shr113_24 _ _ _ _) ?_
  refine valP_ok (cv113_8 _ _) ?_
  rw [IntKind.wrap_u8, IntKind.wrap_u8, IntKind.wrap_u8, IntKind.wrap_u8, show (c : Int) % 256 = ((c % 256 : Nat) : Int) by omega, show (c : Int) / 256 % 256 = ((c / 256 % 256 : Nat) : Int) by omega, show (c : Int) / 65536 % 256 = ((c / 65536 % 256 : Nat) : Int) by omega, show (c : Int) / 16777216 % 256 = ((c / 16777216 % 256 : Nat) : Int) by omega]
  refine newslice_ok (bs71_4 rfl rfl rfl rfl _) hS ?_
  intro b18 w hS
  refine valP_ok (strOf_run (l := four c) rfl (fun i hi => hS.cell 0 rfl (by have := e8_get (rest := []) hi; rw [List.append_nil] at this; exact this))) ?_
  refine valP_ok (sadd _ _ (by omega) _) ?_
  unfold m34_3
  exact ⟨by rw [hf], hS.tail⟩
theorem unseal_ret (hs : s.size ≤ maxLen) (hS : St w0 F w L) : Ret Try.prog 39 #[.string s] w fun v w' => v = unV s ∧ St w0 F w' L := by
  have hs' : s.size ≤ 9223372036854775807 := hs
  refine s39 _ ?_
  unfold m39
  unfold m39_0
  unfold m39_1
  refine builtin_ok (len9 _) ?_
  refine valP_ok (sub_ok _ _ _ (by omega) (by omega) _) ?_
  have leaf : ∀ t : Bool, (t = true ↔ (4 ≤ s.size ∧ sealS (s.extract 0 (s.size - 4)) = s)) → ∀ w, St w0 F w L → m39_5 (fun v w' => v = unV s ∧ St w0 F w' L) (.string s) (.int .i64 ((s.size : Int) - 4)) (.bool t) w := fun t ht w hS => by
    unfold m39_5 unV unsealS
    cases t with
    | true =>
      have h := ht.1 rfl
      refine cond_t rfl ?_
      rw [if_pos h, show (s.size : Int) - 4 = ((s.size - 4 : Nat) : Int) by omega]
      refine valP_ok (sto _ (by omega)) ?_
      unfold m39_6
      exact ⟨rfl, hS⟩
    | false =>
      have h : ¬ (4 ≤ s.size ∧ sealS (s.extract 0 (s.size - 4)) = s) := fun h => by have := ht.2 h; cases this
      refine cond_f rfl ?_
      rw [if_neg h]
      unfold m39_2 m39_3
      exact ⟨rfl, hS⟩
  unfold m39_4
  refine valP_ok (geq_ok _ _ _ _ _ _ _) ?_
  refine cond_split (fun h => ?_) (fun h => ?_)
  · rw [show (s.size : Int) - 4 = ((s.size - 4 : Nat) : Int) by omega]
    refine valP_ok (sto _ (by omega)) ?_
    refine callR (by kernel_rfl) (seal_ret (by rw [extract_size _ _ (by omega)]; omega) hS) ?_
    rintro _ w ⟨rfl, hS⟩
    refine valP_ok (eq9 _ _ _ _ _) ?_
    first | refine pick_dt (by first | assumption | omega) ?_ | refine pick_df (by first | assumption | omega) ?_ | refine pick_t (by first | rfl | assumption) ?_ | refine pick_f (by first | rfl | assumption) ?_ | refine pick_dt rfl ?_ | refine pick_df (not_not_intro rfl) ?_
    rw [show ((s.size - 4 : Nat) : Int) = (s.size : Int) - 4 by omega]
    refine leaf _ ?_ _ hS
    rw [decide_eq_true_eq]
    exact ⟨fun h1 => ⟨by omega, h1⟩, fun h1 => h1.2⟩
  · first | refine pick_dt (by first | assumption | omega) ?_ | refine pick_df (by first | assumption | omega) ?_ | refine pick_t (by first | rfl | assumption) ?_ | refine pick_f (by first | rfl | assumption) ?_ | refine pick_dt rfl ?_ | refine pick_df (not_not_intro rfl) ?_
    exact leaf _ ⟨fun h1 => (by cases h1), fun h1 => by have := h1.1; omega⟩ _ hS
theorem rbytes_ret {c : Nat} (hc : c < 2 ^ 32) (hS : St w0 F w L) : Ret Try.prog 63 #[.int .u32 (c : Int)] w fun v w' => v = .string (strN (four c)) ∧ St w0 F w' L := by
  refine s63 _ ?_
  unfold m63 m63_0 m63_1 m63_2 m63_5
  refine loop_in (fun u w' => ∃ (k : Nat) (A : Option Addr) (c' : Nat), u = (.int .u32 ((c / 256 ^ k : Nat) : Int), .slice A ((four c).take k).length c', .int .i64 (k : Int)) ∧ k ≤ 4 ∧ St w0 F w' (r8 A c' ((four c).take k) :: L)) (fun u _ => 4 - (intOf u.2.2).toNat) ⟨0, none, 0, by simp, by omega, hS.row_nil 5 1⟩ ?_
  clear hS
  rintro u w ⟨k, A, c', rfl, hk, hS⟩
  simp only
  have h4 : (four c).length = 4 := rfl
  have hlen : ((four c).take k).length = k := by rw [List.length_take]; omega
  unfold m63_6
  refine valP_ok (lss_ok _ _ _ _ _ _ _) ?_
  unfold m63_10
  refine cond_split (fun h => ?_) (fun h => ?_)
  · have hst := four_take c k (by omega)
    have hq : c / 256 ^ k < 2 ^ 32 := Nat.lt_of_le_of_lt (Nat.div_le_self _ _) hc
    have hq2 : c / 256 ^ k / 256 = c / 256 ^ (k + 1) := by rw [Nat.div_div_eq_div_mul, Nat.pow_succ]
    generalize hqe : c / 256 ^ k = q at *
    unfold m63_7
    refine valP_ok (rem113 _ _ _ q 256 (by omega) hq) ?_
    refine valP_ok (cv113_8 _ _) ?_
    rw [IntKind.wrap_u8, show ((q % 256 : Nat) : Int) % 256 = ((q % 256 : Nat) : Int) by omega]
    refine newslice_ok (bs71_1 rfl _) hS ?_
    intro b13 w hS
    refine append_one1 (enc := fun (c : Nat) => [.int .u8 (c : Int)]) 0 (q % 256) sl71 (fun _ => rfl) (fun _ v hv => by obtain rfl := List.mem_singleton.1 hv; rfl) (by unfold maxLen; omega) (by omega) hS rfl ?_
    intro A' c2 w' hS
    simp only [List.set_cons_zero] at hS
    unfold m63_9
    refine valP_ok (quo113 _ _ _ q 256 (by omega) hq) ?_
    rw [← hst] at hS ⊢
    rw [hq2]
    unfold m63_8
    refine valP_ok (add_ok _ _ _ (by omega) (by omega) _) ?_
    exact ⟨⟨k + 1, A', c2, rfl, by omega, hS⟩, by simp [intOf]; omega⟩
  · obtain rfl : k = 4 := by omega
    rw [List.take_of_length_le (by omega)] at hS ⊢
    unfold m63_3
    obtain ⟨g, rfl⟩ := hS.row_ptr 0 rfl (by omega)
    refine valP_ok (strOf_run (l := four c) rfl (fun i hi => hS.row_cell 0 rfl (by have := e8_get (rest := []) hi; rw [List.append_nil] at this; rw [flat8]; exact this))) ?_
    unfold m63_4
    exact ⟨rfl, hS.tail⟩
theorem rseal_ret (hs : s.size + 4 ≤ maxLen) (hS : St w0 F w L) : Ret Try.prog 38 #[.string s] w fun v w' => v = .string (sealS s) ∧ St w0 F w' L := by
  have hs' : s.size + 4 ≤ 9223372036854775807 := hs
  refine s38 _ ?_
  unfold m38 m38_0 m38_1
  refine callR (by kernel_rfl) (rsum_ret (by omega) hS) ?_
  rintro _ w ⟨rfl, hS⟩
  refine callR (by kernel_rfl) (rbytes_ret (sumN_lt s) hS) ?_
  rintro _ w ⟨rfl, hS⟩
  have hz : (strN (four (sumN s))).size = 4 := strN_size _ (four_lt _)
  refine valP_ok (sadd _ _ (by omega) _) ?_
  unfold m38_2
  exact ⟨rfl, hS⟩
theorem runseal_ret (hs : s.size ≤ maxLen) (hS : St w0 F w L) : Ret Try.prog 42 #[.string s] w fun v w' => v = unV s ∧ St w0 F w' L := by
  have hs' : s.size ≤ 9223372036854775807 := hs
  refine s42 _ ?_
  unfold m42
  unfold m42_0
  unfold m42_1
  refine builtin_ok (len9 _) ?_
  refine valP_ok (sub_ok _ _ _ (by omega) (by omega) _) ?_
  have leaf : ∀ t : Bool, (t = true ↔ ¬ (4 ≤ s.size ∧ sealS (s.extract 0 (s.size - 4)) = s)) → ∀ w, St w0 F w L → m42_5 (fun v w' => v = unV s ∧ St w0 F w' L) (.string s) (.int .i64 ((s.size : Int) - 4)) (.bool t) w := fun t ht w hS => by
    unfold m42_5 unV unsealS
    cases t with
    | true =>
      have h := ht.1 rfl
      refine cond_t rfl ?_
      rw [if_neg h]
      unfold m42_6
      exact ⟨rfl, hS⟩
    | false =>
      have h : (4 ≤ s.size ∧ sealS (s.extract 0 (s.size - 4)) = s) := Classical.byContradiction fun h => by have := ht.2 h; cases this
      refine cond_f rfl ?_
      rw [if_pos h]
      unfold m42_3
      rw [show (s.size : Int) - 4 = ((s.size - 4 : Nat) : Int) by omega]
      refine valP_ok (sto _ (by omega)) ?_
      unfold m42_4
      exact ⟨rfl, hS⟩
  unfold m42_2
  refine drawn_ok hS ?_
  intro w hS
  refine pureP_ok (lss_ok _ _ _ _ _ _) ?_
  refine cond_split (fun h => ?_) (fun h => ?_)
  · first | refine pick_dt (by first | assumption | omega) ?_ | refine pick_df (by first | assumption | omega) ?_ | refine pick_t (by first | rfl | assumption) ?_ | refine pick_f (by first | rfl | assumption) ?_ | refine pick_dt rfl ?_ | refine pick_df (not_not_intro rfl) ?_
    exact leaf _ ⟨fun _ h1 => by have := h1.1; omega, fun _ => rfl⟩ _ hS
  · rw [show (s.size : Int) - 4 = ((s.size - 4 : Nat) : Int) by omega]
    refine pureP_ok (fun w => sto w (by omega)) ?_
    refine pureP_ok (fun w => sfrom w (by omega)) ?_
    refine callR (by kernel_rfl) (rsum_ret (by rw [extract_size _ _ (by omega)]; unfold maxLen; omega) hS) ?_
    rintro _ w ⟨rfl, hS⟩
    refine callR (by kernel_rfl) (rbytes_ret (sumN_lt _) hS) ?_
    rintro _ w ⟨rfl, hS⟩
    refine pureP_ok (ne9 _ _ _ _) ?_
    first | refine pick_dt (by first | assumption | omega) ?_ | refine pick_df (by first | assumption | omega) ?_ | refine pick_t (by first | rfl | assumption) ?_ | refine pick_f (by first | rfl | assumption) ?_ | refine pick_dt rfl ?_ | refine pick_df (not_not_intro rfl) ?_
    rw [show ((s.size - 4 : Nat) : Int) = (s.size : Int) - 4 by omega]
    refine leaf _ ?_ _ hS
    have e : sealS (s.extract 0 (s.size - 4)) = s ↔ strN (four (sumN (s.extract 0 (s.size - 4)))) = s.extract (s.size - 4) s.size := by
      have := take_drop (s := s) (s.size - 4)
      unfold sealS
      generalize s.extract 0 (s.size - 4) = a at *
      generalize s.extract (s.size - 4) s.size = b at *
      subst this
      exact append_cancel
    rw [decide_eq_true_eq, e]
    exact ⟨fun h1 h2 => h1 h2.2, fun h1 h2 => h1 ⟨by omega, h2⟩⟩
end

end Go.Proofs.Ytcdnkbplplghmaa.M
