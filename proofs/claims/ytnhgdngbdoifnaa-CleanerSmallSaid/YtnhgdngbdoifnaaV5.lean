/- The document's Take. -/
import Derived.Test.YtnhgdngbdoifnaaV4
import Derived.Test.YtnhgdngbdoifnaaMbase0
namespace Go.Proofs.Ytnhgdngbdoifnaa.M
open Go.Proofs.Ytnhgdngbdoifnaa.F Go.RowKit
set_option linter.unusedVariables false
set_option linter.unusedSimpArgs false
set_option maxRecDepth 100000
set_option maxHeartbeats 2000000
attribute [local irreducible] Res.cells Res.row Res.map Res.any World.cell? World.frozen? Instr.fieldAt Instr.loadAt Instr.storeAt Instr.indexAt Instr.lookup Instr.mapUpdate Instr.box Instr.build Instr.buildSlice Instr.extract Instr.alloc Instr.field Instr.index Instr.sliceAt Instr.makeSlice Instr.makeMap Instr.makeFunc binS Op.unary Sem.run
def hn : List Nat → Nat
  | [] => 0
  | b :: t => (hn t * 128 + b % 128) % 2 ^ 64
theorem hn_lt : ∀ l, hn l < 2 ^ 64
  | [] => by decide
  | b :: t => by unfold hn; exact Nat.mod_lt _ (by decide)
theorem hn_leb (u : Nat) : u < 2 ^ 64 → hn (lebN u) = u := by
  induction u using Nat.strongRecOn with
  | _ u ih =>
    intro hu
    by_cases h : u < 128
    · rw [lebN_lo h]; simp only [hn]; omega
    · rw [lebN_hi h]; simp only [hn]; rw [ih (u / 128) (by omega) (by omega)]; omega
theorem leb_more (u : Nat) : ∀ t, t + 1 < (lebN u).length → 128 ≤ (lebN u).getD t 0 := by
  induction u using Nat.strongRecOn with
  | _ u ih =>
    intro t ht
    by_cases h : u < 128
    · rw [lebN_lo h] at ht; simp at ht
    · rw [lebN_hi h] at ht ⊢
      rw [List.length_cons] at ht
      cases t with
      | zero => simp
      | succ t => simpa using ih (u / 128) (by omega) t (by omega)
theorem leb_last (u : Nat) : (lebN u).getD ((lebN u).length - 1) 0 < 128 := by
  induction u using Nat.strongRecOn with
  | _ u ih =>
    by_cases h : u < 128
    · rw [lebN_lo h]; simpa using h
    · rw [lebN_hi h]
      have h1 := ih (u / 128) (by omega)
      have h2 := lebN_pos (u / 128)
      rw [List.length_cons, show (lebN (u / 128)).length + 1 - 1 = ((lebN (u / 128)).length - 1) + 1 by omega]
      simpa using h1
theorem drop_at (l : List Nat) (i : Nat) (h : i < l.length) : l.drop i = l.getD i 0 :: l.drop (i + 1) := by
  rw [List.drop_eq_getElem_cons h]
  simp only [List.getD]; rw [List.getElem?_eq_getElem h]; rfl
theorem takeL_shape {s : ByteArray} {n : Int} {rest : List Nat} (h : takeL (bytesN s) = some (n, rest)) {j : Nat} (h3 : ∀ t, t < j → 127 < (bytesN s).getD t 0)
    (h4 : j = s.size ∨ j = 10 ∨ (j < s.size ∧ j < 10 ∧ (bytesN s).getD j 0 ≤ 127)) : (j < s.size ∧ j < 10) ∧ (bytesN s).take (j + 1) = lebN (zz n) ∧ (bytesN s).drop (j + 1) = rest ∧ zz n < 2 ^ 64 := by
  obtain ⟨e, n1, n2⟩ := takeL_canon (bytesN_lt s) h
  have hz := zz_lt n n1 n2
  have hl := lebN_len _ hz
  have hp := lebN_pos (zz n)
  have hlast := leb_last (zz n)
  have hmore := leb_more (zz n)
  have hsz : s.size = (lebN (zz n)).length + rest.length := by rw [← bytesN_length, e, List.length_append]
  have hg : ∀ t, t < (lebN (zz n)).length → (bytesN s).getD t 0 = (lebN (zz n)).getD t 0 := by
    intro t ht; rw [e]; simp only [List.getD]; rw [List.getElem?_append_left ht]
  generalize lebN (zz n) = L at *
  have hjL : j + 1 = L.length := by
    rcases Nat.lt_trichotomy (j + 1) L.length with c | c | c
    · have := hmore j c
      rw [← hg j (by omega)] at this
      omega
    · exact c
    · have := h3 (L.length - 1) (by omega)
      rw [hg _ (by omega)] at this
      omega
  refine ⟨⟨by omega, by omega⟩, ?_, ?_, hz⟩
  · rw [e, hjL, List.take_left]
  · rw [e, hjL, List.drop_left]
theorem takeS_L (s : ByteArray) : takeS s = (takeL (bytesN s)).map fun p => (p.1, strN p.2) := by
  unfold takeS takeL
  cases vT 0 0 (bytesN s) <;> rfl
theorem tkV_hn {s : ByteArray} {j : Nat} (hj : j < s.size) (hj2 : j < 10) (h3 : ∀ t, t < j → 127 < (bytesN s).getD t 0) (h4 : j = s.size ∨ j = 10 ∨ (j < s.size ∧ j < 10 ∧ (bytesN s).getD j 0 ≤ 127)) :
    tkV s = if putS (unz (hn ((bytesN s).take (j + 1)))) = s.extract 0 (j + 1) then .tuple #[.int .i64 (unz (hn ((bytesN s).take (j + 1)))), .string (s.extract (j + 1) s.size), .int .i64 0] else noV := by
  have hv := hn_lt ((bytesN s).take (j + 1))
  have ecmp : putS (unz (hn ((bytesN s).take (j + 1)))) = s.extract 0 (j + 1) ↔ lebN (hn ((bytesN s).take (j + 1))) = (bytesN s).take (j + 1) := by
    rw [← bytesN_take s (j + 1)]
    generalize s.extract 0 (j + 1) = z
    constructor
    · intro h
      have h5 := congrArg bytesN h
      rw [bytesN_putS, zz_unz] at h5
      exact h5
    · intro h
      refine bytesN_inj ?_
      rw [bytesN_putS, zz_unz]
      exact h
  unfold tkV
  rw [takeS_L]
  by_cases hc : lebN (hn ((bytesN s).take (j + 1))) = (bytesN s).take (j + 1)
  · rw [if_pos (ecmp.2 hc)]
    have hu1 : -9223372036854775808 ≤ unz (hn ((bytesN s).take (j + 1))) := by unfold unz; split <;> omega
    have hu2 : unz (hn ((bytesN s).take (j + 1))) ≤ 9223372036854775807 := by unfold unz; split <;> omega
    have h6 := takeL_put (unz (hn ((bytesN s).take (j + 1)))) ((bytesN s).drop (j + 1)) hu1 hu2
    rw [zz_unz, hc, List.take_append_drop] at h6
    rw [h6]
    simp only [Option.map_some]
    rw [strN_drop]
  · rw [if_neg (fun h => hc (ecmp.1 h))]
    cases hh : takeL (bytesN s) with
    | none => rfl
    | some p =>
      obtain ⟨n, rest⟩ := p
      obtain ⟨-, a2, -, a4⟩ := takeL_shape hh h3 h4
      exact absurd (by rw [a2, hn_leb _ a4]) hc
theorem tkV_bad {s : ByteArray} {j : Nat} (h3 : ∀ t, t < j → 127 < (bytesN s).getD t 0) (h4 : j = s.size ∨ j = 10) : tkV s = noV := by
  unfold tkV
  rw [takeS_L]
  cases hh : takeL (bytesN s) with
  | none => rfl
  | some p =>
    obtain ⟨n, rest⟩ := p
    have := (takeL_shape hh h3 (h4.imp id .inl)).1
    omega
theorem getD_byte {s : ByteArray} {i : Nat} (h : i < s.size) : (bytesN s).getD i 0 = s[i].toNat := by
  simp only [List.getD]
  rw [List.getElem?_eq_getElem (by rw [bytesN_length]; exact h), bytesN_get s i h]
  rfl
theorem hn_step {s : ByteArray} {j i : Nat} (hj : j < s.size) (hi : i < j + 1) : hn (((bytesN s).take (j + 1)).drop i) = (hn (((bytesN s).take (j + 1)).drop (i + 1)) * 128 + (s[i]'(by omega)).toNat % 128) % 2 ^ 64 := by
  have hlen : ((bytesN s).take (j + 1)).length = j + 1 := by rw [List.length_take, bytesN_length]; omega
  have e := drop_at ((bytesN s).take (j + 1)) i (by omega)
  have e0 : ((bytesN s).take (j + 1)).getD i 0 = (bytesN s).getD i 0 := by
    simp only [List.getD, List.getElem?_take]; rw [if_pos (by omega)]
  rw [e, hn, e0, getD_byte]
section
variable {w0 w : World} {F : List Nat} {L : List Res} {s : ByteArray}
theorem rtake_ret (hS : St w0 F w L) : Ret Try.prog 55 #[.string s] w fun v w' => v = tkV s ∧ St w0 F w' L := by
  have fin : ∀ (k : Nat) w, St w0 F w L → k ≤ s.size → k ≤ 10 → (∀ t, t < k → 127 < (bytesN s).getD t 0) → (k = s.size ∨ k = 10 ∨ (k < s.size ∧ k < 10 ∧ (bytesN s).getD k 0 ≤ 127)) → m55_3 (fun v w' => v = tkV s ∧ St w0 F w' L) (.string s) (.int .i64 (k : Int)) w := by
    clear hS
    intro k w hS hks hk10 h3 h4
    unfold m55_3
    refine builtin_ok (len9 _) ?_
    refine valP_ok (eq3 _ _ _ _ _) ?_
    refine cond_split (fun h => ?_) (fun h => ?_)
    · first | refine pick_dt (by first | assumption | omega) ?_ | refine pick_df (by first | assumption | omega) ?_ | refine pick_t (by first | rfl | assumption) ?_ | refine pick_f (by first | rfl | assumption) ?_ | refine pick_dt rfl ?_ | refine pick_df (not_not_intro rfl) ?_
      unfold m55_19
      refine cond_t rfl ?_
      unfold m55_20
      exact ⟨(tkV_bad h3 (.inl (by omega))).symm, hS⟩
    · refine valP_ok (eq3 _ _ _ _ _) ?_
      first | refine pick_dt (by first | assumption | omega) ?_ | refine pick_df (by first | assumption | omega) ?_ | refine pick_t (by first | rfl | assumption) ?_ | refine pick_f (by first | rfl | assumption) ?_ | refine pick_dt rfl ?_ | refine pick_df (not_not_intro rfl) ?_
      unfold m55_19
      refine cond_split (fun h1 => ?_) (fun h1 => ?_)
      · unfold m55_20
        exact ⟨(tkV_bad h3 (.inr (by omega))).symm, hS⟩
      · have hj : k < s.size := by omega
        have hj2 : k < 10 := by omega
        have hres := tkV_hn hj hj2 h3 h4
        have hlen : ((bytesN s).take (k + 1)).length = k + 1 := by rw [List.length_take, bytesN_length]; omega
        unfold m55_4 m55_5 m55_14
        refine loop_in (fun u w' => ∃ i : Nat, u = (.int .u64 (hn (((bytesN s).take (k + 1)).drop i) : Int), .int .i64 ((i : Int) - 1)) ∧ i ≤ k + 1 ∧ St w0 F w' L) (fun u _ => ((intOf u.2) + 1).toNat) ⟨k + 1, by rw [List.drop_eq_nil_of_le (by omega), show ((k + 1 : Nat) : Int) - 1 = (k : Int) by omega]; rfl, Nat.le_refl _, hS⟩ ?_
        clear hS
        rintro u w ⟨i, rfl, hi, hS⟩
        simp only
        unfold m55_15
        refine valP_ok (geq_ok _ _ _ _ _ _ _) ?_
        unfold m55_18
        refine cond_split (fun h5 => ?_) (fun h5 => ?_)
        · obtain ⟨i, rfl⟩ : ∃ i', i = i' + 1 := ⟨i - 1, by omega⟩
          have hst := hn_step (s := s) (j := k) (i := i) hj (by omega)
          have hlt := hn_lt (((bytesN s).take (k + 1)).drop (i + 1))
          have hil : i < s.size := by omega
          rw [show ((i + 1 : Nat) : Int) - 1 = (i : Int) by omega]
          unfold m55_16
          refine valP_ok (mulu _ _ _ _ _) ?_
          refine valP_ok (sidx _ hil) ?_
          refine valP_ok (cv8_64 _ _) ?_
          have hb : s[i].toNat < 256 := UInt8.toNat_lt _
          rw [wraps_u64 (s[i].toNat : Int) (by omega) (by omega)]
          refine valP_ok (remu _ _ _ s[i].toNat 128 (by omega) (by omega)) ?_
          refine valP_ok (addu _ _ _ _ _) ?_
          have e : IntKind.u64.wrap (IntKind.u64.wrap ((hn (((bytesN s).take (k + 1)).drop (i + 1)) : Int) * 128) + ((s[i].toNat % 128 : Nat) : Int)) = (hn (((bytesN s).take (k + 1)).drop i) : Int) := by
            rw [hst, wrap_u64, wrap_u64]
            omega
          rw [e]
          unfold m55_17
          refine valP_ok (sub_ok _ _ _ (by omega) (by omega) _) ?_
          exact ⟨⟨i, rfl, by omega, hS⟩, by simp [intOf]⟩
        · obtain rfl : i = 0 := by omega
          rw [List.drop_zero]
          have hv := hn_lt ((bytesN s).take (k + 1))
          generalize hn ((bytesN s).take (k + 1)) = v at hv hres
          have hu1 : -9223372036854775808 ≤ unz v := by unfold unz; split <;> omega
          have hu2 : unz v ≤ 9223372036854775807 := by unfold unz; split <;> omega
          have main : m55_8 (fun v w' => v = tkV s ∧ St w0 F w' L) (.string s) (.int .i64 (k : Int)) (.int .i64 (unz v)) w := by
            unfold m55_8
            refine drawn_ok hS ?_
            intro w hS
            refine pureP_ok (add_ok _ _ _ (by omega) (by omega)) ?_
            rw [show (k : Int) + 1 = ((k + 1 : Nat) : Int) by omega]
            refine pureP_ok (fun w => sto w (by omega)) ?_
            refine callR (by kernel_rfl) (rput_ret ⟨hu1, hu2⟩ hS) ?_
            rintro _ w ⟨rfl, hS⟩
            refine pureP_ok (ne9 _ _ _ _) ?_
            unfold m55_11
            refine cond_split (fun h6 => ?_) (fun h6 => ?_)
            · unfold m55_12
              rw [if_neg h6] at hres
              exact ⟨hres.symm, hS⟩
            · rw [if_pos (Classical.not_not.1 h6)] at hres
              unfold m55_9
              refine valQ_ok (add_ok _ _ _ (by omega) (by omega)) ?_
              rw [show (k : Int) + 1 = ((k + 1 : Nat) : Int) by omega]
              refine valQ_ok (fun w => sfrom w (by omega)) ?_
              refine drawn_ok hS ?_
              intro w hS
              unfold m55_10
              exact ⟨hres.symm, hS⟩
          unfold m55_6
          refine valP_ok (quou _ _ _ v 2 (by omega) hv) ?_
          refine valP_ok (cv64_i _ _) ?_
          unfold m55_7
          refine valP_ok (remu _ _ _ v 2 (by omega) hv) ?_
          refine valP_ok (eq73 _ _ _ _ _) ?_
          unfold m55_13
          refine cond_split (fun h6 => ?_) (fun h6 => ?_)
          · refine valP_ok (negI _ _) ?_
            have e : IntKind.i64.wrap (-(IntKind.i64.wrap ((v / 2 : Nat) : Int))) = -((v / 2 : Nat) : Int) := by
              rw [IntKind.wrap_i64, IntKind.wrap_i64]
              omega
            rw [e]
            refine valP_ok (sub_ok _ _ _ (by omega) (by omega) _) ?_
            rw [show -((v / 2 : Nat) : Int) - 1 = unz v by unfold unz; rw [if_neg (by omega)]]
            exact main
          · have e : IntKind.i64.wrap ((v / 2 : Nat) : Int) = unz v := by
              rw [IntKind.wrap_i64]
              unfold unz
              rw [if_pos (by omega)]
              omega
            rw [e]
            exact main
  refine s55 _ ?_
  unfold m55 m55_0 m55_1 m55_2
  refine loop_in (fun u w' => ∃ k : Nat, u = .int .i64 (k : Int) ∧ k ≤ s.size ∧ k ≤ 10 ∧ (∀ t, t < k → 127 < (bytesN s).getD t 0) ∧ St w0 F w' L) (fun u _ => 10 - (intOf u).toNat) ⟨0, rfl, by omega, by omega, fun t h => by omega, hS⟩ ?_
  clear hS
  rintro u w ⟨k, rfl, hks, hk10, h3, hS⟩
  unfold m55_21
  refine builtin_ok (len9 _) ?_
  refine valP_ok (lss_ok _ _ _ _ _ _ _) ?_
  refine cond_split (fun h => ?_) (fun h => ?_)
  · have hlt : k < s.size := by omega
    refine valP_ok (lss_ok _ _ _ _ _ _ _) ?_
    first | refine pick_dt (by first | assumption | omega) ?_ | refine pick_df (by first | assumption | omega) ?_ | refine pick_t (by first | rfl | assumption) ?_ | refine pick_f (by first | rfl | assumption) ?_ | refine pick_dt rfl ?_ | refine pick_df (not_not_intro rfl) ?_
    refine cond_split (fun h1 => ?_) (fun h1 => ?_)
    · refine valP_ok (sidx _ hlt) ?_
      refine valP_ok (gtr_ok _ _ _ _ _ _ _) ?_
      first | refine pick_dt (by first | assumption | omega) ?_ | refine pick_df (by first | assumption | omega) ?_ | refine pick_t (by first | rfl | assumption) ?_ | refine pick_f (by first | rfl | assumption) ?_ | refine pick_dt rfl ?_ | refine pick_df (not_not_intro rfl) ?_
      unfold m55_23
      refine cond_split (fun h2 => ?_) (fun h2 => ?_)
      · unfold m55_22
        refine valP_ok (add_ok _ _ _ (by omega) (by omega) _) ?_
        refine ⟨⟨k + 1, rfl, by omega, by omega, fun t ht => ?_, hS⟩, by simp [intOf]; omega⟩
        rcases Nat.lt_or_ge t k with g | g
        · exact h3 t g
        · obtain rfl : t = k := by omega
          rw [getD_byte hlt]
          omega
      · exact fin k w hS hks hk10 h3 (.inr (.inr ⟨hlt, by omega, by rw [getD_byte hlt]; omega⟩))
    · first | refine pick_dt (by first | assumption | omega) ?_ | refine pick_df (by first | assumption | omega) ?_ | refine pick_t (by first | rfl | assumption) ?_ | refine pick_f (by first | rfl | assumption) ?_ | refine pick_dt rfl ?_ | refine pick_df (not_not_intro rfl) ?_
      unfold m55_23
      refine cond_f rfl ?_
      exact fin k w hS hks hk10 h3 (.inr (.inl (by omega)))
  · first | refine pick_dt (by first | assumption | omega) ?_ | refine pick_df (by first | assumption | omega) ?_ | refine pick_t (by first | rfl | assumption) ?_ | refine pick_f (by first | rfl | assumption) ?_ | refine pick_dt rfl ?_ | refine pick_df (not_not_intro rfl) ?_
    refine cond_f rfl ?_
    first | refine pick_dt (by first | assumption | omega) ?_ | refine pick_df (by first | assumption | omega) ?_ | refine pick_t (by first | rfl | assumption) ?_ | refine pick_f (by first | rfl | assumption) ?_ | refine pick_dt rfl ?_ | refine pick_df (not_not_intro rfl) ?_
    unfold m55_23
    refine cond_f rfl ?_
    exact fin k w hS hks hk10 h3 (.inl (by omega))
end


end Go.Proofs.Ytnhgdngbdoifnaa.M
