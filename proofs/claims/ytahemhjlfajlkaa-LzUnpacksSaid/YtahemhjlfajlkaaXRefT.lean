/- The reference's Put and Take, over lists. -/
import Derived.Test.YtahemhjlfajlkaaXUnp
import Derived.Test.YtahemhjlfajlkaaPLx3
namespace Go.Proofs.Ytahemhjlfajlkaa.PL
open Go.RowKit Go.Proofs.YtahemhjlfajlkaaW.PrintWords Go.Proofs.YtahemhjlfajlkaaW.PrintLast Go.Proofs.YtahemhjlfajlkaaW.PrintMore
set_option linter.unusedVariables false
set_option linter.unusedSimpArgs false

/-! ### The reference's Put and Take, over lists -/
theorem td (u : Nat) (d : Nat) : Int.tdiv (u : Int) (d : Int) = ((u / d : Nat) : Int) := by rw [Int.tdiv_eq_ediv_of_nonneg (by omega)]; norm_cast
theorem tm (u : Nat) (d : Nat) : Int.tmod (u : Int) (d : Int) = ((u % d : Nat) : Int) := by rw [Int.tmod_eq_emod_of_nonneg (by omega)]; norm_cast
theorem td128 (u : Nat) : Int.tdiv (u : Int) 128 = ((u / 128 : Nat) : Int) := td u 128
theorem tm128 (u : Nat) : Int.tmod (u : Int) 128 = ((u % 128 : Nat) : Int) := tm u 128
theorem td2 (u : Nat) : Int.tdiv (u : Int) 2 = ((u / 2 : Nat) : Int) := td u 2
theorem tm2 (u : Nat) : Int.tmod (u : Int) 2 = ((u % 2 : Nat) : Int) := tm u 2
theorem w64 (u : Nat) (h : u < 2 ^ 64) : IntKind.u64.wrap (u : Int) = (u : Int) := wraps_u64 _ (by omega) (by omega)
theorem w64m (u : Nat) : IntKind.u64.wrap (u : Int) = ((u % 2 ^ 64 : Nat) : Int) := by rw [wrap_u64]; omega
theorem lebN_len (u : Nat) : u < 2 ^ 64 → (lebN u).length ≤ 10 := fun h => by
  have key : ∀ k u, u < 2 ^ (7 * k) → 1 ≤ k → (lebN u).length ≤ k := by
    intro k
    induction k with
    | zero => intro u _ h; omega
    | succ k ih =>
      intro u hu _
      by_cases h : u < 128
      · rw [lebN_lo h]; simp
      · rw [lebN_hi h, List.length_cons]
        by_cases hk : k = 0
        · subst hk; exact absurd hu (by simpa using h)
        have := ih (u / 128) (by rw [pow7] at hu; omega) (by omega)
        omega
  exact key 10 u (Nat.lt_trans h (by decide)) (by omega)
theorem rput_l0 (u : Nat) : ∀ out : List Nat, u < 2 ^ 64 → out.length + (lebN u).length ≤ 1000 → Ev (fun k => headgateref01_Put.l0 k (u : Int) (ints out)) (strOfNums (ints (out ++ lebN u))) := by
  induction u using Nat.strongRecOn with
  | _ u ih =>
    intro out hu hl
    refine Ev.step (f := ?f1) (fun k => ?_) ?_
    rotate_left
    · simp only [headgateref01_Put.l0]; rfl
    have hil := ints_length out
    by_cases h : u < 128
    · rw [lebN_lo h]
      refine Ev.congr (fun k => if_neg (by omega)) ?_
      refine Ev.congr (fun k => if_pos (by omega)) ?_
      have e : ints out ++ [(u : Int) % 256] = ints (out ++ [u]) := by
        unfold ints; rw [List.map_append]
        show _ = List.map Int.ofNat out ++ [(u : Int)]
        rw [show (u : Int) % 256 = (u : Int) by omega]
      rw [e]; exact Ev.now _
    · rw [lebN_hi h] at hl ⊢
      rw [List.length_cons] at hl
      refine Ev.congr (fun k => if_pos (by omega)) ?_
      refine Ev.congr (fun k => if_pos (by omega)) ?_
      have e1 : IntKind.u64.wrap (Int.tdiv (u : Int) 128) = ((u / 128 : Nat) : Int) := by rw [td128, w64 _ (by omega)]
      have e2 : IntKind.u64.wrap ((Int.tmod (u : Int) 128) + 128) % 256 = ((u % 128 + 128 : Nat) : Int) := by
        rw [tm128, show ((u % 128 : Nat) : Int) + 128 = ((u % 128 + 128 : Nat) : Int) by omega, w64 _ (by omega)]; omega
      rw [e1, e2]
      have e : ints out ++ [((u % 128 + 128 : Nat) : Int)] = ints (out ++ [u % 128 + 128]) := by
        unfold ints; rw [List.map_append]; rfl
      rw [e]
      have := ih (u / 128) (by omega) (out ++ [u % 128 + 128]) (by omega) (by rw [List.length_append]; simp; omega)
      rw [List.append_assoc] at this
      exact this
theorem rput_ev (n : Int) (h1 : -9223372036854775808 ≤ n) (h2 : n ≤ 9223372036854775807) : Ev (fun k => headgateref01_Put.f k n) (strOfNums (ints (lebN (zz n)))) := by
  have hz := zz_lt n h1 h2
  have hl := lebN_len _ hz
  have key : Ev (fun k => headgateref01_Put.j0 k ((zz n : Nat) : Int)) (strOfNums (ints (lebN (zz n)))) := by
    refine Ev.step (f := ?f1) (fun k => ?_) ?_
    rotate_left
    · simp only [headgateref01_Put.j0]; rfl
    have := rput_l0 (zz n) [] hz (by simp; omega)
    exact this
  unfold headgateref01_Put.f
  by_cases h : n < 0
  · refine Ev.congr (fun k => if_pos h) ?_
    have e : IntKind.u64.wrap ((IntKind.u64.wrap ((IntKind.u64.wrap (wrap64 (-(wrap64 (n + 1))))) * 2)) + 1) = ((zz n : Nat) : Int) := by
      unfold zz
      rw [if_neg (by omega)]
      simp only [wrap_u64]
      unfold wrap64
      omega
    rw [e]; exact key
  · refine Ev.congr (fun k => if_neg h) ?_
    have e : IntKind.u64.wrap ((IntKind.u64.wrap n) * 2) = ((zz n : Nat) : Int) := by
      unfold zz
      rw [if_pos (by omega)]
      simp only [wrap_u64]
      omega
    rw [e]; exact key
def hn : List Nat → Nat
  | [] => 0
  | b :: t => (hn t * 128 + b % 128) % 2 ^ 64
theorem hn_lt : ∀ l, hn l < 2 ^ 64
  | [] => by decide
  | b :: t => by unfold hn; exact Nat.mod_lt _ (by decide)
theorem hn_leb (u : Nat) : u < 2 ^ 64 → hn (lebN u) = u := by
  induction u using Nat.strongRecOn with
  | _ u ih =>
    intro hu
    by_cases h : u < 128
    · rw [lebN_lo h]; simp only [hn]; omega
    · rw [lebN_hi h]; simp only [hn]; rw [ih (u / 128) (by omega) (by omega)]; omega
theorem leb_more (u : Nat) : ∀ t, t + 1 < (lebN u).length → 128 ≤ (lebN u).getD t 0 := by
  induction u using Nat.strongRecOn with
  | _ u ih =>
    intro t ht
    by_cases h : u < 128
    · rw [lebN_lo h] at ht; simp at ht
    · rw [lebN_hi h] at ht ⊢
      rw [List.length_cons] at ht
      cases t with
      | zero => simp
      | succ t => simpa using ih (u / 128) (by omega) t (by omega)
theorem leb_last (u : Nat) : (lebN u).getD ((lebN u).length - 1) 0 < 128 := by
  induction u using Nat.strongRecOn with
  | _ u ih =>
    by_cases h : u < 128
    · rw [lebN_lo h]; simpa using h
    · rw [lebN_hi h]
      have h1 := ih (u / 128) (by omega)
      have h2 := lebN_pos (u / 128)
      rw [List.length_cons, show (lebN (u / 128)).length + 1 - 1 = ((lebN (u / 128)).length - 1) + 1 by omega]
      simpa using h1
theorem bt_list (s : ByteArray) (i : Nat) : bt s (i : Int) = (((bytesN s).getD i 0 : Nat) : Int) := by
  unfold bt
  rw [Int.toNat_natCast]
  by_cases h : i < s.size
  · rw [dif_pos h]
    simp only [List.getD]
    rw [List.getElem?_eq_getElem (by rw [bytesN_length]; exact h), bytesN_get s i h]; rfl
  · rw [dif_neg h]
    simp only [List.getD]
    rw [List.getElem?_eq_none (by rw [bytesN_length]; omega)]; rfl
/-- What the reference's Take tells. -/
def takeRes (s : ByteArray) : Int × ByteArray × Int := match takeL (bytesN s) with
  | none => (0, ⟨#[]⟩, 2)
  | some p => (p.1, strOfNums (ints p.2), 0)
theorem rtake_l0 (s : ByteArray) (hs : s.size ≤ 140737488351232) (d : Nat) : ∀ i, i + d = 10 → i ≤ s.size → (∀ t, t < i → 127 < (bytesN s).getD t 0) →
    ∃ j, j ≤ 10 ∧ j ≤ s.size ∧ (∀ t, t < j → 127 < (bytesN s).getD t 0) ∧ (j = s.size ∨ j = 10 ∨ (j < s.size ∧ j < 10 ∧ (bytesN s).getD j 0 ≤ 127)) ∧
      ∀ r, Ev (fun k => headgateref01_Take.j1 k s (j : Int)) r → Ev (fun k => headgateref01_Take.l0 k s (i : Int)) r := by
  induction d with
  | zero =>
    intro i hi h1 h2
    refine ⟨i, by omega, h1, h2, .inr (.inl (by omega)), fun r hr => ?_⟩
    refine Ev.step (fun k => ?_) hr
    simp only [headgateref01_Take.l0]
    by_cases h : (i : Int) < (s.size : Int)
    · rw [if_pos h, if_neg (by omega)]
    · rw [if_neg h]
  | succ d ih =>
    intro i hi h1 h2
    by_cases h : i < s.size
    · by_cases hb : 127 < (bytesN s).getD i 0
      · obtain ⟨j, a1, a2, a3, a4, a5⟩ := ih (i + 1) (by omega) (by omega) (fun t ht => by
          by_cases e : t = i
          · rw [e]; exact hb
          · exact h2 t (by omega))
        refine ⟨j, a1, a2, a3, a4, fun r hr => ?_⟩
        refine Ev.step (fun k => ?_) (a5 r hr)
        simp only [headgateref01_Take.l0]
        rw [if_pos (by omega), if_pos (by omega), if_pos (by omega), bt_list, if_pos (by omega), wrap_small _ (by omega) (by omega)]; rfl
      · refine ⟨i, by omega, h1, h2, .inr (.inr ⟨h, by omega, by omega⟩), fun r hr => ?_⟩
        refine Ev.step (fun k => ?_) hr
        simp only [headgateref01_Take.l0]
        rw [if_pos (by omega), if_pos (by omega), if_pos (by omega), bt_list, if_neg (by omega)]
    · refine ⟨i, by omega, h1, h2, .inl (by omega), fun r hr => ?_⟩
      refine Ev.step (fun k => ?_) hr
      simp only [headgateref01_Take.l0]
      rw [if_neg (by omega)]
theorem drop_at (l : List Nat) (i : Nat) (h : i < l.length) : l.drop i = l.getD i 0 :: l.drop (i + 1) := by
  rw [List.drop_eq_getElem_cons h]
  simp only [List.getD]; rw [List.getElem?_eq_getElem h]; rfl
theorem rtake_l1 (s : ByteArray) (j : Nat) (hj : j < s.size) (hj2 : j < 10) (r : Int × ByteArray × Int) (h : Ev (fun k => headgateref01_Take.l1 k s (j : Int) ((hn ((bytesN s).take (j + 1)) : Nat) : Int) (-1)) r) :
    ∀ i, i ≤ j + 1 → Ev (fun k => headgateref01_Take.l1 k s (j : Int) ((hn (((bytesN s).take (j + 1)).drop i) : Nat) : Int) ((i : Int) - 1)) r := by
  intro i
  induction i with
  | zero => intro _; exact h
  | succ i ih =>
    intro hi
    have hlen : ((bytesN s).take (j + 1)).length = j + 1 := by rw [List.length_take, bytesN_length]; omega
    have e := drop_at ((bytesN s).take (j + 1)) i (by omega)
    have e0 : ((bytesN s).take (j + 1)).getD i 0 = (bytesN s).getD i 0 := by
      simp only [List.getD, List.getElem?_take]; rw [if_pos (by omega)]
    have hlt := hn_lt (((bytesN s).take (j + 1)).drop (i + 1))
    have hby : (bytesN s).getD i 0 < 256 := by
      simp only [List.getD]; rw [List.getElem?_eq_getElem (by rw [bytesN_length]; omega)]
      exact bytesN_lt s _ (List.getElem_mem _)
    have hI := ih (by omega)
    rw [e] at hI
    simp only [hn] at hI
    rw [e0] at hI
    rw [show ((i + 1 : Nat) : Int) - 1 = (i : Int) by omega]
    refine Ev.step (fun k => ?_) hI
    simp only [headgateref01_Take.l1]
    rw [if_pos (by omega), if_pos (by omega), if_pos (by omega), bt_list, w64 _ (by omega), tm128]
    generalize hn (((bytesN s).take (j + 1)).drop (i + 1)) = A at hlt ⊢
    generalize (bytesN s).getD i 0 = b at hby ⊢
    rw [show (A : Int) * 128 = ((A * 128 : Nat) : Int) by omega, w64m, show (((A * 128 % 2 ^ 64 : Nat) : Int) + ((b % 128 : Nat) : Int)) = ((A * 128 % 2 ^ 64 + b % 128 : Nat) : Int) by omega, w64m,
      show (A * 128 % 2 ^ 64 + b % 128) % 2 ^ 64 = (A * 128 + b % 128) % 2 ^ 64 by omega, wrap_small _ (by omega) (by omega)]
theorem takeL_shape {s : ByteArray} {n : Int} {rest : List Nat} (h : takeL (bytesN s) = some (n, rest)) {j : Nat} (h3 : ∀ t, t < j → 127 < (bytesN s).getD t 0)
    (h4 : j = s.size ∨ j = 10 ∨ (j < s.size ∧ j < 10 ∧ (bytesN s).getD j 0 ≤ 127)) : (j < s.size ∧ j < 10) ∧ (bytesN s).take (j + 1) = lebN (zz n) ∧ (bytesN s).drop (j + 1) = rest ∧ zz n < 2 ^ 64 := by
  obtain ⟨e, n1, n2⟩ := takeL_canon (bytesN_lt s) h
  have hz := zz_lt n n1 n2
  have hl := lebN_len _ hz
  have hp := lebN_pos (zz n)
  have hlast := leb_last (zz n)
  have hmore := leb_more (zz n)
  have hsz : s.size = (lebN (zz n)).length + rest.length := by rw [← bytesN_length, e, List.length_append]
  have hg : ∀ t, t < (lebN (zz n)).length → (bytesN s).getD t 0 = (lebN (zz n)).getD t 0 := by
    intro t ht; rw [e]; simp only [List.getD]; rw [List.getElem?_append_left ht]
  generalize lebN (zz n) = L at *
  have hjL : j + 1 = L.length := by
    rcases Nat.lt_trichotomy (j + 1) L.length with c | c | c
    · have := hmore j c
      rw [← hg j (by omega)] at this
      omega
    · exact c
    · have := h3 (L.length - 1) (by omega)
      rw [hg _ (by omega)] at this
      omega
  refine ⟨⟨by omega, by omega⟩, ?_, ?_, hz⟩
  · rw [e, hjL, List.take_left]
  · rw [e, hjL, List.drop_left]
theorem rtake_ev (s : ByteArray) (hs : s.size ≤ 140737488351232) : Ev (fun k => headgateref01_Take.f k s) (takeRes s) := by
  unfold headgateref01_Take.f
  obtain ⟨j, h1, h2, h3, h4, h5⟩ := rtake_l0 s hs 10 0 rfl (Nat.zero_le _) (fun t ht => by omega)
  refine h5 _ ?_
  have bad (hj : ¬ (j < s.size ∧ j < 10)) : takeRes s = (0, ⟨#[]⟩, 2) := by
    unfold takeRes
    cases hT : takeL (bytesN s) with
    | none => rfl
    | some p => exact absurd (takeL_shape hT h3 h4).1 hj
  have fail : Ev (fun k => headgateref01_Take.j2 k s (j : Int) true) ((0 : Int), (⟨#[]⟩ : ByteArray), (2 : Int)) := by
    refine Ev.step (fun k => ?_) (Ev.now _)
    simp only [headgateref01_Take.j2]; rw [if_pos trivial]
  refine Ev.step (f := ?f1) (fun k => ?_) ?_
  rotate_left
  · simp only [headgateref01_Take.j1]; rfl
  by_cases c1 : (j : Int) = (s.size : Int)
  · rw [bad (by omega)]; exact Ev.congr (fun k => if_pos c1) fail
  refine Ev.congr (fun k => if_neg c1) ?_
  by_cases c2 : j = 10
  · rw [bad (by omega)]
    have e : ((j : Int) == 10) = true := by rw [beq_iff_eq]; omega
    rw [e]; exact fail
  have e : ((j : Int) == 10) = false := by rw [beq_eq_false_iff_ne]; omega
  rw [e]
  have hj : j < s.size := by omega
  have hj2 : j < 10 := by omega
  refine Ev.step (f := fun k => headgateref01_Take.l1 k s (j : Int) ((hn (((bytesN s).take (j + 1)).drop (j + 1)) : Nat) : Int) (((j + 1 : Nat) : Int) - 1)) (fun k => ?_) ?_
  · simp only [headgateref01_Take.j2]
    rw [if_neg (by decide), List.drop_eq_nil_of_le (by rw [List.length_take]; omega), show ((j + 1 : Nat) : Int) - 1 = (j : Int) by omega]; rfl
  refine rtake_l1 s j hj hj2 _ ?_ (j + 1) (Nat.le_refl _)
  have hv := hn_lt ((bytesN s).take (j + 1))
  have hT := fun (n : Int) rest (h : takeL (bytesN s) = some (n, rest)) => takeL_shape h h3 h4
  have hres : takeRes s = if lebN (hn ((bytesN s).take (j + 1))) = (bytesN s).take (j + 1) then (unz (hn ((bytesN s).take (j + 1))), s.extract (j + 1) s.size, 0) else (0, ⟨#[]⟩, 2) := by
    unfold takeRes
    by_cases hc : lebN (hn ((bytesN s).take (j + 1))) = (bytesN s).take (j + 1)
    · rw [if_pos hc]
      have hu1 : -9223372036854775808 ≤ unz (hn ((bytesN s).take (j + 1))) := by unfold unz; split <;> omega
      have hu2 : unz (hn ((bytesN s).take (j + 1))) ≤ 9223372036854775807 := by unfold unz; split <;> omega
      have h6 := takeL_put (unz (hn ((bytesN s).take (j + 1)))) ((bytesN s).drop (j + 1)) hu1 hu2
      rw [zz_unz, hc, List.take_append_drop] at h6
      rw [h6]
      show (_, strOfNums (ints ((bytesN s).drop (j + 1))), _) = _
      rw [← bytesN_drop]
      rw [show strOfNums (ints (bytesN (s.extract (j + 1) s.size))) = s.extract (j + 1) s.size from bytesN_inj (bytesN_strOfNums _ (bytesN_lt _))]
    · rw [if_neg hc]
      cases hh : takeL (bytesN s) with
      | none => rfl
      | some p =>
        obtain ⟨n, rest⟩ := p
        obtain ⟨-, a2, -, a4⟩ := hT n rest hh
        exact absurd (by rw [a2, hn_leb _ a4]) hc
  rw [hres]
  generalize hn ((bytesN s).take (j + 1)) = v at hv ⊢
  have hu1 : -9223372036854775808 ≤ unz v := by unfold unz; split <;> omega
  have hu2 : unz v ≤ 9223372036854775807 := by unfold unz; split <;> omega
  have hput := rput_ev (unz v) hu1 hu2
  rw [zz_unz] at hput
  have e1 : (s.extract 0 (wrap64 ((j : Int) + 1)).toNat) = s.extract 0 (j + 1) := by rw [wrap_small _ (by omega) (by omega)]; rfl
  have e2 : (s.extract (wrap64 ((j : Int) + 1)).toNat s.size) = s.extract (j + 1) s.size := by rw [wrap_small _ (by omega) (by omega)]; rfl
  have ecmp : ((strOfNums (ints (lebN v))).toList = (s.extract 0 (j + 1)).toList) ↔ lebN v = (bytesN s).take (j + 1) := by
    rw [toList_inj, ← bytesN_take]
    constructor
    · intro h; rw [← h]; exact (bytesN_strOfNums _ (lebN_lt v)).symm
    · intro h; exact bytesN_inj ((bytesN_strOfNums _ (lebN_lt v)).trans h)
  refine Ev.step (f := ?f2) (fun k => ?_) ?_
  rotate_left
  · simp only [headgateref01_Take.l1]; rfl
  refine Ev.congr (fun k => if_neg (by decide)) ?_
  by_cases c : v % 2 = 1
  · refine Ev.congr (fun k => if_pos (by rw [tm2]; omega)) ?_
    have en : wrap64 ((wrap64 (-(wrap64 (IntKind.u64.wrap (Int.tdiv (v : Int) 2))))) - 1) = unz v := by
      unfold unz
      rw [if_neg (by omega), td2, w64 _ (by omega)]
      unfold wrap64; omega
    rw [en]
    refine Ev.bind hput ?_
    refine Ev.congr (fun k => if_pos (by rw [wrap_small _ (by omega) (by omega)]; omega)) ?_
    refine Ev.congr (fun k => if_pos (by rw [wrap_small _ (by omega) (by omega)]; omega)) ?_
    rw [e1, e2]
    by_cases hc : lebN v = (bytesN s).take (j + 1)
    · rw [if_pos hc]; exact Ev.congr (fun k => if_pos (ecmp.mpr hc)) (Ev.now _)
    · rw [if_neg hc]; exact Ev.congr (fun k => if_neg (fun h => hc (ecmp.mp h))) (Ev.now _)
  · refine Ev.congr (fun k => if_neg (by rw [tm2]; omega)) ?_
    have en : wrap64 (IntKind.u64.wrap (Int.tdiv (v : Int) 2)) = unz v := by
      unfold unz
      rw [if_pos (by omega), td2, w64 _ (by omega), wrap_small _ (by omega) (by omega)]
    rw [en]
    refine Ev.bind hput ?_
    refine Ev.congr (fun k => if_pos (by rw [wrap_small _ (by omega) (by omega)]; omega)) ?_
    refine Ev.congr (fun k => if_pos (by rw [wrap_small _ (by omega) (by omega)]; omega)) ?_
    rw [e1, e2]
    by_cases hc : lebN v = (bytesN s).take (j + 1)
    · rw [if_pos hc]; exact Ev.congr (fun k => if_pos (ecmp.mpr hc)) (Ev.now _)
    · rw [if_neg hc]; exact Ev.congr (fun k => if_neg (fun h => hc (ecmp.mp h))) (Ev.now _)
end Go.Proofs.Ytahemhjlfajlkaa.PL
