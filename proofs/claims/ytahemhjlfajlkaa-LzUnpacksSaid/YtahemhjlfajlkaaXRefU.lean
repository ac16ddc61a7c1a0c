/- The reference's piece and Unpack, over lists. -/
import Derived.Test.YtahemhjlfajlkaaXRefT
import Derived.Test.YtahemhjlfajlkaaXLaws
import Derived.Test.YtahemhjlfajlkaaPLx4
namespace Go.Proofs.Ytahemhjlfajlkaa.PL
open Go.RowKit Go.Proofs.YtahemhjlfajlkaaW.PrintWords Go.Proofs.YtahemhjlfajlkaaW.PrintLast Go.Proofs.YtahemhjlfajlkaaW.PrintMore
set_option linter.unusedVariables false
set_option linter.unusedSimpArgs false

/-! ### The reference's piece and Unpack, over lists -/
theorem bytesN_ext (s : ByteArray) (i j : Nat) : bytesN (s.extract i j) = ((bytesN s).drop i).take (j - i) := by
  unfold bytesN
  rw [ByteArray.data_extract, Array.toList_extract, List.extract_eq_take_drop, List.map_take, List.map_drop]
theorem sn {b : ByteArray} {L : List Nat} (h : bytesN b = L) : strOfNums (ints L) = b := by rw [← h]; exact strOfNums_bytesN b
theorem copyN_snoc (back : Nat) (m : Nat) : ∀ L : List Nat, copyN L back (m + 1) = copyN L back m ++ [(copyN L back m).getD (L.length + m - back) 0] := by
  induction m with
  | zero => intro L; rfl
  | succ m ih =>
    intro L
    have := ih (L ++ [L.getD (L.length - back) 0])
    show copyN (L ++ [L.getD (L.length - back) 0]) back (m + 1) = copyN (L ++ [L.getD (L.length - back) 0]) back m ++ _
    rw [this, List.length_append]
    simp only [List.length_singleton]
    rw [show L.length + 1 + m = L.length + (m + 1) by omega]
    rfl
theorem copyN_get (L : List Nat) (back : Nat) (hb : 1 ≤ back) (hL : back ≤ L.length) (m : Nat) : ∀ x, L.length - back ≤ x → x < L.length + m → (copyN L back m).getD x 0 = L.getD (L.length - back + (x - (L.length - back)) % back) 0 := by
  induction m with
  | zero =>
    intro x h1 h2
    rw [Nat.mod_eq_of_lt (by omega), show L.length - back + (x - (L.length - back)) = x by omega]; rfl
  | succ m ih =>
    intro x h1 h2
    rw [copyN_snoc]
    by_cases h : x < L.length + m
    · simp only [List.getD]; rw [List.getElem?_append_left (by rw [copyN_len]; exact h)]
      exact ih x h1 h
    · have e : x = L.length + m := by omega
      have e2 : ((copyN L back m) ++ [(copyN L back m).getD (L.length + m - back) 0]).getD x 0 = (copyN L back m).getD (L.length + m - back) 0 := by
        simp only [List.getD]; rw [List.getElem?_append_right (by rw [copyN_len]; omega), copyN_len, e, Nat.sub_self]; rfl
      rw [e2, ih (L.length + m - back) (by omega) (by omega), e]
      congr 2
      rw [Nat.mod_eq_sub_mod (a := L.length + m - (L.length - back)) (by omega)]
      congr 1
      omega
theorem piece_l0 (t more part : ByteArray) (K back : Nat) (hb : 1 ≤ back) (hbt : back ≤ t.size) (hb2 : back ≤ 4096) (ht : t.size ≤ 2000000) (hK : K ≤ 2000000) (hpart : part = t.extract (t.size - back) t.size) (d : Nat) :
    ∀ (i : Nat) (out : ByteArray), i + d = K + 4 → bytesN out = copyN (bytesN t) back i →
      Ev (fun k => headgateref32_piece.l0 k (K : Int) (back : Int) more part out (i : Int)) (strOfNums (ints (copyN (bytesN t) back (K + 4))), more, (0 : Int)) := by
  have hps : part.size = back := by rw [hpart, ByteArray.size_extract]; omega
  induction d with
  | zero =>
    intro i out hi ho
    obtain rfl : i = K + 4 := by omega
    refine Ev.step (f := ?f1) (fun k => ?_) ?_
    rotate_left
    · simp only [headgateref32_piece.l0]; rfl
    refine Ev.congr (fun k => if_neg (by rw [wrapS _ (by omega) (by omega)]; omega)) ?_
    rw [sn ho]; exact Ev.now _
  | succ d ih =>
    intro i out hi ho
    have hm := Nat.mod_lt i (show 0 < back by omega)
    have etm : Int.tmod (i : Int) (back : Int) = ((i % back : Nat) : Int) := tm i back
    have ew : wrap64 ((Int.tmod (i : Int) (back : Int)) + 1) = ((i % back + 1 : Nat) : Int) := by rw [etm, wrapS _ (by omega) (by omega)]; omega
    have hos : out.size = t.size + i := by rw [← bytesN_length, ho, copyN_len, bytesN_length]
    have hes : (part.extract (i % back) (i % back + 1)).size = 1 := by rw [ByteArray.size_extract]; omega
    refine Ev.step (f := ?f2) (fun k => ?_) ?_
    rotate_left
    · simp only [headgateref32_piece.l0]; rfl
    refine Ev.congr (fun k => if_pos (by rw [wrapS _ (by omega) (by omega)]; omega)) ?_
    refine Ev.congr (fun k => if_neg (by omega)) ?_
    rw [ew, etm, Int.toNat_natCast, Int.toNat_natCast]
    refine Ev.congr (fun k => if_pos (by omega)) ?_
    refine Ev.congr (fun k => if_pos (by omega)) ?_
    refine Ev.congr (fun k => if_pos (by omega)) ?_
    refine Ev.congr (fun k => if_pos (by omega)) ?_
    rw [wrapS ((i : Int) + 1) (by omega) (by omega)]
    refine ih (i + 1) _ (by omega) ?_
    rw [bytesN_append, ho, copyN_snoc, copyN_get (bytesN t) back hb (by rw [bytesN_length]; exact hbt) i _ (by rw [bytesN_length]; omega) (by rw [bytesN_length]; omega)]
    congr 1
    rw [bytesN_ext, show i % back + 1 - i % back = 1 by omega, hpart, bytesN_ext]
    have hl : ((bytesN t).drop (t.size - back)).length = back := by rw [List.length_drop, bytesN_length]; omega
    have e9 : ((bytesN t).drop (t.size - back)).take (t.size - (t.size - back)) = (bytesN t).drop (t.size - back) := List.take_of_length_le (by omega)
    rw [e9, List.drop_drop]
    rw [drop_at (bytesN t) (t.size - back + i % back) (by rw [bytesN_length]; omega)]
    simp only [List.take_succ_cons, List.take_zero]
    rw [bytesN_length, show t.size + i - back - (t.size - back) = i by omega]
/-- What the reference's piece tells. -/
def pieceRes (t s : ByteArray) (most : Int) : ByteArray × ByteArray × Int := match stepL most (bytesN t) (bytesN s) with
  | none => (⟨#[]⟩, ⟨#[]⟩, 2)
  | some p => (strOfNums (ints p.1), strOfNums (ints p.2), 0)
theorem takeRes_none {s : ByteArray} (h : takeL (bytesN s) = none) : takeRes s = (0, ⟨#[]⟩, 2) := by unfold takeRes; rw [h]
theorem takeRes_some {s : ByteArray} {n : Int} {r : List Nat} (h : takeL (bytesN s) = some (n, r)) : takeRes s = (n, strOfNums (ints r), 0) := by unfold takeRes; rw [h]
theorem rest_bytes {s : ByteArray} {n : Int} {r : List Nat} (h : takeL (bytesN s) = some (n, r)) : bytesN (strOfNums (ints r)) = r ∧ r.length < s.size ∧ -9223372036854775808 ≤ n ∧ n ≤ 9223372036854775807 := by
  obtain ⟨h1, h2⟩ := takeL_len (bytesN_lt s) h
  obtain ⟨-, h3, h4⟩ := takeL_canon (bytesN_lt s) h
  exact ⟨bytesN_strOfNums r h2, by rw [bytesN_length] at h1; exact h1, h3, h4⟩
theorem piece_ev (t s : ByteArray) (most : Int) (h0 : 0 ≤ most) (h1 : most ≤ 1048576) (ht : (t.size : Int) ≤ most) (hs : s.size ≤ 140737488351232) :
    Ev (fun k => headgateref32_piece.f k t s most) (pieceRes t s most) := by
  have fail0 (x9 : Int) (x10 : ByteArray) : Ev (fun k => headgateref32_piece.j0 k t most x9 x10 true) ((⟨#[]⟩ : ByteArray), (⟨#[]⟩ : ByteArray), (2 : Int)) := by
    refine Ev.step (fun k => ?_) (Ev.now _)
    simp only [headgateref32_piece.j0]; rw [if_pos trivial]
  have fail1 (x12 x13 : Int) (x14 : ByteArray) : Ev (fun k => headgateref32_piece.j1 k t x12 x13 x14 true) ((⟨#[]⟩ : ByteArray), (⟨#[]⟩ : ByteArray), (2 : Int)) := by
    refine Ev.step (fun k => ?_) (Ev.now _)
    simp only [headgateref32_piece.j1]; rw [if_pos trivial]
  have htk := rtake_ev s hs
  unfold headgateref32_piece.f
  cases hT : takeL (bytesN s) with
  | none =>
    rw [takeRes_none hT] at htk
    have e : pieceRes t s most = (⟨#[]⟩, ⟨#[]⟩, 2) := by unfold pieceRes; rw [stepL_none1 hT]
    rw [e]
    refine Ev.bind htk ?_
    exact Ev.congr (fun k => if_neg (show ¬ (2 : Int) = 0 by decide)) (fail0 _ _)
  | some p =>
    obtain ⟨n, r⟩ := p
    rw [takeRes_some hT] at htk
    obtain ⟨hr1, hr2, hn1, hn2⟩ := rest_bytes hT
    have hrs : (strOfNums (ints r)).size = r.length := strOfInts_size r
    have hstep := stepL_some1 (most := most) (out := bytesN t) hT
    rw [bytesN_length] at hstep
    refine Ev.bind htk ?_
    refine Ev.congr (fun k => if_pos (show (0 : Int) = 0 from rfl)) ?_
    by_cases c1 : n < 1
    · have e : pieceRes t s most = (⟨#[]⟩, ⟨#[]⟩, 2) := by unfold pieceRes; rw [hstep, if_pos (.inl c1)]
      rw [e]
      show Ev (fun k => headgateref32_piece.j0 k t most n (strOfNums (ints r)) (decide (n < 1))) _
      rw [decide_eq_true c1]; exact fail0 _ _
    show Ev (fun k => headgateref32_piece.j0 k t most n (strOfNums (ints r)) (decide (n < 1))) _
    rw [decide_eq_false c1]
    obtain ⟨m, rfl⟩ : ∃ m : Nat, n = (m : Int) := ⟨n.toNat, by omega⟩
    have ek : wrap64 (Int.tdiv (m : Int) 2) = ((m / 2 : Nat) : Int) := by rw [td2, wrapS _ (by omega) (by omega)]
    have ek2 : (m : Int) / 2 = ((m / 2 : Nat) : Int) := by omega
    have ek3 : (m : Int) % 2 = ((m % 2 : Nat) : Int) := by omega
    rw [ek2, ek3] at hstep
    refine Ev.step (f := ?f1) (fun k => ?_) ?_
    rotate_left
    · simp only [headgateref32_piece.j0]; rfl
    refine Ev.congr (fun k => if_neg (by decide)) ?_
    rw [ek, tm2, hrs]
    have ewm : wrap64 (most - (t.size : Int)) = most - t.size := wrapS _ (by omega) (by omega)
    rw [ewm]
    by_cases c2 : m % 2 = 0
    · refine Ev.congr (fun k => if_pos (by omega)) ?_
      have hstep2 : stepL most (bytesN t) (bytesN s) = if ((m / 2 : Nat) : Int) > r.length ∨ ((m / 2 : Nat) : Int) > most - t.size then none else some (bytesN t ++ r.take (m / 2), r.drop (m / 2)) := by
        rw [hstep]
        by_cases c : ((m / 2 : Nat) : Int) > most - t.size
        · rw [if_pos (.inr c), if_pos (.inr c)]
        · rw [if_neg (by omega), if_pos (by omega)]
          by_cases c' : ((m / 2 : Nat) : Int) > r.length
          · rw [if_pos c', if_pos (.inl c')]
          · rw [if_neg c', if_neg (by omega), Int.toNat_natCast]
      by_cases c3 : ((m / 2 : Nat) : Int) > r.length
      · have e : pieceRes t s most = (⟨#[]⟩, ⟨#[]⟩, 2) := by unfold pieceRes; rw [hstep2, if_pos (.inl c3)]
        rw [e]; exact Ev.congr (fun k => if_pos c3) (Ev.now _)
      refine Ev.congr (fun k => if_neg c3) ?_
      by_cases c4 : ((m / 2 : Nat) : Int) > most - t.size
      · have e : pieceRes t s most = (⟨#[]⟩, ⟨#[]⟩, 2) := by unfold pieceRes; rw [hstep2, if_pos (.inr c4)]
        rw [e]; exact Ev.congr (fun k => if_pos c4) (Ev.now _)
      refine Ev.congr (fun k => if_neg c4) ?_
      refine Ev.congr (fun k => if_pos (by omega)) ?_
      refine Ev.congr (fun k => if_pos (by omega)) ?_
      rw [Int.toNat_natCast]
      refine Ev.congr (fun k => if_pos (by rw [ByteArray.size_extract]; omega)) ?_
      have e : pieceRes t s most = (t ++ (strOfNums (ints r)).extract 0 (m / 2), (strOfNums (ints r)).extract (m / 2) r.length, 0) := by
        unfold pieceRes
        rw [hstep2, if_neg (by omega)]
        show (strOfNums (ints (bytesN t ++ r.take (m / 2))), strOfNums (ints (r.drop (m / 2))), (0 : Int)) = _
        rw [sn (L := bytesN t ++ r.take (m / 2)) (b := t ++ (strOfNums (ints r)).extract 0 (m / 2)) (by rw [bytesN_append, bytesN_take, hr1]),
          sn (L := r.drop (m / 2)) (b := (strOfNums (ints r)).extract (m / 2) r.length) (by rw [← hrs, bytesN_drop, hr1])]
      rw [e]; exact Ev.now _
    · refine Ev.congr (fun k => if_neg (by omega)) ?_
      have htk2 := rtake_ev (strOfNums (ints r)) (by omega)
      have hstep2 : stepL most (bytesN t) (bytesN s) = if ((m / 2 : Nat) : Int) > most - t.size then none else (takeL r).bind fun q =>
          if q.1 < 1 ∨ q.1 > 4096 ∨ q.1 > t.size ∨ ((m / 2 : Nat) : Int) > most - t.size - 4 then none else some (copyN (bytesN t) q.1.toNat (m / 2 + 4), q.2) := by
        rw [hstep]
        by_cases c : ((m / 2 : Nat) : Int) > most - t.size
        · rw [if_pos (.inr c), if_pos c]
        · rw [if_neg (by omega), if_neg c, if_neg (by omega), show (((m / 2 : Nat) : Int) + 4).toNat = m / 2 + 4 by omega]
      cases hT2 : takeL r with
      | none =>
        have e : pieceRes t s most = (⟨#[]⟩, ⟨#[]⟩, 2) := by
          unfold pieceRes; rw [hstep2, hT2]
          split <;> rename_i hx
          · rfl
          · split at hx <;> cases hx
        rw [takeRes_none (by rw [hr1]; exact hT2)] at htk2
        rw [e]
        refine Ev.bind htk2 ?_
        exact Ev.congr (fun k => if_neg (show ¬ (2 : Int) = 0 by decide)) (fail1 _ _ _)
      | some q =>
        obtain ⟨b, r2⟩ := q
        have hT3 : takeL (bytesN (strOfNums (ints r))) = some (b, r2) := by rw [hr1]; exact hT2
        rw [takeRes_some hT3] at htk2
        obtain ⟨hq1, hq2, hb1, hb2⟩ := rest_bytes hT3
        rw [hT2, Option.bind_some] at hstep2
        have bad (h : b < 1 ∨ b > 4096 ∨ b > t.size ∨ ((m / 2 : Nat) : Int) > most - t.size - 4) : pieceRes t s most = (⟨#[]⟩, ⟨#[]⟩, 2) := by
          unfold pieceRes
          rw [hstep2]
          by_cases c : ((m / 2 : Nat) : Int) > most - t.size
          · rw [if_pos c]
          · rw [if_neg c]; rw [if_pos h]
        refine Ev.bind htk2 ?_
        refine Ev.congr (fun k => if_pos (show (0 : Int) = 0 from rfl)) ?_
        by_cases d1 : b < 1
        · rw [bad (.inl d1)]; exact Ev.congr (fun k => if_pos d1) (fail1 _ _ _)
        refine Ev.congr (fun k => if_neg d1) ?_
        by_cases d2 : b > 4096
        · rw [bad (.inr (.inl d2))]; exact Ev.congr (fun k => if_pos d2) (fail1 _ _ _)
        refine Ev.congr (fun k => if_neg d2) ?_
        by_cases d3 : b > (t.size : Int)
        · rw [bad (.inr (.inr (.inl d3)))]; exact Ev.congr (fun k => if_pos d3) (fail1 _ _ _)
        refine Ev.congr (fun k => if_neg d3) ?_
        have ew4 : wrap64 (most - (t.size : Int) - 4) = most - t.size - 4 := wrapS _ (by omega) (by omega)
        show Ev (fun k => headgateref32_piece.j1 k t ((m / 2 : Nat) : Int) b (strOfNums (ints r2)) (decide (((m / 2 : Nat) : Int) > wrap64 (most - (t.size : Int) - 4)))) _
        rw [ew4]
        by_cases d4 : ((m / 2 : Nat) : Int) > most - t.size - 4
        · rw [bad (.inr (.inr (.inr d4))), decide_eq_true d4]; exact fail1 _ _ _
        rw [decide_eq_false d4]
        obtain ⟨back, rfl⟩ : ∃ back : Nat, b = (back : Int) := ⟨b.toNat, by omega⟩
        refine Ev.step (f := ?f2) (fun k => ?_) ?_
        rotate_left
        · simp only [headgateref32_piece.j1]; rfl
        refine Ev.congr (fun k => if_neg (by decide)) ?_
        have ewb : wrap64 ((t.size : Int) - (back : Int)) = ((t.size - back : Nat) : Int) := by rw [wrapS _ (by omega) (by omega)]; omega
        rw [ewb]
        refine Ev.congr (fun k => if_pos (by omega)) ?_
        refine Ev.congr (fun k => if_pos (by omega)) ?_
        rw [Int.toNat_natCast]
        have e : pieceRes t s most = (strOfNums (ints (copyN (bytesN t) back (m / 2 + 4))), strOfNums (ints r2), 0) := by
          unfold pieceRes
          rw [hstep2, if_neg (by omega), if_neg (by omega)]
          rfl
        rw [e]
        exact piece_l0 t (strOfNums (ints r2)) (t.extract (t.size - back) t.size) (m / 2) back (by omega) (by omega) (by omega) (by omega) (by omega) rfl (m / 2 + 4) 0 t (by omega) rfl
theorem copyN_lt (back m : Nat) : ∀ L : List Nat, (∀ b ∈ L, b < 256) → ∀ b ∈ copyN L back m, b < 256 := by
  induction m with
  | zero => intro L h; exact h
  | succ m ih =>
    intro L h
    refine ih _ fun b hb => ?_
    rcases List.mem_append.1 hb with hb | hb
    · exact h b hb
    · rw [List.mem_singleton] at hb
      rw [hb]
      by_cases hx : L.length - back < L.length
      · simp only [List.getD]; rw [List.getElem?_eq_getElem hx]; exact h _ (List.getElem_mem _)
      · simp only [List.getD]; rw [List.getElem?_eq_none (by omega)]; decide
theorem stepL_lt {most : Int} {out l o r : List Nat} (ho : ∀ b ∈ out, b < 256) (hl : ∀ b ∈ l, b < 256) (h : stepL most out l = some (o, r)) : ∀ b ∈ o, b < 256 := by
  unfold stepL at h
  cases ht : takeL l with
  | none => rw [ht] at h; cases h
  | some p =>
    rw [ht, Option.bind_some] at h
    obtain ⟨-, h2⟩ := takeL_len hl ht
    split at h
    · cases h
    split at h
    · split at h
      · cases h
      · obtain ⟨rfl, -⟩ := Prod.mk.inj (Option.some.inj h)
        intro b hb
        rcases List.mem_append.1 hb with hb | hb
        · exact ho b hb
        · exact h2 b (List.mem_of_mem_take hb)
    · cases hq : takeL p.2 with
      | none => rw [hq] at h; cases h
      | some q =>
        rw [hq, Option.bind_some] at h
        split at h
        · cases h
        · obtain ⟨rfl, -⟩ := Prod.mk.inj (Option.some.inj h)
          exact copyN_lt _ _ _ ho
theorem runp_l0 (most : Int) (h0 : 0 ≤ most) (h1 : most ≤ 1048576) (f : Nat) : ∀ (s t : ByteArray), s.size < f → s.size ≤ 140737488351232 → (t.size : Int) ≤ most →
    Ev (fun k => headgateref32_Unpack.l0 k s most t) (resU (unpL f most (bytesN t) (bytesN s))) := by
  induction f with
  | zero => intro s t h; omega
  | succ f ih =>
    intro s t hf hs ht
    refine Ev.step (f := ?f1) (fun k => ?_) ?_
    rotate_left
    · simp only [headgateref32_Unpack.l0]; rfl
    simp only [unpL]
    by_cases he : bytesN s = []
    · have hz : s.size = 0 := by rw [← bytesN_length, he]; rfl
      rw [if_pos he]
      refine Ev.congr (fun k => if_neg (by omega)) ?_
      show Ev _ (strOfNums (ints (bytesN t)), (0 : Int))
      rw [strOfNums_bytesN]; exact Ev.now _
    · have hz : 0 < s.size := by
        rcases Nat.eq_zero_or_pos s.size with z | z
        · rw [← bytesN_length] at z; exact absurd (List.length_eq_zero_iff.mp z) he
        · exact z
      rw [if_neg he]
      refine Ev.congr (fun k => if_pos (by omega)) ?_
      have hp := piece_ev t s most h0 h1 ht hs
      cases hS : stepL most (bytesN t) (bytesN s) with
      | none =>
        have e : pieceRes t s most = (⟨#[]⟩, ⟨#[]⟩, 2) := by unfold pieceRes; rw [hS]
        rw [e] at hp
        refine Ev.bind hp ?_
        exact Ev.congr (fun k => if_neg (show ¬ (2 : Int) = 0 by decide)) (Ev.now _)
      | some p =>
        obtain ⟨o, r⟩ := p
        have e : pieceRes t s most = (strOfNums (ints o), strOfNums (ints r), 0) := by unfold pieceRes; rw [hS]
        rw [e] at hp
        obtain ⟨hr1, hr2⟩ := stepL_len (bytesN_lt s) hS
        have ho := stepL_lt (bytesN_lt t) (bytesN_lt s) hS
        have hm := stepL_most (by rw [bytesN_length]; exact ht) hS
        rw [bytesN_length] at hr1
        have := ih (strOfNums (ints r)) (strOfNums (ints o)) (by rw [strOfInts_size]; omega) (by rw [strOfInts_size]; omega) (by rw [strOfInts_size]; exact hm)
        rw [show bytesN (strOfNums (ints o)) = o from bytesN_strOfNums o ho, show bytesN (strOfNums (ints r)) = r from bytesN_strOfNums r hr2] at this
        refine Ev.bind hp ?_
        refine Ev.congr (fun k => if_pos (show (0 : Int) = 0 from rfl)) ?_
        exact this
theorem runpack_ev (s : ByteArray) (most : Int) (hs : s.size ≤ 140737488351232) : Ev (fun k => headgateref32_Unpack.f k s most) (unpackR s most) := by
  have fail : Ev (fun k => headgateref32_Unpack.j0 k s most true) ((⟨#[]⟩ : ByteArray), (1 : Int)) := by
    refine Ev.step (fun k => ?_) (Ev.now _)
    simp only [headgateref32_Unpack.j0]; rw [if_pos trivial]
  unfold headgateref32_Unpack.f unpackR
  by_cases h1 : most < 0
  · rw [if_pos (.inl h1)]; exact Ev.congr (fun k => if_pos h1) fail
  refine Ev.congr (fun k => if_neg h1) ?_
  by_cases h2 : most > 1048576
  · rw [if_pos (.inr h2), decide_eq_true h2]; exact fail
  rw [if_neg (by omega), decide_eq_false h2]
  refine Ev.step (f := ?f2) (fun k => ?_) ?_
  rotate_left
  · simp only [headgateref32_Unpack.j0]; rfl
  refine Ev.congr (fun k => if_neg (by decide)) ?_
  exact runp_l0 most (by omega) (by omega) (s.size + 1) s ⟨#[]⟩ (by omega) hs (by show ((0 : Nat) : Int) ≤ most; omega)
end Go.Proofs.Ytahemhjlfajlkaa.PL
