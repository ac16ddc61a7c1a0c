/- What is packed is unpacked as it was, cut off it is a beginning or none: over lists. -/
import Derived.Test.YtahemhjlfajlkaaXUnp
import Derived.Test.YtahemhjlfajlkaaXPack
namespace Go.Proofs.Ytahemhjlfajlkaa.PL
open Go.RowKit Go.Proofs.YtahemhjlfajlkaaW.PrintWords Go.Proofs.YtahemhjlfajlkaaW.PrintLast Go.Proofs.YtahemhjlfajlkaaW.PrintMore
set_option linter.unusedVariables false
set_option linter.unusedSimpArgs false

/-! ### Packed texts, plain -/
def Most : Int := 1048576
theorem prefix_app {q a b : List Nat} (h : q <+: a ++ b) : (q <+: a ∧ q ≠ a) ∨ ∃ r, q = a ++ r ∧ r <+: b := by
  obtain ⟨t, ht⟩ := h
  rcases List.append_eq_append_iff.mp ht with ⟨c, h1, h2⟩ | ⟨c, h1, h2⟩
  · by_cases e : c = []
    · subst e; refine .inr ⟨[], ?_, List.nil_prefix⟩; rw [List.append_nil] at h1 ⊢; exact h1.symm
    · exact .inl ⟨⟨c, h1.symm⟩, fun x => e (by rw [x] at h1; exact List.self_eq_append_right.mp h1)⟩
  · exact .inr ⟨c, h1, ⟨t, h2.symm⟩⟩
theorem takeL_prefix {u : Nat} {q : List Nat} (h : q <+: lebN u) (hne : q ≠ lebN u) : takeL q = none := by
  unfold takeL; rw [vT_prefix u 0 0 q h hne]; rfl
structure Good (out l o : List Nat) : Prop where
  pre : out <+: o
  dec : ∀ (most : Int) (f : Nat), most ≤ Most → (out.length : Int) ≤ most → l.length < f → unpL f most out l = if (o.length : Int) ≤ most then some o else none
  cut : ∀ q, q <+: l → q ≠ l → ∀ f, q.length < f → unpL f Most out q = none ∨ ∃ o', unpL f Most out q = some o' ∧ o' <+: o ∧ o'.length < o.length
theorem Good_nil (out : List Nat) : Good out [] out where
  pre := List.prefix_refl _
  dec := fun most f _ h hf => by
    obtain ⟨f, rfl⟩ : ∃ g, f = g + 1 := ⟨f - 1, by omega⟩
    simp only [unpL]; rw [if_pos trivial, if_pos h]
  cut := fun q h hne => absurd (List.prefix_nil.mp h) hne
theorem pre_len {a b : List Nat} (h : a <+: b) : a.length ≤ b.length := h.length_le
theorem unp_step {f : Nat} {most : Int} {out l : List Nat} (h : l ≠ []) : unpL (f + 1) most out l = (stepL most out l).bind fun p => unpL f most p.1 p.2 := by
  simp only [unpL]; rw [if_neg h]
theorem app_ne {a b : List Nat} (h : 1 ≤ a.length) : a ++ b ≠ [] := by
  intro e; rw [List.append_eq_nil_iff] at e; rw [e.1] at h; simp at h
theorem step_lit (most : Int) (out p r : List Nat) (m : Nat) (hm1 : 1 ≤ m) (hm : m ≤ 1048576) :
    stepL most out (lebN (zz (2 * (m : Int))) ++ r) = if (m : Int) > most - out.length then none else if (m : Int) > r.length then none else some (out ++ r.take m, r.drop m) := by
  rw [stepL_some1 (takeL_put (2 * (m : Int)) r (by omega) (by omega)), show 2 * (m : Int) / 2 = (m : Int) by omega]
  by_cases h : (m : Int) > most - out.length
  · rw [if_pos (.inr h), if_pos h]
  · rw [if_neg (by omega), if_neg h, if_pos (by omega), Int.toNat_natCast]
theorem step_copy (most : Int) (out r : List Nat) (m : Nat) (hm1 : 4 ≤ m) (hm : m ≤ 1048576) :
    stepL most out (lebN (zz (2 * ((m : Int) - 4) + 1)) ++ r) = if (m : Int) - 4 > most - out.length then none else (takeL r).bind fun q =>
      if q.1 < 1 ∨ q.1 > 4096 ∨ q.1 > out.length ∨ (m : Int) - 4 > most - out.length - 4 then none else some (copyN out q.1.toNat m, q.2) := by
  rw [stepL_some1 (takeL_put (2 * ((m : Int) - 4) + 1) r (by omega) (by omega)), show (2 * ((m : Int) - 4) + 1) / 2 = (m : Int) - 4 by omega, show ((m : Int) - 4 + 4).toNat = m by omega]
  by_cases h : (m : Int) - 4 > most - out.length
  · rw [if_pos (.inr h), if_pos h]
  · rw [if_neg (by omega), if_neg h, if_neg (by omega)]
theorem Good_lit {out p l o : List Nat} (hp : 1 ≤ p.length) (hp2 : p.length ≤ 1048576) (h : Good (out ++ p) l o) : Good out (lebN (zz (2 * (p.length : Int))) ++ (p ++ l)) o where
  pre := List.IsPrefix.trans (List.prefix_append out p) h.pre
  dec := fun most f hM ho hf => by
    obtain ⟨f, rfl⟩ : ∃ g, f = g + 1 := ⟨f - 1, by omega⟩
    have hl := pre_len h.pre
    rw [List.length_append] at hl
    rw [unp_step (app_ne (lebN_pos _)), step_lit most out p _ _ hp hp2]
    by_cases hc : (p.length : Int) > most - out.length
    · rw [if_pos hc, if_neg (by omega)]; rfl
    · rw [if_neg hc, if_neg (by rw [List.length_append]; omega), Option.bind_some]
      simp only
      rw [List.take_left, List.drop_left]
      refine h.dec most f hM (by rw [List.length_append]; omega) ?_
      have := lebN_pos (zz (2 * (p.length : Int)))
      rw [List.length_append, List.length_append] at hf; omega
  cut := fun q hq hne f hf => by
    obtain ⟨f, rfl⟩ : ∃ g, f = g + 1 := ⟨f - 1, by omega⟩
    have hl := pre_len h.pre
    rw [List.length_append] at hl
    by_cases hq0 : q = []
    · subst hq0
      refine .inr ⟨out, by simp only [unpL]; rw [if_pos trivial], List.IsPrefix.trans (List.prefix_append out p) h.pre, by omega⟩
    rw [unp_step hq0]
    rcases prefix_app hq with ⟨h1, h2⟩ | ⟨r, rfl, h2⟩
    · rw [stepL_none1 (takeL_prefix h1 h2)]; exact .inl rfl
    rw [step_lit Most out p _ _ hp hp2]
    by_cases hc : (p.length : Int) > Most - out.length
    · rw [if_pos hc]; exact .inl rfl
    rw [if_neg hc]
    by_cases hc2 : (p.length : Int) > r.length
    · rw [if_pos hc2]; exact .inl rfl
    rw [if_neg hc2, Option.bind_some]
    simp only
    rcases prefix_app h2 with ⟨h3, h4⟩ | ⟨r2, rfl, h3⟩
    · have := pre_len h3
      exact absurd (h3.eq_of_length (by omega)) h4
    rw [List.take_left, List.drop_left]
    refine h.cut r2 h3 (fun e => hne (by rw [e])) f ?_
    have := lebN_pos (zz (2 * (p.length : Int)))
    rw [List.length_append, List.length_append] at hf; omega
theorem Good_copy {out l o : List Nat} {back m : Nat} (hm : 4 ≤ m) (hm2 : m ≤ 1048576) (hb1 : 1 ≤ back) (hb2 : back ≤ 4096) (hb3 : back ≤ out.length) (hpre : out <+: o) (h : Good (copyN out back m) l o) :
    Good out (lebN (zz (2 * ((m : Int) - 4) + 1)) ++ (lebN (zz (back : Int)) ++ l)) o where
  pre := hpre
  dec := fun most f hM ho hf => by
    obtain ⟨f, rfl⟩ : ∃ g, f = g + 1 := ⟨f - 1, by omega⟩
    have hl := pre_len h.pre
    rw [copyN_len] at hl
    rw [unp_step (app_ne (lebN_pos _)), step_copy most out _ _ hm hm2, takeL_put (back : Int) l (by omega) (by omega), Option.bind_some]
    simp only
    by_cases hc : (m : Int) - 4 > most - out.length
    · rw [if_pos hc, if_neg (by omega)]; rfl
    rw [if_neg hc]
    by_cases hc2 : (m : Int) - 4 > most - out.length - 4
    · rw [if_pos (by omega), if_neg (by omega)]; rfl
    rw [if_neg (by omega), Option.bind_some]
    simp only
    rw [Int.toNat_natCast]
    refine h.dec most f hM (by rw [copyN_len]; omega) ?_
    have := lebN_pos (zz (2 * ((m : Int) - 4) + 1))
    rw [List.length_append, List.length_append] at hf; omega
  cut := fun q hq hne f hf => by
    obtain ⟨f, rfl⟩ : ∃ g, f = g + 1 := ⟨f - 1, by omega⟩
    have hl := pre_len h.pre
    rw [copyN_len] at hl
    by_cases hq0 : q = []
    · subst hq0
      exact .inr ⟨out, by simp only [unpL]; rw [if_pos trivial], hpre, by omega⟩
    rw [unp_step hq0]
    rcases prefix_app hq with ⟨h1, h2⟩ | ⟨r, rfl, h2⟩
    · rw [stepL_none1 (takeL_prefix h1 h2)]; exact .inl rfl
    rw [step_copy Most out _ _ hm hm2]
    by_cases hc : (m : Int) - 4 > Most - out.length
    · rw [if_pos hc]; exact .inl rfl
    rw [if_neg hc]
    rcases prefix_app h2 with ⟨h3, h4⟩ | ⟨r2, rfl, h3⟩
    · rw [takeL_prefix h3 h4]; exact .inl rfl
    rw [takeL_put (back : Int) r2 (by omega) (by omega), Option.bind_some]
    simp only
    by_cases hc2 : (m : Int) - 4 > Most - out.length - 4
    · rw [if_pos (by omega)]; exact .inl rfl
    rw [if_neg (by omega), Option.bind_some]
    simp only
    rw [Int.toNat_natCast]
    refine h.cut r2 h3 (fun e => hne (by rw [e])) f ?_
    have := lebN_pos (zz (2 * ((m : Int) - 4) + 1))
    rw [List.length_append, List.length_append] at hf; omega
theorem copyN_take (L : List Nat) (p i : Nat) (hp : p < i) (n : Nat) : ∀ j, j ≤ n → i + n ≤ L.length → (∀ t, t < n → L.getD (p + t) 0 = L.getD (i + t) 0) → copyN (L.take (i + (n - j))) (i - p) j = L.take (i + n) := by
  intro j
  induction j with
  | zero => intro _ _ _; rfl
  | succ j ih =>
    intro hj hl ht
    have hlen : (L.take (i + (n - (j + 1)))).length = i + (n - (j + 1)) := by rw [List.length_take]; omega
    simp only [copyN]
    have e1 : (L.take (i + (n - (j + 1)))).getD ((L.take (i + (n - (j + 1)))).length - (i - p)) 0 = L.getD (i + (n - (j + 1))) 0 := by
      rw [hlen, ← ht (n - (j + 1)) (by omega)]
      simp only [List.getD, List.getElem?_take]
      rw [if_pos (by omega), show i + (n - (j + 1)) - (i - p) = p + (n - (j + 1)) by omega]
    have e2 : L.take (i + (n - (j + 1))) ++ [L.getD (i + (n - (j + 1))) 0] = L.take (i + (n - j)) := by
      have hlt : i + (n - (j + 1)) < L.length := by omega
      rw [show i + (n - j) = i + (n - (j + 1)) + 1 by omega, List.take_succ_eq_append_getElem hlt]
      simp [List.getD, hlt]
    rw [e1, e2]
    exact ih (by omega) hl ht
theorem byteAt_getD (s : ByteArray) (i : Nat) : byteAt s i = (bytesN s).getD i 0 := by
  unfold byteAt bytesN
  simp only [List.getD, List.getElem?_map]
  cases s.data.toList[i]? <;> rfl
theorem alikeF_spec (d : Nat) (s : ByteArray) : ∀ a b t, t < alikeF d s a b → byteAt s (a + t) = byteAt s (b + t) := by
  induction d with
  | zero => intro a b t h; exact absurd h (Nat.not_lt_zero _)
  | succ d ih =>
    intro a b t h
    simp only [alikeF] at h
    by_cases hc : b < s.size ∧ byteAt s a = byteAt s b
    · rw [if_pos hc] at h
      cases t with
      | zero => exact hc.2
      | succ t =>
        have := ih (a + 1) (b + 1) t (by omega)
        rw [show a + (t + 1) = a + 1 + t by omega, show b + (t + 1) = b + 1 + t by omega]; exact this
    · rw [if_neg hc] at h; omega
/-- A list of bytes as numbers. -/
def nums (l : List UInt8) : List Nat := l.map UInt8.toNat
theorem nums_app (a b : List UInt8) : nums (a ++ b) = nums a ++ nums b := by unfold nums; rw [List.map_append]
theorem nums_data (s : ByteArray) : nums s.data.toList = bytesN s := rfl
theorem putB_nums (n : Int) (h1 : -9223372036854775808 ≤ n) (h2 : n ≤ 9223372036854775807) : nums (putB n).data.toList = lebN (zz n) := putB_list n h1 h2
theorem litL_nums (s : ByteArray) (hs : s.size ≤ 1048576) : nums (litL s) = if bytesN s = [] then [] else lebN (zz (2 * ((bytesN s).length : Int))) ++ bytesN s := by
  unfold litL
  by_cases h : s.data.toList = []
  · rw [if_pos h, if_pos (by unfold bytesN; rw [h]; rfl)]; rfl
  · rw [if_neg h, if_neg (by unfold bytesN; rw [List.map_eq_nil_iff]; exact h), nums_app, putB_nums _ (by omega) (by omega), nums_data, bytesN_length]
theorem putAll2_nums (a b : Int) (h1 : -9223372036854775808 ≤ a) (h2 : a ≤ 9223372036854775807) (h3 : -9223372036854775808 ≤ b) (h4 : b ≤ 9223372036854775807) : nums (putAllB [a, b]).data.toList = lebN (zz a) ++ lebN (zz b) := by
  have e : (putAllB [a, b]).data.toList = (putB a).data.toList ++ (putB b).data.toList := by
    show (putsL [a, b]).toArray.toList = _
    unfold putsL; simp
  rw [e, nums_app, putB_nums a h1 h2, putB_nums b h3 h4]
theorem Good_litL {s : ByteArray} {i j : Nat} {l : List Nat} (hij : i ≤ j) (hj : j ≤ s.size) (hs : s.size ≤ 1048576) (h : Good ((bytesN s).take j) l (bytesN s)) : Good ((bytesN s).take i) (nums (litL (s.extract i j)) ++ l) (bytesN s) := by
  have hb : bytesN (s.extract i j) = ((bytesN s).drop i).take (j - i) := by
    unfold bytesN
    rw [ByteArray.data_extract, Array.toList_extract, List.extract_eq_take_drop, List.map_take, List.map_drop]
  have hbl : ((bytesN s).drop i).length = s.size - i := by rw [List.length_drop, bytesN_length]
  have hap : (bytesN s).take i ++ ((bytesN s).drop i).take (j - i) = (bytesN s).take j := by
    have := List.take_add (l := bytesN s) (i := i) (j := j - i)
    rw [show i + (j - i) = j by omega] at this
    exact this.symm
  rw [litL_nums _ (by rw [ByteArray.size_extract]; omega), hb]
  by_cases e : ((bytesN s).drop i).take (j - i) = []
  · rw [if_pos e, List.nil_append]
    rw [e, List.append_nil] at hap
    rw [hap]; exact h
  · rw [if_neg e, List.append_assoc]
    have hlen : (((bytesN s).drop i).take (j - i)).length = j - i := by rw [List.length_take, hbl]; omega
    refine Good_lit ?_ (by omega) (by rw [hap]; exact h)
    rcases Nat.eq_zero_or_pos (((bytesN s).drop i).take (j - i)).length with z | z
    · exact absurd (List.length_eq_zero_iff.mp z) e
    · exact z
theorem partsF_good (s : ByteArray) (hs : s.size ≤ 1048576) (f : Nat) : ∀ (i start : Nat) (out : List UInt8), start ≤ i → i ≤ s.size → s.size + 1 ≤ f + i →
    ∃ tail, partsF s f i start out = out ++ tail ∧ Good ((bytesN s).take start) (nums tail) (bytesN s) := by
  have hfull : (bytesN s).take s.size = bytesN s := List.take_of_length_le (by rw [bytesN_length]; omega)
  induction f with
  | zero => intro i start out h1 h2 h3; omega
  | succ f ih =>
    intro i start out h1 h2 h3
    simp only [partsF]
    by_cases h4 : i + 4 ≤ s.size
    · rw [if_pos h4]
      rcases hL : lastOcc s i i with _ | p
      · exact ih (i + 1) start out (by omega) (by omega) (by omega)
      simp only
      by_cases hf : i - p > 4096
      · rw [if_pos hf]; exact ih (i + 1) start out (by omega) (by omega) (by omega)
      rw [if_neg hf]
      obtain ⟨hp1, hp2⟩ := lastOcc_some s i i p hL
      have h5 : 4 ≤ alikeN s p i := alikeF_four s p i _ (by omega) h4 hp2
      have h6 := alikeN_le s p i h2
      have h7 : ∀ t, t < alikeN s p i → (bytesN s).getD (p + t) 0 = (bytesN s).getD (i + t) 0 := fun t ht => by
        rw [← byteAt_getD, ← byteAt_getD]; exact alikeF_spec _ s p i t ht
      generalize alikeN s p i = n at h5 h6 h7 ⊢
      obtain ⟨tail, e1, e2⟩ := ih (i + n) (i + n) (out ++ litL (s.extract start i) ++ (putAllB [2 * ((n : Int) - 4) + 1, (i : Int) - p]).data.toList) (Nat.le_refl _) h6 (by omega)
      refine ⟨litL (s.extract start i) ++ ((putAllB [2 * ((n : Int) - 4) + 1, (i : Int) - p]).data.toList ++ tail), by rw [e1]; simp only [List.append_assoc], ?_⟩
      rw [nums_app, nums_app, putAll2_nums _ _ (by omega) (by omega) (by omega) (by omega), List.append_assoc]
      refine Good_litL h1 h2 hs ?_
      rw [show (i : Int) - (p : Int) = ((i - p : Nat) : Int) by omega]
      have hlen : ((bytesN s).take i).length = i := by rw [List.length_take, bytesN_length]; omega
      refine Good_copy h5 (by omega) (by omega) (by omega) (by rw [hlen]; omega) (List.take_prefix _ _) ?_
      have := copyN_take (bytesN s) p i hp1 n n (Nat.le_refl _) (by rw [bytesN_length]; exact h6) h7
      rw [Nat.sub_self, Nat.add_zero] at this
      rw [this]; exact e2
    · rw [if_neg h4]
      refine ⟨litL (s.extract start s.size), rfl, ?_⟩
      have := Good_litL (s := s) (i := start) (j := s.size) (l := []) (by omega) (Nat.le_refl _) hs (by rw [hfull]; exact Good_nil _)
      rw [List.append_nil] at this; exact this
theorem parts_good (s : ByteArray) (hs : s.size ≤ 1048576) : Good [] (nums (partsL s)) (bytesN s) := by
  obtain ⟨tail, e1, e2⟩ := partsF_good s hs (s.size + 1) 0 0 [] (Nat.le_refl _) (Nat.zero_le _) (by omega)
  unfold partsL
  rw [e1, List.nil_append]; exact e2
theorem again_good (s : ByteArray) (hs : s.size ≤ 1048576) : Good [] (nums (againL s)) (bytesN s) := by
  have hfull : (bytesN s).take s.size = bytesN s := List.take_of_length_le (by rw [bytesN_length]; omega)
  have hpi : piN s s.size ≤ s.size := piF_le s s.size s.size
  unfold againL
  rw [nums_app]
  by_cases hc : 4096 < s.size - piN s s.size ∨ piN s s.size < 4
  · have e : cutN s = s.size := if_pos hc
    rw [e, if_neg (by omega)]
    exact Good_litL (s := s) (i := 0) (j := s.size) (Nat.zero_le _) (Nat.le_refl _) hs (by rw [hfull]; exact Good_nil _)
  · have e : cutN s = s.size - piN s s.size := if_neg hc
    have hpos : 0 < s.size := by omega
    have hB := piN_is s s.size hpos
    have hlt := piN_lt s s.size hpos
    rw [e, if_pos (by omega), putAll2_nums _ _ (by omega) (by omega) (by omega) (by omega)]
    refine Good_litL (s := s) (i := 0) (j := s.size - piN s s.size) (Nat.zero_le _) (by omega) hs ?_
    have hlen : ((bytesN s).take (s.size - piN s s.size)).length = s.size - piN s s.size := by rw [List.length_take, bytesN_length]; omega
    have ew : s.size - (s.size - piN s s.size) = piN s s.size := by omega
    rw [ew]
    have hg := Good_copy (out := (bytesN s).take (s.size - piN s s.size)) (l := []) (o := bytesN s) (back := s.size - piN s s.size) (m := piN s s.size) (by omega) (by omega) (by omega) (by omega) (by rw [hlen]; omega) (List.take_prefix _ _) ?_
    · rw [List.append_nil] at hg; exact hg
    · have := copyN_take (bytesN s) 0 (s.size - piN s s.size) (by omega) (piN s s.size) (piN s s.size) (Nat.le_refl _) (by rw [bytesN_length]; omega) (fun t ht => by
        rw [← byteAt_getD, ← byteAt_getD, Nat.zero_add]; exact hB.2 t ht)
      rw [Nat.sub_self, Nat.add_zero, Nat.sub_zero, show s.size - piN s s.size + piN s s.size = s.size by omega, hfull] at this
      rw [this]; exact Good_nil _
end Go.Proofs.Ytahemhjlfajlkaa.PL
