/- What lz.Unpack comes to, over lists. -/
import Derived.Test.YtahemhjlfajlkaaXVint
import Derived.Test.YtahemhjlfajlkaaPLx1
namespace Go.Proofs.Ytahemhjlfajlkaa.PL
open Go.RowKit Go.Proofs.YtahemhjlfajlkaaW.PrintWords Go.Proofs.YtahemhjlfajlkaaW.PrintLast Go.Proofs.YtahemhjlfajlkaaW.PrintMore
set_option linter.unusedVariables false
set_option linter.unusedSimpArgs false

/-! ### Unpacking, plain -/
def ints (L : List Nat) : List Int := L.map Int.ofNat
theorem ints_length (L : List Nat) : (ints L).length = L.length := List.length_map ..
def copyN (out : List Nat) (back : Nat) : Nat → List Nat
  | 0 => out
  | m + 1 => copyN (out ++ [out.getD (out.length - back) 0]) back m
def stepL (most : Int) (out l : List Nat) : Option (List Nat × List Nat) :=
  (takeL l).bind fun p =>
    if p.1 < 1 ∨ p.1 / 2 > most - out.length then none
    else if p.1 % 2 = 0 then (if p.1 / 2 > p.2.length then none else some (out ++ p.2.take (p.1 / 2).toNat, p.2.drop (p.1 / 2).toNat))
    else (takeL p.2).bind fun q =>
      if q.1 < 1 ∨ q.1 > 4096 ∨ q.1 > out.length ∨ p.1 / 2 > most - out.length - 4 then none else some (copyN out q.1.toNat (p.1 / 2 + 4).toNat, q.2)
def unpL : Nat → Int → List Nat → List Nat → Option (List Nat)
  | 0, _, _, _ => none
  | f + 1, most, out, l => if l = [] then some out else (stepL most out l).bind fun p => unpL f most p.1 p.2
def resU : Option (List Nat) → ByteArray × Int
  | none => (⟨#[]⟩, 2)
  | some o => (strOfNums (ints o), 0)
theorem lebN_pos (u : Nat) : 1 ≤ (lebN u).length := by rw [lebN]; split <;> simp
theorem takeL_len {l rest : List Nat} {n : Int} (hl : ∀ b ∈ l, b < 256) (h : takeL l = some (n, rest)) : rest.length < l.length ∧ ∀ b ∈ rest, b < 256 := by
  obtain ⟨e, -, -⟩ := takeL_canon hl h
  have := lebN_pos (zz n)
  refine ⟨by rw [e, List.length_append]; omega, fun b hb => hl b ?_⟩
  rw [e]; exact List.mem_append_right _ hb
theorem copyN_len (m : Nat) : ∀ (out : List Nat) (back : Nat), (copyN out back m).length = out.length + m := by
  induction m with
  | zero => intro out back; rfl
  | succ m ih => intro out back; simp only [copyN]; rw [ih, List.length_append]; simp; omega
theorem rd_ints (L : List Nat) (i : Nat) : rd (ints L) (i : Int) = ((L.getD i 0 : Nat) : Int) := by
  unfold rd ints
  simp only [Int.toNat_natCast, List.getD, List.getElem?_map]
  cases L[i]? <;> rfl
theorem wrap_small (x : Int) (h1 : -9223372036854775808 ≤ x) (h2 : x ≤ 9223372036854775807) : wrap64 x = x := by unfold wrap64; omega
theorem unp_l1 (most : Int) (s : ByteArray) (back : Nat) (r : ByteArray × Int) (M : Nat) (hM : M ≤ 4000000) (d : Nat) : ∀ (out : List Nat) (i : Nat), i + d = M → 1 ≤ back → back ≤ out.length → out.length + d ≤ 4000000 →
    Ev (fun k => lz_Unpack.l0 k s most (ints (copyN out back d))) r → Ev (fun k => lz_Unpack.l1 k s most (ints out) (back : Int) (M : Int) (i : Int)) r := by
  induction d with
  | zero =>
    intro out i hi h1 h2 h3 h
    refine Ev.step (fun k => ?_) h
    simp only [lz_Unpack.l1]
    rw [if_neg (by omega)]; rfl
  | succ d ih =>
    intro out i hi h1 h2 h3 h
    have e1 : wrap64 (((ints out).length : Int) - (back : Int)) = ((out.length - back : Nat) : Int) := by rw [ints_length, wrap_small _ (by omega) (by omega)]; omega
    have e2 : wrap64 ((i : Int) + 1) = ((i + 1 : Nat) : Int) := by rw [wrap_small _ (by omega) (by omega)]; omega
    refine Ev.step (fun k => ?_) (ih (out ++ [out.getD (out.length - back) 0]) (i + 1) (by omega) h1 (by rw [List.length_append]; omega) (by rw [List.length_append]; simp; omega) h)
    simp only [lz_Unpack.l1]
    rw [if_pos (by omega), e1, e2, if_pos (by omega), if_pos (by rw [ints_length]; omega), if_pos (by rw [ints_length]; omega), rd_ints]
    unfold ints
    rw [List.map_append]
    rfl
theorem toList_nil (s : ByteArray) : s.toList = [] ↔ bytesN s = [] := by
  rw [ByteArray.toList_eq]; unfold bytesN
  rw [List.map_eq_nil_iff]
theorem stepL_len {most : Int} {out l o r : List Nat} (hl : ∀ b ∈ l, b < 256) (h : stepL most out l = some (o, r)) : r.length < l.length ∧ ∀ b ∈ r, b < 256 := by
  unfold stepL at h
  cases ht : takeL l with
  | none => rw [ht] at h; cases h
  | some p =>
    obtain ⟨n, rest⟩ := p
    rw [ht, Option.bind_some] at h
    obtain ⟨h1, h2⟩ := takeL_len hl ht
    simp only at h
    split at h
    · cases h
    split at h
    · split at h
      · cases h
      · obtain ⟨-, rfl⟩ := Prod.mk.inj (Option.some.inj h)
        exact ⟨by rw [List.length_drop]; omega, fun b hb => h2 b (List.mem_of_mem_drop hb)⟩
    · cases hq : takeL rest with
      | none => rw [hq] at h; cases h
      | some q =>
        obtain ⟨m, rest2⟩ := q
        rw [hq, Option.bind_some] at h
        obtain ⟨h3, h4⟩ := takeL_len h2 hq
        simp only at h
        split at h
        · cases h
        · obtain ⟨-, rfl⟩ := Prod.mk.inj (Option.some.inj h)
          exact ⟨by omega, h4⟩
theorem unpL_more (most : Int) (f : Nat) : ∀ (out l : List Nat) (g : Nat), (∀ b ∈ l, b < 256) → l.length < f → l.length < g → unpL f most out l = unpL g most out l := by
  induction f with
  | zero => intro out l g _ h; omega
  | succ f ih =>
    intro out l g hl h1 h2
    obtain ⟨g, rfl⟩ : ∃ e, g = e + 1 := ⟨g - 1, by omega⟩
    simp only [unpL]
    by_cases h : l = []
    · rw [if_pos h, if_pos h]
    · rw [if_neg h, if_neg h]
      cases hs : stepL most out l with
      | none => rfl
      | some p =>
        obtain ⟨o, r⟩ := p
        have := stepL_len hl hs
        exact ih o r g this.2 (by omega) (by omega)

theorem bytesOf_ints (t : ByteArray) : bytesOf t = ints (bytesN t) := by
  unfold bytesOf ints bytesN
  rw [List.map_map]; rfl
theorem ints_append (a b : List Nat) : ints a ++ ints b = ints (a ++ b) := by unfold ints; rw [List.map_append]
theorem unp_fail2 (most : Int) (x6 : List Int) (n : Int) (t : ByteArray) : Ev (fun k => lz_Unpack.j2 k most x6 n t true) ((⟨#[]⟩ : ByteArray), (2 : Int)) := by
  refine Ev.step (fun k => ?_) (Ev.now _)
  simp only [lz_Unpack.j2]
  rfl
theorem unp_fail3 (most : Int) (x6 : List Int) (n b : Int) (t : ByteArray) : Ev (fun k => lz_Unpack.j3 k most x6 n t b true) ((⟨#[]⟩ : ByteArray), (2 : Int)) := by
  refine Ev.step (fun k => ?_) (Ev.now _)
  simp only [lz_Unpack.j3]
  rfl
theorem stepL_none1 {most : Int} {out l : List Nat} (h : takeL l = none) : stepL most out l = none := by unfold stepL; rw [h]; rfl
theorem stepL_some1 {most : Int} {out l rest : List Nat} {n : Int} (h : takeL l = some (n, rest)) : stepL most out l =
    if n < 1 ∨ n / 2 > most - out.length then none
    else if n % 2 = 0 then (if n / 2 > rest.length then none else some (out ++ rest.take (n / 2).toNat, rest.drop (n / 2).toNat))
    else (takeL rest).bind fun q =>
      if q.1 < 1 ∨ q.1 > 4096 ∨ q.1 > out.length ∨ n / 2 > most - out.length - 4 then none else some (copyN out q.1.toNat (n / 2 + 4).toNat, q.2) := by
  unfold stepL; rw [h]; rfl
set_option maxHeartbeats 1000000 in
theorem unp_l0 (most : Int) (hm0 : 0 ≤ most) (hm1 : most ≤ 1048576) (f : Nat) : ∀ (s : ByteArray) (out : List Nat), s.size < f → s.size ≤ 140737488351232 → (out.length : Int) ≤ most →
    Ev (fun k => lz_Unpack.l0 k s most (ints out)) (resU (unpL f most out (bytesN s))) := by
  induction f with
  | zero => intro s out h; omega
  | succ f ih =>
    intro s out hs hsz ho
    have hlen : ((ints out).length : Int) = (out.length : Int) := by rw [ints_length]
    simp only [unpL]
    by_cases hnil : bytesN s = []
    · rw [if_pos hnil]
      refine Ev.step (fun k => ?_) (Ev.now _)
      simp only [lz_Unpack.l0]
      rw [if_pos ((toList_nil s).mpr hnil)]; rfl
    rw [if_neg hnil]
    have hnil' : ¬ s.toList = [] := fun x => hnil ((toList_nil s).mp x)
    rcases take_list s with ⟨h1, h2⟩ | ⟨n, t, h1, h2⟩
    · rw [stepL_none1 h1]
      refine Ev.step (fun k => ?_) (unp_fail2 most (ints out) 0 ⟨#[]⟩)
      simp only [lz_Unpack.l0]
      rw [if_neg hnil', h2]; rfl
    rw [stepL_some1 h1]
    obtain ⟨-, hn1, hn2⟩ := takeL_canon (bytesN_lt s) h1
    have hts : t.size < s.size := by have := (takeL_len (bytesN_lt s) h1).1; rw [bytesN_length, bytesN_length] at this; exact this
    by_cases hc1 : n < 1
    · rw [if_pos (.inl hc1)]
      refine Ev.step (fun k => ?_) (unp_fail2 most (ints out) n t)
      simp only [lz_Unpack.l0]
      rw [if_neg hnil', h2, Option.bind_some, if_pos rfl, if_pos hc1]
    have ed : Int.tdiv n 2 = n / 2 := Int.tdiv_eq_ediv_of_nonneg (by omega)
    have em : Int.tmod n 2 = n % 2 := Int.tmod_eq_emod_of_nonneg (by omega)
    have ew : wrap64 (n / 2) = n / 2 := wrap_small _ (by omega) (by omega)
    have ew2 : wrap64 (most - ((ints out).length : Int)) = most - out.length := by rw [hlen]; exact wrap_small _ (by omega) (by omega)
    by_cases hc2 : n / 2 > most - out.length
    · rw [if_pos (.inr hc2)]
      refine Ev.step (fun k => ?_) (unp_fail2 most (ints out) n t)
      simp only [lz_Unpack.l0]
      rw [if_neg hnil', h2, Option.bind_some, if_pos rfl, if_neg hc1]
      simp only [ed, ew, ew2]
      rw [decide_eq_true hc2]
    rw [if_neg (by omega)]
    refine Ev.step (f := fun k => lz_Unpack.j2 k most (ints out) n t false) (fun k => ?_) ?_
    · simp only [lz_Unpack.l0]
      rw [if_neg hnil', h2, Option.bind_some, if_pos rfl, if_neg hc1]
      simp only [ed, ew, ew2]
      rw [decide_eq_false hc2]
    refine Ev.step (f := ?fa) (fun k => ?_) ?_
    rotate_left
    · simp only [lz_Unpack.j2, ed, em, ew]; rfl
    refine Ev.congr (fun k => if_neg (by decide)) ?_
    by_cases hc3 : n % 2 = 0
    · rw [if_pos hc3]
      refine Ev.congr (fun k => if_pos hc3) ?_
      by_cases hc4 : n / 2 > (t.size : Int)
      · rw [if_pos (by rw [bytesN_length]; exact hc4)]
        exact Ev.congr (fun k => if_pos hc4) (Ev.now _)
      · rw [if_neg (by rw [bytesN_length]; exact hc4)]
        refine Ev.congr (fun k => if_neg hc4) ?_
        refine Ev.congr (fun k => if_pos (by omega)) ?_
        refine Ev.congr (fun k => if_pos (by omega)) ?_
        refine Ev.congr (fun k => if_pos (by rw [ints_length, ByteArray.size_extract]; omega)) ?_
        have hbt : bytesOf (t.extract 0 (n / 2).toNat) = ints ((bytesN t).take (n / 2).toNat) := by rw [bytesOf_ints, bytesN_take]
        have hbd : bytesN (t.extract (n / 2).toNat t.size) = (bytesN t).drop (n / 2).toNat := bytesN_drop t _
        rw [hbt, ints_append, Option.bind_some]
        simp only
        rw [← hbd]
        exact ih _ _ (by rw [ByteArray.size_extract]; omega) (by rw [ByteArray.size_extract]; omega) (by rw [List.length_append, List.length_take, bytesN_length]; omega)
    rw [if_neg hc3]
    refine Ev.congr (fun k => if_neg hc3) ?_
    rcases take_list t with ⟨g1, g2⟩ | ⟨b, t2, g1, g2⟩
    · rw [g1, Option.bind_none, Option.bind_none]
      refine Ev.congr (fun k => by rw [g2, Option.bind_some]) ?_
      refine Ev.congr (fun k => if_neg (by decide)) ?_
      exact unp_fail3 _ _ _ _ _
    rw [g1, Option.bind_some]
    simp only
    obtain ⟨-, hb1, hb2⟩ := takeL_canon (bytesN_lt t) g1
    have hts2 : t2.size < t.size := by have := (takeL_len (bytesN_lt t) g1).1; rw [bytesN_length, bytesN_length] at this; exact this
    refine Ev.congr (fun k => by rw [g2, Option.bind_some]) ?_
    refine Ev.congr (fun k => if_pos rfl) ?_
    by_cases k1 : b < 1
    · rw [if_pos (.inl k1)]
      exact Ev.congr (fun k => if_pos k1) (unp_fail3 _ _ _ _ _)
    refine Ev.congr (fun k => if_neg k1) ?_
    by_cases k2 : b > 4096
    · rw [if_pos (.inr (.inl k2))]
      exact Ev.congr (fun k => if_pos k2) (unp_fail3 _ _ _ _ _)
    refine Ev.congr (fun k => if_neg k2) ?_
    by_cases k3 : b > (out.length : Int)
    · rw [if_pos (.inr (.inr (.inl k3)))]
      exact Ev.congr (fun k => if_pos (by rw [hlen]; exact k3)) (unp_fail3 _ _ _ _ _)
    refine Ev.congr (fun k => if_neg (by rw [hlen]; exact k3)) ?_
    have ew3 : wrap64 (wrap64 (most - ((ints out).length : Int)) - 4) = most - out.length - 4 := by rw [ew2]; exact wrap_small _ (by omega) (by omega)
    by_cases k4 : n / 2 > most - out.length - 4
    · rw [if_pos (.inr (.inr (.inr k4)))]
      refine Ev.congr (fun k => ?_) (unp_fail3 most (ints out) n b t2)
      rw [ew3, decide_eq_true k4]
    rw [if_neg (by omega), Option.bind_some]
    refine Ev.congr (f := fun k => lz_Unpack.j3 k most (ints out) n t2 b false) (fun k => ?_) ?_
    · rw [ew3, decide_eq_false k4]
    have ew4 : wrap64 (wrap64 (Int.tdiv n 2) + 4) = (((n / 2 + 4).toNat : Nat) : Int) := by rw [ed, ew, wrap_small _ (by omega) (by omega)]; omega
    refine Ev.step (f := fun k => lz_Unpack.l1 k t2 most (ints out) b (((n / 2 + 4).toNat : Nat) : Int) 0) (fun k => ?_) ?_
    · simp only [lz_Unpack.j3]; rw [if_neg (by decide), ew4]
    obtain ⟨bb, rfl⟩ : ∃ bb : Nat, b = (bb : Int) := ⟨b.toNat, by omega⟩
    exact unp_l1 most t2 bb _ (n / 2 + 4).toNat (by omega) (n / 2 + 4).toNat out 0 (by omega) (by omega) (by omega) (by omega)
      (ih t2 _ (by omega) (by omega) (by rw [copyN_len]; omega))
/-- What lz.Unpack tells. -/
def unpackR (s : ByteArray) (most : Int) : ByteArray × Int :=
  if most < 0 ∨ most > 1048576 then (⟨#[]⟩, 1) else resU (unpL (s.size + 1) most [] (bytesN s))
theorem unpack_ev (s : ByteArray) (most : Int) (hs : s.size ≤ 140737488351232) : Ev (fun k => lz_Unpack.f k s most) (unpackR s most) := by
  unfold lz_Unpack.f unpackR
  by_cases h1 : most < 0
  · rw [if_pos (.inl h1)]
    refine Ev.congr (fun k => if_pos h1) ?_
    refine Ev.step (fun k => ?_) (Ev.now _)
    simp only [lz_Unpack.j0]; rfl
  refine Ev.congr (fun k => if_neg h1) ?_
  by_cases h2 : most > 1048576
  · rw [if_pos (.inr h2)]
    refine Ev.step (fun k => ?_) (Ev.now _)
    simp only [lz_Unpack.j0]; rw [if_pos (decide_eq_true h2)]
  rw [if_neg (by omega)]
  refine Ev.step (f := fun k => lz_Unpack.l0 k s most (ints [])) (fun k => ?_) (unp_l0 most (by omega) (by omega) (s.size + 1) s [] (by omega) hs (by simp; omega))
  simp only [lz_Unpack.j0]; rw [if_neg (by simpa using h2)]; rfl
end Go.Proofs.Ytahemhjlfajlkaa.PL
