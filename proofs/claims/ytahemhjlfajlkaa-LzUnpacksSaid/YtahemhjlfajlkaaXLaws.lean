/- Lengths of packed texts, and what the laws ask of them. -/
import Derived.Test.YtahemhjlfajlkaaXRound
import Derived.Test.YtahemhjlfajlkaaPLx15
import Derived.Test.YtahemhjlfajlkaaPLx17
namespace Go.Proofs.Ytahemhjlfajlkaa.PL
open Go.RowKit Go.Proofs.YtahemhjlfajlkaaW.PrintWords Go.Proofs.YtahemhjlfajlkaaW.PrintLast Go.Proofs.YtahemhjlfajlkaaW.PrintMore
set_option linter.unusedVariables false
set_option linter.unusedSimpArgs false

/-! ### Lengths, and what the laws ask -/
theorem wrapS (x : Int) (h1 : -9223372036854775808 ≤ x) (h2 : x ≤ 9223372036854775807) : wrap64 x = x := by unfold wrap64; omega
theorem lebN_short (k : Nat) : ∀ u, u < 2 ^ (7 * k) → 1 ≤ k → (lebN u).length ≤ k := by
  induction k with
  | zero => intro u _ h; omega
  | succ k ih =>
    intro u hu _
    by_cases h : u < 128
    · rw [lebN_lo h]; simp
    · rw [lebN_hi h, List.length_cons]
      by_cases hk : k = 0
      · subst hk; exact absurd hu (by simpa using h)
      have := ih (u / 128) (by rw [pow7] at hu; omega) (by omega)
      omega
theorem nums_length (l : List UInt8) : (nums l).length = l.length := List.length_map ..
theorem putB_short (n : Int) (h0 : 0 ≤ n) (h : n < 1048576) : (putB n).data.toList.length ≤ 3 := by
  rw [← nums_length, putB_nums n (by omega) (by omega)]
  refine lebN_short 3 _ ?_ (by omega)
  unfold zz; rw [if_pos h0]; omega
theorem litL_short (s : ByteArray) (hs : s.size ≤ 500000) : (litL s).length ≤ s.size + 3 := by
  unfold litL
  by_cases h : s.data.toList = []
  · rw [if_pos h]; simp
  · rw [if_neg h, List.length_append]
    have := putB_short (2 * (s.size : Int)) (by omega) (by omega)
    have e : s.data.toList.length = s.size := Array.length_toList
    rw [e]
    omega
theorem putAll2_short (m : Nat) (b : Nat) (hm : 4 ≤ m) (hm2 : m ≤ 500000) (hb : b ≤ 4096) : (putAllB [2 * ((m : Int) - 4) + 1, (b : Int)]).data.toList.length ≤ 5 := by
  rw [← nums_length, putAll2_nums _ _ (by omega) (by omega) (by omega) (by omega), List.length_append]
  have h1 : (lebN (zz (2 * ((m : Int) - 4) + 1))).length ≤ 3 := by
    refine lebN_short 3 _ ?_ (by omega)
    unfold zz; rw [if_pos (by omega)]; omega
  have h2 : (lebN (zz (b : Int))).length ≤ 2 := by
    refine lebN_short 2 _ ?_ (by omega)
    unfold zz; rw [if_pos (by omega)]; omega
  omega
theorem again_short (s : ByteArray) (hs : s.size ≤ 500000) (p : Nat) (hp : 4096 < s.size - piN s s.size ∨ piN s s.size < 4 → s.size ≤ p + 2) (hp2 : s.size - piN s s.size ≤ p) : (againL s).length ≤ p + 8 := by
  unfold againL
  rw [List.length_append]
  have hpi : piN s s.size ≤ s.size := piF_le s s.size s.size
  by_cases hc : 4096 < s.size - piN s s.size ∨ piN s s.size < 4
  · have e : cutN s = s.size := if_pos hc
    have h1 := litL_short (s.extract 0 s.size) (by rw [ByteArray.size_extract]; omega)
    rw [ByteArray.size_extract] at h1
    have := hp hc
    rw [e, if_neg (by omega), List.length_nil]; omega
  · have e : cutN s = s.size - piN s s.size := if_neg hc
    have h1 := litL_short (s.extract 0 (s.size - piN s s.size)) (by rw [ByteArray.size_extract]; omega)
    rw [ByteArray.size_extract] at h1
    have h2 := putAll2_short (s.size - (s.size - piN s s.size)) (s.size - piN s s.size) (by omega) (by omega) (by omega)
    rw [e, if_pos (by omega)]; omega
/-- What lz.Pack tells. -/
def packB (s : ByteArray) : ByteArray := if (partsL s).length < (againL s).length then ⟨(partsL s).toArray⟩ else ⟨(againL s).toArray⟩
theorem pack_eq (s : ByteArray) (hs : s.size ≤ 1048576) : lz_Pack.f s = some (packB s, 0) := by
  unfold lz_Pack.f packB; rw [if_neg (by omega)]
theorem pack_ev (s : ByteArray) (hs : s.size ≤ 1048576) : Ev (fun _ => lz_Pack.f s) (packB s, 0) := by
  rw [pack_eq s hs]; exact Ev.now _
theorem pack_good (s : ByteArray) (hs : s.size ≤ 1048576) : Good [] (bytesN (packB s)) (bytesN s) := by
  unfold packB
  split
  · exact parts_good s hs
  · exact again_good s hs
theorem pack_le_again (s : ByteArray) : (packB s).size ≤ (againL s).length := by
  unfold packB
  split
  · rename_i h; show (partsL s).toArray.size ≤ _; rw [List.size_toArray]; omega
  · show (againL s).toArray.size ≤ _; rw [List.size_toArray]; exact Nat.le_refl _
theorem pack_short (s : ByteArray) (hs : s.size ≤ 500000) : (packB s).size ≤ s.size + 8 :=
  Nat.le_trans (pack_le_again s) (again_short s hs s.size (fun _ => by omega) (by omega))
theorem strOfNums_bytesN (s : ByteArray) : strOfNums (ints (bytesN s)) = s := bytesN_inj (bytesN_strOfNums _ (bytesN_lt s))
theorem strOfInts_size (L : List Nat) : (strOfNums (ints L)).size = L.length := by rw [strOfNums_size, ints_length]
theorem unpack_of (s : ByteArray) (most : Int) (h0 : 0 ≤ most) (h1 : most ≤ 1048576) : unpackR s most = resU (unpL (s.size + 1) most [] (bytesN s)) := if_neg (by omega)
theorem unpack_pack (s : ByteArray) (hs : s.size ≤ 1048576) (most : Int) (h0 : 0 ≤ most) (h1 : most ≤ 1048576) : unpackR (packB s) most = if (s.size : Int) ≤ most then (s, 0) else (⟨#[]⟩, 2) := by
  rw [unpack_of _ _ h0 h1, (pack_good s hs).dec most _ h1 (by simpa using h0) (by rw [bytesN_length]; omega), bytesN_length]
  split
  · show (strOfNums (ints (bytesN s)), (0 : Int)) = _; rw [strOfNums_bytesN]
  · rfl
theorem stepL_most {most : Int} {out l o r : List Nat} (ho : (out.length : Int) ≤ most) (h : stepL most out l = some (o, r)) : (o.length : Int) ≤ most := by
  unfold stepL at h
  cases ht : takeL l with
  | none => rw [ht] at h; cases h
  | some p =>
    rw [ht, Option.bind_some] at h
    split at h
    · cases h
    split at h
    · split at h
      · cases h
      · obtain ⟨rfl, -⟩ := Prod.mk.inj (Option.some.inj h)
        rw [List.length_append, List.length_take]; omega
    · cases hq : takeL p.2 with
      | none => rw [hq] at h; cases h
      | some q =>
        rw [hq, Option.bind_some] at h
        split at h
        · cases h
        · obtain ⟨rfl, -⟩ := Prod.mk.inj (Option.some.inj h)
          rw [copyN_len]; omega
theorem unpL_most {most : Int} (f : Nat) : ∀ {out l o : List Nat}, (out.length : Int) ≤ most → unpL f most out l = some o → (o.length : Int) ≤ most := by
  induction f with
  | zero => intro out l o _ h; cases h
  | succ f ih =>
    intro out l o ho h
    simp only [unpL] at h
    by_cases hl : l = []
    · rw [if_pos hl] at h; obtain rfl := Option.some.inj h; exact ho
    · rw [if_neg hl] at h
      cases hs : stepL most out l with
      | none => rw [hs] at h; cases h
      | some p => rw [hs, Option.bind_some] at h; exact ih (stepL_most ho hs) h
theorem cut_ev (s : ByteArray) : Ev (fun _ => headgatelaw32_cut.f s) (s.extract 0 (min s.size 20000)) := by
  have e : headgatelaw32_cut.f s = some (s.extract 0 (min s.size 20000)) := by
    unfold headgatelaw32_cut.f
    by_cases h : (s.size : Int) > 20000
    · rw [if_pos h, if_pos (by omega), if_pos (by omega), show min s.size 20000 = 20000 by omega]
    · rw [if_neg h, show min s.size 20000 = s.size by omega]
      congr 1
      refine (ByteArray.ext ?_).symm
      rw [ByteArray.data_extract]
      show Array.extract s.data 0 s.data.size = s.data
      simp
  rw [e]; exact Ev.now _
theorem ext_size (s : ByteArray) (n : Nat) : (s.extract 0 (min s.size n)).size ≤ n := by rw [ByteArray.size_extract]; omega
theorem awake_ev : Ev (fun k => headgatelaw32_awake.f k) true := by
  have h1 : unpackR (⟨#[8, 97, 98, 10, 4]⟩ : ByteArray) 100 = (⟨#[97, 98, 97, 98, 97, 98, 97, 98]⟩, 0) := by decide +kernel
  have h2 : unpackR (⟨#[8, 97, 98, 10, 4]⟩ : ByteArray) 7 = (⟨#[]⟩, 2) := by decide +kernel
  have h3 := unpack_pack (⟨#[97, 98, 99, 100, 97, 98, 99, 100, 97, 98, 99, 100]⟩ : ByteArray) (by decide) 12 (by decide) (by decide)
  have h4 := pack_short (⟨#[97, 98, 99, 100, 97, 98, 99, 100, 97, 98, 99, 100]⟩ : ByteArray) (by decide)
  have z : (⟨#[97, 98, 99, 100, 97, 98, 99, 100, 97, 98, 99, 100]⟩ : ByteArray).size = 12 := rfl
  rw [z] at h3 h4
  rw [if_pos (by decide)] at h3
  have u1 := unpack_ev (⟨#[8, 97, 98, 10, 4]⟩ : ByteArray) 100 (by decide)
  have u2 := unpack_ev (⟨#[8, 97, 98, 10, 4]⟩ : ByteArray) 7 (by decide)
  have u3 := unpack_ev (packB (⟨#[97, 98, 99, 100, 97, 98, 99, 100, 97, 98, 99, 100]⟩ : ByteArray)) 12 (by omega)
  rw [h1] at u1; rw [h2] at u2; rw [h3] at u3
  unfold headgatelaw32_awake.f
  refine Ev.bind u1 (Ev.bind u2 (Ev.bind (pack_ev _ (by decide)) (Ev.bind u3 ?_)))
  refine Ev.congr (fun k => if_pos (by rw [ByteArray.toList_eq])) ?_
  refine Ev.congr (fun k => if_pos rfl) ?_
  refine Ev.congr (fun k => if_pos rfl) ?_
  refine Ev.congr (fun k => if_pos rfl) ?_
  refine Ev.congr (fun k => if_pos (by rw [ByteArray.toList_eq])) ?_
  exact Ev.now _
end Go.Proofs.Ytahemhjlfajlkaa.PL
