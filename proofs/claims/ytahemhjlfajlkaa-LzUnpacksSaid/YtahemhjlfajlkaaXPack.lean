/- What lz.again and lz.Pack come to. -/
import Derived.Test.YtahemhjlfajlkaaXParts
namespace Go.Proofs.Ytahemhjlfajlkaa.PL
open Go.RowKit Go.Proofs.YtahemhjlfajlkaaW.PrintWords Go.Proofs.YtahemhjlfajlkaaW.PrintLast Go.Proofs.YtahemhjlfajlkaaW.PrintMore
set_option linter.unusedVariables false
set_option linter.unusedSimpArgs false

/-! ### lz.again, lz.Pack -/
def cutN (s : ByteArray) : Nat := if 4096 < s.size - piN s s.size ∨ piN s s.size < 4 then s.size else s.size - piN s s.size
def againL (s : ByteArray) : List UInt8 :=
  litL (s.extract 0 (cutN s)) ++ (if cutN s < s.size then (putAllB [2 * (((s.size - cutN s : Nat) : Int) - 4) + 1, ((cutN s : Nat) : Int)]).data.toList else [])
def lz_Pack.f (s : ByteArray) : Option (ByteArray × Int) :=
  if s.size > 1048576 then some (⟨#[]⟩, 1) else some (if (partsL s).length < (againL s).length then ⟨(partsL s).toArray⟩ else ⟨(againL s).toArray⟩, 0)
set_option maxHeartbeats 4000000 in
set_option maxRecDepth 100000 in
theorem again_walk (s : ByteArray) (w : World) (hs : s.size ≤ 1048576) :
    Calls Try.prog 16 #[.string s] w fun e w' => e = .returned (.string ⟨(againL s).toArray⟩) ∧ Below w.heap.size w w' := by
  have hpi : piN s s.size ≤ s.size := piF_le s s.size s.size
  obtain ⟨c, hc⟩ : ∃ c, c = cutN s := ⟨_, rfl⟩
  have hcs : c ≤ s.size := by rw [hc]; unfold cutN; split <;> omega
  obtain ⟨P, hP⟩ : ∃ P, P = piN s s.size := ⟨_, rfl⟩
  have hcP : c = if 4096 < s.size - P ∨ P < 4 then s.size else s.size - P := by rw [hc, hP]; rfl
  have hag : againL s = litL (s.extract 0 c) ++ (if c < s.size then (putAllB [2 * (((s.size - c : Nat) : Int) - 4) + 1, ((c : Nat) : Int)]).data.toList else []) := by rw [hc]; rfl
  rw [← hP] at hpi
  have hsl : (s.extract 0 c).size = c := by rw [ByteArray.size_extract]; omega
  have hb0 := Lib.fresh_isBuilder 43 5 w
  have hper := period_walk s (w.alloc (.cells #[.pointer none, .slice none 0 0] 43)) hs
  rw [← hP] at hper
  have c1 : (0 ≤ (c : Int)) = True := eq_true (by omega)
  have c2 : ((c : Int) ≤ (s.size : Int)) = True := eq_true (by omega)
  have HC := Lib.hid hc
  have HPP := Lib.hid hP
  have HCP := Lib.hid hcP
  have HAG := Lib.hid hag
  have HPER := Lib.hid hper
  clear hc hP hcP hag hper
  have fin : ∀ (n : Int), n = (c : Int) → True := fun _ _ => trivial
  go_enter Try.func16, Try.ntmps16
  go_wp2_with fail
  refine HPER.out.mono ?_
  rintro e w1 ⟨rfl, hb1⟩
  have hi1 := isBuilder_below hb0 hb1
  have HB1 : Below w.heap.size w w1 := (below_alloc (Below.refl _ _) _).trans (hb1.mono (by simp))
  have hs1 := HB1.size
  clear fin c1 c2
  by_cases k1 : 4096 < s.size - P
  · have t1 : decide ((4096 : Int) < (s.size : Int) - (P : Int)) = true := decide_eq_true (by omega)
    have HCC : Hid (c = s.size) := by have := HCP.out; rw [if_pos (.inl k1)] at this; exact this
    clear k1
    have q1 : (0 ≤ (s.size : Int)) = True := eq_true (by omega)
    go_wp2_with (go_at_call 20; refine (literal_walk w.heap.size w.heap.size [] s _ hi1 (by simp; omega) (by omega)).mono ?_)
    rintro e w2 ⟨rfl, hi2, hb2, hs2, -⟩
    rw [List.nil_append] at hi2
    have z1 : decide (s.size < s.size) = false := decide_eq_false (by omega)
    go_wp2_with (go_at_call 23; refine (Try.Builder_String_any w.heap.size w.heap.size _ _ hi2 hs2).mono ?_)
    rintro e w3 ⟨rfl, hb3⟩
    go_wp2
    go_ret
    have efin : againL s = litL s := by
      rw [HAG.out, HCC.out, if_neg (by omega), List.append_nil, ByteArray.extract_zero_size]
    rw [efin]
    exact ⟨rfl, (HB1.trans hb2).trans hb3⟩
  · have t1 : decide ((4096 : Int) < (s.size : Int) - (P : Int)) = false := decide_eq_false (by omega)
    by_cases k2 : P < 4
    · have t2 : decide ((s.size : Int) - ((s.size : Int) - (P : Int)) < 4) = true := decide_eq_true (by omega)
      have HCC : Hid (c = s.size) := by have := HCP.out; rw [if_pos (.inr k2)] at this; exact this
      clear k1
      have q1 : (0 ≤ (s.size : Int)) = True := eq_true (by omega)
      go_wp2_with (go_at_call 20; refine (literal_walk w.heap.size w.heap.size [] s _ hi1 (by simp; omega) (by omega)).mono ?_)
      rintro e w2 ⟨rfl, hi2, hb2, hs2, -⟩
      rw [List.nil_append] at hi2
      have z1 : decide (s.size < s.size) = false := decide_eq_false (by omega)
      go_wp2_with (go_at_call 23; refine (Try.Builder_String_any w.heap.size w.heap.size _ _ hi2 hs2).mono ?_)
      rintro e w3 ⟨rfl, hb3⟩
      go_wp2
      go_ret
      have efin : againL s = litL s := by
        rw [HAG.out, HCC.out, if_neg (by omega), List.append_nil, ByteArray.extract_zero_size]
      rw [efin]
      exact ⟨rfl, (HB1.trans hb2).trans hb3⟩
    · have t2 : decide ((s.size : Int) - ((s.size : Int) - (P : Int)) < 4) = false := decide_eq_false (by omega)
      have HCC : Hid (c = s.size - P) := by have := HCP.out; rw [if_neg (by omega)] at this; exact this
      have hsl2 : (s.extract 0 (s.size - P)).size = s.size - P := by rw [ByteArray.size_extract]; omega
      have q1 : (0 ≤ (s.size : Int) - (P : Int)) = True := eq_true (by omega)
      have q2 : ((s.size : Int) - (P : Int) ≤ (s.size : Int)) = True := eq_true (by omega)
      have q3 : ((s.size : Int) - (P : Int)).toNat = s.size - P := by omega
      clear k1
      go_wp2_with (go_at_call 20; refine (literal_walk w.heap.size w.heap.size [] (s.extract 0 (s.size - P)) _ hi1 (by rw [hsl2]; simp; omega) (by omega)).mono ?_)
      rintro e w2 ⟨rfl, hi2, hb2, hs2, -⟩
      rw [List.nil_append] at hi2
      have z1 : decide ((s.size : Int) - (P : Int) < (s.size : Int)) = true := decide_eq_true (by omega)
      go_wp2_with fail
      have hpa := putAll_walk w2.heap.size 2 [2 * ((s.size : Int) - ((s.size : Int) - (P : Int)) - 4) + 1, (s.size : Int) - (P : Int)] (w2.alloc (.cells #[.int .i64 (2 * ((s.size : Int) - ((s.size : Int) - (P : Int)) - 4) + 1), .int .i64 ((s.size : Int) - (P : Int))] 3)) (by simp)
        (fun j hj => by
          rw [blk_cell (blk_new w2 _)]
          match j, hj with
          | 0, _ => rfl
          | 1, _ => rfl)
      refine hpa.mono ?_
      clear hpa
      rintro e w5 ⟨rfl, hb5⟩
      have hb25 : Below w2.heap.size w2 w5 := (below_alloc (Below.refl _ _) _).trans (hb5.mono (by simp))
      have hi5 := isBuilder_below hi2 hb25
      have hs5 := hb25.size
      obtain ⟨xs, hxs⟩ : ∃ xs : List Int, xs = [2 * ((s.size : Int) - ((s.size : Int) - (P : Int)) - 4) + 1, (s.size : Int) - (P : Int)] := ⟨_, rfl⟩
      rw [← hxs]
      have hpl := putAllB_size xs
      have hxl : xs.length = 2 := by rw [hxs]; rfl
      have hll := litL_len (s.extract 0 (s.size - P))
      rw [hxl] at hpl
      have HXS := Lib.hid hxs
      clear hxs hxl
      go_wp2_with fail
      refine (write_l w.heap.size w.heap.size (litL (s.extract 0 (s.size - P))) (putAllB xs) _ hi5 (by omega) (by omega)).mono ?_
      rintro e w6 ⟨rfl, hi6, hb6, hs6, -⟩
      go_wp2_with fail
      refine (Try.Builder_String_any w.heap.size w.heap.size _ _ hi6 hs6).mono ?_
      rintro e w7 ⟨rfl, hb7⟩
      go_wp2
      go_ret
      have efin : againL s = litL (s.extract 0 (s.size - P)) ++ (putAllB xs).data.toList := by
        have e1 : (((s.size - (s.size - P) : Nat) : Int) - 4) = (s.size : Int) - ((s.size : Int) - (P : Int)) - 4 := by omega
        have e2 : ((s.size - P : Nat) : Int) = (s.size : Int) - (P : Int) := by omega
        rw [HAG.out, HCC.out, if_pos (by omega), e1, e2, HXS.out]
      rw [efin]
      exact ⟨rfl, (((HB1.trans hb2).trans (hb25.mono hs2)).trans hb6).trans hb7⟩
set_option maxHeartbeats 4000000 in
set_option maxRecDepth 100000 in
theorem lz_Pack.calls (a0 : ByteArray) (r1 : ByteArray) (r2 : Int) (w : World) (h : lz_Pack.f a0 = some (r1, r2)) :
    Calls Try.prog 13 #[.string a0] w fun e w' => e = .returned (.tuple #[.string r1, .int .i64 r2]) ∧ Below w.heap.size w w' := by
  unfold lz_Pack.f at h
  by_cases hs : a0.size > 1048576
  · rw [if_pos hs] at h
    obtain ⟨rfl, rfl⟩ := Prod.mk.inj (Option.some.inj h)
    have t1 : decide ((1048576 : Int) < (a0.size : Int)) = true := decide_eq_true (by omega)
    clear h
    go_enter Try.func13, Try.ntmps13
    go_wp2
    go_ret2
    exact ⟨rfl, Below.refl _ _⟩
  · rw [if_neg hs] at h
    obtain ⟨h1, rfl⟩ := Prod.mk.inj (Option.some.inj h)
    have t1 : decide ((1048576 : Int) < (a0.size : Int)) = false := decide_eq_false (by omega)
    have H1 := Lib.hid h1
    have hs' : a0.size ≤ 1048576 := by omega
    clear h h1 hs
    obtain ⟨A, hA⟩ : ∃ A, A = againL a0 := ⟨_, rfl⟩
    obtain ⟨B, hB⟩ : ∃ B, B = partsL a0 := ⟨_, rfl⟩
    have hwa := again_walk a0 w hs'
    have hwb := fun w => parts_walk a0 w (partsL a0) (Lib.hid rfl) hs'
    rw [← hA] at hwa H1
    rw [← hB] at hwb H1
    have HWA := Lib.hid hwa
    have HWB := Lib.hid hwb
    clear hwa hwb hA hB
    have eA : (⟨A.toArray⟩ : ByteArray).size = A.length := by show A.toArray.size = _; simp
    have eB : (⟨B.toArray⟩ : ByteArray).size = B.length := by show B.toArray.size = _; simp
    by_cases hlt : B.length < A.length
    · have t2 : decide ((⟨B.toArray⟩ : ByteArray).size < (⟨A.toArray⟩ : ByteArray).size) = true := decide_eq_true (by omega)
      have H2 : Hid (r1 = ⟨B.toArray⟩) := by have := H1.out; rw [if_pos hlt] at this; exact this.symm
      clear H1 eA eB
      go_enter Try.func13, Try.ntmps13
      go_wp2_with fail
      refine HWA.out.mono ?_
      rintro e w1 ⟨rfl, hb1⟩
      go_wp2_with fail
      refine (HWB.out _).mono ?_
      rintro e w2 ⟨rfl, hb2⟩
      have HB := hb1.trans (hb2.mono hb1.size)
      go_wp2
      go_ret2
      rw [H2.out]
      exact ⟨rfl, HB⟩
    · have t2 : decide ((⟨B.toArray⟩ : ByteArray).size < (⟨A.toArray⟩ : ByteArray).size) = false := decide_eq_false (by omega)
      have H2 : Hid (r1 = ⟨A.toArray⟩) := by have := H1.out; rw [if_neg hlt] at this; exact this.symm
      clear H1 eA eB
      go_enter Try.func13, Try.ntmps13
      go_wp2_with fail
      refine HWA.out.mono ?_
      rintro e w1 ⟨rfl, hb1⟩
      go_wp2_with fail
      refine (HWB.out _).mono ?_
      rintro e w2 ⟨rfl, hb2⟩
      have HB := hb1.trans (hb2.mono hb1.size)
      go_wp2
      go_ret2
      rw [H2.out]
      exact ⟨rfl, HB⟩
end Go.Proofs.Ytahemhjlfajlkaa.PL
