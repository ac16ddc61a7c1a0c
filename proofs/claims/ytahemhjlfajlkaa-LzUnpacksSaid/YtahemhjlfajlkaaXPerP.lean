/- The longest border of a text's beginnings. -/
import Derived.Test.YtahemhjlfajlkaaXAt
namespace Go.Proofs.Ytahemhjlfajlkaa.PL
open Go.RowKit Go.Proofs.YtahemhjlfajlkaaW.PrintWords Go.Proofs.YtahemhjlfajlkaaW.PrintLast Go.Proofs.YtahemhjlfajlkaaW.PrintMore
set_option linter.unusedVariables false
set_option linter.unusedSimpArgs false

/-! ### The longest border -/
def isB (s : ByteArray) (i b : Nat) : Prop := b < i ∧ ∀ t, t < b → byteAt s t = byteAt s (i - b + t)
instance (s : ByteArray) (i b : Nat) : Decidable (isB s i b) := by unfold isB; infer_instance
def piF (s : ByteArray) (i : Nat) : Nat → Nat
  | 0 => 0
  | b + 1 => if isB s i (b + 1) then b + 1 else piF s i b
def piN (s : ByteArray) (i : Nat) : Nat := piF s i i
theorem piF_le (s : ByteArray) (i : Nat) : ∀ b, piF s i b ≤ b
  | 0 => Nat.le_refl _
  | b + 1 => by simp only [piF]; split; exact Nat.le_refl _; exact Nat.le_succ_of_le (piF_le s i b)
theorem piF_is (s : ByteArray) (i : Nat) (hi : 0 < i) : ∀ b, isB s i (piF s i b)
  | 0 => ⟨hi, fun t ht => absurd ht (Nat.not_lt_zero _)⟩
  | b + 1 => by
    simp only [piF]; split
    · assumption
    · exact piF_is s i hi b
theorem piF_max (s : ByteArray) (i : Nat) : ∀ b c, c ≤ b → isB s i c → c ≤ piF s i b
  | 0, c, h, _ => by simp only [piF]; exact h
  | b + 1, c, h, hc => by
    simp only [piF]
    by_cases e : isB s i (b + 1)
    · rw [if_pos e]; exact h
    · rw [if_neg e]
      have : c ≠ b + 1 := fun x => e (x ▸ hc)
      exact piF_max s i b c (by omega) hc
theorem piN_is (s : ByteArray) (i : Nat) (hi : 0 < i) : isB s i (piN s i) := piF_is s i hi i
theorem piN_max (s : ByteArray) (i c : Nat) (hc : isB s i c) : c ≤ piN s i := piF_max s i i c (Nat.le_of_lt hc.1) hc
theorem piN_lt (s : ByteArray) (i : Nat) (hi : 0 < i) : piN s i < i := (piN_is s i hi).1
theorem piN_eq (s : ByteArray) (i c : Nat) (hc : isB s i c) (hm : ∀ b, isB s i b → b ≤ c) : piN s i = c := by
  have h1 := piN_max s i c hc
  have h2 := hm _ (piN_is s i (Nat.lt_of_le_of_lt (Nat.zero_le _) hc.1))
  omega
theorem piN_one (s : ByteArray) : piN s 1 = 0 := by have := piN_lt s 1 (by omega); omega
def PInv (s : ByteArray) (i k : Nat) : Prop := isB s i k ∧ ∀ b, isB s i b → k < b → byteAt s b ≠ byteAt s i
theorem PInv_start (s : ByteArray) (i : Nat) (hi : 0 < i) : PInv s i (piN s i) :=
  ⟨piN_is s i hi, fun b hb h => absurd (piN_max s i b hb) (by omega)⟩
theorem isB_trans {s : ByteArray} {i k c : Nat} (h : isB s i k) (g : isB s k c) : isB s i c := by
  refine ⟨Nat.lt_trans g.1 h.1, fun t ht => ?_⟩
  have h1 := h.1
  have g1 := g.1
  rw [g.2 t ht, h.2 (k - c + t) (by omega)]
  congr 1; omega
theorem isB_sub {s : ByteArray} {i k b : Nat} (h : isB s i k) (g : isB s i b) (hb : b < k) : isB s k b := by
  refine ⟨hb, fun t ht => ?_⟩
  have h1 := h.1
  rw [g.2 t ht, h.2 (k - b + t) (by omega)]
  congr 1; omega
theorem PInv_step {s : ByteArray} {i k : Nat} (h : PInv s i k) (hk : 0 < k) (hne : byteAt s i ≠ byteAt s k) : PInv s i (piN s k) := by
  refine ⟨isB_trans h.1 (piN_is s k hk), fun b hb hlt => ?_⟩
  rcases Nat.lt_trichotomy b k with e | e | e
  · exact absurd (piN_max s k b (isB_sub h.1 hb e)) (by omega)
  · subst e; exact fun x => hne x.symm
  · exact h.2 b hb e
theorem isB_succ (s : ByteArray) (i c : Nat) : isB s (i + 1) (c + 1) ↔ isB s i c ∧ byteAt s c = byteAt s i := by
  constructor
  · rintro ⟨h1, h2⟩
    refine ⟨⟨by omega, fun t ht => ?_⟩, ?_⟩
    · rw [h2 t (by omega)]; congr 1; omega
    · rw [h2 c (by omega)]; congr 1; omega
  · rintro ⟨⟨h1, h2⟩, h3⟩
    refine ⟨by omega, fun t ht => ?_⟩
    by_cases e : t = c
    · subst e; rw [h3]; congr 1; omega
    · rw [h2 t (by omega)]; congr 1; omega
theorem PInv_hit {s : ByteArray} {i k : Nat} (h : PInv s i k) (he : byteAt s i = byteAt s k) : piN s (i + 1) = k + 1 := by
  refine piN_eq s (i + 1) (k + 1) ((isB_succ s i k).mpr ⟨h.1, he.symm⟩) fun b hb => ?_
  cases b with
  | zero => omega
  | succ b =>
    obtain ⟨h1, h2⟩ := (isB_succ s i b).mp hb
    by_cases e : k < b
    · exact absurd h2 (h.2 b h1 e)
    · omega
theorem PInv_miss {s : ByteArray} {i : Nat} (h : PInv s i 0) (he : byteAt s i ≠ byteAt s 0) : piN s (i + 1) = 0 := by
  refine piN_eq s (i + 1) 0 ⟨by omega, fun t ht => absurd ht (Nat.not_lt_zero _)⟩ fun b hb => ?_
  cases b with
  | zero => omega
  | succ b =>
    obtain ⟨h1, h2⟩ := (isB_succ s i b).mp hb
    by_cases e : 0 < b
    · exact absurd h2 (h.2 b h1 e)
    · have : b = 0 := by omega
      subst this
      exact absurd h2.symm he
end Go.Proofs.Ytahemhjlfajlkaa.PL
