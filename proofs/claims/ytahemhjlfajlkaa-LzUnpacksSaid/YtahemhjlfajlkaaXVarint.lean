/- What varint.Take comes to, for every text. -/
import Derived.Test.YtahemhjlfajlkaaXPut
import Derived.ScopeJumps
import Derived.WalkMore
import Derived.Lib.Hide
namespace Go.Proofs.Ytahemhjlfajlkaa.PL
open Go.RowKit Go.Proofs.YtahemhjlfajlkaaW.PrintWords Go.Proofs.YtahemhjlfajlkaaW.PrintLast Go.Proofs.YtahemhjlfajlkaaW.PrintMore
set_option linter.unusedVariables false
set_option linter.unusedSimpArgs false

/-! ### varint.Take -/
theorem wp_scope_jumps2 {P : Program} {a : Act} {w : World} {Q : Exit → Act → World → Prop} {c rest : Code} (l : Nat) (J : Act → World → Prop) (μ : Act → World → Nat) (hf : findLabel c l = some (.seq .skip rest))
    (first : (∀ a w, J a w → rest.wp P (Exit.jump l J Q) a w) → c.wp P (Exit.jump l J Q) a w)
    (pass : ∀ a w, J a w → rest.wp P (Exit.jump l (fun a' w' => J a' w' ∧ μ a' w' < μ a w) Q) a w) : (Code.scope c).wp P Q a w :=
  wp_scope_jumps l J μ hf (first fun a w h => wp_mono (pass a w h) fun e a w hq => by
    cases e with
    | goto l' => exact ⟨hq.1, hq.2.1⟩
    | _ => exact hq) fun a w h => wp_seq (wp_skip (pass a w h))
def nextU (u : Int) (c : Int) (k : Nat) : Int := bits .or .u64 u (IntKind.u64.wrap (IntKind.u64.wrap (bits .and .u8 c 127) * 2 ^ (7 * k)))
def unzI (u : Int) : Int := bits .xor .i64 (wrap64 (u / 2)) (wrap64 (-wrap64 (bits .and .u64 u 1)))
def takeF : Nat → ByteArray → Nat → Int → Int × ByteArray × Int
  | 0, _, _, _ => (0, ⟨#[]⟩, 2)
  | f + 1, s, k, u => if h : k < s.size then
      if (128 : Int) ≤ s[k].toNat then takeF f s (k + 1) (nextU u s[k].toNat k)
      else if (0 < k ∧ s[k].toNat = 0) ∨ (k = 9 ∧ 1 < s[k].toNat) then (0, ⟨#[]⟩, 2) else (unzI (nextU u s[k].toNat k), s.extract (k + 1) s.size, 0)
    else (0, ⟨#[]⟩, 2)
def varint_Take.f (s : ByteArray) : Option (Int × ByteArray × Int) := some (takeF 10 s 0 0)
def JT (s : ByteArray) (w : World) (r : Int × ByteArray × Int) (a' : Act) (w' : World) : Prop :=
  w = w' ∧ ∃ (k : Nat) (u : Int) (u1 u7 u8 u9 u10 u11 u12 u13 u14 u15 u16 u17 u18 u19 u20 u21 u22 u23 u24 u25 u26 u27 u28 u29 u30 u31 u32 u33 u34 u35 u36 u37 u38 u39 u40 u41 u42 u43 u44 u45 u46 u47 u48 u49 u50 u51 u52 u53 u54 u55 : Value), a' = { tmps := #[.string s, u1, .int .i64 0, .string ⟨#[]⟩, .int .i64 0, .int .u64 u, .int .i64 (k : Int), u7, u8, u9, u10, u11, u12, u13, u14, u15, u16, u17, u18, u19, u20, u21, u22, u23, u24, u25, u26, u27, u28, u29, u30, u31, u32, u33, u34, u35, u36, u37, u38, u39, u40, u41, u42, u43, u44, u45, u46, u47, u48, u49, u50, u51, u52, u53, u54, u55], defers := [] } ∧ k ≤ s.size ∧ k ≤ 10 ∧ Hid (takeF (10 - k) s k u = r)
theorem take_fail (s : ByteArray) (k : Nat) (u : Int) (r : Int × ByteArray × Int) (H : Hid (takeF (10 - k) s k u = r)) (h : k = s.size ∨ k = 10) : r = (0, ⟨#[]⟩, 2) := by
  have H' := H.out
  rw [← H']
  rcases h with h | h
  · cases hf : 10 - k with
    | zero => rfl
    | succ f => simp only [takeF]; rw [dif_neg (by omega)]
  · rw [show 10 - k = 0 by omega]; rfl
theorem take_next (s : ByteArray) (k : Nat) (u : Int) (r : Int × ByteArray × Int) (H : Hid (takeF (10 - k) s k u = r)) (hk : k < s.size) (h10 : k < 10) (h : (128 : Int) ≤ s[k].toNat) : Hid (takeF (10 - (k + 1)) s (k + 1) (nextU u s[k].toNat k) = r) := by
  have H' := H.out
  rw [show 10 - k = (10 - (k + 1)) + 1 by omega] at H'
  simp only [takeF] at H'
  rw [dif_pos hk, if_pos h] at H'
  exact Lib.hid H'
theorem take_bad (s : ByteArray) (k : Nat) (u : Int) (r : Int × ByteArray × Int) (H : Hid (takeF (10 - k) s k u = r)) (hk : k < s.size) (h10 : k < 10) (h : ¬ (128 : Int) ≤ s[k].toNat) (hb : (0 < k ∧ s[k].toNat = 0) ∨ (k = 9 ∧ 1 < s[k].toNat)) : r = (0, ⟨#[]⟩, 2) := by
  have H' := H.out
  rw [show 10 - k = (10 - (k + 1)) + 1 by omega] at H'
  simp only [takeF] at H'
  rw [dif_pos hk, if_neg h, if_pos hb] at H'
  exact H'.symm
theorem take_good (s : ByteArray) (k : Nat) (u : Int) (r : Int × ByteArray × Int) (H : Hid (takeF (10 - k) s k u = r)) (hk : k < s.size) (h10 : k < 10) (h : ¬ (128 : Int) ≤ s[k].toNat) (hb : ¬ ((0 < k ∧ s[k].toNat = 0) ∨ (k = 9 ∧ 1 < s[k].toNat))) : r = (unzI (nextU u s[k].toNat k), s.extract (k + 1) s.size, 0) := by
  have H' := H.out
  rw [show 10 - k = (10 - (k + 1)) + 1 by omega] at H'
  simp only [takeF] at H'
  rw [dif_pos hk, if_neg h, if_neg hb] at H'
  exact H'.symm
set_option maxRecDepth 1000000 in
set_option maxHeartbeats 4000000 in
theorem take_walk (s : ByteArray) (w : World) (r : Int × ByteArray × Int) (H : Hid (takeF 10 s 0 0 = r)) :
    Calls Try.prog 14 #[.string s] w fun e w' => e = .returned (.tuple #[.int .i64 r.1, .string r.2.1, .int .i64 r.2.2]) ∧ Drawn0 w w' := by
  go_enter Try.func14, Try.ntmps14
  go_wp2
  refine wp_scope_jumps2 0 (JT s w r) (fun a' _ => 10 - (intOf' (a'.tmps.getD 6 undef)).toNat) rfl ?_ ?_
  · intro hp
    go_wp2
    go_step3
    rename_i K hK
    refine hK _ _ (hp _ _ ?_)
    exact ⟨rfl, 0, 0, _, _, _, _, _, _, _, _, _, _, _, _, _, _, _, _, _, _, _, _, _, _, _, _, _, _, _, _, _, _, _, _, _, _, _, _, _, _, _, _, _, _, _, _, _, _, _, _, _, _, rfl, Nat.zero_le _, by omega, H⟩
  · rintro a w1 ⟨rfl, k, u, u1, u7, u8, u9, u10, u11, u12, u13, u14, u15, u16, u17, u18, u19, u20, u21, u22, u23, u24, u25, u26, u27, u28, u29, u30, u31, u32, u33, u34, u35, u36, u37, u38, u39, u40, u41, u42, u43, u44, u45, u46, u47, u48, u49, u50, u51, u52, u53, u54, u55, rfl, hk, hk10, HR⟩
    by_cases h1 : k = s.size
    · have e := take_fail s k u r HR (.inl h1)
      subst e
      have h1b : ((k : Int) == (s.size : Int)) = true := by rw [h1]; exact beq_self_eq_true _
      clear h1
      go_wp2
      simp only [Exit.jump]
      go_ret3
      exact ⟨rfl, Drawn0.refl _⟩
    have h1b : ((k : Int) == (s.size : Int)) = false := beq_eq_false_iff_ne.mpr (by omega)
    by_cases h2 : k = 10
    · have e := take_fail s k u r HR (.inr h2)
      subst e
      have h2b : ((k : Int) == 10) = true := beq_iff_eq.mpr (by omega)
      go_wp2
      simp only [Exit.jump]
      go_ret3
      exact ⟨rfl, Drawn0.refl _⟩
    have h2b : ((k : Int) == 10) = false := beq_eq_false_iff_ne.mpr (by omega)
    have p5 : (0 ≤ (k : Int)) = True := eq_true (by omega)
    have q5 : ((k : Int) < (s.size : Int)) = True := eq_true (by omega)
    have hlt : k < s.size := by omega
    have h10 : k < 10 := by omega
    have s1 : (0 ≤ 7 * (k : Int)) = True := eq_true (by omega)
    have s2 : (7 * (k : Int) ≤ 64) = True := eq_true (by omega)
    have s3 : (7 * (k : Int) < 64) = True := eq_true (by omega)
    by_cases h3 : (128 : Int) ≤ s[k].toNat
    · have HN := take_next s k u r HR hlt h10 h3
      have h3c : decide ((128 : Int) ≤ s[k].toNat) = true := decide_eq_true h3
      go_wp2
      go_step3
      refine ⟨rfl, ⟨rfl, k + 1, nextU u s[k].toNat k, _, _, _, _, _, _, _, _, _, _, _, _, _, _, _, _, _, _, _, _, _, _, _, _, _, _, _, _, _, _, _, _, _, _, _, _, _, _, _, _, _, _, _, _, _, _, _, _, _, _, rfl, by omega, by omega, HN⟩, ?_⟩
      simp [intOf']
      omega
    · have h3c : decide ((128 : Int) ≤ s[k].toNat) = false := decide_eq_false h3
      by_cases hb : (0 < k ∧ s[k].toNat = 0) ∨ (k = 9 ∧ 1 < s[k].toNat)
      · have e := take_bad s k u r HR hlt h10 h3 hb
        subst e
        rcases hb with ⟨g1, g2⟩ | ⟨g1, g2⟩
        · have f1 : decide ((1 : Int) < (k : Int) + 1) = true := decide_eq_true (by omega)
          have f2 : ((s[k].toNat : Int) == 0) = true := beq_iff_eq.mpr (by omega)
          clear g2
          go_wp2
          simp only [Exit.jump]
          go_ret3
          exact ⟨rfl, Drawn0.refl _⟩
        · have f1 : decide ((1 : Int) < (k : Int) + 1) = true := decide_eq_true (by omega)
          have f2 : ((s[k].toNat : Int) == 0) = false := beq_eq_false_iff_ne.mpr (by omega)
          have f3 : ((k : Int) + 1 == 10) = true := beq_iff_eq.mpr (by omega)
          have f4 : decide ((1 : Int) < s[k].toNat) = true := decide_eq_true (by omega)
          clear g1
          go_wp2
          simp only [Exit.jump]
          go_ret3
          exact ⟨rfl, Drawn0.refl _⟩
      · have e := take_good s k u r HR hlt h10 h3 hb
        subst e
        have w1 : (0 ≤ (k : Int) + 1) = True := eq_true (by omega)
        have w2 : ((k : Int) + 1 ≤ (s.size : Int)) = True := eq_true (by omega)
        by_cases g9 : k = 9
        · have f1 : decide ((1 : Int) < (k : Int) + 1) = true := decide_eq_true (by omega)
          have f2 : ((s[k].toNat : Int) == 0) = false := beq_eq_false_iff_ne.mpr (by omega)
          have f3 : ((k : Int) + 1 == 10) = true := beq_iff_eq.mpr (by omega)
          have f4 : decide ((1 : Int) < s[k].toNat) = false := decide_eq_false (by omega)
          have G9 := Lib.hid g9
          clear hb g9
          go_wp2
          go_quiet (fail)
          go_wp2
          simp only [Exit.jump]
          go_ret3
          have e9 := G9.out
          subst e9
          exact ⟨rfl, by repeat (first | exact Drawn0.refl _ | apply Drawn0.step)⟩
        · have f3 : ((k : Int) + 1 == 10) = false := beq_eq_false_iff_ne.mpr (by omega)
          by_cases g0 : k = 0
          · have f1 : decide ((1 : Int) < (k : Int) + 1) = false := decide_eq_false (by omega)
            clear hb g9 g0
            go_wp2
            go_quiet (fail)
            go_wp2
            simp only [Exit.jump]
            go_ret3
            exact ⟨rfl, by repeat (first | exact Drawn0.refl _ | apply Drawn0.step)⟩
          · have f1 : decide ((1 : Int) < (k : Int) + 1) = true := decide_eq_true (by omega)
            have f2 : ((s[k].toNat : Int) == 0) = false := beq_eq_false_iff_ne.mpr (by omega)
            clear hb g9 g0
            go_wp2
            go_quiet (fail)
            go_wp2
            simp only [Exit.jump]
            go_ret3
            exact ⟨rfl, by repeat (first | exact Drawn0.refl _ | apply Drawn0.step)⟩
theorem varint_Take.calls (a0 : ByteArray) (r1 : Int) (r2 : ByteArray) (r3 : Int) (w : World) (h : varint_Take.f a0 = some (r1, r2, r3)) :
    Calls Try.prog 14 #[.string a0] w fun e w' => e = .returned (.tuple #[.int .i64 r1, .string r2, .int .i64 r3]) ∧ Drawn0 w w' := by
  have h' := Option.some.inj h
  exact take_walk a0 w (r1, r2, r3) (Lib.hid h')
end Go.Proofs.Ytahemhjlfajlkaa.PL
