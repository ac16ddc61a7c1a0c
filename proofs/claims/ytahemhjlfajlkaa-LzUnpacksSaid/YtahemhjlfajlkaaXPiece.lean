-- Printed by this work's own program (wip/mprint) out of the translation; Lean checks it.
import Derived.Test.YtahemhjlfajlkaaPLx0
import Derived.Test.YtahemhjlfajlkaaPLx3
namespace Go.Proofs.Ytahemhjlfajlkaa.PL
open Go.RowKit Go.Proofs.YtahemhjlfajlkaaW.PrintWords Go.Proofs.YtahemhjlfajlkaaW.PrintLast Go.Proofs.YtahemhjlfajlkaaW.PrintMore
attribute [local go_sem] max2_int min2_int max_two min_two max_three min_three max_four min_four   -- for this text's walks alone
set_option linter.unusedVariables false
set_option linter.unusedSimpArgs false

/-! ### headgateref32_piece: function 15 -/
mutual
def headgateref32_piece.j0 : Nat → ByteArray → Int → Int → ByteArray → Bool → Option (ByteArray × ByteArray × Int)
  | 0, _, _, _, _, _ => none
  | k + 1, x0, x2, x9, x10, x30 => if x30 = true then (some ((⟨#[]⟩ : ByteArray), (⟨#[]⟩ : ByteArray), 2)) else (if (Int.tmod x9 2) = 0 then (if (wrap64 (Int.tdiv x9 2)) > (x10.size : Int) then (some ((⟨#[]⟩ : ByteArray), (⟨#[]⟩ : ByteArray), 2)) else (if (wrap64 (Int.tdiv x9 2)) > (wrap64 (x2 - (x0.size : Int))) then (some ((⟨#[]⟩ : ByteArray), (⟨#[]⟩ : ByteArray), 2)) else (if 0 ≤ (wrap64 (Int.tdiv x9 2)) then (if (wrap64 (Int.tdiv x9 2)) ≤ (x10.size : Int) then (if x0.size + (x10.extract 0 ((wrap64 (Int.tdiv x9 2)) : Int).toNat).size ≤ 9223372036854775807 then (some (x0 ++ (x10.extract 0 ((wrap64 (Int.tdiv x9 2)) : Int).toNat), x10.extract ((wrap64 (Int.tdiv x9 2)) : Int).toNat x10.size, 0)) else (none)) else (none)) else (none)))) else ((headgateref01_Take.f k x10).bind fun bt125 => (if bt125.2.2 = 0 then (if bt125.1 < 1 then (headgateref32_piece.j1 k x0 (wrap64 (Int.tdiv x9 2)) bt125.1 bt125.2.1 true) else (if bt125.1 > 4096 then (headgateref32_piece.j1 k x0 (wrap64 (Int.tdiv x9 2)) bt125.1 bt125.2.1 true) else (if bt125.1 > (x0.size : Int) then (headgateref32_piece.j1 k x0 (wrap64 (Int.tdiv x9 2)) bt125.1 bt125.2.1 true) else (headgateref32_piece.j1 k x0 (wrap64 (Int.tdiv x9 2)) bt125.1 bt125.2.1 (decide ((wrap64 (Int.tdiv x9 2)) > (wrap64 ((wrap64 (x2 - (x0.size : Int))) - 4)))))))) else (headgateref32_piece.j1 k x0 (wrap64 (Int.tdiv x9 2)) bt125.1 bt125.2.1 true))))
def headgateref32_piece.j1 : Nat → ByteArray → Int → Int → ByteArray → Bool → Option (ByteArray × ByteArray × Int)
  | 0, _, _, _, _, _ => none
  | k + 1, x0, x12, x13, x14, x86 => if x86 = true then (some ((⟨#[]⟩ : ByteArray), (⟨#[]⟩ : ByteArray), 2)) else (if 0 ≤ (wrap64 ((x0.size : Int) - x13)) then (if (wrap64 ((x0.size : Int) - x13)) ≤ (x0.size : Int) then (headgateref32_piece.l0 k x12 x13 x14 (x0.extract ((wrap64 ((x0.size : Int) - x13)) : Int).toNat x0.size) x0 0) else (none)) else (none))
def headgateref32_piece.l0 : Nat → Int → Int → ByteArray → ByteArray → ByteArray → Int → Option (ByteArray × ByteArray × Int)
  | 0, _, _, _, _, _, _ => none
  | k + 1, x12, x13, x14, x16, x17, x18 => if x18 < (wrap64 (x12 + 4)) then (if x13 = 0 then (none) else (if 0 ≤ (Int.tmod x18 x13) then (if (Int.tmod x18 x13) ≤ (wrap64 ((Int.tmod x18 x13) + 1)) then (if (wrap64 ((Int.tmod x18 x13) + 1)) ≤ (x16.size : Int) then (if x17.size + (x16.extract ((Int.tmod x18 x13) : Int).toNat ((wrap64 ((Int.tmod x18 x13) + 1)) : Int).toNat).size ≤ 9223372036854775807 then (headgateref32_piece.l0 k x12 x13 x14 x16 (x17 ++ (x16.extract ((Int.tmod x18 x13) : Int).toNat ((wrap64 ((Int.tmod x18 x13) + 1)) : Int).toNat)) (wrap64 (x18 + 1))) else (none)) else (none)) else (none)) else (none))) else (some (x17, x14, 0))
end
def headgateref32_piece.f (k : Nat) (a0 : ByteArray) (a1 : ByteArray) (a2 : Int) : Option (ByteArray × ByteArray × Int) := (headgateref01_Take.f k a1).bind fun bt122 => (if bt122.2.2 = 0 then (headgateref32_piece.j0 k a0 a2 bt122.1 bt122.2.1 (decide (bt122.1 < 1))) else (headgateref32_piece.j0 k a0 a2 bt122.1 bt122.2.1 true))
theorem headgateref32_piece.mono_l : ∀ k, (∀ y0 y1 y2 y3 y4, LeO (headgateref32_piece.j0 k y0 y1 y2 y3 y4) (headgateref32_piece.j0 (k + 1) y0 y1 y2 y3 y4)) ∧ (∀ y0 y1 y2 y3 y4, LeO (headgateref32_piece.j1 k y0 y1 y2 y3 y4) (headgateref32_piece.j1 (k + 1) y0 y1 y2 y3 y4)) ∧ (∀ y0 y1 y2 y3 y4 y5, LeO (headgateref32_piece.l0 k y0 y1 y2 y3 y4 y5) (headgateref32_piece.l0 (k + 1) y0 y1 y2 y3 y4 y5))
  | 0 => ⟨fun _ _ _ _ _ r h => by simp [headgateref32_piece.j0] at h, fun _ _ _ _ _ r h => by simp [headgateref32_piece.j1] at h, fun _ _ _ _ _ _ r h => by simp [headgateref32_piece.l0] at h⟩
  | k + 1 => by
    obtain ⟨ih0, ih1, ih2⟩ := headgateref32_piece.mono_l k
    refine ⟨?_, ?_, ?_⟩
    · intro y0 y1 y2 y3 y4
      unfold headgateref32_piece.j0
      repeat' first
      | (with_reducible exact ih0 _ _ _ _ _)
      | (with_reducible exact ih1 _ _ _ _ _)
      | (with_reducible exact ih2 _ _ _ _ _ _)
      | (with_reducible exact headgateref01_Take.mono _ _)
      | (with_reducible exact LeO.refl _)
      | (with_reducible exact LeO.none _)
      | (with_reducible refine LeO.ite ?_ ?_)
      | (with_reducible refine LeO.bind ?_ (fun _ => ?_))
      | exact ih0 _ _ _ _ _
      | exact ih1 _ _ _ _ _
      | exact ih2 _ _ _ _ _ _
      | exact headgateref01_Take.mono _ _
      | exact LeO.none _
      | refine LeO.ite ?_ ?_
      | refine LeO.bind ?_ (fun _ => ?_)
    · intro y0 y1 y2 y3 y4
      unfold headgateref32_piece.j1
      repeat' first
      | (with_reducible exact ih0 _ _ _ _ _)
      | (with_reducible exact ih1 _ _ _ _ _)
      | (with_reducible exact ih2 _ _ _ _ _ _)
      | (with_reducible exact headgateref01_Take.mono _ _)
      | (with_reducible exact LeO.refl _)
      | (with_reducible exact LeO.none _)
      | (with_reducible refine LeO.ite ?_ ?_)
      | (with_reducible refine LeO.bind ?_ (fun _ => ?_))
      | exact ih0 _ _ _ _ _
      | exact ih1 _ _ _ _ _
      | exact ih2 _ _ _ _ _ _
      | exact headgateref01_Take.mono _ _
      | exact LeO.none _
      | refine LeO.ite ?_ ?_
      | refine LeO.bind ?_ (fun _ => ?_)
    · intro y0 y1 y2 y3 y4 y5
      unfold headgateref32_piece.l0
      repeat' first
      | (with_reducible exact ih0 _ _ _ _ _)
      | (with_reducible exact ih1 _ _ _ _ _)
      | (with_reducible exact ih2 _ _ _ _ _ _)
      | (with_reducible exact headgateref01_Take.mono _ _)
      | (with_reducible exact LeO.refl _)
      | (with_reducible exact LeO.none _)
      | (with_reducible refine LeO.ite ?_ ?_)
      | (with_reducible refine LeO.bind ?_ (fun _ => ?_))
      | exact ih0 _ _ _ _ _
      | exact ih1 _ _ _ _ _
      | exact ih2 _ _ _ _ _ _
      | exact headgateref01_Take.mono _ _
      | exact LeO.none _
      | refine LeO.ite ?_ ?_
      | refine LeO.bind ?_ (fun _ => ?_)
theorem headgateref32_piece.mono : ∀ a0 a1 a2 k, LeO (headgateref32_piece.f k a0 a1 a2) (headgateref32_piece.f (k + 1) a0 a1 a2) := by
  intro a0 a1 a2 k
  obtain ⟨ih0, ih1, ih2⟩ := headgateref32_piece.mono_l k
  unfold headgateref32_piece.f
  repeat' first
      | (with_reducible exact ih0 _ _ _ _ _)
      | (with_reducible exact ih1 _ _ _ _ _)
      | (with_reducible exact ih2 _ _ _ _ _ _)
      | (with_reducible exact headgateref01_Take.mono _ _)
      | (with_reducible exact LeO.refl _)
      | (with_reducible exact LeO.none _)
      | (with_reducible refine LeO.ite ?_ ?_)
      | (with_reducible refine LeO.bind ?_ (fun _ => ?_))
      | exact ih0 _ _ _ _ _
      | exact ih1 _ _ _ _ _
      | exact ih2 _ _ _ _ _ _
      | exact headgateref01_Take.mono _ _
      | exact LeO.none _
      | refine LeO.ite ?_ ?_
      | refine LeO.bind ?_ (fun _ => ?_)
set_option maxHeartbeats 8000000 in
set_option maxRecDepth 100000 in
theorem headgateref32_piece.calls (k : Nat) (a0 : ByteArray) (a1 : ByteArray) (a2 : Int) (r1 : ByteArray) (r2 : ByteArray) (r3 : Int) (w : World) (h : headgateref32_piece.f k a0 a1 a2 = some (r1, r2, r3)) :
    Calls Try.prog 15 #[.string a0, .string a1, .int .i64 a2] w fun e w' => e = .returned (.tuple #[.string r1, .string r2, .int .i64 r3]) ∧ Below w.heap.size w w' := by
  have HB := Aside0.mk (Below.refl w.heap.size w)
  have H : ((headgateref01_Take.f k a1).bind fun bt122 => (if bt122.2.2 = 0 then (headgateref32_piece.j0 k a0 a2 bt122.1 bt122.2.1 (decide (bt122.1 < 1))) else (headgateref32_piece.j0 k a0 a2 bt122.1 bt122.2.1 true))) = some (r1, r2, r3) := h
  clear h
  replace H := Option.bind_eq_some_iff.mp H
  obtain ⟨⟨t122, t123, t124⟩, A40, H⟩ := H
  replace H : (if t124 = 0 then (headgateref32_piece.j0 k a0 a2 t122 t123 (decide (t122 < 1))) else (headgateref32_piece.j0 k a0 a2 t122 t123 true)) = some (r1, r2, r3) := H
  have A4 := Aside0.mk A40
  clear A40
  have HC5 := Aside0.mk H
  clear H
  go_enter Try.func15, Try.ntmps15
  go_upto_region 2 with (first | (go_at_call 18; (with_reducible refine (headgateref01_Take.calls k a1 t122 t123 t124 _ A4.out).mono ?_); rintro e w6 ⟨rfl, hb⟩; have n0_ := Aside0.mk (below_step (by repeat (first | (with_reducible first | exact HB.out | apply below_alloc | apply pw_below_drewN | apply below_drew1) | exact HB.out)) hb); clear HB; have HB := n0_; clear n0_; (try clear hb); (try clear hb2); (try clear hk); (try clear hi)))
  repeat (go_quiet (first | (go_at_call 18; (with_reducible refine (headgateref01_Take.calls k a1 t122 t123 t124 _ A4.out).mono ?_); rintro e w6 ⟨rfl, hb⟩; have n0_ := Aside0.mk (below_step (by repeat (first | (with_reducible first | exact HB.out | apply below_alloc | apply pw_below_drewN | apply below_drew1) | exact HB.out)) hb); clear HB; have HB := n0_; clear n0_; (try clear hb); (try clear hb2); (try clear hk); (try clear hi))); go_upto_region 2 with (first | (go_at_call 18; (with_reducible refine (headgateref01_Take.calls k a1 t122 t123 t124 _ A4.out).mono ?_); rintro e w6 ⟨rfl, hb⟩; have n0_ := Aside0.mk (below_step (by repeat (first | (with_reducible first | exact HB.out | apply below_alloc | apply pw_below_drewN | apply below_drew1) | exact HB.out)) hb); clear HB; have HB := n0_; clear n0_; (try clear hb); (try clear hb2); (try clear hk); (try clear hi))))
  (try simp only [Act.put, List.setIfInBounds_toArray, List.set_cons_zero, List.set_cons_succ])
  go_cut [30] (fun v30 wc => ∃ (kq : Nat) (x30_4 : Bool), v30 = .bool x30_4 ∧ Aside0 (headgateref32_piece.j0 kq a0 a2 t122 t123 x30_4 = some (r1, r2, r3)) ∧ Aside0 (kq ≤ k) ∧ Aside0 (Below w.heap.size w wc))
  case first =>
    have H := HC5.out
    clear HC5
    by_cases c7 : t124 = 0
    · rw [if_pos c7] at H
      have c7b0 : (t124 == 0) = true := beq_iff_eq.mpr c7
      have c7b1 : (t124 != 0) = false := bne_eq_false_iff_eq.mpr c7
      clear c7
      (first | rw [c7b0] | (simp only [i64_w, i32_w]; rw [c7b0]) | skip)
      have H' := Aside0.mk H
      clear H
      go_wp2
      repeat (go_quiet (fail); try go_wp2)
      go_meet
      case rel => exact ⟨_, (decide (t122 < 1)), (by first | rfl | (simp; done) | (simp [*]; done)), H', ⟨by first | omega | exact Nat.le_refl _⟩, ⟨by repeat (first | (with_reducible first | exact HB.out | apply below_alloc | apply pw_below_drewN | apply below_drew1) | exact HB.out)⟩⟩
    · rw [if_neg c7] at H
      have c7b0 : (t124 == 0) = false := beq_eq_false_iff_ne.mpr c7
      have c7b1 : (t124 != 0) = true := bne_iff_ne.mpr c7
      (first | rw [c7b0] | (simp only [i64_w, i32_w]; rw [c7b0]) | skip)
      have H' := Aside0.mk H
      clear H
      go_wp2
      repeat (go_quiet (fail); try go_wp2)
      go_meet
      case rel => exact ⟨_, (true), (by first | rfl | (simp; done) | (simp [*]; done)), H', ⟨by first | omega | exact Nat.le_refl _⟩, ⟨by repeat (first | (with_reducible first | exact HB.out | apply below_alloc | apply pw_below_drewN | apply below_drew1) | exact HB.out)⟩⟩
  case rest =>
    clear HC5
    try clear c1
    try clear p2
    try clear c7
    try clear c7b0
    try clear c7b1
    obtain ⟨kq, x30_4, rfl, HA, HJ4, HB⟩ := hcut
    cases kq with
    | zero => exact absurd HA.out (by simp [headgateref32_piece.j0])
    | succ kj4 =>
      have H := HA.out
      clear HA
      simp only [headgateref32_piece.j0] at H
      by_cases c8 : x30_4 = true
      · subst c8
        have H1 : (some ((⟨#[]⟩ : ByteArray), (⟨#[]⟩ : ByteArray), 2)) = some (r1, r2, r3) := by rw [if_pos rfl] at H; exact H
        clear H
        have H := H1
        clear H1
        simp only [Option.some.injEq, Prod.mk.injEq] at H
        obtain ⟨rfl, rfl, rfl⟩ := H
        go_wp2
        repeat (go_quiet (fail); try go_wp2)
        go_ret3
        exact ⟨by first | rfl | (simp [errW_none, errW_some] <;> rfl) | (simp [*, errW_none, errW_some] <;> rfl), by repeat (first | (with_reducible first | exact HB.out | apply below_alloc | apply pw_below_drewN | apply below_drew1) | exact HB.out)⟩
      · replace c8 := Bool.eq_false_iff.mpr c8
        subst c8
        have H1 : (if (Int.tmod t122 2) = 0 then (if (wrap64 (Int.tdiv t122 2)) > (t123.size : Int) then (some ((⟨#[]⟩ : ByteArray), (⟨#[]⟩ : ByteArray), 2)) else (if (wrap64 (Int.tdiv t122 2)) > (wrap64 (a2 - (a0.size : Int))) then (some ((⟨#[]⟩ : ByteArray), (⟨#[]⟩ : ByteArray), 2)) else (if 0 ≤ (wrap64 (Int.tdiv t122 2)) then (if (wrap64 (Int.tdiv t122 2)) ≤ (t123.size : Int) then (if a0.size + (t123.extract 0 ((wrap64 (Int.tdiv t122 2)) : Int).toNat).size ≤ 9223372036854775807 then (some (a0 ++ (t123.extract 0 ((wrap64 (Int.tdiv t122 2)) : Int).toNat), t123.extract ((wrap64 (Int.tdiv t122 2)) : Int).toNat t123.size, 0)) else (none)) else (none)) else (none)))) else ((headgateref01_Take.f kj4 t123).bind fun bt125 => (if bt125.2.2 = 0 then (if bt125.1 < 1 then (headgateref32_piece.j1 kj4 a0 (wrap64 (Int.tdiv t122 2)) bt125.1 bt125.2.1 true) else (if bt125.1 > 4096 then (headgateref32_piece.j1 kj4 a0 (wrap64 (Int.tdiv t122 2)) bt125.1 bt125.2.1 true) else (if bt125.1 > (a0.size : Int) then (headgateref32_piece.j1 kj4 a0 (wrap64 (Int.tdiv t122 2)) bt125.1 bt125.2.1 true) else (headgateref32_piece.j1 kj4 a0 (wrap64 (Int.tdiv t122 2)) bt125.1 bt125.2.1 (decide ((wrap64 (Int.tdiv t122 2)) > (wrap64 ((wrap64 (a2 - (a0.size : Int))) - 4)))))))) else (headgateref32_piece.j1 kj4 a0 (wrap64 (Int.tdiv t122 2)) bt125.1 bt125.2.1 true)))) = some (r1, r2, r3) := by rw [if_neg (show ¬ (false = true) by decide)] at H; exact H
        clear H
        have H := H1
        clear H1
        by_cases c9 : (Int.tmod t122 2) = 0
        · rw [if_pos c9] at H
          have c9b0 : ((Int.tmod t122 2) == 0) = true := beq_iff_eq.mpr c9
          have c9b1 : ((Int.tmod t122 2) != 0) = false := bne_eq_false_iff_eq.mpr c9
          clear c9
          by_cases c10 : (wrap64 (Int.tdiv t122 2)) > (t123.size : Int)
          · rw [if_pos c10] at H
            have c10b0 : decide ((t123.size : Int) < (wrap64 (Int.tdiv t122 2))) = true := decide_eq_true c10
            clear c10
            simp only [Option.some.injEq, Prod.mk.injEq] at H
            obtain ⟨rfl, rfl, rfl⟩ := H
            go_wp2
            repeat (go_quiet (fail); try go_wp2)
            go_ret3
            exact ⟨by first | rfl | (simp [errW_none, errW_some] <;> rfl) | (simp [*, errW_none, errW_some] <;> rfl), by repeat (first | (with_reducible first | exact HB.out | apply below_alloc | apply pw_below_drewN | apply below_drew1) | exact HB.out)⟩
          · rw [if_neg c10] at H
            have c10b0 : decide ((t123.size : Int) < (wrap64 (Int.tdiv t122 2))) = false := decide_eq_false c10
            clear c10
            by_cases c11 : (wrap64 (Int.tdiv t122 2)) > (wrap64 (a2 - (a0.size : Int)))
            · rw [if_pos c11] at H
              have c11b0 : decide ((wrap64 (a2 - (a0.size : Int))) < (wrap64 (Int.tdiv t122 2))) = true := decide_eq_true c11
              clear c11
              simp only [Option.some.injEq, Prod.mk.injEq] at H
              obtain ⟨rfl, rfl, rfl⟩ := H
              go_wp2
              repeat (go_quiet (fail); try go_wp2)
              go_ret3
              exact ⟨by first | rfl | (simp [errW_none, errW_some] <;> rfl) | (simp [*, errW_none, errW_some] <;> rfl), by repeat (first | (with_reducible first | exact HB.out | apply below_alloc | apply pw_below_drewN | apply below_drew1) | exact HB.out)⟩
            · rw [if_neg c11] at H
              have c11b0 : decide ((wrap64 (a2 - (a0.size : Int))) < (wrap64 (Int.tdiv t122 2))) = false := decide_eq_false c11
              clear c11
              obtain ⟨ji12, hji12⟩ : ∃ j_ : Int, (wrap64 (Int.tdiv t122 2)) = j_ := ⟨_, rfl⟩
              replace H : (if 0 ≤ (ji12) then (if (ji12) ≤ (t123.size : Int) then (if a0.size + (t123.extract 0 ((ji12) : Int).toNat).size ≤ 9223372036854775807 then (some (a0 ++ (t123.extract 0 ((ji12) : Int).toNat), t123.extract ((ji12) : Int).toNat t123.size, 0)) else (none)) else (none)) else (none)) = some (r1, r2, r3) := by first | (rw [hji12] at H; exact H) | (simp only [hji12] at H ⊢; exact H)
              (try rw [hji12] at c10b0)
              (try rw [hji12] at c11b0)
              have hji12w : (IntKind.i64.wrap (Int.tdiv t122 2)) = ji12 := (i64_w _).trans hji12
              by_cases c13 : 0 ≤ (ji12)
              · rw [if_pos c13] at H
                have c13b0 := eq_true c13
                have c13b1 : decide (0 ≤ (ji12)) = true := decide_eq_true c13
                clear c13
                by_cases c14 : (ji12) ≤ (t123.size : Int)
                · rw [if_pos c14] at H
                  have c14b0 := eq_true c14
                  have c14b1 : decide ((ji12) ≤ (t123.size : Int)) = true := decide_eq_true c14
                  clear c14
                  by_cases c15 : a0.size + (t123.extract 0 ((ji12) : Int).toNat).size ≤ 9223372036854775807
                  · rw [if_pos c15] at H
                    have c15b0 := eq_true c15
                    have c15b1 : decide (a0.size + (t123.extract 0 ((ji12) : Int).toNat).size ≤ 9223372036854775807) = true := decide_eq_true c15
                    try have c15b2 : (9223372036854775807 < a0.size + (t123.extract 0 ((ji12) : Int).toNat).size) = False := eq_false (Nat.not_lt.2 c15)
                    have c16b0 := eq_true (of_decide_eq_true (by first | (with_reducible assumption) | assumption) : 0 ≤ (ji12))
                    have c17b0 := eq_true (of_decide_eq_true (by first | (with_reducible assumption) | assumption) : (ji12) ≤ (t123.size : Int))
                    simp only [Option.some.injEq, Prod.mk.injEq] at H
                    obtain ⟨rfl, rfl, rfl⟩ := H
                    go_wp2
                    repeat (go_quiet (fail); try go_wp2)
                    go_ret3
                    exact ⟨by first | rfl | (simp [errW_none, errW_some] <;> rfl) | (simp only [← hji12]; first | rfl | (simp [errW_none, errW_some] <;> rfl)) | (simp [*, errW_none, errW_some] <;> rfl), by repeat (first | (with_reducible first | exact HB.out | apply below_alloc | apply pw_below_drewN | apply below_drew1) | exact HB.out)⟩
                  · rw [if_neg c15] at H
                    exact absurd H (by simp)
                · rw [if_neg c14] at H
                  exact absurd H (by simp)
              · rw [if_neg c13] at H
                exact absurd H (by simp)
        · rw [if_neg c9] at H
          have c9b0 : ((Int.tmod t122 2) == 0) = false := beq_eq_false_iff_ne.mpr c9
          have c9b1 : ((Int.tmod t122 2) != 0) = true := bne_iff_ne.mpr c9
          replace H := Option.bind_eq_some_iff.mp H
          obtain ⟨⟨t125, t126, t127⟩, A180, H⟩ := H
          replace H : (if t127 = 0 then (if t125 < 1 then (headgateref32_piece.j1 kj4 a0 (wrap64 (Int.tdiv t122 2)) t125 t126 true) else (if t125 > 4096 then (headgateref32_piece.j1 kj4 a0 (wrap64 (Int.tdiv t122 2)) t125 t126 true) else (if t125 > (a0.size : Int) then (headgateref32_piece.j1 kj4 a0 (wrap64 (Int.tdiv t122 2)) t125 t126 true) else (headgateref32_piece.j1 kj4 a0 (wrap64 (Int.tdiv t122 2)) t125 t126 (decide ((wrap64 (Int.tdiv t122 2)) > (wrap64 ((wrap64 (a2 - (a0.size : Int))) - 4)))))))) else (headgateref32_piece.j1 kj4 a0 (wrap64 (Int.tdiv t122 2)) t125 t126 true)) = some (r1, r2, r3) := H
          have A18 := Aside0.mk A180
          clear A180
          have HC19 := Aside0.mk H
          clear H
          go_upto_region 10 with (first | (go_at_call 18; (with_reducible refine (headgateref01_Take.calls kj4 t123 t125 t126 t127 _ A18.out).mono ?_); rintro e w20 ⟨rfl, hb⟩; have n0_ := Aside0.mk (below_step (by repeat (first | (with_reducible first | exact HB.out | apply below_alloc | apply pw_below_drewN | apply below_drew1) | exact HB.out)) hb); clear HB; have HB := n0_; clear n0_; (try clear hb); (try clear hb2); (try clear hk); (try clear hi)))
          repeat (go_quiet (first | (go_at_call 18; (with_reducible refine (headgateref01_Take.calls kj4 t123 t125 t126 t127 _ A18.out).mono ?_); rintro e w20 ⟨rfl, hb⟩; have n0_ := Aside0.mk (below_step (by repeat (first | (with_reducible first | exact HB.out | apply below_alloc | apply pw_below_drewN | apply below_drew1) | exact HB.out)) hb); clear HB; have HB := n0_; clear n0_; (try clear hb); (try clear hb2); (try clear hk); (try clear hi))); go_upto_region 10 with (first | (go_at_call 18; (with_reducible refine (headgateref01_Take.calls kj4 t123 t125 t126 t127 _ A18.out).mono ?_); rintro e w20 ⟨rfl, hb⟩; have n0_ := Aside0.mk (below_step (by repeat (first | (with_reducible first | exact HB.out | apply below_alloc | apply pw_below_drewN | apply below_drew1) | exact HB.out)) hb); clear HB; have HB := n0_; clear n0_; (try clear hb); (try clear hb2); (try clear hk); (try clear hi))))
          (try simp only [Act.put, List.setIfInBounds_toArray, List.set_cons_zero, List.set_cons_succ])
          go_cut [86] (fun v86 wc => ∃ (kq : Nat) (x86_18 : Bool), v86 = .bool x86_18 ∧ Aside0 (headgateref32_piece.j1 kq a0 (wrap64 (Int.tdiv t122 2)) t125 t126 x86_18 = some (r1, r2, r3)) ∧ Aside0 (kq ≤ kj4) ∧ Aside0 (Below w.heap.size w wc))
          case first =>
            have H := HC19.out
            clear HC19
            by_cases c21 : t127 = 0
            · rw [if_pos c21] at H
              have c21b0 : (t127 == 0) = true := beq_iff_eq.mpr c21
              have c21b1 : (t127 != 0) = false := bne_eq_false_iff_eq.mpr c21
              clear c21
              (first | rw [c21b0] | (simp only [i64_w, i32_w]; rw [c21b0]) | skip)
              by_cases c22 : t125 < 1
              · rw [if_pos c22] at H
                have c22b0 : decide (t125 < 1) = true := decide_eq_true c22
                clear c22
                have H' := Aside0.mk H
                clear H
                go_wp2
                repeat (go_quiet (fail); try go_wp2)
                go_meet
                case rel => exact ⟨_, (true), (by first | rfl | (simp; done) | (simp [*]; done)), H', ⟨by have := HJ4.out; first | omega | exact Nat.le_refl _⟩, ⟨by repeat (first | (with_reducible first | exact HB.out | apply below_alloc | apply pw_below_drewN | apply below_drew1) | exact HB.out)⟩⟩
              · rw [if_neg c22] at H
                have c22b0 : decide (t125 < 1) = false := decide_eq_false c22
                clear c22
                by_cases c23 : t125 > 4096
                · rw [if_pos c23] at H
                  have c23b0 : decide (4096 < t125) = true := decide_eq_true c23
                  clear c23
                  have H' := Aside0.mk H
                  clear H
                  go_wp2
                  repeat (go_quiet (fail); try go_wp2)
                  go_meet
                  case rel => exact ⟨_, (true), (by first | rfl | (simp; done) | (simp [*]; done)), H', ⟨by have := HJ4.out; first | omega | exact Nat.le_refl _⟩, ⟨by repeat (first | (with_reducible first | exact HB.out | apply below_alloc | apply pw_below_drewN | apply below_drew1) | exact HB.out)⟩⟩
                · rw [if_neg c23] at H
                  have c23b0 : decide (4096 < t125) = false := decide_eq_false c23
                  clear c23
                  by_cases c24 : t125 > (a0.size : Int)
                  · rw [if_pos c24] at H
                    have c24b0 : decide ((a0.size : Int) < t125) = true := decide_eq_true c24
                    clear c24
                    have H' := Aside0.mk H
                    clear H
                    go_wp2
                    repeat (go_quiet (fail); try go_wp2)
                    go_meet
                    case rel => exact ⟨_, (true), (by first | rfl | (simp; done) | (simp [*]; done)), H', ⟨by have := HJ4.out; first | omega | exact Nat.le_refl _⟩, ⟨by repeat (first | (with_reducible first | exact HB.out | apply below_alloc | apply pw_below_drewN | apply below_drew1) | exact HB.out)⟩⟩
                  · rw [if_neg c24] at H
                    have c24b0 : decide ((a0.size : Int) < t125) = false := decide_eq_false c24
                    clear c24
                    have H' := Aside0.mk H
                    clear H
                    go_wp2
                    repeat (go_quiet (fail); try go_wp2)
                    go_meet
                    case rel => exact ⟨_, (decide ((wrap64 (Int.tdiv t122 2)) > (wrap64 ((wrap64 (a2 - (a0.size : Int))) - 4)))), (by first | rfl | (simp; done) | (simp [*]; done)), H', ⟨by have := HJ4.out; first | omega | exact Nat.le_refl _⟩, ⟨by repeat (first | (with_reducible first | exact HB.out | apply below_alloc | apply pw_below_drewN | apply below_drew1) | exact HB.out)⟩⟩
            · rw [if_neg c21] at H
              have c21b0 : (t127 == 0) = false := beq_eq_false_iff_ne.mpr c21
              have c21b1 : (t127 != 0) = true := bne_iff_ne.mpr c21
              (first | rw [c21b0] | (simp only [i64_w, i32_w]; rw [c21b0]) | skip)
              have H' := Aside0.mk H
              clear H
              go_wp2
              repeat (go_quiet (fail); try go_wp2)
              go_meet
              case rel => exact ⟨_, (true), (by first | rfl | (simp; done) | (simp [*]; done)), H', ⟨by have := HJ4.out; first | omega | exact Nat.le_refl _⟩, ⟨by repeat (first | (with_reducible first | exact HB.out | apply below_alloc | apply pw_below_drewN | apply below_drew1) | exact HB.out)⟩⟩
          case rest =>
            clear HC19
            try clear c1
            try clear c2
            try clear p2
            try clear p6
            try clear c7
            try clear c7b0
            try clear c7b1
            try clear c8
            try clear c9
            try clear c9b0
            try clear c9b1
            try clear c10
            try clear c10b0
            try clear c11
            try clear c11b0
            try clear c13
            try clear c13b0
            try clear c13b1
            try clear c14
            try clear c14b0
            try clear c14b1
            try clear c15
            try clear c15b0
            try clear c15b1
            try clear c15b2
            try clear c16
            try clear c16b0
            try clear c17
            try clear c17b0
            try clear c21
            try clear c21b0
            try clear c21b1
            try clear c22
            try clear c22b0
            try clear c23
            try clear c23b0
            try clear c24
            try clear c24b0
            try clear p2
            obtain ⟨kq, x86_18, rfl, HA, HJ18, HB⟩ := hcut
            cases kq with
            | zero => exact absurd HA.out (by simp [headgateref32_piece.j1])
            | succ kj18 =>
              have H := HA.out
              clear HA
              simp only [headgateref32_piece.j1] at H
              by_cases c25 : x86_18 = true
              · subst c25
                have H1 : (some ((⟨#[]⟩ : ByteArray), (⟨#[]⟩ : ByteArray), 2)) = some (r1, r2, r3) := by rw [if_pos rfl] at H; exact H
                clear H
                have H := H1
                clear H1
                simp only [Option.some.injEq, Prod.mk.injEq] at H
                obtain ⟨rfl, rfl, rfl⟩ := H
                go_wp2
                repeat (go_quiet (fail); try go_wp2)
                go_ret3
                exact ⟨by first | rfl | (simp [errW_none, errW_some] <;> rfl) | (simp [*, errW_none, errW_some] <;> rfl), by repeat (first | (with_reducible first | exact HB.out | apply below_alloc | apply pw_below_drewN | apply below_drew1) | exact HB.out)⟩
              · replace c25 := Bool.eq_false_iff.mpr c25
                subst c25
                have H1 : (if 0 ≤ (wrap64 ((a0.size : Int) - t125)) then (if (wrap64 ((a0.size : Int) - t125)) ≤ (a0.size : Int) then (headgateref32_piece.l0 kj18 (wrap64 (Int.tdiv t122 2)) t125 t126 (a0.extract ((wrap64 ((a0.size : Int) - t125)) : Int).toNat a0.size) a0 0) else (none)) else (none)) = some (r1, r2, r3) := by rw [if_neg (show ¬ (false = true) by decide)] at H; exact H
                clear H
                have H := H1
                clear H1
                obtain ⟨ji26, hji26⟩ : ∃ j_ : Int, (wrap64 ((a0.size : Int) - t125)) = j_ := ⟨_, rfl⟩
                replace H : (if 0 ≤ (ji26) then (if (ji26) ≤ (a0.size : Int) then (headgateref32_piece.l0 kj18 (wrap64 (Int.tdiv t122 2)) t125 t126 (a0.extract ((ji26) : Int).toNat a0.size) a0 0) else (none)) else (none)) = some (r1, r2, r3) := by first | (rw [hji26] at H; exact H) | (simp only [hji26] at H ⊢; exact H)
                have hji26w : (IntKind.i64.wrap ((a0.size : Int) - t125)) = ji26 := (i64_w _).trans hji26
                by_cases c27 : 0 ≤ (ji26)
                · rw [if_pos c27] at H
                  have c27b0 := eq_true c27
                  have c27b1 : decide (0 ≤ (ji26)) = true := decide_eq_true c27
                  clear c27
                  by_cases c28 : (ji26) ≤ (a0.size : Int)
                  · rw [if_pos c28] at H
                    have c28b0 := eq_true c28
                    have c28b1 : decide ((ji26) ≤ (a0.size : Int)) = true := decide_eq_true c28
                    clear c28
                    have H' := Aside0.mk H
                    clear H
                    go_wp2
                    repeat (go_quiet (fail); try go_wp2)
                    go_loopg [17, 18] kj18 (fun kq v17 v18 w' => ∃ (x17_3 : ByteArray) (x18_3 : Int), v17 = .string x17_3 ∧ v18 = .int .i64 x18_3 ∧ Aside0 (headgateref32_piece.l0 kq (wrap64 (Int.tdiv t122 2)) t125 t126 (a0.extract ((ji26) : Int).toNat a0.size) x17_3 x18_3 = some (r1, r2, r3)) ∧ Aside0 (kq ≤ kj18) ∧ Aside0 (Below w.heap.size w w'))
                    case atStart => exact ⟨(a0), (0), (by first | rfl | (simp; done) | (simp [*]; done)), (by first | rfl | (simp; done) | (simp [*]; done)), H', ⟨Nat.le_refl _⟩, ⟨by repeat (first | (with_reducible first | exact HB.out | apply below_alloc | apply pw_below_drewN | apply below_drew1) | exact HB.out)⟩⟩
                    case round =>
                      clear H'
                      try clear c1
                      try clear c2
                      try clear p2
                      try clear p6
                      try clear c7
                      try clear c7b0
                      try clear c7b1
                      try clear c8
                      try clear c9
                      try clear c9b0
                      try clear c9b1
                      try clear c10
                      try clear c10b0
                      try clear c11
                      try clear c11b0
                      try clear c13
                      try clear c13b0
                      try clear c13b1
                      try clear c14
                      try clear c14b0
                      try clear c14b1
                      try clear c15
                      try clear c15b0
                      try clear c15b1
                      try clear c15b2
                      try clear c16
                      try clear c16b0
                      try clear c17
                      try clear c17b0
                      try clear c21
                      try clear c21b0
                      try clear c21b1
                      try clear c22
                      try clear c22b0
                      try clear c23
                      try clear c23b0
                      try clear c24
                      try clear c24b0
                      try clear c25
                      try clear c27
                      try clear c27b0
                      try clear c27b1
                      try clear c28
                      try clear c28b0
                      try clear c28b1
                      try clear p2
                      try clear p6
                      obtain ⟨x17_3, x18_3, rfl, rfl, HA, HK3, HB⟩ := hrel
                      cases gk with
                      | zero => exact absurd HA.out (by simp [headgateref32_piece.l0])
                      | succ k3 =>
                        have H := HA.out
                        clear HA
                        simp only [headgateref32_piece.l0] at H
                        by_cases c29 : x18_3 < (wrap64 ((wrap64 (Int.tdiv t122 2)) + 4))
                        · rw [if_pos c29] at H
                          have c29b0 : decide (x18_3 < (wrap64 ((wrap64 (Int.tdiv t122 2)) + 4))) = true := decide_eq_true c29
                          clear c29
                          by_cases c30 : t125 = 0
                          · rw [if_pos c30] at H
                            exact absurd H (by simp)
                          · rw [if_neg c30] at H
                            have c30b0 : (t125 == 0) = false := beq_eq_false_iff_ne.mpr c30
                            have c30b1 : (t125 != 0) = true := bne_iff_ne.mpr c30
                            obtain ⟨ji31, hji31⟩ : ∃ j_ : Int, (Int.tmod x18_3 t125) = j_ := ⟨_, rfl⟩
                            replace H : (if 0 ≤ (ji31) then (if (ji31) ≤ (wrap64 ((ji31) + 1)) then (if (wrap64 ((ji31) + 1)) ≤ ((a0.extract ((ji26) : Int).toNat a0.size).size : Int) then (if x17_3.size + ((a0.extract ((ji26) : Int).toNat a0.size).extract ((ji31) : Int).toNat ((wrap64 ((ji31) + 1)) : Int).toNat).size ≤ 9223372036854775807 then (headgateref32_piece.l0 k3 (wrap64 (Int.tdiv t122 2)) t125 t126 (a0.extract ((ji26) : Int).toNat a0.size) (x17_3 ++ ((a0.extract ((ji26) : Int).toNat a0.size).extract ((ji31) : Int).toNat ((wrap64 ((ji31) + 1)) : Int).toNat)) (wrap64 (x18_3 + 1))) else (none)) else (none)) else (none)) else (none)) = some (r1, r2, r3) := by first | (rw [hji31] at H; exact H) | (simp only [hji31] at H ⊢; exact H)
                            by_cases c32 : 0 ≤ (ji31)
                            · rw [if_pos c32] at H
                              have c32b0 := eq_true c32
                              have c32b1 : decide (0 ≤ (ji31)) = true := decide_eq_true c32
                              clear c32
                              by_cases c33 : (ji31) ≤ (wrap64 ((ji31) + 1))
                              · rw [if_pos c33] at H
                                have c33b0 := eq_true c33
                                have c33b1 : decide ((ji31) ≤ (wrap64 ((ji31) + 1))) = true := decide_eq_true c33
                                by_cases c34 : (wrap64 ((ji31) + 1)) ≤ ((a0.extract ((ji26) : Int).toNat a0.size).size : Int)
                                · rw [if_pos c34] at H
                                  have c34b0 := eq_true c34
                                  have c34b1 : decide ((wrap64 ((ji31) + 1)) ≤ ((a0.extract ((ji26) : Int).toNat a0.size).size : Int)) = true := decide_eq_true c34
                                  by_cases c35 : x17_3.size + ((a0.extract ((ji26) : Int).toNat a0.size).extract ((ji31) : Int).toNat ((wrap64 ((ji31) + 1)) : Int).toNat).size ≤ 9223372036854775807
                                  · rw [if_pos c35] at H
                                    have c35b0 := eq_true c35
                                    have c35b1 : decide (x17_3.size + ((a0.extract ((ji26) : Int).toNat a0.size).extract ((ji31) : Int).toNat ((wrap64 ((ji31) + 1)) : Int).toNat).size ≤ 9223372036854775807) = true := decide_eq_true c35
                                    try have c35b2 : (9223372036854775807 < x17_3.size + ((a0.extract ((ji26) : Int).toNat a0.size).extract ((ji31) : Int).toNat ((wrap64 ((ji31) + 1)) : Int).toNat).size) = False := eq_false (Nat.not_lt.2 c35)
                                    have H' := Aside0.mk H
                                    clear H
                                    generalize hpart : a0.extract (ji26 : Int).toNat a0.size = part at *
                                    have e35 : (decide (ji31 ≤ wrap64 (ji31 + 1))) = true := c33b1
                                    go_wp2
                                    repeat (go_quiet (fail); try go_wp2)
                                    subst hpart
                                    go_roundg k3
                                    case measure => have := HJ4.out; have := HJ18.out; have := HK3.out; omega
                                    case rel => exact ⟨(x17_3 ++ ((a0.extract ((ji26) : Int).toNat a0.size).extract ((ji31) : Int).toNat ((wrap64 ((ji31) + 1)) : Int).toNat)), (wrap64 (x18_3 + 1)), (by first | rfl | (simp; done) | (simp only [← hji26, ← hji31] <;> (first | rfl | simp)) | (simp [*]; done)), (by first | rfl | (simp; done) | (simp [*]; done)), H', ⟨by have := HJ4.out; have := HJ18.out; have := HK3.out; omega⟩, ⟨by repeat (first | (with_reducible first | exact HB.out | apply below_alloc | apply pw_below_drewN | apply below_drew1) | exact HB.out)⟩⟩
                                  · rw [if_neg c35] at H
                                    exact absurd H (by simp)
                                · rw [if_neg c34] at H
                                  exact absurd H (by simp)
                              · rw [if_neg c33] at H
                                exact absurd H (by simp)
                            · rw [if_neg c32] at H
                              exact absurd H (by simp)
                        · rw [if_neg c29] at H
                          have c29b0 : decide (x18_3 < (wrap64 ((wrap64 (Int.tdiv t122 2)) + 4))) = false := decide_eq_false c29
                          clear c29
                          simp only [Option.some.injEq, Prod.mk.injEq] at H
                          obtain ⟨rfl, rfl, rfl⟩ := H
                          go_wp2
                          repeat (go_quiet (fail); try go_wp2)
                          go_ret3
                          exact ⟨by first | rfl | (simp [errW_none, errW_some] <;> rfl) | (simp only [← hji26]; first | rfl | (simp [errW_none, errW_some] <;> rfl)) | (simp [*, errW_none, errW_some] <;> rfl), by repeat (first | (with_reducible first | exact HB.out | apply below_alloc | apply pw_below_drewN | apply below_drew1) | exact HB.out)⟩
                  · rw [if_neg c28] at H
                    exact absurd H (by simp)
                · rw [if_neg c27] at H
                  exact absurd H (by simp)

end Go.Proofs.Ytahemhjlfajlkaa.PL
