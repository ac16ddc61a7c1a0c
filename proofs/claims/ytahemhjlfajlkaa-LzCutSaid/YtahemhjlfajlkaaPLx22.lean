-- Printed by this work's own program (wip/mprint) out of the translation; Lean checks it.
import Derived.Test.YtahemhjlfajlkaaPLx0
import Derived.Test.YtahemhjlfajlkaaPLx1
import Derived.Test.YtahemhjlfajlkaaPLx15
import Derived.Test.YtahemhjlfajlkaaPLx17
import Derived.Test.YtahemhjlfajlkaaXPack
namespace Go.Proofs.Ytahemhjlfajlkaa.PL
open Go.RowKit Go.Proofs.YtahemhjlfajlkaaW.PrintWords Go.Proofs.YtahemhjlfajlkaaW.PrintLast Go.Proofs.YtahemhjlfajlkaaW.PrintMore
attribute [local go_sem] max2_int min2_int max_two min_two max_three min_three max_four min_four   -- for this text's walks alone
set_option linter.unusedVariables false
set_option linter.unusedSimpArgs false

/-! ### headgatelaw32_LzCut: function 8 -/
def headgatelaw32_LzCut.j0 : Nat → ByteArray → Int → ByteArray → Bool → Option (Bool)
  | 0, _, _, _, _ => none
  | k + 1, x0, x1, x5, x25 => if x25 = true then ((headgatelaw32_awake.f k).bind fun t169 => (some t169)) else (if 0 ≤ x1 then (if x1 ≤ (x5.size : Int) then ((lz_Unpack.f k (x5.extract 0 (x1 : Int).toNat) 1048576).bind fun bt170 => (if bt170.2 = 2 then (if bt170.1.toList = ([] : List UInt8) then ((headgatelaw32_awake.f k).bind fun t172 => (some t172)) else (if bt170.2 = 0 then (if (bt170.1.size : Int) < (x0.size : Int) then (if 0 ≤ (bt170.1.size : Int) then (if (bt170.1.size : Int) ≤ (x0.size : Int) then (if (x0.extract 0 bt170.1.size).toList = bt170.1.toList then ((headgatelaw32_awake.f k).bind fun t173 => (some t173)) else (some false)) else (none)) else (none)) else (some false)) else (some false))) else (if bt170.2 = 0 then (if (bt170.1.size : Int) < (x0.size : Int) then (if 0 ≤ (bt170.1.size : Int) then (if (bt170.1.size : Int) ≤ (x0.size : Int) then (if (x0.extract 0 bt170.1.size).toList = bt170.1.toList then ((headgatelaw32_awake.f k).bind fun t174 => (some t174)) else (some false)) else (none)) else (none)) else (some false)) else (some false)))) else (none)) else (none))
def headgatelaw32_LzCut.f (k : Nat) (a0 : ByteArray) (a1 : Int) : Option (Bool) := (headgatelaw32_cut.f a0).bind fun t166 => ((lz_Pack.f t166).bind fun bt167 => (if bt167.2 = 0 then (if a1 < 0 then (headgatelaw32_LzCut.j0 k t166 a1 bt167.1 true) else (headgatelaw32_LzCut.j0 k t166 a1 bt167.1 (decide (a1 ≥ (bt167.1.size : Int))))) else (some false)))
theorem headgatelaw32_LzCut.mono_l : ∀ k, (∀ y0 y1 y2 y3, LeO (headgatelaw32_LzCut.j0 k y0 y1 y2 y3) (headgatelaw32_LzCut.j0 (k + 1) y0 y1 y2 y3))
  | 0 => fun _ _ _ _ r h => by simp [headgatelaw32_LzCut.j0] at h
  | k + 1 => by
    have ih0 := headgatelaw32_LzCut.mono_l k
    · intro y0 y1 y2 y3
      unfold headgatelaw32_LzCut.j0
      repeat' first
      | (with_reducible exact ih0 _ _ _ _)
      | (with_reducible exact headgatelaw32_awake.mono _)
      | (with_reducible exact lz_Unpack.mono _ _ _)
      | (with_reducible exact LeO.refl _)
      | (with_reducible exact LeO.none _)
      | (with_reducible refine LeO.ite ?_ ?_)
      | (with_reducible refine LeO.bind ?_ (fun _ => ?_))
      | exact ih0 _ _ _ _
      | exact headgatelaw32_awake.mono _
      | exact lz_Unpack.mono _ _ _
      | exact LeO.none _
      | refine LeO.ite ?_ ?_
      | refine LeO.bind ?_ (fun _ => ?_)
theorem headgatelaw32_LzCut.mono : ∀ a0 a1 k, LeO (headgatelaw32_LzCut.f k a0 a1) (headgatelaw32_LzCut.f (k + 1) a0 a1) := by
  intro a0 a1 k
  have ih0 := headgatelaw32_LzCut.mono_l k
  unfold headgatelaw32_LzCut.f
  repeat' first
      | (with_reducible exact ih0 _ _ _ _)
      | (with_reducible exact headgatelaw32_awake.mono _)
      | (with_reducible exact lz_Unpack.mono _ _ _)
      | (with_reducible exact LeO.refl _)
      | (with_reducible exact LeO.none _)
      | (with_reducible refine LeO.ite ?_ ?_)
      | (with_reducible refine LeO.bind ?_ (fun _ => ?_))
      | exact ih0 _ _ _ _
      | exact headgatelaw32_awake.mono _
      | exact lz_Unpack.mono _ _ _
      | exact LeO.none _
      | refine LeO.ite ?_ ?_
      | refine LeO.bind ?_ (fun _ => ?_)
set_option maxHeartbeats 8000000 in
set_option maxRecDepth 100000 in
theorem headgatelaw32_LzCut.calls (k : Nat) (a0 : ByteArray) (a1 : Int) (r : Bool) (w : World) (h : headgatelaw32_LzCut.f k a0 a1 = some r) :
    Calls Try.prog 8 #[.string a0, .int .i64 a1] w fun e w' => e = .returned (.bool r) ∧ Below w.heap.size w w' := by
  have HB := Aside0.mk (Below.refl w.heap.size w)
  have H : ((headgatelaw32_cut.f a0).bind fun t166 => ((lz_Pack.f t166).bind fun bt167 => (if bt167.2 = 0 then (if a1 < 0 then (headgatelaw32_LzCut.j0 k t166 a1 bt167.1 true) else (headgatelaw32_LzCut.j0 k t166 a1 bt167.1 (decide (a1 ≥ (bt167.1.size : Int))))) else (some false)))) = some r := h
  clear h
  replace H := Option.bind_eq_some_iff.mp H
  obtain ⟨t166, A30, H⟩ := H
  replace H : ((lz_Pack.f t166).bind fun bt167 => (if bt167.2 = 0 then (if a1 < 0 then (headgatelaw32_LzCut.j0 k t166 a1 bt167.1 true) else (headgatelaw32_LzCut.j0 k t166 a1 bt167.1 (decide (a1 ≥ (bt167.1.size : Int))))) else (some false))) = some r := H
  have A3 := Aside0.mk A30
  clear A30
  replace H := Option.bind_eq_some_iff.mp H
  obtain ⟨⟨t167, t168⟩, A40, H⟩ := H
  replace H : (if t168 = 0 then (if a1 < 0 then (headgatelaw32_LzCut.j0 k t166 a1 t167 true) else (headgatelaw32_LzCut.j0 k t166 a1 t167 (decide (a1 ≥ (t167.size : Int))))) else (some false)) = some r := H
  have A4 := Aside0.mk A40
  clear A40
  by_cases c5 : t168 = 0
  · rw [if_pos c5] at H
    have c5b0 : (t168 == 0) = true := beq_iff_eq.mpr c5
    have c5b1 : (t168 != 0) = false := bne_eq_false_iff_eq.mpr c5
    clear c5
    have HC6 := Aside0.mk H
    clear H
    go_enter Try.func8, Try.ntmps8
    go_upto_region 5 with (first | ((with_reducible refine gate_callee (f := 12) rfl ?_); refine goesL_ (some 10) rfl rfl Try.func12 (by kernel_rfl) rfl #[.string a0] rfl (by (try simp only [List.map_toArray, List.map_cons, List.map_nil]); first | done | rfl | (simp only [List.length_drop, List.length_take]; rfl)) ?_; (with_reducible refine (headgatelaw32_cut.calls a0 t166 _ A3.out).mono ?_); rintro e w' ⟨rfl, ⟨nd, rfl⟩⟩; refine ⟨_, rfl, ?_⟩) | ((with_reducible refine gate_callee (f := 13) rfl ?_); refine goesL_ (some 13) rfl rfl Try.func13 (by kernel_rfl) rfl #[.string t166] rfl (by (try simp only [List.map_toArray, List.map_cons, List.map_nil]); first | done | rfl | (simp only [List.length_drop, List.length_take]; rfl)) ?_; (with_reducible refine (lz_Pack.calls t166 t167 t168 _ A4.out).mono ?_); rintro e w7 ⟨rfl, hb⟩; refine ⟨_, rfl, ?_⟩; have n0_ := Aside0.mk (below_step (by repeat (first | (with_reducible first | exact HB.out | apply below_alloc | apply pw_below_drewN | apply below_drew1) | exact HB.out)) hb); clear HB; have HB := n0_; clear n0_; (try clear hb); (try clear hb2); (try clear hk); (try clear hi)))
    (try simp only [Act.put, List.setIfInBounds_toArray, List.set_cons_zero, List.set_cons_succ])
    go_cut [25] (fun v25 wc => ∃ (kq : Nat) (x25_5 : Bool), v25 = .bool x25_5 ∧ Aside0 (headgatelaw32_LzCut.j0 kq t166 a1 t167 x25_5 = some r) ∧ Aside0 (kq ≤ k) ∧ Aside0 (Below w.heap.size w wc))
    case first =>
      have H := HC6.out
      clear HC6
      by_cases c8 : a1 < 0
      · rw [if_pos c8] at H
        have c8b0 : decide (a1 < 0) = true := decide_eq_true c8
        clear c8
        (first | rw [c8b0] | (simp only [i64_w, i32_w]; rw [c8b0]) | skip)
        have H' := Aside0.mk H
        clear H
        go_wp2
        go_meet
        case rel => exact ⟨_, (true), (by first | rfl | (simp; done) | (simp [*]; done)), H', ⟨by first | omega | exact Nat.le_refl _⟩, ⟨by repeat (first | (with_reducible first | exact HB.out | apply below_alloc | apply pw_below_drewN | apply below_drew1) | exact HB.out)⟩⟩
      · rw [if_neg c8] at H
        have c8b0 : decide (a1 < 0) = false := decide_eq_false c8
        clear c8
        (first | rw [c8b0] | (simp only [i64_w, i32_w]; rw [c8b0]) | skip)
        have H' := Aside0.mk H
        clear H
        go_wp2
        go_meet
        case rel => exact ⟨_, (decide (a1 ≥ (t167.size : Int))), (by first | rfl | (simp; done) | (simp [*]; done)), H', ⟨by first | omega | exact Nat.le_refl _⟩, ⟨by repeat (first | (with_reducible first | exact HB.out | apply below_alloc | apply pw_below_drewN | apply below_drew1) | exact HB.out)⟩⟩
    case rest =>
      clear HC6
      try clear c1
      try clear p2
      try clear c5
      try clear c5b0
      try clear c5b1
      try clear c8
      try clear c8b0
      obtain ⟨kq, x25_5, rfl, HA, HJ5, HB⟩ := hcut
      cases kq with
      | zero => exact absurd HA.out (by simp [headgatelaw32_LzCut.j0])
      | succ kj5 =>
        have H := HA.out
        clear HA
        simp only [headgatelaw32_LzCut.j0] at H
        by_cases c9 : x25_5 = true
        · subst c9
          have H1 : ((headgatelaw32_awake.f kj5).bind fun t169 => (some t169)) = some r := by rw [if_pos rfl] at H; exact H
          clear H
          have H := H1
          clear H1
          replace H := Option.bind_eq_some_iff.mp H
          obtain ⟨t169, A100, H⟩ := H
          replace H : (some t169) = some r := H
          have A10 := Aside0.mk A100
          clear A100
          obtain rfl := Option.some.inj H
          go_wp2_with (first | ((with_reducible refine gate_callee (f := 11) rfl ?_); refine goesL_ (some 26) rfl rfl Try.func11 (by kernel_rfl) rfl #[] rfl (by (try simp only [List.map_toArray, List.map_cons, List.map_nil]); first | done | rfl | (simp only [List.length_drop, List.length_take]; rfl)) ?_; (with_reducible refine (headgatelaw32_awake.calls kj5  t169 _ A10.out).mono ?_); rintro e w11 ⟨rfl, hb⟩; refine ⟨_, rfl, ?_⟩; have n0_ := Aside0.mk (below_step (by repeat (first | (with_reducible first | exact HB.out | apply below_alloc | apply pw_below_drewN | apply below_drew1) | exact HB.out)) hb); clear HB; have HB := n0_; clear n0_; (try clear hb); (try clear hb2); (try clear hk); (try clear hi)))
          go_ret
          exact ⟨by first | rfl | (simp [errW_none, errW_some] <;> rfl) | (simp [*, errW_none, errW_some] <;> rfl), by repeat (first | (with_reducible first | exact HB.out | apply below_alloc | apply pw_below_drewN | apply below_drew1) | exact HB.out)⟩
        · replace c9 := Bool.eq_false_iff.mpr c9
          subst c9
          have H1 : (if 0 ≤ a1 then (if a1 ≤ (t167.size : Int) then ((lz_Unpack.f kj5 (t167.extract 0 (a1 : Int).toNat) 1048576).bind fun bt170 => (if bt170.2 = 2 then (if bt170.1.toList = ([] : List UInt8) then ((headgatelaw32_awake.f kj5).bind fun t172 => (some t172)) else (if bt170.2 = 0 then (if (bt170.1.size : Int) < (t166.size : Int) then (if 0 ≤ (bt170.1.size : Int) then (if (bt170.1.size : Int) ≤ (t166.size : Int) then (if (t166.extract 0 bt170.1.size).toList = bt170.1.toList then ((headgatelaw32_awake.f kj5).bind fun t173 => (some t173)) else (some false)) else (none)) else (none)) else (some false)) else (some false))) else (if bt170.2 = 0 then (if (bt170.1.size : Int) < (t166.size : Int) then (if 0 ≤ (bt170.1.size : Int) then (if (bt170.1.size : Int) ≤ (t166.size : Int) then (if (t166.extract 0 bt170.1.size).toList = bt170.1.toList then ((headgatelaw32_awake.f kj5).bind fun t174 => (some t174)) else (some false)) else (none)) else (none)) else (some false)) else (some false)))) else (none)) else (none)) = some r := by rw [if_neg (show ¬ (false = true) by decide)] at H; exact H
          clear H
          have H := H1
          clear H1
          by_cases c12 : 0 ≤ a1
          · rw [if_pos c12] at H
            have c12b0 := eq_true c12
            have c12b1 : decide (0 ≤ a1) = true := decide_eq_true c12
            clear c12
            by_cases c13 : a1 ≤ (t167.size : Int)
            · rw [if_pos c13] at H
              have c13b0 := eq_true c13
              have c13b1 : decide (a1 ≤ (t167.size : Int)) = true := decide_eq_true c13
              clear c13
              replace H := Option.bind_eq_some_iff.mp H
              obtain ⟨⟨t170, t171⟩, A140, H⟩ := H
              replace H : (if t171 = 2 then (if t170.toList = ([] : List UInt8) then ((headgatelaw32_awake.f kj5).bind fun t172 => (some t172)) else (if t171 = 0 then (if (t170.size : Int) < (t166.size : Int) then (if 0 ≤ (t170.size : Int) then (if (t170.size : Int) ≤ (t166.size : Int) then (if (t166.extract 0 t170.size).toList = t170.toList then ((headgatelaw32_awake.f kj5).bind fun t173 => (some t173)) else (some false)) else (none)) else (none)) else (some false)) else (some false))) else (if t171 = 0 then (if (t170.size : Int) < (t166.size : Int) then (if 0 ≤ (t170.size : Int) then (if (t170.size : Int) ≤ (t166.size : Int) then (if (t166.extract 0 t170.size).toList = t170.toList then ((headgatelaw32_awake.f kj5).bind fun t174 => (some t174)) else (some false)) else (none)) else (none)) else (some false)) else (some false))) = some r := H
              have A14 := Aside0.mk A140
              clear A140
              by_cases c15 : t171 = 2
              · rw [if_pos c15] at H
                have c15b0 : (t171 == 2) = true := beq_iff_eq.mpr c15
                have c15b1 : (t171 != 2) = false := bne_eq_false_iff_eq.mpr c15
                clear c15
                by_cases c16 : t170.toList = ([] : List UInt8)
                · rw [if_pos c16] at H
                  have c16b0 : (t170.toList == ([] : List UInt8)) = true := beq_iff_eq.mpr c16
                  have c16b1 : (t170.toList != ([] : List UInt8)) = false := bne_eq_false_iff_eq.mpr c16
                  clear c16
                  replace H := Option.bind_eq_some_iff.mp H
                  obtain ⟨t172, A170, H⟩ := H
                  replace H : (some t172) = some r := H
                  have A17 := Aside0.mk A170
                  clear A170
                  obtain rfl := Option.some.inj H
                  go_wp2_with (first | ((with_reducible refine gate_callee (f := 9) rfl ?_); refine goesL_ (some 31) rfl rfl Try.func9 (by kernel_rfl) rfl #[.string (t167.extract 0 (a1 : Int).toNat), .int .i64 1048576] rfl (by (try simp only [List.map_toArray, List.map_cons, List.map_nil]); first | done | rfl | (simp only [List.length_drop, List.length_take]; rfl)) ?_; (with_reducible refine (lz_Unpack.calls kj5 (t167.extract 0 (a1 : Int).toNat) 1048576 t170 t171 _ A14.out).mono ?_); rintro e w18 ⟨rfl, hb⟩; refine ⟨_, rfl, ?_⟩; have n0_ := Aside0.mk (below_step (by repeat (first | (with_reducible first | exact HB.out | apply below_alloc | apply pw_below_drewN | apply below_drew1) | exact HB.out)) hb); clear HB; have HB := n0_; clear n0_; (try clear hb); (try clear hb2); (try clear hk); (try clear hi)) | (go_at_call 11; (with_reducible refine (headgatelaw32_awake.calls kj5  t172 _ A17.out).mono ?_); rintro e w19 ⟨rfl, hb⟩; have n0_ := Aside0.mk (below_step (by repeat (first | (with_reducible first | exact HB.out | apply below_alloc | apply pw_below_drewN | apply below_drew1) | exact HB.out)) hb); clear HB; have HB := n0_; clear n0_; (try clear hb); (try clear hb2); (try clear hk); (try clear hi)))
                  go_ret
                  exact ⟨by first | rfl | (simp [errW_none, errW_some] <;> rfl) | (simp [*, errW_none, errW_some] <;> rfl), by repeat (first | (with_reducible first | exact HB.out | apply below_alloc | apply pw_below_drewN | apply below_drew1) | exact HB.out)⟩
                · rw [if_neg c16] at H
                  have c16b0 : (t170.toList == ([] : List UInt8)) = false := beq_eq_false_iff_ne.mpr c16
                  have c16b1 : (t170.toList != ([] : List UInt8)) = true := bne_iff_ne.mpr c16
                  by_cases c20 : t171 = 0
                  · rw [if_pos c20] at H
                    have c20b0 : (t171 == 0) = true := beq_iff_eq.mpr c20
                    have c20b1 : (t171 != 0) = false := bne_eq_false_iff_eq.mpr c20
                    clear c20
                    by_cases c21 : (t170.size : Int) < (t166.size : Int)
                    · rw [if_pos c21] at H
                      have c21b0 : decide ((t170.size : Int) < (t166.size : Int)) = true := decide_eq_true c21
                      have c21b1 : decide (t170.size < t166.size) = true := decide_eq_true (Int.ofNat_lt.mp c21)
                      clear c21
                      by_cases c22 : 0 ≤ (t170.size : Int)
                      · rw [if_pos c22] at H
                        have c22b0 := eq_true c22
                        have c22b1 : decide (0 ≤ (t170.size : Int)) = true := decide_eq_true c22
                        clear c22
                        by_cases c23 : (t170.size : Int) ≤ (t166.size : Int)
                        · rw [if_pos c23] at H
                          have c23b0 := eq_true c23
                          have c23b1 : decide ((t170.size : Int) ≤ (t166.size : Int)) = true := decide_eq_true c23
                          clear c23
                          by_cases c24 : (t166.extract 0 t170.size).toList = t170.toList
                          · rw [if_pos c24] at H
                            have c24b0 : ((t166.extract 0 t170.size).toList == t170.toList) = true := beq_iff_eq.mpr c24
                            have c24b1 : ((t166.extract 0 t170.size).toList != t170.toList) = false := bne_eq_false_iff_eq.mpr c24
                            clear c24
                            replace H := Option.bind_eq_some_iff.mp H
                            obtain ⟨t173, A250, H⟩ := H
                            replace H : (some t173) = some r := H
                            have A25 := Aside0.mk A250
                            clear A250
                            obtain rfl := Option.some.inj H
                            go_wp2_with (first | ((with_reducible refine gate_callee (f := 9) rfl ?_); refine goesL_ (some 31) rfl rfl Try.func9 (by kernel_rfl) rfl #[.string (t167.extract 0 (a1 : Int).toNat), .int .i64 1048576] rfl (by (try simp only [List.map_toArray, List.map_cons, List.map_nil]); first | done | rfl | (simp only [List.length_drop, List.length_take]; rfl)) ?_; (with_reducible refine (lz_Unpack.calls kj5 (t167.extract 0 (a1 : Int).toNat) 1048576 t170 t171 _ A14.out).mono ?_); rintro e w26 ⟨rfl, hb⟩; refine ⟨_, rfl, ?_⟩; have n0_ := Aside0.mk (below_step (by repeat (first | (with_reducible first | exact HB.out | apply below_alloc | apply pw_below_drewN | apply below_drew1) | exact HB.out)) hb); clear HB; have HB := n0_; clear n0_; (try clear hb); (try clear hb2); (try clear hk); (try clear hi)) | (go_at_call 11; (with_reducible refine (headgatelaw32_awake.calls kj5  t173 _ A25.out).mono ?_); rintro e w27 ⟨rfl, hb⟩; have n0_ := Aside0.mk (below_step (by repeat (first | (with_reducible first | exact HB.out | apply below_alloc | apply pw_below_drewN | apply below_drew1) | exact HB.out)) hb); clear HB; have HB := n0_; clear n0_; (try clear hb); (try clear hb2); (try clear hk); (try clear hi)))
                            go_ret
                            exact ⟨by first | rfl | (simp [errW_none, errW_some] <;> rfl) | (simp [*, errW_none, errW_some] <;> rfl), by repeat (first | (with_reducible first | exact HB.out | apply below_alloc | apply pw_below_drewN | apply below_drew1) | exact HB.out)⟩
                          · rw [if_neg c24] at H
                            have c24b0 : ((t166.extract 0 t170.size).toList == t170.toList) = false := beq_eq_false_iff_ne.mpr c24
                            have c24b1 : ((t166.extract 0 t170.size).toList != t170.toList) = true := bne_iff_ne.mpr c24
                            obtain rfl := Option.some.inj H
                            go_wp2_with (first | ((with_reducible refine gate_callee (f := 9) rfl ?_); refine goesL_ (some 31) rfl rfl Try.func9 (by kernel_rfl) rfl #[.string (t167.extract 0 (a1 : Int).toNat), .int .i64 1048576] rfl (by (try simp only [List.map_toArray, List.map_cons, List.map_nil]); first | done | rfl | (simp only [List.length_drop, List.length_take]; rfl)) ?_; (with_reducible refine (lz_Unpack.calls kj5 (t167.extract 0 (a1 : Int).toNat) 1048576 t170 t171 _ A14.out).mono ?_); rintro e w28 ⟨rfl, hb⟩; refine ⟨_, rfl, ?_⟩; have n0_ := Aside0.mk (below_step (by repeat (first | (with_reducible first | exact HB.out | apply below_alloc | apply pw_below_drewN | apply below_drew1) | exact HB.out)) hb); clear HB; have HB := n0_; clear n0_; (try clear hb); (try clear hb2); (try clear hk); (try clear hi)))
                            go_ret
                            exact ⟨by first | rfl | (simp [errW_none, errW_some] <;> rfl) | (simp [*, errW_none, errW_some] <;> rfl), by repeat (first | (with_reducible first | exact HB.out | apply below_alloc | apply pw_below_drewN | apply below_drew1) | exact HB.out)⟩
                        · rw [if_neg c23] at H
                          exact absurd H (by simp)
                      · rw [if_neg c22] at H
                        exact absurd H (by simp)
                    · rw [if_neg c21] at H
                      have c21b0 : decide ((t170.size : Int) < (t166.size : Int)) = false := decide_eq_false c21
                      have c21b1 : decide (t170.size < t166.size) = false := decide_eq_false (fun h => c21 (Int.ofNat_lt.mpr h))
                      clear c21
                      obtain rfl := Option.some.inj H
                      go_wp2_with (first | ((with_reducible refine gate_callee (f := 9) rfl ?_); refine goesL_ (some 31) rfl rfl Try.func9 (by kernel_rfl) rfl #[.string (t167.extract 0 (a1 : Int).toNat), .int .i64 1048576] rfl (by (try simp only [List.map_toArray, List.map_cons, List.map_nil]); first | done | rfl | (simp only [List.length_drop, List.length_take]; rfl)) ?_; (with_reducible refine (lz_Unpack.calls kj5 (t167.extract 0 (a1 : Int).toNat) 1048576 t170 t171 _ A14.out).mono ?_); rintro e w29 ⟨rfl, hb⟩; refine ⟨_, rfl, ?_⟩; have n0_ := Aside0.mk (below_step (by repeat (first | (with_reducible first | exact HB.out | apply below_alloc | apply pw_below_drewN | apply below_drew1) | exact HB.out)) hb); clear HB; have HB := n0_; clear n0_; (try clear hb); (try clear hb2); (try clear hk); (try clear hi)))
                      go_ret
                      exact ⟨by first | rfl | (simp [errW_none, errW_some] <;> rfl) | (simp [*, errW_none, errW_some] <;> rfl), by repeat (first | (with_reducible first | exact HB.out | apply below_alloc | apply pw_below_drewN | apply below_drew1) | exact HB.out)⟩
                  · rw [if_neg c20] at H
                    have c20b0 : (t171 == 0) = false := beq_eq_false_iff_ne.mpr c20
                    have c20b1 : (t171 != 0) = true := bne_iff_ne.mpr c20
                    obtain rfl := Option.some.inj H
                    go_wp2_with (first | ((with_reducible refine gate_callee (f := 9) rfl ?_); refine goesL_ (some 31) rfl rfl Try.func9 (by kernel_rfl) rfl #[.string (t167.extract 0 (a1 : Int).toNat), .int .i64 1048576] rfl (by (try simp only [List.map_toArray, List.map_cons, List.map_nil]); first | done | rfl | (simp only [List.length_drop, List.length_take]; rfl)) ?_; (with_reducible refine (lz_Unpack.calls kj5 (t167.extract 0 (a1 : Int).toNat) 1048576 t170 t171 _ A14.out).mono ?_); rintro e w30 ⟨rfl, hb⟩; refine ⟨_, rfl, ?_⟩; have n0_ := Aside0.mk (below_step (by repeat (first | (with_reducible first | exact HB.out | apply below_alloc | apply pw_below_drewN | apply below_drew1) | exact HB.out)) hb); clear HB; have HB := n0_; clear n0_; (try clear hb); (try clear hb2); (try clear hk); (try clear hi)))
                    go_ret
                    exact ⟨by first | rfl | (simp [errW_none, errW_some] <;> rfl) | (simp [*, errW_none, errW_some] <;> rfl), by repeat (first | (with_reducible first | exact HB.out | apply below_alloc | apply pw_below_drewN | apply below_drew1) | exact HB.out)⟩
              · rw [if_neg c15] at H
                have c15b0 : (t171 == 2) = false := beq_eq_false_iff_ne.mpr c15
                have c15b1 : (t171 != 2) = true := bne_iff_ne.mpr c15
                by_cases c31 : t171 = 0
                · rw [if_pos c31] at H
                  have c31b0 : (t171 == 0) = true := beq_iff_eq.mpr c31
                  have c31b1 : (t171 != 0) = false := bne_eq_false_iff_eq.mpr c31
                  clear c31
                  by_cases c32 : (t170.size : Int) < (t166.size : Int)
                  · rw [if_pos c32] at H
                    have c32b0 : decide ((t170.size : Int) < (t166.size : Int)) = true := decide_eq_true c32
                    have c32b1 : decide (t170.size < t166.size) = true := decide_eq_true (Int.ofNat_lt.mp c32)
                    clear c32
                    by_cases c33 : 0 ≤ (t170.size : Int)
                    · rw [if_pos c33] at H
                      have c33b0 := eq_true c33
                      have c33b1 : decide (0 ≤ (t170.size : Int)) = true := decide_eq_true c33
                      clear c33
                      by_cases c34 : (t170.size : Int) ≤ (t166.size : Int)
                      · rw [if_pos c34] at H
                        have c34b0 := eq_true c34
                        have c34b1 : decide ((t170.size : Int) ≤ (t166.size : Int)) = true := decide_eq_true c34
                        clear c34
                        by_cases c35 : (t166.extract 0 t170.size).toList = t170.toList
                        · rw [if_pos c35] at H
                          have c35b0 : ((t166.extract 0 t170.size).toList == t170.toList) = true := beq_iff_eq.mpr c35
                          have c35b1 : ((t166.extract 0 t170.size).toList != t170.toList) = false := bne_eq_false_iff_eq.mpr c35
                          clear c35
                          replace H := Option.bind_eq_some_iff.mp H
                          obtain ⟨t174, A360, H⟩ := H
                          replace H : (some t174) = some r := H
                          have A36 := Aside0.mk A360
                          clear A360
                          obtain rfl := Option.some.inj H
                          go_wp2_with (first | ((with_reducible refine gate_callee (f := 9) rfl ?_); refine goesL_ (some 31) rfl rfl Try.func9 (by kernel_rfl) rfl #[.string (t167.extract 0 (a1 : Int).toNat), .int .i64 1048576] rfl (by (try simp only [List.map_toArray, List.map_cons, List.map_nil]); first | done | rfl | (simp only [List.length_drop, List.length_take]; rfl)) ?_; (with_reducible refine (lz_Unpack.calls kj5 (t167.extract 0 (a1 : Int).toNat) 1048576 t170 t171 _ A14.out).mono ?_); rintro e w37 ⟨rfl, hb⟩; refine ⟨_, rfl, ?_⟩; have n0_ := Aside0.mk (below_step (by repeat (first | (with_reducible first | exact HB.out | apply below_alloc | apply pw_below_drewN | apply below_drew1) | exact HB.out)) hb); clear HB; have HB := n0_; clear n0_; (try clear hb); (try clear hb2); (try clear hk); (try clear hi)) | (go_at_call 11; (with_reducible refine (headgatelaw32_awake.calls kj5  t174 _ A36.out).mono ?_); rintro e w38 ⟨rfl, hb⟩; have n0_ := Aside0.mk (below_step (by repeat (first | (with_reducible first | exact HB.out | apply below_alloc | apply pw_below_drewN | apply below_drew1) | exact HB.out)) hb); clear HB; have HB := n0_; clear n0_; (try clear hb); (try clear hb2); (try clear hk); (try clear hi)))
                          go_ret
                          exact ⟨by first | rfl | (simp [errW_none, errW_some] <;> rfl) | (simp [*, errW_none, errW_some] <;> rfl), by repeat (first | (with_reducible first | exact HB.out | apply below_alloc | apply pw_below_drewN | apply below_drew1) | exact HB.out)⟩
                        · rw [if_neg c35] at H
                          have c35b0 : ((t166.extract 0 t170.size).toList == t170.toList) = false := beq_eq_false_iff_ne.mpr c35
                          have c35b1 : ((t166.extract 0 t170.size).toList != t170.toList) = true := bne_iff_ne.mpr c35
                          obtain rfl := Option.some.inj H
                          go_wp2_with (first | ((with_reducible refine gate_callee (f := 9) rfl ?_); refine goesL_ (some 31) rfl rfl Try.func9 (by kernel_rfl) rfl #[.string (t167.extract 0 (a1 : Int).toNat), .int .i64 1048576] rfl (by (try simp only [List.map_toArray, List.map_cons, List.map_nil]); first | done | rfl | (simp only [List.length_drop, List.length_take]; rfl)) ?_; (with_reducible refine (lz_Unpack.calls kj5 (t167.extract 0 (a1 : Int).toNat) 1048576 t170 t171 _ A14.out).mono ?_); rintro e w39 ⟨rfl, hb⟩; refine ⟨_, rfl, ?_⟩; have n0_ := Aside0.mk (below_step (by repeat (first | (with_reducible first | exact HB.out | apply below_alloc | apply pw_below_drewN | apply below_drew1) | exact HB.out)) hb); clear HB; have HB := n0_; clear n0_; (try clear hb); (try clear hb2); (try clear hk); (try clear hi)))
                          go_ret
                          exact ⟨by first | rfl | (simp [errW_none, errW_some] <;> rfl) | (simp [*, errW_none, errW_some] <;> rfl), by repeat (first | (with_reducible first | exact HB.out | apply below_alloc | apply pw_below_drewN | apply below_drew1) | exact HB.out)⟩
                      · rw [if_neg c34] at H
                        exact absurd H (by simp)
                    · rw [if_neg c33] at H
                      exact absurd H (by simp)
                  · rw [if_neg c32] at H
                    have c32b0 : decide ((t170.size : Int) < (t166.size : Int)) = false := decide_eq_false c32
                    have c32b1 : decide (t170.size < t166.size) = false := decide_eq_false (fun h => c32 (Int.ofNat_lt.mpr h))
                    clear c32
                    obtain rfl := Option.some.inj H
                    go_wp2_with (first | ((with_reducible refine gate_callee (f := 9) rfl ?_); refine goesL_ (some 31) rfl rfl Try.func9 (by kernel_rfl) rfl #[.string (t167.extract 0 (a1 : Int).toNat), .int .i64 1048576] rfl (by (try simp only [List.map_toArray, List.map_cons, List.map_nil]); first | done | rfl | (simp only [List.length_drop, List.length_take]; rfl)) ?_; (with_reducible refine (lz_Unpack.calls kj5 (t167.extract 0 (a1 : Int).toNat) 1048576 t170 t171 _ A14.out).mono ?_); rintro e w40 ⟨rfl, hb⟩; refine ⟨_, rfl, ?_⟩; have n0_ := Aside0.mk (below_step (by repeat (first | (with_reducible first | exact HB.out | apply below_alloc | apply pw_below_drewN | apply below_drew1) | exact HB.out)) hb); clear HB; have HB := n0_; clear n0_; (try clear hb); (try clear hb2); (try clear hk); (try clear hi)))
                    go_ret
                    exact ⟨by first | rfl | (simp [errW_none, errW_some] <;> rfl) | (simp [*, errW_none, errW_some] <;> rfl), by repeat (first | (with_reducible first | exact HB.out | apply below_alloc | apply pw_below_drewN | apply below_drew1) | exact HB.out)⟩
                · rw [if_neg c31] at H
                  have c31b0 : (t171 == 0) = false := beq_eq_false_iff_ne.mpr c31
                  have c31b1 : (t171 != 0) = true := bne_iff_ne.mpr c31
                  obtain rfl := Option.some.inj H
                  go_wp2_with (first | ((with_reducible refine gate_callee (f := 9) rfl ?_); refine goesL_ (some 31) rfl rfl Try.func9 (by kernel_rfl) rfl #[.string (t167.extract 0 (a1 : Int).toNat), .int .i64 1048576] rfl (by (try simp only [List.map_toArray, List.map_cons, List.map_nil]); first | done | rfl | (simp only [List.length_drop, List.length_take]; rfl)) ?_; (with_reducible refine (lz_Unpack.calls kj5 (t167.extract 0 (a1 : Int).toNat) 1048576 t170 t171 _ A14.out).mono ?_); rintro e w41 ⟨rfl, hb⟩; refine ⟨_, rfl, ?_⟩; have n0_ := Aside0.mk (below_step (by repeat (first | (with_reducible first | exact HB.out | apply below_alloc | apply pw_below_drewN | apply below_drew1) | exact HB.out)) hb); clear HB; have HB := n0_; clear n0_; (try clear hb); (try clear hb2); (try clear hk); (try clear hi)))
                  go_ret
                  exact ⟨by first | rfl | (simp [errW_none, errW_some] <;> rfl) | (simp [*, errW_none, errW_some] <;> rfl), by repeat (first | (with_reducible first | exact HB.out | apply below_alloc | apply pw_below_drewN | apply below_drew1) | exact HB.out)⟩
            · rw [if_neg c13] at H
              exact absurd H (by simp)
          · rw [if_neg c12] at H
            exact absurd H (by simp)
  · rw [if_neg c5] at H
    have c5b0 : (t168 == 0) = false := beq_eq_false_iff_ne.mpr c5
    have c5b1 : (t168 != 0) = true := bne_iff_ne.mpr c5
    obtain rfl := Option.some.inj H
    go_enter Try.func8, Try.ntmps8
    go_wp2_with (first | ((with_reducible refine gate_callee (f := 12) rfl ?_); refine goesL_ (some 10) rfl rfl Try.func12 (by kernel_rfl) rfl #[.string a0] rfl (by (try simp only [List.map_toArray, List.map_cons, List.map_nil]); first | done | rfl | (simp only [List.length_drop, List.length_take]; rfl)) ?_; (with_reducible refine (headgatelaw32_cut.calls a0 t166 _ A3.out).mono ?_); rintro e w' ⟨rfl, ⟨nd, rfl⟩⟩; refine ⟨_, rfl, ?_⟩) | ((with_reducible refine gate_callee (f := 13) rfl ?_); refine goesL_ (some 13) rfl rfl Try.func13 (by kernel_rfl) rfl #[.string t166] rfl (by (try simp only [List.map_toArray, List.map_cons, List.map_nil]); first | done | rfl | (simp only [List.length_drop, List.length_take]; rfl)) ?_; (with_reducible refine (lz_Pack.calls t166 t167 t168 _ A4.out).mono ?_); rintro e w42 ⟨rfl, hb⟩; refine ⟨_, rfl, ?_⟩; have n0_ := Aside0.mk (below_step (by repeat (first | (with_reducible first | exact HB.out | apply below_alloc | apply pw_below_drewN | apply below_drew1) | exact HB.out)) hb); clear HB; have HB := n0_; clear n0_; (try clear hb); (try clear hb2); (try clear hk); (try clear hi)))
    go_ret
    exact ⟨by first | rfl | (simp [errW_none, errW_some] <;> rfl) | (simp [*, errW_none, errW_some] <;> rfl), by repeat (first | (with_reducible first | exact HB.out | apply below_alloc | apply pw_below_drewN | apply below_drew1) | exact HB.out)⟩

/-- THE ONE PURE STATEMENT of headgatelaw32_LzCut: yours. -/
def headgatelaw32_LzCut.Pure : Prop := ∀ (a0 : ByteArray) (a1 : Int), a0.size ≤ 140737488351232 → (Lit.int .i64 a1).wf = true → ∃ k, headgatelaw32_LzCut.f k a0 a1 = some true
theorem headgatelaw32_LzCut.walk (P : headgatelaw32_LzCut.Pure) (a0 : ByteArray) (a1 : Int) (w : World) (w0 : a0.size ≤ 140737488351232) (w1 : (Lit.int .i64 a1).wf = true) :
    Calls Try.prog 8 #[.string a0, .int .i64 a1] w fun e w' => e = .returned (.bool true) ∧ Below w.heap.size w w' := by
  obtain ⟨k, h⟩ := P a0 a1 w0 w1
  refine (headgatelaw32_LzCut.calls k a0 a1 true w h).mono ?_
  rintro e w' ⟨rfl, hd⟩
  exact ⟨rfl, hd⟩

end Go.Proofs.Ytahemhjlfajlkaa.PL
