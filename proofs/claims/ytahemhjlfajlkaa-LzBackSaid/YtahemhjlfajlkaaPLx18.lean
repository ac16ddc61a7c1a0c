-- Printed by this work's own program (wip/mprint) out of the translation; Lean checks it.
import Derived.Test.YtahemhjlfajlkaaPLx0
import Derived.Test.YtahemhjlfajlkaaPLx1
import Derived.Test.YtahemhjlfajlkaaPLx15
import Derived.Test.YtahemhjlfajlkaaPLx17
import Derived.Test.YtahemhjlfajlkaaXPack
namespace Go.Proofs.Ytahemhjlfajlkaa.PL
open Go.RowKit Go.Proofs.YtahemhjlfajlkaaW.PrintWords Go.Proofs.YtahemhjlfajlkaaW.PrintLast Go.Proofs.YtahemhjlfajlkaaW.PrintMore
attribute [local go_sem] max2_int min2_int max_two min_two max_three min_three max_four min_four   -- for this text's walks alone
set_option linter.unusedVariables false
set_option linter.unusedSimpArgs false

/-! ### headgatelaw32_LzBack: function 4 -/
def headgatelaw32_LzBack.j0 : Nat → ByteArray → ByteArray → Bool → Option (Bool)
  | 0, _, _, _ => none
  | k + 1, x0, x3, x33 => if x33 = true then (some false) else (if (x0.size : Int) = 0 then ((headgatelaw32_awake.f k).bind fun t148 => (some t148)) else ((lz_Unpack.f k x3 (wrap64 ((x0.size : Int) - 1))).bind fun bt149 => (if bt149.1.toList = ([] : List UInt8) then (if bt149.2 = 2 then ((headgatelaw32_awake.f k).bind fun t151 => (some t151)) else (some false)) else (some false))))
def headgatelaw32_LzBack.f (k : Nat) (a0 : ByteArray) : Option (Bool) := (headgatelaw32_cut.f a0).bind fun t143 => ((lz_Pack.f t143).bind fun bt144 => ((lz_Unpack.f k bt144.1 (t143.size : Int)).bind fun bt146 => (if bt144.2 = 0 then (if bt146.2 = 0 then (headgatelaw32_LzBack.j0 k t143 bt144.1 (bt146.1.toList != t143.toList)) else (headgatelaw32_LzBack.j0 k t143 bt144.1 true)) else (headgatelaw32_LzBack.j0 k t143 bt144.1 true))))
theorem headgatelaw32_LzBack.mono_l : ∀ k, (∀ y0 y1 y2, LeO (headgatelaw32_LzBack.j0 k y0 y1 y2) (headgatelaw32_LzBack.j0 (k + 1) y0 y1 y2))
  | 0 => fun _ _ _ r h => by simp [headgatelaw32_LzBack.j0] at h
  | k + 1 => by
    have ih0 := headgatelaw32_LzBack.mono_l k
    · intro y0 y1 y2
      unfold headgatelaw32_LzBack.j0
      repeat' first
      | (with_reducible exact ih0 _ _ _)
      | (with_reducible exact headgatelaw32_awake.mono _)
      | (with_reducible exact lz_Unpack.mono _ _ _)
      | (with_reducible exact LeO.refl _)
      | (with_reducible exact LeO.none _)
      | (with_reducible refine LeO.ite ?_ ?_)
      | (with_reducible refine LeO.bind ?_ (fun _ => ?_))
      | exact ih0 _ _ _
      | exact headgatelaw32_awake.mono _
      | exact lz_Unpack.mono _ _ _
      | exact LeO.none _
      | refine LeO.ite ?_ ?_
      | refine LeO.bind ?_ (fun _ => ?_)
theorem headgatelaw32_LzBack.mono : ∀ a0 k, LeO (headgatelaw32_LzBack.f k a0) (headgatelaw32_LzBack.f (k + 1) a0) := by
  intro a0 k
  have ih0 := headgatelaw32_LzBack.mono_l k
  unfold headgatelaw32_LzBack.f
  repeat' first
      | (with_reducible exact ih0 _ _ _)
      | (with_reducible exact headgatelaw32_awake.mono _)
      | (with_reducible exact lz_Unpack.mono _ _ _)
      | (with_reducible exact LeO.refl _)
      | (with_reducible exact LeO.none _)
      | (with_reducible refine LeO.ite ?_ ?_)
      | (with_reducible refine LeO.bind ?_ (fun _ => ?_))
      | exact ih0 _ _ _
      | exact headgatelaw32_awake.mono _
      | exact lz_Unpack.mono _ _ _
      | exact LeO.none _
      | refine LeO.ite ?_ ?_
      | refine LeO.bind ?_ (fun _ => ?_)
set_option maxHeartbeats 8000000 in
set_option maxRecDepth 100000 in
theorem headgatelaw32_LzBack.calls (k : Nat) (a0 : ByteArray) (r : Bool) (w : World) (h : headgatelaw32_LzBack.f k a0 = some r) :
    Calls Try.prog 4 #[.string a0] w fun e w' => e = .returned (.bool r) ∧ Below w.heap.size w w' := by
  have HB := Aside0.mk (Below.refl w.heap.size w)
  have H : ((headgatelaw32_cut.f a0).bind fun t143 => ((lz_Pack.f t143).bind fun bt144 => ((lz_Unpack.f k bt144.1 (t143.size : Int)).bind fun bt146 => (if bt144.2 = 0 then (if bt146.2 = 0 then (headgatelaw32_LzBack.j0 k t143 bt144.1 (bt146.1.toList != t143.toList)) else (headgatelaw32_LzBack.j0 k t143 bt144.1 true)) else (headgatelaw32_LzBack.j0 k t143 bt144.1 true))))) = some r := h
  clear h
  replace H := Option.bind_eq_some_iff.mp H
  obtain ⟨t143, A20, H⟩ := H
  replace H : ((lz_Pack.f t143).bind fun bt144 => ((lz_Unpack.f k bt144.1 (t143.size : Int)).bind fun bt146 => (if bt144.2 = 0 then (if bt146.2 = 0 then (headgatelaw32_LzBack.j0 k t143 bt144.1 (bt146.1.toList != t143.toList)) else (headgatelaw32_LzBack.j0 k t143 bt144.1 true)) else (headgatelaw32_LzBack.j0 k t143 bt144.1 true)))) = some r := H
  have A2 := Aside0.mk A20
  clear A20
  replace H := Option.bind_eq_some_iff.mp H
  obtain ⟨⟨t144, t145⟩, A30, H⟩ := H
  replace H : ((lz_Unpack.f k t144 (t143.size : Int)).bind fun bt146 => (if t145 = 0 then (if bt146.2 = 0 then (headgatelaw32_LzBack.j0 k t143 t144 (bt146.1.toList != t143.toList)) else (headgatelaw32_LzBack.j0 k t143 t144 true)) else (headgatelaw32_LzBack.j0 k t143 t144 true))) = some r := H
  have A3 := Aside0.mk A30
  clear A30
  replace H := Option.bind_eq_some_iff.mp H
  obtain ⟨⟨t146, t147⟩, A40, H⟩ := H
  replace H : (if t145 = 0 then (if t147 = 0 then (headgatelaw32_LzBack.j0 k t143 t144 (t146.toList != t143.toList)) else (headgatelaw32_LzBack.j0 k t143 t144 true)) else (headgatelaw32_LzBack.j0 k t143 t144 true)) = some r := H
  have A4 := Aside0.mk A40
  clear A40
  have HC5 := Aside0.mk H
  clear H
  go_enter Try.func4, Try.ntmps4
  go_upto_region 4 with (first | ((with_reducible refine gate_callee (f := 12) rfl ?_); refine goesL_ (some 10) rfl rfl Try.func12 (by kernel_rfl) rfl #[.string a0] rfl (by (try simp only [List.map_toArray, List.map_cons, List.map_nil]); first | done | rfl | (simp only [List.length_drop, List.length_take]; rfl)) ?_; (with_reducible refine (headgatelaw32_cut.calls a0 t143 _ A2.out).mono ?_); rintro e w' ⟨rfl, ⟨nd, rfl⟩⟩; refine ⟨_, rfl, ?_⟩) | ((with_reducible refine gate_callee (f := 13) rfl ?_); refine goesL_ (some 13) rfl rfl Try.func13 (by kernel_rfl) rfl #[.string t143] rfl (by (try simp only [List.map_toArray, List.map_cons, List.map_nil]); first | done | rfl | (simp only [List.length_drop, List.length_take]; rfl)) ?_; (with_reducible refine (lz_Pack.calls t143 t144 t145 _ A3.out).mono ?_); rintro e w6 ⟨rfl, hb⟩; refine ⟨_, rfl, ?_⟩; have n0_ := Aside0.mk (below_step (by repeat (first | (with_reducible first | exact HB.out | apply below_alloc | apply pw_below_drewN | apply below_drew1) | exact HB.out)) hb); clear HB; have HB := n0_; clear n0_; (try clear hb); (try clear hb2); (try clear hk); (try clear hi)) | ((with_reducible refine gate_callee (f := 9) rfl ?_); refine goesL_ (some 20) rfl rfl Try.func9 (by kernel_rfl) rfl #[.string t144, .int .i64 (t143.size : Int)] rfl (by (try simp only [List.map_toArray, List.map_cons, List.map_nil]); first | done | rfl | (simp only [List.length_drop, List.length_take]; rfl)) ?_; (with_reducible refine (lz_Unpack.calls k t144 (t143.size : Int) t146 t147 _ A4.out).mono ?_); rintro e w7 ⟨rfl, hb⟩; refine ⟨_, rfl, ?_⟩; have n0_ := Aside0.mk (below_step (by repeat (first | (with_reducible first | exact HB.out | apply below_alloc | apply pw_below_drewN | apply below_drew1) | exact HB.out)) hb); clear HB; have HB := n0_; clear n0_; (try clear hb); (try clear hb2); (try clear hk); (try clear hi)))
  (try simp only [Act.put, List.setIfInBounds_toArray, List.set_cons_zero, List.set_cons_succ])
  go_cut [33] (fun v33 wc => ∃ (kq : Nat) (x33_4 : Bool), v33 = .bool x33_4 ∧ Aside0 (headgatelaw32_LzBack.j0 kq t143 t144 x33_4 = some r) ∧ Aside0 (kq ≤ k) ∧ Aside0 (Below w.heap.size w wc))
  case first =>
    have H := HC5.out
    clear HC5
    by_cases c8 : t145 = 0
    · rw [if_pos c8] at H
      have c8b0 : (t145 == 0) = true := beq_iff_eq.mpr c8
      have c8b1 : (t145 != 0) = false := bne_eq_false_iff_eq.mpr c8
      clear c8
      (first | rw [c8b0] | (simp only [i64_w, i32_w]; rw [c8b0]) | skip)
      by_cases c9 : t147 = 0
      · rw [if_pos c9] at H
        have c9b0 : (t147 == 0) = true := beq_iff_eq.mpr c9
        have c9b1 : (t147 != 0) = false := bne_eq_false_iff_eq.mpr c9
        clear c9
        have H' := Aside0.mk H
        clear H
        go_wp2
        go_meet
        case rel => exact ⟨_, ((t146.toList != t143.toList)), (by first | rfl | (simp; done) | (simp [*]; done)), H', ⟨by first | omega | exact Nat.le_refl _⟩, ⟨by repeat (first | (with_reducible first | exact HB.out | apply below_alloc | apply pw_below_drewN | apply below_drew1) | exact HB.out)⟩⟩
      · rw [if_neg c9] at H
        have c9b0 : (t147 == 0) = false := beq_eq_false_iff_ne.mpr c9
        have c9b1 : (t147 != 0) = true := bne_iff_ne.mpr c9
        have H' := Aside0.mk H
        clear H
        go_wp2
        go_meet
        case rel => exact ⟨_, (true), (by first | rfl | (simp; done) | (simp [*]; done)), H', ⟨by first | omega | exact Nat.le_refl _⟩, ⟨by repeat (first | (with_reducible first | exact HB.out | apply below_alloc | apply pw_below_drewN | apply below_drew1) | exact HB.out)⟩⟩
    · rw [if_neg c8] at H
      have c8b0 : (t145 == 0) = false := beq_eq_false_iff_ne.mpr c8
      have c8b1 : (t145 != 0) = true := bne_iff_ne.mpr c8
      (first | rw [c8b0] | (simp only [i64_w, i32_w]; rw [c8b0]) | skip)
      have H' := Aside0.mk H
      clear H
      go_wp2
      go_meet
      case rel => exact ⟨_, (true), (by first | rfl | (simp; done) | (simp [*]; done)), H', ⟨by first | omega | exact Nat.le_refl _⟩, ⟨by repeat (first | (with_reducible first | exact HB.out | apply below_alloc | apply pw_below_drewN | apply below_drew1) | exact HB.out)⟩⟩
  case rest =>
    clear HC5
    try clear c1
    try clear p2
    try clear c4
    try clear c8
    try clear c8b0
    try clear c8b1
    try clear c9
    try clear c9b0
    try clear c9b1
    obtain ⟨kq, x33_4, rfl, HA, HJ4, HB⟩ := hcut
    cases kq with
    | zero => exact absurd HA.out (by simp [headgatelaw32_LzBack.j0])
    | succ kj4 =>
      have H := HA.out
      clear HA
      simp only [headgatelaw32_LzBack.j0] at H
      by_cases c10 : x33_4 = true
      · subst c10
        have H1 : (some false) = some r := by rw [if_pos rfl] at H; exact H
        clear H
        have H := H1
        clear H1
        obtain rfl := Option.some.inj H
        go_wp2
        go_ret
        exact ⟨by first | rfl | (simp [errW_none, errW_some] <;> rfl) | (simp [*, errW_none, errW_some] <;> rfl), by repeat (first | (with_reducible first | exact HB.out | apply below_alloc | apply pw_below_drewN | apply below_drew1) | exact HB.out)⟩
      · replace c10 := Bool.eq_false_iff.mpr c10
        subst c10
        have H1 : (if (t143.size : Int) = 0 then ((headgatelaw32_awake.f kj4).bind fun t148 => (some t148)) else ((lz_Unpack.f kj4 t144 (wrap64 ((t143.size : Int) - 1))).bind fun bt149 => (if bt149.1.toList = ([] : List UInt8) then (if bt149.2 = 2 then ((headgatelaw32_awake.f kj4).bind fun t151 => (some t151)) else (some false)) else (some false)))) = some r := by rw [if_neg (show ¬ (false = true) by decide)] at H; exact H
        clear H
        have H := H1
        clear H1
        by_cases c11 : (t143.size : Int) = 0
        · rw [if_pos c11] at H
          have c11b0 : ((t143.size : Int) == 0) = true := beq_iff_eq.mpr c11
          have c11b1 : ((t143.size : Int) != 0) = false := bne_eq_false_iff_eq.mpr c11
          clear c11
          replace H := Option.bind_eq_some_iff.mp H
          obtain ⟨t148, A120, H⟩ := H
          replace H : (some t148) = some r := H
          have A12 := Aside0.mk A120
          clear A120
          obtain rfl := Option.some.inj H
          go_wp2_with (first | ((with_reducible refine gate_callee (f := 11) rfl ?_); refine goesL_ (some 37) rfl rfl Try.func11 (by kernel_rfl) rfl #[] rfl (by (try simp only [List.map_toArray, List.map_cons, List.map_nil]); first | done | rfl | (simp only [List.length_drop, List.length_take]; rfl)) ?_; (with_reducible refine (headgatelaw32_awake.calls kj4  t148 _ A12.out).mono ?_); rintro e w13 ⟨rfl, hb⟩; refine ⟨_, rfl, ?_⟩; have n0_ := Aside0.mk (below_step (by repeat (first | (with_reducible first | exact HB.out | apply below_alloc | apply pw_below_drewN | apply below_drew1) | exact HB.out)) hb); clear HB; have HB := n0_; clear n0_; (try clear hb); (try clear hb2); (try clear hk); (try clear hi)))
          go_ret
          exact ⟨by first | rfl | (simp [errW_none, errW_some] <;> rfl) | (simp [*, errW_none, errW_some] <;> rfl), by repeat (first | (with_reducible first | exact HB.out | apply below_alloc | apply pw_below_drewN | apply below_drew1) | exact HB.out)⟩
        · rw [if_neg c11] at H
          have c11b0 : ((t143.size : Int) == 0) = false := beq_eq_false_iff_ne.mpr c11
          have c11b1 : ((t143.size : Int) != 0) = true := bne_iff_ne.mpr c11
          replace H := Option.bind_eq_some_iff.mp H
          obtain ⟨⟨t149, t150⟩, A140, H⟩ := H
          replace H : (if t149.toList = ([] : List UInt8) then (if t150 = 2 then ((headgatelaw32_awake.f kj4).bind fun t151 => (some t151)) else (some false)) else (some false)) = some r := H
          have A14 := Aside0.mk A140
          clear A140
          by_cases c15 : t149.toList = ([] : List UInt8)
          · rw [if_pos c15] at H
            have c15b0 : (t149.toList == ([] : List UInt8)) = true := beq_iff_eq.mpr c15
            have c15b1 : (t149.toList != ([] : List UInt8)) = false := bne_eq_false_iff_eq.mpr c15
            clear c15
            by_cases c16 : t150 = 2
            · rw [if_pos c16] at H
              have c16b0 : (t150 == 2) = true := beq_iff_eq.mpr c16
              have c16b1 : (t150 != 2) = false := bne_eq_false_iff_eq.mpr c16
              clear c16
              replace H := Option.bind_eq_some_iff.mp H
              obtain ⟨t151, A170, H⟩ := H
              replace H : (some t151) = some r := H
              have A17 := Aside0.mk A170
              clear A170
              obtain rfl := Option.some.inj H
              go_wp2_with (first | ((with_reducible refine gate_callee (f := 9) rfl ?_); refine goesL_ (some 43) rfl rfl Try.func9 (by kernel_rfl) rfl #[.string t144, .int .i64 (wrap64 ((t143.size : Int) - 1))] rfl (by (try simp only [List.map_toArray, List.map_cons, List.map_nil]); first | done | rfl | (simp only [List.length_drop, List.length_take]; rfl)) ?_; (with_reducible refine (lz_Unpack.calls kj4 t144 (wrap64 ((t143.size : Int) - 1)) t149 t150 _ A14.out).mono ?_); rintro e w18 ⟨rfl, hb⟩; refine ⟨_, rfl, ?_⟩; have n0_ := Aside0.mk (below_step (by repeat (first | (with_reducible first | exact HB.out | apply below_alloc | apply pw_below_drewN | apply below_drew1) | exact HB.out)) hb); clear HB; have HB := n0_; clear n0_; (try clear hb); (try clear hb2); (try clear hk); (try clear hi)) | (go_at_call 11; (with_reducible refine (headgatelaw32_awake.calls kj4  t151 _ A17.out).mono ?_); rintro e w19 ⟨rfl, hb⟩; have n0_ := Aside0.mk (below_step (by repeat (first | (with_reducible first | exact HB.out | apply below_alloc | apply pw_below_drewN | apply below_drew1) | exact HB.out)) hb); clear HB; have HB := n0_; clear n0_; (try clear hb); (try clear hb2); (try clear hk); (try clear hi)))
              go_ret
              exact ⟨by first | rfl | (simp [errW_none, errW_some] <;> rfl) | (simp [*, errW_none, errW_some] <;> rfl), by repeat (first | (with_reducible first | exact HB.out | apply below_alloc | apply pw_below_drewN | apply below_drew1) | exact HB.out)⟩
            · rw [if_neg c16] at H
              have c16b0 : (t150 == 2) = false := beq_eq_false_iff_ne.mpr c16
              have c16b1 : (t150 != 2) = true := bne_iff_ne.mpr c16
              obtain rfl := Option.some.inj H
              go_wp2_with (first | ((with_reducible refine gate_callee (f := 9) rfl ?_); refine goesL_ (some 43) rfl rfl Try.func9 (by kernel_rfl) rfl #[.string t144, .int .i64 (wrap64 ((t143.size : Int) - 1))] rfl (by (try simp only [List.map_toArray, List.map_cons, List.map_nil]); first | done | rfl | (simp only [List.length_drop, List.length_take]; rfl)) ?_; (with_reducible refine (lz_Unpack.calls kj4 t144 (wrap64 ((t143.size : Int) - 1)) t149 t150 _ A14.out).mono ?_); rintro e w20 ⟨rfl, hb⟩; refine ⟨_, rfl, ?_⟩; have n0_ := Aside0.mk (below_step (by repeat (first | (with_reducible first | exact HB.out | apply below_alloc | apply pw_below_drewN | apply below_drew1) | exact HB.out)) hb); clear HB; have HB := n0_; clear n0_; (try clear hb); (try clear hb2); (try clear hk); (try clear hi)))
              go_ret
              exact ⟨by first | rfl | (simp [errW_none, errW_some] <;> rfl) | (simp [*, errW_none, errW_some] <;> rfl), by repeat (first | (with_reducible first | exact HB.out | apply below_alloc | apply pw_below_drewN | apply below_drew1) | exact HB.out)⟩
          · rw [if_neg c15] at H
            have c15b0 : (t149.toList == ([] : List UInt8)) = false := beq_eq_false_iff_ne.mpr c15
            have c15b1 : (t149.toList != ([] : List UInt8)) = true := bne_iff_ne.mpr c15
            obtain rfl := Option.some.inj H
            go_wp2_with (first | ((with_reducible refine gate_callee (f := 9) rfl ?_); refine goesL_ (some 43) rfl rfl Try.func9 (by kernel_rfl) rfl #[.string t144, .int .i64 (wrap64 ((t143.size : Int) - 1))] rfl (by (try simp only [List.map_toArray, List.map_cons, List.map_nil]); first | done | rfl | (simp only [List.length_drop, List.length_take]; rfl)) ?_; (with_reducible refine (lz_Unpack.calls kj4 t144 (wrap64 ((t143.size : Int) - 1)) t149 t150 _ A14.out).mono ?_); rintro e w21 ⟨rfl, hb⟩; refine ⟨_, rfl, ?_⟩; have n0_ := Aside0.mk (below_step (by repeat (first | (with_reducible first | exact HB.out | apply below_alloc | apply pw_below_drewN | apply below_drew1) | exact HB.out)) hb); clear HB; have HB := n0_; clear n0_; (try clear hb); (try clear hb2); (try clear hk); (try clear hi)))
            go_ret
            exact ⟨by first | rfl | (simp [errW_none, errW_some] <;> rfl) | (simp [*, errW_none, errW_some] <;> rfl), by repeat (first | (with_reducible first | exact HB.out | apply below_alloc | apply pw_below_drewN | apply below_drew1) | exact HB.out)⟩

/-- THE ONE PURE STATEMENT of headgatelaw32_LzBack: yours. -/
def headgatelaw32_LzBack.Pure : Prop := ∀ (a0 : ByteArray), a0.size ≤ 140737488351232 → ∃ k, headgatelaw32_LzBack.f k a0 = some true
theorem headgatelaw32_LzBack.walk (P : headgatelaw32_LzBack.Pure) (a0 : ByteArray) (w : World) (w0 : a0.size ≤ 140737488351232) :
    Calls Try.prog 4 #[.string a0] w fun e w' => e = .returned (.bool true) ∧ Below w.heap.size w w' := by
  obtain ⟨k, h⟩ := P a0 w0
  refine (headgatelaw32_LzBack.calls k a0 true w h).mono ?_
  rintro e w' ⟨rfl, hd⟩
  exact ⟨rfl, hd⟩

end Go.Proofs.Ytahemhjlfajlkaa.PL
