/- DiskKeeps: behind a crash each file has what was synced, and of the rest a beginning, whatever is kept; nothing else is there. -/
import Derived.Test.YtcldjjmfpmkldaaDoorD15
import Derived.Test.YtcldjjmfpmkldaaDoorFwL
import Derived.Test.YtcldjjmfpmkldaaDoorFwW
import Derived.Test.YtcldjjmfpmkldaaDoorFwB
import Derived.Test.YtcldjjmfpmkldaaDoorFwM
import Derived.Test.YtcldjjmfpmkldaaDoorMtrim0
import Derived.Test.YtcldjjmfpmkldaaDoorMdisk0
import Derived.Test.YtcldjjmfpmkldaaDoorMmore0
import Derived.Test.YtcldjjmfpmkldaaDoorMlaw0
import Derived.Test.YtcldjjmfpmkldaaDoorMall0
import Derived.Test.YtcldjjmfpmkldaaDoorMall1
namespace Go.Proofs.YtcldjjmfpmkldaaDoor.M
open Go.Proofs.YtcldjjmfpmkldaaDoor.F Go.RowKit
set_option linter.unusedVariables false
set_option linter.unusedSimpArgs false
set_option maxRecDepth 100000
set_option maxHeartbeats 2000000
attribute [local irreducible] Res.cells Res.row Res.map Res.any World.cell? World.frozen? Instr.fieldAt Instr.loadAt Instr.storeAt Instr.indexAt Instr.lookup Instr.mapUpdate Instr.box Instr.build Instr.buildSlice Instr.extract Instr.alloc Instr.field Instr.index Instr.sliceAt Instr.makeSlice Instr.makeMap Instr.makeFunc binS Op.unary Sem.run
theorem inTl {d m : Res} {Y L : List Res} : ∀ r ∈ L, r ∈ d :: m :: (Y ++ L) := fun r hr => .tail _ (.tail _ (List.mem_append_right _ hr))
theorem crash_len (D : Dk) (keep : List Int) : (crashD D keep).L.length = D.L.length := crs_len keep D.L _
theorem crash_get (D : Dk) (keep : List Int) (i : Nat) (h : i < (crashD D keep).L.length) (h2 : i < D.L.length) : (crashD D keep).L[i] = crOne keep i D.L[i] := by
  have := crs_get keep D.L D.L.length i h h2
  rw [if_pos h2] at this
  exact this
theorem crOne_sure (keep : List Int) (i : Nat) (f : Fl) : begS f.sure (crOne keep i f).sure ∧ begS (crOne keep i f).sure (f.sure ++ f.loose) := by
  refine ⟨⟨_, rfl⟩, ⟨f.loose.extract (kN keep i f.loose.size) f.loose.size, ?_⟩⟩
  have := ext_cat f.loose _ (kN_le keep i f.loose.size)
  show f.sure ++ f.loose = f.sure ++ f.loose.extract 0 (kN keep i f.loose.size) ++ f.loose.extract (kN keep i f.loose.size) f.loose.size
  have e : ∀ a b c : ByteArray, a ++ b ++ c = a ++ (b ++ c) := fun a b c => by apply ByteArray.ext; simp only [ByteArray.data_append, Array.append_assoc]
  rw [e, ← this]
theorem crash_again {D : Dk} {keep : List Int} (h : ∀ f ∈ D.L, f.loose = ⟨#[]⟩) : (crashD D keep).L = D.L := by
  refine List.ext_getElem (crash_len D keep) fun i h1 h2 => ?_
  rw [crash_get D keep i h1 h2]
  have hl := h D.L[i] (List.getElem_mem h2)
  unfold crOne
  rw [hl]
  have e : (⟨#[]⟩ : ByteArray).extract 0 (kN keep i (⟨#[]⟩ : ByteArray).size) = ⟨#[]⟩ := by
    rw [empty_iff, ByteArray.size_extract]
    exact Nat.le_zero.1 (Nat.le_trans (Nat.sub_le _ _) (Nat.min_le_right _ _))
  rw [e]
  have e2 : D.L[i].sure ++ ⟨#[]⟩ = D.L[i].sure := by apply ByteArray.ext; rw [ByteArray.data_append]; simp
  rw [e2, ← hl]
section
variable {w0 w : World} {F : List Nat} {L : List Res} {l : List De} {A : Option Addr} {c b size : Nat} {D : Dk}
theorem dkeeps_ret {n : Int} {keep : List Int} {A2 : Option Addr} {c2 : Nat} (hc2 : keep.length ≤ c2) (hk : Rd w0 1 A2 keep.length (keep.map (Value.int .i64))) (hc : l.length ≤ c) (hok : ∀ x ∈ l, DeOk w0 x) (hl : Rd w0 6 A l.length (l.flatMap encD)) : Ret Tryd.prog 6 #[.int .i64 n, .slice A l.length c, .slice A2 keep.length c2] w0 fun v w' => v = .bool true ∧ Below w0.heap.size w0 w' := by
  have hS := St.start w0
  refine s6 _ _ _ ?_
  unfold m6 m6_0 m6_1
  refine callR (by kernel_rfl) (made_ret (n := n) hc hok hl hS) ?_
  intro v w hR
  by_cases hn : 1 ≤ n ∧ n ≤ 16384
  · rw [if_pos hn] at hR
    obtain ⟨b, rfl, hD⟩ := hR
    have hO : Ok n.toNat (runD ⟨[], n, -1, false⟩ (fewL l)) := (Ok.new hn).run (few_ok hok)
    generalize runD ⟨[], n, -1, false⟩ (fewL l) = D at *
    unfold m6_2
    first | refine valP_ok (eq23n _ _ _) ?_ | refine valP_ok (eq23s _ _ _ _) ?_
    unfold m6_22
    refine cond_f rfl ?_
    unfold m6_3
    refine callR (by kernel_rfl) (files_ret hO hD) ?_
    clear hS hD
    rintro _ w ⟨A1, c1, rfl, hD⟩
    have rest : ∀ (kp : List Int) (w : World), kp.length ≤ 100 → Rd w0 1 A2 kp.length (kp.map (Value.int .i64)) → Dsk w0 [] [flRow A1 c1 D.L] b D w → m6_5 (fun v w' => v = .bool true ∧ Below w0.heap.size w0 w') (.slice A2 kp.length c2) (ptr b) (.slice A1 D.L.length c1) w := fun kp w hkl hkr hD => by
      unfold m6_5
      refine callR (by kernel_rfl) (crash_ret (by omega) hO (Bes.of_old0 hkr) hD) ?_
      clear hD
      intro _ w hD
      have hO2 := Ok.crash (keep := kp) hO
      have hlen2 := crash_len D kp
      have hgetD := crash_get D kp
      have hoff : (crashD D kp).off = false := rfl
      have hlow : ∀ f ∈ (crashD D kp).L, f.loose = ⟨#[]⟩ := fun f hf => by
        obtain ⟨i, hi, rfl⟩ := List.mem_iff_getElem.1 hf
        rw [hgetD i hi (by omega)]
        rfl
      generalize crashD D kp = E at *
      have hEl := hO2.len
      unfold m6_6
      refine callR (by kernel_rfl) (files_ret hO2 hD) ?_
      clear hD
      rintro _ w ⟨A3, c3, rfl, hD⟩
      have hB1 : BF w0 [] [flRow A3 c3 E.L, flRow A1 c1 D.L] A1 D.L := Bes.of_row 1 rfl
      have hB3 : BF w0 [] [flRow A3 c3 E.L, flRow A1 c1 D.L] A3 E.L := Bes.of_row 0 rfl
      unfold m6_7
      refine builtin_ok (len38 _) ?_
      refine builtin_ok (len38 _) ?_
      refine valP_ok (ne3 _ _ _ _ _) ?_
      refine cond_df (by omega) ?_
      obtain ⟨mb, X, hX, hS⟩ := hD
      refine callR (by kernel_rfl) (off_ret hS) ?_
      rintro _ w ⟨rfl, hS⟩
      first | refine pick_dt (by first | assumption | omega) ?_ | refine pick_df (by first | assumption | omega) ?_ | refine pick_t (by first | rfl | assumption) ?_ | refine pick_f (by first | rfl | assumption) ?_ | refine pick_dt rfl ?_ | refine pick_df (not_not_intro rfl) ?_
      unfold m6_19
      rw [hoff]
      refine cond_f rfl ?_
      unfold m6_8 m6_12
      refine loop_in (fun u w' => ∃ i : Nat, u = .int .i64 (i : Int) ∧ i ≤ D.L.length ∧ Dsk w0 [] [flRow A3 c3 E.L, flRow A1 c1 D.L] b E w') (fun u _ => D.L.length - (intOf u).toNat) ⟨0, rfl, by omega, mb, X, hX, hS⟩ ?_
      clear hS hX
      rintro u w ⟨i, rfl, hi, hD⟩
      unfold m6_13
      refine builtin_ok (len38 _) ?_
      refine valP_ok (lss_ok _ _ _ _ _ _ _) ?_
      unfold m6_18
      refine cond_split (fun h => ?_) (fun h => ?_)
      · have hil : i < D.L.length := by omega
        have hil3 : i < E.L.length := by omega
        have hsz := hO.sz (List.getElem_mem hil)
        have hsz' : D.L[i].sure.size + D.L[i].loose.size = D.L[i].sz := rfl
        have hcr := hgetD i hil3 hil
        have hbg := crOne_sure kp i D.L[i]
        rw [← hcr] at hbg
        have hnm : E.L[i].name = D.L[i].name := by rw [hcr]; rfl
        have hlo := hlow _ (List.getElem_mem hil3)
        have hnn : ¬ ¬ E.L[i].name = D.L[i].name := not_not_intro hnm
        obtain ⟨mb, X, hX, hS⟩ := hD
        obtain ⟨g1, o1, rfl⟩ := ((hB1.mono inTl).rd hS).some_ (by omega) (by omega)
        obtain ⟨g3, o3, rfl⟩ := ((hB3.mono inTl).rd hS).some_ (by omega) (by omega)
        have p1 := fun w (hw : Hs w0 [] (dCell b (.map (some mb)) E.room E.fuse E.off :: mapD mb X :: (X.map fileR ++ [flRow (some ⟨g3, o3, none⟩) c3 E.L, flRow (some ⟨g1, o1, none⟩) c1 D.L])) w) => f_at (Hs.rd (hB1.mono inTl) w hw) hil
        have p3 := fun w (hw : Hs w0 [] (dCell b (.map (some mb)) E.room E.fuse E.off :: mapD mb X :: (X.map fileR ++ [flRow (some ⟨g3, o3, none⟩) c3 E.L, flRow (some ⟨g1, o1, none⟩) c1 D.L])) w) => f_at (Hs.rd (hB3.mono inTl) w hw) hil3
        unfold m6_14
        refine drawn_ok hS ?_
        intro w hS
        refine held_Hs hS ?_
        refine valJ_ok (fun w => ix38 hil3 w) ?_
        refine valJ_ok (fun w => fao42_0 _ _ _) ?_
        refine valJ_at (fun w hw => ld9 (p3 w hw).1) ?_
        refine valJ_ok (fun w => ix38 hil w) ?_
        refine valJ_ok (fun w => fao42_0 _ _ _) ?_
        refine valJ_at (fun w hw => ld9 (p1 w hw).1) ?_
        refine valJ_ok (ne9 _ _ _ _) ?_
        refine cond_df (not_not_intro hnm) ?_
        refine valJ_ok (fun w => ix38 hil3 w) ?_
        refine valJ_ok (fun w => fao42_2 _ _ _) ?_
        refine valJ_at (fun w hw => ld9 (p3 w hw).2.2) ?_
        rw [hlo]
        refine valJ_ok (ne9 _ _ _ _) ?_
        first | refine pick_dt (by first | assumption | omega) ?_ | refine pick_df (by first | assumption | omega) ?_ | refine pick_t (by first | rfl | assumption) ?_ | refine pick_f (by first | rfl | assumption) ?_ | refine pick_dt rfl ?_ | refine pick_df (not_not_intro rfl) ?_
        refine cond_df (not_not_intro rfl) ?_
        refine valJ_ok (fun w => ix38 hil w) ?_
        refine valJ_ok (fun w => fao42_1 _ _ _) ?_
        refine valJ_at (fun w hw => ld9 (p1 w hw).2.1) ?_
        refine valJ_ok (fun w => ix38 hil3 w) ?_
        refine valJ_ok (fun w => fao42_1 _ _ _) ?_
        refine valJ_at (fun w hw => ld9 (p3 w hw).2.1) ?_
        refine callR (by kernel_rfl) (begins_ret hS) ?_
        rintro _ w ⟨⟨t, rfl, ht⟩, hS⟩
        obtain rfl := ht.2 hbg.1
        refine stay_Hs hS (by first | exact fun _ h => h | exact fun _ h => .tail _ h | exact fun _ h => .tail _ (.tail _ h) | simp) ?_
        first | refine valJ_ok (not_ok _) ?_ | refine valJ_ok (notb_ok _) ?_
        first | refine pick_dt (by first | assumption | omega) ?_ | refine pick_df (by first | assumption | omega) ?_ | refine pick_t (by first | rfl | assumption) ?_ | refine pick_f (by first | rfl | assumption) ?_ | refine pick_dt rfl ?_ | refine pick_df (not_not_intro rfl) ?_
        refine cond_f rfl ?_
        refine valJ_ok (fun w => ix38 hil3 w) ?_
        refine valJ_ok (fun w => fao42_1 _ _ _) ?_
        refine valJ_at (fun w hw => ld9 (p3 w hw).2.1) ?_
        refine valJ_ok (fun w => ix38 hil w) ?_
        refine valJ_ok (fun w => fao42_1 _ _ _) ?_
        refine valJ_at (fun w hw => ld9 (p1 w hw).2.1) ?_
        refine valJ_ok (fun w => ix38 hil w) ?_
        refine valJ_ok (fun w => fao42_2 _ _ _) ?_
        refine valJ_at (fun w hw => ld9 (p1 w hw).2.2) ?_
        refine valJ_ok (fun w => sadd _ _ (by omega) w) ?_
        refine callR (by kernel_rfl) (begins_ret hS) ?_
        rintro _ w ⟨⟨t, rfl, ht⟩, hS⟩
        obtain rfl := ht.2 hbg.2
        refine stay_Hs hS (by first | exact fun _ h => h | exact fun _ h => .tail _ h | exact fun _ h => .tail _ (.tail _ h) | simp) ?_
        first | refine valJ_ok (not_ok _) ?_ | refine valJ_ok (notb_ok _) ?_
        first | refine pick_dt (by first | assumption | omega) ?_ | refine pick_df (by first | assumption | omega) ?_ | refine pick_t (by first | rfl | assumption) ?_ | refine pick_f (by first | rfl | assumption) ?_ | refine pick_dt rfl ?_ | refine pick_df (not_not_intro rfl) ?_
        unfold m6_16
        refine cond_f rfl ?_
        unfold m6_15
        refine valP_ok (add_ok _ _ _ (by omega) (by omega) _) ?_
        exact ⟨⟨i + 1, rfl, by omega, mb, X, hX, hS⟩, by simp [intOf]; omega⟩
      · unfold m6_9
        refine callR (by kernel_rfl) (crash_ret (keep := []) (by simp) hO2 (fun w L' hS hL => Rd.nil_ _ _ _) hD) ?_
        clear hD
        intro _ w hD
        have hO3 := Ok.crash (keep := []) hO2
        have hag := crash_again (keep := []) hlow
        unfold m6_10
        refine callR (by kernel_rfl) (files_ret hO3 hD) ?_
        rintro _ w ⟨A4, c4, rfl, hD⟩
        rw [hag] at hD ⊢
        refine callR (by kernel_rfl) (same_ret (by omega) (by omega) (Bes.of_row 0 rfl) (Bes.of_row 1 rfl) (Dsk.gone hD)) ?_
        rintro _ w ⟨⟨t, rfl, ht⟩, hS⟩
        obtain rfl := ht.2 rfl
        refine cond_t rfl ?_
        refine callR (by kernel_rfl) (awake_ret hS) ?_
        rintro _ w ⟨rfl, hS⟩
        first | refine pick_dt (by first | assumption | omega) ?_ | refine pick_df (by first | assumption | omega) ?_ | refine pick_t (by first | rfl | assumption) ?_ | refine pick_f (by first | rfl | assumption) ?_ | refine pick_dt rfl ?_ | refine pick_df (not_not_intro rfl) ?_
        unfold m6_11
        exact ⟨rfl, hS.below⟩
    unfold m6_4
    refine builtin_ok (len46 _) ?_
    refine valP_ok (gtr_ok _ _ _ _ _ _ _) ?_
    unfold m6_21
    refine cond_split (fun h => ?_) (fun h => ?_)
    · refine valP_ok (sh46 (k := 100) (by omega) _) ?_
      have hkr : Rd w0 1 A2 (keep.take 100).length ((keep.take 100).map (Value.int .i64)) := by
        have h1 := hk
        rw [← iFlat] at h1
        have h2 := Rd.takeS (enc := fun x : Int => [Value.int .i64 x]) (fun _ => rfl) 100 h1
        rw [iFlat] at h2
        exact h2
      have hkl : (keep.take 100).length = 100 := by rw [List.length_take]; omega
      have h1 := rest (keep.take 100) w (by omega) hkr hD
      rw [hkl] at h1
      exact h1
    · exact rest keep w (by omega) hk hD
  · rw [if_neg hn] at hR
    obtain ⟨rfl, hS⟩ := hR
    unfold m6_2
    first | refine valP_ok (eq23n _ _ _) ?_ | refine valP_ok (eq23s _ _ _ _) ?_
    unfold m6_22
    refine cond_t rfl ?_
    refine callR (by kernel_rfl) (awake_ret hS) ?_
    rintro _ w ⟨rfl, hS⟩
    unfold m6_23
    exact ⟨rfl, hS.below⟩
end

end Go.Proofs.YtcldjjmfpmkldaaDoor.M
