/- A member of which nothing is heard is none any more, and none is ahead of that. -/
import Derived.Test.YtjjmlopmemmobaaG14
import Derived.Test.YtjjmlopmemmobaaMga0
namespace Go.Proofs.Ytjjmlopmemmobaa.M
open Go.Proofs.Ytjjmlopmemmobaa.F Go.RowKit
set_option linter.unusedVariables false
set_option linter.unusedSimpArgs false
set_option maxRecDepth 100000
set_option maxHeartbeats 2000000
attribute [local irreducible] Res.cells Res.row Res.map Res.any World.cell? World.frozen? Instr.fieldAt Instr.loadAt Instr.storeAt Instr.indexAt Instr.lookup Instr.mapUpdate Instr.box Instr.build Instr.buildSlice Instr.extract Instr.alloc Instr.field Instr.index Instr.sliceAt Instr.makeSlice Instr.makeMap Instr.makeFunc binS Op.unary Sem.run
open Go.Proofs.Ytjjmlopmemmobaa.L Go.Shelf
theorem doG_gen (s : GS) (x : Gd) : (doG s x).g ≤ s.g + 1 := by
  have r : s.g ≤ s.g + 1 := by omega
  unfold doG
  split
  · unfold joinG
    split
    · exact r
    · exact Int.le_refl _
  · split
    · unfold syncG
      split <;> exact r
    · split
      · unfold beatG
        split
        · exact r
        · split <;> exact r
      · split
        · unfold leaveG
          split
          · exact r
          · split
            · exact r
            · exact Int.le_refl _
        · split
          · unfold tickG
            split
            · exact r
            · exact Int.le_refl _
          · exact r
/-- where the numbers rise, each stands once. -/
theorem atL_rise {l : List Mem} (h : l.Pairwise (fun a b => a.id < b.id)) {k : Nat} (hk : k < l.length) : atL l l[k].id = some k := by
  refine atL_some k hk rfl fun m hm e => ?_
  obtain ⟨j, hj, rfl⟩ := List.mem_iff_getElem.1 hm
  rw [List.length_take] at hj
  rw [List.getElem_take] at e
  have := List.pairwise_iff_getElem.1 h j k (by omega) hk (by omega)
  omega
/-- the group s, heard of but for the member q, as it is behind t ticks, the first k members heard of once more. -/
structure GX (s u : GS) (q t k : Nat) : Prop where
  ids : idsL u.L = idsL s.L
  g : u.g = s.g
  now : u.now = s.now + t
  due : ∀ j (h : j < u.L.length), (j = q → u.L[j].due = s.now + 12) ∧ (j ≠ q → j < k → u.L[j].due = s.now + t + 12)
theorem GX.len {s u : GS} {q t k : Nat} (h : GX s u q t k) : u.L.length = s.L.length := by
  have := congrArg List.length h.ids
  simpa using this
theorem GX.id {s u : GS} {q t k : Nat} (h : GX s u q t k) {j : Nat} (hj : j < s.L.length) (hj' : j < u.L.length) : u.L[j].id = s.L[j].id := by
  have h1 : (idsL u.L)[j]'(by rw [List.length_map]; omega) = (idsL s.L)[j]'(by rw [List.length_map]; exact hj) := by simp only [h.ids]
  simpa [idsL] using h1
theorem GX.at_ {s u : GS} {q t k : Nat} (h : GX s u q t k) (hr : u.L.Pairwise (fun a b => a.id < b.id)) {j : Nat} (hj : j < s.L.length) : atL u.L s.L[j].id = some j := by
  have hl := h.len
  rw [← h.id hj (by omega)]
  exact atL_rise hr (by omega)
theorem GX.sync {s u : GS} {q t k : Nat} (h : GX s u q t k) (hk : k < u.L.length) (hq : k ≠ q) : GX s (heard u k) q t (k + 1) := by
  have hn := h.now
  refine ⟨(heardL_id _ _ _).trans h.ids, h.g, h.now, fun j hj => ?_⟩
  have hj' : j < u.L.length := by
    have := heardL_len u.L k (u.now + 12)
    have hj : j < (heardL u.L k (u.now + 12)).length := hj
    omega
  have hd := h.due j hj'
  show (j = q → (heardL u.L k (u.now + 12))[j].due = _) ∧ (j ≠ q → j < k + 1 → (heardL u.L k (u.now + 12))[j].due = _)
  rw [heardL_get u.L k (u.now + 12) j hj hj']
  by_cases e : k = j
  · subst e
    rw [if_pos rfl]
    exact ⟨fun h => absurd h hq, fun _ _ => by show u.now + 12 = _; omega⟩
  · rw [if_neg e]
    exact ⟨hd.1, fun h1 h2 => hd.2 h1 (by omega)⟩
theorem GX.skip {s u : GS} {q t : Nat} (h : GX s u q t q) : GX s u q t (q + 1) :=
  ⟨h.ids, h.g, h.now, fun j hj => ⟨(h.due j hj).1, fun h1 h2 => (h.due j hj).2 h1 (by omega)⟩⟩
theorem GX.tick {s u : GS} {q t : Nat} (h : GX s u q t u.L.length) (ht : t < 11) : tickA u = false ∧ tickG u = later u ∧ GX s (later u) q (t + 1) 0 := by
  have hn := h.now
  have hst : stays u = u.L := by
    refine List.filter_eq_self.2 fun m hm => ?_
    obtain ⟨j, hj, rfl⟩ := List.mem_iff_getElem.1 hm
    have hd := h.due j hj
    have : ¬ u.L[j].due ≤ u.now + 1 := by
      by_cases e : j = q
      · have := hd.1 e
        omega
      · have := hd.2 e hj
        omega
    rw [decide_eq_false this]
    rfl
  refine ⟨?_, ?_, h.ids, h.g, ?_, fun j hj => ⟨(h.due j hj).1, fun _ h2 => by omega⟩⟩
  · unfold tickA
    rw [hst]
    simp
  · unfold tickG
    rw [hst, if_pos (.inr (by omega))]
  · show u.now + 1 = _
    omega
theorem filter_out {α : Type} (p : α → Bool) : ∀ (l : List α) (q : Nat), q < l.length → (∀ j (h : j < l.length), p l[j] = decide (j ≠ q)) → (l.filter p).length = l.length - 1
  | [], q, h, _ => absurd h (Nat.not_lt_zero _)
  | a :: l, 0, _, hp => by
    have h0 := hp 0 (by simp)
    simp at h0
    rw [List.filter_cons_of_neg (by rw [h0]; simp), List.filter_eq_self.2 fun m hm => ?_]
    · simp
    · obtain ⟨j, hj, rfl⟩ := List.mem_iff_getElem.1 hm
      have := hp (j + 1) (by simpa using hj)
      simpa using this
  | a :: l, q + 1, h, hp => by
    have h0 := hp 0 (by simp)
    simp at h0
    have h : q < l.length := by simpa using h
    rw [List.filter_cons_of_pos h0, List.length_cons, filter_out p l q h fun j hj => by
      have := hp (j + 1) (by simpa using hj)
      simpa using this]
    simp
    omega
theorem GX.gone {s u : GS} {q : Nat} (h : GX s u q 11 u.L.length) (hq : q < u.L.length) : (stays u).length = u.L.length - 1 ∧ ∀ m ∈ stays u, ∃ j, ∃ h : j < u.L.length, j ≠ q ∧ m = u.L[j] := by
  have hn := h.now
  have hp : ∀ j (h : j < u.L.length), (fun m : Mem => !decide (m.due ≤ u.now + 1)) u.L[j] = decide (j ≠ q) := fun j hj => by
    have hd := h.due j hj
    by_cases e : j = q
    · have hd := hd.1 e
      have : u.L[j].due ≤ u.now + 1 := by omega
      simp only [this, decide_true, Bool.not_true]
      rw [decide_eq_false (not_not_intro e)]
    · have hd := hd.2 e hj
      have : ¬ u.L[j].due ≤ u.now + 1 := by omega
      simp only [this, decide_false, Bool.not_false]
      rw [decide_eq_true e]
  refine ⟨filter_out _ u.L q hq hp, fun m hm => ?_⟩
  obtain ⟨hm, hpm⟩ := List.mem_filter.1 hm
  obtain ⟨j, hj, rfl⟩ := List.mem_iff_getElem.1 hm
  refine ⟨j, hj, fun e => ?_, rfl⟩
  have h2 := hp j hj
  simp only at h2
  rw [h2] at hpm
  simp [e] at hpm
theorem gexpires_ret {w0 : World} {A : Option Addr} {c : Nat} {l : List Gd} {st : Bool} {si : Int} (hsi : -9223372036854775808 ≤ si ∧ si ≤ 9223372036854775807) (hl : Rd w0 5 A l.length (l.flatMap encG)) (hc : l.length ≤ c) (hok : ∀ x ∈ l, DG x) :
    Ret Try.prog 8 #[.bool st, .slice A l.length c, .int .i64 si] w0 fun v w' => v = .bool true ∧ Below w0.heap.size w0 w' := by
  have hS := St.start w0
  refine s8 _ _ _ ?_
  unfold m8 m8_0
  unfold m8_1
  refine callR (by kernel_rfl) (gnew_ret (parts := 4) (gen := 0) (next := 1) (sticky := st) hS) ?_
  clear hS
  intro v w hv
  rw [if_neg (by unfold newBad; omega)] at hv
  obtain ⟨b, X, rfl, hS⟩ := hv
  refine valP_ok (extract_ok _ 0 rfl _) ?_
  refine valP_ok (extract_ok _ 1 rfl _) ?_
  unfold m8_2
  refine valP_ok (ne26 _ _ _ _ _) ?_
  refine cond_df (by decide) ?_
  first | refine valP_ok (eq59n _ _ _) ?_ | refine valP_ok (eq59s _ _ _ _) ?_
  first | refine pick_dt (by first | assumption | omega) ?_ | refine pick_df (by first | assumption | omega) ?_ | refine pick_t (by first | rfl | assumption) ?_ | refine pick_f (by first | rfl | assumption) ?_ | refine pick_dt rfl ?_ | refine pick_df (not_not_intro rfl) ?_
  unfold m8_35
  refine cond_f rfl ?_
  unfold m8_3
  refine callR (by kernel_rfl) (gsome_ret hc) ?_
  rintro v w ⟨rfl, rfl⟩
  have hl2 := rdG_take 120 hl
  have hok2 : ∀ x ∈ l.take 120, DG x := fun x hx => hok x (List.mem_of_mem_take hx)
  have hll : (l.take 120).length ≤ 120 := by rw [List.length_take]; omega
  generalize l.take 120 = ls at *
  unfold m8_4 m8_30
  refine loop_in (fun u w' => ∃ (i : Nat) (s : GS) (X : GA), u = .int .i64 i ∧ i ≤ ls.length ∧ GOk i s ∧ s.g ≤ i ∧ St w0 [] w' (grpL 103 b s X ++ [])) (fun u _ => ls.length - (intOf u).toNat) ⟨0, _, X, rfl, by omega, newS_ok st (by unfold newBad; omega), by simp [newS], hS⟩ ?_
  clear hS
  rintro u w ⟨i, s, X, rfl, hi, hs, hsg, hS⟩
  unfold m8_31
  refine builtin_ok (len58 _) ?_
  refine valP_ok (lss_ok _ _ _ _ _ _ _) ?_
  unfold m8_34
  refine cond_split (fun h => ?_) (fun h => ?_)
  · have hlt : i < ls.length := by omega
    have hr := hl2.old0 hS
    obtain ⟨g, o, rfl⟩ := hr.some_ (by omega) (by omega)
    have h0 := hr.struct encG_len hlt (j := 0) (by omega) rfl
    have h1 := hr.struct encG_len hlt (j := 1) (by omega) rfl
    have h2 := hr.struct encG_len hlt (j := 2) (by omega) rfl
    have h3 := hr.struct encG_len hlt (j := 3) (by omega) rfl
    have h4 := hr.struct encG_len hlt (j := 4) (by omega) rfl
    rw [Nat.add_zero] at h0
    unfold m8_32
    refine valP_ok (ix58 hlt _) ?_
    refine valP_ok (ld65 h0 h1 h2 h3 h4) ?_
    refine callR (by kernel_rfl) (gdoes_ret (by omega) (hok2 _ (List.getElem_mem hlt)) hs hS) ?_
    rintro v w ⟨X2, hS⟩
    have hs2 : GOk (i + 1) (stepG s ls[i]) := doG_ok (by omega) hs _
    have hg2 : (stepG s ls[i]).g ≤ s.g + 1 := doG_gen _ _
    unfold m8_33
    refine valP_ok (add_ok _ _ _ (by omega) (by omega) _) ?_
    exact ⟨⟨i + 1, _, X2, rfl, by omega, hs2, by omega, hS⟩, by simp [intOf]; omega⟩
  · clear h
    have hlen := hs.len
    unfold m8_5
    refine callR (by kernel_rfl) (gmembers_ret (by omega) hS) ?_
    rintro v w ⟨A1, c1, rfl, hS⟩
    have hS : St w0 [] w (grpL 103 b s X ++ [mrow (.slice A1 s.L.length c1) s.L]) := hS.pick 4 [1, 2, 3, 0] (by simp) (by decide)
    unfold m8_6
    refine builtin_ok (len66 _) ?_
    refine valP_ok (eq3 _ _ _ _ _) ?_
    unfold m8_28
    refine cond_split (fun h0 => ?_) (fun h0 => ?_)
    · refine callR (by kernel_rfl) (gawake_ret hS) ?_
      rintro v w ⟨rfl, hS⟩
      unfold m8_29
      exact ⟨rfl, hS.below⟩
    · have hpos : 0 < s.L.length := by omega
      obtain ⟨g1, hg1⟩ := hS.row_ptr 3 rfl hpos
      subst hg1
      obtain ⟨q1, q2, q3, q4⟩ := ixM_spec si hpos
      generalize hqq : ixM si s.L.length = q at *
      unfold m8_7
      refine builtin_ok (len66 _) ?_
      refine valP_ok (rem_any _ _ _ hsi.1 hsi.2 (by omega) (by omega) _) ?_
      refine builtin_ok (len66 _) ?_
      refine valP_ok (add_ok _ _ _ (by omega) (by omega) _) ?_
      refine builtin_ok (len66 _) ?_
      refine valP_ok (rem_ok _ _ _ (by omega) (by omega) (by omega) _) ?_
      rw [q2]
      refine valP_ok (ixz66 q1 _) ?_
      have p0 := hS.row_struct 3 encM_len rfl q1 (j := 0) (by omega) rfl
      rw [Nat.add_zero] at p0
      refine valP_ok (fao69_0 _ _ _) ?_
      refine valP_ok (ld3 p0) ?_
      unfold m8_8
      refine callR (by kernel_rfl) (gsync_ret (by omega) hs hS) ?_
      rintro v w ⟨A2, c2, rfl, hS⟩
      have hat : atL s.L s.L[q].id = some q := atL_rise hs.rise q1
      have hsy : syncG s s.L[q].id = heard s q := by unfold syncG; rw [hat]
      rw [hsy] at hS
      have hS := hS.tail
      have hs1 : GOk (i + 1) (heard s q) := (hs.heard q).le (by omega)
      have hx : GX s (heard s q) q 0 0 := by
        refine ⟨heardL_id _ _ _, rfl, by show s.now = _; omega, fun j hj => ⟨fun e => ?_, fun _ h => by omega⟩⟩
        subst e
        show (heardL s.L j (s.now + 12))[j].due = _
        rw [heardL_get _ _ _ j hj q1, if_pos rfl]
      generalize heard s q = u at *
      unfold m8_9 m8_13
      refine loop_in (fun v w' => ∃ (t : Nat) (u : GS) (X : GA), v = .int .i64 ((t + 1 : Nat) : Int) ∧ t ≤ 12 ∧ GOk (i + 1 + t) u ∧ (t < 12 → GX s u q t 0) ∧ (t = 12 → u.L.length = s.L.length - 1 ∧ s.L[q].id ∉ idsL u.L) ∧ St w0 [] w' (grpL 103 b u X ++ [mrow (.slice (some ⟨g1, 0, none⟩) s.L.length c1) s.L])) (fun v _ => 13 - (intOf v).toNat) ⟨0, u, X, rfl, by omega, hs1, fun _ => hx, fun h => by omega, hS⟩ ?_
      clear hS hx hs1 hsy p0
      rintro v w ⟨t, u, X, rfl, ht, hu, hx, hend, hS⟩
      unfold m8_14
      refine valP_ok (leq_ok _ _ _ _ _ _ _) ?_
      unfold m8_27
      refine cond_split (fun h1 => ?_) (fun h1 => ?_)
      · have ht12 : t < 12 := by omega
        have hx := hx ht12
        clear hend
        unfold m8_15 m8_21
        refine loop_in (fun v w' => ∃ (k : Nat) (u : GS) (X : GA), v = .int .i64 (k : Int) ∧ k ≤ s.L.length ∧ GOk (i + 1 + t) u ∧ GX s u q t k ∧ St w0 [] w' (grpL 103 b u X ++ [mrow (.slice (some ⟨g1, 0, none⟩) s.L.length c1) s.L])) (fun v _ => s.L.length - (intOf v).toNat) ⟨0, u, X, rfl, by omega, hu, hx, hS⟩ ?_
        clear hS hx hu
        rintro v w ⟨k, u, X, rfl, hk, hu, hx, hS⟩
        have hul := hx.len
        unfold m8_22
        refine builtin_ok (len66 _) ?_
        refine valP_ok (lss_ok _ _ _ _ _ _ _) ?_
        unfold m8_26
        refine cond_split (fun h2 => ?_) (fun h2 => ?_)
        · have hkl : k < s.L.length := by omega
          have p0 := hS.row_struct 3 encM_len rfl hkl (j := 0) (by omega) rfl
          rw [Nat.add_zero] at p0
          unfold m8_23
          refine valP_ok (ixz66 hkl _) ?_
          refine valP_ok (fao69_0 _ _ _) ?_
          refine valP_ok (ld3 p0) ?_
          refine valP_ok (ne3 _ _ _ _ _) ?_
          unfold m8_25
          refine cond_split (fun h3 => ?_) (fun h3 => ?_)
          · refine valP_ok (ixz66 hkl _) ?_
            refine valP_ok (fao69_0 _ _ _) ?_
            refine valP_ok (ld3 p0) ?_
            refine callR (by kernel_rfl) (gsync_ret (by omega) hu hS) ?_
            rintro v w ⟨A3, c3, rfl, hS⟩
            have hat := hx.at_ hu.rise hkl
            have hsy : syncG u s.L[k].id = heard u k := by unfold syncG; rw [hat]
            rw [hsy] at hS
            unfold m8_24
            refine valP_ok (add_ok _ _ _ (by omega) (by omega) _) ?_
            exact ⟨⟨k + 1, heard u k, X, rfl, by omega, hu.heard k, hx.sync (by omega) (fun e => h3 (by subst e; rfl)), hS.tail⟩, by simp [intOf]; omega⟩
          · unfold m8_24
            refine valP_ok (add_ok _ _ _ (by omega) (by omega) _) ?_
            have hkq : k = q := by
              have hid : s.L[k].id = s.L[q].id := Classical.not_not.1 h3
              apply Classical.byContradiction
              intro hne
              rcases Nat.lt_or_gt_of_ne hne with h | h
              · have := List.pairwise_iff_getElem.1 hs.rise k q hkl q1 h
                omega
              · have := List.pairwise_iff_getElem.1 hs.rise q k q1 hkl h
                omega
            have hx2 : GX s u q t (k + 1) := by
              subst hkq
              exact hx.skip
            exact ⟨⟨k + 1, u, X, rfl, by omega, hu, hx2, hS⟩, by simp [intOf]; omega⟩
        · have hke : k = u.L.length := by omega
          subst hke
          unfold m8_17
          refine callR (by kernel_rfl) (gtick_ret (by omega) hu hS) ?_
          rintro v w ⟨rfl, X2, hS⟩
          have hu2 := tickG_ok (by omega) hu
          by_cases h11 : t < 11
          · obtain ⟨e1, e2, hx2⟩ := hx.tick h11
            rw [e1]
            rw [e2] at hS hu2
            unfold m8_18
            refine valP_ok (eq3 _ _ _ _ _) ?_
            refine valP_ok (ne4 _ _ _ _ _) ?_
            unfold m8_19
            refine cond_df (by rw [decide_eq_false (by omega : ¬ ((t + 1 : Nat) : Int) = 12)]; simp) ?_
            unfold m8_16
            refine valP_ok (add_ok _ _ _ (by omega) (by omega) _) ?_
            exact ⟨⟨t + 1, later u, X2, rfl, by omega, hu2, fun _ => hx2, fun h => by omega, hS⟩, by simp [intOf]; omega⟩
          · obtain rfl : t = 11 := by omega
            obtain ⟨e1, e2⟩ := hx.gone (by omega)
            have hg := hx.g
            have hlow : ¬ 1099511627776 ≤ u.g := by omega
            have hA : tickA u = true := by
              unfold tickA
              rw [decide_eq_false hlow, decide_eq_true (by omega)]
              rfl
            have hG : tickG u = gturned { later u with L := stays u } := by
              unfold tickG
              rw [if_neg (by omega)]
            rw [hA]
            rw [hG] at hS hu2
            unfold m8_18
            refine valP_ok (eq3 _ _ _ _ _) ?_
            refine valP_ok (ne4 _ _ _ _ _) ?_
            unfold m8_19
            refine cond_df (by simp) ?_
            unfold m8_16
            refine valP_ok (add_ok _ _ _ (by omega) (by omega) _) ?_
            refine ⟨⟨12, _, X2, rfl, by omega, hu2, fun h => by omega, fun _ => ⟨?_, fun hm => ?_⟩, hS⟩, by simp [intOf] <;> omega⟩
            · show (stays u).length = _
              omega
            · obtain ⟨m, hm, e3⟩ := List.mem_map.1 hm
              obtain ⟨j, hj, hne, rfl⟩ := e2 m hm
              have hjs : j < s.L.length := by omega
              rw [hx.id hjs hj] at e3
              rcases Nat.lt_or_gt_of_ne hne with h | h
              · have := List.pairwise_iff_getElem.1 hs.rise j q hjs q1 h
                omega
              · have := List.pairwise_iff_getElem.1 hs.rise q j q1 hjs h
                omega
      · obtain rfl : t = 12 := by omega
        obtain ⟨hl1, hn1⟩ := hend rfl
        have hlu := hu.len
        unfold m8_10
        refine callR (by kernel_rfl) (gmembers_ret (by omega) hS) ?_
        rintro v w ⟨A3, c3, rfl, hS⟩
        refine callR (by kernel_rfl) (gids_ret (by omega) hS (Bes.of_row 0 rfl)) ?_
        rintro v w ⟨A4, c4, rfl, hS⟩
        have e5 : ((idsL u.L).length : Int) = (s.L.length : Int) - 1 := by rw [List.length_map]; omega
        unfold m8_11
        refine builtin_ok (len28 _) ?_
        refine builtin_ok (len66 _) ?_
        refine valP_ok (sub_ok _ _ _ (by omega) (by omega) _) ?_
        refine valP_ok (eq3 _ _ _ _ _) ?_
        refine cond_dt e5 ?_
        refine callR (by kernel_rfl) (count_ret _ _ (idsL u.L) s.L[q].id w (hS.row_rd 0 rfl) (by simp; omega)) ?_
        rintro v w ⟨rfl, rfl⟩
        have ht0 : tm (idsL u.L) s.L[q].id = 0 := by
          unfold tm
          rw [List.count_eq_zero.2 hn1]
          rfl
        refine valP_ok (eq3 _ _ _ _ _) ?_
        refine pick_dt e5 ?_
        refine cond_dt ht0 ?_
        refine callR (by kernel_rfl) (gawake_ret hS) ?_
        rintro v w ⟨rfl, hS⟩
        refine pick_dt ht0 ?_
        unfold m8_12
        exact ⟨rfl, hS.below⟩

end Go.Proofs.Ytjjmlopmemmobaa.M
