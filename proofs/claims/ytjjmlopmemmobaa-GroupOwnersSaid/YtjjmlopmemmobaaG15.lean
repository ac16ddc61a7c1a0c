/- Whoever is no member, or is of an elder generation, or has not the partition, may not do anything. -/
import Derived.Test.YtjjmlopmemmobaaG14
import Derived.Test.YtjjmlopmemmobaaMgd0
namespace Go.Proofs.Ytjjmlopmemmobaa.M
open Go.Proofs.Ytjjmlopmemmobaa.F Go.RowKit
set_option linter.unusedVariables false
set_option linter.unusedSimpArgs false
set_option maxRecDepth 100000
set_option maxHeartbeats 2000000
attribute [local irreducible] Res.cells Res.row Res.map Res.any World.cell? World.frozen? Instr.fieldAt Instr.loadAt Instr.storeAt Instr.indexAt Instr.lookup Instr.mapUpdate Instr.box Instr.build Instr.buildSlice Instr.extract Instr.alloc Instr.field Instr.index Instr.sliceAt Instr.makeSlice Instr.makeMap Instr.makeFunc binS Op.unary Sem.run
open Go.Proofs.Ytjjmlopmemmobaa.L Go.Shelf
theorem atL_count {id : Int} {l : List Mem} : tm (idsL l) id = 0 ↔ atL l id = none := by
  constructor
  · intro h
    refine atL_none fun m hm e => ?_
    unfold tm at h
    have : 0 < (idsL l).count id := List.count_pos_iff.2 (List.mem_map.2 ⟨m, hm, e⟩)
    omega
  · intro h
    have := atL_no h
    unfold tm
    have : (idsL l).count id = 0 := List.count_eq_zero.2 fun hm => by
      obtain ⟨m, hm, e⟩ := List.mem_map.1 hm
      exact this m hm e
    omega
theorem gfences_ret {w0 : World} {A : Option Addr} {c : Nat} {l : List Gd} {st : Bool} {id gen part : Int} (hp : -9223372036854775808 ≤ part ∧ part ≤ 9223372036854775807) (hl : Rd w0 5 A l.length (l.flatMap encG)) (hc : l.length ≤ c) (hok : ∀ x ∈ l, DG x) :
    Ret Try.prog 11 #[.bool st, .slice A l.length c, .int .i64 id, .int .i64 gen, .int .i64 part] w0 fun v w' => v = .bool true ∧ Below w0.heap.size w0 w' := by
  have hS := St.start w0
  refine s11 _ _ _ _ _ ?_
  unfold m11 m11_0
  unfold m11_1
  refine callR (by kernel_rfl) (gnew_ret (parts := 4) (gen := 0) (next := 1) (sticky := st) hS) ?_
  clear hS
  intro v w hv
  rw [if_neg (by unfold newBad; omega)] at hv
  obtain ⟨b, X, rfl, hS⟩ := hv
  refine valP_ok (extract_ok _ 0 rfl _) ?_
  refine valP_ok (extract_ok _ 1 rfl _) ?_
  unfold m11_2
  refine valP_ok (ne26 _ _ _ _ _) ?_
  refine cond_df (by decide) ?_
  first | refine valP_ok (eq59n _ _ _) ?_ | refine valP_ok (eq59s _ _ _ _) ?_
  first | refine pick_dt (by first | assumption | omega) ?_ | refine pick_df (by first | assumption | omega) ?_ | refine pick_t (by first | rfl | assumption) ?_ | refine pick_f (by first | rfl | assumption) ?_ | refine pick_dt rfl ?_ | refine pick_df (not_not_intro rfl) ?_
  unfold m11_20
  refine cond_f rfl ?_
  unfold m11_3
  refine callR (by kernel_rfl) (gsome_ret hc) ?_
  rintro v w ⟨rfl, rfl⟩
  have hl2 := rdG_take 120 hl
  have hok2 : ∀ x ∈ l.take 120, DG x := fun x hx => hok x (List.mem_of_mem_take hx)
  have hll : (l.take 120).length ≤ 120 := by rw [List.length_take]; omega
  generalize l.take 120 = ls at *
  unfold m11_4 m11_15
  refine loop_in (fun u w' => ∃ (i : Nat) (s : GS) (X : GA), u = .int .i64 i ∧ i ≤ ls.length ∧ GOk i s ∧ St w0 [] w' (grpL 103 b s X ++ [])) (fun u _ => ls.length - (intOf u).toNat) ⟨0, _, X, rfl, by omega, newS_ok st (by unfold newBad; omega), hS⟩ ?_
  clear hS
  rintro u w ⟨i, s, X, rfl, hi, hs, hS⟩
  unfold m11_16
  refine builtin_ok (len58 _) ?_
  refine valP_ok (lss_ok _ _ _ _ _ _ _) ?_
  unfold m11_19
  refine cond_split (fun h => ?_) (fun h => ?_)
  · have hlt : i < ls.length := by omega
    have hr := hl2.old0 hS
    obtain ⟨g, o, rfl⟩ := hr.some_ (by omega) (by omega)
    have h0 := hr.struct encG_len hlt (j := 0) (by omega) rfl
    have h1 := hr.struct encG_len hlt (j := 1) (by omega) rfl
    have h2 := hr.struct encG_len hlt (j := 2) (by omega) rfl
    have h3 := hr.struct encG_len hlt (j := 3) (by omega) rfl
    have h4 := hr.struct encG_len hlt (j := 4) (by omega) rfl
    rw [Nat.add_zero] at h0
    unfold m11_17
    refine valP_ok (ix58 hlt _) ?_
    refine valP_ok (ld65 h0 h1 h2 h3 h4) ?_
    refine callR (by kernel_rfl) (gdoes_ret (by omega) (hok2 _ (List.getElem_mem hlt)) hs hS) ?_
    rintro v w ⟨X2, hS⟩
    unfold m11_18
    refine valP_ok (add_ok _ _ _ (by omega) (by omega) _) ?_
    exact ⟨⟨i + 1, _, X2, rfl, by omega, doG_ok (by omega) hs _, hS⟩, by simp [intOf]; omega⟩
  have hs := hs.le (T' := 120) (by omega)
  have hlen := hs.len
  have hol := hs.olen
  have hpp := hs.parts
  clear hi h
  unfold m11_5
  refine callR (by kernel_rfl) (gmembers_ret (by omega) hS) ?_
  rintro v w ⟨A1, c1, rfl, hS⟩
  refine callR (by kernel_rfl) (gids_ret (by omega) hS (Bes.of_row 0 rfl)) ?_
  rintro v w ⟨A2, c2, rfl, hS⟩
  refine callR (by kernel_rfl) (count_ret _ _ (idsL s.L) id w (hS.row_rd 0 rfl) (by simp; omega)) ?_
  rintro v w ⟨rfl, rfl⟩
  refine valP_ok (eq3 _ _ _ _ _) ?_
  have hS := hS.tail.tail
  unfold m11_13
  refine cond_split (fun h => ?_) (fun h => ?_)
  · have ha := atL_count.1 h
    refine callR (by kernel_rfl) (gmay_ret (by omega) hs hS) ?_
    rintro v w ⟨rfl, rfl⟩
    rw [show mayA s id gen part = 11 from by unfold mayA; rw [ha]]
    refine valP_ok (eq26 _ _ _ _ _) ?_
    refine cond_dt rfl ?_
    refine callR (by kernel_rfl) (gbeat_ret (by omega) hs hS) ?_
    rintro v w ⟨rfl, hS⟩
    rw [show beatA s id gen = 11 from by unfold beatA; rw [ha]]
    rw [show beatG s id gen = s from by unfold beatG; rw [ha]] at hS
    refine valP_ok (eq26 _ _ _ _ _) ?_
    first | refine pick_dt (by first | assumption | omega) ?_ | refine pick_df (by first | assumption | omega) ?_ | refine pick_t (by first | rfl | assumption) ?_ | refine pick_f (by first | rfl | assumption) ?_ | refine pick_dt rfl ?_ | refine pick_df (not_not_intro rfl) ?_
    refine cond_dt rfl ?_
    refine callR (by kernel_rfl) (gleave_ret (by omega) hs hS) ?_
    rintro v w ⟨rfl, X3, hS⟩
    rw [show leaveA s id = 11 from by unfold leaveA; rw [ha]]
    refine valP_ok (eq26 _ _ _ _ _) ?_
    first | refine pick_dt (by first | assumption | omega) ?_ | refine pick_df (by first | assumption | omega) ?_ | refine pick_t (by first | rfl | assumption) ?_ | refine pick_f (by first | rfl | assumption) ?_ | refine pick_dt rfl ?_ | refine pick_df (not_not_intro rfl) ?_
    refine cond_dt rfl ?_
    refine callR (by kernel_rfl) (gawake_ret hS) ?_
    rintro v w ⟨rfl, hS⟩
    refine pick_dt rfl ?_
    unfold m11_14
    exact ⟨rfl, hS.below⟩
  obtain ⟨j, ha⟩ : ∃ j, atL s.L id = some j := by
    cases ha : atL s.L id with
    | none => exact absurd (atL_count.2 ha) h
    | some j => exact ⟨j, rfl⟩
  unfold m11_6
  refine callR (by kernel_rfl) (ggen_ret hS) ?_
  rintro v w ⟨rfl, rfl⟩
  refine valP_ok (ne3 _ _ _ _ _) ?_
  unfold m11_11
  refine cond_split (fun hg => ?_) (fun hg => ?_)
  · refine callR (by kernel_rfl) (gmay_ret (by omega) hs hS) ?_
    rintro v w ⟨rfl, rfl⟩
    rw [show mayA s id gen part = 12 from by unfold mayA; rw [ha]; exact if_pos hg]
    refine valP_ok (eq26 _ _ _ _ _) ?_
    refine cond_dt rfl ?_
    refine callR (by kernel_rfl) (gbeat_ret (by omega) hs hS) ?_
    rintro v w ⟨rfl, hS⟩
    rw [show beatA s id gen = 12 from by unfold beatA; rw [ha]; exact if_pos hg]
    refine valP_ok (eq26 _ _ _ _ _) ?_
    first | refine pick_dt (by first | assumption | omega) ?_ | refine pick_df (by first | assumption | omega) ?_ | refine pick_t (by first | rfl | assumption) ?_ | refine pick_f (by first | rfl | assumption) ?_ | refine pick_dt rfl ?_ | refine pick_df (not_not_intro rfl) ?_
    refine cond_dt rfl ?_
    refine callR (by kernel_rfl) (gawake_ret hS) ?_
    rintro v w ⟨rfl, hS⟩
    refine pick_dt rfl ?_
    unfold m11_12
    exact ⟨rfl, hS.below⟩
  unfold m11_7
  refine callR (by kernel_rfl) (gowners_ret (by omega) hS) ?_
  rintro v w ⟨A3, c3, rfl, hS⟩
  have fin : ∀ (own : Bool), mayA s id gen part = (if own then 0 else 13) → m11_9 (fun v w' => v = .bool true ∧ Below w0.heap.size w0 w') (.int .i64 id) (.int .i64 gen) (.int .i64 part) (.pointer (some ⟨b, 0, none⟩)) (.bool own) w := fun own hm => by
    have hS := hS.tail
    unfold m11_9
    refine callR (by kernel_rfl) (gmay_ret (by omega) hs hS) ?_
    rintro v w ⟨rfl, rfl⟩
    rw [hm]
    have hb : beatA s id gen = 0 := by unfold beatA; rw [ha]; exact if_neg hg
    cases own with
    | true =>
      refine valP_ok (eq26 _ _ _ _ _) ?_
      refine valP_ok (eq4 _ _ _ _ _) ?_
      refine cond_t rfl ?_
      refine cond_t rfl ?_
      first | refine pick_dt (by first | assumption | omega) ?_ | refine pick_df (by first | assumption | omega) ?_ | refine pick_t (by first | rfl | assumption) ?_ | refine pick_f (by first | rfl | assumption) ?_ | refine pick_dt rfl ?_ | refine pick_df (not_not_intro rfl) ?_
      first | refine pick_dt (by first | assumption | omega) ?_ | refine pick_df (by first | assumption | omega) ?_ | refine pick_t (by first | rfl | assumption) ?_ | refine pick_f (by first | rfl | assumption) ?_ | refine pick_dt rfl ?_ | refine pick_df (not_not_intro rfl) ?_
      refine callR (by kernel_rfl) (gbeat_ret (by omega) hs hS) ?_
      rintro v w ⟨rfl, hS⟩
      rw [hb]
      refine valP_ok (eq26 _ _ _ _ _) ?_
      first | refine pick_dt (by first | assumption | omega) ?_ | refine pick_df (by first | assumption | omega) ?_ | refine pick_t (by first | rfl | assumption) ?_ | refine pick_f (by first | rfl | assumption) ?_ | refine pick_dt rfl ?_ | refine pick_df (not_not_intro rfl) ?_
      refine cond_dt rfl ?_
      refine callR (by kernel_rfl) (gawake_ret hS) ?_
      rintro v w ⟨rfl, hS⟩
      refine pick_dt rfl ?_
      unfold m11_10
      exact ⟨rfl, hS.below⟩
    | false =>
      refine valP_ok (eq26 _ _ _ _ _) ?_
      refine valP_ok (eq4 _ _ _ _ _) ?_
      refine cond_t rfl ?_
      refine cond_f rfl ?_
      refine callR (by kernel_rfl) (gmay_ret (by omega) hs hS) ?_
      rintro v w ⟨rfl, rfl⟩
      rw [hm]
      refine valP_ok (eq26 _ _ _ _ _) ?_
      first | refine pick_dt (by first | assumption | omega) ?_ | refine pick_df (by first | assumption | omega) ?_ | refine pick_t (by first | rfl | assumption) ?_ | refine pick_f (by first | rfl | assumption) ?_ | refine pick_dt rfl ?_ | refine pick_df (not_not_intro rfl) ?_
      first | refine pick_dt (by first | assumption | omega) ?_ | refine pick_df (by first | assumption | omega) ?_ | refine pick_t (by first | rfl | assumption) ?_ | refine pick_f (by first | rfl | assumption) ?_ | refine pick_dt rfl ?_ | refine pick_df (not_not_intro rfl) ?_
      refine cond_dt rfl ?_
      refine callR (by kernel_rfl) (gbeat_ret (by omega) hs hS) ?_
      rintro v w ⟨rfl, hS⟩
      rw [hb]
      refine valP_ok (eq26 _ _ _ _ _) ?_
      first | refine pick_dt (by first | assumption | omega) ?_ | refine pick_df (by first | assumption | omega) ?_ | refine pick_t (by first | rfl | assumption) ?_ | refine pick_f (by first | rfl | assumption) ?_ | refine pick_dt rfl ?_ | refine pick_df (not_not_intro rfl) ?_
      refine cond_dt rfl ?_
      refine callR (by kernel_rfl) (gawake_ret hS) ?_
      rintro v w ⟨rfl, hS⟩
      refine pick_dt rfl ?_
      unfold m11_10
      exact ⟨rfl, hS.below⟩
  have hmay : mayA s id gen part = if part < 0 ∨ part ≥ s.parts ∨ s.O[part.toNat]? ≠ some id then 13 else 0 := by unfold mayA; rw [ha]; exact if_neg hg
  unfold m11_8
  refine valP_ok (geq_ok _ _ _ _ _ _ _) ?_
  refine cond_split (fun h1 => ?_) (fun h1 => ?_)
  · refine builtin_ok (len28 _) ?_
    refine valP_ok (lss_ok _ _ _ _ _ _ _) ?_
    first | refine pick_dt (by first | assumption | omega) ?_ | refine pick_df (by first | assumption | omega) ?_ | refine pick_t (by first | rfl | assumption) ?_ | refine pick_f (by first | rfl | assumption) ?_ | refine pick_dt rfl ?_ | refine pick_df (not_not_intro rfl) ?_
    refine cond_split (fun h2 => ?_) (fun h2 => ?_)
    · have hlt : part.toNat < s.O.length := by omega
      have ep : part = ((part.toNat : Nat) : Int) := by rw [Int.toNat_of_nonneg (by omega)]
      obtain ⟨g2, rfl⟩ := hS.row_ptr 0 rfl (by omega)
      have hcell : w.cell? ⟨g2, part.toNat, none⟩ = some (.int .i64 s.O[part.toNat]) := hS.row_cell 0 rfl (ints_get hlt)
      have hget : s.O[part.toNat]? = some s.O[part.toNat] := List.getElem?_eq_getElem hlt
      rw [ep]
      refine valP_ok (ixz28 hlt _) ?_
      refine valP_ok (ld3 hcell) ?_
      rw [← ep]
      refine valP_ok (eq3 _ _ _ _ _) ?_
      first | refine pick_dt (by first | assumption | omega) ?_ | refine pick_df (by first | assumption | omega) ?_ | refine pick_t (by first | rfl | assumption) ?_ | refine pick_f (by first | rfl | assumption) ?_ | refine pick_dt rfl ?_ | refine pick_df (not_not_intro rfl) ?_
      refine fin _ ?_
      rw [hmay, hget]
      by_cases e : s.O[part.toNat] = id
      · rw [if_neg (by intro hh; rcases hh with hh | hh | hh; omega; omega; exact hh (by rw [e])), decide_eq_true e]
        rfl
      · rw [if_pos (.inr (.inr fun hh => e (by injection hh))), decide_eq_false e]
        rfl
    · first | refine pick_dt (by first | assumption | omega) ?_ | refine pick_df (by first | assumption | omega) ?_ | refine pick_t (by first | rfl | assumption) ?_ | refine pick_f (by first | rfl | assumption) ?_ | refine pick_dt rfl ?_ | refine pick_df (not_not_intro rfl) ?_
      refine fin false ?_
      rw [hmay, if_pos (.inr (.inl (by omega)))]
      rfl
  · first | refine pick_dt (by first | assumption | omega) ?_ | refine pick_df (by first | assumption | omega) ?_ | refine pick_t (by first | rfl | assumption) ?_ | refine pick_f (by first | rfl | assumption) ?_ | refine pick_dt rfl ?_ | refine pick_df (not_not_intro rfl) ?_
    refine cond_f rfl ?_
    first | refine pick_dt (by first | assumption | omega) ?_ | refine pick_df (by first | assumption | omega) ?_ | refine pick_t (by first | rfl | assumption) ?_ | refine pick_f (by first | rfl | assumption) ?_ | refine pick_dt rfl ?_ | refine pick_df (not_not_intro rfl) ?_
    refine fin false ?_
    rw [hmay, if_pos (.inl (by omega))]
    rfl

end Go.Proofs.Ytjjmlopmemmobaa.M
