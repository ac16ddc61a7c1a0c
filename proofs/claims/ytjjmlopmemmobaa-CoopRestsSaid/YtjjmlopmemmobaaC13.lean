/- What is done of a deed; a deed aimed. -/
import Derived.Test.YtjjmlopmemmobaaC12
namespace Go.Proofs.Ytjjmlopmemmobaa.M
open Go.Proofs.Ytjjmlopmemmobaa.F Go.RowKit
set_option linter.unusedVariables false
set_option linter.unusedSimpArgs false
set_option maxRecDepth 100000
set_option maxHeartbeats 2000000
attribute [local irreducible] Res.cells Res.row Res.map Res.any World.cell? World.frozen? Instr.fieldAt Instr.loadAt Instr.storeAt Instr.indexAt Instr.lookup Instr.mapUpdate Instr.box Instr.build Instr.buildSlice Instr.extract Instr.alloc Instr.field Instr.index Instr.sliceAt Instr.makeSlice Instr.makeMap Instr.makeFunc binS Op.unary Sem.run
open Go.Proofs.Ytjjmlopmemmobaa.L Go.Shelf
def deedS (s : CS) (x : Dd) : Int × CS :=
  if x.k = 0 ∨ x.k = 1 then joinS s x.l else if x.k = 2 then leaveS s x.a else if x.k = 3 then (if x.a ∈ s.M then 0 else 11, s) else doneS s x.a x.p
theorem does_ret {w0 w : World} {L : List Res} {b : Nat} {s : CS} {X : CA} {x : Dd} (hs : CPre s) (hx : DOk w0 x) (hl : x.l.length ≤ 1000) (hS : St w0 [] w (coopL 94 b s X ++ L)) :
    Ret Try.prog 16 #[.pointer (some ⟨b, 0, none⟩), .agg (encD x).toArray] w (joinQ w0 [] L b (deedS s x)) := by
  refine s16 _ _ ?_
  unfold m16
  unfold m16_0
  refine new_ok (bx30 _ _ _ _ _ _) hS ?_
  intro b3 w hS
  have hS : St w0 [] w (coopL 94 b s X ++ Res.cells b3 30 [.int .i64 x.k, .int .i64 x.a, .int .i64 x.p, .bool x.near, .slice x.A x.l.length x.c] :: L) := hS.pick 5 [1, 2, 3, 4, 0] (by simp) (by decide)
  have back : ∀ {r : Int × CS} {v : Value} {w : World}, joinQ w0 [] (Res.cells b3 30 [.int .i64 x.k, .int .i64 x.a, .int .i64 x.p, .bool x.near, .slice x.A x.l.length x.c] :: L) b r v w → joinQ w0 [] L b r v w := fun ⟨hv, X', hS⟩ => ⟨hv, X', hS.pick 5 [0, 1, 2, 3] (by simp) (by decide)⟩
  unfold m16_1
  first | refine valP_ok (fa30_0 _ _) ?_ | refine valP_ok (fao30_0 _ _ _) ?_
  first | refine valP_ok (ld3 (hS.cell 0 rfl rfl)) ?_ | refine valP_ok (ld3 (hS.cell 1 rfl rfl)) ?_ | refine valP_ok (ld3 (hS.cell 2 rfl rfl)) ?_ | refine valP_ok (ld3 (hS.cell 3 rfl rfl)) ?_ | refine valP_ok (ld3 (hS.cell 4 rfl rfl)) ?_ | refine valP_ok (ld3 (by assumption)) ?_
  unfold m16_4
  refine valP_ok (eq3 _ _ _ _ _) ?_
  unfold deedS
  have join : ∀ t : Value, t = .bool true → (x.k = 0 ∨ x.k = 1) → m16_5 (joinQ w0 [] L b (if x.k = 0 ∨ x.k = 1 then joinS s x.l else if x.k = 2 then leaveS s x.a else if x.k = 3 then (if x.a ∈ s.M then 0 else 11, s) else doneS s x.a x.p)) (.pointer (some ⟨b, 0, none⟩)) (.pointer (some ⟨b3, 0, none⟩)) (.int .i64 x.k) t w := fun t ht hk => by
    subst ht
    rw [if_pos hk]
    unfold m16_5
    refine cond_t rfl ?_
    first | refine valP_ok (fa30_4 _ _) ?_ | refine valP_ok (fao30_4 _ _ _) ?_
    first | refine valP_ok (ld28 (hS.cell 0 rfl rfl)) ?_ | refine valP_ok (ld28 (hS.cell 1 rfl rfl)) ?_ | refine valP_ok (ld28 (hS.cell 2 rfl rfl)) ?_ | refine valP_ok (ld28 (hS.cell 3 rfl rfl)) ?_ | refine valP_ok (ld28 (hS.cell 4 rfl rfl)) ?_ | refine valP_ok (ld28 (by assumption)) ?_
    refine callR (by kernel_rfl) (join_ret hs hl hS (Bes.of_old0 hx.rd)) ?_
    intro v w hq
    unfold m16_6
    exact back hq
  unfold m16_12
  refine cond_split (fun h0 => ?_) (fun h0 => ?_)
  · rw [decide_eq_true h0]
    exact join _ rfl (.inl h0)
  refine valP_ok (eq3 _ _ _ _ _) ?_
  by_cases h1 : x.k = 1
  · exact join _ (by rw [decide_eq_true h1]) (.inr h1)
  rw [if_neg (by omega)]
  unfold m16_5
  refine cond_df h1 ?_
  refine valP_ok (eq3 _ _ _ _ _) ?_
  unfold m16_7
  refine cond_split (fun h2 => ?_) (fun h2 => ?_)
  · rw [if_pos h2]
    first | refine valP_ok (fa30_1 _ _) ?_ | refine valP_ok (fao30_1 _ _ _) ?_
    first | refine valP_ok (ld3 (hS.cell 0 rfl rfl)) ?_ | refine valP_ok (ld3 (hS.cell 1 rfl rfl)) ?_ | refine valP_ok (ld3 (hS.cell 2 rfl rfl)) ?_ | refine valP_ok (ld3 (hS.cell 3 rfl rfl)) ?_ | refine valP_ok (ld3 (hS.cell 4 rfl rfl)) ?_ | refine valP_ok (ld3 (by assumption)) ?_
    refine callR (by kernel_rfl) (leave_ret x.a hs hS) ?_
    intro v w hq
    unfold m16_8
    exact back hq
  rw [if_neg h2]
  refine valP_ok (eq3 _ _ _ _ _) ?_
  unfold m16_9
  refine cond_split (fun h3 => ?_) (fun h3 => ?_)
  · rw [if_pos h3]
    first | refine valP_ok (fa30_1 _ _) ?_ | refine valP_ok (fao30_1 _ _ _) ?_
    first | refine valP_ok (ld3 (hS.cell 0 rfl rfl)) ?_ | refine valP_ok (ld3 (hS.cell 1 rfl rfl)) ?_ | refine valP_ok (ld3 (hS.cell 2 rfl rfl)) ?_ | refine valP_ok (ld3 (hS.cell 3 rfl rfl)) ?_ | refine valP_ok (ld3 (hS.cell 4 rfl rfl)) ?_ | refine valP_ok (ld3 (by assumption)) ?_
    refine callR (by kernel_rfl) (revoke_ret x.a hs hS) ?_
    rintro v w ⟨A, c, rfl, hS⟩
    refine valP_ok (extract_ok _ 0 rfl _) ?_
    refine valP_ok (extract_ok _ 1 rfl _) ?_
    unfold m16_10 m16_11
    exact back ⟨rfl, X, hS.tail⟩
  · rw [if_neg h3]
    unfold m16_2
    first | refine valP_ok (fa30_1 _ _) ?_ | refine valP_ok (fao30_1 _ _ _) ?_
    first | refine valP_ok (ld3 (hS.cell 0 rfl rfl)) ?_ | refine valP_ok (ld3 (hS.cell 1 rfl rfl)) ?_ | refine valP_ok (ld3 (hS.cell 2 rfl rfl)) ?_ | refine valP_ok (ld3 (hS.cell 3 rfl rfl)) ?_ | refine valP_ok (ld3 (hS.cell 4 rfl rfl)) ?_ | refine valP_ok (ld3 (by assumption)) ?_
    first | refine valP_ok (fa30_2 _ _) ?_ | refine valP_ok (fao30_2 _ _ _) ?_
    first | refine valP_ok (ld3 (hS.cell 0 rfl rfl)) ?_ | refine valP_ok (ld3 (hS.cell 1 rfl rfl)) ?_ | refine valP_ok (ld3 (hS.cell 2 rfl rfl)) ?_ | refine valP_ok (ld3 (hS.cell 3 rfl rfl)) ?_ | refine valP_ok (ld3 (hS.cell 4 rfl rfl)) ?_ | refine valP_ok (ld3 (by assumption)) ?_
    refine callR (by kernel_rfl) (done_ret x.a x.p hs hS) ?_
    intro v w hq
    unfold m16_3
    exact back hq
/-- One of these, whatever the number is. -/
def oneOf (a : Int) (l : List Int) : Int := l[((a.tmod l.length + l.length) % l.length).toNat]!
def aimP (s : CS) (x : Dd) : Dd := if 0 < (revL s x.a).length then { x with p := oneOf x.p (revL s x.a) } else x
def aimD (s : CS) (x : Dd) : Dd := if x.near = false ∨ s.M.length = 0 ∨ x.k < 2 then x else aimP s { x with a := oneOf x.a s.M }
theorem oneOf_ix {a : Int} {l : List Int} (hl : 0 < l.length) : ∃ i : Nat, i < l.length ∧ (a.tmod l.length + l.length) % l.length = i ∧ 0 ≤ a.tmod l.length + l.length ∧ a.tmod l.length + l.length < 2 * l.length ∧ oneOf a l = l[i]! := by
  have h := tmod_bounds a (b := l.length) (by omega)
  have h1 := Int.emod_nonneg (a.tmod l.length + l.length) (b := l.length) (by omega)
  have h2 := Int.emod_lt_of_pos (a.tmod l.length + l.length) (b := l.length) (by omega)
  refine ⟨((a.tmod l.length + l.length) % l.length).toNat, by omega, by omega, by omega, by omega, rfl⟩
theorem oneOf_mem {a : Int} {l : List Int} (hl : 0 < l.length) : oneOf a l ∈ l := by
  obtain ⟨i, hi, _, _, _, e⟩ := oneOf_ix (a := a) hl
  rw [e, getElem!_pos l i hi]
  exact List.getElem_mem hi
theorem revN_bound {H W : List Int} {m : Int} : ∀ p, ∀ x ∈ revN H W m p, 0 ≤ x ∧ x < p
  | 0, x, hx => by simp [revN] at hx
  | p + 1, x, hx => by
    unfold revN at hx
    have ih := revN_bound (H := H) (W := W) (m := m) p x
    split at hx
    · rcases List.mem_append.1 hx with hx | hx
      · have := ih hx; omega
      · have := List.mem_singleton.1 hx; omega
    · have := ih hx; omega
theorem revL_bound {s : CS} {m : Int} : ∀ x ∈ revL s m, 0 ≤ x ∧ x < s.H.length := fun x hx => by
  unfold revL at hx
  split at hx
  · exact revN_bound _ _ hx
  · cases hx
theorem aimD_ok {w0 : World} {s : CS} {x : Dd} (hs : CPre s) (hx : DOk w0 x) : DOk w0 (aimD s x) ∧ (aimD s x).l = x.l := by
  unfold aimD
  split
  · exact ⟨hx, rfl⟩
  · rename_i h
    have h1 : DOk w0 { x with a := oneOf x.a s.M } := ⟨hx.k, hs.bM _ (oneOf_mem (by omega)), hx.p, hx.rd, hx.cap, hx.nil, hx.each⟩
    unfold aimP
    split
    · rename_i h2
      refine ⟨⟨h1.k, h1.a, ?_, h1.rd, h1.cap, h1.nil, h1.each⟩, rfl⟩
      have := revL_bound _ (oneOf_mem (a := x.p) h2)
      have := hs.parts
      simp only at *
      omega
    · exact ⟨h1, rfl⟩
theorem lenI (l : List Int) : (l.length : Int) ≤ 9223372036854775807 → (l.length : Int) = l.length := fun _ => rfl
theorem aimed_ret {w0 w : World} {L : List Res} {b : Nat} {s : CS} {X : CA} {x : Dd} (hs : CPre s) (hx : DOk w0 x) (hS : St w0 [] w (coopL 94 b s X ++ L)) :
    Ret Try.prog 17 #[.agg (encD x).toArray, .pointer (some ⟨b, 0, none⟩)] w fun v w' => v = .agg (encD (aimD s x)).toArray ∧ St w0 [] w' (coopL 94 b s X ++ L) := by
  have hM8 := hs.len
  have hpp := hs.parts
  refine s17 _ _ ?_
  unfold m17
  unfold m17_0
  refine new_ok (bx30 _ _ _ _ _ _) hS ?_
  intro b2 w hS
  refine new_ok (al30 _) hS ?_
  intro b4 w hS
  have hS : St w0 [] w (coopL 94 b s X ++ Res.cells b2 30 [.int .i64 x.k, .int .i64 x.a, .int .i64 x.p, .bool x.near, .slice x.A x.l.length x.c] :: Res.cells b4 30 [.int .i64 0, .int .i64 0, .int .i64 0, .bool false, .slice none 0 0] :: L) := hS.pick 6 [2, 3, 4, 5, 1, 0] (by simp) (by decide)
  unfold m17_1
  refine callR (by kernel_rfl) (members_clone (by omega) hS) ?_
  rintro v w ⟨A, c, rfl, hS⟩
  have hS : St w0 [] w (Res.cells b2 30 [.int .i64 x.k, .int .i64 x.a, .int .i64 x.p, .bool x.near, .slice x.A x.l.length x.c] :: Res.cells b4 30 [.int .i64 0, .int .i64 0, .int .i64 0, .bool false, .slice none 0 0] :: irow (.slice A s.M.length c) s.M :: (coopL 94 b s X ++ L)) := hS.pick 7 [5, 6, 0, 1, 2, 3, 4] (by simp) (by decide)
  have h9 : ∀ t : Bool, (t = true ↔ (x.near = false ∨ s.M.length = 0 ∨ x.k < 2)) → m17_9 (fun v w' => v = .agg (encD (aimD s x)).toArray ∧ St w0 [] w' (coopL 94 b s X ++ L)) (.pointer (some ⟨b, 0, none⟩)) (.pointer (some ⟨b2, 0, none⟩)) (.pointer (some ⟨b4, 0, none⟩)) (.slice A s.M.length c) (.bool t) w := fun t ht => by
    unfold m17_9
    refine cond_bsplit (fun h => ?_) (fun h => ?_)
    · have e : aimD s x = x := by unfold aimD; rw [if_pos (ht.1 h)]
      rw [e]
      first | refine ls30 0 hS rfl ?_ | refine ls30 1 hS rfl ?_ | refine ls30 2 hS rfl ?_ | refine ls30 3 hS rfl ?_ | refine ls30 4 hS rfl ?_ | refine valP_ok (ld30 (by assumption) (by assumption) (by assumption) (by assumption) (by assumption)) ?_
      first | refine ss30 0 hS rfl rfl rfl rfl rfl rfl ?_ | refine ss30 1 hS rfl rfl rfl rfl rfl rfl ?_ | refine ss30 2 hS rfl rfl rfl rfl rfl rfl ?_ | refine ss30 3 hS rfl rfl rfl rfl rfl rfl ?_ | refine ss30 4 hS rfl rfl rfl rfl rfl rfl ?_
      intro w hS
      simp only [List.set_cons_zero, List.set_cons_succ] at hS
      unfold m17_10
      refine valS_ok (lc30 (hS.cell 1 rfl rfl) (hS.cell 1 rfl rfl) (hS.cell 1 rfl rfl) (hS.cell 1 rfl rfl) (hS.cell 1 rfl rfl)) ?_
      exact ⟨rfl, hS.pick 7 [3, 4, 5, 6] (by simp) (by decide)⟩
    have hn : ¬ (x.near = false ∨ s.M.length = 0 ∨ x.k < 2) := fun hh => by rw [ht.2 hh] at h; cases h
    have hML : 0 < s.M.length := by omega
    have e : aimD s x = aimP s { x with a := oneOf x.a s.M } := by unfold aimD; rw [if_neg hn]
    obtain ⟨i, hi, he, h1, h2, h3⟩ := oneOf_ix (a := x.a) hML
    obtain ⟨g, rfl⟩ := hS.row_ptr 2 rfl (by omega)
    have hxa := hx.a
    have hxp := hx.p
    unfold m17_3
    first | refine valP_ok (fa30_1 _ _) ?_ | refine valP_ok (fao30_1 _ _ _) ?_
    first | refine valP_ok (ld3 (hS.cell 0 rfl rfl)) ?_ | refine valP_ok (ld3 (hS.cell 1 rfl rfl)) ?_ | refine valP_ok (ld3 (hS.cell 2 rfl rfl)) ?_ | refine valP_ok (ld3 (hS.cell 3 rfl rfl)) ?_ | refine valP_ok (ld3 (hS.cell 4 rfl rfl)) ?_ | refine valP_ok (ld3 (by assumption)) ?_
    refine builtin_ok (len28 _) ?_
    refine valP_ok (rem_any _ _ _ hxa.1 hxa.2 (by omega) (by omega) _) ?_
    refine builtin_ok (len28 _) ?_
    refine valP_ok (add_ok _ _ _ (by omega) (by omega) _) ?_
    refine builtin_ok (len28 _) ?_
    refine valP_ok (rem_ok _ _ _ h1 (by omega) (by omega) _) ?_
    rw [he]
    have hc := hS.row_cell 2 rfl (ints_get hi)
    first | refine valP_ok (ixz28 (by first | assumption | omega) _) ?_ | refine valP_ok (ix28 (by first | assumption | omega) _) ?_
    first | refine valP_ok (ld3 (hS.cell 0 rfl rfl)) ?_ | refine valP_ok (ld3 (hS.cell 1 rfl rfl)) ?_ | refine valP_ok (ld3 (hS.cell 2 rfl rfl)) ?_ | refine valP_ok (ld3 (hS.cell 3 rfl rfl)) ?_ | refine valP_ok (ld3 (hS.cell 4 rfl rfl)) ?_ | refine valP_ok (ld3 (by assumption)) ?_
    first | refine valP_ok (fa30_1 _ _) ?_ | refine valP_ok (fao30_1 _ _ _) ?_
    first | refine store_at 0 st3 hS rfl (by simp) rfl ?_ | refine store_at 1 st3 hS rfl (by simp) rfl ?_ | refine store_at 2 st3 hS rfl (by simp) rfl ?_ | refine store_at 3 st3 hS rfl (by simp) rfl ?_ | refine store_at 4 st3 hS rfl (by simp) rfl ?_
    intro w hS
    simp only [List.set_cons_zero, List.set_cons_succ] at hS
    rw [getElem!_pos s.M i hi] at h3
    rw [← h3] at hS
    rw [e]
    have ha2 : DOk w0 { x with a := oneOf x.a s.M } := ⟨hx.k, hs.bM _ (oneOf_mem (by omega)), hx.p, hx.rd, hx.cap, hx.nil, hx.each⟩
    unfold m17_4
    first | refine valP_ok (fa30_1 _ _) ?_ | refine valP_ok (fao30_1 _ _ _) ?_
    first | refine valP_ok (ld3 (hS.cell 0 rfl rfl)) ?_ | refine valP_ok (ld3 (hS.cell 1 rfl rfl)) ?_ | refine valP_ok (ld3 (hS.cell 2 rfl rfl)) ?_ | refine valP_ok (ld3 (hS.cell 3 rfl rfl)) ?_ | refine valP_ok (ld3 (hS.cell 4 rfl rfl)) ?_ | refine valP_ok (ld3 (by assumption)) ?_
    have hS : St w0 [] w (coopL 94 b s X ++ Res.cells b2 30 (encD { x with a := oneOf x.a s.M }) :: Res.cells b4 30 [.int .i64 0, .int .i64 0, .int .i64 0, .bool false, .slice none 0 0] :: irow (.slice (some ⟨g, 0, none⟩) s.M.length c) s.M :: L) := hS.pick 7 [3, 4, 5, 6, 0, 1, 2] (by simp) (by decide)
    refine callR (by kernel_rfl) (revoke_ret (oneOf x.a s.M) hs hS) ?_
    rintro v w ⟨A2, c2, rfl, hS⟩
    have hS : St w0 [] w (Res.cells b2 30 [.int .i64 x.k, .int .i64 (oneOf x.a s.M), .int .i64 x.p, .bool x.near, .slice x.A x.l.length x.c] :: Res.cells b4 30 [.int .i64 0, .int .i64 0, .int .i64 0, .bool false, .slice none 0 0] :: irow (.slice A2 (revL s (oneOf x.a s.M)).length c2) (revL s (oneOf x.a s.M)) :: irow (.slice (some ⟨g, 0, none⟩) s.M.length c) s.M :: (coopL 94 b s X ++ L)) := hS.pick 8 [5, 6, 0, 7, 1, 2, 3, 4] (by simp) (by decide)
    refine valP_ok (extract_ok _ 0 rfl _) ?_
    refine valP_ok (extract_ok _ 1 rfl _) ?_
    unfold m17_5
    refine builtin_ok (len28 _) ?_
    refine valP_ok (gtr_ok _ _ _ _ _ _ _) ?_
    unfold m17_8
    have hrl : (revL s (oneOf x.a s.M)).length ≤ 16 := by
      unfold revL
      split
      · have := revN_len s.H s.W (oneOf x.a s.M) s.H.length; omega
      · simp
    unfold aimP
    refine cond_split (fun hr => ?_) (fun hr => ?_)
    · have hr : 0 < (revL s (oneOf x.a s.M)).length := by omega
      rw [if_pos hr]
      obtain ⟨j, hj, he2, h4, h5, h6⟩ := oneOf_ix (a := x.p) hr
      obtain ⟨g2, rfl⟩ := hS.row_ptr 2 rfl hr
      first | refine valP_ok (fa30_2 _ _) ?_ | refine valP_ok (fao30_2 _ _ _) ?_
      first | refine valP_ok (ld3 (hS.cell 0 rfl rfl)) ?_ | refine valP_ok (ld3 (hS.cell 1 rfl rfl)) ?_ | refine valP_ok (ld3 (hS.cell 2 rfl rfl)) ?_ | refine valP_ok (ld3 (hS.cell 3 rfl rfl)) ?_ | refine valP_ok (ld3 (hS.cell 4 rfl rfl)) ?_ | refine valP_ok (ld3 (by assumption)) ?_
      refine builtin_ok (len28 _) ?_
      refine valP_ok (rem_any _ _ _ hxp.1 hxp.2 (by omega) (by omega) _) ?_
      refine builtin_ok (len28 _) ?_
      refine valP_ok (add_ok _ _ _ (by omega) (by omega) _) ?_
      refine builtin_ok (len28 _) ?_
      refine valP_ok (rem_ok _ _ _ h4 (by omega) (by omega) _) ?_
      rw [he2]
      have hc := hS.row_cell 2 rfl (ints_get hj)
      first | refine valP_ok (ixz28 (by first | assumption | omega) _) ?_ | refine valP_ok (ix28 (by first | assumption | omega) _) ?_
      first | refine valP_ok (ld3 (hS.cell 0 rfl rfl)) ?_ | refine valP_ok (ld3 (hS.cell 1 rfl rfl)) ?_ | refine valP_ok (ld3 (hS.cell 2 rfl rfl)) ?_ | refine valP_ok (ld3 (hS.cell 3 rfl rfl)) ?_ | refine valP_ok (ld3 (hS.cell 4 rfl rfl)) ?_ | refine valP_ok (ld3 (by assumption)) ?_
      first | refine valP_ok (fa30_2 _ _) ?_ | refine valP_ok (fao30_2 _ _ _) ?_
      first | refine store_at 0 st3 hS rfl (by simp) rfl ?_ | refine store_at 1 st3 hS rfl (by simp) rfl ?_ | refine store_at 2 st3 hS rfl (by simp) rfl ?_ | refine store_at 3 st3 hS rfl (by simp) rfl ?_ | refine store_at 4 st3 hS rfl (by simp) rfl ?_
      intro w hS
      simp only [List.set_cons_zero, List.set_cons_succ] at hS
      rw [getElem!_pos _ j hj] at h6
      rw [← h6] at hS
      unfold m17_6
      first | refine ls30 0 hS rfl ?_ | refine ls30 1 hS rfl ?_ | refine ls30 2 hS rfl ?_ | refine ls30 3 hS rfl ?_ | refine ls30 4 hS rfl ?_ | refine valP_ok (ld30 (by assumption) (by assumption) (by assumption) (by assumption) (by assumption)) ?_
      first | refine ss30 0 hS rfl rfl rfl rfl rfl rfl ?_ | refine ss30 1 hS rfl rfl rfl rfl rfl rfl ?_ | refine ss30 2 hS rfl rfl rfl rfl rfl rfl ?_ | refine ss30 3 hS rfl rfl rfl rfl rfl rfl ?_ | refine ss30 4 hS rfl rfl rfl rfl rfl rfl ?_
      intro w hS
      simp only [List.set_cons_zero, List.set_cons_succ] at hS
      unfold m17_7
      refine valS_ok (lc30 (hS.cell 1 rfl rfl) (hS.cell 1 rfl rfl) (hS.cell 1 rfl rfl) (hS.cell 1 rfl rfl) (hS.cell 1 rfl rfl)) ?_
      exact ⟨rfl, hS.pick 8 [4, 5, 6, 7] (by simp) (by decide)⟩
    · rw [if_neg (by simp only; omega)]
      unfold m17_6
      first | refine ls30 0 hS rfl ?_ | refine ls30 1 hS rfl ?_ | refine ls30 2 hS rfl ?_ | refine ls30 3 hS rfl ?_ | refine ls30 4 hS rfl ?_ | refine valP_ok (ld30 (by assumption) (by assumption) (by assumption) (by assumption) (by assumption)) ?_
      first | refine ss30 0 hS rfl rfl rfl rfl rfl rfl ?_ | refine ss30 1 hS rfl rfl rfl rfl rfl rfl ?_ | refine ss30 2 hS rfl rfl rfl rfl rfl rfl ?_ | refine ss30 3 hS rfl rfl rfl rfl rfl rfl ?_ | refine ss30 4 hS rfl rfl rfl rfl rfl rfl ?_
      intro w hS
      simp only [List.set_cons_zero, List.set_cons_succ] at hS
      unfold m17_7
      refine valS_ok (lc30 (hS.cell 1 rfl rfl) (hS.cell 1 rfl rfl) (hS.cell 1 rfl rfl) (hS.cell 1 rfl rfl) (hS.cell 1 rfl rfl)) ?_
      exact ⟨rfl, hS.pick 8 [4, 5, 6, 7] (by simp) (by decide)⟩
  unfold m17_2
  first | refine valP_ok (fa30_3 _ _) ?_ | refine valP_ok (fao30_3 _ _ _) ?_
  first | refine valP_ok (ld4 (hS.cell 0 rfl rfl)) ?_ | refine valP_ok (ld4 (hS.cell 1 rfl rfl)) ?_ | refine valP_ok (ld4 (hS.cell 2 rfl rfl)) ?_ | refine valP_ok (ld4 (hS.cell 3 rfl rfl)) ?_ | refine valP_ok (ld4 (hS.cell 4 rfl rfl)) ?_ | refine valP_ok (ld4 (by assumption)) ?_
  first | refine valP_ok (not_ok _ _) ?_ | refine valP_ok (notb_ok _ _) ?_
  refine cond_bsplit (fun h1 => ?_) (fun h1 => ?_)
  · rw [h1]
    refine pick_t rfl ?_
    refine cond_t rfl ?_
    refine pick_t rfl ?_
    exact h9 true ⟨fun _ => .inl (by simpa using h1), fun _ => rfl⟩
  · rw [h1]
    refine builtin_ok (len28 _) ?_
    refine valP_ok (eq3 _ _ _ _ _) ?_
    refine pick_f rfl ?_
    refine cond_split (fun h2 => ?_) (fun h2 => ?_)
    · refine pick_dt h2 ?_
      exact h9 true ⟨fun _ => .inr (.inl (by omega)), fun _ => rfl⟩
    · first | refine valP_ok (fa30_0 _ _) ?_ | refine valP_ok (fao30_0 _ _ _) ?_
      first | refine valP_ok (ld3 (hS.cell 0 rfl rfl)) ?_ | refine valP_ok (ld3 (hS.cell 1 rfl rfl)) ?_ | refine valP_ok (ld3 (hS.cell 2 rfl rfl)) ?_ | refine valP_ok (ld3 (hS.cell 3 rfl rfl)) ?_ | refine valP_ok (ld3 (hS.cell 4 rfl rfl)) ?_ | refine valP_ok (ld3 (by assumption)) ?_
      refine valP_ok (lss_ok _ _ _ _ _ _ _) ?_
      refine pick_df h2 ?_
      refine h9 _ ?_
      refine ⟨fun h => .inr (.inr (of_decide_eq_true h)), fun h => decide_eq_true ?_⟩
      rcases h with h | h | h
      · rw [h] at h1; cases h1
      · omega
      · exact h

end Go.Proofs.Ytjjmlopmemmobaa.M
