/- Deeds of a group: some of them, one aimed, one done; members' numbers. -/
import Derived.Test.YtjjmlopmemmobaaG9
namespace Go.Proofs.Ytjjmlopmemmobaa.M
open Go.Proofs.Ytjjmlopmemmobaa.F Go.RowKit
set_option linter.unusedVariables false
set_option linter.unusedSimpArgs false
set_option maxRecDepth 100000
set_option maxHeartbeats 2000000
attribute [local irreducible] Res.cells Res.row Res.map Res.any World.cell? World.frozen? Instr.fieldAt Instr.loadAt Instr.storeAt Instr.indexAt Instr.lookup Instr.mapUpdate Instr.box Instr.build Instr.buildSlice Instr.extract Instr.alloc Instr.field Instr.index Instr.sliceAt Instr.makeSlice Instr.makeMap Instr.makeFunc binS Op.unary Sem.run
open Go.Proofs.Ytjjmlopmemmobaa.L Go.Shelf
/-- A deed. -/
structure Gd where
  k : Int
  a : Int
  b : Int
  p : Int
  near : Bool
abbrev encG (x : Gd) : List Value := [.int .i64 x.k, .int .i64 x.a, .int .i64 x.b, .int .i64 x.p, .bool x.near]
theorem encG_len : ∀ x, (encG x).length = 5 := fun _ => rfl
abbrev valG (x : Gd) : Value := .agg #[.int .i64 x.k, .int .i64 x.a, .int .i64 x.b, .int .i64 x.p, .bool x.near]
structure DG (x : Gd) : Prop where
  a : -9223372036854775808 ≤ x.a ∧ x.a ≤ 9223372036854775807
theorem flatG_len : ∀ (l : List Gd), (l.flatMap encG).length = l.length * 5
  | [] => rfl
  | a :: l => by rw [List.flatMap_cons, List.length_append, flatG_len l]; show 5 + l.length * 5 = (l.length + 1) * 5; omega
theorem flatG_take : ∀ (l : List Gd) (i : Nat), (l.flatMap encG).take (i * 5) = (l.take i).flatMap encG
  | l, 0 => by simp
  | [], i + 1 => by simp
  | a :: l, i + 1 => by
    rw [show (i + 1) * 5 = i * 5 + 1 + 1 + 1 + 1 + 1 by omega]
    show _ :: _ :: _ :: _ :: _ :: (l.flatMap encG).take (i * 5) = _
    rw [flatG_take l i]
    rfl
theorem rdG_take {w : World} {A : Option Addr} {l : List Gd} (k : Nat) (h : Rd w 5 A l.length (l.flatMap encG)) : Rd w 5 A (l.take k).length ((l.take k).flatMap encG) := by
  refine ⟨flatG_len _, fun hp => ?_⟩
  have hf : (l.take k).flatMap encG = (l.flatMap encG).take (k * 5) := (flatG_take l k).symm
  have hp2 : 0 < (l.flatMap encG).length := by
    rw [flatG_len] at hp ⊢
    rw [List.length_take] at hp
    omega
  obtain ⟨g, o, hA, hc⟩ := h.2 hp2
  refine ⟨g, o, hA, fun j u hj => hc j u ?_⟩
  rw [hf, List.getElem?_take] at hj
  split at hj
  · exact hj
  · cases hj
theorem gsome_ret {A : Option Addr} {c : Nat} {l : List Gd} {w : World} (hc : l.length ≤ c) :
    Ret Try.prog 37 #[.slice A l.length c] w fun v w' => v = .slice A (l.take 120).length c ∧ w' = w := by
  refine s37 _ ?_
  unfold m37
  unfold m37_0
  unfold m37_1
  refine builtin_ok (len58 _) ?_
  refine valP_ok (gtr_ok _ _ _ _ _ _ _) ?_
  unfold m37_4
  refine cond_split (fun h => ?_) (fun h => ?_)
  · refine valP_ok (sh58 (k := 120) (by omega) _) ?_
    unfold m37_5
    exact ⟨by rw [List.length_take, show min 120 l.length = 120 by omega], rfl⟩
  · unfold m37_2 m37_3
    exact ⟨by rw [List.take_of_length_le (by omega)], rfl⟩
theorem gids_ret {w0 w : World} {F : List Nat} {L : List Res} {A : Option Addr} {c : Nat} {l : List Mem} (hl : l.length ≤ 1000) (hS : St w0 F w L) (hA : Bes w0 F L 3 A l.length (l.flatMap encM)) :
    Ret Try.prog 43 #[.slice A l.length c] w fun v w' => ∃ A' c', v = .slice A' (idsL l).length c' ∧ St w0 F w' (irow (.slice A' (idsL l).length c') (idsL l) :: L) := by
  refine s43 _ ?_
  unfold m43
  unfold m43_0
  unfold m43_1 m43_2 m43_5
  have hS := hS.row_nil 3 1
  refine loop_in (fun u w' => ∃ (i : Nat) (A' : Option Addr) (c' : Nat), u = (.slice A' (idsL (l.take i)).length c', .int .i64 i) ∧ i ≤ l.length ∧ St w0 F w' (irow (.slice A' (idsL (l.take i)).length c') (idsL (l.take i)) :: L)) (fun u _ => l.length - (intOf u.2).toNat) ⟨0, none, 0, rfl, by omega, hS⟩ ?_
  clear hS
  rintro u w ⟨i, A', c', rfl, hi, hS⟩
  unfold m43_6
  refine builtin_ok (len66 _) ?_
  refine valP_ok (lss_ok _ _ _ _ _ _ _) ?_
  unfold m43_9
  simp only
  refine cond_split (fun h => ?_) (fun h => ?_)
  · have hlt : i < l.length := by omega
    have hr := hA.rd1 hS
    obtain ⟨g, o, rfl⟩ := hr.some_ (by omega) (by omega)
    have h0 := hr.struct encM_len hlt (j := 0) (by omega) rfl
    rw [Nat.add_zero] at h0
    have hlt2 : (idsL (l.take i)).length ≤ 1000000 := by simp; omega
    unfold m43_7
    refine valP_ok (ix66 hlt _) ?_
    refine valP_ok (fao69_0 _ _ _) ?_
    refine valP_ok (ld3 h0) ?_
    refine newslice_ok (bs28_1 rfl _) hS ?_
    intro b17 w hS
    refine append_one 0 hlt2 hS rfl ?_
    intro A2 c2 w hS
    simp only [List.set_cons_zero] at hS
    unfold m43_8
    refine valP_ok (add_ok _ _ _ (by omega) (by omega) _) ?_
    have e : idsL (l.take i) ++ [l[i].id] = idsL (l.take (i + 1)) := by rw [List.take_succ_eq_append_getElem hlt]; show _ = List.map _ _; rw [List.map_append]; rfl
    rw [e] at hS
    rw [e]
    exact ⟨⟨i + 1, A2, c2, rfl, by omega, hS⟩, by simp [intOf]; omega⟩
  · have hi2 : i = l.length := by omega
    subst hi2
    rw [List.take_length] at hS
    rw [List.take_length]
    unfold m43_3 m43_4
    exact ⟨A', c', rfl, hS⟩
def ixM (a : Int) (n : Nat) : Nat := ((a.tmod n + n) % n).toNat
theorem ixM_spec (a : Int) {n : Nat} (hn : 0 < n) : ixM a n < n ∧ (a.tmod n + n) % n = (ixM a n : Int) ∧ 0 ≤ a.tmod n + n ∧ a.tmod n + n < 2 * n := by
  have h := tmod_bounds a (b := n) (by omega)
  have h1 := Int.emod_nonneg (a.tmod n + n) (b := n) (by omega)
  have h2 := Int.emod_lt_of_pos (a.tmod n + n) (b := n) (by omega)
  unfold ixM
  omega
def aimG (x : Gd) (l : List Mem) (g : Int) : Gd := if x.near = false ∨ x.k < 2 ∨ l.length = 0 then x else ⟨x.k, (idsL l).getD (ixM x.a l.length) 0, g, x.p, x.near⟩
theorem gaimed_ret {w0 w : World} {F : List Nat} {L : List Res} {A : Option Addr} {c : Nat} {l : List Mem} {x : Gd} {g : Int} (hx : DG x) (hl : l.length ≤ 1000) (hS : St w0 F w L) (hA : Bes w0 F L 3 A l.length (l.flatMap encM)) :
    Ret Try.prog 52 #[valG x, .slice A l.length c, .int .i64 g] w fun v w' => v = valG (aimG x l g) ∧ St w0 F w' L := by
  refine s52 _ _ _ ?_
  unfold m52
  unfold m52_0
  refine new_ok (bx65 _ _ _ _ _ _) hS ?_
  intro b3 w hS
  refine new_ok (al65 _) hS ?_
  intro b6 w hS
  have h6 : ∀ t : Bool, (t = true ↔ (x.near = false ∨ x.k < 2 ∨ l.length = 0)) → m52_6 (fun v w' => v = valG (aimG x l g) ∧ St w0 F w' L) (.slice A l.length c) (.int .i64 g) (.pointer (some ⟨b3, 0, none⟩)) (.pointer (some ⟨b6, 0, none⟩)) (.bool t) w := fun t ht => by
    unfold m52_6
    refine cond_bsplit (fun h => ?_) (fun h => ?_)
    · have e : aimG x l g = x := by unfold aimG; rw [if_pos (ht.1 h)]
      rw [e]
      first | refine ls65 0 hS rfl ?_ | refine ls65 1 hS rfl ?_ | refine ls65 2 hS rfl ?_ | refine ls65 3 hS rfl ?_ | refine ls65 4 hS rfl ?_ | refine valP_ok (ld65 (by assumption) (by assumption) (by assumption) (by assumption) (by assumption)) ?_
      first | refine ss65 0 hS rfl rfl rfl rfl rfl rfl ?_ | refine ss65 1 hS rfl rfl rfl rfl rfl rfl ?_ | refine ss65 2 hS rfl rfl rfl rfl rfl rfl ?_ | refine ss65 3 hS rfl rfl rfl rfl rfl rfl ?_ | refine ss65 4 hS rfl rfl rfl rfl rfl rfl ?_
      intro w hS
      simp only [List.set_cons_zero, List.set_cons_succ] at hS
      unfold m52_7
      refine valS_ok (lc65 (hS.cell 0 rfl rfl) (hS.cell 0 rfl rfl) (hS.cell 0 rfl rfl) (hS.cell 0 rfl rfl) (hS.cell 0 rfl rfl)) ?_
      exact ⟨rfl, hS.tail.tail⟩
    have hn : ¬ (x.near = false ∨ x.k < 2 ∨ l.length = 0) := fun hh => by rw [ht.2 hh] at h; cases h
    have hL : 0 < l.length := by omega
    obtain ⟨hi, he, h1, h2⟩ := ixM_spec x.a hL
    have e : aimG x l g = ⟨x.k, l[ixM x.a l.length].id, g, x.p, x.near⟩ := by
      unfold aimG
      rw [if_neg hn, List.getD_eq_getElem?_getD, List.getElem?_eq_getElem (by rw [List.length_map]; exact hi), List.getElem_map]
      rfl
    rw [e]
    have hr := hA.rd2 hS
    obtain ⟨gg, o, rfl⟩ := hr.some_ (by omega) (by omega)
    have h0 := hr.struct encM_len hi (j := 0) (by omega) rfl
    rw [Nat.add_zero] at h0
    have hxa := hx.a
    unfold m52_2
    first | refine valP_ok (fa65_1 _ _) ?_ | refine valP_ok (fao65_1 _ _ _) ?_
    first | refine valP_ok (ld3 (hS.cell 0 rfl rfl)) ?_ | refine valP_ok (ld3 (hS.cell 1 rfl rfl)) ?_ | refine valP_ok (ld3 (hS.cell 2 rfl rfl)) ?_ | refine valP_ok (ld3 (hS.cell 3 rfl rfl)) ?_ | refine valP_ok (ld3 (hS.cell 4 rfl rfl)) ?_ | refine valP_ok (ld3 (by assumption)) ?_
    refine builtin_ok (len66 _) ?_
    refine valP_ok (rem_any _ _ _ hxa.1 hxa.2 (by omega) (by omega) _) ?_
    refine builtin_ok (len66 _) ?_
    refine valP_ok (add_ok _ _ _ (by omega) (by omega) _) ?_
    refine builtin_ok (len66 _) ?_
    refine valP_ok (rem_ok _ _ _ h1 (by omega) (by omega) _) ?_
    rw [he]
    refine valP_ok (ix66 hi _) ?_
    refine valP_ok (fao69_0 _ _ _) ?_
    refine valP_ok (ld3 h0) ?_
    first | refine valP_ok (fa65_1 _ _) ?_ | refine valP_ok (fao65_1 _ _ _) ?_
    first | refine store_at 0 st3 hS rfl (by simp) rfl ?_ | refine store_at 1 st3 hS rfl (by simp) rfl ?_ | refine store_at 2 st3 hS rfl (by simp) rfl ?_ | refine store_at 3 st3 hS rfl (by simp) rfl ?_ | refine store_at 4 st3 hS rfl (by simp) rfl ?_
    intro w hS
    simp only [List.set_cons_zero, List.set_cons_succ] at hS
    unfold m52_3
    first | refine valP_ok (fa65_2 _ _) ?_ | refine valP_ok (fao65_2 _ _ _) ?_
    first | refine store_at 0 st3 hS rfl (by simp) rfl ?_ | refine store_at 1 st3 hS rfl (by simp) rfl ?_ | refine store_at 2 st3 hS rfl (by simp) rfl ?_ | refine store_at 3 st3 hS rfl (by simp) rfl ?_ | refine store_at 4 st3 hS rfl (by simp) rfl ?_
    intro w hS
    simp only [List.set_cons_zero, List.set_cons_succ] at hS
    unfold m52_4
    first | refine ls65 0 hS rfl ?_ | refine ls65 1 hS rfl ?_ | refine ls65 2 hS rfl ?_ | refine ls65 3 hS rfl ?_ | refine ls65 4 hS rfl ?_ | refine valP_ok (ld65 (by assumption) (by assumption) (by assumption) (by assumption) (by assumption)) ?_
    first | refine ss65 0 hS rfl rfl rfl rfl rfl rfl ?_ | refine ss65 1 hS rfl rfl rfl rfl rfl rfl ?_ | refine ss65 2 hS rfl rfl rfl rfl rfl rfl ?_ | refine ss65 3 hS rfl rfl rfl rfl rfl rfl ?_ | refine ss65 4 hS rfl rfl rfl rfl rfl rfl ?_
    intro w hS
    simp only [List.set_cons_zero, List.set_cons_succ] at hS
    unfold m52_5
    refine valS_ok (lc65 (hS.cell 0 rfl rfl) (hS.cell 0 rfl rfl) (hS.cell 0 rfl rfl) (hS.cell 0 rfl rfl) (hS.cell 0 rfl rfl)) ?_
    exact ⟨rfl, hS.tail.tail⟩
  unfold m52_1
  first | refine valP_ok (fa65_4 _ _) ?_ | refine valP_ok (fao65_4 _ _ _) ?_
  first | refine valP_ok (ld4 (hS.cell 0 rfl rfl)) ?_ | refine valP_ok (ld4 (hS.cell 1 rfl rfl)) ?_ | refine valP_ok (ld4 (hS.cell 2 rfl rfl)) ?_ | refine valP_ok (ld4 (hS.cell 3 rfl rfl)) ?_ | refine valP_ok (ld4 (hS.cell 4 rfl rfl)) ?_ | refine valP_ok (ld4 (by assumption)) ?_
  first | refine valP_ok (not_ok _ _) ?_ | refine valP_ok (notb_ok _ _) ?_
  refine cond_bsplit (fun h => ?_) (fun h => ?_)
  · have hnr : x.near = false := by simpa using h
    first | refine pick_dt (by first | assumption | omega) ?_ | refine pick_df (by first | assumption | omega) ?_ | refine pick_t (by first | rfl | assumption) ?_ | refine pick_f (by first | rfl | assumption) ?_ | refine pick_dt rfl ?_ | refine pick_df (not_not_intro rfl) ?_
    refine cond_t (by simp [hnr]) ?_
    first | refine pick_dt (by first | assumption | omega) ?_ | refine pick_df (by first | assumption | omega) ?_ | refine pick_t (by first | rfl | assumption) ?_ | refine pick_f (by first | rfl | assumption) ?_ | refine pick_dt rfl ?_ | refine pick_df (not_not_intro rfl) ?_
    exact h6 _ (by simp [hnr])
  have hnr : x.near = true := by simpa using h
  first | refine valP_ok (fa65_0 _ _) ?_ | refine valP_ok (fao65_0 _ _ _) ?_
  first | refine valP_ok (ld3 (hS.cell 0 rfl rfl)) ?_ | refine valP_ok (ld3 (hS.cell 1 rfl rfl)) ?_ | refine valP_ok (ld3 (hS.cell 2 rfl rfl)) ?_ | refine valP_ok (ld3 (hS.cell 3 rfl rfl)) ?_ | refine valP_ok (ld3 (hS.cell 4 rfl rfl)) ?_ | refine valP_ok (ld3 (by assumption)) ?_
  refine valP_ok (lss_ok _ _ _ _ _ _ _) ?_
  first | refine pick_dt (by first | assumption | omega) ?_ | refine pick_df (by first | assumption | omega) ?_ | refine pick_t (by first | rfl | assumption) ?_ | refine pick_f (by first | rfl | assumption) ?_ | refine pick_dt rfl ?_ | refine pick_df (not_not_intro rfl) ?_
  refine cond_split (fun h => ?_) (fun h => ?_)
  · first | refine pick_dt (by first | assumption | omega) ?_ | refine pick_df (by first | assumption | omega) ?_ | refine pick_t (by first | rfl | assumption) ?_ | refine pick_f (by first | rfl | assumption) ?_ | refine pick_dt rfl ?_ | refine pick_df (not_not_intro rfl) ?_
    exact h6 _ (by simp [h])
  refine builtin_ok (len66 _) ?_
  refine valP_ok (eq3 _ _ _ _ _) ?_
  first | refine pick_dt (by first | assumption | omega) ?_ | refine pick_df (by first | assumption | omega) ?_ | refine pick_t (by first | rfl | assumption) ?_ | refine pick_f (by first | rfl | assumption) ?_ | refine pick_dt rfl ?_ | refine pick_df (not_not_intro rfl) ?_
  refine h6 _ ?_
  rw [decide_eq_true_iff]
  constructor
  · intro h; exact .inr (.inr (by omega))
  · rintro (h1 | h1 | h1)
    · rw [hnr] at h1; cases h1
    · omega
    · omega

end Go.Proofs.Ytjjmlopmemmobaa.M
