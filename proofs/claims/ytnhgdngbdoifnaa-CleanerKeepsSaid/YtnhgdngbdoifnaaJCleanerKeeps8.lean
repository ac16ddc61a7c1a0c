/- Parts of a proof, in one text: what it needs of N2, N3, Mapp0, N4, N5, N6, N7, N8. -/
import Derived.Test.YtnhgdngbdoifnaaJCleanerKeeps7
import Derived.Laws.IdiomCopy
import Derived.Lib.AppendZeros
import Derived.Lib.Overlaps
import Derived.Laws.Externs
import Derived.Test.YtnhgdngbdoifnaaProg
namespace Go.Proofs.Ytnhgdngbdoifnaa.M
open Go.Proofs.Ytnhgdngbdoifnaa.F Go.RowKit
set_option linter.unusedVariables false
set_option linter.unusedSimpArgs false
set_option maxRecDepth 100000
set_option maxHeartbeats 2000000
attribute [local irreducible] Res.cells Res.row Res.map Res.any World.cell? World.frozen? Instr.fieldAt Instr.loadAt Instr.storeAt Instr.indexAt Instr.lookup Instr.mapUpdate Instr.box Instr.build Instr.buildSlice Instr.extract Instr.alloc Instr.field Instr.index Instr.sliceAt Instr.makeSlice Instr.makeMap Instr.makeFunc binS Op.unary Sem.run
def cmpI (x y : Int) : Int := if x < y then -1 else if y < x then 1 else 0
section
variable {w0 w : World} {F : List Nat} {L : List Res}
theorem isnan_ret {x : Int} (hS : St w0 F w L) : Ret Try.prog 59 #[.int .i64 x] w fun v w' => v = .bool false ∧ St w0 F w' L := by
  refine s59 _ ?_
  unfold m59
  unfold m59_0
  unfold m59_1
  refine valP_ok (ne3 _ _ _ _ _) ?_
  unfold m59_2
  exact ⟨by simp, hS⟩
theorem compare_ret {x y : Int} (hS : St w0 F w L) : Ret Try.prog 54 #[.int .i64 x, .int .i64 y] w fun v w' => v = .int .i64 (cmpI x y) ∧ St w0 F w' L := by
  refine s54 _ _ ?_
  unfold m54
  unfold m54_0
  unfold m54_1
  refine callR (by kernel_rfl) (isnan_ret hS) ?_
  rintro _ w ⟨rfl, hS⟩
  unfold m54_2
  refine callR (by kernel_rfl) (isnan_ret hS) ?_
  rintro _ w ⟨rfl, hS⟩
  unfold m54_3 m54_15
  refine cond_f rfl ?_
  unfold m54_4 m54_13
  refine cond_f rfl ?_
  unfold m54_5
  refine valP_ok (lss_ok _ _ _ _ _ _ _) ?_
  unfold m54_11
  refine cond_split (fun h => ?_) (fun h => ?_)
  · unfold m54_12
    exact ⟨by unfold cmpI; rw [if_pos h], hS⟩
  unfold m54_6
  refine valP_ok (gtr_ok _ _ _ _ _ _ _) ?_
  unfold m54_9
  refine cond_split (fun h1 => ?_) (fun h1 => ?_)
  · unfold m54_10
    exact ⟨by unfold cmpI; rw [if_neg h, if_pos h1], hS⟩
  unfold m54_7 m54_8
  exact ⟨by unfold cmpI; rw [if_neg h, if_neg h1], hS⟩
theorem or_ret {x y : Int} {A : Option Addr} {c : Nat} (hE : Bes w0 F L 1 A 2 [.int .i64 x, .int .i64 y]) (hS : St w0 F w L) : Ret Try.prog 53 #[.slice A 2 c] w fun v w' => v = .int .i64 (if x = 0 then y else x) ∧ St w0 F w' L := by
  refine s53 _ ?_
  unfold m53
  unfold m53_0
  unfold m53_1
  unfold m53_2
  refine builtin_ok (len51 _) ?_
  unfold m53_5
  refine loop_in (fun u w' => ∃ i : Nat, u = .int .i64 (i : Int) ∧ i ≤ 2 ∧ (0 < i → x = 0) ∧ (1 < i → y = 0) ∧ St w0 F w' L) (fun u _ => 2 - (intOf u).toNat) ⟨0, rfl, by omega, fun h => by omega, fun h => by omega, hS⟩ ?_
  clear hS
  rintro u w ⟨i, rfl, hi, hx, hy, hS⟩
  unfold m53_6
  refine valP_ok (lss_ok _ _ _ _ _ _ _) ?_
  unfold m53_7
  refine cond_split (fun h => ?_) (fun h => ?_)
  · have hil : i < 2 := by omega
    have hR := hE.rd hS
    obtain ⟨gb, o, rfl⟩ := hR.some_ (by omega) (by omega)
    have leaf : ∀ v : Int, [Value.int .i64 x, .int .i64 y][i]? = some (.int .i64 v) → (v = 0 → (0 < i + 1 → x = 0) ∧ (1 < i + 1 → y = 0)) → (¬ v = 0 → v = if x = 0 then y else x) → m53_8 (fun v w' => v = .int .i64 (if x = 0 then y else x) ∧ St w0 F w' L) (fun u w' => (∃ i : Nat, u = .int .i64 (i : Int) ∧ i ≤ 2 ∧ (0 < i → x = 0) ∧ (1 < i → y = 0) ∧ St w0 F w' L) ∧ 2 - (intOf u).toNat < 2 - (intOf (.int .i64 (i : Int))).toNat) (.int .i64 0) (.slice (some ⟨gb, o, none⟩) 2 c) (.int .i64 2) (.int .i64 (i : Int)) w := fun v hv h0 h1 => by
      unfold m53_8
      refine valP_ok (ix51 hil _) ?_
      refine valP_ok (ld3 (hR.cell_ hv)) ?_
      unfold m53_10
      refine valP_ok (ne3 _ _ _ _ _) ?_
      unfold m53_11
      refine cond_split (fun h2 => ?_) (fun h2 => ?_)
      · unfold m53_12
        exact ⟨by rw [h1 h2], hS⟩
      · unfold m53_9
        refine valP_ok (add_ok _ _ _ (by omega) (by omega) _) ?_
        have h3 := h0 (Classical.not_not.1 h2)
        exact ⟨⟨i + 1, rfl, by omega, h3.1, h3.2, hS⟩, by simp [intOf]; omega⟩
    rcases (show i = 0 ∨ i = 1 by omega) with rfl | rfl
    · exact leaf x rfl (fun h => ⟨fun _ => h, fun h => by omega⟩) (fun h => by rw [if_neg h])
    · have := hx (by omega)
      exact leaf y rfl (fun h => ⟨fun _ => this, fun _ => h⟩) (fun h => by rw [if_pos this])
  · obtain rfl : i = 2 := by omega
    have h1 := hx (by omega)
    have h2 := hy (by omega)
    unfold m53_3 m53_4
    exact ⟨by rw [if_pos h1, h2], hS⟩
theorem order_ret {a b : Ce} (hS : St w0 F w L) : Ret Try.prog 43 #[cev a, cev b] w fun v w' => (∃ k : Int, v = .int .i64 k ∧ (k < 0 ↔ AheadC a b)) ∧ St w0 F w' L := by
  refine s43 _ _ ?_
  unfold m43
  unfold m43_0
  refine new_ok (bx67 _ _ _ _ _ _ _ _ _ _ _ _ _) hS ?_
  intro b2 w hS
  refine new_ok (bx67 _ _ _ _ _ _ _ _ _ _ _ _ _) hS ?_
  intro b3 w hS
  unfold m43_1
  refine drawn_ok hS ?_
  intro w hS
  refine held_Hs hS ?_
  first | refine valJ_ok (fa67_1 _) ?_ | refine valJ_ok (fao67_1 _ _) ?_
  first | refine valJ_load ld3 (Hs.cell 0 rfl rfl) ?_ | refine valJ_load ld3 (Hs.cell 1 rfl rfl) ?_ | refine valJ_load ld3 (Hs.cell 2 rfl rfl) ?_ | refine valJ_load ld3 (Hs.cell 3 rfl rfl) ?_ | refine valJ_load ld3 (Hs.cell 4 rfl rfl) ?_ | refine valJ_load ld3 (Hs.cell 5 rfl rfl) ?_ | refine valJ_load ld3 (Hs.cell 6 rfl rfl) ?_ | refine valJ_load ld3 (Hs.cell 7 rfl rfl) ?_ | refine valJ_load ld3 (by assumption) ?_
  first | refine valJ_ok (fa67_1 _) ?_ | refine valJ_ok (fao67_1 _ _) ?_
  first | refine valJ_load ld3 (Hs.cell 0 rfl rfl) ?_ | refine valJ_load ld3 (Hs.cell 1 rfl rfl) ?_ | refine valJ_load ld3 (Hs.cell 2 rfl rfl) ?_ | refine valJ_load ld3 (Hs.cell 3 rfl rfl) ?_ | refine valJ_load ld3 (Hs.cell 4 rfl rfl) ?_ | refine valJ_load ld3 (Hs.cell 5 rfl rfl) ?_ | refine valJ_load ld3 (Hs.cell 6 rfl rfl) ?_ | refine valJ_load ld3 (Hs.cell 7 rfl rfl) ?_ | refine valJ_load ld3 (by assumption) ?_
  first | refine valJ_ok (fa67_0 _) ?_ | refine valJ_ok (fao67_0 _ _) ?_
  first | refine valJ_load ld3 (Hs.cell 0 rfl rfl) ?_ | refine valJ_load ld3 (Hs.cell 1 rfl rfl) ?_ | refine valJ_load ld3 (Hs.cell 2 rfl rfl) ?_ | refine valJ_load ld3 (Hs.cell 3 rfl rfl) ?_ | refine valJ_load ld3 (Hs.cell 4 rfl rfl) ?_ | refine valJ_load ld3 (Hs.cell 5 rfl rfl) ?_ | refine valJ_load ld3 (Hs.cell 6 rfl rfl) ?_ | refine valJ_load ld3 (Hs.cell 7 rfl rfl) ?_ | refine valJ_load ld3 (by assumption) ?_
  first | refine valJ_ok (fa67_0 _) ?_ | refine valJ_ok (fao67_0 _ _) ?_
  first | refine valJ_load ld3 (Hs.cell 0 rfl rfl) ?_ | refine valJ_load ld3 (Hs.cell 1 rfl rfl) ?_ | refine valJ_load ld3 (Hs.cell 2 rfl rfl) ?_ | refine valJ_load ld3 (Hs.cell 3 rfl rfl) ?_ | refine valJ_load ld3 (Hs.cell 4 rfl rfl) ?_ | refine valJ_load ld3 (Hs.cell 5 rfl rfl) ?_ | refine valJ_load ld3 (Hs.cell 6 rfl rfl) ?_ | refine valJ_load ld3 (Hs.cell 7 rfl rfl) ?_ | refine valJ_load ld3 (by assumption) ?_
  refine callR (by kernel_rfl) (compare_ret hS) ?_
  rintro _ w ⟨rfl, hS⟩
  refine stay_Hs hS (by first | exact fun _ h => h | exact fun _ h => .tail _ h | exact fun _ h => .tail _ (.tail _ h) | simp) ?_
  refine callR (by kernel_rfl) (compare_ret hS) ?_
  rintro _ w ⟨rfl, hS⟩
  refine stay_Hs hS (by first | exact fun _ h => h | exact fun _ h => .tail _ h | exact fun _ h => .tail _ (.tail _ h) | simp) ?_
  refine newslice_ok (bs51_2 rfl rfl _) hS ?_
  intro b15 w hS
  refine stay_Hs hS (by first | exact fun _ h => h | exact fun _ h => .tail _ h | exact fun _ h => .tail _ (.tail _ h) | simp) ?_
  refine callR (by kernel_rfl) (or_ret (Bes.of_cells 0 rfl rfl) hS) ?_
  rintro _ w ⟨rfl, hS⟩
  refine stay_Hs hS (by first | exact fun _ h => h | exact fun _ h => .tail _ h | exact fun _ h => .tail _ (.tail _ h) | simp) ?_
  unfold m43_2
  refine ⟨⟨_, rfl, ?_⟩, hS.tail.tail.tail⟩
  unfold cmpI AheadC
  split <;> split at * <;> (try split at *) <;> omega
theorem within1_ret {x : Int} (hS : St w0 F w L) : Ret Try.prog 51 #[.int .i64 x] w fun v w' => v = .bool (decide (¬ in40 x)) ∧ St w0 F w' L := by
  refine s51 _ ?_
  unfold m51
  unfold m51_0
  have leaf : ∀ t : Bool, (t = true ↔ ¬ in40 x) → m51_2 (fun v w' => v = .bool (decide (¬ in40 x)) ∧ St w0 F w' L) (.bool t) w := fun t ht => by
    unfold m51_2
    refine ⟨?_, hS⟩
    congr 1
    rw [Bool.eq_iff_iff, decide_eq_true_eq, ht]
  unfold in40 at leaf ⊢
  unfold m51_1
  refine valP_ok (lss_ok _ _ _ _ _ _ _) ?_
  first | refine cond_split (fun hc0 => ?_) (fun hc0 => ?_) | refine cond_bsplit (fun hc0 => ?_) (fun hc0 => ?_)
  · first | refine pick_dt (by first | assumption | omega) ?_ | refine pick_df (by first | assumption | omega) ?_ | refine pick_t (by first | rfl | assumption) ?_ | refine pick_f (by first | rfl | assumption) ?_ | refine pick_dt rfl ?_ | refine pick_df (not_not_intro rfl) ?_
    exact leaf _ (by simp only [decide_eq_true_eq, Bool.false_eq_true, false_iff, true_iff] <;> first | contradiction | omega)
  · refine valP_ok (gtr_ok _ _ _ _ _ _ _) ?_
    first | refine pick_dt (by first | assumption | omega) ?_ | refine pick_df (by first | assumption | omega) ?_ | refine pick_t (by first | rfl | assumption) ?_ | refine pick_f (by first | rfl | assumption) ?_ | refine pick_dt rfl ?_ | refine pick_df (not_not_intro rfl) ?_
    exact leaf _ (by simp only [decide_eq_true_eq, Bool.false_eq_true, false_iff, true_iff] <;> first | contradiction | omega)
theorem index58_ret {l : List Int} {A : Option Addr} {c : Nat} (hm : l.length ≤ 1000000) (hx : ∀ x ∈ l, in40 x) (hE : Bes w0 F L 1 A l.length (l.map (Value.int .i64))) (hS : St w0 F w L) : Ret Try.prog 58 #[.slice A l.length c, .func (.func 51) #[] #[]] w fun v w' => v = .int .i64 (-1) ∧ St w0 F w' L := by
  refine s58 _ _ ?_
  unfold m58
  unfold m58_0
  unfold m58_1
  refine builtin_ok (len51 _) ?_
  unfold m58_4
  refine loop_in (fun u w' => ∃ i : Nat, u = .int .i64 (i : Int) ∧ i ≤ l.length ∧ St w0 F w' L) (fun u _ => l.length - (intOf u).toNat) ⟨0, rfl, by omega, hS⟩ ?_
  clear hS
  rintro u w ⟨i, rfl, hi, hS⟩
  unfold m58_5
  refine valP_ok (lss_ok _ _ _ _ _ _ _) ?_
  unfold m58_6
  refine cond_split (fun h => ?_) (fun h => ?_)
  · have hil : i < l.length := by omega
    have hR := hE.rd hS
    obtain ⟨gb, o, rfl⟩ := hR.some_ (by omega) (by omega)
    unfold m58_7 m58_9
    refine valP_ok (ix51 hil _) ?_
    refine valP_ok (ld3 (hR.cell_ (by rw [List.getElem?_map, List.getElem?_eq_getElem hil]; rfl))) ?_
    refine callR (by kernel_rfl) (within1_ret hS) ?_
    rintro _ w ⟨rfl, hS⟩
    unfold m58_10
    refine cond_df (fun h => h (hx _ (List.getElem_mem hil))) ?_
    unfold m58_8
    refine valP_ok (add_ok _ _ _ (by omega) (by omega) _) ?_
    exact ⟨⟨i + 1, rfl, by omega, hS⟩, by simp [intOf]; omega⟩
  · unfold m58_2 m58_3
    exact ⟨rfl, hS⟩
theorem within_ret {l : List Int} {A : Option Addr} {c : Nat} (hm : l.length ≤ 1000000) (hx : ∀ x ∈ l, in40 x) (hE : Bes w0 F L 1 A l.length (l.map (Value.int .i64))) (hS : St w0 F w L) : Ret Try.prog 40 #[.slice A l.length c] w fun v w' => v = .bool true ∧ St w0 F w' L := by
  refine s40 _ ?_
  unfold m40
  unfold m40_0
  unfold m40_1
  have h50 : Ret Try.prog 50 #[.slice A l.length c, .func (.func 51) #[] #[]] w fun v w' => v = .bool false ∧ St w0 F w' L := by
    refine s50 _ _ ?_
    unfold m50
    unfold m50_0
    unfold m50_1
    refine callR (by kernel_rfl) (index58_ret hm hx hE hS) ?_
    rintro _ w ⟨rfl, hS⟩
    refine valP_ok (geq_ok _ _ _ _ _ _ _) ?_
    unfold m50_2
    exact ⟨rfl, hS⟩
  refine callR (by kernel_rfl) h50 ?_
  rintro _ w ⟨rfl, hS⟩
  first | refine valP_ok (not_ok _ _) ?_ | refine valP_ok (notb_ok _ _) ?_
  unfold m40_2
  exact ⟨rfl, hS⟩
section
variable {g : Gr}
theorem gcheck_ret (hg : MayG g) (hS : St w0 F w L) : Ret Try.prog 39 #[grv g] w fun v w' => v = .int .i64 0 ∧ St w0 F w' L := by
  obtain ⟨⟨g1, g2, g3, g4, g5, g6⟩, k, k1, k8, hk⟩ := hg
  have hmod : g.size % g.hop = 0 := by rw [← hk]; exact Int.mul_emod_left _ _
  have hdiv : g.size / g.hop = k := by rw [← hk]; exact Int.mul_ediv_cancel _ (by omega)
  refine s39 _ ?_
  unfold m39
  unfold m39_0
  refine new_ok (bx23 _ _ _ _) hS ?_
  intro b1 w hS
  unfold m39_1
  first | refine valP_ok (fa23_0 _ _) ?_ | refine valP_ok (fao23_0 _ _ _) ?_
  first | refine valP_ok (ld3 (hS.cell 0 rfl rfl)) ?_ | refine valP_ok (ld3 (hS.cell 1 rfl rfl)) ?_ | refine valP_ok (ld3 (hS.cell 2 rfl rfl)) ?_ | refine valP_ok (ld3 (hS.cell 3 rfl rfl)) ?_ | refine valP_ok (ld3 (hS.cell 4 rfl rfl)) ?_ | refine valP_ok (ld3 (hS.cell 5 rfl rfl)) ?_ | refine valP_ok (ld3 (hS.cell 6 rfl rfl)) ?_ | refine valP_ok (ld3 (hS.cell 7 rfl rfl)) ?_ | refine valP_ok (ld3 (by assumption)) ?_
  refine valP_ok (lss_ok _ _ _ _ _ _ _) ?_
  refine cond_df (by omega) ?_
  first | refine valP_ok (fa23_0 _ _) ?_ | refine valP_ok (fao23_0 _ _ _) ?_
  first | refine valP_ok (ld3 (hS.cell 0 rfl rfl)) ?_ | refine valP_ok (ld3 (hS.cell 1 rfl rfl)) ?_ | refine valP_ok (ld3 (hS.cell 2 rfl rfl)) ?_ | refine valP_ok (ld3 (hS.cell 3 rfl rfl)) ?_ | refine valP_ok (ld3 (hS.cell 4 rfl rfl)) ?_ | refine valP_ok (ld3 (hS.cell 5 rfl rfl)) ?_ | refine valP_ok (ld3 (hS.cell 6 rfl rfl)) ?_ | refine valP_ok (ld3 (hS.cell 7 rfl rfl)) ?_ | refine valP_ok (ld3 (by assumption)) ?_
  refine valP_ok (gtr_ok _ _ _ _ _ _ _) ?_
  first | refine pick_dt (by first | assumption | omega) ?_ | refine pick_df (by first | assumption | omega) ?_ | refine pick_t (by first | rfl | assumption) ?_ | refine pick_f (by first | rfl | assumption) ?_ | refine pick_dt rfl ?_ | refine pick_df (not_not_intro rfl) ?_
  refine cond_df (by omega) ?_
  first | refine valP_ok (fa23_1 _ _) ?_ | refine valP_ok (fao23_1 _ _ _) ?_
  first | refine valP_ok (ld3 (hS.cell 0 rfl rfl)) ?_ | refine valP_ok (ld3 (hS.cell 1 rfl rfl)) ?_ | refine valP_ok (ld3 (hS.cell 2 rfl rfl)) ?_ | refine valP_ok (ld3 (hS.cell 3 rfl rfl)) ?_ | refine valP_ok (ld3 (hS.cell 4 rfl rfl)) ?_ | refine valP_ok (ld3 (hS.cell 5 rfl rfl)) ?_ | refine valP_ok (ld3 (hS.cell 6 rfl rfl)) ?_ | refine valP_ok (ld3 (hS.cell 7 rfl rfl)) ?_ | refine valP_ok (ld3 (by assumption)) ?_
  refine valP_ok (lss_ok _ _ _ _ _ _ _) ?_
  first | refine pick_dt (by first | assumption | omega) ?_ | refine pick_df (by first | assumption | omega) ?_ | refine pick_t (by first | rfl | assumption) ?_ | refine pick_f (by first | rfl | assumption) ?_ | refine pick_dt rfl ?_ | refine pick_df (not_not_intro rfl) ?_
  refine cond_df (by omega) ?_
  first | refine valP_ok (fa23_1 _ _) ?_ | refine valP_ok (fao23_1 _ _ _) ?_
  first | refine valP_ok (ld3 (hS.cell 0 rfl rfl)) ?_ | refine valP_ok (ld3 (hS.cell 1 rfl rfl)) ?_ | refine valP_ok (ld3 (hS.cell 2 rfl rfl)) ?_ | refine valP_ok (ld3 (hS.cell 3 rfl rfl)) ?_ | refine valP_ok (ld3 (hS.cell 4 rfl rfl)) ?_ | refine valP_ok (ld3 (hS.cell 5 rfl rfl)) ?_ | refine valP_ok (ld3 (hS.cell 6 rfl rfl)) ?_ | refine valP_ok (ld3 (hS.cell 7 rfl rfl)) ?_ | refine valP_ok (ld3 (by assumption)) ?_
  first | refine valP_ok (fa23_0 _ _) ?_ | refine valP_ok (fao23_0 _ _ _) ?_
  first | refine valP_ok (ld3 (hS.cell 0 rfl rfl)) ?_ | refine valP_ok (ld3 (hS.cell 1 rfl rfl)) ?_ | refine valP_ok (ld3 (hS.cell 2 rfl rfl)) ?_ | refine valP_ok (ld3 (hS.cell 3 rfl rfl)) ?_ | refine valP_ok (ld3 (hS.cell 4 rfl rfl)) ?_ | refine valP_ok (ld3 (hS.cell 5 rfl rfl)) ?_ | refine valP_ok (ld3 (hS.cell 6 rfl rfl)) ?_ | refine valP_ok (ld3 (hS.cell 7 rfl rfl)) ?_ | refine valP_ok (ld3 (by assumption)) ?_
  refine valP_ok (gtr_ok _ _ _ _ _ _ _) ?_
  first | refine pick_dt (by first | assumption | omega) ?_ | refine pick_df (by first | assumption | omega) ?_ | refine pick_t (by first | rfl | assumption) ?_ | refine pick_f (by first | rfl | assumption) ?_ | refine pick_dt rfl ?_ | refine pick_df (not_not_intro rfl) ?_
  refine cond_df (by omega) ?_
  first | refine valP_ok (fa23_0 _ _) ?_ | refine valP_ok (fao23_0 _ _ _) ?_
  first | refine valP_ok (ld3 (hS.cell 0 rfl rfl)) ?_ | refine valP_ok (ld3 (hS.cell 1 rfl rfl)) ?_ | refine valP_ok (ld3 (hS.cell 2 rfl rfl)) ?_ | refine valP_ok (ld3 (hS.cell 3 rfl rfl)) ?_ | refine valP_ok (ld3 (hS.cell 4 rfl rfl)) ?_ | refine valP_ok (ld3 (hS.cell 5 rfl rfl)) ?_ | refine valP_ok (ld3 (hS.cell 6 rfl rfl)) ?_ | refine valP_ok (ld3 (hS.cell 7 rfl rfl)) ?_ | refine valP_ok (ld3 (by assumption)) ?_
  first | refine valP_ok (fa23_1 _ _) ?_ | refine valP_ok (fao23_1 _ _ _) ?_
  first | refine valP_ok (ld3 (hS.cell 0 rfl rfl)) ?_ | refine valP_ok (ld3 (hS.cell 1 rfl rfl)) ?_ | refine valP_ok (ld3 (hS.cell 2 rfl rfl)) ?_ | refine valP_ok (ld3 (hS.cell 3 rfl rfl)) ?_ | refine valP_ok (ld3 (hS.cell 4 rfl rfl)) ?_ | refine valP_ok (ld3 (hS.cell 5 rfl rfl)) ?_ | refine valP_ok (ld3 (hS.cell 6 rfl rfl)) ?_ | refine valP_ok (ld3 (hS.cell 7 rfl rfl)) ?_ | refine valP_ok (ld3 (by assumption)) ?_
  refine valP_ok (rem_ok _ _ _ (by omega) (by omega) (by omega) _) ?_
  refine valP_ok (ne3 _ _ _ _ _) ?_
  first | refine pick_dt (by first | assumption | omega) ?_ | refine pick_df (by first | assumption | omega) ?_ | refine pick_t (by first | rfl | assumption) ?_ | refine pick_f (by first | rfl | assumption) ?_ | refine pick_dt rfl ?_ | refine pick_df (not_not_intro rfl) ?_
  refine cond_df (by omega) ?_
  first | refine valP_ok (fa23_0 _ _) ?_ | refine valP_ok (fao23_0 _ _ _) ?_
  first | refine valP_ok (ld3 (hS.cell 0 rfl rfl)) ?_ | refine valP_ok (ld3 (hS.cell 1 rfl rfl)) ?_ | refine valP_ok (ld3 (hS.cell 2 rfl rfl)) ?_ | refine valP_ok (ld3 (hS.cell 3 rfl rfl)) ?_ | refine valP_ok (ld3 (hS.cell 4 rfl rfl)) ?_ | refine valP_ok (ld3 (hS.cell 5 rfl rfl)) ?_ | refine valP_ok (ld3 (hS.cell 6 rfl rfl)) ?_ | refine valP_ok (ld3 (hS.cell 7 rfl rfl)) ?_ | refine valP_ok (ld3 (by assumption)) ?_
  first | refine valP_ok (fa23_1 _ _) ?_ | refine valP_ok (fao23_1 _ _ _) ?_
  first | refine valP_ok (ld3 (hS.cell 0 rfl rfl)) ?_ | refine valP_ok (ld3 (hS.cell 1 rfl rfl)) ?_ | refine valP_ok (ld3 (hS.cell 2 rfl rfl)) ?_ | refine valP_ok (ld3 (hS.cell 3 rfl rfl)) ?_ | refine valP_ok (ld3 (hS.cell 4 rfl rfl)) ?_ | refine valP_ok (ld3 (hS.cell 5 rfl rfl)) ?_ | refine valP_ok (ld3 (hS.cell 6 rfl rfl)) ?_ | refine valP_ok (ld3 (hS.cell 7 rfl rfl)) ?_ | refine valP_ok (ld3 (by assumption)) ?_
  refine valP_ok (quo_ok _ _ _ (by omega) (by omega) (by omega) _) ?_
  refine valP_ok (gtr_ok _ _ _ _ _ _ _) ?_
  first | refine pick_dt (by first | assumption | omega) ?_ | refine pick_df (by first | assumption | omega) ?_ | refine pick_t (by first | rfl | assumption) ?_ | refine pick_f (by first | rfl | assumption) ?_ | refine pick_dt rfl ?_ | refine pick_df (not_not_intro rfl) ?_
  refine cond_df (by omega) ?_
  first | refine valP_ok (fa23_2 _ _) ?_ | refine valP_ok (fao23_2 _ _ _) ?_
  first | refine valP_ok (ld3 (hS.cell 0 rfl rfl)) ?_ | refine valP_ok (ld3 (hS.cell 1 rfl rfl)) ?_ | refine valP_ok (ld3 (hS.cell 2 rfl rfl)) ?_ | refine valP_ok (ld3 (hS.cell 3 rfl rfl)) ?_ | refine valP_ok (ld3 (hS.cell 4 rfl rfl)) ?_ | refine valP_ok (ld3 (hS.cell 5 rfl rfl)) ?_ | refine valP_ok (ld3 (hS.cell 6 rfl rfl)) ?_ | refine valP_ok (ld3 (hS.cell 7 rfl rfl)) ?_ | refine valP_ok (ld3 (by assumption)) ?_
  refine valP_ok (lss_ok _ _ _ _ _ _ _) ?_
  first | refine pick_dt (by first | assumption | omega) ?_ | refine pick_df (by first | assumption | omega) ?_ | refine pick_t (by first | rfl | assumption) ?_ | refine pick_f (by first | rfl | assumption) ?_ | refine pick_dt rfl ?_ | refine pick_df (not_not_intro rfl) ?_
  refine cond_df (by omega) ?_
  first | refine valP_ok (fa23_2 _ _) ?_ | refine valP_ok (fao23_2 _ _ _) ?_
  first | refine valP_ok (ld3 (hS.cell 0 rfl rfl)) ?_ | refine valP_ok (ld3 (hS.cell 1 rfl rfl)) ?_ | refine valP_ok (ld3 (hS.cell 2 rfl rfl)) ?_ | refine valP_ok (ld3 (hS.cell 3 rfl rfl)) ?_ | refine valP_ok (ld3 (hS.cell 4 rfl rfl)) ?_ | refine valP_ok (ld3 (hS.cell 5 rfl rfl)) ?_ | refine valP_ok (ld3 (hS.cell 6 rfl rfl)) ?_ | refine valP_ok (ld3 (hS.cell 7 rfl rfl)) ?_ | refine valP_ok (ld3 (by assumption)) ?_
  refine valP_ok (gtr_ok _ _ _ _ _ _ _) ?_
  first | refine pick_dt (by first | assumption | omega) ?_ | refine pick_df (by first | assumption | omega) ?_ | refine pick_t (by first | rfl | assumption) ?_ | refine pick_f (by first | rfl | assumption) ?_ | refine pick_dt rfl ?_ | refine pick_df (not_not_intro rfl) ?_
  unfold m39_4
  refine cond_df (by omega) ?_
  unfold m39_2 m39_3
  exact ⟨rfl, hS.tail⟩
theorem gclosed_ret {start mark : Int} (hg : MayG g) (hm : -1 ≤ mark ∧ mark ≤ 1099511627776) (hn : ¬ ClosedG g start mark) (hS : St w0 F w L) : Ret Try.prog 41 #[grv g, .int .i64 start, .int .i64 mark] w fun v w' => v = .bool false ∧ St w0 F w' L := by
  have hg' := hg.1
  refine s41 _ _ _ ?_
  unfold m41
  unfold m41_0
  refine new_ok (bx23 _ _ _ _) hS ?_
  intro b3 w hS
  unfold m41_1
  first | refine ls23 0 hS rfl ?_ | refine ls23 1 hS rfl ?_ | refine ls23 2 hS rfl ?_ | refine ls23 3 hS rfl ?_ | refine ls23 4 hS rfl ?_ | refine ls23 5 hS rfl ?_ | refine ls23 6 hS rfl ?_ | refine ls23 7 hS rfl ?_ | refine valP_ok (ld23 (by assumption) (by assumption) (by assumption)) ?_
  refine callR (by kernel_rfl) (gcheck_ret hg hS) ?_
  rintro _ w ⟨rfl, hS⟩
  refine valP_ok (eq35 _ _ _ _ _) ?_
  refine cond_dt (by omega) ?_
  refine valP_ok (geq_ok _ _ _ _ _ _ _) ?_
  first | refine pick_dt (by first | assumption | omega) ?_ | refine pick_df (by first | assumption | omega) ?_ | refine pick_t (by first | rfl | assumption) ?_ | refine pick_f (by first | rfl | assumption) ?_ | refine pick_dt rfl ?_ | refine pick_df (not_not_intro rfl) ?_
  refine cond_split (fun h => ?_) (fun h => ?_)
  · first | refine valP_ok (fa23_0 _ _) ?_ | refine valP_ok (fao23_0 _ _ _) ?_
    first | refine valP_ok (ld3 (hS.cell 0 rfl rfl)) ?_ | refine valP_ok (ld3 (hS.cell 1 rfl rfl)) ?_ | refine valP_ok (ld3 (hS.cell 2 rfl rfl)) ?_ | refine valP_ok (ld3 (hS.cell 3 rfl rfl)) ?_ | refine valP_ok (ld3 (hS.cell 4 rfl rfl)) ?_ | refine valP_ok (ld3 (hS.cell 5 rfl rfl)) ?_ | refine valP_ok (ld3 (hS.cell 6 rfl rfl)) ?_ | refine valP_ok (ld3 (hS.cell 7 rfl rfl)) ?_ | refine valP_ok (ld3 (by assumption)) ?_
    refine valP_ok (sub_ok _ _ _ (by omega) (by omega) _) ?_
    first | refine valP_ok (fa23_2 _ _) ?_ | refine valP_ok (fao23_2 _ _ _) ?_
    first | refine valP_ok (ld3 (hS.cell 0 rfl rfl)) ?_ | refine valP_ok (ld3 (hS.cell 1 rfl rfl)) ?_ | refine valP_ok (ld3 (hS.cell 2 rfl rfl)) ?_ | refine valP_ok (ld3 (hS.cell 3 rfl rfl)) ?_ | refine valP_ok (ld3 (hS.cell 4 rfl rfl)) ?_ | refine valP_ok (ld3 (hS.cell 5 rfl rfl)) ?_ | refine valP_ok (ld3 (hS.cell 6 rfl rfl)) ?_ | refine valP_ok (ld3 (hS.cell 7 rfl rfl)) ?_ | refine valP_ok (ld3 (by assumption)) ?_
    refine valP_ok (sub_ok _ _ _ (by omega) (by omega) _) ?_
    refine valP_ok (leq_ok _ _ _ _ _ _ _) ?_
    first | refine pick_dt (by first | assumption | omega) ?_ | refine pick_df (by first | assumption | omega) ?_ | refine pick_t (by first | rfl | assumption) ?_ | refine pick_f (by first | rfl | assumption) ?_ | refine pick_dt rfl ?_ | refine pick_df (not_not_intro rfl) ?_
    unfold m41_2
    refine ⟨?_, hS.tail⟩
    rw [decide_eq_false]
    exact fun h1 => hn ⟨hg, by omega, by omega⟩
  · first | refine pick_dt (by first | assumption | omega) ?_ | refine pick_df (by first | assumption | omega) ?_ | refine pick_t (by first | rfl | assumption) ?_ | refine pick_f (by first | rfl | assumption) ?_ | refine pick_dt rfl ?_ | refine pick_df (not_not_intro rfl) ?_
    unfold m41_2
    exact ⟨rfl, hS.tail⟩
end
end
attribute [local semireducible] Res.cells Res.row World.cell? World.frozen? Sem.run
section
variable {P : Program} {w0 w : World} {F : List Nat} {L : List Res} {K : Value → World → Prop}
theorem row_all (k : Nat) {e size g n c : Nat} {xs : List Value} (h : St w0 F w L) (hk : L[k]? = some (Res.row e size (.slice (some ⟨g, 0, none⟩) n c) n xs)) : ∃ ys : List Value, ys.length = c * size ∧ ys.take (n * size) = xs ∧ St w0 F w (L.set k (Res.row e size (.slice (some ⟨g, 0, none⟩) c c) c ys)) := by
  have hh : w.ownsRow 0 e size (.slice (some ⟨g, 0, none⟩) n c) n xs := h.get k hk
  rcases hh.2 with ⟨hv, _⟩ | ⟨g', cap, cur, hv, hb, hg, hn, hm, hs, ht⟩
  · injection hv with h1; cases h1
  · injection hv with h1 h2 h3
    injection h1 with h1
    injection h1 with h1
    subst h1
    subst h3
    refine ⟨cur.toList, by simpa using hs, ht, h.updk k hk (Chg.refl _ _) (show w.ownsRow 0 e size (.slice (some ⟨g, 0, none⟩) c c) c cur.toList from ⟨by simpa using hs, .inr ⟨_, _, cur, rfl, hb, hg, Nat.le_refl _, hm, hs, by rw [List.take_of_length_le (by simp [hs])]⟩⟩) (fun g hg => .inl hg) (fun g hg => h.lt _ (List.mem_of_getElem? hk) g hg)⟩
theorem copy_ok (k : Nat) {t e ty size bytes n c o m dLen dCap sLen sCap g : Nat} {z : Value} {cs : Array Bool} {a : Addr} {xs news : List Value} (hT : SlT P t e size bytes z) (hS : St w0 F w L) (hk : L[k]? = some (Res.row e size (.slice (some ⟨g, 0, none⟩) n c) n xs))
    (hm : Nat.min sLen dLen = m) (hl : news.length = m * size) (hsrc : ∀ j v, news[j]? = some v → w.cell? (a.add j) = some v) (h1 : ∀ v ∈ news, v.oneCell' = true) (ho : o + m * size ≤ xs.length)
    (h : ∀ w', St w0 F w' (L.set k (Res.row e size (.slice (some ⟨g, 0, none⟩) n c) n (setAll xs o news))) → K (goInt m) w') : builtinP P .copy #[t, t] ty cs #[.slice (some ⟨g, o, none⟩) dLen dCap, .slice (some a) sLen sCap] w K := by
  obtain ⟨i, hi, hz, hs, hb⟩ := hT.parts
  have hld := run_loadCells_list (P := P) w a news hsrc
  have hst := run_storeCells_cells (P := P) g o news 0 w (fun j hj => by
    rw [Nat.add_zero, hS.row_cell k hk (u := xs[o + j]'(by omega)) (by simp)]; rfl) (fun j hj => hS.row_frozen k hk) h1
  rw [Nat.add_zero] at hst
  refine builtin_ok (w' := w.setCells g o news) (v := goInt m) ?_ (h _ (hS.row_sets k news o hk (by omega)))
  simp [builtin, Builtin.copy_, run_underlying hT.1, Builtin.lenOf, Builtin.firstCells, sizeOf, typeInfo, hi, hs, hm, ← hl, hld, hst]
theorem append_zeros_ok {t tn e ty size bytes n m c g : Nat} {z : Value} {cs : Array Bool} {xs : List Value} (hT : SlT P t e size bytes z) (htn : P.underlying tn = some (.int .i64)) (hS : St w0 F w L) (hR : ∀ j v, xs[j]? = some v → w.cell? (Addr.add ⟨g, 0, none⟩ j) = some v) (hx : xs.length = n * size)
    (hg : c < n + m) (h0 : 0 < m) (h63 : n + m ≤ maxLen) (hbytes : (n + m) * bytes ≤ 140737488355328)
    (h : ∀ b c' w', St w0 F w' (Res.row e size (.slice (some ⟨b, 0, none⟩) (n + m) c') (n + m) (xs ++ (Builtin.zeroCells z.cells m).toList) :: L) → K (.slice (some ⟨b, 0, none⟩) (n + m) c') w') : builtinP P .append #[t, tn] ty cs #[.slice (some ⟨g, 0, none⟩) n c, .int .i64 (m : Int)] w K := by
  obtain ⟨i, hi, hz, hs, hb⟩ := hT.parts
  subst hs
  subst hb
  have hsmall : n + m ≤ 9223372036854775807 := by simp only [maxLen] at h63; omega
  have hzs := hT.2.2.1
  have hpos := hT.2.2.2
  have hr : (Builtin.append_ #[t, tn] ty #[.slice (some ⟨g, 0, none⟩) n c, .int .i64 (m : Int)]).run P w = .ok (.slice (some ⟨w.heap.size, 0, none⟩) (n + m) (grownCap w (n + m) c e))
      (w.drew.alloc (.cells (xs.toArray ++ Builtin.zeroCells z.cells m ++ Builtin.zeroCells z.cells (grownCap w (n + m) c e - (n + m))) e)) := by
    have hn : ¬ (n + m ≤ c) := by omega
    have h63' : ¬ (9223372036854775807 < ((n : Int) + (m : Int))) := by omega
    have hfit := growslice_fits (need := n + m) (old := c) (bytes := i.bytes) (by omega) hbytes
    have h48' : ¬ (281474976710656 < Builtin.nextslicecap (n + m) c * i.bytes) := by omega
    have hmb : m * i.bytes ≤ (n + m) * i.bytes := Nat.mul_le_mul_right _ (by omega)
    have h48i : ¬ (281474976710656 < (m : Int) * (i.bytes : Int)) := by
      rw [← Int.natCast_mul]
      omega
    have hw : IntKind.i64.wrap (m : Int) = m := by rw [IntKind.wrap_i64]; omega
    have hneg : ¬ ((m : Int) < 0) := by omega
    have hns : ¬ (m * i.size = 0) := Nat.mul_ne_zero (by omega) (by omega)
    have hfo := run_firstCells_some (P := P) w.drew i.size n ⟨g, 0, none⟩ n c xs hx (by simpa using hR)
    have hm0 : m ≠ 0 := by omega
    simp [Builtin.append_, run_underlying hT.1, run_underlying htn, sizeOf, typeInfo, zeroValue, hi, hz, asInt, asIntOf, hw, hn, hneg, hns, hm0, h63', h48', h48i, Question.forced, hfo, newRow, grownCap]
  refine builtin_ok (append_run hr) (h _ _ _ (hS.row_add ⟨rfl, rfl, rfl, by simp, fun k hk _ => Below.heap_alloc w.drew _ k (by simpa using hk)⟩ ⟨?_, .inr ⟨w.heap.size, _, _, rfl, Nat.le_refl _, heap_alloc_new w.drew _, grownCap_ge w (n + m) c e, grownCap_le_maxLen w (n + m) c e h63, ?_, ?_⟩⟩))
  · simp [size_zeroCells, hzs, hx, Nat.add_mul]
  · simp only [Array.size_append, List.size_toArray, size_zeroCells, hzs, hx, ← Nat.add_mul]
    have := grownCap_ge w (n + m) c e
    congr 1
    omega
  · simp only [Array.toList_append]
    rw [List.take_left']
    simp [size_zeroCells, hzs, hx, Nat.add_mul]
end
section
variable {w0 w : World} {F : List Nat} {L : List Res} {K : Value → World → Prop}
theorem overlaps_ok {b g n c la ca lb cb o : Nat} {cs ys : List Value} {v : Value} (hS : St w0 F w (Res.cells b 67 cs :: L)) (hk : Res.row 67 12 v n ys ∈ L) (hv : v = .slice (some ⟨g, 0, none⟩) n c) (hc : 0 < c)
    (h : K (.bool false) w) : callP Try.prog (fnV 48) #[.slice (some ⟨b, 0, none⟩) la ca, .slice (some ⟨g, o, none⟩) lb cb] w K := by
  subst hv
  have hb : w.heap[b]? = some (.cells cs.toArray 67 (0, 0)) := hS.H _ (.head _)
  have hr : w.ownsRow 0 67 12 (.slice (some ⟨g, 0, none⟩) n c) n ys := hS.H _ (.tail _ hk)
  have hne : b ≠ g := fun he => by
    have := (List.pairwise_cons.1 hS.apart).1 _ hk b (.head _)
    subst he
    exact this (by simp [Res.row, Value.ownBlock])
  rcases hr.2 with ⟨hv, _⟩ | ⟨g', cap, cur, hv, _, hg, hn, hm, hs, ht⟩
  · injection hv with h1; cases h1
  injection hv with h1 h2 h3
  injection h1 with h1
  injection h1 with h1
  subst h1
  subst h3
  obtain ⟨i67, hi67, _, hs67, _⟩ := sl26.parts
  unfold callP
  simp only [Deferred.ofValue, Sem.run_bind, Sem.run_pure, Result.andThen_ok, invoke, Array.empty_append, Array.append_empty]
  rw [run_callFunc_extern Try.func48 (by kernel_rfl) (by kernel_rfl) (by kernel_rfl) (e := Extern.SlicesOverlaps.overlaps #[26, 26] #[4]) (by kernel_rfl),
    Lib.run_overlaps_apart w 26 4 67 Try.underlying26 12 (fun w => by simp [sizeOf, typeInfo, hi67, hs67]) ⟨b, 0, none⟩ ⟨g, o, none⟩ la ca lb cb hne 67 67 cs.length (c * 12) (by simp [World.shape?, hb]) (by simp [World.shape?, hg, hs]) (by omega) (by simp [World.frozen?, hb]) (by simp [World.frozen?, hb])]
  exact h
end
end Go.Proofs.Ytnhgdngbdoifnaa.M
namespace Go.Proofs.Ytnhgdngbdoifnaa.M
open Go.Proofs.Ytnhgdngbdoifnaa.F
set_option linter.unusedVariables false
set_option maxRecDepth 100000
variable {R : VP} {Q : EQ}
def m33_2 (R : VP) (t4 : Value) (w : World) : Prop :=
  R t4 w
def m33_1 (R : VP) (a2 b3 : Value) (w : World) : Prop :=
  valP Try.prog (Instr.fieldAt 67 a2 1) w fun t5 w =>
  valP Try.prog (Instr.loadAt 3 t5) w fun t6 w =>
  valP Try.prog (Instr.fieldAt 67 b3 1) w fun t7 w =>
  valP Try.prog (Instr.loadAt 3 t7) w fun t8 w =>
  valP Try.prog (binS BinOp.lss 3 (tm 6) (tm 8) t6 t8) w fun t9 w =>
  condP t9
  (pickP t9 (Value.bool true) undef fun t23 =>
  m33_2 R t23 w)
  (valP Try.prog (Instr.fieldAt 67 a2 1) w fun t11 w =>
  valP Try.prog (Instr.loadAt 3 t11) w fun t12 w =>
  valP Try.prog (Instr.fieldAt 67 b3 1) w fun t13 w =>
  valP Try.prog (Instr.loadAt 3 t13) w fun t14 w =>
  valP Try.prog (binS BinOp.eql 3 (tm 12) (tm 14) t12 t14) w fun t15 w =>
  condP t15
  (valP Try.prog (Instr.fieldAt 67 a2 0) w fun t17 w =>
  valP Try.prog (Instr.loadAt 3 t17) w fun t18 w =>
  valP Try.prog (Instr.fieldAt 67 b3 0) w fun t19 w =>
  valP Try.prog (Instr.loadAt 3 t19) w fun t20 w =>
  valP Try.prog (binS BinOp.lss 3 (tm 18) (tm 20) t18 t20) w fun t21 w =>
  pickP t15 t21 (Value.bool false) fun t22 =>
  pickP t9 (Value.bool true) t22 fun t23 =>
  m33_2 R t23 w)
  (pickP t15 undef (Value.bool false) fun t22 =>
  pickP t9 (Value.bool true) t22 fun t23 =>
  m33_2 R t23 w))
def m33_0 (R : VP) (a0 b1 : Value) (w : World) : Prop :=
  valP Try.prog (Instr.box 67 a0) w fun a2 w =>
  valP Try.prog (Instr.box 67 b1) w fun b3 w =>
  m33_1 R a2 b3 w
abbrev W33 := cwp Try.prog (fun i => 0)
noncomputable def k33_0 := bodyOf Try.f33
noncomputable def k33_1 := c2 k33_0
noncomputable def k33_2 := c2 k33_1
abbrev hR33 (R : VP) (Q : EQ) : Prop := ∀ e w, (R (e 4) w) → Q .ret e w
theorem s33_2 (hR : hR33 R Q) (e : Env) (w : World) (h : m33_2 R (e 4) w) : W33 k33_2 Q e w := by
  exact reA (hR _ _ h)
theorem s33_1 (hR : hR33 R Q) (e : Env) (w : World) (h : m33_1 R (e 2) (e 3) w) : W33 k33_1 Q e w := by
  refine seA ?_
  exact rgA 1 (fun e w => m33_2 R (e 4) w) h fun e w h => then_N (s33_2 hR e w h)
theorem s33_0 (hR : hR33 R Q) (e : Env) (w : World) (h : m33_0 R (e 0) (e 1) w) : W33 k33_0 Q e w := by
  refine seA ?_
  exact rgA 0 (fun e w => m33_1 R (e 2) (e 3) w) h fun e w h => then_N (s33_1 hR e w h)
abbrev m33 (R : VP) (a0 b1 : Value) (w : World) : Prop := m33_0 R a0 b1 w
theorem s33 (a0 b1 : Value) {R : VP} {w : World} (h : m33 R a0 b1 w) :
    Calls Try.prog 33 #[a0, b1] w fun e w' => ∃ v, e = .returned v ∧ R v w' :=
  calls_of_cwp (st := (fun i => 0)) (c := k33_0) (by kernel_rfl) Try.func33 (by kernel_rfl) (Nat.le_of_ble_eq_true (by kernel_rfl)) (by kernel_rfl)
    (s33_0 (R := R) (Q := endE Try.prog Try.f33 R) (fun e w h => kcast (by kernel_rfl) h) (argsE #[a0, b1]) w (kcast (by kernel_rfl) h))
def m34_5 (R : VP) (t2 : Value) (w : World) : Prop :=
  R t2 w
def m34_3 (R : VP) (t2 : Value) (w : World) : Prop :=
  R t2 w
def m34_2 (R : VP) (s0 : Value) (w : World) : Prop :=
  valP Try.prog (Instr.buildSlice 26 0 #[]) w fun t5 w =>
  builtinP Try.prog Builtin.append #[26, 26] 26 #[false, false] #[t5, s0] w fun t7 w =>
  m34_3 R t7 w
def m34_4 (R : VP) (s0 t4 : Value) (w : World) : Prop :=
  condP t4
  (m34_5 R (Value.slice none 0 0) w)
  (m34_2 R s0 w)
def m34_1 (R : VP) (s0 : Value) (w : World) : Prop :=
  valP Try.prog (binS BinOp.eql 26 (tm 3) (Operand.const (Value.slice none 0 0)) s0 (Value.slice none 0 0)) w fun t4 w =>
  m34_4 R s0 t4 w
def m34_0 (R : VP) (s0 : Value) (w : World) : Prop :=
  m34_1 R s0 w
abbrev W34 := cwp Try.prog (fun i => 0)
noncomputable def k34_0 := bodyOf Try.f34
noncomputable def k34_1 := c2 k34_0
noncomputable def k34_2 := c2 k34_1
noncomputable def k34_3 := c2 k34_2
noncomputable def k34_4 := c2 (c1 k34_1)
noncomputable def k34_5 := c2 (c1 k34_4)
abbrev hR34 (R : VP) (Q : EQ) : Prop := ∀ e w, (R (e 2) w) → Q .ret e w
theorem s34_5 (hR : hR34 R Q) (e : Env) (w : World) (h : m34_5 R (e 2) w) : W34 k34_5 Q e w := by
  exact reA (hR _ _ h)
theorem s34_3 (hR : hR34 R Q) (e : Env) (w : World) (h : m34_3 R (e 2) w) : W34 k34_3 Q e w := by
  exact reA (hR _ _ h)
theorem s34_2 (hR : hR34 R Q) (e : Env) (w : World) (h : m34_2 R (e 0) w) : W34 k34_2 Q e w := by
  refine seA ?_
  exact rgA 3 (fun e w => m34_3 R (e 2) w) h fun e w h => then_N (s34_3 hR e w h)
theorem s34_4 (hN : ∀ e w, (m34_2 R (e 0) w) → Q .normal e w) (hR : hR34 R Q) (e : Env) (w : World) (h : m34_4 R (e 0) (e 4) w) : W34 k34_4 Q e w := by
  refine coA (Operand.tmp 4) h (fun h1 => ?_) (fun h1 => ?_)
  · refine seA ?_
    exact rgA 2 (fun e w => m34_5 R (e 2) w) h1 fun e w h => then_N (s34_5 hR e w h)
  · exact skA (hN _ _ h1)
theorem s34_1 (hR : hR34 R Q) (e : Env) (w : World) (h : m34_1 R (e 0) w) : W34 k34_1 Q e w := by
  refine seA ?_
  have hN : ∀ e w, (m34_2 R (e 0) w) → (thenE (W34 k34_2 Q) Q) .normal e w := fun e w h => then_N (s34_2 hR e w h)
  have hR : hR34 R (thenE (W34 k34_2 Q) Q) := fun e w h => then_R (hR e w h)
  refine seA ?_
  exact rgA 1 (fun e w => m34_4 R (e 0) (e 4) w) h fun e w h => then_N (s34_4 hN hR e w h)
theorem s34_0 (hR : hR34 R Q) (e : Env) (w : World) (h : m34_0 R (e 0) w) : W34 k34_0 Q e w := by
  refine seA ?_
  exact rgA 0 (fun e w => m34_1 R (e 0) w) h fun e w h => then_N (s34_1 hR e w h)
abbrev m34 (R : VP) (s0 : Value) (w : World) : Prop := m34_0 R s0 w
theorem s34 (s0 : Value) {R : VP} {w : World} (h : m34 R s0 w) :
    Calls Try.prog 34 #[s0] w fun e w' => ∃ v, e = .returned v ∧ R v w' :=
  calls_of_cwp (st := (fun i => 0)) (c := k34_0) (by kernel_rfl) Try.func34 (by kernel_rfl) (Nat.le_of_ble_eq_true (by kernel_rfl)) (by kernel_rfl)
    (s34_0 (R := R) (Q := endE Try.prog Try.f34 R) (fun e w h => kcast (by kernel_rfl) h) (argsE #[s0]) w (kcast (by kernel_rfl) h))
def m38_9 (R : VP) (t6 : Value) (w : World) : Prop :=
  R t6 w
def m38_7 (R : VP) (t6 : Value) (w : World) : Prop :=
  R t6 w
def m38_6 (R : VP) (s0 : Value) (w : World) : Prop :=
  m38_7 R s0 w
def m38_5 (R : VP) (s0 oldlen7 : Value) (w : World) : Prop :=
  builtinP Try.prog Builtin.len #[26] 3 #[false] #[s0] w fun t29 w =>
  valP Try.prog (Instr.sliceAt 26 s0 (some t29) (some oldlen7) none) w fun t31 w =>
  builtinP Try.prog Builtin.clear #[26] 0 #[false] #[t31] w fun _ w =>
  m38_6 R s0 w
def m38_4 (R : VP) (s0 i1 j2 oldlen7 : Value) (w : World) : Prop :=
  anyDraw w fun w =>
  valS Try.prog (Instr.sliceAt 26 s0 none (some i1) none) w fun t22 =>
  valS Try.prog (Instr.sliceAt 26 s0 (some j2) none none) w fun t25 =>
  builtinP Try.prog Builtin.append #[26, 26] 26 #[false, false] #[t22, t25] w fun t26 w =>
  m38_5 R t26 oldlen7 w
def m38_3 (R : VP) (s0 i1 j2 : Value) (w : World) : Prop :=
  builtinP Try.prog Builtin.len #[26] 3 #[false] #[s0] w fun t19 w =>
  m38_4 R s0 i1 j2 t19 w
def m38_8 (R : VP) (s0 i1 j2 t16 : Value) (w : World) : Prop :=
  condP t16
  (m38_9 R s0 w)
  (m38_3 R s0 i1 j2 w)
def m38_2 (R : VP) (s0 i1 j2 : Value) (w : World) : Prop :=
  valP Try.prog (binS BinOp.eql 3 (tm 14) (tm 15) i1 j2) w fun t16 w =>
  m38_8 R s0 i1 j2 t16 w
def m38_1 (R : VP) (s0 i1 j2 : Value) (w : World) : Prop :=
  builtinP Try.prog Builtin.len #[26] 3 #[false] #[s0] w fun t12 w =>
  valP Try.prog (Instr.sliceAt 26 s0 (some i1) (some j2) (some t12)) w fun t13 w =>
  m38_2 R s0 i1 j2 w
def m38_0 (R : VP) (s0 i1 j2 : Value) (w : World) : Prop :=
  m38_1 R s0 i1 j2 w
abbrev W38 := cwp Try.prog (fun i => cond (Nat.beq i 5) 8 (0))
noncomputable def k38_0 := bodyOf Try.f38
noncomputable def k38_1 := c2 k38_0
noncomputable def k38_2 := c2 k38_1
noncomputable def k38_3 := c2 k38_2
noncomputable def k38_4 := c2 k38_3
noncomputable def k38_5 := c2 k38_4
noncomputable def k38_6 := c2 k38_5
noncomputable def k38_7 := c2 k38_6
noncomputable def k38_8 := c2 (c1 k38_2)
noncomputable def k38_9 := c2 (c1 k38_8)
abbrev hR38 (R : VP) (Q : EQ) : Prop := ∀ e w, (R (e 6) w) → Q .ret e w
theorem s38_9 (hR : hR38 R Q) (e : Env) (w : World) (h : m38_9 R (e 6) w) : W38 k38_9 Q e w := by
  exact reA (hR _ _ h)
theorem s38_7 (hR : hR38 R Q) (e : Env) (w : World) (h : m38_7 R (e 6) w) : W38 k38_7 Q e w := by
  exact reA (hR _ _ h)
theorem s38_6 (hR : hR38 R Q) (e : Env) (w : World) (h : m38_6 R (e 0) w) : W38 k38_6 Q e w := by
  refine seA ?_
  exact rgA 7 (fun e w => m38_7 R (e 6) w) h fun e w h => then_N (s38_7 hR e w h)
theorem s38_5 (hR : hR38 R Q) (e : Env) (w : World) (h : m38_5 R (e 0) (e 7) w) : W38 k38_5 Q e w := by
  refine seA ?_
  exact rgA 6 (fun e w => m38_6 R (e 0) w) h fun e w h => then_N (s38_6 hR e w h)
theorem s38_4 (hR : hR38 R Q) (e : Env) (w : World) (h : m38_4 R (e 0) (e 1) (e 2) (e 7) w) : W38 k38_4 Q e w := by
  refine seA ?_
  have hN : ∀ e w, (m38_5 R (e 0) (e 7) w) → (thenE (W38 k38_5 Q) Q) .normal e w := fun e w h => then_N (s38_5 hR e w h)
  exact taA 5 6 (fun e w => m38_5 R (e 0) (e 7) w) h hN
theorem s38_3 (hR : hR38 R Q) (e : Env) (w : World) (h : m38_3 R (e 0) (e 1) (e 2) w) : W38 k38_3 Q e w := by
  refine seA ?_
  exact rgA 4 (fun e w => m38_4 R (e 0) (e 1) (e 2) (e 7) w) h fun e w h => then_N (s38_4 hR e w h)
theorem s38_8 (hN : ∀ e w, (m38_3 R (e 0) (e 1) (e 2) w) → Q .normal e w) (hR : hR38 R Q) (e : Env) (w : World) (h : m38_8 R (e 0) (e 1) (e 2) (e 16) w) : W38 k38_8 Q e w := by
  refine coA (Operand.tmp 16) h (fun h1 => ?_) (fun h1 => ?_)
  · refine seA ?_
    exact rgA 3 (fun e w => m38_9 R (e 6) w) h1 fun e w h => then_N (s38_9 hR e w h)
  · exact skA (hN _ _ h1)
theorem s38_2 (hR : hR38 R Q) (e : Env) (w : World) (h : m38_2 R (e 0) (e 1) (e 2) w) : W38 k38_2 Q e w := by
  refine seA ?_
  have hN : ∀ e w, (m38_3 R (e 0) (e 1) (e 2) w) → (thenE (W38 k38_3 Q) Q) .normal e w := fun e w h => then_N (s38_3 hR e w h)
  have hR : hR38 R (thenE (W38 k38_3 Q) Q) := fun e w h => then_R (hR e w h)
  refine seA ?_
  exact rgA 2 (fun e w => m38_8 R (e 0) (e 1) (e 2) (e 16) w) h fun e w h => then_N (s38_8 hN hR e w h)
theorem s38_1 (hR : hR38 R Q) (e : Env) (w : World) (h : m38_1 R (e 0) (e 1) (e 2) w) : W38 k38_1 Q e w := by
  refine seA ?_
  exact rgA 1 (fun e w => m38_2 R (e 0) (e 1) (e 2) w) h fun e w h => then_N (s38_2 hR e w h)
theorem s38_0 (hR : hR38 R Q) (e : Env) (w : World) (h : m38_0 R (e 0) (e 1) (e 2) w) : W38 k38_0 Q e w := by
  refine seA ?_
  exact rgA 0 (fun e w => m38_1 R (e 0) (e 1) (e 2) w) h fun e w h => then_N (s38_1 hR e w h)
abbrev m38 (R : VP) (s0 i1 j2 : Value) (w : World) : Prop := m38_0 R s0 i1 j2 w
theorem s38 (s0 i1 j2 : Value) {R : VP} {w : World} (h : m38 R s0 i1 j2 w) :
    Calls Try.prog 38 #[s0, i1, j2] w fun e w' => ∃ v, e = .returned v ∧ R v w' :=
  calls_of_cwp (st := (fun i => cond (Nat.beq i 5) 8 (0))) (c := k38_0) (by kernel_rfl) Try.func38 (by kernel_rfl) (Nat.le_of_ble_eq_true (by kernel_rfl)) (by kernel_rfl)
    (s38_0 (R := R) (Q := endE Try.prog Try.f38 R) (fun e w h => kcast (by kernel_rfl) h) (argsE #[s0, i1, j2]) w (kcast (by kernel_rfl) h))
def m37_25 (R : VP) (t6 : Value) (w : World) : Prop :=
  R t6 w
def m37_23 (R : VP) (t6 : Value) (w : World) : Prop :=
  R t6 w
def m37_21 (R : VP) (t6 : Value) (w : World) : Prop :=
  R t6 w
def m37_20 (R : VP) (s29 : Value) (w : World) : Prop :=
  m37_21 R s29 w
def m37_19 (R : VP) (s0 i1 m7 s29 : Value) (w : World) : Prop :=
  anyDraw w fun w =>
  valS Try.prog (binS BinOp.add 3 (tm 47) (tm 48) i1 m7) w fun t49 =>
  valS Try.prog (Instr.sliceAt 26 s29 (some t49) none none) w fun t50 =>
  valS Try.prog (Instr.sliceAt 26 s0 (some i1) none none) w fun t53 =>
  builtinP Try.prog Builtin.copy #[26, 26] 3 #[false, false] #[t50, t53] w fun t54 w =>
  m37_20 R s29 w
def m37_18 (R : VP) (s0 i1 v2 m7 s29 : Value) (w : World) : Prop :=
  valP Try.prog (Instr.sliceAt 26 s29 (some i1) none none) w fun t43 w =>
  builtinP Try.prog Builtin.copy #[26, 26] 3 #[false, false] #[t43, v2] w fun t45 w =>
  m37_19 R s0 i1 m7 s29 w
def m37_16 (R : VP) (t6 : Value) (w : World) : Prop :=
  R t6 w
def m37_15 (R : VP) (s0 : Value) (w : World) : Prop :=
  m37_16 R s0 w
def m37_14 (R : VP) (s0 i1 v2 : Value) (w : World) : Prop :=
  valP Try.prog (Instr.sliceAt 26 s0 (some i1) none none) w fun t80 w =>
  builtinP Try.prog Builtin.copy #[26, 26] 3 #[false, false] #[t80, v2] w fun t82 w =>
  m37_15 R s0 w
def m37_12 (R : VP) (t6 : Value) (w : World) : Prop :=
  R t6 w
def m37_11 (R : VP) (s0 : Value) (w : World) : Prop :=
  m37_12 R s0 w
def m37_10 (R : VP) (s0 i1 m7 : Value) (w : World) : Prop :=
  valP Try.prog (Instr.sliceAt 26 s0 (some i1) none none) w fun t91 w =>
  callP Try.prog (fnV 49) #[t91, m7] w fun t93 w =>
  m37_11 R s0 w
def m37_9 (R : VP) (s0 i1 v2 m7 n8 : Value) (w : World) : Prop :=
  valP Try.prog (Instr.sliceAt 26 s0 (some n8) none none) w fun t86 w =>
  builtinP Try.prog Builtin.copy #[26, 26] 3 #[false, false] #[t86, v2] w fun t88 w =>
  m37_10 R s0 i1 m7 w
def m37_13 (R : VP) (s0 i1 v2 m7 n8 t68 : Value) (w : World) : Prop :=
  condP t68
  (anyDraw w fun w =>
  valS Try.prog (binS BinOp.add 3 (tm 70) (tm 71) i1 m7) w fun t72 =>
  valS Try.prog (Instr.sliceAt 26 s0 (some t72) none none) w fun t73 =>
  valS Try.prog (Instr.sliceAt 26 s0 (some i1) none none) w fun t76 =>
  builtinP Try.prog Builtin.copy #[26, 26] 3 #[false, false] #[t73, t76] w fun t77 w =>
  m37_14 R s0 i1 v2 w)
  (m37_9 R s0 i1 v2 m7 n8 w)
def m37_8 (R : VP) (s0 i1 v2 m7 n8 : Value) (w : World) : Prop :=
  valP Try.prog (binS BinOp.add 3 (tm 63) (tm 64) i1 m7) w fun t65 w =>
  valP Try.prog (Instr.sliceAt 26 s0 (some t65) none none) w fun t66 w =>
  callP Try.prog (fnV 48) #[v2, t66] w fun t67 w =>
  valP Try.prog (Op.unary UnOp.not t67) w fun t68 w =>
  m37_13 R s0 i1 v2 m7 n8 t68 w
def m37_7 (R : VP) (s0 i1 v2 m7 n8 : Value) (w : World) : Prop :=
  valP Try.prog (binS BinOp.add 3 (tm 57) (tm 58) n8 m7) w fun t59 w =>
  valP Try.prog (Instr.sliceAt 26 s0 none (some t59) none) w fun t60 w =>
  m37_8 R t60 i1 v2 m7 n8 w
def m37_17 (R : VP) (s0 i1 v2 m7 n8 t31 : Value) (w : World) : Prop :=
  condP t31
  (valP Try.prog (Instr.sliceAt 26 s0 none (some i1) none) w fun t34 w =>
  valP Try.prog (binS BinOp.add 3 (tm 35) (tm 36) n8 m7) w fun t37 w =>
  valP Try.prog (binS BinOp.sub 3 (tm 37) (tm 38) t37 i1) w fun t39 w =>
  builtinP Try.prog Builtin.append #[26, 3] 26 #[false, false] #[t34, t39] w fun t40 w =>
  m37_18 R s0 i1 v2 m7 t40 w)
  (m37_7 R s0 i1 v2 m7 n8 w)
def m37_6 (R : VP) (s0 i1 v2 m7 n8 : Value) (w : World) : Prop :=
  valP Try.prog (binS BinOp.add 3 (tm 26) (tm 27) n8 m7) w fun t28 w =>
  builtinP Try.prog Builtin.cap #[26] 3 #[false] #[s0] w fun t30 w =>
  valP Try.prog (binS BinOp.gtr 3 (tm 28) (tm 30) t28 t30) w fun t31 w =>
  m37_17 R s0 i1 v2 m7 n8 t31 w
def m37_22 (R : VP) (s0 i1 v2 m7 n8 t22 : Value) (w : World) : Prop :=
  condP t22
  (builtinP Try.prog Builtin.append #[26, 26] 26 #[false, false] #[s0, v2] w fun t25 w =>
  m37_23 R t25 w)
  (m37_6 R s0 i1 v2 m7 n8 w)
def m37_5 (R : VP) (s0 i1 v2 m7 n8 : Value) (w : World) : Prop :=
  valP Try.prog (binS BinOp.eql 3 (tm 20) (tm 21) i1 n8) w fun t22 w =>
  m37_22 R s0 i1 v2 m7 n8 t22 w
def m37_4 (R : VP) (s0 i1 v2 m7 : Value) (w : World) : Prop :=
  builtinP Try.prog Builtin.len #[26] 3 #[false] #[s0] w fun t19 w =>
  m37_5 R s0 i1 v2 m7 t19 w
def m37_24 (R : VP) (s0 i1 v2 m7 t16 : Value) (w : World) : Prop :=
  condP t16
  (m37_25 R s0 w)
  (m37_4 R s0 i1 v2 m7 w)
def m37_3 (R : VP) (s0 i1 v2 m7 : Value) (w : World) : Prop :=
  valP Try.prog (binS BinOp.eql 3 (tm 15) (ci 0) m7 (vi 0)) w fun t16 w =>
  m37_24 R s0 i1 v2 m7 t16 w
def m37_2 (R : VP) (s0 i1 v2 : Value) (w : World) : Prop :=
  builtinP Try.prog Builtin.len #[26] 3 #[false] #[v2] w fun t14 w =>
  m37_3 R s0 i1 v2 t14 w
def m37_1 (R : VP) (s0 i1 v2 : Value) (w : World) : Prop :=
  valP Try.prog (Instr.sliceAt 26 s0 (some i1) none none) w fun t12 w =>
  m37_2 R s0 i1 v2 w
def m37_0 (R : VP) (s0 i1 v2 : Value) (w : World) : Prop :=
  m37_1 R s0 i1 v2 w
abbrev W37 := cwp Try.prog (fun i => cond (Nat.beq i 15) 10 (cond (Nat.beq i 11) 10 (0)))
noncomputable def k37_0 := bodyOf Try.f37
noncomputable def k37_1 := c2 k37_0
noncomputable def k37_2 := c2 k37_1
noncomputable def k37_3 := c2 k37_2
noncomputable def k37_4 := c2 k37_3
noncomputable def k37_5 := c2 k37_4
noncomputable def k37_6 := c2 k37_5
noncomputable def k37_7 := c2 k37_6
noncomputable def k37_8 := c2 k37_7
noncomputable def k37_9 := c2 k37_8
noncomputable def k37_10 := c2 k37_9
noncomputable def k37_11 := c2 k37_10
noncomputable def k37_12 := c2 k37_11
noncomputable def k37_13 := c2 (c1 k37_8)
noncomputable def k37_14 := c2 (c1 k37_13)
noncomputable def k37_15 := c2 k37_14
noncomputable def k37_16 := c2 k37_15
noncomputable def k37_17 := c2 (c1 k37_6)
noncomputable def k37_18 := c2 (c1 k37_17)
noncomputable def k37_19 := c2 k37_18
noncomputable def k37_20 := c2 k37_19
noncomputable def k37_21 := c2 k37_20
noncomputable def k37_22 := c2 (c1 k37_5)
noncomputable def k37_23 := c2 (c1 k37_22)
noncomputable def k37_24 := c2 (c1 k37_3)
noncomputable def k37_25 := c2 (c1 k37_24)
abbrev hR37 (R : VP) (Q : EQ) : Prop := ∀ e w, (R (e 6) w) → Q .ret e w
theorem s37_25 (hR : hR37 R Q) (e : Env) (w : World) (h : m37_25 R (e 6) w) : W37 k37_25 Q e w := by
  exact reA (hR _ _ h)
theorem s37_23 (hR : hR37 R Q) (e : Env) (w : World) (h : m37_23 R (e 6) w) : W37 k37_23 Q e w := by
  exact reA (hR _ _ h)
theorem s37_21 (hR : hR37 R Q) (e : Env) (w : World) (h : m37_21 R (e 6) w) : W37 k37_21 Q e w := by
  exact reA (hR _ _ h)
theorem s37_20 (hR : hR37 R Q) (e : Env) (w : World) (h : m37_20 R (e 9) w) : W37 k37_20 Q e w := by
  refine seA ?_
  exact rgA 12 (fun e w => m37_21 R (e 6) w) h fun e w h => then_N (s37_21 hR e w h)
theorem s37_19 (hR : hR37 R Q) (e : Env) (w : World) (h : m37_19 R (e 0) (e 1) (e 7) (e 9) w) : W37 k37_19 Q e w := by
  refine seA ?_
  have hN : ∀ e w, (m37_20 R (e 9) w) → (thenE (W37 k37_20 Q) Q) .normal e w := fun e w h => then_N (s37_20 hR e w h)
  exact taA 11 8 (fun e w => m37_20 R (e 9) w) h hN
theorem s37_18 (hR : hR37 R Q) (e : Env) (w : World) (h : m37_18 R (e 0) (e 1) (e 2) (e 7) (e 9) w) : W37 k37_18 Q e w := by
  refine seA ?_
  exact rgA 10 (fun e w => m37_19 R (e 0) (e 1) (e 7) (e 9) w) h fun e w h => then_N (s37_19 hR e w h)
theorem s37_16 (hR : hR37 R Q) (e : Env) (w : World) (h : m37_16 R (e 6) w) : W37 k37_16 Q e w := by
  exact reA (hR _ _ h)
theorem s37_15 (hR : hR37 R Q) (e : Env) (w : World) (h : m37_15 R (e 0) w) : W37 k37_15 Q e w := by
  refine seA ?_
  exact rgA 17 (fun e w => m37_16 R (e 6) w) h fun e w h => then_N (s37_16 hR e w h)
theorem s37_14 (hR : hR37 R Q) (e : Env) (w : World) (h : m37_14 R (e 0) (e 1) (e 2) w) : W37 k37_14 Q e w := by
  refine seA ?_
  exact rgA 16 (fun e w => m37_15 R (e 0) w) h fun e w h => then_N (s37_15 hR e w h)
theorem s37_12 (hR : hR37 R Q) (e : Env) (w : World) (h : m37_12 R (e 6) w) : W37 k37_12 Q e w := by
  exact reA (hR _ _ h)
theorem s37_11 (hR : hR37 R Q) (e : Env) (w : World) (h : m37_11 R (e 0) w) : W37 k37_11 Q e w := by
  refine seA ?_
  exact rgA 20 (fun e w => m37_12 R (e 6) w) h fun e w h => then_N (s37_12 hR e w h)
theorem s37_10 (hR : hR37 R Q) (e : Env) (w : World) (h : m37_10 R (e 0) (e 1) (e 7) w) : W37 k37_10 Q e w := by
  refine seA ?_
  exact rgA 19 (fun e w => m37_11 R (e 0) w) h fun e w h => then_N (s37_11 hR e w h)
theorem s37_9 (hR : hR37 R Q) (e : Env) (w : World) (h : m37_9 R (e 0) (e 1) (e 2) (e 7) (e 8) w) : W37 k37_9 Q e w := by
  refine seA ?_
  exact rgA 18 (fun e w => m37_10 R (e 0) (e 1) (e 7) w) h fun e w h => then_N (s37_10 hR e w h)
theorem s37_13 (hN : ∀ e w, (m37_9 R (e 0) (e 1) (e 2) (e 7) (e 8) w) → Q .normal e w) (hR : hR37 R Q) (e : Env) (w : World) (h : m37_13 R (e 0) (e 1) (e 2) (e 7) (e 8) (e 68) w) : W37 k37_13 Q e w := by
  refine coA (Operand.tmp 68) h (fun h1 => ?_) (fun h1 => ?_)
  · refine seA ?_
    have hN : ∀ e w, (m37_14 R (e 0) (e 1) (e 2) w) → (thenE (W37 k37_14 Q) Q) .normal e w := fun e w h => then_N (s37_14 hR e w h)
    exact taA 15 8 (fun e w => m37_14 R (e 0) (e 1) (e 2) w) h1 hN
  · exact skA (hN _ _ h1)
theorem s37_8 (hR : hR37 R Q) (e : Env) (w : World) (h : m37_8 R (e 0) (e 1) (e 2) (e 7) (e 8) w) : W37 k37_8 Q e w := by
  refine seA ?_
  have hN : ∀ e w, (m37_9 R (e 0) (e 1) (e 2) (e 7) (e 8) w) → (thenE (W37 k37_9 Q) Q) .normal e w := fun e w h => then_N (s37_9 hR e w h)
  have hR : hR37 R (thenE (W37 k37_9 Q) Q) := fun e w h => then_R (hR e w h)
  refine seA ?_
  exact rgA 14 (fun e w => m37_13 R (e 0) (e 1) (e 2) (e 7) (e 8) (e 68) w) h fun e w h => then_N (s37_13 hN hR e w h)
theorem s37_7 (hR : hR37 R Q) (e : Env) (w : World) (h : m37_7 R (e 0) (e 1) (e 2) (e 7) (e 8) w) : W37 k37_7 Q e w := by
  refine seA ?_
  exact rgA 13 (fun e w => m37_8 R (e 0) (e 1) (e 2) (e 7) (e 8) w) h fun e w h => then_N (s37_8 hR e w h)
theorem s37_17 (hN : ∀ e w, (m37_7 R (e 0) (e 1) (e 2) (e 7) (e 8) w) → Q .normal e w) (hR : hR37 R Q) (e : Env) (w : World) (h : m37_17 R (e 0) (e 1) (e 2) (e 7) (e 8) (e 31) w) : W37 k37_17 Q e w := by
  refine coA (Operand.tmp 31) h (fun h1 => ?_) (fun h1 => ?_)
  · refine seA ?_
    exact rgA 9 (fun e w => m37_18 R (e 0) (e 1) (e 2) (e 7) (e 9) w) h1 fun e w h => then_N (s37_18 hR e w h)
  · exact skA (hN _ _ h1)
theorem s37_6 (hR : hR37 R Q) (e : Env) (w : World) (h : m37_6 R (e 0) (e 1) (e 2) (e 7) (e 8) w) : W37 k37_6 Q e w := by
  refine seA ?_
  have hN : ∀ e w, (m37_7 R (e 0) (e 1) (e 2) (e 7) (e 8) w) → (thenE (W37 k37_7 Q) Q) .normal e w := fun e w h => then_N (s37_7 hR e w h)
  have hR : hR37 R (thenE (W37 k37_7 Q) Q) := fun e w h => then_R (hR e w h)
  refine seA ?_
  exact rgA 8 (fun e w => m37_17 R (e 0) (e 1) (e 2) (e 7) (e 8) (e 31) w) h fun e w h => then_N (s37_17 hN hR e w h)
theorem s37_22 (hN : ∀ e w, (m37_6 R (e 0) (e 1) (e 2) (e 7) (e 8) w) → Q .normal e w) (hR : hR37 R Q) (e : Env) (w : World) (h : m37_22 R (e 0) (e 1) (e 2) (e 7) (e 8) (e 22) w) : W37 k37_22 Q e w := by
  refine coA (Operand.tmp 22) h (fun h1 => ?_) (fun h1 => ?_)
  · refine seA ?_
    exact rgA 7 (fun e w => m37_23 R (e 6) w) h1 fun e w h => then_N (s37_23 hR e w h)
  · exact skA (hN _ _ h1)
theorem s37_5 (hR : hR37 R Q) (e : Env) (w : World) (h : m37_5 R (e 0) (e 1) (e 2) (e 7) (e 8) w) : W37 k37_5 Q e w := by
  refine seA ?_
  have hN : ∀ e w, (m37_6 R (e 0) (e 1) (e 2) (e 7) (e 8) w) → (thenE (W37 k37_6 Q) Q) .normal e w := fun e w h => then_N (s37_6 hR e w h)
  have hR : hR37 R (thenE (W37 k37_6 Q) Q) := fun e w h => then_R (hR e w h)
  refine seA ?_
  exact rgA 6 (fun e w => m37_22 R (e 0) (e 1) (e 2) (e 7) (e 8) (e 22) w) h fun e w h => then_N (s37_22 hN hR e w h)
theorem s37_4 (hR : hR37 R Q) (e : Env) (w : World) (h : m37_4 R (e 0) (e 1) (e 2) (e 7) w) : W37 k37_4 Q e w := by
  refine seA ?_
  exact rgA 5 (fun e w => m37_5 R (e 0) (e 1) (e 2) (e 7) (e 8) w) h fun e w h => then_N (s37_5 hR e w h)
theorem s37_24 (hN : ∀ e w, (m37_4 R (e 0) (e 1) (e 2) (e 7) w) → Q .normal e w) (hR : hR37 R Q) (e : Env) (w : World) (h : m37_24 R (e 0) (e 1) (e 2) (e 7) (e 16) w) : W37 k37_24 Q e w := by
  refine coA (Operand.tmp 16) h (fun h1 => ?_) (fun h1 => ?_)
  · refine seA ?_
    exact rgA 4 (fun e w => m37_25 R (e 6) w) h1 fun e w h => then_N (s37_25 hR e w h)
  · exact skA (hN _ _ h1)
theorem s37_3 (hR : hR37 R Q) (e : Env) (w : World) (h : m37_3 R (e 0) (e 1) (e 2) (e 7) w) : W37 k37_3 Q e w := by
  refine seA ?_
  have hN : ∀ e w, (m37_4 R (e 0) (e 1) (e 2) (e 7) w) → (thenE (W37 k37_4 Q) Q) .normal e w := fun e w h => then_N (s37_4 hR e w h)
  have hR : hR37 R (thenE (W37 k37_4 Q) Q) := fun e w h => then_R (hR e w h)
  refine seA ?_
  exact rgA 3 (fun e w => m37_24 R (e 0) (e 1) (e 2) (e 7) (e 16) w) h fun e w h => then_N (s37_24 hN hR e w h)
theorem s37_2 (hR : hR37 R Q) (e : Env) (w : World) (h : m37_2 R (e 0) (e 1) (e 2) w) : W37 k37_2 Q e w := by
  refine seA ?_
  exact rgA 2 (fun e w => m37_3 R (e 0) (e 1) (e 2) (e 7) w) h fun e w h => then_N (s37_3 hR e w h)
theorem s37_1 (hR : hR37 R Q) (e : Env) (w : World) (h : m37_1 R (e 0) (e 1) (e 2) w) : W37 k37_1 Q e w := by
  refine seA ?_
  exact rgA 1 (fun e w => m37_2 R (e 0) (e 1) (e 2) w) h fun e w h => then_N (s37_2 hR e w h)
theorem s37_0 (hR : hR37 R Q) (e : Env) (w : World) (h : m37_0 R (e 0) (e 1) (e 2) w) : W37 k37_0 Q e w := by
  refine seA ?_
  exact rgA 0 (fun e w => m37_1 R (e 0) (e 1) (e 2) w) h fun e w h => then_N (s37_1 hR e w h)
abbrev m37 (R : VP) (s0 i1 v2 : Value) (w : World) : Prop := m37_0 R s0 i1 v2 w
theorem s37 (s0 i1 v2 : Value) {R : VP} {w : World} (h : m37 R s0 i1 v2 w) :
    Calls Try.prog 37 #[s0, i1, v2] w fun e w' => ∃ v, e = .returned v ∧ R v w' :=
  calls_of_cwp (st := (fun i => cond (Nat.beq i 15) 10 (cond (Nat.beq i 11) 10 (0)))) (c := k37_0) (by kernel_rfl) Try.func37 (by kernel_rfl) (Nat.le_of_ble_eq_true (by kernel_rfl)) (by kernel_rfl)
    (s37_0 (R := R) (Q := endE Try.prog Try.f37 R) (fun e w h => kcast (by kernel_rfl) h) (argsE #[s0, i1, v2]) w (kcast (by kernel_rfl) h))
def m20_2 (R : VP) (t0 : Value) (w : World) : Prop :=
  valS Try.prog (loadC 28 t0) w fun r0 =>
  R r0 w
def m20_1 (R : VP) (t0 : Value) (w : World) : Prop :=
  valP Try.prog (Instr.build 28 #[(0, (vi (-1)))]) w fun t1 w =>
  unitP Try.prog (Instr.storeAt 28 t0 t1) w fun _ w =>
  m20_2 R t0 w
def m20_0 (R : VP) (w : World) : Prop :=
  valP Try.prog (Instr.alloc 28 true (.tuple #[])) w fun t0 w =>
  m20_1 R t0 w
abbrev W20 := cwp Try.prog (fun i => 0)
noncomputable def k20_0 := bodyOf Try.f20
noncomputable def k20_1 := c2 k20_0
noncomputable def k20_2 := c2 k20_1
abbrev hR20 (R : VP) (Q : EQ) : Prop := ∀ e w, (valS Try.prog (loadC 28 (e 0)) w fun r0 =>
R r0 w) → Q .ret e w
theorem s20_2 (hR : hR20 R Q) (e : Env) (w : World) (h : m20_2 R (e 0) w) : W20 k20_2 Q e w := by
  exact reA (hR _ _ h)
theorem s20_1 (hR : hR20 R Q) (e : Env) (w : World) (h : m20_1 R (e 0) w) : W20 k20_1 Q e w := by
  refine seA ?_
  exact rgA 1 (fun e w => m20_2 R (e 0) w) h fun e w h => then_N (s20_2 hR e w h)
theorem s20_0 (hR : hR20 R Q) (e : Env) (w : World) (h : m20_0 R w) : W20 k20_0 Q e w := by
  refine seA ?_
  exact rgA 0 (fun e w => m20_1 R (e 0) w) h fun e w h => then_N (s20_1 hR e w h)
abbrev m20 (R : VP) (w : World) : Prop := m20_0 R w
theorem s20  {R : VP} {w : World} (h : m20 R  w) :
    Calls Try.prog 20 #[] w fun e w' => ∃ v, e = .returned v ∧ R v w' :=
  calls_of_cwp (st := (fun i => 0)) (c := k20_0) (by kernel_rfl) Try.func20 (by kernel_rfl) (Nat.le_of_ble_eq_true (by kernel_rfl)) (by kernel_rfl)
    (s20_0 (R := R) (Q := endE Try.prog Try.f20 R) (fun e w h => kcast (by kernel_rfl) h) (argsE #[]) w (kcast (by kernel_rfl) h))
def m21_30 (R : VP) (t4 t5 : Value) (w : World) : Prop :=
  valS Try.prog (loadC 28 t4) w fun r0 =>
  R (Value.tuple #[r0, t5]) w
def m21_27 (R : VP) (K1 : VP) (s2 r3 t4 sort6 rest7 at9 i10 : Value) (w : World) : Prop :=
  valP Try.prog (binS BinOp.add 3 (tm 47) (ci 1) i10 (vi 1)) w fun t48 w =>
  K1 t48 w
def m21_16 (R : VP) (t4 t5 : Value) (w : World) : Prop :=
  valS Try.prog (loadC 28 t4) w fun r0 =>
  R (Value.tuple #[r0, t5]) w
def m21_11 (R : VP) (t4 t5 : Value) (w : World) : Prop :=
  valS Try.prog (loadC 28 t4) w fun r0 =>
  R (Value.tuple #[r0, t5]) w
def m21_10 (R : VP) (s2 t4 : Value) (w : World) : Prop :=
  valP Try.prog (Instr.loadAt 28 s2) w fun t151 w =>
  unitP Try.prog (Instr.storeAt 28 t4 t151) w fun _ w =>
  m21_11 R t4 (vi 0) w
def m21_9 (R : VP) (s2 t4 l12 : Value) (w : World) : Prop :=
  valP Try.prog (Instr.fieldAt 28 s2 4) w fun t150 w =>
  unitP Try.prog (Instr.storeAt 26 t150 l12) w fun _ w =>
  m21_10 R s2 t4 w
def m21_14 (R : VP) (s2 t4 l12 n13 : Value) (w : World) : Prop :=
  anyDraw w fun w =>
  heldP w fun J =>
  valJ Try.prog J (Instr.indexAt 51 n13 (vi 0)) fun t95 =>
  valJ Try.prog J (Instr.loadAt 3 t95) fun t96 =>
  valJ Try.prog J (Instr.indexAt 51 n13 (vi 1)) fun t98 =>
  valJ Try.prog J (Instr.loadAt 3 t98) fun t99 =>
  valJ Try.prog J (Instr.indexAt 51 n13 (vi 2)) fun t101 =>
  valJ Try.prog J (Instr.loadAt 3 t101) fun t102 =>
  valJ Try.prog J (Instr.indexAt 51 n13 (vi 3)) fun t104 =>
  valJ Try.prog J (Instr.loadAt 3 t104) fun t105 =>
  valJ Try.prog J (Instr.fieldAt 28 s2 0) fun t106 =>
  unitP Try.prog (Instr.storeAt 3 t106 t96) w fun _ w =>
  stayP J w
  (valJ Try.prog J (Instr.fieldAt 28 s2 1) fun t107 =>
  unitP Try.prog (Instr.storeAt 3 t107 t99) w fun _ w =>
  stayP J w
  (valJ Try.prog J (Instr.fieldAt 28 s2 2) fun t108 =>
  unitP Try.prog (Instr.storeAt 3 t108 t102) w fun _ w =>
  stayP J w
  (valJ Try.prog J (Instr.fieldAt 28 s2 3) fun t109 =>
  unitP Try.prog (Instr.storeAt 3 t109 t105) w fun _ w =>
  stayP J w
  (m21_9 R s2 t4 l12 w))))
def m21_15 (R : VP) (s2 t4 l12 n13 t92 : Value) (w : World) : Prop :=
  condP t92
  (valP Try.prog (Instr.build 28 #[]) w fun t93 w =>
  unitP Try.prog (Instr.storeAt 28 t4 t93) w fun _ w =>
  m21_16 R t4 (vi 2) w)
  (m21_14 R s2 t4 l12 n13 w)
def m21_13 (R : VP) (s2 r3 t4 l12 n13 more14 e15 : Value) (w : World) : Prop :=
  valP Try.prog (binS BinOp.neq 35 (tm 77) (ci 0) e15 (vi 0)) w fun t78 w =>
  condP t78
  (pickP t78 (Value.bool true) undef fun t82 =>
  condP t82
  (pickP t82 (Value.bool true) undef fun t87 =>
  condP t87
  (pickP t87 (Value.bool true) undef fun t92 =>
  m21_15 R s2 t4 l12 n13 t92 w)
  (valP Try.prog (Instr.fieldAt 46 r3 1) w fun t89 w =>
  valP Try.prog (Instr.loadAt 3 t89) w fun t90 w =>
  valP Try.prog (binS BinOp.neq 3 (tm 90) (ci 0) t90 (vi 0)) w fun t91 w =>
  pickP t87 (Value.bool true) t91 fun t92 =>
  m21_15 R s2 t4 l12 n13 t92 w))
  (valP Try.prog (Instr.fieldAt 46 r3 0) w fun t84 w =>
  valP Try.prog (Instr.loadAt 3 t84) w fun t85 w =>
  valP Try.prog (binS BinOp.neq 3 (tm 85) (ci 0) t85 (vi 0)) w fun t86 w =>
  pickP t82 (Value.bool true) t86 fun t87 =>
  condP t87
  (pickP t87 (Value.bool true) undef fun t92 =>
  m21_15 R s2 t4 l12 n13 t92 w)
  (valP Try.prog (Instr.fieldAt 46 r3 1) w fun t89 w =>
  valP Try.prog (Instr.loadAt 3 t89) w fun t90 w =>
  valP Try.prog (binS BinOp.neq 3 (tm 90) (ci 0) t90 (vi 0)) w fun t91 w =>
  pickP t87 (Value.bool true) t91 fun t92 =>
  m21_15 R s2 t4 l12 n13 t92 w)))
  (valP Try.prog (binS BinOp.neq 9 (tm 80) (Operand.const (Value.string ⟨#[]⟩)) more14 (Value.string ⟨#[]⟩)) w fun t81 w =>
  pickP t78 (Value.bool true) t81 fun t82 =>
  condP t82
  (pickP t82 (Value.bool true) undef fun t87 =>
  condP t87
  (pickP t87 (Value.bool true) undef fun t92 =>
  m21_15 R s2 t4 l12 n13 t92 w)
  (valP Try.prog (Instr.fieldAt 46 r3 1) w fun t89 w =>
  valP Try.prog (Instr.loadAt 3 t89) w fun t90 w =>
  valP Try.prog (binS BinOp.neq 3 (tm 90) (ci 0) t90 (vi 0)) w fun t91 w =>
  pickP t87 (Value.bool true) t91 fun t92 =>
  m21_15 R s2 t4 l12 n13 t92 w))
  (valP Try.prog (Instr.fieldAt 46 r3 0) w fun t84 w =>
  valP Try.prog (Instr.loadAt 3 t84) w fun t85 w =>
  valP Try.prog (binS BinOp.neq 3 (tm 85) (ci 0) t85 (vi 0)) w fun t86 w =>
  pickP t82 (Value.bool true) t86 fun t87 =>
  condP t87
  (pickP t87 (Value.bool true) undef fun t92 =>
  m21_15 R s2 t4 l12 n13 t92 w)
  (valP Try.prog (Instr.fieldAt 46 r3 1) w fun t89 w =>
  valP Try.prog (Instr.loadAt 3 t89) w fun t90 w =>
  valP Try.prog (binS BinOp.neq 3 (tm 90) (ci 0) t90 (vi 0)) w fun t91 w =>
  pickP t87 (Value.bool true) t91 fun t92 =>
  m21_15 R s2 t4 l12 n13 t92 w)))
def m21_23 (R : VP) (t4 t5 : Value) (w : World) : Prop :=
  valS Try.prog (loadC 28 t4) w fun r0 =>
  R (Value.tuple #[r0, t5]) w
def m21_21 (R : VP) (s2 t4 at9 i10 l12 t124 : Value) (w : World) : Prop :=
  condP t124
  (valP Try.prog (Instr.loadAt 67 at9) w fun t127 w =>
  valP Try.prog (Instr.indexAt 26 l12 i10) w fun t128 w =>
  unitP Try.prog (Instr.storeAt 67 t128 t127) w fun _ w =>
  m21_9 R s2 t4 l12 w)
  (valP Try.prog (Instr.loadAt 67 at9) w fun t131 w =>
  valP Try.prog (Instr.buildSlice 26 1 #[(0, t131)]) w fun t132 w =>
  callP Try.prog (fnV 37) #[l12, i10, t132] w fun t133 w =>
  m21_9 R s2 t4 t133 w)
def m21_20 (R : VP) (s2 t4 at9 i10 is11 l12 : Value) (w : World) : Prop :=
  m21_21 R s2 t4 at9 i10 l12 is11 w
def m21_19 (R : VP) (s2 t4 at9 i10 is11 l12 a16 : Value) (w : World) : Prop :=
  valP Try.prog (Instr.loadAt 65 a16) w fun t122 w =>
  valP Try.prog (Instr.fieldAt 67 at9 2) w fun t123 w =>
  unitP Try.prog (Instr.storeAt 65 t123 t122) w fun _ w =>
  m21_20 R s2 t4 at9 i10 is11 l12 w
def m21_22 (R : VP) (s2 t4 at9 i10 is11 l12 a16 e17 t119 : Value) (w : World) : Prop :=
  condP t119
  (valP Try.prog (Instr.build 28 #[]) w fun t120 w =>
  unitP Try.prog (Instr.storeAt 28 t4 t120) w fun _ w =>
  m21_23 R t4 e17 w)
  (m21_19 R s2 t4 at9 i10 is11 l12 a16 w)
def m21_18 (R : VP) (s2 t4 at9 i10 is11 l12 a16 e17 : Value) (w : World) : Prop :=
  valP Try.prog (binS BinOp.neq 35 (tm 118) (ci 0) e17 (vi 0)) w fun t119 w =>
  m21_22 R s2 t4 at9 i10 is11 l12 a16 e17 t119 w
def m21_25 (R : VP) (t4 t5 : Value) (w : World) : Prop :=
  valS Try.prog (loadC 28 t4) w fun r0 =>
  R (Value.tuple #[r0, t5]) w
def m21_24 (R : VP) (s2 t4 i10 l12 t134 : Value) (w : World) : Prop :=
  condP t134
  (valP Try.prog (binS BinOp.add 3 (tm 146) (ci 1) i10 (vi 1)) w fun t147 w =>
  callP Try.prog (fnV 38) #[l12, i10, t147] w fun t148 w =>
  m21_9 R s2 t4 t148 w)
  (valP Try.prog (Instr.build 28 #[]) w fun t67 w =>
  unitP Try.prog (Instr.storeAt 28 t4 t67) w fun _ w =>
  m21_25 R t4 (vi 2) w)
def m21_17 (R : VP) (s2 t4 sort6 rest7 at9 i10 is11 l12 t110 : Value) (w : World) : Prop :=
  condP t110
  (callP Try.prog (fnV 36) #[rest7] w fun t115 w =>
  valP Try.prog (Instr.extract t115 0) w fun t116 w =>
  valP Try.prog (Instr.extract t115 1) w fun t117 w =>
  valP Try.prog (Instr.alloc 65 true (.tuple #[])) w fun a16 w =>
  unitP Try.prog (Instr.storeAt 65 a16 t116) w fun _ w =>
  m21_18 R s2 t4 at9 i10 is11 l12 a16 t117 w)
  (valP Try.prog (binS BinOp.eql 3 (tm 135) (ci 2) sort6 (vi 2)) w fun t136 w =>
  condP t136
  (valP Try.prog (binS BinOp.eql 9 (tm 138) (Operand.const (Value.string ⟨#[]⟩)) rest7 (Value.string ⟨#[]⟩)) w fun t139 w =>
  pickP t136 t139 (Value.bool false) fun t140 =>
  condP t140
  (pickP t140 is11 (Value.bool false) fun t143 =>
  m21_24 R s2 t4 i10 l12 t143 w)
  (pickP t140 undef (Value.bool false) fun t143 =>
  m21_24 R s2 t4 i10 l12 t143 w))
  (pickP t136 undef (Value.bool false) fun t140 =>
  condP t140
  (pickP t140 is11 (Value.bool false) fun t143 =>
  m21_24 R s2 t4 i10 l12 t143 w)
  (pickP t140 undef (Value.bool false) fun t143 =>
  m21_24 R s2 t4 i10 l12 t143 w)))
def m21_12 (R : VP) (s2 r3 t4 sort6 rest7 at9 i10 is11 l12 t68 : Value) (w : World) : Prop :=
  condP t68
  (callP Try.prog (fnV 35) #[rest7, (vi 4)] w fun t73 w =>
  valP Try.prog (Instr.extract t73 0) w fun t74 w =>
  valP Try.prog (Instr.extract t73 1) w fun t75 w =>
  valP Try.prog (Instr.extract t73 2) w fun t76 w =>
  m21_13 R s2 r3 t4 l12 t74 t75 t76 w)
  (valP Try.prog (binS BinOp.eql 3 (tm 111) (ci 1) sort6 (vi 1)) w fun t112 w =>
  m21_17 R s2 t4 sort6 rest7 at9 i10 is11 l12 t112 w)
def m21_8 (R : VP) (s2 r3 t4 sort6 rest7 at9 i10 is11 l12 : Value) (w : World) : Prop :=
  valP Try.prog (binS BinOp.eql 3 (tm 69) (ci 0) sort6 (vi 0)) w fun t70 w =>
  m21_12 R s2 r3 t4 sort6 rest7 at9 i10 is11 l12 t70 w
def m21_7 (R : VP) (s2 r3 t4 sort6 rest7 at9 i10 is11 : Value) (w : World) : Prop :=
  valP Try.prog (Instr.fieldAt 28 s2 4) w fun t64 w =>
  valP Try.prog (Instr.loadAt 26 t64) w fun t65 w =>
  callP Try.prog (fnV 34) #[t65] w fun t66 w =>
  m21_8 R s2 r3 t4 sort6 rest7 at9 i10 is11 t66 w
def m21_6 (R : VP) (s2 r3 t4 sort6 rest7 at9 i10 : Value) (w : World) : Prop :=
  anyDraw w fun w =>
  valS Try.prog (Instr.fieldAt 28 s2 4) w fun t50 =>
  valS Try.prog (Instr.loadAt 26 t50) w fun t51 =>
  builtinS Try.prog Builtin.len #[26] 3 #[false] #[t51] w fun t52 =>
  valS Try.prog (binS BinOp.lss 3 (tm 49) (tm 52) i10 t52) w fun t53 =>
  condP t53
  (valS Try.prog (Instr.loadAt 67 at9) w fun t55 =>
  valS Try.prog (Instr.fieldAt 28 s2 4) w fun t56 =>
  valS Try.prog (Instr.loadAt 26 t56) w fun t57 =>
  valS Try.prog (Instr.indexAt 26 t57 i10) w fun t59 =>
  valS Try.prog (Instr.loadAt 67 t59) w fun t60 =>
  callP Try.prog (fnV 33) #[t55, t60] w fun t61 w =>
  valP Try.prog (Op.unary UnOp.not t61) w fun t62 w =>
  pickP t53 t62 (Value.bool false) fun t63 =>
  m21_7 R s2 r3 t4 sort6 rest7 at9 i10 t63 w)
  (pickP t53 undef (Value.bool false) fun t63 =>
  m21_7 R s2 r3 t4 sort6 rest7 at9 i10 t63 w)
def m21_28 (R : VP) (K1 : VP) (s2 r3 t4 sort6 rest7 at9 i10 t46 : Value) (w : World) : Prop :=
  condP t46
  (m21_27 R K1 s2 r3 t4 sort6 rest7 at9 i10 w)
  (m21_6 R s2 r3 t4 sort6 rest7 at9 i10 w)
def m21_26 (R : VP) (K1 : VP) (s2 r3 t4 sort6 rest7 at9 i10 : Value) (w : World) : Prop :=
  anyDraw w fun w =>
  valS Try.prog (Instr.fieldAt 28 s2 4) w fun t34 =>
  valS Try.prog (Instr.loadAt 26 t34) w fun t35 =>
  builtinS Try.prog Builtin.len #[26] 3 #[false] #[t35] w fun t36 =>
  valS Try.prog (binS BinOp.lss 3 (tm 33) (tm 36) i10 t36) w fun t37 =>
  condP t37
  (valS Try.prog (Instr.fieldAt 28 s2 4) w fun t39 =>
  valS Try.prog (Instr.loadAt 26 t39) w fun t40 =>
  valS Try.prog (Instr.indexAt 26 t40 i10) w fun t42 =>
  valS Try.prog (Instr.loadAt 67 t42) w fun t43 =>
  valS Try.prog (Instr.loadAt 67 at9) w fun t44 =>
  callP Try.prog (fnV 33) #[t43, t44] w fun t45 w =>
  pickP t37 t45 (Value.bool false) fun t46 =>
  m21_28 R K1 s2 r3 t4 sort6 rest7 at9 i10 t46 w)
  (pickP t37 undef (Value.bool false) fun t46 =>
  m21_28 R K1 s2 r3 t4 sort6 rest7 at9 i10 t46 w)
def m21_5 (R : VP) (s2 r3 t4 sort6 rest7 at9 i10 : Value) (w : World) : Prop :=
  loopP (fun (K1 : VP) (s : Value) w => m21_26 R K1 s2 r3 t4 sort6 rest7 at9 s w) i10 w
def m21_4 (R : VP) (s2 r3 t4 sort6 rest7 at9 : Value) (w : World) : Prop :=
  m21_5 R s2 r3 t4 sort6 rest7 at9 (vi 0) w
def m21_3 (R : VP) (s2 r3 t4 sort6 rest7 : Value) (w : World) : Prop :=
  valP Try.prog (Instr.fieldAt 46 r3 0) w fun t28 w =>
  valP Try.prog (Instr.loadAt 3 t28) w fun t29 w =>
  valP Try.prog (Instr.fieldAt 46 r3 1) w fun t30 w =>
  valP Try.prog (Instr.loadAt 3 t30) w fun t31 w =>
  valP Try.prog (Instr.build 67 #[(0, t29), (1, t31)]) w fun t32 w =>
  valP Try.prog (Instr.alloc 67 true (.tuple #[])) w fun at9 w =>
  unitP Try.prog (Instr.storeAt 67 at9 t32) w fun _ w =>
  m21_4 R s2 r3 t4 sort6 rest7 at9 w
def m21_29 (R : VP) (s2 r3 t4 sort6 rest7 t26 : Value) (w : World) : Prop :=
  condP t26
  (valP Try.prog (Instr.build 28 #[]) w fun t27 w =>
  unitP Try.prog (Instr.storeAt 28 t4 t27) w fun _ w =>
  m21_30 R t4 (vi 2) w)
  (m21_3 R s2 r3 t4 sort6 rest7 w)
def m21_2 (R : VP) (s2 r3 t4 sort6 rest7 e8 : Value) (w : World) : Prop :=
  valP Try.prog (binS BinOp.neq 35 (tm 25) (ci 0) e8 (vi 0)) w fun t26 w =>
  m21_29 R s2 r3 t4 sort6 rest7 t26 w
def m21_1 (R : VP) (s2 r3 t4 : Value) (w : World) : Prop :=
  valP Try.prog (Instr.fieldAt 46 r3 2) w fun t19 w =>
  valP Try.prog (Instr.loadAt 9 t19) w fun t20 w =>
  callP Try.prog (fnV 31) #[t20] w fun t21 w =>
  valP Try.prog (Instr.extract t21 0) w fun t22 w =>
  valP Try.prog (Instr.extract t21 1) w fun t23 w =>
  valP Try.prog (Instr.extract t21 2) w fun t24 w =>
  m21_2 R s2 r3 t4 t22 t23 t24 w
def m21_0 (R : VP) (s0 r1 : Value) (w : World) : Prop :=
  valP Try.prog (Instr.box 28 s0) w fun s2 w =>
  valP Try.prog (Instr.box 46 r1) w fun r3 w =>
  valP Try.prog (Instr.alloc 28 true (.tuple #[])) w fun t4 w =>
  m21_1 R s2 r3 t4 w
abbrev W21 := cwp Try.prog (fun i => cond (Nat.beq i 8) 14 (cond (Nat.beq i 6) 14 (0)))
noncomputable def k21_0 := bodyOf Try.f21
noncomputable def k21_1 := c2 k21_0
noncomputable def k21_2 := c2 k21_1
noncomputable def k21_3 := c2 k21_2
noncomputable def k21_4 := c2 k21_3
noncomputable def k21_5 := c2 k21_4
noncomputable def k21_6 := c2 k21_5
noncomputable def k21_7 := c2 k21_6
noncomputable def k21_8 := c2 k21_7
noncomputable def k21_9 := c2 k21_8
noncomputable def k21_10 := c2 k21_9
noncomputable def k21_11 := c2 k21_10
noncomputable def k21_12 := c2 (c1 (c1 k21_8))
noncomputable def k21_13 := c2 (c1 k21_12)
noncomputable def k21_14 := c2 k21_13
noncomputable def k21_15 := c2 (c1 k21_13)
noncomputable def k21_16 := c2 (c1 k21_15)
noncomputable def k21_17 := c2 (c2 k21_12)
noncomputable def k21_18 := c2 (c1 k21_17)
noncomputable def k21_19 := c2 k21_18
noncomputable def k21_20 := c2 k21_19
noncomputable def k21_21 := c2 k21_20
noncomputable def k21_22 := c2 (c1 k21_18)
noncomputable def k21_23 := c2 (c1 k21_22)
noncomputable def k21_24 := c2 (c2 k21_17)
noncomputable def k21_25 := c2 (c2 k21_24)
noncomputable def k21_26 := c1 (c1 (c1 k21_5))
noncomputable def k21_27 := c2 k21_26
noncomputable def k21_28 := c2 (c1 k21_26)
noncomputable def k21_29 := c2 (c1 k21_2)
noncomputable def k21_30 := c2 (c1 k21_29)
abbrev hR21 (R : VP) (Q : EQ) : Prop := ∀ e w, (valS Try.prog (loadC 28 (e 4)) w fun r0 =>
R (Value.tuple #[r0, (e 5)]) w) → Q .ret e w
theorem s21_30 (hR : hR21 R Q) (e : Env) (w : World) (h : m21_30 R (e 4) (e 5) w) : W21 k21_30 Q e w := by
  exact reA (hR _ _ h)
theorem s21_27 {K1 : VP} (hN : ∀ e w, (K1 (e 10) w) → Q .normal e w) (e : Env) (w : World) (h : m21_27 R K1 (e 2) (e 3) (e 4) (e 6) (e 7) (e 9) (e 10) w) : W21 k21_27 Q e w := by
  refine block_ok 1 (by kernel_rfl) ?_
  exact rgA 7 (fun e w => K1 (e 10) w) h fun e w h => block_N (hN e w h)
theorem s21_16 (hR : hR21 R Q) (e : Env) (w : World) (h : m21_16 R (e 4) (e 5) w) : W21 k21_16 Q e w := by
  exact reA (hR _ _ h)
theorem s21_11 (hR : hR21 R Q) (e : Env) (w : World) (h : m21_11 R (e 4) (e 5) w) : W21 k21_11 Q e w := by
  exact reA (hR _ _ h)
theorem s21_10 (hR : hR21 R Q) (e : Env) (w : World) (h : m21_10 R (e 2) (e 4) w) : W21 k21_10 Q e w := by
  refine seA ?_
  exact rgA 27 (fun e w => m21_11 R (e 4) (e 5) w) h fun e w h => then_N (s21_11 hR e w h)
theorem s21_9 (hR : hR21 R Q) (e : Env) (w : World) (h : m21_9 R (e 2) (e 4) (e 12) w) : W21 k21_9 Q e w := by
  refine seA ?_
  exact rgA 26 (fun e w => m21_10 R (e 2) (e 4) w) h fun e w h => then_N (s21_10 hR e w h)
theorem s21_14 (hN : ∀ e w, (m21_9 R (e 2) (e 4) (e 12) w) → Q .normal e w) (e : Env) (w : World) (h : m21_14 R (e 2) (e 4) (e 12) (e 13) w) : W21 k21_14 Q e w := by
  exact treeJ_ok 15 20 (bt 20 0) (.take 0 (bt 20 1) (.take 1 (bt 20 3) (.take 2 (bt 20 7) (.take 3 (bt 20 15) (.take 4 (bt 20 31) (.take 5 (bt 20 63) (.take 6 (bt 20 127) (.take 7 (bt 20 255) (.take 8 (bt 20 511) (.take 9 (bt 20 1023) (.take 10 (bt 20 2047) (.take 11 (bt 20 4095) (.take 12 (bt 20 8191) (.alt 13 (bt 20 16383) (.take 14 (bt 20 32767) (.alt 15 (bt 20 65535) (.take 16 (bt 20 131071) (.alt 17 (bt 20 262143) (.take 18 (bt 20 524287) (.alt 19 (bt 20 1048575) .done .stop)) .stop)) .stop)) .stop)))))))))))))) (fun e w => m21_9 R (e 2) (e 4) (e 12) w) (by kernel_rfl) (by kernel_rfl) (by kernel_rfl) (by kernel_rfl) (by kernel_rfl) (by kernel_rfl) (kcast (by kernel_rfl) h) hN (by kernel_rfl)
theorem s21_15 (hN : ∀ e w, (m21_14 R (e 2) (e 4) (e 12) (e 13) w) → Q .normal e w) (hR : hR21 R Q) (e : Env) (w : World) (h : m21_15 R (e 2) (e 4) (e 12) (e 13) (e 92) w) : W21 k21_15 Q e w := by
  refine coA (Operand.tmp 92) h (fun h1 => ?_) (fun h1 => ?_)
  · refine seA ?_
    exact rgA 14 (fun e w => m21_16 R (e 4) (e 5) w) h1 fun e w h => then_N (s21_16 hR e w h)
  · exact skA (hN _ _ h1)
theorem s21_13 (hN : ∀ e w, (m21_9 R (e 2) (e 4) (e 12) w) → Q .normal e w) (hR : hR21 R Q) (e : Env) (w : World) (h : m21_13 R (e 2) (e 3) (e 4) (e 12) (e 13) (e 14) (e 15) w) : W21 k21_13 Q e w := by
  refine seA ?_
  have hN : ∀ e w, (m21_14 R (e 2) (e 4) (e 12) (e 13) w) → (thenE (W21 k21_14 Q) Q) .normal e w := fun e w h => then_N (s21_14 hN e w h)
  have hR : ∀ e w, (valS Try.prog (loadC 28 (e 4)) w fun r0 =>
  R (Value.tuple #[r0, (e 5)]) w) → (thenE (W21 k21_14 Q) Q) .ret e w := fun e w h => then_R (hR e w h)
  refine seA ?_
  exact rgA 13 (fun e w => m21_15 R (e 2) (e 4) (e 12) (e 13) (e 92) w) h fun e w h => then_N (s21_15 hN hR e w h)
theorem s21_23 (hR : hR21 R Q) (e : Env) (w : World) (h : m21_23 R (e 4) (e 5) w) : W21 k21_23 Q e w := by
  exact reA (hR _ _ h)
theorem s21_21 (hN : ∀ e w, (m21_9 R (e 2) (e 4) (e 12) w) → Q .normal e w) (e : Env) (w : World) (h : m21_21 R (e 2) (e 4) (e 9) (e 10) (e 12) (e 124) w) : W21 k21_21 Q e w := by
  refine coA (Operand.tmp 124) h (fun h1 => ?_) (fun h1 => ?_)
  · exact rgA 22 (fun e w => m21_9 R (e 2) (e 4) (e 12) w) h1 hN
  · exact rgA 23 (fun e w => m21_9 R (e 2) (e 4) (e 12) w) h1 hN
theorem s21_20 (hN : ∀ e w, (m21_9 R (e 2) (e 4) (e 12) w) → Q .normal e w) (e : Env) (w : World) (h : m21_20 R (e 2) (e 4) (e 9) (e 10) (e 11) (e 12) w) : W21 k21_20 Q e w := by
  refine seA ?_
  exact rgA 21 (fun e w => m21_21 R (e 2) (e 4) (e 9) (e 10) (e 12) (e 124) w) h fun e w h => then_N (s21_21 hN e w h)
theorem s21_19 (hN : ∀ e w, (m21_9 R (e 2) (e 4) (e 12) w) → Q .normal e w) (e : Env) (w : World) (h : m21_19 R (e 2) (e 4) (e 9) (e 10) (e 11) (e 12) (e 16) w) : W21 k21_19 Q e w := by
  refine seA ?_
  exact rgA 20 (fun e w => m21_20 R (e 2) (e 4) (e 9) (e 10) (e 11) (e 12) w) h fun e w h => then_N (s21_20 hN e w h)
theorem s21_22 (hN : ∀ e w, (m21_19 R (e 2) (e 4) (e 9) (e 10) (e 11) (e 12) (e 16) w) → Q .normal e w) (hR : hR21 R Q) (e : Env) (w : World) (h : m21_22 R (e 2) (e 4) (e 9) (e 10) (e 11) (e 12) (e 16) (e 17) (e 119) w) : W21 k21_22 Q e w := by
  refine coA (Operand.tmp 119) h (fun h1 => ?_) (fun h1 => ?_)
  · refine seA ?_
    exact rgA 19 (fun e w => m21_23 R (e 4) (e 5) w) h1 fun e w h => then_N (s21_23 hR e w h)
  · exact skA (hN _ _ h1)
theorem s21_18 (hN : ∀ e w, (m21_9 R (e 2) (e 4) (e 12) w) → Q .normal e w) (hR : hR21 R Q) (e : Env) (w : World) (h : m21_18 R (e 2) (e 4) (e 9) (e 10) (e 11) (e 12) (e 16) (e 17) w) : W21 k21_18 Q e w := by
  refine seA ?_
  have hN : ∀ e w, (m21_19 R (e 2) (e 4) (e 9) (e 10) (e 11) (e 12) (e 16) w) → (thenE (W21 k21_19 Q) Q) .normal e w := fun e w h => then_N (s21_19 hN e w h)
  have hR : ∀ e w, (valS Try.prog (loadC 28 (e 4)) w fun r0 =>
  R (Value.tuple #[r0, (e 5)]) w) → (thenE (W21 k21_19 Q) Q) .ret e w := fun e w h => then_R (hR e w h)
  refine seA ?_
  exact rgA 18 (fun e w => m21_22 R (e 2) (e 4) (e 9) (e 10) (e 11) (e 12) (e 16) (e 17) (e 119) w) h fun e w h => then_N (s21_22 hN hR e w h)
theorem s21_25 (hR : hR21 R Q) (e : Env) (w : World) (h : m21_25 R (e 4) (e 5) w) : W21 k21_25 Q e w := by
  exact reA (hR _ _ h)
theorem s21_24 (hN : ∀ e w, (m21_9 R (e 2) (e 4) (e 12) w) → Q .normal e w) (hR : hR21 R Q) (e : Env) (w : World) (h : m21_24 R (e 2) (e 4) (e 10) (e 12) (e 134) w) : W21 k21_24 Q e w := by
  refine coA (Operand.tmp 134) h (fun h1 => ?_) (fun h1 => ?_)
  · exact rgA 25 (fun e w => m21_9 R (e 2) (e 4) (e 12) w) h1 hN
  · refine seA ?_
    exact rgA 10 (fun e w => m21_25 R (e 4) (e 5) w) h1 fun e w h => then_N (s21_25 hR e w h)
theorem s21_17 (hN : ∀ e w, (m21_9 R (e 2) (e 4) (e 12) w) → Q .normal e w) (hR : hR21 R Q) (e : Env) (w : World) (h : m21_17 R (e 2) (e 4) (e 6) (e 7) (e 9) (e 10) (e 11) (e 12) (e 110) w) : W21 k21_17 Q e w := by
  refine coA (Operand.tmp 110) h (fun h1 => ?_) (fun h1 => ?_)
  · refine seA ?_
    exact rgA 17 (fun e w => m21_18 R (e 2) (e 4) (e 9) (e 10) (e 11) (e 12) (e 16) (e 17) w) h1 fun e w h => then_N (s21_18 hN hR e w h)
  · refine seA ?_
    exact rgA 24 (fun e w => m21_24 R (e 2) (e 4) (e 10) (e 12) (e 134) w) h1 fun e w h => then_N (s21_24 hN hR e w h)
theorem s21_12 (hN : ∀ e w, (m21_9 R (e 2) (e 4) (e 12) w) → Q .normal e w) (hR : hR21 R Q) (e : Env) (w : World) (h : m21_12 R (e 2) (e 3) (e 4) (e 6) (e 7) (e 9) (e 10) (e 11) (e 12) (e 68) w) : W21 k21_12 Q e w := by
  refine coA (Operand.tmp 68) h (fun h1 => ?_) (fun h1 => ?_)
  · refine seA ?_
    exact rgA 12 (fun e w => m21_13 R (e 2) (e 3) (e 4) (e 12) (e 13) (e 14) (e 15) w) h1 fun e w h => then_N (s21_13 hN hR e w h)
  · refine seA ?_
    exact rgA 16 (fun e w => m21_17 R (e 2) (e 4) (e 6) (e 7) (e 9) (e 10) (e 11) (e 12) (e 110) w) h1 fun e w h => then_N (s21_17 hN hR e w h)
theorem s21_8 (hR : hR21 R Q) (e : Env) (w : World) (h : m21_8 R (e 2) (e 3) (e 4) (e 6) (e 7) (e 9) (e 10) (e 11) (e 12) w) : W21 k21_8 Q e w := by
  refine seA ?_
  have hN : ∀ e w, (m21_9 R (e 2) (e 4) (e 12) w) → (thenE (W21 k21_9 Q) Q) .normal e w := fun e w h => then_N (s21_9 hR e w h)
  have hR : ∀ e w, (valS Try.prog (loadC 28 (e 4)) w fun r0 =>
  R (Value.tuple #[r0, (e 5)]) w) → (thenE (W21 k21_9 Q) Q) .ret e w := fun e w h => then_R (hR e w h)
  refine block_ok 2 (by kernel_rfl) ?_
  have hN : ∀ e w, (m21_9 R (e 2) (e 4) (e 12) w) → (inBlockE 2 (thenE (W21 k21_9 Q) Q)) .normal e w := fun e w h => block_N (hN e w h)
  have hR : ∀ e w, (valS Try.prog (loadC 28 (e 4)) w fun r0 =>
  R (Value.tuple #[r0, (e 5)]) w) → (inBlockE 2 (thenE (W21 k21_9 Q) Q)) .ret e w := fun e w h => block_R (hR e w h)
  refine seA ?_
  exact rgA 11 (fun e w => m21_12 R (e 2) (e 3) (e 4) (e 6) (e 7) (e 9) (e 10) (e 11) (e 12) (e 68) w) h fun e w h => then_N (s21_12 (R := R) (Q := (inBlockE 2 (thenE (W21 k21_9 Q) Q))) hN hR e w h)
theorem s21_7 (hR : hR21 R Q) (e : Env) (w : World) (h : m21_7 R (e 2) (e 3) (e 4) (e 6) (e 7) (e 9) (e 10) (e 11) w) : W21 k21_7 Q e w := by
  refine seA ?_
  exact rgA 9 (fun e w => m21_8 R (e 2) (e 3) (e 4) (e 6) (e 7) (e 9) (e 10) (e 11) (e 12) w) h fun e w h => then_N (s21_8 hR e w h)
theorem s21_6 (hR : hR21 R Q) (e : Env) (w : World) (h : m21_6 R (e 2) (e 3) (e 4) (e 6) (e 7) (e 9) (e 10) w) : W21 k21_6 Q e w := by
  refine seA ?_
  have hN : ∀ e w, (m21_7 R (e 2) (e 3) (e 4) (e 6) (e 7) (e 9) (e 10) (e 11) w) → (thenE (W21 k21_7 Q) Q) .normal e w := fun e w h => then_N (s21_7 hR e w h)
  exact taA 8 12 (fun e w => m21_7 R (e 2) (e 3) (e 4) (e 6) (e 7) (e 9) (e 10) (e 11) w) h hN
theorem s21_28 {K1 : VP} (hN : ∀ e w, (m21_27 R K1 (e 2) (e 3) (e 4) (e 6) (e 7) (e 9) (e 10) w) → Q .normal e w) (hX0 : ∀ e w, (m21_6 R (e 2) (e 3) (e 4) (e 6) (e 7) (e 9) (e 10) w) → Q (.exit 0) e w) (e : Env) (w : World) (h : m21_28 R K1 (e 2) (e 3) (e 4) (e 6) (e 7) (e 9) (e 10) (e 46) w) : W21 k21_28 Q e w := by
  refine coA (Operand.tmp 46) h (fun h1 => ?_) (fun h1 => ?_)
  · exact skA (hN _ _ h1)
  · exact exA 0 (hX0 _ _ h1)
theorem s21_26 {K1 : VP} (hN : ∀ e w, (K1 (e 10) w) → Q .normal e w) (hX0 : ∀ e w, (m21_6 R (e 2) (e 3) (e 4) (e 6) (e 7) (e 9) (e 10) w) → Q (.exit 0) e w) (e : Env) (w : World) (h : m21_26 R K1 (e 2) (e 3) (e 4) (e 6) (e 7) (e 9) (e 10) w) : W21 k21_26 Q e w := by
  refine seA ?_
  have hN : ∀ e w, (m21_27 R K1 (e 2) (e 3) (e 4) (e 6) (e 7) (e 9) (e 10) w) → (thenE (W21 k21_27 Q) Q) .normal e w := fun e w h => then_N (s21_27 hN e w h)
  have hX0 : ∀ e w, (m21_6 R (e 2) (e 3) (e 4) (e 6) (e 7) (e 9) (e 10) w) → (thenE (W21 k21_27 Q) Q) (.exit 0) e w := fun e w h => then_X (hX0 e w h)
  refine seA ?_
  have hN : ∀ e w, (m21_28 R K1 (e 2) (e 3) (e 4) (e 6) (e 7) (e 9) (e 10) (e 46) w) → (thenE (W21 k21_28 (thenE (W21 k21_27 Q) Q)) (thenE (W21 k21_27 Q) Q)) .normal e w := fun e w h => then_N (s21_28 hN hX0 e w h)
  exact taA 6 12 (fun e w => m21_28 R K1 (e 2) (e 3) (e 4) (e 6) (e 7) (e 9) (e 10) (e 46) w) h hN
theorem s21_5 (hR : hR21 R Q) (e : Env) (w : World) (h : m21_5 R (e 2) (e 3) (e 4) (e 6) (e 7) (e 9) (e 10) w) : W21 k21_5 Q e w := by
  refine seA ?_
  have hN : ∀ e w, (m21_6 R (e 2) (e 3) (e 4) (e 6) (e 7) (e 9) (e 10) w) → (thenE (W21 k21_6 Q) Q) .normal e w := fun e w h => then_N (s21_6 hR e w h)
  refine block_ok 0 (by kernel_rfl) ?_
  have hX0 : ∀ e w, (m21_6 R (e 2) (e 3) (e 4) (e 6) (e 7) (e 9) (e 10) w) → (inBlockE 0 (thenE (W21 k21_6 Q) Q)) (.exit 0) e w := fun e w h => inBlock_same (Q := (thenE (W21 k21_6 Q) Q)) 0 (hN e w h)
  refine loop_ok' (fun (e : Env) => e 10) [2, 3, 4, 6, 7, 9] (by kernel_rfl) (by kernel_rfl) h (fun K e' w' hk h' => ?_)
  have r2 : e' 2 = e 2 := hk 2 (by decide)
  have r3 : e' 3 = e 3 := hk 3 (by decide)
  have r4 : e' 4 = e 4 := hk 4 (by decide)
  have r6 : e' 6 = e 6 := hk 6 (by decide)
  have r7 : e' 7 = e 7 := hk 7 (by decide)
  have r9 : e' 9 = e 9 := hk 9 (by decide)
  have hX0 : ∀ e w, (m21_6 R (e 2) (e 3) (e 4) (e 6) (e 7) (e 9) (e 10) w) → (thenE (fun (e : Env) w => K (e 10) w) (inBlockE 0 (thenE (W21 k21_6 Q) Q))) (.exit 0) e w := fun e w h => then_X (hX0 e w h)
  exact s21_26 (K1 := K) (fun _ _ h => then_N h) hX0 e' w' (by rw [r2, r3, r4, r6, r7, r9]; exact h')
theorem s21_4 (hR : hR21 R Q) (e : Env) (w : World) (h : m21_4 R (e 2) (e 3) (e 4) (e 6) (e 7) (e 9) w) : W21 k21_4 Q e w := by
  refine seA ?_
  exact rgA 5 (fun e w => m21_5 R (e 2) (e 3) (e 4) (e 6) (e 7) (e 9) (e 10) w) h fun e w h => then_N (s21_5 hR e w h)
theorem s21_3 (hR : hR21 R Q) (e : Env) (w : World) (h : m21_3 R (e 2) (e 3) (e 4) (e 6) (e 7) w) : W21 k21_3 Q e w := by
  refine seA ?_
  exact rgA 4 (fun e w => m21_4 R (e 2) (e 3) (e 4) (e 6) (e 7) (e 9) w) h fun e w h => then_N (s21_4 hR e w h)
theorem s21_29 (hN : ∀ e w, (m21_3 R (e 2) (e 3) (e 4) (e 6) (e 7) w) → Q .normal e w) (hR : hR21 R Q) (e : Env) (w : World) (h : m21_29 R (e 2) (e 3) (e 4) (e 6) (e 7) (e 26) w) : W21 k21_29 Q e w := by
  refine coA (Operand.tmp 26) h (fun h1 => ?_) (fun h1 => ?_)
  · refine seA ?_
    exact rgA 3 (fun e w => m21_30 R (e 4) (e 5) w) h1 fun e w h => then_N (s21_30 hR e w h)
  · exact skA (hN _ _ h1)
theorem s21_2 (hR : hR21 R Q) (e : Env) (w : World) (h : m21_2 R (e 2) (e 3) (e 4) (e 6) (e 7) (e 8) w) : W21 k21_2 Q e w := by
  refine seA ?_
  have hN : ∀ e w, (m21_3 R (e 2) (e 3) (e 4) (e 6) (e 7) w) → (thenE (W21 k21_3 Q) Q) .normal e w := fun e w h => then_N (s21_3 hR e w h)
  have hR : ∀ e w, (valS Try.prog (loadC 28 (e 4)) w fun r0 =>
  R (Value.tuple #[r0, (e 5)]) w) → (thenE (W21 k21_3 Q) Q) .ret e w := fun e w h => then_R (hR e w h)
  refine seA ?_
  exact rgA 2 (fun e w => m21_29 R (e 2) (e 3) (e 4) (e 6) (e 7) (e 26) w) h fun e w h => then_N (s21_29 hN hR e w h)
theorem s21_1 (hR : hR21 R Q) (e : Env) (w : World) (h : m21_1 R (e 2) (e 3) (e 4) w) : W21 k21_1 Q e w := by
  refine seA ?_
  exact rgA 1 (fun e w => m21_2 R (e 2) (e 3) (e 4) (e 6) (e 7) (e 8) w) h fun e w h => then_N (s21_2 hR e w h)
theorem s21_0 (hR : hR21 R Q) (e : Env) (w : World) (h : m21_0 R (e 0) (e 1) w) : W21 k21_0 Q e w := by
  refine seA ?_
  exact rgA 0 (fun e w => m21_1 R (e 2) (e 3) (e 4) w) h fun e w h => then_N (s21_1 hR e w h)
abbrev m21 (R : VP) (s0 r1 : Value) (w : World) : Prop := m21_0 R s0 r1 w
theorem s21 (s0 r1 : Value) {R : VP} {w : World} (h : m21 R s0 r1 w) :
    Calls Try.prog 21 #[s0, r1] w fun e w' => ∃ v, e = .returned v ∧ R v w' :=
  calls_of_cwp (st := (fun i => cond (Nat.beq i 8) 14 (cond (Nat.beq i 6) 14 (0)))) (c := k21_0) (by kernel_rfl) Try.func21 (by kernel_rfl) (Nat.le_of_ble_eq_true (by kernel_rfl)) (by kernel_rfl)
    (s21_0 (R := R) (Q := endE Try.prog Try.f21 R) (fun e w h => kcast (by kernel_rfl) h) (argsE #[s0, r1]) w (kcast (by kernel_rfl) h))
def m9_17 (R : VP) (K1 : VP) (t4 t5 : Value) (w : World) : Prop :=
  valS Try.prog (loadC 28 t4) w fun r0 =>
  R (Value.tuple #[r0, t5]) w
def m9_12 (R : VP) (K1 : VP) (g2 t4 s6 t12 t13 t14 : Value) (w : World) : Prop :=
  valP Try.prog (binS BinOp.add 3 (tm 14) (ci 1) t14 (vi 1)) w fun t29 w =>
  K1 t29 w
def m9_15 (R : VP) (K1 : VP) (g2 t4 s6 t9 t12 t13 t14 : Value) (w : World) : Prop :=
  valP Try.prog (Instr.loadAt 28 t9) w fun t28 w =>
  unitP Try.prog (Instr.storeAt 28 s6 t28) w fun _ w =>
  m9_12 R K1 g2 t4 s6 t12 t13 t14 w
def m9_16 (R : VP) (K1 : VP) (g2 t4 s6 t9 e10 t12 t13 t14 t25 : Value) (w : World) : Prop :=
  condP t25
  (valP Try.prog (Instr.build 28 #[]) w fun t26 w =>
  unitP Try.prog (Instr.storeAt 28 t4 t26) w fun _ w =>
  m9_17 R K1 t4 e10 w)
  (m9_15 R K1 g2 t4 s6 t9 t12 t13 t14 w)
def m9_14 (R : VP) (K1 : VP) (g2 t4 s6 t9 e10 t12 t13 t14 : Value) (w : World) : Prop :=
  valP Try.prog (binS BinOp.neq 35 (tm 24) (ci 0) e10 (vi 0)) w fun t25 w =>
  m9_16 R K1 g2 t4 s6 t9 e10 t12 t13 t14 t25 w
def m9_13 (R : VP) (K1 : VP) (g2 t4 s6 r8 t12 t13 t14 : Value) (w : World) : Prop :=
  valP Try.prog (Instr.loadAt 28 s6) w fun t19 w =>
  valP Try.prog (Instr.loadAt 46 r8) w fun t20 w =>
  callP Try.prog (fnV 21) #[t19, t20] w fun t21 w =>
  valP Try.prog (Instr.extract t21 0) w fun t22 w =>
  valP Try.prog (Instr.extract t21 1) w fun t23 w =>
  valP Try.prog (Instr.alloc 28 true (.tuple #[])) w fun t9 w =>
  unitP Try.prog (Instr.storeAt 28 t9 t22) w fun _ w =>
  m9_14 R K1 g2 t4 s6 t9 t23 t12 t13 t14 w
def m9_11 (R : VP) (K1 : VP) (g2 t4 s6 t12 t13 t14 : Value) (w : World) : Prop :=
  valP Try.prog (Instr.indexAt 24 t12 t14) w fun t16 w =>
  valP Try.prog (Instr.loadAt 46 t16) w fun t17 w =>
  valP Try.prog (Instr.alloc 46 true (.tuple #[])) w fun r8 w =>
  unitP Try.prog (Instr.storeAt 46 r8 t17) w fun _ w =>
  m9_13 R K1 g2 t4 s6 r8 t12 t13 t14 w
def m9_7 (R : VP) (t4 t5 : Value) (w : World) : Prop :=
  valS Try.prog (loadC 28 t4) w fun r0 =>
  R (Value.tuple #[r0, t5]) w
def m9_5 (R : VP) (t4 t5 : Value) (w : World) : Prop :=
  valS Try.prog (loadC 28 t4) w fun r0 =>
  R (Value.tuple #[r0, t5]) w
def m9_4 (R : VP) (t4 s6 : Value) (w : World) : Prop :=
  valP Try.prog (Instr.loadAt 28 s6) w fun t35 w =>
  unitP Try.prog (Instr.storeAt 28 t4 t35) w fun _ w =>
  m9_5 R t4 (vi 0) w
def m9_6 (R : VP) (t4 s6 t33 : Value) (w : World) : Prop :=
  condP t33
  (valP Try.prog (Instr.build 28 #[]) w fun t34 w =>
  unitP Try.prog (Instr.storeAt 28 t4 t34) w fun _ w =>
  m9_7 R t4 (vi 2) w)
  (m9_4 R t4 s6 w)
def m9_3 (R : VP) (g2 t4 s6 : Value) (w : World) : Prop :=
  valP Try.prog (Instr.loadAt 23 g2) w fun t30 w =>
  valP Try.prog (Instr.loadAt 28 s6) w fun t31 w =>
  callP Try.prog (fnV 22) #[t30, t31] w fun t32 w =>
  valP Try.prog (binS BinOp.neq 35 (tm 32) (ci 0) t32 (vi 0)) w fun t33 w =>
  m9_6 R t4 s6 t33 w
def m9_10 (R : VP) (K1 : VP) (g2 t4 s6 t12 t13 t14 t15 : Value) (w : World) : Prop :=
  condP t15
  (m9_11 R K1 g2 t4 s6 t12 t13 t14 w)
  (m9_3 R g2 t4 s6 w)
def m9_9 (R : VP) (K1 : VP) (g2 t4 s6 t12 t13 t14 : Value) (w : World) : Prop :=
  valP Try.prog (binS BinOp.lss 3 (tm 14) (tm 13) t14 t13) w fun t15 w =>
  m9_10 R K1 g2 t4 s6 t12 t13 t14 t15 w
def m9_8 (R : VP) (g2 t4 s6 t12 t13 t14 : Value) (w : World) : Prop :=
  loopP (fun (K1 : VP) (s : Value) w => m9_9 R K1 g2 t4 s6 t12 t13 s w) t14 w
def m9_2 (R : VP) (l1 g2 t4 s6 : Value) (w : World) : Prop :=
  builtinP Try.prog Builtin.len #[24] 3 #[false] #[l1] w fun t13 w =>
  m9_8 R g2 t4 s6 l1 t13 (vi 0) w
def m9_1 (R : VP) (l1 g2 t4 : Value) (w : World) : Prop :=
  callP Try.prog (fnV 20) #[] w fun t11 w =>
  valP Try.prog (Instr.alloc 28 true (.tuple #[])) w fun s6 w =>
  unitP Try.prog (Instr.storeAt 28 s6 t11) w fun _ w =>
  m9_2 R l1 g2 t4 s6 w
def m9_0 (R : VP) (g0 l1 : Value) (w : World) : Prop :=
  valP Try.prog (Instr.box 23 g0) w fun g2 w =>
  valP Try.prog (Instr.alloc 28 true (.tuple #[])) w fun t4 w =>
  m9_1 R l1 g2 t4 w
abbrev W9 := cwp Try.prog (fun i => 0)
noncomputable def k9_0 := bodyOf Try.f9
noncomputable def k9_1 := c2 k9_0
noncomputable def k9_2 := c2 k9_1
noncomputable def k9_3 := c2 k9_2
noncomputable def k9_4 := c2 k9_3
noncomputable def k9_5 := c2 k9_4
noncomputable def k9_6 := c2 (c1 k9_3)
noncomputable def k9_7 := c2 (c1 k9_6)
noncomputable def k9_8 := c2 (c1 k9_2)
noncomputable def k9_9 := c1 (c1 k9_8)
noncomputable def k9_10 := c2 k9_9
noncomputable def k9_11 := c2 k9_10
noncomputable def k9_12 := c2 k9_11
noncomputable def k9_13 := c2 (c1 (c1 k9_11))
noncomputable def k9_14 := c2 k9_13
noncomputable def k9_15 := c2 k9_14
noncomputable def k9_16 := c2 (c1 k9_14)
noncomputable def k9_17 := c2 (c1 k9_16)
abbrev hR9 (R : VP) (Q : EQ) : Prop := ∀ e w, (valS Try.prog (loadC 28 (e 4)) w fun r0 =>
R (Value.tuple #[r0, (e 5)]) w) → Q .ret e w
theorem s9_17 {K1 : VP} (hR : hR9 R Q) (e : Env) (w : World) (h : m9_17 R K1 (e 4) (e 5) w) : W9 k9_17 Q e w := by
  exact reA (hR _ _ h)
theorem s9_12 {K1 : VP} (hN : ∀ e w, (K1 (e 14) w) → Q .normal e w) (e : Env) (w : World) (h : m9_12 R K1 (e 2) (e 4) (e 6) (e 12) (e 13) (e 14) w) : W9 k9_12 Q e w := by
  exact rgA 9 (fun e w => K1 (e 14) w) h hN
theorem s9_15 {K1 : VP} (hN : ∀ e w, (m9_12 R K1 (e 2) (e 4) (e 6) (e 12) (e 13) (e 14) w) → Q .normal e w) (e : Env) (w : World) (h : m9_15 R K1 (e 2) (e 4) (e 6) (e 9) (e 12) (e 13) (e 14) w) : W9 k9_15 Q e w := by
  exact rgA 8 (fun e w => m9_12 R K1 (e 2) (e 4) (e 6) (e 12) (e 13) (e 14) w) h hN
theorem s9_16 {K1 : VP} (hN : ∀ e w, (m9_15 R K1 (e 2) (e 4) (e 6) (e 9) (e 12) (e 13) (e 14) w) → Q .normal e w) (hR : hR9 R Q) (e : Env) (w : World) (h : m9_16 R K1 (e 2) (e 4) (e 6) (e 9) (e 10) (e 12) (e 13) (e 14) (e 25) w) : W9 k9_16 Q e w := by
  refine coA (Operand.tmp 25) h (fun h1 => ?_) (fun h1 => ?_)
  · refine seA ?_
    exact rgA 7 (fun e w => m9_17 R K1 (e 4) (e 5) w) h1 fun e w h => then_N (s9_17 hR e w h)
  · exact skA (hN _ _ h1)
theorem s9_14 {K1 : VP} (hN : ∀ e w, (m9_12 R K1 (e 2) (e 4) (e 6) (e 12) (e 13) (e 14) w) → Q .normal e w) (hR : hR9 R Q) (e : Env) (w : World) (h : m9_14 R K1 (e 2) (e 4) (e 6) (e 9) (e 10) (e 12) (e 13) (e 14) w) : W9 k9_14 Q e w := by
  refine seA ?_
  have hN : ∀ e w, (m9_15 R K1 (e 2) (e 4) (e 6) (e 9) (e 12) (e 13) (e 14) w) → (thenE (W9 k9_15 Q) Q) .normal e w := fun e w h => then_N (s9_15 hN e w h)
  have hR : ∀ e w, (valS Try.prog (loadC 28 (e 4)) w fun r0 =>
  R (Value.tuple #[r0, (e 5)]) w) → (thenE (W9 k9_15 Q) Q) .ret e w := fun e w h => then_R (hR e w h)
  refine seA ?_
  exact rgA 6 (fun e w => m9_16 R K1 (e 2) (e 4) (e 6) (e 9) (e 10) (e 12) (e 13) (e 14) (e 25) w) h fun e w h => then_N (s9_16 hN hR e w h)
theorem s9_13 {K1 : VP} (hN : ∀ e w, (m9_12 R K1 (e 2) (e 4) (e 6) (e 12) (e 13) (e 14) w) → Q .normal e w) (hR : hR9 R Q) (e : Env) (w : World) (h : m9_13 R K1 (e 2) (e 4) (e 6) (e 8) (e 12) (e 13) (e 14) w) : W9 k9_13 Q e w := by
  refine seA ?_
  exact rgA 5 (fun e w => m9_14 R K1 (e 2) (e 4) (e 6) (e 9) (e 10) (e 12) (e 13) (e 14) w) h fun e w h => then_N (s9_14 hN hR e w h)
theorem s9_11 {K1 : VP} (hN : ∀ e w, (K1 (e 14) w) → Q .normal e w) (hR : hR9 R Q) (e : Env) (w : World) (h : m9_11 R K1 (e 2) (e 4) (e 6) (e 12) (e 13) (e 14) w) : W9 k9_11 Q e w := by
  refine seA ?_
  have hN : ∀ e w, (m9_12 R K1 (e 2) (e 4) (e 6) (e 12) (e 13) (e 14) w) → (thenE (W9 k9_12 Q) Q) .normal e w := fun e w h => then_N (s9_12 hN e w h)
  have hR : ∀ e w, (valS Try.prog (loadC 28 (e 4)) w fun r0 =>
  R (Value.tuple #[r0, (e 5)]) w) → (thenE (W9 k9_12 Q) Q) .ret e w := fun e w h => then_R (hR e w h)
  refine block_ok 1 (by kernel_rfl) ?_
  have hN : ∀ e w, (m9_12 R K1 (e 2) (e 4) (e 6) (e 12) (e 13) (e 14) w) → (inBlockE 1 (thenE (W9 k9_12 Q) Q)) .normal e w := fun e w h => block_N (hN e w h)
  have hR : ∀ e w, (valS Try.prog (loadC 28 (e 4)) w fun r0 =>
  R (Value.tuple #[r0, (e 5)]) w) → (inBlockE 1 (thenE (W9 k9_12 Q) Q)) .ret e w := fun e w h => block_R (hR e w h)
  refine seA ?_
  exact rgA 4 (fun e w => m9_13 R K1 (e 2) (e 4) (e 6) (e 8) (e 12) (e 13) (e 14) w) h fun e w h => then_N (s9_13 (R := R) (Q := (inBlockE 1 (thenE (W9 k9_12 Q) Q))) hN hR e w h)
theorem s9_7 (hR : hR9 R Q) (e : Env) (w : World) (h : m9_7 R (e 4) (e 5) w) : W9 k9_7 Q e w := by
  exact reA (hR _ _ h)
theorem s9_5 (hR : hR9 R Q) (e : Env) (w : World) (h : m9_5 R (e 4) (e 5) w) : W9 k9_5 Q e w := by
  exact reA (hR _ _ h)
theorem s9_4 (hR : hR9 R Q) (e : Env) (w : World) (h : m9_4 R (e 4) (e 6) w) : W9 k9_4 Q e w := by
  refine seA ?_
  exact rgA 12 (fun e w => m9_5 R (e 4) (e 5) w) h fun e w h => then_N (s9_5 hR e w h)
theorem s9_6 (hN : ∀ e w, (m9_4 R (e 4) (e 6) w) → Q .normal e w) (hR : hR9 R Q) (e : Env) (w : World) (h : m9_6 R (e 4) (e 6) (e 33) w) : W9 k9_6 Q e w := by
  refine coA (Operand.tmp 33) h (fun h1 => ?_) (fun h1 => ?_)
  · refine seA ?_
    exact rgA 11 (fun e w => m9_7 R (e 4) (e 5) w) h1 fun e w h => then_N (s9_7 hR e w h)
  · exact skA (hN _ _ h1)
theorem s9_3 (hR : hR9 R Q) (e : Env) (w : World) (h : m9_3 R (e 2) (e 4) (e 6) w) : W9 k9_3 Q e w := by
  refine seA ?_
  have hN : ∀ e w, (m9_4 R (e 4) (e 6) w) → (thenE (W9 k9_4 Q) Q) .normal e w := fun e w h => then_N (s9_4 hR e w h)
  have hR : ∀ e w, (valS Try.prog (loadC 28 (e 4)) w fun r0 =>
  R (Value.tuple #[r0, (e 5)]) w) → (thenE (W9 k9_4 Q) Q) .ret e w := fun e w h => then_R (hR e w h)
  refine seA ?_
  exact rgA 10 (fun e w => m9_6 R (e 4) (e 6) (e 33) w) h fun e w h => then_N (s9_6 hN hR e w h)
theorem s9_10 {K1 : VP} (hN : ∀ e w, (K1 (e 14) w) → Q .normal e w) (hR : hR9 R Q) (hX0 : ∀ e w, (m9_3 R (e 2) (e 4) (e 6) w) → Q (.exit 0) e w) (e : Env) (w : World) (h : m9_10 R K1 (e 2) (e 4) (e 6) (e 12) (e 13) (e 14) (e 15) w) : W9 k9_10 Q e w := by
  refine seA ?_
  have hN : ∀ e w, (m9_11 R K1 (e 2) (e 4) (e 6) (e 12) (e 13) (e 14) w) → (thenE (W9 k9_11 Q) Q) .normal e w := fun e w h => then_N (s9_11 hN hR e w h)
  have hX0 : ∀ e w, (m9_3 R (e 2) (e 4) (e 6) w) → (thenE (W9 k9_11 Q) Q) (.exit 0) e w := fun e w h => then_X (hX0 e w h)
  refine coA (Operand.tmp 15) h (fun h1 => ?_) (fun h1 => ?_)
  · exact skA (hN _ _ h1)
  · exact exA 0 (hX0 _ _ h1)
theorem s9_9 {K1 : VP} (hN : ∀ e w, (K1 (e 14) w) → Q .normal e w) (hR : hR9 R Q) (hX0 : ∀ e w, (m9_3 R (e 2) (e 4) (e 6) w) → Q (.exit 0) e w) (e : Env) (w : World) (h : m9_9 R K1 (e 2) (e 4) (e 6) (e 12) (e 13) (e 14) w) : W9 k9_9 Q e w := by
  refine seA ?_
  exact rgA 3 (fun e w => m9_10 R K1 (e 2) (e 4) (e 6) (e 12) (e 13) (e 14) (e 15) w) h fun e w h => then_N (s9_10 hN hR hX0 e w h)
theorem s9_8 (hN : ∀ e w, (m9_3 R (e 2) (e 4) (e 6) w) → Q .normal e w) (hR : hR9 R Q) (e : Env) (w : World) (h : m9_8 R (e 2) (e 4) (e 6) (e 12) (e 13) (e 14) w) : W9 k9_8 Q e w := by
  refine block_ok 0 (by kernel_rfl) ?_
  have hX0 : ∀ e w, (m9_3 R (e 2) (e 4) (e 6) w) → (inBlockE 0 Q) (.exit 0) e w := fun e w h => inBlock_same (Q := Q) 0 (hN e w h)
  have hR : ∀ e w, (valS Try.prog (loadC 28 (e 4)) w fun r0 =>
  R (Value.tuple #[r0, (e 5)]) w) → (inBlockE 0 Q) .ret e w := fun e w h => block_R (hR e w h)
  refine loop_ok' (fun (e : Env) => e 14) [2, 4, 6, 12, 13] (by kernel_rfl) (by kernel_rfl) h (fun K e' w' hk h' => ?_)
  have r2 : e' 2 = e 2 := hk 2 (by decide)
  have r4 : e' 4 = e 4 := hk 4 (by decide)
  have r6 : e' 6 = e 6 := hk 6 (by decide)
  have r12 : e' 12 = e 12 := hk 12 (by decide)
  have r13 : e' 13 = e 13 := hk 13 (by decide)
  have hR : ∀ e w, (valS Try.prog (loadC 28 (e 4)) w fun r0 =>
  R (Value.tuple #[r0, (e 5)]) w) → (thenE (fun (e : Env) w => K (e 14) w) (inBlockE 0 Q)) .ret e w := fun e w h => then_R (hR e w h)
  have hX0 : ∀ e w, (m9_3 R (e 2) (e 4) (e 6) w) → (thenE (fun (e : Env) w => K (e 14) w) (inBlockE 0 Q)) (.exit 0) e w := fun e w h => then_X (hX0 e w h)
  exact s9_9 (K1 := K) (fun _ _ h => then_N h) hR hX0 e' w' (by rw [r2, r4, r6, r12, r13]; exact h')
theorem s9_2 (hR : hR9 R Q) (e : Env) (w : World) (h : m9_2 R (e 1) (e 2) (e 4) (e 6) w) : W9 k9_2 Q e w := by
  refine seA ?_
  have hN : ∀ e w, (m9_3 R (e 2) (e 4) (e 6) w) → (thenE (W9 k9_3 Q) Q) .normal e w := fun e w h => then_N (s9_3 hR e w h)
  have hR : ∀ e w, (valS Try.prog (loadC 28 (e 4)) w fun r0 =>
  R (Value.tuple #[r0, (e 5)]) w) → (thenE (W9 k9_3 Q) Q) .ret e w := fun e w h => then_R (hR e w h)
  refine seA ?_
  exact rgA 2 (fun e w => m9_8 R (e 2) (e 4) (e 6) (e 12) (e 13) (e 14) w) h fun e w h => then_N (s9_8 hN hR e w h)
theorem s9_1 (hR : hR9 R Q) (e : Env) (w : World) (h : m9_1 R (e 1) (e 2) (e 4) w) : W9 k9_1 Q e w := by
  refine seA ?_
  exact rgA 1 (fun e w => m9_2 R (e 1) (e 2) (e 4) (e 6) w) h fun e w h => then_N (s9_2 hR e w h)
theorem s9_0 (hR : hR9 R Q) (e : Env) (w : World) (h : m9_0 R (e 0) (e 1) w) : W9 k9_0 Q e w := by
  refine seA ?_
  exact rgA 0 (fun e w => m9_1 R (e 1) (e 2) (e 4) w) h fun e w h => then_N (s9_1 hR e w h)
abbrev m9 (R : VP) (g0 l1 : Value) (w : World) : Prop := m9_0 R g0 l1 w
theorem s9 (g0 l1 : Value) {R : VP} {w : World} (h : m9 R g0 l1 w) :
    Calls Try.prog 9 #[g0, l1] w fun e w' => ∃ v, e = .returned v ∧ R v w' :=
  calls_of_cwp (st := (fun i => 0)) (c := k9_0) (by kernel_rfl) Try.func9 (by kernel_rfl) (Nat.le_of_ble_eq_true (by kernel_rfl)) (by kernel_rfl)
    (s9_0 (R := R) (Q := endE Try.prog Try.f9 R) (fun e w h => kcast (by kernel_rfl) h) (argsE #[g0, l1]) w (kcast (by kernel_rfl) h))
end Go.Proofs.Ytnhgdngbdoifnaa.M
namespace Go.Proofs.Ytnhgdngbdoifnaa.M
open Go.Proofs.Ytnhgdngbdoifnaa.F Go.RowKit
set_option linter.unusedVariables false
set_option linter.unusedSimpArgs false
set_option maxRecDepth 100000
set_option maxHeartbeats 2000000
attribute [local irreducible] Res.cells Res.row Res.map Res.any World.cell? World.frozen? Instr.fieldAt Instr.loadAt Instr.storeAt Instr.indexAt Instr.lookup Instr.mapUpdate Instr.box Instr.build Instr.buildSlice Instr.extract Instr.alloc Instr.field Instr.index Instr.sliceAt Instr.makeSlice Instr.makeMap Instr.makeFunc binS Op.unary Sem.run
section
variable {w0 w : World} {F : List Nat} {L : List Res}
theorem pahead_ret {a b : Ce} (hS : St w0 F w L) : Ret Try.prog 33 #[cev a, cev b] w fun v w' => v = .bool (decide (AheadC a b)) ∧ St w0 F w' L := by
  refine s33 _ _ ?_
  unfold m33
  unfold m33_0
  refine new_ok (bx67 _ _ _ _ _ _ _ _ _ _ _ _ _) hS ?_
  intro b2 w hS
  refine new_ok (bx67 _ _ _ _ _ _ _ _ _ _ _ _ _) hS ?_
  intro b3 w hS
  have leaf : ∀ t : Bool, (t = true ↔ AheadC a b) → m33_2 (fun v w' => v = .bool (decide (AheadC a b)) ∧ St w0 F w' L) (.bool t) w := fun t ht => by
    unfold m33_2
    refine ⟨congrArg Value.bool ?_, hS.tail.tail⟩
    cases t with
    | true => exact (decide_eq_true (ht.1 rfl)).symm
    | false => exact (decide_eq_false fun h => by have := ht.2 h; cases this).symm
  unfold AheadC at leaf
  unfold m33_1
  first | refine valP_ok (fa67_1 _ _) ?_ | refine valP_ok (fao67_1 _ _ _) ?_
  first | refine valP_ok (ld3 (hS.cell 0 rfl rfl)) ?_ | refine valP_ok (ld3 (hS.cell 1 rfl rfl)) ?_ | refine valP_ok (ld3 (hS.cell 2 rfl rfl)) ?_ | refine valP_ok (ld3 (hS.cell 3 rfl rfl)) ?_ | refine valP_ok (ld3 (hS.cell 4 rfl rfl)) ?_ | refine valP_ok (ld3 (hS.cell 5 rfl rfl)) ?_ | refine valP_ok (ld3 (hS.cell 6 rfl rfl)) ?_ | refine valP_ok (ld3 (hS.cell 7 rfl rfl)) ?_ | refine valP_ok (ld3 (by assumption)) ?_
  first | refine valP_ok (fa67_1 _ _) ?_ | refine valP_ok (fao67_1 _ _ _) ?_
  first | refine valP_ok (ld3 (hS.cell 0 rfl rfl)) ?_ | refine valP_ok (ld3 (hS.cell 1 rfl rfl)) ?_ | refine valP_ok (ld3 (hS.cell 2 rfl rfl)) ?_ | refine valP_ok (ld3 (hS.cell 3 rfl rfl)) ?_ | refine valP_ok (ld3 (hS.cell 4 rfl rfl)) ?_ | refine valP_ok (ld3 (hS.cell 5 rfl rfl)) ?_ | refine valP_ok (ld3 (hS.cell 6 rfl rfl)) ?_ | refine valP_ok (ld3 (hS.cell 7 rfl rfl)) ?_ | refine valP_ok (ld3 (by assumption)) ?_
  refine valP_ok (lss_ok _ _ _ _ _ _ _) ?_
  first | refine cond_split (fun hc0 => ?_) (fun hc0 => ?_) | refine cond_bsplit (fun hc0 => ?_) (fun hc0 => ?_)
  · first | refine pick_dt (by first | assumption | omega) ?_ | refine pick_df (by first | assumption | omega) ?_ | refine pick_t (by first | rfl | assumption) ?_ | refine pick_f (by first | rfl | assumption) ?_ | refine pick_dt rfl ?_ | refine pick_df (not_not_intro rfl) ?_
    exact leaf _ (by simp only [decide_eq_true_eq, Bool.false_eq_true, false_iff, true_iff] <;> first | contradiction | omega)
  · first | refine valP_ok (fa67_1 _ _) ?_ | refine valP_ok (fao67_1 _ _ _) ?_
    first | refine valP_ok (ld3 (hS.cell 0 rfl rfl)) ?_ | refine valP_ok (ld3 (hS.cell 1 rfl rfl)) ?_ | refine valP_ok (ld3 (hS.cell 2 rfl rfl)) ?_ | refine valP_ok (ld3 (hS.cell 3 rfl rfl)) ?_ | refine valP_ok (ld3 (hS.cell 4 rfl rfl)) ?_ | refine valP_ok (ld3 (hS.cell 5 rfl rfl)) ?_ | refine valP_ok (ld3 (hS.cell 6 rfl rfl)) ?_ | refine valP_ok (ld3 (hS.cell 7 rfl rfl)) ?_ | refine valP_ok (ld3 (by assumption)) ?_
    first | refine valP_ok (fa67_1 _ _) ?_ | refine valP_ok (fao67_1 _ _ _) ?_
    first | refine valP_ok (ld3 (hS.cell 0 rfl rfl)) ?_ | refine valP_ok (ld3 (hS.cell 1 rfl rfl)) ?_ | refine valP_ok (ld3 (hS.cell 2 rfl rfl)) ?_ | refine valP_ok (ld3 (hS.cell 3 rfl rfl)) ?_ | refine valP_ok (ld3 (hS.cell 4 rfl rfl)) ?_ | refine valP_ok (ld3 (hS.cell 5 rfl rfl)) ?_ | refine valP_ok (ld3 (hS.cell 6 rfl rfl)) ?_ | refine valP_ok (ld3 (hS.cell 7 rfl rfl)) ?_ | refine valP_ok (ld3 (by assumption)) ?_
    refine valP_ok (eq3 _ _ _ _ _) ?_
    first | refine cond_split (fun hc1 => ?_) (fun hc1 => ?_) | refine cond_bsplit (fun hc1 => ?_) (fun hc1 => ?_)
    · first | refine valP_ok (fa67_0 _ _) ?_ | refine valP_ok (fao67_0 _ _ _) ?_
      first | refine valP_ok (ld3 (hS.cell 0 rfl rfl)) ?_ | refine valP_ok (ld3 (hS.cell 1 rfl rfl)) ?_ | refine valP_ok (ld3 (hS.cell 2 rfl rfl)) ?_ | refine valP_ok (ld3 (hS.cell 3 rfl rfl)) ?_ | refine valP_ok (ld3 (hS.cell 4 rfl rfl)) ?_ | refine valP_ok (ld3 (hS.cell 5 rfl rfl)) ?_ | refine valP_ok (ld3 (hS.cell 6 rfl rfl)) ?_ | refine valP_ok (ld3 (hS.cell 7 rfl rfl)) ?_ | refine valP_ok (ld3 (by assumption)) ?_
      first | refine valP_ok (fa67_0 _ _) ?_ | refine valP_ok (fao67_0 _ _ _) ?_
      first | refine valP_ok (ld3 (hS.cell 0 rfl rfl)) ?_ | refine valP_ok (ld3 (hS.cell 1 rfl rfl)) ?_ | refine valP_ok (ld3 (hS.cell 2 rfl rfl)) ?_ | refine valP_ok (ld3 (hS.cell 3 rfl rfl)) ?_ | refine valP_ok (ld3 (hS.cell 4 rfl rfl)) ?_ | refine valP_ok (ld3 (hS.cell 5 rfl rfl)) ?_ | refine valP_ok (ld3 (hS.cell 6 rfl rfl)) ?_ | refine valP_ok (ld3 (hS.cell 7 rfl rfl)) ?_ | refine valP_ok (ld3 (by assumption)) ?_
      refine valP_ok (lss_ok _ _ _ _ _ _ _) ?_
      first | refine pick_dt (by first | assumption | omega) ?_ | refine pick_df (by first | assumption | omega) ?_ | refine pick_t (by first | rfl | assumption) ?_ | refine pick_f (by first | rfl | assumption) ?_ | refine pick_dt rfl ?_ | refine pick_df (not_not_intro rfl) ?_
      first | refine pick_dt (by first | assumption | omega) ?_ | refine pick_df (by first | assumption | omega) ?_ | refine pick_t (by first | rfl | assumption) ?_ | refine pick_f (by first | rfl | assumption) ?_ | refine pick_dt rfl ?_ | refine pick_df (not_not_intro rfl) ?_
      exact leaf _ (by simp only [decide_eq_true_eq, Bool.false_eq_true, false_iff, true_iff] <;> first | contradiction | omega)
    · first | refine pick_dt (by first | assumption | omega) ?_ | refine pick_df (by first | assumption | omega) ?_ | refine pick_t (by first | rfl | assumption) ?_ | refine pick_f (by first | rfl | assumption) ?_ | refine pick_dt rfl ?_ | refine pick_df (not_not_intro rfl) ?_
      first | refine pick_dt (by first | assumption | omega) ?_ | refine pick_df (by first | assumption | omega) ?_ | refine pick_t (by first | rfl | assumption) ?_ | refine pick_f (by first | rfl | assumption) ?_ | refine pick_dt rfl ?_ | refine pick_df (not_not_intro rfl) ?_
      exact leaf _ (by simp only [decide_eq_true_eq, Bool.false_eq_true, false_iff, true_iff] <;> first | contradiction | omega)
theorem zero_ret (hS : St w0 F w L) : Ret Try.prog 20 #[] w fun v w' => v = sgv ⟨-1, 0, 0, 0, []⟩ none 0 ∧ St w0 F w' L := by
  refine s20 ?_
  unfold m20
  unfold m20_0
  refine new_ok (al28 _) hS ?_
  intro b0 w hS
  unfold m20_1
  refine valP_ok (bd28_0 rfl _) ?_
  first | refine ss28 0 hS rfl rfl rfl rfl rfl rfl ?_ | refine ss28 1 hS rfl rfl rfl rfl rfl rfl ?_ | refine ss28 2 hS rfl rfl rfl rfl rfl rfl ?_ | refine ss28 3 hS rfl rfl rfl rfl rfl rfl ?_ | refine ss28 4 hS rfl rfl rfl rfl rfl rfl ?_ | refine ss28 5 hS rfl rfl rfl rfl rfl rfl ?_ | refine ss28 6 hS rfl rfl rfl rfl rfl rfl ?_ | refine ss28 7 hS rfl rfl rfl rfl rfl rfl ?_
  intro w hS
  simp only [List.set_cons_zero, List.set_cons_succ] at hS
  unfold m20_2
  refine valS_ok (lc28 (hS.cell 0 rfl rfl) (hS.cell 0 rfl rfl) (hS.cell 0 rfl rfl) (hS.cell 0 rfl rfl) (hS.cell 0 rfl rfl)) ?_
  exact ⟨rfl, hS.tail⟩
theorem clone_ret {l : List Ce} {A : Option Addr} {c : Nat} (hl : l.length ≤ 100000) (hE : Sl w0 F L A c l) (hS : St w0 F w L) : Ret Try.prog 34 #[.slice A l.length c] w fun v w' => ∃ A' c', v = .slice A' l.length c' ∧ St w0 F w' (cRow A' c' l :: L) := by
  refine s34 _ ?_
  unfold m34
  unfold m34_0
  unfold m34_1
  refine valP_ok (eq26 _ _ _ _ _ _) ?_
  unfold m34_4
  cases A with
  | none =>
    obtain rfl := hE.nul rfl
    have hl0 : l = [] := List.eq_nil_of_length_eq_zero (by have := hE.cap; omega)
    subst hl0
    refine cond_t rfl ?_
    unfold m34_5
    exact ⟨none, 0, rfl, hS.row_nil 67 12⟩
  | some a =>
    refine cond_f rfl ?_
    unfold m34_2
    refine newslice_ok (bs26_0 _) hS ?_
    intro b5 w hS
    have hS := hS.as_row 0 12 0 rfl rfl (by unfold maxLen; omega)
    refine append_anyS (enc := encC) (l0 := []) (l := l) 0 sl26 encC_len encC_one (by unfold maxLen; simp only [List.length_nil]; omega) (by simp only [List.length_nil]; omega) hS rfl (hE.rd.rd1 hS) hE.nul ?_
    intro A' c' w hS
    unfold m34_3
    exact ⟨A', c', rfl, hS⟩
end
attribute [local semireducible] Res.cells Res.row World.cell? World.frozen?
section
variable {P : Program} {w0 w : World} {F : List Nat} {L : List Res} {K : Value → World → Prop}
theorem append_room_ok (k : Nat) {t e ty size bytes n m c c2 g : Nat} {z : Value} {cs : Array Bool} {a : Addr} {xs news : List Value} (hT : SlT P t e size bytes z) (hS : St w0 F w L) (hk : L[k]? = some (Res.row e size (.slice (some ⟨g, 0, none⟩) n c) n xs))
    (hl : news.length = m * size) (hnews : ∀ j u, news[j]? = some u → w.cell? (a.add j) = some u) (h1 : ∀ u ∈ news, u.oneCell' = true) (hroom : n + m ≤ c)
    (h : ∀ w', St w0 F w' (L.set k (Res.row e size (.slice (some ⟨g, 0, none⟩) (n + m) c) (n + m) (xs ++ news))) → K (.slice (some ⟨g, 0, none⟩) (n + m) c) w') : builtinP P .append #[t, t] ty cs #[.slice (some ⟨g, 0, none⟩) n c, .slice (some a) m c2] w K := by
  obtain ⟨i, hi, hz, hs, hb⟩ := hT.parts
  subst hs
  have hh : w.ownsRow 0 e i.size (.slice (some ⟨g, 0, none⟩) n c) n xs := hS.get k hk
  rcases hh.2 with ⟨hv, _⟩ | ⟨g', cap, cur, hv, hb0, hg, hn, hm, hcs, ht⟩
  · injection hv with h1; cases h1
  injection hv with e1 e2 e3
  injection e1 with e1
  injection e1 with e1
  subst e1
  subst e3
  have hxl := hh.1
  have hfit : n * i.size + news.length ≤ cur.size := by rw [hl, hcs, ← Nat.add_mul]; exact Nat.mul_le_mul_right _ hroom
  have hr := run_append_room (P := P) w t ty e i hT.1 hi g n c cur hg a m c2 news hl hnews h1 hroom hfit
  refine builtin_ok (append_run hr) (h _ (hS.updk k hk ⟨rfl, rfl, rfl, by simp, fun j _ hj => setRow_other w g j _ (fun e => hj (by simp [Res.row, Value.ownBlock, e]))⟩ ⟨?_, .inr ⟨g, c, _, rfl, hb0, setRow_heap w g cur _ e _ hg, hroom, hm, ?_, ?_⟩⟩ (fun g hg => .inl hg) (fun g hg => ?_)))
  · rw [List.length_append, hxl, hl, Nat.add_mul]
  · simp only [List.size_toArray, List.length_append, List.length_take, List.length_drop, Array.length_toList]
    omega
  · rw [ht]
    exact List.take_left' (by rw [List.length_append, hxl, hl, Nat.add_mul])
  · have := hS.lt _ (List.mem_of_getElem? hk) g hg
    simpa using this
end
theorem s3_26 {A : Option Addr} {n c i j : Nat} (h1 : i ≤ j) (h2 : j ≤ n) (h3 : n ≤ c) (w : World) : ∃ v, (Instr.sliceAt 26 (.slice A n c) (some (.int .i64 (i : Int))) (some (.int .i64 (j : Int))) (some (.int .i64 (n : Int)))).run Try.prog w = .ok v w := by
  have a1 : ¬ (c : Int) < n := by omega
  have a2 : ¬ (n : Int) < j := by omega
  have a3 : ¬ (j : Int) < i := by omega
  have b1 : ¬ c < n := by omega
  have b2 : ¬ n < j := by omega
  have b3 : ¬ j < i := by omega
  exact ⟨_, by simp [go_sem, h1, h2, h3]; rfl⟩
theorem sf26 {g n c k : Nat} (h : k ≤ n) (hc : n ≤ c) (hk : k < c) (w : World) : (Instr.sliceAt 26 (.slice (some ⟨g, 0, none⟩) n c) (some (.int .i64 (k : Int))) none none).run Try.prog w = .ok (.slice (some ⟨g, k * 12, none⟩) (n - k) (c - k)) w := by
  rw [so26 h hc, if_neg (by omega)]
  simp [add_none]
theorem sft26 {A : Option Addr} {n c k m : Nat} (h : k ≤ m) (hc : m ≤ c) (w : World) : (Instr.sliceAt 26 (.slice A n c) (some (.int .i64 (k : Int))) (some (.int .i64 (m : Int))) none).run Try.prog w = .ok (.slice (if c = k then A else A.map (·.add (k * 12))) (m - k) (c - k)) w := by
  have a1 : ¬ (c : Int) < m := by omega
  have a2 : ¬ (m : Int) < k := by omega
  have b1 : ¬ c < m := by omega
  have b2 : ¬ m < k := by omega
  simp [go_sem, h, hc, Addr.add]
theorem flat_at {l : List Ce} {n j : Nat} (hn : n ≤ l.length) : (l.flatMap encC)[n * 12 + j]? = ((l.drop n).flatMap encC)[j]? := by
  have e : l.flatMap encC = (l.take n).flatMap encC ++ (l.drop n).flatMap encC := by rw [← List.flatMap_append, List.take_append_drop]
  have h1 : ((l.take n).flatMap encC).length = n * 12 := by rw [flat_len encC 12 encC_len, List.length_take, Nat.min_eq_left hn]
  rw [e, List.getElem?_append_right (by omega), h1, Nat.add_sub_cancel_left]
section
variable {w0 w : World} {F : List Nat} {L : List Res}
theorem delete_ret {l : List Ce} {A : Option Addr} {c i : Nat} (hi : i < l.length) (hl : l.length ≤ 100000) (hS : St w0 F w (cRow A c l :: L)) : Ret Try.prog 38 #[.slice A l.length c, .int .i64 (i : Int), .int .i64 ((i + 1 : Nat) : Int)] w fun v w' => ∃ A' c', v = .slice A' (l.take i ++ l.drop (i + 1)).length c' ∧ St w0 F w' (cRow A' c' (l.take i ++ l.drop (i + 1)) :: L) := by
  have hcap := (hS.row_max 0 rfl).1
  obtain ⟨g, rfl⟩ := row_some (hS.own_row 0 rfl) (by omega)
  have hlen : (l.take i ++ l.drop (i + 1)).length = l.length - 1 := by rw [List.length_append, List.length_take, List.length_drop]; omega
  have hfl := flat_len encC 12 encC_len
  refine s38 _ _ _ ?_
  unfold m38
  unfold m38_0
  unfold m38_1
  refine builtin_ok (len26 _) ?_
  obtain ⟨v, hv⟩ := s3_26 (A := some ⟨g, 0, none⟩) (i := i) (j := i + 1) (n := l.length) (c := c) (by omega) (by omega) hcap w
  refine valP_ok hv ?_
  unfold m38_2
  refine valP_ok (eq3 _ _ _ _ _) ?_
  unfold m38_8
  refine cond_df (by omega) ?_
  unfold m38_3
  refine builtin_ok (len26 _) ?_
  unfold m38_4
  refine drawn_ok hS ?_
  intro w hS
  refine valS_ok (sh26 (k := i) (by omega) w) ?_
  have hcells : ∀ j u, (l.flatMap encC)[j]? = some u → w.cell? ⟨g, j, none⟩ = some u := fun j u hj => hS.row_cell 0 rfl hj
  have hT := hS.row_take (k := i) 0 rfl (by omega)
  rw [flat_take encC 12 encC_len] at hT
  simp only [List.set_cons_zero] at hT
  have fin : ∀ w, St w0 F w (Res.row 67 12 (.slice (some ⟨g, 0, none⟩) (l.length - 1) c) (l.length - 1) ((l.take i ++ l.drop (i + 1)).flatMap encC) :: L) → m38_5 (fun v w' => ∃ A' c', v = .slice A' (l.take i ++ l.drop (i + 1)).length c' ∧ St w0 F w' (cRow A' c' (l.take i ++ l.drop (i + 1)) :: L)) (.slice (some ⟨g, 0, none⟩) (l.length - 1) c) (.int .i64 (l.length : Int)) w := fun w hS => by
    unfold m38_5
    refine builtin_ok (len26 _) ?_
    refine valP_ok (sft26 (k := l.length - 1) (m := l.length) (by omega) hcap w) ?_
    obtain ⟨ys, y1, y2, hS⟩ := row_all 0 hS rfl
    simp only [List.set_cons_zero] at hS
    have hS := hS.row_take (k := l.length) 0 rfl hcap
    simp only [List.set_cons_zero] at hS
    refine clear_ok (i := l.length - 1) 0 sl26 (by decide) hS rfl (by omega) ?_
    intro w' xs' x1 x2 hS
    simp only [List.set_cons_zero] at hS
    have hS := hS.row_take (k := l.length - 1) 0 rfl (by omega)
    simp only [List.set_cons_zero] at hS
    rw [x2, List.take_take, Nat.min_eq_left (Nat.mul_le_mul_right _ (by omega)), y2, ← hlen] at hS
    unfold m38_6 m38_7
    exact ⟨_, _, by rw [hlen], hS⟩
  have fin2 : ∀ w, St w0 F w (Res.row 67 12 (.slice (some ⟨g, 0, none⟩) (i + (l.length - (i + 1))) c) (i + (l.length - (i + 1))) ((l.take i).flatMap encC ++ (l.drop (i + 1)).flatMap encC) :: L) → m38_5 (fun v w' => ∃ A' c', v = .slice A' (l.take i ++ l.drop (i + 1)).length c' ∧ St w0 F w' (cRow A' c' (l.take i ++ l.drop (i + 1)) :: L)) (.slice (some ⟨g, 0, none⟩) (i + (l.length - (i + 1))) c) (.int .i64 (l.length : Int)) w := fun w hS => by
    rw [← List.flatMap_append, show i + (l.length - (i + 1)) = l.length - 1 by omega] at hS
    rw [show i + (l.length - (i + 1)) = l.length - 1 by omega]
    exact fin w hS
  by_cases hce : c = i + 1
  · have hnn : l.length = i + 1 := by omega
    refine valS_ok (so26 (k := i + 1) (by omega) hcap w) ?_
    rw [if_pos hce]
    refine append_room_ok (news := (l.drop (i + 1)).flatMap encC) 0 sl26 hT rfl (by rw [hfl, List.length_drop]) (fun j u hj => ?_) (fun u hu => ?_) (by omega) ?_
    · rw [List.drop_of_length_le (by omega)] at hj
      simp at hj
    · obtain ⟨x, _, hx⟩ := List.mem_flatMap.1 hu
      exact encC_one x u hx
    intro w' hS'
    exact fin2 _ hS'
  · refine valS_ok (sf26 (k := i + 1) (by omega) hcap (by omega) w) ?_
    refine append_room_ok (news := (l.drop (i + 1)).flatMap encC) 0 sl26 hT rfl (by rw [hfl, List.length_drop]) (fun j u hj => ?_) (fun u hu => ?_) (by omega) ?_
    · rw [add_none]
      exact hcells _ _ (by rw [flat_at (by omega)]; exact hj)
    · obtain ⟨x, _, hx⟩ := List.mem_flatMap.1 hu
      exact encC_one x u hx
    intro w' hS'
    exact fin2 _ hS'
end
theorem ins_gen {α : Type} {xs T E D : List α} {a b : Nat} (hT : xs.take a = T) (hTl : T.length = a) (hE : E.length = b) (hl : xs.length = a + b + D.length) : setAll (setAll xs a E) (a + b) D = T ++ (E ++ D) := by
  have y1 : (setAll xs a E).length = xs.length := setAll_len _ _ _
  have y2 : (setAll xs a E).take (a + b) = T ++ E := by
    rw [setAll_eq E xs _ (by omega), hT]
    exact List.take_left' (by rw [List.length_append]; omega)
  generalize setAll xs a E = Y at y1 y2
  rw [setAll_eq D Y _ (by omega), y2, List.drop_of_length_le (by omega), List.append_nil, List.append_assoc]
theorem ins_gen2 {α : Type} {xs T E D : List α} {a b : Nat} (hT : xs.take a = T) (hTl : T.length = a) (hE : E.length = b) (hl : xs.length = a + b + D.length) : setAll (setAll xs (a + b) D) a E = T ++ (E ++ D) := by
  have y1 : (setAll xs (a + b) D).length = xs.length := setAll_len _ _ _
  have y2 : (setAll xs (a + b) D).take a = T := by rw [setAll_take _ _ _ _ (by omega), hT]
  have y3 : (setAll xs (a + b) D).drop (a + b) = D := by
    rw [setAll_eq D xs _ (by omega), show xs.drop (a + b + D.length) = [] from List.drop_of_length_le (by omega), List.append_nil]
    exact List.drop_left' (by rw [List.length_take]; omega)
  generalize setAll xs (a + b) D = Y at y1 y2 y3
  rw [setAll_eq E Y _ (by omega), y2, hE, y3, List.append_assoc]
theorem ins_flat (l : List Ce) (i : Nat) (x : Ce) : (l.take i).flatMap encC ++ (encC x ++ (l.drop i).flatMap encC) = (l.take i ++ x :: l.drop i).flatMap encC := by
  rw [List.flatMap_append, List.flatMap_cons]
theorem ins_all {l : List Ce} {i : Nat} {x : Ce} {xs : List Value} (hi : i ≤ l.length) (hx : xs.length = (l.length + 1) * 12) (ht : xs.take (i * 12) = (l.take i).flatMap encC) : setAll (setAll xs (i * 12) (encC x)) ((i + 1) * 12) ((l.drop i).flatMap encC) = (l.take i ++ x :: l.drop i).flatMap encC := by
  have hd : ((l.drop i).flatMap encC).length = (l.length - i) * 12 := by rw [flat_len encC 12 encC_len, List.length_drop]
  have htl : ((l.take i).flatMap encC).length = i * 12 := by rw [flat_len encC 12 encC_len, List.length_take]; omega
  rw [show (i + 1) * 12 = i * 12 + 12 by omega, ins_gen ht htl (encC_len x) (by omega), ins_flat]
theorem ins_all2 {l : List Ce} {i : Nat} {x : Ce} {xs : List Value} (hi : i ≤ l.length) (hx : xs.length = (l.length + 1) * 12) (ht : xs.take (i * 12) = (l.take i).flatMap encC) : setAll (setAll xs ((i + 1) * 12) ((l.drop i).flatMap encC)) (i * 12) (encC x) = (l.take i ++ x :: l.drop i).flatMap encC := by
  have hd : ((l.drop i).flatMap encC).length = (l.length - i) * 12 := by rw [flat_len encC 12 encC_len, List.length_drop]
  have htl : ((l.take i).flatMap encC).length = i * 12 := by rw [flat_len encC 12 encC_len, List.length_take]; omega
  rw [show (i + 1) * 12 = i * 12 + 12 by omega, ins_gen2 ht htl (encC_len x) (by omega), ins_flat]
theorem capb_ok {A : Option Addr} {n c : Nat} {t : TypeId} {cs : Array Bool} (w : World) : (builtin .cap #[26] t cs #[.slice A n c] : Sem Next).run Try.prog w = .ok (.value (.int .i64 (c : Int))) w := by
  simp [builtin, Builtin.cap_, run_underlying Try.underlying26]
  rfl
section
variable {w0 w : World} {F : List Nat} {L : List Res}
theorem insert_ret {l : List Ce} {A : Option Addr} {c i b : Nat} {x : Ce} (hi : i ≤ l.length) (hl : l.length ≤ 100000) (hS : St w0 F w (Res.cells b 67 (encC x) :: cRow A c l :: L)) : Ret Try.prog 37 #[.slice A l.length c, .int .i64 (i : Int), .slice (some ⟨b, 0, none⟩) 1 1] w fun v w' => ∃ A' c', v = .slice A' (l.take i ++ x :: l.drop i).length c' ∧ St w0 F w' (cRow A' c' (l.take i ++ x :: l.drop i) :: L) := by
  have hcap := (hS.row_max 1 rfl).1
  have hcm := (hS.row_max 1 rfl).2
  have hlen : (l.take i ++ x :: l.drop i).length = l.length + 1 := by rw [List.length_append, List.length_cons, List.length_take, List.length_drop]; omega
  have hfl := flat_len encC 12 encC_len
  refine s37 _ _ _ ?_
  unfold m37
  unfold m37_0
  unfold m37_1
  refine valP_ok (so26 (k := i) hi hcap w) ?_
  unfold m37_2
  refine builtin_ok (len26 _) ?_
  rw [show ((1 : Nat) : Int) = 1 from rfl]
  unfold m37_3
  refine valP_ok (eq3 _ _ _ _ _) ?_
  unfold m37_24
  refine cond_df (by omega) ?_
  unfold m37_4
  refine builtin_ok (len26 _) ?_
  unfold m37_5
  refine valP_ok (eq3 _ _ _ _ _) ?_
  unfold m37_22
  refine cond_split (fun h => ?_) (fun h => ?_)
  · obtain rfl : i = l.length := by omega
    refine append_one1 (enc := encC) 0 x sl26 encC_len encC_one (by unfold maxLen; omega) (by omega) hS rfl ?_
    intro A' c' w' hS
    simp only [List.set_cons_zero] at hS
    unfold m37_23
    rw [List.take_length, List.drop_length]
    exact ⟨A', c', rfl, hS⟩
  have hil : i < l.length := by omega
  obtain ⟨g, rfl⟩ := row_some (hS.own_row 1 rfl) (by omega)
  unfold m37_6
  refine valP_ok (add_ok _ _ _ (by omega) (by omega) _) ?_
  refine builtin_ok (capb_ok w) ?_
  refine valP_ok (gtr_ok _ _ _ _ _ _ _) ?_
  unfold m37_17
  refine cond_split (fun h2 => ?_) (fun h2 => ?_)
  · refine valP_ok (sh26 (k := i) (by omega) w) ?_
    refine valP_ok (add_ok _ _ _ (by omega) (by omega) _) ?_
    refine valP_ok (sub_ok _ _ _ (by omega) (by omega) _) ?_
    rw [show (l.length : Int) + 1 - (i : Int) = ((l.length + 1 - i : Nat) : Int) by omega]
    have htl : ((l.take i).flatMap encC).length = i * 12 := by rw [hfl, List.length_take, Nat.min_eq_left hi]
    refine append_zeros_ok (n := i) (m := l.length + 1 - i) (xs := (l.take i).flatMap encC) sl26 Try.underlying3 hS (fun j u hj => ?_) htl (by omega) (by omega) (by unfold maxLen; omega) (by omega) ?_
    · rw [add_none, Nat.zero_add]
      refine hS.row_cell 1 rfl ?_
      rw [← flat_take encC 12 encC_len] at hj
      rw [List.getElem?_take] at hj
      split at hj
      · exact hj
      · cases hj
    intro b9 c9 w hS
    rw [show i + (l.length + 1 - i) = l.length + 1 by omega] at hS ⊢
    have hc9 := (hS.row_max 0 rfl).1
    have hzl := (hS.row_form 0 rfl)
    obtain ⟨_, _, _, hzl⟩ := hzl
    have hzt : ((l.take i).flatMap encC ++ (Builtin.zeroCells (Value.agg #[.int .i64 0, .int .i64 0, .int .i64 0, .int .i64 0, .int .i64 0, .int .i64 0, .int .i64 0, .int .i64 0, .int .i64 0, .int .i64 0, .int .i64 0, .int .i64 0]).cells (l.length + 1 - i)).toList).take (i * 12) = (l.take i).flatMap encC := List.take_left' htl
    generalize (l.take i).flatMap encC ++ (Builtin.zeroCells _ _).toList = xs at hS hzl hzt
    unfold m37_18
    refine valP_ok (sf26 (k := i) (by omega) hc9 (by omega) w) ?_
    refine copy_ok (news := encC x) (m := 1) (o := i * 12) 0 sl26 hS rfl (by simp only [Nat.min_def]; split <;> omega) rfl (fun j u hj => ?_) (encC_one x) (by omega) ?_
    · rw [add_none, Nat.zero_add]
      exact hS.cell 1 rfl hj
    intro w hS
    simp only [List.set_cons_zero] at hS
    unfold m37_19
    refine drawn_ok hS ?_
    intro w hS
    refine valS_ok (add_ok _ _ _ (by omega) (by omega) _) ?_
    rw [show (i : Int) + 1 = ((i + 1 : Nat) : Int) from rfl]
    refine valS_ok (sf26 (k := i + 1) (by omega) hc9 (by omega) w) ?_
    refine valS_ok (sf26 (k := i) (by omega) hcap (by omega) w) ?_
    refine copy_ok (news := (l.drop i).flatMap encC) (m := l.length - i) (o := (i + 1) * 12) 0 sl26 hS rfl (by simp only [Nat.min_def]; split <;> omega) (by rw [hfl, List.length_drop]) (fun j u hj => ?_) (fun u hu => ?_) (by rw [setAll_len]; omega) ?_
    · rw [add_none]
      exact hS.row_cell 2 rfl (by rw [flat_at hi]; exact hj)
    · obtain ⟨y, _, hy⟩ := List.mem_flatMap.1 hu
      exact encC_one y u hy
    intro w hS
    simp only [List.set_cons_zero] at hS
    rw [ins_all hi hzl hzt, ← hlen] at hS
    unfold m37_20 m37_21
    exact ⟨_, _, by rw [hlen], hS.pick 3 [0] (by simp) (by decide)⟩
  · obtain ⟨ys, y1, y2, hS⟩ := row_all 1 hS rfl
    simp only [List.set_cons_succ, List.set_cons_zero] at hS
    have hS := hS.row_take (k := l.length + 1) 1 rfl (by omega)
    simp only [List.set_cons_succ, List.set_cons_zero] at hS
    have z1 : (ys.take ((l.length + 1) * 12)).length = (l.length + 1) * 12 := by
      have : (l.length + 1) * 12 ≤ c * 12 := Nat.mul_le_mul_right _ (by omega)
      rw [List.length_take]; omega
    have z2 : (ys.take ((l.length + 1) * 12)).take (l.length * 12) = l.flatMap encC := by rw [List.take_take, Nat.min_eq_left (by omega), y2]
    generalize ys.take ((l.length + 1) * 12) = xs at hS z1 z2
    have hzt : xs.take (i * 12) = (l.take i).flatMap encC := by
      have : xs.take (i * 12) = (xs.take (l.length * 12)).take (i * 12) := by rw [List.take_take, Nat.min_eq_left (by omega)]
      rw [this, z2, flat_take encC 12 encC_len]
    have hxs : ∀ j u, (l.flatMap encC)[j]? = some u → xs[j]? = some u := fun j u hj => by
      rw [← z2, List.getElem?_take] at hj
      split at hj
      · exact hj
      · cases hj
    unfold m37_7
    refine valP_ok (add_ok _ _ _ (by omega) (by omega) _) ?_
    rw [show (l.length : Int) + 1 = ((l.length + 1 : Nat) : Int) from rfl]
    refine valP_ok (sh26 (k := l.length + 1) (by omega) w) ?_
    unfold m37_8
    refine valP_ok (add_ok _ _ _ (by omega) (by omega) _) ?_
    rw [show (i : Int) + 1 = ((i + 1 : Nat) : Int) from rfl]
    refine valP_ok (sf26 (k := i + 1) (by omega) (by omega) (by omega) w) ?_
    refine overlaps_ok hS (.head _) rfl (by omega) ?_
    first | refine valP_ok (not_ok _ _) ?_ | refine valP_ok (notb_ok _ _) ?_
    unfold m37_13
    refine cond_t rfl ?_
    refine drawn_ok hS ?_
    intro w hS
    refine valS_ok (add_ok _ _ _ (by omega) (by omega) _) ?_
    rw [show (i : Int) + 1 = ((i + 1 : Nat) : Int) from rfl]
    refine valS_ok (sf26 (k := i + 1) (by omega) (by omega) (by omega) w) ?_
    refine valS_ok (sf26 (k := i) (by omega) (by omega) (by omega) w) ?_
    refine copy_ok (news := (l.drop i).flatMap encC) (m := l.length - i) (o := (i + 1) * 12) 1 sl26 hS rfl (by simp only [Nat.min_def]; split <;> omega) (by rw [hfl, List.length_drop]) (fun j u hj => ?_) (fun u hu => ?_) (by omega) ?_
    · rw [add_none]
      exact hS.row_cell 1 rfl (hxs _ _ (by rw [flat_at hi]; exact hj))
    · obtain ⟨y, _, hy⟩ := List.mem_flatMap.1 hu
      exact encC_one y u hy
    intro w hS
    simp only [List.set_cons_succ, List.set_cons_zero] at hS
    unfold m37_14
    refine valP_ok (sf26 (k := i) (by omega) (by omega) (by omega) w) ?_
    refine copy_ok (news := encC x) (m := 1) (o := i * 12) 1 sl26 hS rfl (by simp only [Nat.min_def]; split <;> omega) rfl (fun j u hj => ?_) (encC_one x) (by rw [setAll_len]; omega) ?_
    · rw [add_none, Nat.zero_add]
      exact hS.cell 0 rfl hj
    intro w hS
    simp only [List.set_cons_succ, List.set_cons_zero] at hS
    rw [ins_all2 hi z1 hzt, ← hlen] at hS
    unfold m37_15 m37_16
    exact ⟨_, _, by rw [hlen], hS.tail⟩
end
def putC : List Ce → Ce → List Ce
  | [], x => [x]
  | a :: l, x => if AheadC a x then a :: putC l x else if AheadC x a then x :: a :: l else x :: l
def delC : List Ce → Ce → List Ce
  | [], _ => []
  | a :: l, x => if AheadC a x then a :: delC l x else l
def posC : List Ce → Ce → Nat
  | [], _ => 0
  | a :: l, x => if AheadC a x then posC l x + 1 else 0
def atC (l : List Ce) (x : Ce) : Prop := ∃ h : posC l x < l.length, ¬ AheadC x l[posC l x]
theorem posC_y {a x : Ce} {l : List Ce} (h : AheadC a x) : posC (a :: l) x = posC l x + 1 := by rw [posC, if_pos h]
theorem posC_n {a x : Ce} {l : List Ce} (h : ¬ AheadC a x) : posC (a :: l) x = 0 := by rw [posC, if_neg h]
theorem putC_y {a x : Ce} {l : List Ce} (h : AheadC a x) : putC (a :: l) x = a :: putC l x := by rw [putC, if_pos h]
theorem putC_n {a x : Ce} {l : List Ce} (h : ¬ AheadC a x) : putC (a :: l) x = if AheadC x a then x :: a :: l else x :: l := by rw [putC, if_neg h]
theorem delC_y {a x : Ce} {l : List Ce} (h : AheadC a x) : delC (a :: l) x = a :: delC l x := by rw [delC, if_pos h]
theorem delC_n {a x : Ce} {l : List Ce} (h : ¬ AheadC a x) : delC (a :: l) x = l := by rw [delC, if_neg h]
theorem posC_le (l : List Ce) (x : Ce) : posC l x ≤ l.length := by
  induction l with
  | nil => exact Nat.le_refl _
  | cons a l ih =>
    by_cases h : AheadC a x
    · rw [posC_y h, List.length_cons]; omega
    · rw [posC_n h]; exact Nat.zero_le _
theorem posC_lt (l : List Ce) (x : Ce) : ∀ (j : Nat) (h : j < l.length), j < posC l x → AheadC l[j] x := by
  induction l with
  | nil => intro j h; simp at h
  | cons a l ih =>
    intro j h hj
    by_cases h1 : AheadC a x
    · rw [posC_y h1] at hj
      cases j with
      | zero => exact h1
      | succ j => exact ih j (by simpa using h) (by omega)
    · rw [posC_n h1] at hj; omega
theorem posC_at (l : List Ce) (x : Ce) : ∀ (h : posC l x < l.length), ¬ AheadC (l[posC l x]) x := by
  induction l with
  | nil => intro h; simp [posC] at h
  | cons a l ih =>
    intro h
    by_cases h1 : AheadC a x
    · simp only [posC_y h1, List.getElem_cons_succ]
      exact ih (by rw [posC_y h1] at h; simpa using h)
    · simp only [posC_n h1, List.getElem_cons_zero]
      exact h1
theorem posC_of {l : List Ce} {x : Ce} {i : Nat} (hi : i ≤ l.length) (h1 : ∀ j (h : j < l.length), j < i → AheadC l[j] x) (h2 : ∀ h : i < l.length, ¬ AheadC l[i] x) : i = posC l x := by
  rcases Nat.lt_trichotomy i (posC l x) with g | g | g
  · have := posC_le l x
    exact absurd (posC_lt l x i (by omega) g) (h2 (by omega))
  · exact g
  · exact absurd (h1 _ (by omega) g) (posC_at l x (by omega))
theorem putC_at {l : List Ce} {x : Ce} (h : atC l x) : putC l x = l.set (posC l x) x := by
  induction l with
  | nil => obtain ⟨h, _⟩ := h; simp [posC] at h
  | cons a l ih =>
    obtain ⟨h, hn⟩ := h
    by_cases h1 : AheadC a x
    · simp only [posC_y h1, List.getElem_cons_succ] at hn
      rw [posC_y h1] at h
      rw [posC_y h1, List.set_cons_succ, ← ih ⟨by simpa using h, hn⟩, putC_y h1]
    · simp only [posC_n h1, List.getElem_cons_zero] at hn
      rw [posC_n h1, List.set_cons_zero, putC_n h1, if_neg hn]
theorem putC_not {l : List Ce} {x : Ce} (hn : ¬ atC l x) : putC l x = l.take (posC l x) ++ x :: l.drop (posC l x) := by
  induction l with
  | nil => rfl
  | cons a l ih =>
    by_cases h1 : AheadC a x
    · have hn' : ¬ atC l x := fun ⟨h, h2⟩ => hn ⟨by rw [posC_y h1]; simpa using h, by simp only [posC_y h1, List.getElem_cons_succ]; exact h2⟩
      rw [posC_y h1, List.take_succ_cons, List.drop_succ_cons, List.cons_append, ← ih hn', putC_y h1]
    · have h2 : AheadC x a := Classical.byContradiction fun h2 => hn ⟨by rw [posC_n h1]; simp, by simp only [posC_n h1, List.getElem_cons_zero]; exact h2⟩
      rw [posC_n h1, putC_n h1, if_pos h2]
      rfl
theorem delC_at {l : List Ce} {x : Ce} (h : posC l x < l.length) : delC l x = l.take (posC l x) ++ l.drop (posC l x + 1) := by
  induction l with
  | nil => simp [posC] at h
  | cons a l ih =>
    by_cases h1 : AheadC a x
    · rw [posC_y h1] at h ⊢
      rw [List.take_succ_cons, List.drop_succ_cons, List.cons_append, ← ih (by simpa using h), delC_y h1]
    · rw [posC_n h1, delC_n h1]
      rfl
def ApplyR (s : Sg) (w0 : World) (F : List Nat) (L : List Res) (v : Value) (w : World) : Prop := ∃ A c, v = .tuple #[sgv s A c, .int .i64 0] ∧ St w0 F w (cRow A c s.L :: L)
section
variable {w0 w : World} {F : List Nat} {L : List Res}
section
variable {s : Sg} {A : Option Addr} {c b2 b3 b4 b9 : Nat}
theorem ap_9 {l' : List Ce} {A' : Option Addr} {c' : Nat} (hS : St w0 F w (cRow A' c' l' :: Res.cells b4 28 (encS ⟨0, 0, 0, 0, []⟩ none 0) :: Res.cells b2 28 (encS s A c) :: L)) : m21_9 (ApplyR { s with L := l' } w0 F L) (.pointer (some ⟨b2, 0, none⟩)) (.pointer (some ⟨b4, 0, none⟩)) (.slice A' l'.length c') w := by
  unfold m21_9
  first | refine valP_ok (fa28_4 _ _) ?_ | refine valP_ok (fao28_4 _ _ _) ?_
  first | refine store_at 0 st26 hS rfl (by simp) rfl ?_ | refine store_at 1 st26 hS rfl (by simp) rfl ?_ | refine store_at 2 st26 hS rfl (by simp) rfl ?_ | refine store_at 3 st26 hS rfl (by simp) rfl ?_ | refine store_at 4 st26 hS rfl (by simp) rfl ?_ | refine store_at 5 st26 hS rfl (by simp) rfl ?_ | refine store_at 6 st26 hS rfl (by simp) rfl ?_ | refine store_at 7 st26 hS rfl (by simp) rfl ?_
  intro w hS
  simp only [List.set_cons_zero, List.set_cons_succ] at hS
  unfold m21_10
  first | refine ls28 0 hS rfl ?_ | refine ls28 1 hS rfl ?_ | refine ls28 2 hS rfl ?_ | refine ls28 3 hS rfl ?_ | refine ls28 4 hS rfl ?_ | refine ls28 5 hS rfl ?_ | refine ls28 6 hS rfl ?_ | refine ls28 7 hS rfl ?_ | refine valP_ok (ld28 (by assumption) (by assumption) (by assumption) (by assumption) (by assumption)) ?_
  first | refine ss28 0 hS rfl rfl rfl rfl rfl rfl ?_ | refine ss28 1 hS rfl rfl rfl rfl rfl rfl ?_ | refine ss28 2 hS rfl rfl rfl rfl rfl rfl ?_ | refine ss28 3 hS rfl rfl rfl rfl rfl rfl ?_ | refine ss28 4 hS rfl rfl rfl rfl rfl rfl ?_ | refine ss28 5 hS rfl rfl rfl rfl rfl rfl ?_ | refine ss28 6 hS rfl rfl rfl rfl rfl rfl ?_ | refine ss28 7 hS rfl rfl rfl rfl rfl rfl ?_
  intro w hS
  simp only [List.set_cons_zero, List.set_cons_succ] at hS
  unfold m21_11
  refine valS_ok (lc28 (hS.cell 1 rfl rfl) (hS.cell 1 rfl rfl) (hS.cell 1 rfl rfl) (hS.cell 1 rfl rfl) (hS.cell 1 rfl rfl)) ?_
  exact ⟨A', c', rfl, hS.pick 3 [0] (by simp) (by decide)⟩
end
end
abbrev atR (r : Rc) : Ce := ⟨r.key, r.time, zeroAg⟩
abbrev zSg : Sg := ⟨0, 0, 0, 0, []⟩
abbrev ApL (L : List Res) (s : Sg) (A : Option Addr) (c : Nat) (r : Rc) (b2 b3 b4 b9 : Nat) : List Res := Res.cells b9 67 (encC (atR r)) :: Res.cells b4 28 (encS zSg none 0) :: Res.cells b3 46 (encR r) :: Res.cells b2 28 (encS s A c) :: L
section
variable {w0 w : World} {F : List Nat} {L : List Res}
theorem ap_start {s : Sg} {A : Option Addr} {c : Nat} {r : Rc} {k : Int} {rest : ByteArray} {R : Value → World → Prop} (ht : takeS r.text = some (k, rest)) (hE : Sl w0 F L A c s.L) (hl : s.L.length ≤ 100000) (hS : St w0 F w L)
    (h8 : ∀ (b2 b3 b4 b9 : Nat) (A' : Option Addr) (c' : Nat) (w : World) (t : Bool), (t = true ↔ atC s.L (atR r)) → St w0 F w (cRow A' c' s.L :: ApL L s A c r b2 b3 b4 b9) → m21_8 R (.pointer (some ⟨b2, 0, none⟩)) (.pointer (some ⟨b3, 0, none⟩)) (.pointer (some ⟨b4, 0, none⟩)) (.int .i64 k) (.string rest) (.pointer (some ⟨b9, 0, none⟩)) (.int .i64 (posC s.L (atR r) : Int)) (.bool t) (.slice A' s.L.length c') w) :
    Ret Try.prog 21 #[sgv s A c, rv r] w R := by
  refine s21 _ _ ?_
  unfold m21
  unfold m21_0
  refine new_ok (bx28 _ _ _ _ _ _) hS ?_
  intro b2 w hS
  refine new_ok (bx46 _ _ _ _) hS ?_
  intro b3 w hS
  refine new_ok (al28 _) hS ?_
  intro b4 w hS
  unfold m21_1
  first | refine valP_ok (fa46_2 _ _) ?_ | refine valP_ok (fao46_2 _ _ _) ?_
  first | refine valP_ok (ld9 (hS.cell 0 rfl rfl)) ?_ | refine valP_ok (ld9 (hS.cell 1 rfl rfl)) ?_ | refine valP_ok (ld9 (hS.cell 2 rfl rfl)) ?_ | refine valP_ok (ld9 (hS.cell 3 rfl rfl)) ?_ | refine valP_ok (ld9 (hS.cell 4 rfl rfl)) ?_ | refine valP_ok (ld9 (hS.cell 5 rfl rfl)) ?_ | refine valP_ok (ld9 (hS.cell 6 rfl rfl)) ?_ | refine valP_ok (ld9 (hS.cell 7 rfl rfl)) ?_ | refine valP_ok (ld9 (by assumption)) ?_
  refine callR (by kernel_rfl) (take_ret hS) ?_
  rintro _ w ⟨rfl, hS⟩
  unfold tkV
  rw [ht]
  simp only
  refine valP_ok (extract_ok _ 0 rfl _) ?_
  refine valP_ok (extract_ok _ 1 rfl _) ?_
  refine valP_ok (extract_ok _ 2 rfl _) ?_
  unfold m21_2
  refine valP_ok (ne35 _ _ _ _ _) ?_
  unfold m21_29
  refine cond_df (by omega) ?_
  unfold m21_3
  first | refine valP_ok (fa46_0 _ _) ?_ | refine valP_ok (fao46_0 _ _ _) ?_
  first | refine valP_ok (ld3 (hS.cell 0 rfl rfl)) ?_ | refine valP_ok (ld3 (hS.cell 1 rfl rfl)) ?_ | refine valP_ok (ld3 (hS.cell 2 rfl rfl)) ?_ | refine valP_ok (ld3 (hS.cell 3 rfl rfl)) ?_ | refine valP_ok (ld3 (hS.cell 4 rfl rfl)) ?_ | refine valP_ok (ld3 (hS.cell 5 rfl rfl)) ?_ | refine valP_ok (ld3 (hS.cell 6 rfl rfl)) ?_ | refine valP_ok (ld3 (hS.cell 7 rfl rfl)) ?_ | refine valP_ok (ld3 (by assumption)) ?_
  first | refine valP_ok (fa46_1 _ _) ?_ | refine valP_ok (fao46_1 _ _ _) ?_
  first | refine valP_ok (ld3 (hS.cell 0 rfl rfl)) ?_ | refine valP_ok (ld3 (hS.cell 1 rfl rfl)) ?_ | refine valP_ok (ld3 (hS.cell 2 rfl rfl)) ?_ | refine valP_ok (ld3 (hS.cell 3 rfl rfl)) ?_ | refine valP_ok (ld3 (hS.cell 4 rfl rfl)) ?_ | refine valP_ok (ld3 (hS.cell 5 rfl rfl)) ?_ | refine valP_ok (ld3 (hS.cell 6 rfl rfl)) ?_ | refine valP_ok (ld3 (hS.cell 7 rfl rfl)) ?_ | refine valP_ok (ld3 (by assumption)) ?_
  refine valP_ok (bd67_0_1 rfl rfl _) ?_
  refine new_ok (al67 _) hS ?_
  intro b9 w hS
  first | refine ss67 0 hS rfl rfl rfl rfl rfl rfl rfl rfl rfl rfl rfl rfl rfl ?_ | refine ss67 1 hS rfl rfl rfl rfl rfl rfl rfl rfl rfl rfl rfl rfl rfl ?_ | refine ss67 2 hS rfl rfl rfl rfl rfl rfl rfl rfl rfl rfl rfl rfl rfl ?_ | refine ss67 3 hS rfl rfl rfl rfl rfl rfl rfl rfl rfl rfl rfl rfl rfl ?_ | refine ss67 4 hS rfl rfl rfl rfl rfl rfl rfl rfl rfl rfl rfl rfl rfl ?_ | refine ss67 5 hS rfl rfl rfl rfl rfl rfl rfl rfl rfl rfl rfl rfl rfl ?_ | refine ss67 6 hS rfl rfl rfl rfl rfl rfl rfl rfl rfl rfl rfl rfl rfl ?_ | refine ss67 7 hS rfl rfl rfl rfl rfl rfl rfl rfl rfl rfl rfl rfl rfl ?_
  intro w hS
  simp only [List.set_cons_zero, List.set_cons_succ] at hS
  unfold m21_4 m21_5
  have hS : St w0 F w (ApL L s A c r b2 b3 b4 b9) := hS
  have hE4 : Sl w0 F (ApL L s A c r b2 b3 b4 b9) A c s.L := (((hE.cons _).cons _).cons _).cons _
  have is_ : ∀ (i : Nat) w, i = posC s.L (atR r) → St w0 F w (ApL L s A c r b2 b3 b4 b9) → m21_6 R (.pointer (some ⟨b2, 0, none⟩)) (.pointer (some ⟨b3, 0, none⟩)) (.pointer (some ⟨b4, 0, none⟩)) (.int .i64 k) (.string rest) (.pointer (some ⟨b9, 0, none⟩)) (.int .i64 (i : Int)) w := fun i w hi hS => by
    have leaf : ∀ (t : Bool) w, (t = true ↔ atC s.L (atR r)) → St w0 F w (ApL L s A c r b2 b3 b4 b9) → m21_7 R (.pointer (some ⟨b2, 0, none⟩)) (.pointer (some ⟨b3, 0, none⟩)) (.pointer (some ⟨b4, 0, none⟩)) (.int .i64 k) (.string rest) (.pointer (some ⟨b9, 0, none⟩)) (.int .i64 (i : Int)) (.bool t) w := fun t w htt hS => by
      unfold m21_7
      first | refine valP_ok (fa28_4 _ _) ?_ | refine valP_ok (fao28_4 _ _ _) ?_
      first | refine valP_ok (ld26 (hS.cell 0 rfl rfl)) ?_ | refine valP_ok (ld26 (hS.cell 1 rfl rfl)) ?_ | refine valP_ok (ld26 (hS.cell 2 rfl rfl)) ?_ | refine valP_ok (ld26 (hS.cell 3 rfl rfl)) ?_ | refine valP_ok (ld26 (hS.cell 4 rfl rfl)) ?_ | refine valP_ok (ld26 (hS.cell 5 rfl rfl)) ?_ | refine valP_ok (ld26 (hS.cell 6 rfl rfl)) ?_ | refine valP_ok (ld26 (hS.cell 7 rfl rfl)) ?_ | refine valP_ok (ld26 (by assumption)) ?_
      refine callR (by kernel_rfl) (clone_ret hl hE4 hS) ?_
      rintro _ w ⟨A', c', rfl, hS⟩
      subst hi
      exact h8 b2 b3 b4 b9 A' c' w t htt hS
    unfold m21_6
    refine drawn_ok hS ?_
    intro w hS
    first | refine valS_ok (fa28_4 _ _) ?_ | refine valS_ok (fao28_4 _ _ _) ?_
    first | refine valS_ok (ld26 (hS.cell 0 rfl rfl)) ?_ | refine valS_ok (ld26 (hS.cell 1 rfl rfl)) ?_ | refine valS_ok (ld26 (hS.cell 2 rfl rfl)) ?_ | refine valS_ok (ld26 (hS.cell 3 rfl rfl)) ?_ | refine valS_ok (ld26 (hS.cell 4 rfl rfl)) ?_ | refine valS_ok (ld26 (hS.cell 5 rfl rfl)) ?_ | refine valS_ok (ld26 (hS.cell 6 rfl rfl)) ?_ | refine valS_ok (ld26 (hS.cell 7 rfl rfl)) ?_ | refine valS_ok (ld26 (by assumption)) ?_
    refine builtinS_ok (len26 _) ?_
    refine valS_ok (lss_ok _ _ _ _ _ _ _) ?_
    refine cond_split (fun h => ?_) (fun h => ?_)
    · have hil : i < s.L.length := by omega
      obtain ⟨gb, o, rfl⟩ := (hE4.rd.rd hS).some_ (by omega) (by omega)
      refine valS_ok (ldK 0 hS rfl) ?_
      first | refine valS_ok (fa28_4 _ _) ?_ | refine valS_ok (fao28_4 _ _ _) ?_
      first | refine valS_ok (ld26 (hS.cell 0 rfl rfl)) ?_ | refine valS_ok (ld26 (hS.cell 1 rfl rfl)) ?_ | refine valS_ok (ld26 (hS.cell 2 rfl rfl)) ?_ | refine valS_ok (ld26 (hS.cell 3 rfl rfl)) ?_ | refine valS_ok (ld26 (hS.cell 4 rfl rfl)) ?_ | refine valS_ok (ld26 (hS.cell 5 rfl rfl)) ?_ | refine valS_ok (ld26 (hS.cell 6 rfl rfl)) ?_ | refine valS_ok (ld26 (hS.cell 7 rfl rfl)) ?_ | refine valS_ok (ld26 (by assumption)) ?_
      refine valS_ok (ix26 hil _) ?_
      refine valS_ok (ldC (hE4.rd.rd hS) hil) ?_
      refine callR (by kernel_rfl) (pahead_ret (a := atR r) (b := s.L[i]) hS) ?_
      rintro _ w ⟨rfl, hS⟩
      first | refine valP_ok (not_ok _ _) ?_ | refine valP_ok (notb_ok _ _) ?_
      first | refine pick_dt (by first | assumption | omega) ?_ | refine pick_df (by first | assumption | omega) ?_ | refine pick_t (by first | rfl | assumption) ?_ | refine pick_f (by first | rfl | assumption) ?_ | refine pick_dt rfl ?_ | refine pick_df (not_not_intro rfl) ?_
      refine leaf _ w ?_ hS
      subst hi
      first | rw [decide_eq_true_eq] | (rw [Bool.not_eq_true']; rw [decide_eq_false_iff_not]) | trace_state
      exact ⟨fun h => ⟨hil, h⟩, fun ⟨_, h⟩ => h⟩
    · first | refine pick_dt (by first | assumption | omega) ?_ | refine pick_df (by first | assumption | omega) ?_ | refine pick_t (by first | rfl | assumption) ?_ | refine pick_f (by first | rfl | assumption) ?_ | refine pick_dt rfl ?_ | refine pick_df (not_not_intro rfl) ?_
      refine leaf _ w ?_ hS
      subst hi
      exact ⟨fun h => (by cases h), fun ⟨h1, _⟩ => absurd h1 (by omega)⟩
  refine loop_in (fun u w' => ∃ i : Nat, u = .int .i64 (i : Int) ∧ i ≤ s.L.length ∧ (∀ j (h : j < s.L.length), j < i → AheadC s.L[j] (atR r)) ∧ St w0 F w' (ApL L s A c r b2 b3 b4 b9)) (fun u _ => s.L.length - (intOf u).toNat) ⟨0, rfl, by omega, fun j _ h => by omega, hS⟩ ?_
  clear hS
  rintro u w ⟨i, rfl, hi, hbe, hS⟩
  unfold m21_26
  refine drawn_ok hS ?_
  intro w hS
  first | refine valS_ok (fa28_4 _ _) ?_ | refine valS_ok (fao28_4 _ _ _) ?_
  first | refine valS_ok (ld26 (hS.cell 0 rfl rfl)) ?_ | refine valS_ok (ld26 (hS.cell 1 rfl rfl)) ?_ | refine valS_ok (ld26 (hS.cell 2 rfl rfl)) ?_ | refine valS_ok (ld26 (hS.cell 3 rfl rfl)) ?_ | refine valS_ok (ld26 (hS.cell 4 rfl rfl)) ?_ | refine valS_ok (ld26 (hS.cell 5 rfl rfl)) ?_ | refine valS_ok (ld26 (hS.cell 6 rfl rfl)) ?_ | refine valS_ok (ld26 (hS.cell 7 rfl rfl)) ?_ | refine valS_ok (ld26 (by assumption)) ?_
  refine builtinS_ok (len26 _) ?_
  refine valS_ok (lss_ok _ _ _ _ _ _ _) ?_
  refine cond_split (fun h => ?_) (fun h => ?_)
  · have hil : i < s.L.length := by omega
    obtain ⟨gb, o, rfl⟩ := (hE4.rd.rd hS).some_ (by omega) (by omega)
    first | refine valS_ok (fa28_4 _ _) ?_ | refine valS_ok (fao28_4 _ _ _) ?_
    first | refine valS_ok (ld26 (hS.cell 0 rfl rfl)) ?_ | refine valS_ok (ld26 (hS.cell 1 rfl rfl)) ?_ | refine valS_ok (ld26 (hS.cell 2 rfl rfl)) ?_ | refine valS_ok (ld26 (hS.cell 3 rfl rfl)) ?_ | refine valS_ok (ld26 (hS.cell 4 rfl rfl)) ?_ | refine valS_ok (ld26 (hS.cell 5 rfl rfl)) ?_ | refine valS_ok (ld26 (hS.cell 6 rfl rfl)) ?_ | refine valS_ok (ld26 (hS.cell 7 rfl rfl)) ?_ | refine valS_ok (ld26 (by assumption)) ?_
    refine valS_ok (ix26 hil _) ?_
    refine valS_ok (ldC (hE4.rd.rd hS) hil) ?_
    refine valS_ok (ldK 0 hS rfl) ?_
    refine callR (by kernel_rfl) (pahead_ret (a := s.L[i]) (b := atR r) hS) ?_
    rintro _ w ⟨rfl, hS⟩
    first | refine pick_dt (by first | assumption | omega) ?_ | refine pick_df (by first | assumption | omega) ?_ | refine pick_t (by first | rfl | assumption) ?_ | refine pick_f (by first | rfl | assumption) ?_ | refine pick_dt rfl ?_ | refine pick_df (not_not_intro rfl) ?_
    unfold m21_28
    refine cond_split (fun h1 => ?_) (fun h1 => ?_)
    · unfold m21_27
      refine valP_ok (add_ok _ _ _ (by omega) (by omega) _) ?_
      refine ⟨⟨i + 1, rfl, by omega, fun j hj h3 => ?_, hS⟩, by simp [intOf]; omega⟩
      rcases Nat.lt_or_ge j i with g | g
      · exact hbe j hj g
      · obtain rfl : j = i := by omega
        exact h1
    · exact is_ i w (posC_of hi hbe fun _ => h1) hS
  · first | refine pick_dt (by first | assumption | omega) ?_ | refine pick_df (by first | assumption | omega) ?_ | refine pick_t (by first | rfl | assumption) ?_ | refine pick_f (by first | rfl | assumption) ?_ | refine pick_dt rfl ?_ | refine pick_df (not_not_intro rfl) ?_
    unfold m21_28
    refine cond_f rfl ?_
    exact is_ i w (posC_of hi hbe fun h1 => absurd h1 (by omega)) hS
end
theorem ahead_key {a x y : Ce} (hk : x.key = y.key) (hs : x.start = y.start) : (AheadC a x ↔ AheadC a y) ∧ (AheadC x a ↔ AheadC y a) := by
  unfold AheadC
  rw [hk, hs]
  exact ⟨Iff.rfl, Iff.rfl⟩
theorem posC_key {l : List Ce} {x y : Ce} (hk : x.key = y.key) (hs : x.start = y.start) : posC l x = posC l y := by
  induction l with
  | nil => rfl
  | cons a l ih =>
    by_cases h : AheadC a x
    · rw [posC_y h, posC_y ((ahead_key hk hs).1.1 h), ih]
    · rw [posC_n h, posC_n (fun h2 => h ((ahead_key hk hs).1.2 h2))]
theorem atC_key {l : List Ce} {x y : Ce} (hk : x.key = y.key) (hs : x.start = y.start) : atC l x ↔ atC l y := by
  unfold atC
  rw [posC_key hk hs]
  exact ⟨fun ⟨h, hn⟩ => ⟨h, fun h2 => hn ((ahead_key hk hs).2.2 h2)⟩, fun ⟨h, hn⟩ => ⟨h, fun h2 => hn ((ahead_key hk hs).2.1 h2)⟩⟩
section
variable {w0 w : World} {F : List Nat} {L : List Res} {K : Value → World → Prop}
theorem ssRow (k : Nat) {g c i : Nat} {l : List Ce} {x : Ce} (hS : St w0 F w L) (hk : L[k]? = some (cRow (some ⟨g, 0, none⟩) c l)) (hi : i < l.length) (h : ∀ w', St w0 F w' (L.set k (cRow (some ⟨g, 0, none⟩) c (l.set i x))) → K undef w') : unitP Try.prog (Instr.storeAt 67 (.pointer (some ⟨g, i * 12, none⟩)) (cev x)) w K := by
  have q : ∀ j (hj : j < 12) v, (encC l[i])[j]? = some v → w.cell? ⟨g, i * 12 + j, none⟩ = some v := fun j hj v hv => hS.row_cell k hk (by rw [flat_get encC 12 encC_len l i j hi hj]; exact hv)
  have f : ∀ j, w.frozen? ⟨g, j, none⟩ = false := fun j => hS.row_frozen k hk
  have hr := hS.row_sets k (encC x) (i * 12) hk (by
    have := flat_len encC 12 encC_len l
    have h2 : (i + 1) * 12 ≤ l.length * 12 := Nat.mul_le_mul_right _ (by omega)
    have : (encC x).length = 12 := rfl
    omega)
  rw [setAll_flat encC 12 encC_len l i x hi] at hr
  refine unitP_ok (w' := w.setCells g (i * 12) (encC x)) ?_ (h _ ?_)
  · exact st67 (q 0 (by omega) _ rfl) (q 1 (by omega) _ rfl) (q 2 (by omega) _ rfl) (q 3 (by omega) _ rfl) (q 4 (by omega) _ rfl) (q 5 (by omega) _ rfl) (q 6 (by omega) _ rfl) (q 7 (by omega) _ rfl) (q 8 (by omega) _ rfl) (q 9 (by omega) _ rfl) (q 10 (by omega) _ rfl) (q 11 (by omega) _ rfl) (f _) rfl (f _) rfl (f _) rfl (f _) rfl (f _) rfl (f _) rfl (f _) rfl (f _) rfl (f _) rfl (f _) rfl (f _) rfl (f _) rfl
  · unfold cRow
    rw [List.length_set]
    exact hr
end
section
variable {w0 w : World} {F : List Nat} {L : List Res}
theorem ap_gone {s : Sg} {A : Option Addr} {c : Nat} {x : Ce} (hat : atC s.L x) (hE : Sl w0 F L A c s.L) (hl : s.L.length ≤ 100000) (hS : St w0 F w L) : Ret Try.prog 21 #[sgv s A c, rv (goneR x)] w (ApplyR { s with L := delC s.L x } w0 F L) := by
  have hpx : posC s.L (atR (goneR x)) = posC s.L x := posC_key rfl rfl
  refine ap_start (k := 2) (rest := ⟨#[]⟩) (by show takeS (putS 2) = _; rw [← ba_nil (putS 2)]; exact takeS_put (by omega) _) hE hl hS ?_
  intro b2 b3 b4 b9 A' c' w t ht hS
  obtain rfl : t = true := ht.2 ((atC_key (x := atR (goneR x)) (y := x) rfl rfl).2 hat)
  obtain ⟨hlt, _⟩ := hat
  rw [hpx]
  unfold m21_8
  refine valP_ok (eq3 _ _ _ _ _) ?_
  unfold m21_12
  refine cond_df (by omega) ?_
  refine valP_ok (eq3 _ _ _ _ _) ?_
  unfold m21_17
  refine cond_df (by omega) ?_
  refine valP_ok (eq3 _ _ _ _ _) ?_
  refine cond_dt (by omega) ?_
  refine valP_ok (eq9 _ _ _ _ _) ?_
  first | refine pick_dt (by first | assumption | omega) ?_ | refine pick_df (by first | assumption | omega) ?_ | refine pick_t (by first | rfl | assumption) ?_ | refine pick_f (by first | rfl | assumption) ?_ | refine pick_dt rfl ?_ | refine pick_df (not_not_intro rfl) ?_
  refine cond_t (by first | rfl | simp) ?_
  first | refine pick_dt (by first | assumption | omega) ?_ | refine pick_df (by first | assumption | omega) ?_ | refine pick_t (by first | rfl | assumption) ?_ | refine pick_f (by first | rfl | assumption) ?_ | refine pick_dt rfl ?_ | refine pick_df (not_not_intro rfl) ?_
  unfold m21_24
  refine cond_t rfl ?_
  refine valP_ok (add_ok _ _ _ (by omega) (by omega) _) ?_
  rw [show (posC s.L x : Int) + 1 = ((posC s.L x + 1 : Nat) : Int) from rfl]
  refine callR (by kernel_rfl) (delete_ret hlt hl hS) ?_
  rintro _ w ⟨A9, c9, rfl, hS⟩
  rw [← delC_at hlt] at hS ⊢
  exact ap_9 (hS.pick 5 [0, 2, 4] (by simp) (by decide))
theorem ap_there {s : Sg} {A : Option Addr} {c : Nat} {x : Ce} (hx : AgOk x.a) (hm : MayA x.a) (hE : Sl w0 F L A c s.L) (hl : s.L.length ≤ 100000) (hS : St w0 F w L) : Ret Try.prog 21 #[sgv s A c, rv (thereR x)] w (ApplyR { s with L := putC s.L x } w0 F L) := by
  have hpx : posC s.L (atR (thereR x)) = posC s.L x := posC_key rfl rfl
  refine ap_start (k := 1) (rest := encA x.a) (takeS_put (by omega) _) hE hl hS ?_
  intro b2 b3 b4 b9 A' c' w t ht hS
  rw [atC_key (x := atR (thereR x)) (y := x) rfl rfl] at ht
  rw [hpx]
  unfold m21_8
  refine valP_ok (eq3 _ _ _ _ _) ?_
  unfold m21_12
  refine cond_df (by omega) ?_
  refine valP_ok (eq3 _ _ _ _ _) ?_
  unfold m21_17
  refine cond_dt (by omega) ?_
  refine callR (by kernel_rfl) (decode_ret hm hx hS) ?_
  rintro _ w ⟨rfl, hS⟩
  refine valP_ok (extract_ok _ 0 rfl _) ?_
  refine valP_ok (extract_ok _ 1 rfl _) ?_
  refine new_ok (al65 _) hS ?_
  intro b16 w hS
  first | refine ss65 0 hS rfl rfl rfl rfl rfl rfl rfl rfl rfl rfl rfl ?_ | refine ss65 1 hS rfl rfl rfl rfl rfl rfl rfl rfl rfl rfl rfl ?_ | refine ss65 2 hS rfl rfl rfl rfl rfl rfl rfl rfl rfl rfl rfl ?_ | refine ss65 3 hS rfl rfl rfl rfl rfl rfl rfl rfl rfl rfl rfl ?_ | refine ss65 4 hS rfl rfl rfl rfl rfl rfl rfl rfl rfl rfl rfl ?_ | refine ss65 5 hS rfl rfl rfl rfl rfl rfl rfl rfl rfl rfl rfl ?_ | refine ss65 6 hS rfl rfl rfl rfl rfl rfl rfl rfl rfl rfl rfl ?_ | refine ss65 7 hS rfl rfl rfl rfl rfl rfl rfl rfl rfl rfl rfl ?_
  intro w hS
  simp only [List.set_cons_zero, List.set_cons_succ] at hS
  unfold m21_18
  refine valP_ok (ne35 _ _ _ _ _) ?_
  unfold m21_22
  refine cond_df (by omega) ?_
  unfold m21_19
  first | refine ls65 0 hS rfl ?_ | refine ls65 1 hS rfl ?_ | refine ls65 2 hS rfl ?_ | refine ls65 3 hS rfl ?_ | refine ls65 4 hS rfl ?_ | refine ls65 5 hS rfl ?_ | refine ls65 6 hS rfl ?_ | refine ls65 7 hS rfl ?_ | refine valP_ok (ld65 (by assumption) (by assumption) (by assumption) (by assumption) (by assumption) (by assumption) (by assumption) (by assumption) (by assumption) (by assumption)) ?_
  first | refine valP_ok (fa67_2 _ _) ?_ | refine valP_ok (fao67_2 _ _ _) ?_
  refine ssA (x := atR (thereR x)) (a := x.a) 2 hS rfl ?_
  intro w hS
  simp only [List.set_cons_zero, List.set_cons_succ] at hS
  unfold m21_20 m21_21
  cases t with
  | true =>
    have hat := ht.1 rfl
    obtain ⟨g, rfl⟩ := row_some (hS.own_row 1 rfl) (by have := hat.1; omega)
    refine cond_t rfl ?_
    refine valP_ok (ldK (c := x) 2 hS rfl) ?_
    refine valP_ok (ixz26 hat.1 _) ?_
    refine ssRow (x := x) 1 hS rfl hat.1 ?_
    intro w hS
    simp only [List.set_cons_zero, List.set_cons_succ] at hS
    rw [← putC_at hat] at hS
    have hll : s.L.length = (putC s.L x).length := by rw [putC_at hat, List.length_set]
    rw [hll]
    exact ap_9 (hS.pick 6 [1, 3, 5] (by simp) (by decide))
  | false =>
    have hat : ¬ atC s.L x := fun h => by have := ht.2 h; cases this
    refine cond_f rfl ?_
    refine valP_ok (ldK (c := x) 2 hS rfl) ?_
    refine newslice_ok (bs26_1 _) hS ?_
    intro b132 w hS
    have hS := hS.pick 7 [0, 2, 4, 6] (by simp) (by decide)
    refine callR (by kernel_rfl) (insert_ret (x := x) (posC_le _ _) hl hS) ?_
    rintro _ w ⟨A9, c9, rfl, hS⟩
    rw [← putC_not hat] at hS ⊢
    exact ap_9 hS
theorem ap_head {s t : Sg} {A : Option Addr} {c : Nat} (h1 : I64 t.mark ∧ I64 t.late ∧ I64 t.bad ∧ I64 t.n) (hE : Sl w0 F L A c s.L) (hl : s.L.length ≤ 100000) (hS : St w0 F w L) : Ret Try.prog 21 #[sgv s A c, rv (headR t)] w (ApplyR ⟨t.mark, t.late, t.bad, t.n, s.L⟩ w0 F L) := by
  refine ap_start (k := 0) (rest := allS [t.mark, t.late, t.bad, t.n] ++ ⟨#[]⟩) (by rw [ba_nil]; show takeS (allS (0 :: [t.mark, t.late, t.bad, t.n])) = _; rw [allS_cons]; exact takeS_put (by omega) _) hE hl hS ?_
  intro b2 b3 b4 b9 A' c' w q hq hS
  unfold m21_8
  refine valP_ok (eq3 _ _ _ _ _) ?_
  unfold m21_12
  refine cond_dt (by omega) ?_
  refine callR (by kernel_rfl) (takeall_ret (xs := [t.mark, t.late, t.bad, t.n]) (r := ⟨#[]⟩) (by simp) (fun y hy => by
    simp only [List.mem_cons, List.not_mem_nil, or_false] at hy
    rcases hy with rfl | rfl | rfl | rfl
    · exact h1.1
    · exact h1.2.1
    · exact h1.2.2.1
    · exact h1.2.2.2) hS) ?_
  rintro _ w ⟨A7, c7, rfl, hS⟩
  refine valP_ok (extract_ok _ 0 rfl _) ?_
  refine valP_ok (extract_ok _ 1 rfl _) ?_
  refine valP_ok (extract_ok _ 2 rfl _) ?_
  unfold m21_13
  refine valP_ok (ne35 _ _ _ _ _) ?_
  refine cond_df (by omega) ?_
  refine valP_ok (ne9 _ _ _ _ _) ?_
  first | refine pick_dt (by first | assumption | omega) ?_ | refine pick_df (by first | assumption | omega) ?_ | refine pick_t (by first | rfl | assumption) ?_ | refine pick_f (by first | rfl | assumption) ?_ | refine pick_dt rfl ?_ | refine pick_df (not_not_intro rfl) ?_
  refine cond_f (by first | rfl | simp) ?_
  first | refine valP_ok (fa46_0 _ _) ?_ | refine valP_ok (fao46_0 _ _ _) ?_
  first | refine valP_ok (ld3 (hS.cell 0 rfl rfl)) ?_ | refine valP_ok (ld3 (hS.cell 1 rfl rfl)) ?_ | refine valP_ok (ld3 (hS.cell 2 rfl rfl)) ?_ | refine valP_ok (ld3 (hS.cell 3 rfl rfl)) ?_ | refine valP_ok (ld3 (hS.cell 4 rfl rfl)) ?_ | refine valP_ok (ld3 (hS.cell 5 rfl rfl)) ?_ | refine valP_ok (ld3 (hS.cell 6 rfl rfl)) ?_ | refine valP_ok (ld3 (hS.cell 7 rfl rfl)) ?_ | refine valP_ok (ld3 (by assumption)) ?_
  refine valP_ok (ne3 _ _ _ _ _) ?_
  first | refine pick_dt (by first | assumption | omega) ?_ | refine pick_df (by first | assumption | omega) ?_ | refine pick_t (by first | rfl | assumption) ?_ | refine pick_f (by first | rfl | assumption) ?_ | refine pick_dt rfl ?_ | refine pick_df (not_not_intro rfl) ?_
  refine cond_df (fun h => h rfl) ?_
  first | refine valP_ok (fa46_1 _ _) ?_ | refine valP_ok (fao46_1 _ _ _) ?_
  first | refine valP_ok (ld3 (hS.cell 0 rfl rfl)) ?_ | refine valP_ok (ld3 (hS.cell 1 rfl rfl)) ?_ | refine valP_ok (ld3 (hS.cell 2 rfl rfl)) ?_ | refine valP_ok (ld3 (hS.cell 3 rfl rfl)) ?_ | refine valP_ok (ld3 (hS.cell 4 rfl rfl)) ?_ | refine valP_ok (ld3 (hS.cell 5 rfl rfl)) ?_ | refine valP_ok (ld3 (hS.cell 6 rfl rfl)) ?_ | refine valP_ok (ld3 (hS.cell 7 rfl rfl)) ?_ | refine valP_ok (ld3 (by assumption)) ?_
  refine valP_ok (ne3 _ _ _ _ _) ?_
  first | refine pick_dt (by first | assumption | omega) ?_ | refine pick_df (by first | assumption | omega) ?_ | refine pick_t (by first | rfl | assumption) ?_ | refine pick_f (by first | rfl | assumption) ?_ | refine pick_dt rfl ?_ | refine pick_df (not_not_intro rfl) ?_
  unfold m21_15
  refine cond_df (fun h => h rfl) ?_
  obtain ⟨g, rfl⟩ := row_some (hS.own_row 0 rfl) (by simp)
  unfold m21_14
  refine drawn_ok hS ?_
  intro w hS
  have p : ∀ w, Hs w0 F [iRow (some ⟨g, 0, none⟩) c7 [t.mark, t.late, t.bad, t.n]] w → ∀ i x, [t.mark, t.late, t.bad, t.n][i]? = some x → w.cell? ⟨g, i, none⟩ = some (.int .i64 x) := fun w hw i x hx => Hs.row_cell 0 rfl (by rw [iFlat, List.getElem?_map, hx]; rfl) w hw
  refine held_Hs (L := [iRow (some ⟨g, 0, none⟩) c7 [t.mark, t.late, t.bad, t.n]]) (St.left (L2 := cRow A' c' s.L :: ApL L s A c (headR t) b2 b3 b4 b9) hS) ?_
  refine valJ_ok (fun w => ixz51 (k := 0) (by simp) w) ?_
  refine valJ_at (fun w hw => ld3 (p w hw 0 _ rfl)) ?_
  refine valJ_ok (fun w => ixz51 (k := 1) (by simp) w) ?_
  refine valJ_at (fun w hw => ld3 (p w hw 1 _ rfl)) ?_
  refine valJ_ok (fun w => ixz51 (k := 2) (by simp) w) ?_
  refine valJ_at (fun w hw => ld3 (p w hw 2 _ rfl)) ?_
  refine valJ_ok (fun w => ixz51 (k := 3) (by simp) w) ?_
  refine valJ_at (fun w hw => ld3 (p w hw 3 _ rfl)) ?_
  first | refine valJ_ok (fa28_0 _) ?_ | refine valJ_ok (fao28_0 _ _) ?_
  first | refine store_at 0 st3 hS rfl (by simp) rfl ?_ | refine store_at 1 st3 hS rfl (by simp) rfl ?_ | refine store_at 2 st3 hS rfl (by simp) rfl ?_ | refine store_at 3 st3 hS rfl (by simp) rfl ?_ | refine store_at 4 st3 hS rfl (by simp) rfl ?_ | refine store_at 5 st3 hS rfl (by simp) rfl ?_ | refine store_at 6 st3 hS rfl (by simp) rfl ?_ | refine store_at 7 st3 hS rfl (by simp) rfl ?_
  intro w hS
  simp only [List.set_cons_zero, List.set_cons_succ] at hS
  refine stay_Hs hS (by first | exact fun _ h => h | exact fun _ h => .tail _ h | exact fun _ h => .tail _ (.tail _ h) | simp) ?_
  first | refine valJ_ok (fa28_1 _) ?_ | refine valJ_ok (fao28_1 _ _) ?_
  first | refine store_at 0 st3 hS rfl (by simp) rfl ?_ | refine store_at 1 st3 hS rfl (by simp) rfl ?_ | refine store_at 2 st3 hS rfl (by simp) rfl ?_ | refine store_at 3 st3 hS rfl (by simp) rfl ?_ | refine store_at 4 st3 hS rfl (by simp) rfl ?_ | refine store_at 5 st3 hS rfl (by simp) rfl ?_ | refine store_at 6 st3 hS rfl (by simp) rfl ?_ | refine store_at 7 st3 hS rfl (by simp) rfl ?_
  intro w hS
  simp only [List.set_cons_zero, List.set_cons_succ] at hS
  refine stay_Hs hS (by first | exact fun _ h => h | exact fun _ h => .tail _ h | exact fun _ h => .tail _ (.tail _ h) | simp) ?_
  first | refine valJ_ok (fa28_2 _) ?_ | refine valJ_ok (fao28_2 _ _) ?_
  first | refine store_at 0 st3 hS rfl (by simp) rfl ?_ | refine store_at 1 st3 hS rfl (by simp) rfl ?_ | refine store_at 2 st3 hS rfl (by simp) rfl ?_ | refine store_at 3 st3 hS rfl (by simp) rfl ?_ | refine store_at 4 st3 hS rfl (by simp) rfl ?_ | refine store_at 5 st3 hS rfl (by simp) rfl ?_ | refine store_at 6 st3 hS rfl (by simp) rfl ?_ | refine store_at 7 st3 hS rfl (by simp) rfl ?_
  intro w hS
  simp only [List.set_cons_zero, List.set_cons_succ] at hS
  refine stay_Hs hS (by first | exact fun _ h => h | exact fun _ h => .tail _ h | exact fun _ h => .tail _ (.tail _ h) | simp) ?_
  first | refine valJ_ok (fa28_3 _) ?_ | refine valJ_ok (fao28_3 _ _) ?_
  first | refine store_at 0 st3 hS rfl (by simp) rfl ?_ | refine store_at 1 st3 hS rfl (by simp) rfl ?_ | refine store_at 2 st3 hS rfl (by simp) rfl ?_ | refine store_at 3 st3 hS rfl (by simp) rfl ?_ | refine store_at 4 st3 hS rfl (by simp) rfl ?_ | refine store_at 5 st3 hS rfl (by simp) rfl ?_ | refine store_at 6 st3 hS rfl (by simp) rfl ?_ | refine store_at 7 st3 hS rfl (by simp) rfl ?_
  intro w hS
  simp only [List.set_cons_zero, List.set_cons_succ] at hS
  refine stay_Hs hS (by first | exact fun _ h => h | exact fun _ h => .tail _ h | exact fun _ h => .tail _ (.tail _ h) | simp) ?_
  exact ap_9 (s := ⟨t.mark, t.late, t.bad, t.n, s.L⟩) (hS.pick 6 [1, 3, 5] (by simp) (by decide))
end
end Go.Proofs.Ytnhgdngbdoifnaa.M
