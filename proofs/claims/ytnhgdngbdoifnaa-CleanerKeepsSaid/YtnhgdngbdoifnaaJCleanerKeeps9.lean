/- Parts of a proof, in one text: what it needs of N9, Msame0, N10, N11, N12, N13, Mkeeps0, N14. -/
import Derived.Test.YtnhgdngbdoifnaaJCleanerKeeps8
import Derived.Test.YtnhgdngbdoifnaaProg
namespace Go.Proofs.Ytnhgdngbdoifnaa.M
open Go.Proofs.Ytnhgdngbdoifnaa.F Go.RowKit
set_option linter.unusedVariables false
set_option linter.unusedSimpArgs false
set_option maxRecDepth 100000
set_option maxHeartbeats 2000000
attribute [local irreducible] Res.cells Res.row Res.map Res.any World.cell? World.frozen? Instr.fieldAt Instr.loadAt Instr.storeAt Instr.indexAt Instr.lookup Instr.mapUpdate Instr.box Instr.build Instr.buildSlice Instr.extract Instr.alloc Instr.field Instr.index Instr.sliceAt Instr.makeSlice Instr.makeMap Instr.makeFunc binS Op.unary Sem.run
section
variable {w0 w : World} {F : List Nat} {L : List Res} {g : Gr} {s : Sg} {A : Option Addr} {c b2 b3 : Nat}
theorem chk_2 (hm : MayS g s) (hE : Sl w0 F L A c s.L) (hS : St w0 F w (Res.cells b3 28 (encS s A c) :: Res.cells b2 23 (encGr g) :: L)) : m22_2 (fun v w' => v = .int .i64 0 ∧ St w0 F w' L) (.pointer (some ⟨b2, 0, none⟩)) (.pointer (some ⟨b3, 0, none⟩)) (.bool true) w := by
  obtain ⟨⟨hg, hmk, hla, hba, hn, hlb, h64⟩, hall⟩ := hm
  have hg1 := hg.1
  have hE2 := (hE.cons (Res.cells b2 23 (encGr g))).cons (Res.cells b3 28 (encS s A c))
  have hmk2 : -1 ≤ s.mark ∧ s.mark ≤ 1099511627776 := by unfold in40 at hmk; omega
  unfold m22_2
  first | refine valP_ok (fa28_4 _ _) ?_ | refine valP_ok (fao28_4 _ _ _) ?_
  first | refine valP_ok (ld26 (hS.cell 0 rfl rfl)) ?_ | refine valP_ok (ld26 (hS.cell 1 rfl rfl)) ?_ | refine valP_ok (ld26 (hS.cell 2 rfl rfl)) ?_ | refine valP_ok (ld26 (hS.cell 3 rfl rfl)) ?_ | refine valP_ok (ld26 (hS.cell 4 rfl rfl)) ?_ | refine valP_ok (ld26 (hS.cell 5 rfl rfl)) ?_ | refine valP_ok (ld26 (hS.cell 6 rfl rfl)) ?_ | refine valP_ok (ld26 (hS.cell 7 rfl rfl)) ?_ | refine valP_ok (ld26 (by assumption)) ?_
  refine builtin_ok (len26 _) ?_
  unfold m22_8
  refine loop_in (fun u w' => ∃ i : Nat, u = (.bool true, .int .i64 (i : Int)) ∧ i ≤ s.L.length ∧ St w0 F w' (Res.cells b3 28 (encS s A c) :: Res.cells b2 23 (encGr g) :: L)) (fun u _ => s.L.length - (intOf u.2).toNat) ⟨0, rfl, by omega, hS⟩ ?_
  clear hS
  rintro u w ⟨i, rfl, hi, hS⟩
  simp only
  unfold m22_9
  refine valP_ok (lss_ok _ _ _ _ _ _ _) ?_
  unfold m22_10
  refine cond_split (fun h => ?_) (fun h => ?_)
  · have hil : i < s.L.length := by omega
    obtain ⟨gb, o, rfl⟩ := (hE2.rd.rd hS).some_ (by omega) (by omega)
    obtain ⟨⟨hk, hst, hmod, hsm, hcl, hma⟩, hah⟩ := hall i hil
    have hk40 : in40 s.L[i].key := by unfold in40; omega
    have hst' := hst
    unfold in40 at hst'
    unfold m22_11
    refine valP_ok (ix26 hil _) ?_
    refine valP_ok (ldC (hE2.rd.rd hS) hil) ?_
    refine new_ok (al67 _) hS ?_
    intro b7 w hS
    first | refine ss67 0 hS rfl rfl rfl rfl rfl rfl rfl rfl rfl rfl rfl rfl rfl ?_ | refine ss67 1 hS rfl rfl rfl rfl rfl rfl rfl rfl rfl rfl rfl rfl rfl ?_ | refine ss67 2 hS rfl rfl rfl rfl rfl rfl rfl rfl rfl rfl rfl rfl rfl ?_ | refine ss67 3 hS rfl rfl rfl rfl rfl rfl rfl rfl rfl rfl rfl rfl rfl ?_ | refine ss67 4 hS rfl rfl rfl rfl rfl rfl rfl rfl rfl rfl rfl rfl rfl ?_ | refine ss67 5 hS rfl rfl rfl rfl rfl rfl rfl rfl rfl rfl rfl rfl rfl ?_ | refine ss67 6 hS rfl rfl rfl rfl rfl rfl rfl rfl rfl rfl rfl rfl rfl ?_ | refine ss67 7 hS rfl rfl rfl rfl rfl rfl rfl rfl rfl rfl rfl rfl rfl ?_
    intro w hS
    simp only [List.set_cons_zero, List.set_cons_succ] at hS
    unfold m22_13
    first | refine valP_ok (not_ok _ _) ?_ | refine valP_ok (notb_ok _ _) ?_
    unfold m22_15
    refine cond_f rfl ?_
    have hE3 := hE2.cons (Res.cells b7 67 (encC s.L[i]))
    unfold m22_14
    refine drawn_ok hS ?_
    intro w hS
    refine held_Hs hS ?_
    first | refine valJ_ok (fa67_0 _) ?_ | refine valJ_ok (fao67_0 _ _) ?_
    first | refine valJ_load ld3 (Hs.cell 0 rfl rfl) ?_ | refine valJ_load ld3 (Hs.cell 1 rfl rfl) ?_ | refine valJ_load ld3 (Hs.cell 2 rfl rfl) ?_ | refine valJ_load ld3 (Hs.cell 3 rfl rfl) ?_ | refine valJ_load ld3 (Hs.cell 4 rfl rfl) ?_ | refine valJ_load ld3 (Hs.cell 5 rfl rfl) ?_ | refine valJ_load ld3 (Hs.cell 6 rfl rfl) ?_ | refine valJ_load ld3 (Hs.cell 7 rfl rfl) ?_ | refine valJ_load ld3 (by assumption) ?_
    first | refine valJ_ok (fa67_1 _) ?_ | refine valJ_ok (fao67_1 _ _) ?_
    first | refine valJ_load ld3 (Hs.cell 0 rfl rfl) ?_ | refine valJ_load ld3 (Hs.cell 1 rfl rfl) ?_ | refine valJ_load ld3 (Hs.cell 2 rfl rfl) ?_ | refine valJ_load ld3 (Hs.cell 3 rfl rfl) ?_ | refine valJ_load ld3 (Hs.cell 4 rfl rfl) ?_ | refine valJ_load ld3 (Hs.cell 5 rfl rfl) ?_ | refine valJ_load ld3 (Hs.cell 6 rfl rfl) ?_ | refine valJ_load ld3 (Hs.cell 7 rfl rfl) ?_ | refine valJ_load ld3 (by assumption) ?_
    refine newslice_ok (bs51_2 rfl rfl _) hS ?_
    intro b62 w hS
    refine stay_Hs hS (by first | exact fun _ h => h | exact fun _ h => .tail _ h | exact fun _ h => .tail _ (.tail _ h) | simp) ?_
    refine callR (by kernel_rfl) (within_ret (l := [s.L[i].key, s.L[i].start]) (by simp) (by simp [hk40, hst]) (Bes.of_cells 0 rfl rfl) hS) ?_
    rintro _ w ⟨rfl, hS⟩
    refine stay_Hs hS (by first | exact fun _ h => h | exact fun _ h => .tail _ h | exact fun _ h => .tail _ (.tail _ h) | simp) ?_
    refine cond_t rfl ?_
    first | refine valJ_ok (fa67_0 _) ?_ | refine valJ_ok (fao67_0 _ _) ?_
    first | refine valJ_load ld3 (Hs.cell 0 rfl rfl) ?_ | refine valJ_load ld3 (Hs.cell 1 rfl rfl) ?_ | refine valJ_load ld3 (Hs.cell 2 rfl rfl) ?_ | refine valJ_load ld3 (Hs.cell 3 rfl rfl) ?_ | refine valJ_load ld3 (Hs.cell 4 rfl rfl) ?_ | refine valJ_load ld3 (Hs.cell 5 rfl rfl) ?_ | refine valJ_load ld3 (Hs.cell 6 rfl rfl) ?_ | refine valJ_load ld3 (Hs.cell 7 rfl rfl) ?_ | refine valJ_load ld3 (by assumption) ?_
    refine valJ_ok (leq_ok _ _ _ _ _ _) ?_
    first | refine pick_dt (by first | assumption | omega) ?_ | refine pick_df (by first | assumption | omega) ?_ | refine pick_t (by first | rfl | assumption) ?_ | refine pick_f (by first | rfl | assumption) ?_ | refine pick_dt rfl ?_ | refine pick_df (not_not_intro rfl) ?_
    refine cond_dt (by omega) ?_
    first | refine valJ_ok (fa67_1 _) ?_ | refine valJ_ok (fao67_1 _ _) ?_
    first | refine valJ_load ld3 (Hs.cell 0 rfl rfl) ?_ | refine valJ_load ld3 (Hs.cell 1 rfl rfl) ?_ | refine valJ_load ld3 (Hs.cell 2 rfl rfl) ?_ | refine valJ_load ld3 (Hs.cell 3 rfl rfl) ?_ | refine valJ_load ld3 (Hs.cell 4 rfl rfl) ?_ | refine valJ_load ld3 (Hs.cell 5 rfl rfl) ?_ | refine valJ_load ld3 (Hs.cell 6 rfl rfl) ?_ | refine valJ_load ld3 (Hs.cell 7 rfl rfl) ?_ | refine valJ_load ld3 (by assumption) ?_
    first | refine valJ_ok (fa23_1 _) ?_ | refine valJ_ok (fao23_1 _ _) ?_
    first | refine valJ_load ld3 (Hs.cell 0 rfl rfl) ?_ | refine valJ_load ld3 (Hs.cell 1 rfl rfl) ?_ | refine valJ_load ld3 (Hs.cell 2 rfl rfl) ?_ | refine valJ_load ld3 (Hs.cell 3 rfl rfl) ?_ | refine valJ_load ld3 (Hs.cell 4 rfl rfl) ?_ | refine valJ_load ld3 (Hs.cell 5 rfl rfl) ?_ | refine valJ_load ld3 (Hs.cell 6 rfl rfl) ?_ | refine valJ_load ld3 (Hs.cell 7 rfl rfl) ?_ | refine valJ_load ld3 (by assumption) ?_
    refine valJ_ok (rem_ok _ _ _ (by omega) (by omega) (by omega)) ?_
    refine valJ_ok (eq3 _ _ _ _) ?_
    first | refine pick_dt (by first | assumption | omega) ?_ | refine pick_df (by first | assumption | omega) ?_ | refine pick_t (by first | rfl | assumption) ?_ | refine pick_f (by first | rfl | assumption) ?_ | refine pick_dt rfl ?_ | refine pick_df (not_not_intro rfl) ?_
    refine cond_dt (by omega) ?_
    first | refine valJ_ok (fa67_1 _) ?_ | refine valJ_ok (fao67_1 _ _) ?_
    first | refine valJ_load ld3 (Hs.cell 0 rfl rfl) ?_ | refine valJ_load ld3 (Hs.cell 1 rfl rfl) ?_ | refine valJ_load ld3 (Hs.cell 2 rfl rfl) ?_ | refine valJ_load ld3 (Hs.cell 3 rfl rfl) ?_ | refine valJ_load ld3 (Hs.cell 4 rfl rfl) ?_ | refine valJ_load ld3 (Hs.cell 5 rfl rfl) ?_ | refine valJ_load ld3 (Hs.cell 6 rfl rfl) ?_ | refine valJ_load ld3 (Hs.cell 7 rfl rfl) ?_ | refine valJ_load ld3 (by assumption) ?_
    first | refine valJ_ok (fa28_0 _) ?_ | refine valJ_ok (fao28_0 _ _) ?_
    first | refine valJ_load ld3 (Hs.cell 0 rfl rfl) ?_ | refine valJ_load ld3 (Hs.cell 1 rfl rfl) ?_ | refine valJ_load ld3 (Hs.cell 2 rfl rfl) ?_ | refine valJ_load ld3 (Hs.cell 3 rfl rfl) ?_ | refine valJ_load ld3 (Hs.cell 4 rfl rfl) ?_ | refine valJ_load ld3 (Hs.cell 5 rfl rfl) ?_ | refine valJ_load ld3 (Hs.cell 6 rfl rfl) ?_ | refine valJ_load ld3 (Hs.cell 7 rfl rfl) ?_ | refine valJ_load ld3 (by assumption) ?_
    refine valJ_ok (leq_ok _ _ _ _ _ _) ?_
    first | refine pick_dt (by first | assumption | omega) ?_ | refine pick_df (by first | assumption | omega) ?_ | refine pick_t (by first | rfl | assumption) ?_ | refine pick_f (by first | rfl | assumption) ?_ | refine pick_dt rfl ?_ | refine pick_df (not_not_intro rfl) ?_
    refine cond_dt (by omega) ?_
    first | refine valJ_at (fun w hw => ld23 (Hs.cell 0 rfl rfl w hw) (Hs.cell 0 rfl rfl w hw) (Hs.cell 0 rfl rfl w hw)) ?_ | refine valJ_at (fun w hw => ld23 (Hs.cell 1 rfl rfl w hw) (Hs.cell 1 rfl rfl w hw) (Hs.cell 1 rfl rfl w hw)) ?_ | refine valJ_at (fun w hw => ld23 (Hs.cell 2 rfl rfl w hw) (Hs.cell 2 rfl rfl w hw) (Hs.cell 2 rfl rfl w hw)) ?_ | refine valJ_at (fun w hw => ld23 (Hs.cell 3 rfl rfl w hw) (Hs.cell 3 rfl rfl w hw) (Hs.cell 3 rfl rfl w hw)) ?_ | refine valJ_at (fun w hw => ld23 (Hs.cell 4 rfl rfl w hw) (Hs.cell 4 rfl rfl w hw) (Hs.cell 4 rfl rfl w hw)) ?_ | refine valJ_at (fun w hw => ld23 (Hs.cell 5 rfl rfl w hw) (Hs.cell 5 rfl rfl w hw) (Hs.cell 5 rfl rfl w hw)) ?_ | refine valJ_at (fun w hw => ld23 (Hs.cell 6 rfl rfl w hw) (Hs.cell 6 rfl rfl w hw) (Hs.cell 6 rfl rfl w hw)) ?_ | refine valJ_at (fun w hw => ld23 (Hs.cell 7 rfl rfl w hw) (Hs.cell 7 rfl rfl w hw) (Hs.cell 7 rfl rfl w hw)) ?_
    first | refine valJ_ok (fa67_1 _) ?_ | refine valJ_ok (fao67_1 _ _) ?_
    first | refine valJ_load ld3 (Hs.cell 0 rfl rfl) ?_ | refine valJ_load ld3 (Hs.cell 1 rfl rfl) ?_ | refine valJ_load ld3 (Hs.cell 2 rfl rfl) ?_ | refine valJ_load ld3 (Hs.cell 3 rfl rfl) ?_ | refine valJ_load ld3 (Hs.cell 4 rfl rfl) ?_ | refine valJ_load ld3 (Hs.cell 5 rfl rfl) ?_ | refine valJ_load ld3 (Hs.cell 6 rfl rfl) ?_ | refine valJ_load ld3 (Hs.cell 7 rfl rfl) ?_ | refine valJ_load ld3 (by assumption) ?_
    first | refine valJ_ok (fa28_0 _) ?_ | refine valJ_ok (fao28_0 _ _) ?_
    first | refine valJ_load ld3 (Hs.cell 0 rfl rfl) ?_ | refine valJ_load ld3 (Hs.cell 1 rfl rfl) ?_ | refine valJ_load ld3 (Hs.cell 2 rfl rfl) ?_ | refine valJ_load ld3 (Hs.cell 3 rfl rfl) ?_ | refine valJ_load ld3 (Hs.cell 4 rfl rfl) ?_ | refine valJ_load ld3 (Hs.cell 5 rfl rfl) ?_ | refine valJ_load ld3 (Hs.cell 6 rfl rfl) ?_ | refine valJ_load ld3 (Hs.cell 7 rfl rfl) ?_ | refine valJ_load ld3 (by assumption) ?_
    refine callR (by kernel_rfl) (gclosed_ret hg hmk2 hcl hS) ?_
    rintro _ w ⟨rfl, hS⟩
    refine stay_Hs hS (by first | exact fun _ h => h | exact fun _ h => .tail _ h | exact fun _ h => .tail _ (.tail _ h) | simp) ?_
    first | refine valJ_ok (not_ok _) ?_ | refine valJ_ok (notb_ok _) ?_
    first | refine pick_dt (by first | assumption | omega) ?_ | refine pick_df (by first | assumption | omega) ?_ | refine pick_t (by first | rfl | assumption) ?_ | refine pick_f (by first | rfl | assumption) ?_ | refine pick_dt rfl ?_ | refine pick_df (not_not_intro rfl) ?_
    refine cond_t rfl ?_
    first | refine valJ_ok (fa67_2 _) ?_ | refine valJ_ok (fao67_2 _ _) ?_
    refine valJ_at (fun w hw => ld65 (Hs.cell 0 rfl (i := 2) rfl w hw) (Hs.cell 0 rfl (i := 3) rfl w hw) (Hs.cell 0 rfl (i := 4) rfl w hw) (Hs.cell 0 rfl (i := 5) rfl w hw) (Hs.cell 0 rfl (i := 6) rfl w hw) (Hs.cell 0 rfl (i := 7) rfl w hw) (Hs.cell 0 rfl (i := 8) rfl w hw) (Hs.cell 0 rfl (i := 9) rfl w hw) (Hs.cell 0 rfl (i := 10) rfl w hw) (Hs.cell 0 rfl (i := 11) rfl w hw)) ?_
    refine callR (by kernel_rfl) (fcheck_ret (a := s.L[i].a) hma hS) ?_
    rintro _ w ⟨rfl, hS⟩
    refine stay_Hs hS (by first | exact fun _ h => h | exact fun _ h => .tail _ h | exact fun _ h => .tail _ (.tail _ h) | simp) ?_
    refine valJ_ok (eq35 _ _ _ _) ?_
    first | refine pick_dt (by first | assumption | omega) ?_ | refine pick_df (by first | assumption | omega) ?_ | refine pick_t (by first | rfl | assumption) ?_ | refine pick_f (by first | rfl | assumption) ?_ | refine pick_dt rfl ?_ | refine pick_df (not_not_intro rfl) ?_
    refine cond_dt (by omega) ?_
    refine valJ_ok (eq3 _ _ _ _) ?_
    refine cond_split (fun h1 => ?_) (fun h1 => ?_)
    · first | refine pick_dt (by first | assumption | omega) ?_ | refine pick_df (by first | assumption | omega) ?_ | refine pick_t (by first | rfl | assumption) ?_ | refine pick_f (by first | rfl | assumption) ?_ | refine pick_dt rfl ?_ | refine pick_df (not_not_intro rfl) ?_
      first | refine pick_dt (by first | assumption | omega) ?_ | refine pick_df (by first | assumption | omega) ?_ | refine pick_t (by first | rfl | assumption) ?_ | refine pick_f (by first | rfl | assumption) ?_ | refine pick_dt rfl ?_ | refine pick_df (not_not_intro rfl) ?_
      unfold m22_12
      refine valP_ok (add_ok _ _ _ (by omega) (by omega) _) ?_
      exact ⟨⟨i + 1, rfl, by omega, hS.tail.tail⟩, by simp [intOf]; omega⟩
    · obtain ⟨j, rfl⟩ : ∃ j, i = j + 1 := ⟨i - 1, by omega⟩
      have hjl : j < s.L.length := by omega
      have ha := hah (by omega)
      first | refine valJ_ok (fa28_4 _) ?_ | refine valJ_ok (fao28_4 _ _) ?_
      first | refine valJ_load ld26 (Hs.cell 0 rfl rfl) ?_ | refine valJ_load ld26 (Hs.cell 1 rfl rfl) ?_ | refine valJ_load ld26 (Hs.cell 2 rfl rfl) ?_ | refine valJ_load ld26 (Hs.cell 3 rfl rfl) ?_ | refine valJ_load ld26 (Hs.cell 4 rfl rfl) ?_ | refine valJ_load ld26 (Hs.cell 5 rfl rfl) ?_ | refine valJ_load ld26 (Hs.cell 6 rfl rfl) ?_ | refine valJ_load ld26 (Hs.cell 7 rfl rfl) ?_ | refine valJ_load ld26 (by assumption) ?_
      refine valJ_ok (sub_ok _ _ _ (by omega) (by omega)) ?_
      rw [show ((j + 1 : Nat) : Int) - 1 = (j : Int) by omega]
      refine valJ_ok (fun w => ix26 hjl w) ?_
      refine valJ_at (fun w hw => ldC (Hs.rd hE3.rd w hw) hjl) ?_
      refine valJ_at (fun w hw => ld67 (Hs.cell 0 rfl (i := 0) rfl w hw) (Hs.cell 0 rfl (i := 1) rfl w hw) (Hs.cell 0 rfl (i := 2) rfl w hw) (Hs.cell 0 rfl (i := 3) rfl w hw) (Hs.cell 0 rfl (i := 4) rfl w hw) (Hs.cell 0 rfl (i := 5) rfl w hw) (Hs.cell 0 rfl (i := 6) rfl w hw) (Hs.cell 0 rfl (i := 7) rfl w hw) (Hs.cell 0 rfl (i := 8) rfl w hw) (Hs.cell 0 rfl (i := 9) rfl w hw) (Hs.cell 0 rfl (i := 10) rfl w hw) (Hs.cell 0 rfl (i := 11) rfl w hw)) ?_
      refine callR (by kernel_rfl) (order_ret (a := s.L[j]) (b := s.L[j + 1]) hS) ?_
      rintro _ w ⟨⟨k, rfl, hkk⟩, hS⟩
      have hk0 := hkk.2 ha
      refine stay_Hs hS (by first | exact fun _ h => h | exact fun _ h => .tail _ h | exact fun _ h => .tail _ (.tail _ h) | simp) ?_
      refine valJ_ok (lss_ok _ _ _ _ _ _) ?_
      first | refine pick_dt (by first | assumption | omega) ?_ | refine pick_df (by first | assumption | omega) ?_ | refine pick_t (by first | rfl | assumption) ?_ | refine pick_f (by first | rfl | assumption) ?_ | refine pick_dt rfl ?_ | refine pick_df (not_not_intro rfl) ?_
      first | refine pick_dt (by first | assumption | omega) ?_ | refine pick_df (by first | assumption | omega) ?_ | refine pick_t (by first | rfl | assumption) ?_ | refine pick_f (by first | rfl | assumption) ?_ | refine pick_dt rfl ?_ | refine pick_df (not_not_intro rfl) ?_
      rw [decide_eq_true hk0]
      unfold m22_12
      refine valP_ok (add_ok _ _ _ (by omega) (by omega) _) ?_
      exact ⟨⟨j + 1 + 1, rfl, by omega, hS.tail.tail⟩, by simp [intOf]; omega⟩
  · unfold m22_3
    first | refine valP_ok (not_ok _ _) ?_ | refine valP_ok (notb_ok _ _) ?_
    unfold m22_6
    refine cond_f rfl ?_
    unfold m22_4 m22_5
    exact ⟨rfl, hS.tail.tail⟩
theorem echeck_ret (hm : MayS g s) (hE : Sl w0 F L A c s.L) (hS : St w0 F w L) : Ret Try.prog 22 #[grv g, sgv s A c] w fun v w' => v = .int .i64 0 ∧ St w0 F w' L := by
  have hm' := hm
  obtain ⟨⟨hg, hmk, hla, hba, hn, hlb, h64⟩, hall⟩ := hm
  have hg1 := hg.1
  have hw : ∀ x ∈ [s.late, s.bad, s.n], in40 x := by simp [hla, hba, hn]
  unfold in40 at hla hba hn
  refine s22 _ _ ?_
  unfold m22
  unfold m22_0
  refine new_ok (bx23 _ _ _ _) hS ?_
  intro b2 w hS
  refine new_ok (bx28 _ _ _ _ _ _) hS ?_
  intro b3 w hS
  unfold m22_1
  first | refine ls23 0 hS rfl ?_ | refine ls23 1 hS rfl ?_ | refine ls23 2 hS rfl ?_ | refine ls23 3 hS rfl ?_ | refine ls23 4 hS rfl ?_ | refine ls23 5 hS rfl ?_ | refine ls23 6 hS rfl ?_ | refine ls23 7 hS rfl ?_ | refine valP_ok (ld23 (by assumption) (by assumption) (by assumption)) ?_
  refine callR (by kernel_rfl) (gcheck_ret hg hS) ?_
  rintro _ w ⟨rfl, hS⟩
  refine valP_ok (eq35 _ _ _ _ _) ?_
  refine cond_dt (by omega) ?_
  first | refine valP_ok (fa28_0 _ _) ?_ | refine valP_ok (fao28_0 _ _ _) ?_
  first | refine valP_ok (ld3 (hS.cell 0 rfl rfl)) ?_ | refine valP_ok (ld3 (hS.cell 1 rfl rfl)) ?_ | refine valP_ok (ld3 (hS.cell 2 rfl rfl)) ?_ | refine valP_ok (ld3 (hS.cell 3 rfl rfl)) ?_ | refine valP_ok (ld3 (hS.cell 4 rfl rfl)) ?_ | refine valP_ok (ld3 (hS.cell 5 rfl rfl)) ?_ | refine valP_ok (ld3 (hS.cell 6 rfl rfl)) ?_ | refine valP_ok (ld3 (hS.cell 7 rfl rfl)) ?_ | refine valP_ok (ld3 (by assumption)) ?_
  refine valP_ok (eq3 _ _ _ _ _) ?_
  refine cond_split (fun h => ?_) (fun h => ?_)
  · first | refine pick_dt (by first | assumption | omega) ?_ | refine pick_df (by first | assumption | omega) ?_ | refine pick_t (by first | rfl | assumption) ?_ | refine pick_f (by first | rfl | assumption) ?_ | refine pick_dt rfl ?_ | refine pick_df (not_not_intro rfl) ?_
    first | refine pick_dt (by first | assumption | omega) ?_ | refine pick_df (by first | assumption | omega) ?_ | refine pick_t (by first | rfl | assumption) ?_ | refine pick_f (by first | rfl | assumption) ?_ | refine pick_dt rfl ?_ | refine pick_df (not_not_intro rfl) ?_
    first | refine valP_ok (fa28_1 _ _) ?_ | refine valP_ok (fao28_1 _ _ _) ?_
    first | refine valP_ok (ld3 (hS.cell 0 rfl rfl)) ?_ | refine valP_ok (ld3 (hS.cell 1 rfl rfl)) ?_ | refine valP_ok (ld3 (hS.cell 2 rfl rfl)) ?_ | refine valP_ok (ld3 (hS.cell 3 rfl rfl)) ?_ | refine valP_ok (ld3 (hS.cell 4 rfl rfl)) ?_ | refine valP_ok (ld3 (hS.cell 5 rfl rfl)) ?_ | refine valP_ok (ld3 (hS.cell 6 rfl rfl)) ?_ | refine valP_ok (ld3 (hS.cell 7 rfl rfl)) ?_ | refine valP_ok (ld3 (by assumption)) ?_
    first | refine valP_ok (fa28_2 _ _) ?_ | refine valP_ok (fao28_2 _ _ _) ?_
    first | refine valP_ok (ld3 (hS.cell 0 rfl rfl)) ?_ | refine valP_ok (ld3 (hS.cell 1 rfl rfl)) ?_ | refine valP_ok (ld3 (hS.cell 2 rfl rfl)) ?_ | refine valP_ok (ld3 (hS.cell 3 rfl rfl)) ?_ | refine valP_ok (ld3 (hS.cell 4 rfl rfl)) ?_ | refine valP_ok (ld3 (hS.cell 5 rfl rfl)) ?_ | refine valP_ok (ld3 (hS.cell 6 rfl rfl)) ?_ | refine valP_ok (ld3 (hS.cell 7 rfl rfl)) ?_ | refine valP_ok (ld3 (by assumption)) ?_
    first | refine valP_ok (fa28_3 _ _) ?_ | refine valP_ok (fao28_3 _ _ _) ?_
    first | refine valP_ok (ld3 (hS.cell 0 rfl rfl)) ?_ | refine valP_ok (ld3 (hS.cell 1 rfl rfl)) ?_ | refine valP_ok (ld3 (hS.cell 2 rfl rfl)) ?_ | refine valP_ok (ld3 (hS.cell 3 rfl rfl)) ?_ | refine valP_ok (ld3 (hS.cell 4 rfl rfl)) ?_ | refine valP_ok (ld3 (hS.cell 5 rfl rfl)) ?_ | refine valP_ok (ld3 (hS.cell 6 rfl rfl)) ?_ | refine valP_ok (ld3 (hS.cell 7 rfl rfl)) ?_ | refine valP_ok (ld3 (by assumption)) ?_
    refine newslice_ok (bs51_3 rfl rfl rfl _) hS ?_
    intro b29 w hS
    refine callR (by kernel_rfl) (within_ret (l := [s.late, s.bad, s.n]) (by simp) hw (Bes.of_cells 0 rfl rfl) hS) ?_
    rintro _ w ⟨rfl, hS⟩
    first | refine pick_dt (by first | assumption | omega) ?_ | refine pick_df (by first | assumption | omega) ?_ | refine pick_t (by first | rfl | assumption) ?_ | refine pick_f (by first | rfl | assumption) ?_ | refine pick_dt rfl ?_ | refine pick_df (not_not_intro rfl) ?_
    refine cond_t rfl ?_
    first | refine valP_ok (fa28_1 _ _) ?_ | refine valP_ok (fao28_1 _ _ _) ?_
    first | refine valP_ok (ld3 (hS.cell 0 rfl rfl)) ?_ | refine valP_ok (ld3 (hS.cell 1 rfl rfl)) ?_ | refine valP_ok (ld3 (hS.cell 2 rfl rfl)) ?_ | refine valP_ok (ld3 (hS.cell 3 rfl rfl)) ?_ | refine valP_ok (ld3 (hS.cell 4 rfl rfl)) ?_ | refine valP_ok (ld3 (hS.cell 5 rfl rfl)) ?_ | refine valP_ok (ld3 (hS.cell 6 rfl rfl)) ?_ | refine valP_ok (ld3 (hS.cell 7 rfl rfl)) ?_ | refine valP_ok (ld3 (by assumption)) ?_
    first | refine valP_ok (fa28_3 _ _) ?_ | refine valP_ok (fao28_3 _ _ _) ?_
    first | refine valP_ok (ld3 (hS.cell 0 rfl rfl)) ?_ | refine valP_ok (ld3 (hS.cell 1 rfl rfl)) ?_ | refine valP_ok (ld3 (hS.cell 2 rfl rfl)) ?_ | refine valP_ok (ld3 (hS.cell 3 rfl rfl)) ?_ | refine valP_ok (ld3 (hS.cell 4 rfl rfl)) ?_ | refine valP_ok (ld3 (hS.cell 5 rfl rfl)) ?_ | refine valP_ok (ld3 (hS.cell 6 rfl rfl)) ?_ | refine valP_ok (ld3 (hS.cell 7 rfl rfl)) ?_ | refine valP_ok (ld3 (by assumption)) ?_
    first | refine valP_ok (fa28_2 _ _) ?_ | refine valP_ok (fao28_2 _ _ _) ?_
    first | refine valP_ok (ld3 (hS.cell 0 rfl rfl)) ?_ | refine valP_ok (ld3 (hS.cell 1 rfl rfl)) ?_ | refine valP_ok (ld3 (hS.cell 2 rfl rfl)) ?_ | refine valP_ok (ld3 (hS.cell 3 rfl rfl)) ?_ | refine valP_ok (ld3 (hS.cell 4 rfl rfl)) ?_ | refine valP_ok (ld3 (hS.cell 5 rfl rfl)) ?_ | refine valP_ok (ld3 (hS.cell 6 rfl rfl)) ?_ | refine valP_ok (ld3 (hS.cell 7 rfl rfl)) ?_ | refine valP_ok (ld3 (by assumption)) ?_
    refine valP_ok (sub_ok _ _ _ (by omega) (by omega) _) ?_
    refine valP_ok (leq_ok _ _ _ _ _ _ _) ?_
    first | refine pick_dt (by first | assumption | omega) ?_ | refine pick_df (by first | assumption | omega) ?_ | refine pick_t (by first | rfl | assumption) ?_ | refine pick_f (by first | rfl | assumption) ?_ | refine pick_dt rfl ?_ | refine pick_df (not_not_intro rfl) ?_
    refine cond_dt (by omega) ?_
    first | refine valP_ok (fa28_4 _ _) ?_ | refine valP_ok (fao28_4 _ _ _) ?_
    first | refine valP_ok (ld26 (hS.cell 0 rfl rfl)) ?_ | refine valP_ok (ld26 (hS.cell 1 rfl rfl)) ?_ | refine valP_ok (ld26 (hS.cell 2 rfl rfl)) ?_ | refine valP_ok (ld26 (hS.cell 3 rfl rfl)) ?_ | refine valP_ok (ld26 (hS.cell 4 rfl rfl)) ?_ | refine valP_ok (ld26 (hS.cell 5 rfl rfl)) ?_ | refine valP_ok (ld26 (hS.cell 6 rfl rfl)) ?_ | refine valP_ok (ld26 (hS.cell 7 rfl rfl)) ?_ | refine valP_ok (ld26 (by assumption)) ?_
    refine builtin_ok (len26 _) ?_
    refine valP_ok (leq_ok _ _ _ _ _ _ _) ?_
    first | refine pick_dt (by first | assumption | omega) ?_ | refine pick_df (by first | assumption | omega) ?_ | refine pick_t (by first | rfl | assumption) ?_ | refine pick_f (by first | rfl | assumption) ?_ | refine pick_dt rfl ?_ | refine pick_df (not_not_intro rfl) ?_
    rw [show decide ((s.L.length : Int) ≤ 64) = true from decide_eq_true (by omega)]
    exact chk_2 hm' hE hS.tail
  · have hmk1 : in40 s.mark := hmk.resolve_left h
    first | refine valP_ok (fa28_0 _ _) ?_ | refine valP_ok (fao28_0 _ _ _) ?_
    first | refine valP_ok (ld3 (hS.cell 0 rfl rfl)) ?_ | refine valP_ok (ld3 (hS.cell 1 rfl rfl)) ?_ | refine valP_ok (ld3 (hS.cell 2 rfl rfl)) ?_ | refine valP_ok (ld3 (hS.cell 3 rfl rfl)) ?_ | refine valP_ok (ld3 (hS.cell 4 rfl rfl)) ?_ | refine valP_ok (ld3 (hS.cell 5 rfl rfl)) ?_ | refine valP_ok (ld3 (hS.cell 6 rfl rfl)) ?_ | refine valP_ok (ld3 (hS.cell 7 rfl rfl)) ?_ | refine valP_ok (ld3 (by assumption)) ?_
    refine newslice_ok (bs51_1 rfl _) hS ?_
    intro b18 w hS
    refine callR (by kernel_rfl) (within_ret (l := [s.mark]) (by simp) (by simp [hmk1]) (Bes.of_cells 0 rfl rfl) hS) ?_
    rintro _ w ⟨rfl, hS⟩
    first | refine pick_dt (by first | assumption | omega) ?_ | refine pick_df (by first | assumption | omega) ?_ | refine pick_t (by first | rfl | assumption) ?_ | refine pick_f (by first | rfl | assumption) ?_ | refine pick_dt rfl ?_ | refine pick_df (not_not_intro rfl) ?_
    first | refine pick_dt (by first | assumption | omega) ?_ | refine pick_df (by first | assumption | omega) ?_ | refine pick_t (by first | rfl | assumption) ?_ | refine pick_f (by first | rfl | assumption) ?_ | refine pick_dt rfl ?_ | refine pick_df (not_not_intro rfl) ?_
    refine cond_t rfl ?_
    first | refine valP_ok (fa28_1 _ _) ?_ | refine valP_ok (fao28_1 _ _ _) ?_
    first | refine valP_ok (ld3 (hS.cell 0 rfl rfl)) ?_ | refine valP_ok (ld3 (hS.cell 1 rfl rfl)) ?_ | refine valP_ok (ld3 (hS.cell 2 rfl rfl)) ?_ | refine valP_ok (ld3 (hS.cell 3 rfl rfl)) ?_ | refine valP_ok (ld3 (hS.cell 4 rfl rfl)) ?_ | refine valP_ok (ld3 (hS.cell 5 rfl rfl)) ?_ | refine valP_ok (ld3 (hS.cell 6 rfl rfl)) ?_ | refine valP_ok (ld3 (hS.cell 7 rfl rfl)) ?_ | refine valP_ok (ld3 (by assumption)) ?_
    first | refine valP_ok (fa28_2 _ _) ?_ | refine valP_ok (fao28_2 _ _ _) ?_
    first | refine valP_ok (ld3 (hS.cell 0 rfl rfl)) ?_ | refine valP_ok (ld3 (hS.cell 1 rfl rfl)) ?_ | refine valP_ok (ld3 (hS.cell 2 rfl rfl)) ?_ | refine valP_ok (ld3 (hS.cell 3 rfl rfl)) ?_ | refine valP_ok (ld3 (hS.cell 4 rfl rfl)) ?_ | refine valP_ok (ld3 (hS.cell 5 rfl rfl)) ?_ | refine valP_ok (ld3 (hS.cell 6 rfl rfl)) ?_ | refine valP_ok (ld3 (hS.cell 7 rfl rfl)) ?_ | refine valP_ok (ld3 (by assumption)) ?_
    first | refine valP_ok (fa28_3 _ _) ?_ | refine valP_ok (fao28_3 _ _ _) ?_
    first | refine valP_ok (ld3 (hS.cell 0 rfl rfl)) ?_ | refine valP_ok (ld3 (hS.cell 1 rfl rfl)) ?_ | refine valP_ok (ld3 (hS.cell 2 rfl rfl)) ?_ | refine valP_ok (ld3 (hS.cell 3 rfl rfl)) ?_ | refine valP_ok (ld3 (hS.cell 4 rfl rfl)) ?_ | refine valP_ok (ld3 (hS.cell 5 rfl rfl)) ?_ | refine valP_ok (ld3 (hS.cell 6 rfl rfl)) ?_ | refine valP_ok (ld3 (hS.cell 7 rfl rfl)) ?_ | refine valP_ok (ld3 (by assumption)) ?_
    refine newslice_ok (bs51_3 rfl rfl rfl _) hS ?_
    intro b29 w hS
    refine callR (by kernel_rfl) (within_ret (l := [s.late, s.bad, s.n]) (by simp) hw (Bes.of_cells 0 rfl rfl) hS) ?_
    rintro _ w ⟨rfl, hS⟩
    first | refine pick_dt (by first | assumption | omega) ?_ | refine pick_df (by first | assumption | omega) ?_ | refine pick_t (by first | rfl | assumption) ?_ | refine pick_f (by first | rfl | assumption) ?_ | refine pick_dt rfl ?_ | refine pick_df (not_not_intro rfl) ?_
    refine cond_t rfl ?_
    first | refine valP_ok (fa28_1 _ _) ?_ | refine valP_ok (fao28_1 _ _ _) ?_
    first | refine valP_ok (ld3 (hS.cell 0 rfl rfl)) ?_ | refine valP_ok (ld3 (hS.cell 1 rfl rfl)) ?_ | refine valP_ok (ld3 (hS.cell 2 rfl rfl)) ?_ | refine valP_ok (ld3 (hS.cell 3 rfl rfl)) ?_ | refine valP_ok (ld3 (hS.cell 4 rfl rfl)) ?_ | refine valP_ok (ld3 (hS.cell 5 rfl rfl)) ?_ | refine valP_ok (ld3 (hS.cell 6 rfl rfl)) ?_ | refine valP_ok (ld3 (hS.cell 7 rfl rfl)) ?_ | refine valP_ok (ld3 (by assumption)) ?_
    first | refine valP_ok (fa28_3 _ _) ?_ | refine valP_ok (fao28_3 _ _ _) ?_
    first | refine valP_ok (ld3 (hS.cell 0 rfl rfl)) ?_ | refine valP_ok (ld3 (hS.cell 1 rfl rfl)) ?_ | refine valP_ok (ld3 (hS.cell 2 rfl rfl)) ?_ | refine valP_ok (ld3 (hS.cell 3 rfl rfl)) ?_ | refine valP_ok (ld3 (hS.cell 4 rfl rfl)) ?_ | refine valP_ok (ld3 (hS.cell 5 rfl rfl)) ?_ | refine valP_ok (ld3 (hS.cell 6 rfl rfl)) ?_ | refine valP_ok (ld3 (hS.cell 7 rfl rfl)) ?_ | refine valP_ok (ld3 (by assumption)) ?_
    first | refine valP_ok (fa28_2 _ _) ?_ | refine valP_ok (fao28_2 _ _ _) ?_
    first | refine valP_ok (ld3 (hS.cell 0 rfl rfl)) ?_ | refine valP_ok (ld3 (hS.cell 1 rfl rfl)) ?_ | refine valP_ok (ld3 (hS.cell 2 rfl rfl)) ?_ | refine valP_ok (ld3 (hS.cell 3 rfl rfl)) ?_ | refine valP_ok (ld3 (hS.cell 4 rfl rfl)) ?_ | refine valP_ok (ld3 (hS.cell 5 rfl rfl)) ?_ | refine valP_ok (ld3 (hS.cell 6 rfl rfl)) ?_ | refine valP_ok (ld3 (hS.cell 7 rfl rfl)) ?_ | refine valP_ok (ld3 (by assumption)) ?_
    refine valP_ok (sub_ok _ _ _ (by omega) (by omega) _) ?_
    refine valP_ok (leq_ok _ _ _ _ _ _ _) ?_
    first | refine pick_dt (by first | assumption | omega) ?_ | refine pick_df (by first | assumption | omega) ?_ | refine pick_t (by first | rfl | assumption) ?_ | refine pick_f (by first | rfl | assumption) ?_ | refine pick_dt rfl ?_ | refine pick_df (not_not_intro rfl) ?_
    refine cond_dt (by omega) ?_
    first | refine valP_ok (fa28_4 _ _) ?_ | refine valP_ok (fao28_4 _ _ _) ?_
    first | refine valP_ok (ld26 (hS.cell 0 rfl rfl)) ?_ | refine valP_ok (ld26 (hS.cell 1 rfl rfl)) ?_ | refine valP_ok (ld26 (hS.cell 2 rfl rfl)) ?_ | refine valP_ok (ld26 (hS.cell 3 rfl rfl)) ?_ | refine valP_ok (ld26 (hS.cell 4 rfl rfl)) ?_ | refine valP_ok (ld26 (hS.cell 5 rfl rfl)) ?_ | refine valP_ok (ld26 (hS.cell 6 rfl rfl)) ?_ | refine valP_ok (ld26 (hS.cell 7 rfl rfl)) ?_ | refine valP_ok (ld26 (by assumption)) ?_
    refine builtin_ok (len26 _) ?_
    refine valP_ok (leq_ok _ _ _ _ _ _ _) ?_
    first | refine pick_dt (by first | assumption | omega) ?_ | refine pick_df (by first | assumption | omega) ?_ | refine pick_t (by first | rfl | assumption) ?_ | refine pick_f (by first | rfl | assumption) ?_ | refine pick_dt rfl ?_ | refine pick_df (not_not_intro rfl) ?_
    rw [show decide ((s.L.length : Int) ≤ 64) = true from decide_eq_true (by omega)]
    exact chk_2 hm' hE hS.tail.tail
end
end Go.Proofs.Ytnhgdngbdoifnaa.M
namespace Go.Proofs.Ytnhgdngbdoifnaa.M
open Go.Proofs.Ytnhgdngbdoifnaa.F
set_option linter.unusedVariables false
set_option maxRecDepth 100000
variable {R : VP} {Q : EQ}
def m23_13 (R : VP) (t4 : Value) (w : World) : Prop :=
  R t4 w
def m23_10 (R : VP) (K1 : VP) (t4 : Value) (w : World) : Prop :=
  R t4 w
def m23_8 (R : VP) (K1 : VP) (a0 b1 i5 : Value) (w : World) : Prop :=
  valP Try.prog (binS BinOp.add 3 (tm 15) (ci 1) i5 (vi 1)) w fun t16 w =>
  K1 t16 w
def m23_9 (R : VP) (K1 : VP) (a0 b1 i5 t25 : Value) (w : World) : Prop :=
  condP t25
  (m23_10 R K1 (Value.bool false) w)
  (m23_8 R K1 a0 b1 i5 w)
def m23_7 (R : VP) (K1 : VP) (a0 b1 i5 : Value) (w : World) : Prop :=
  valQ Try.prog (Instr.indexAt 26 a0 i5) w fun t19 =>
  valQ Try.prog (Instr.loadAt 67 t19) w fun t20 =>
  valQ Try.prog (Instr.indexAt 26 b1 i5) w fun t23 =>
  valQ Try.prog (Instr.loadAt 67 t23) w fun t24 =>
  valQ Try.prog (binS BinOp.neq 67 (tm 20) (tm 24) t20 t24) w fun t25 =>
  anyDraw w fun w =>
  m23_9 R K1 a0 b1 i5 t25 w
def m23_4 (R : VP) (t4 : Value) (w : World) : Prop :=
  R t4 w
def m23_3 (R : VP) (w : World) : Prop :=
  m23_4 R (Value.bool true) w
def m23_11 (R : VP) (K1 : VP) (a0 b1 i5 t14 : Value) (w : World) : Prop :=
  condP t14
  (m23_7 R K1 a0 b1 i5 w)
  (m23_3 R w)
def m23_6 (R : VP) (K1 : VP) (a0 b1 i5 : Value) (w : World) : Prop :=
  builtinP Try.prog Builtin.len #[26] 3 #[false] #[a0] w fun t13 w =>
  valP Try.prog (binS BinOp.lss 3 (tm 11) (tm 13) i5 t13) w fun t14 w =>
  m23_11 R K1 a0 b1 i5 t14 w
def m23_5 (R : VP) (a0 b1 i5 : Value) (w : World) : Prop :=
  loopP (fun (K1 : VP) (s : Value) w => m23_6 R K1 a0 b1 s w) i5 w
def m23_2 (R : VP) (a0 b1 : Value) (w : World) : Prop :=
  m23_5 R a0 b1 (vi 0) w
def m23_12 (R : VP) (a0 b1 t10 : Value) (w : World) : Prop :=
  condP t10
  (m23_13 R (Value.bool false) w)
  (m23_2 R a0 b1 w)
def m23_1 (R : VP) (a0 b1 : Value) (w : World) : Prop :=
  builtinP Try.prog Builtin.len #[26] 3 #[false] #[a0] w fun t7 w =>
  builtinP Try.prog Builtin.len #[26] 3 #[false] #[b1] w fun t9 w =>
  valP Try.prog (binS BinOp.neq 3 (tm 7) (tm 9) t7 t9) w fun t10 w =>
  m23_12 R a0 b1 t10 w
def m23_0 (R : VP) (a0 b1 : Value) (w : World) : Prop :=
  m23_1 R a0 b1 w
abbrev W23 := cwp Try.prog (fun i => cond (Nat.beq i 6) 1 (0))
noncomputable def k23_0 := bodyOf Try.f23
noncomputable def k23_1 := c2 k23_0
noncomputable def k23_2 := c2 k23_1
noncomputable def k23_3 := c2 k23_2
noncomputable def k23_4 := c2 k23_3
noncomputable def k23_5 := c2 (c1 k23_2)
noncomputable def k23_6 := c1 (c1 k23_5)
noncomputable def k23_7 := c2 k23_6
noncomputable def k23_8 := c2 k23_7
noncomputable def k23_9 := c2 (c1 (c1 k23_7))
noncomputable def k23_10 := c2 (c1 k23_9)
noncomputable def k23_11 := c2 (c1 k23_6)
noncomputable def k23_12 := c2 (c1 k23_1)
noncomputable def k23_13 := c2 (c1 k23_12)
abbrev hR23 (R : VP) (Q : EQ) : Prop := ∀ e w, (R (e 4) w) → Q .ret e w
theorem s23_13 (hR : hR23 R Q) (e : Env) (w : World) (h : m23_13 R (e 4) w) : W23 k23_13 Q e w := by
  exact reA (hR _ _ h)
theorem s23_10 {K1 : VP} (hR : hR23 R Q) (e : Env) (w : World) (h : m23_10 R K1 (e 4) w) : W23 k23_10 Q e w := by
  exact reA (hR _ _ h)
theorem s23_8 {K1 : VP} (hN : ∀ e w, (K1 (e 5) w) → Q .normal e w) (e : Env) (w : World) (h : m23_8 R K1 (e 0) (e 1) (e 5) w) : W23 k23_8 Q e w := by
  exact rgA 5 (fun e w => K1 (e 5) w) h hN
theorem s23_9 {K1 : VP} (hN : ∀ e w, (m23_8 R K1 (e 0) (e 1) (e 5) w) → Q .normal e w) (hR : hR23 R Q) (e : Env) (w : World) (h : m23_9 R K1 (e 0) (e 1) (e 5) (e 25) w) : W23 k23_9 Q e w := by
  refine coA (Operand.tmp 25) h (fun h1 => ?_) (fun h1 => ?_)
  · refine seA ?_
    exact rgA 7 (fun e w => m23_10 R K1 (e 4) w) h1 fun e w h => then_N (s23_10 hR e w h)
  · exact skA (hN _ _ h1)
theorem s23_7 {K1 : VP} (hN : ∀ e w, (K1 (e 5) w) → Q .normal e w) (hR : hR23 R Q) (e : Env) (w : World) (h : m23_7 R K1 (e 0) (e 1) (e 5) w) : W23 k23_7 Q e w := by
  refine seA ?_
  have hN : ∀ e w, (m23_8 R K1 (e 0) (e 1) (e 5) w) → (thenE (W23 k23_8 Q) Q) .normal e w := fun e w h => then_N (s23_8 hN e w h)
  have hR : hR23 R (thenE (W23 k23_8 Q) Q) := fun e w h => then_R (hR e w h)
  refine block_ok 1 (by kernel_rfl) ?_
  have hN : ∀ e w, (m23_8 R K1 (e 0) (e 1) (e 5) w) → (inBlockE 1 (thenE (W23 k23_8 Q) Q)) .normal e w := fun e w h => block_N (hN e w h)
  have hR : hR23 R (inBlockE 1 (thenE (W23 k23_8 Q) Q)) := fun e w h => block_R (hR e w h)
  refine seA ?_
  have hN : ∀ e w, (m23_9 R K1 (e 0) (e 1) (e 5) (e 25) w) → (thenE (W23 k23_9 (inBlockE 1 (thenE (W23 k23_8 Q) Q))) (inBlockE 1 (thenE (W23 k23_8 Q) Q))) .normal e w := fun e w h => then_N (s23_9 (R := R) (Q := (inBlockE 1 (thenE (W23 k23_8 Q) Q))) hN hR e w h)
  exact quA 6 (fun e w => m23_9 R K1 (e 0) (e 1) (e 5) (e 25) w) h hN
theorem s23_4 (hR : hR23 R Q) (e : Env) (w : World) (h : m23_4 R (e 4) w) : W23 k23_4 Q e w := by
  exact reA (hR _ _ h)
theorem s23_3 (hR : hR23 R Q) (e : Env) (w : World) (h : m23_3 R w) : W23 k23_3 Q e w := by
  refine seA ?_
  exact rgA 8 (fun e w => m23_4 R (e 4) w) h fun e w h => then_N (s23_4 hR e w h)
theorem s23_11 {K1 : VP} (hN : ∀ e w, (m23_7 R K1 (e 0) (e 1) (e 5) w) → Q .normal e w) (hX0 : ∀ e w, (m23_3 R w) → Q (.exit 0) e w) (e : Env) (w : World) (h : m23_11 R K1 (e 0) (e 1) (e 5) (e 14) w) : W23 k23_11 Q e w := by
  refine coA (Operand.tmp 14) h (fun h1 => ?_) (fun h1 => ?_)
  · exact skA (hN _ _ h1)
  · exact exA 0 (hX0 _ _ h1)
theorem s23_6 {K1 : VP} (hN : ∀ e w, (K1 (e 5) w) → Q .normal e w) (hR : hR23 R Q) (hX0 : ∀ e w, (m23_3 R w) → Q (.exit 0) e w) (e : Env) (w : World) (h : m23_6 R K1 (e 0) (e 1) (e 5) w) : W23 k23_6 Q e w := by
  refine seA ?_
  have hN : ∀ e w, (m23_7 R K1 (e 0) (e 1) (e 5) w) → (thenE (W23 k23_7 Q) Q) .normal e w := fun e w h => then_N (s23_7 hN hR e w h)
  have hX0 : ∀ e w, (m23_3 R w) → (thenE (W23 k23_7 Q) Q) (.exit 0) e w := fun e w h => then_X (hX0 e w h)
  refine seA ?_
  exact rgA 4 (fun e w => m23_11 R K1 (e 0) (e 1) (e 5) (e 14) w) h fun e w h => then_N (s23_11 hN hX0 e w h)
theorem s23_5 (hN : ∀ e w, (m23_3 R w) → Q .normal e w) (hR : hR23 R Q) (e : Env) (w : World) (h : m23_5 R (e 0) (e 1) (e 5) w) : W23 k23_5 Q e w := by
  refine block_ok 0 (by kernel_rfl) ?_
  have hX0 : ∀ e w, (m23_3 R w) → (inBlockE 0 Q) (.exit 0) e w := fun e w h => inBlock_same (Q := Q) 0 (hN e w h)
  have hR : hR23 R (inBlockE 0 Q) := fun e w h => block_R (hR e w h)
  refine loop_ok' (fun (e : Env) => e 5) [0, 1] (by kernel_rfl) (by kernel_rfl) h (fun K e' w' hk h' => ?_)
  have r0 : e' 0 = e 0 := hk 0 (by decide)
  have r1 : e' 1 = e 1 := hk 1 (by decide)
  have hR : hR23 R (thenE (fun (e : Env) w => K (e 5) w) (inBlockE 0 Q)) := fun e w h => then_R (hR e w h)
  have hX0 : ∀ e w, (m23_3 R w) → (thenE (fun (e : Env) w => K (e 5) w) (inBlockE 0 Q)) (.exit 0) e w := fun e w h => then_X (hX0 e w h)
  exact s23_6 (K1 := K) (fun _ _ h => then_N h) hR hX0 e' w' (by rw [r0, r1]; exact h')
theorem s23_2 (hR : hR23 R Q) (e : Env) (w : World) (h : m23_2 R (e 0) (e 1) w) : W23 k23_2 Q e w := by
  refine seA ?_
  have hN : ∀ e w, (m23_3 R w) → (thenE (W23 k23_3 Q) Q) .normal e w := fun e w h => then_N (s23_3 hR e w h)
  have hR : hR23 R (thenE (W23 k23_3 Q) Q) := fun e w h => then_R (hR e w h)
  refine seA ?_
  exact rgA 3 (fun e w => m23_5 R (e 0) (e 1) (e 5) w) h fun e w h => then_N (s23_5 hN hR e w h)
theorem s23_12 (hN : ∀ e w, (m23_2 R (e 0) (e 1) w) → Q .normal e w) (hR : hR23 R Q) (e : Env) (w : World) (h : m23_12 R (e 0) (e 1) (e 10) w) : W23 k23_12 Q e w := by
  refine coA (Operand.tmp 10) h (fun h1 => ?_) (fun h1 => ?_)
  · refine seA ?_
    exact rgA 2 (fun e w => m23_13 R (e 4) w) h1 fun e w h => then_N (s23_13 hR e w h)
  · exact skA (hN _ _ h1)
theorem s23_1 (hR : hR23 R Q) (e : Env) (w : World) (h : m23_1 R (e 0) (e 1) w) : W23 k23_1 Q e w := by
  refine seA ?_
  have hN : ∀ e w, (m23_2 R (e 0) (e 1) w) → (thenE (W23 k23_2 Q) Q) .normal e w := fun e w h => then_N (s23_2 hR e w h)
  have hR : hR23 R (thenE (W23 k23_2 Q) Q) := fun e w h => then_R (hR e w h)
  refine seA ?_
  exact rgA 1 (fun e w => m23_12 R (e 0) (e 1) (e 10) w) h fun e w h => then_N (s23_12 hN hR e w h)
theorem s23_0 (hR : hR23 R Q) (e : Env) (w : World) (h : m23_0 R (e 0) (e 1) w) : W23 k23_0 Q e w := by
  refine seA ?_
  exact rgA 0 (fun e w => m23_1 R (e 0) (e 1) w) h fun e w h => then_N (s23_1 hR e w h)
abbrev m23 (R : VP) (a0 b1 : Value) (w : World) : Prop := m23_0 R a0 b1 w
theorem s23 (a0 b1 : Value) {R : VP} {w : World} (h : m23 R a0 b1 w) :
    Calls Try.prog 23 #[a0, b1] w fun e w' => ∃ v, e = .returned v ∧ R v w' :=
  calls_of_cwp (st := (fun i => cond (Nat.beq i 6) 1 (0))) (c := k23_0) (by kernel_rfl) Try.func23 (by kernel_rfl) (Nat.le_of_ble_eq_true (by kernel_rfl)) (by kernel_rfl)
    (s23_0 (R := R) (Q := endE Try.prog Try.f23 R) (fun e w h => kcast (by kernel_rfl) h) (argsE #[a0, b1]) w (kcast (by kernel_rfl) h))
def m11_2 (R : VP) (t4 : Value) (w : World) : Prop :=
  R t4 w
def m11_1 (R : VP) (a2 b3 : Value) (w : World) : Prop :=
  valP Try.prog (Instr.fieldAt 28 a2 0) w fun t5 w =>
  valP Try.prog (Instr.loadAt 3 t5) w fun t6 w =>
  valP Try.prog (Instr.fieldAt 28 b3 0) w fun t7 w =>
  valP Try.prog (Instr.loadAt 3 t7) w fun t8 w =>
  valP Try.prog (binS BinOp.eql 3 (tm 6) (tm 8) t6 t8) w fun t9 w =>
  condP t9
  (valP Try.prog (Instr.fieldAt 28 a2 1) w fun t11 w =>
  valP Try.prog (Instr.loadAt 3 t11) w fun t12 w =>
  valP Try.prog (Instr.fieldAt 28 b3 1) w fun t13 w =>
  valP Try.prog (Instr.loadAt 3 t13) w fun t14 w =>
  valP Try.prog (binS BinOp.eql 3 (tm 12) (tm 14) t12 t14) w fun t15 w =>
  pickP t9 t15 (Value.bool false) fun t16 =>
  condP t16
  (valP Try.prog (Instr.fieldAt 28 a2 2) w fun t18 w =>
  valP Try.prog (Instr.loadAt 3 t18) w fun t19 w =>
  valP Try.prog (Instr.fieldAt 28 b3 2) w fun t20 w =>
  valP Try.prog (Instr.loadAt 3 t20) w fun t21 w =>
  valP Try.prog (binS BinOp.eql 3 (tm 19) (tm 21) t19 t21) w fun t22 w =>
  pickP t16 t22 (Value.bool false) fun t23 =>
  condP t23
  (valP Try.prog (Instr.fieldAt 28 a2 3) w fun t25 w =>
  valP Try.prog (Instr.loadAt 3 t25) w fun t26 w =>
  valP Try.prog (Instr.fieldAt 28 b3 3) w fun t27 w =>
  valP Try.prog (Instr.loadAt 3 t27) w fun t28 w =>
  valP Try.prog (binS BinOp.eql 3 (tm 26) (tm 28) t26 t28) w fun t29 w =>
  pickP t23 t29 (Value.bool false) fun t30 =>
  condP t30
  (valP Try.prog (Instr.fieldAt 28 a2 4) w fun t32 w =>
  valP Try.prog (Instr.loadAt 26 t32) w fun t33 w =>
  valP Try.prog (Instr.fieldAt 28 b3 4) w fun t34 w =>
  valP Try.prog (Instr.loadAt 26 t34) w fun t35 w =>
  callP Try.prog (fnV 23) #[t33, t35] w fun t36 w =>
  pickP t30 t36 (Value.bool false) fun t37 =>
  m11_2 R t37 w)
  (pickP t30 undef (Value.bool false) fun t37 =>
  m11_2 R t37 w))
  (pickP t23 undef (Value.bool false) fun t30 =>
  pickP t30 undef (Value.bool false) fun t37 =>
  m11_2 R t37 w))
  (pickP t16 undef (Value.bool false) fun t23 =>
  pickP t23 undef (Value.bool false) fun t30 =>
  pickP t30 undef (Value.bool false) fun t37 =>
  m11_2 R t37 w))
  (pickP t9 undef (Value.bool false) fun t16 =>
  pickP t16 undef (Value.bool false) fun t23 =>
  pickP t23 undef (Value.bool false) fun t30 =>
  pickP t30 undef (Value.bool false) fun t37 =>
  m11_2 R t37 w)
def m11_0 (R : VP) (a0 b1 : Value) (w : World) : Prop :=
  valP Try.prog (Instr.box 28 a0) w fun a2 w =>
  valP Try.prog (Instr.box 28 b1) w fun b3 w =>
  m11_1 R a2 b3 w
abbrev W11 := cwp Try.prog (fun i => 0)
noncomputable def k11_0 := bodyOf Try.f11
noncomputable def k11_1 := c2 k11_0
noncomputable def k11_2 := c2 k11_1
abbrev hR11 (R : VP) (Q : EQ) : Prop := ∀ e w, (R (e 4) w) → Q .ret e w
theorem s11_2 (hR : hR11 R Q) (e : Env) (w : World) (h : m11_2 R (e 4) w) : W11 k11_2 Q e w := by
  exact reA (hR _ _ h)
theorem s11_1 (hR : hR11 R Q) (e : Env) (w : World) (h : m11_1 R (e 2) (e 3) w) : W11 k11_1 Q e w := by
  refine seA ?_
  have hN : ∀ e w, (m11_2 R (e 4) w) → (thenE (W11 k11_2 Q) Q) .normal e w := fun e w h => then_N (s11_2 hR e w h)
  exact rgK 1 (fun e w => m11_2 R (e 4) w) h hN
theorem s11_0 (hR : hR11 R Q) (e : Env) (w : World) (h : m11_0 R (e 0) (e 1) w) : W11 k11_0 Q e w := by
  refine seA ?_
  exact rgA 0 (fun e w => m11_1 R (e 2) (e 3) w) h fun e w h => then_N (s11_1 hR e w h)
abbrev m11 (R : VP) (a0 b1 : Value) (w : World) : Prop := m11_0 R a0 b1 w
theorem s11 (a0 b1 : Value) {R : VP} {w : World} (h : m11 R a0 b1 w) :
    Calls Try.prog 11 #[a0, b1] w fun e w' => ∃ v, e = .returned v ∧ R v w' :=
  calls_of_cwp (st := (fun i => 0)) (c := k11_0) (by kernel_rfl) Try.func11 (by kernel_rfl) (Nat.le_of_ble_eq_true (by kernel_rfl)) (by kernel_rfl)
    (s11_0 (R := R) (Q := endE Try.prog Try.f11 R) (fun e w h => kcast (by kernel_rfl) h) (argsE #[a0, b1]) w (kcast (by kernel_rfl) h))
def m10_8 (R : VP) (K1 : (Value × Value) → World → Prop) (l0 out3 i4 : Value) (w : World) : Prop :=
  valP Try.prog (binS BinOp.add 3 (tm 9) (ci 1) i4 (vi 1)) w fun t10 w =>
  K1 (out3, t10) w
def m10_7 (R : VP) (K1 : (Value × Value) → World → Prop) (l0 out3 i4 : Value) (w : World) : Prop :=
  valP Try.prog (Instr.indexAt 25 l0 i4) w fun t14 w =>
  valP Try.prog (Instr.fieldAt 48 t14 1) w fun t15 w =>
  valP Try.prog (Instr.loadAt 46 t15) w fun t16 w =>
  valP Try.prog (Instr.buildSlice 24 1 #[(0, t16)]) w fun t17 w =>
  builtinP Try.prog Builtin.append #[24, 24] 24 #[false, false] #[out3, t17] w fun t18 w =>
  m10_8 R K1 l0 t18 i4 w
def m10_4 (R : VP) (t2 : Value) (w : World) : Prop :=
  R t2 w
def m10_3 (R : VP) (out3 : Value) (w : World) : Prop :=
  m10_4 R out3 w
def m10_9 (R : VP) (K1 : (Value × Value) → World → Prop) (l0 out3 i4 t8 : Value) (w : World) : Prop :=
  condP t8
  (m10_7 R K1 l0 out3 i4 w)
  (m10_3 R out3 w)
def m10_6 (R : VP) (K1 : (Value × Value) → World → Prop) (l0 out3 i4 : Value) (w : World) : Prop :=
  builtinP Try.prog Builtin.len #[25] 3 #[false] #[l0] w fun t7 w =>
  valP Try.prog (binS BinOp.lss 3 (tm 5) (tm 7) i4 t7) w fun t8 w =>
  m10_9 R K1 l0 out3 i4 t8 w
def m10_5 (R : VP) (l0 out3 i4 : Value) (w : World) : Prop :=
  loopP (fun (K1 : (Value × Value) → World → Prop) (s : Value × Value) w => m10_6 R K1 l0 s.1 s.2 w) (out3, i4) w
def m10_2 (R : VP) (l0 out3 : Value) (w : World) : Prop :=
  m10_5 R l0 out3 (vi 0) w
def m10_1 (R : VP) (l0 : Value) (w : World) : Prop :=
  m10_2 R l0 (Value.slice none 0 0) w
def m10_0 (R : VP) (l0 : Value) (w : World) : Prop :=
  m10_1 R l0 w
abbrev W10 := cwp Try.prog (fun i => 0)
noncomputable def k10_0 := bodyOf Try.f10
noncomputable def k10_1 := c2 k10_0
noncomputable def k10_2 := c2 k10_1
noncomputable def k10_3 := c2 k10_2
noncomputable def k10_4 := c2 k10_3
noncomputable def k10_5 := c2 (c1 k10_2)
noncomputable def k10_6 := c1 (c1 k10_5)
noncomputable def k10_7 := c2 k10_6
noncomputable def k10_8 := c2 k10_7
noncomputable def k10_9 := c2 (c1 k10_6)
theorem s10_8 {K1 : (Value × Value) → World → Prop} (hN : ∀ e w, (K1 ((e 3), (e 4)) w) → Q .normal e w) (e : Env) (w : World) (h : m10_8 R K1 (e 0) (e 3) (e 4) w) : W10 k10_8 Q e w := by
  exact rgA 4 (fun e w => K1 ((e 3), (e 4)) w) h hN
theorem s10_7 {K1 : (Value × Value) → World → Prop} (hN : ∀ e w, (K1 ((e 3), (e 4)) w) → Q .normal e w) (e : Env) (w : World) (h : m10_7 R K1 (e 0) (e 3) (e 4) w) : W10 k10_7 Q e w := by
  refine seA ?_
  have hN : ∀ e w, (m10_8 R K1 (e 0) (e 3) (e 4) w) → (thenE (W10 k10_8 Q) Q) .normal e w := fun e w h => then_N (s10_8 hN e w h)
  refine block_ok 1 (by kernel_rfl) ?_
  exact rgA 5 (fun e w => m10_8 R K1 (e 0) (e 3) (e 4) w) h fun e w h => block_N (hN e w h)
abbrev hR10 (R : VP) (Q : EQ) : Prop := ∀ e w, (R (e 2) w) → Q .ret e w
theorem s10_4 (hR : hR10 R Q) (e : Env) (w : World) (h : m10_4 R (e 2) w) : W10 k10_4 Q e w := by
  exact reA (hR _ _ h)
theorem s10_3 (hR : hR10 R Q) (e : Env) (w : World) (h : m10_3 R (e 3) w) : W10 k10_3 Q e w := by
  refine seA ?_
  exact rgA 6 (fun e w => m10_4 R (e 2) w) h fun e w h => then_N (s10_4 hR e w h)
theorem s10_9 {K1 : (Value × Value) → World → Prop} (hN : ∀ e w, (m10_7 R K1 (e 0) (e 3) (e 4) w) → Q .normal e w) (hX0 : ∀ e w, (m10_3 R (e 3) w) → Q (.exit 0) e w) (e : Env) (w : World) (h : m10_9 R K1 (e 0) (e 3) (e 4) (e 8) w) : W10 k10_9 Q e w := by
  refine coA (Operand.tmp 8) h (fun h1 => ?_) (fun h1 => ?_)
  · exact skA (hN _ _ h1)
  · exact exA 0 (hX0 _ _ h1)
theorem s10_6 {K1 : (Value × Value) → World → Prop} (hN : ∀ e w, (K1 ((e 3), (e 4)) w) → Q .normal e w) (hX0 : ∀ e w, (m10_3 R (e 3) w) → Q (.exit 0) e w) (e : Env) (w : World) (h : m10_6 R K1 (e 0) (e 3) (e 4) w) : W10 k10_6 Q e w := by
  refine seA ?_
  have hN : ∀ e w, (m10_7 R K1 (e 0) (e 3) (e 4) w) → (thenE (W10 k10_7 Q) Q) .normal e w := fun e w h => then_N (s10_7 hN e w h)
  have hX0 : ∀ e w, (m10_3 R (e 3) w) → (thenE (W10 k10_7 Q) Q) (.exit 0) e w := fun e w h => then_X (hX0 e w h)
  refine seA ?_
  exact rgA 3 (fun e w => m10_9 R K1 (e 0) (e 3) (e 4) (e 8) w) h fun e w h => then_N (s10_9 hN hX0 e w h)
theorem s10_5 (hN : ∀ e w, (m10_3 R (e 3) w) → Q .normal e w) (e : Env) (w : World) (h : m10_5 R (e 0) (e 3) (e 4) w) : W10 k10_5 Q e w := by
  refine block_ok 0 (by kernel_rfl) ?_
  have hX0 : ∀ e w, (m10_3 R (e 3) w) → (inBlockE 0 Q) (.exit 0) e w := fun e w h => inBlock_same (Q := Q) 0 (hN e w h)
  refine loop_ok' (fun (e : Env) => (e 3, e 4)) [0] (by kernel_rfl) (by kernel_rfl) h (fun K e' w' hk h' => ?_)
  have r0 : e' 0 = e 0 := hk 0 (by decide)
  have hX0 : ∀ e w, (m10_3 R (e 3) w) → (thenE (fun (e : Env) w => K ((e 3), (e 4)) w) (inBlockE 0 Q)) (.exit 0) e w := fun e w h => then_X (hX0 e w h)
  exact s10_6 (K1 := K) (fun _ _ h => then_N h) hX0 e' w' (by rw [r0]; exact h')
theorem s10_2 (hR : hR10 R Q) (e : Env) (w : World) (h : m10_2 R (e 0) (e 3) w) : W10 k10_2 Q e w := by
  refine seA ?_
  have hN : ∀ e w, (m10_3 R (e 3) w) → (thenE (W10 k10_3 Q) Q) .normal e w := fun e w h => then_N (s10_3 hR e w h)
  refine seA ?_
  exact rgA 2 (fun e w => m10_5 R (e 0) (e 3) (e 4) w) h fun e w h => then_N (s10_5 hN e w h)
theorem s10_1 (hR : hR10 R Q) (e : Env) (w : World) (h : m10_1 R (e 0) w) : W10 k10_1 Q e w := by
  refine seA ?_
  exact rgA 1 (fun e w => m10_2 R (e 0) (e 3) w) h fun e w h => then_N (s10_2 hR e w h)
theorem s10_0 (hR : hR10 R Q) (e : Env) (w : World) (h : m10_0 R (e 0) w) : W10 k10_0 Q e w := by
  refine seA ?_
  exact rgA 0 (fun e w => m10_1 R (e 0) w) h fun e w h => then_N (s10_1 hR e w h)
abbrev m10 (R : VP) (l0 : Value) (w : World) : Prop := m10_0 R l0 w
theorem s10 (l0 : Value) {R : VP} {w : World} (h : m10 R l0 w) :
    Calls Try.prog 10 #[l0] w fun e w' => ∃ v, e = .returned v ∧ R v w' :=
  calls_of_cwp (st := (fun i => 0)) (c := k10_0) (by kernel_rfl) Try.func10 (by kernel_rfl) (Nat.le_of_ble_eq_true (by kernel_rfl)) (by kernel_rfl)
    (s10_0 (R := R) (Q := endE Try.prog Try.f10 R) (fun e w h => kcast (by kernel_rfl) h) (argsE #[l0]) w (kcast (by kernel_rfl) h))
end Go.Proofs.Ytnhgdngbdoifnaa.M
namespace Go.Proofs.Ytnhgdngbdoifnaa.M
open Go.Proofs.Ytnhgdngbdoifnaa.F Go.RowKit
set_option linter.unusedVariables false
set_option linter.unusedSimpArgs false
set_option maxRecDepth 100000
set_option maxHeartbeats 2000000
attribute [local irreducible] Res.cells Res.row Res.map Res.any World.cell? World.frozen? Instr.fieldAt Instr.loadAt Instr.storeAt Instr.indexAt Instr.lookup Instr.mapUpdate Instr.box Instr.build Instr.buildSlice Instr.extract Instr.alloc Instr.field Instr.index Instr.sliceAt Instr.makeSlice Instr.makeMap Instr.makeFunc binS Op.unary Sem.run
inductive Aps : Sg → List Rc → Sg → Prop
  | nil (s : Sg) : Aps s [] s
  | head {s t u : Sg} {rs : List Rc} : I64 t.mark ∧ I64 t.late ∧ I64 t.bad ∧ I64 t.n → Aps ⟨t.mark, t.late, t.bad, t.n, s.L⟩ rs u → Aps s (headR t :: rs) u
  | there {s u : Sg} {x : Ce} {rs : List Rc} : AgOk x.a → MayA x.a → Aps { s with L := putC s.L x } rs u → Aps s (thereR x :: rs) u
  | gone {s u : Sg} {x : Ce} {rs : List Rc} : atC s.L x → Aps { s with L := delC s.L x } rs u → Aps s (goneR x :: rs) u
theorem putC_len (l : List Ce) (x : Ce) : (putC l x).length ≤ l.length + 1 := by
  by_cases h : atC l x
  · rw [putC_at h, List.length_set]; omega
  · rw [putC_not h, List.length_append, List.length_cons, List.length_take, List.length_drop]; omega
theorem delC_len {l : List Ce} {x : Ce} (h : atC l x) : (delC l x).length ≤ l.length + 1 := by
  rw [delC_at h.1, List.length_append, List.length_take, List.length_drop]; omega
section
variable {w0 w : World} {F : List Nat} {L : List Res}
theorem ap_any {s u : Sg} {r : Rc} {rs : List Rc} (h : Aps s (r :: rs) u) : ∃ s' : Sg, Aps s' rs u ∧ s'.L.length ≤ s.L.length + 1 ∧ ∀ {A : Option Addr} {c : Nat}, Sl w0 F L A c s.L → s.L.length ≤ 100000 → St w0 F w L → Ret Try.prog 21 #[sgv s A c, rv r] w (ApplyR s' w0 F L) := by
  cases h with
  | head h1 h2 => exact ⟨_, h2, by simp, fun hE hl hS => ap_head h1 hE hl hS⟩
  | there h1 h2 h3 => exact ⟨_, h3, putC_len _ _, fun hE hl hS => ap_there h1 h2 hE hl hS⟩
  | gone h1 h2 => exact ⟨_, h2, delC_len h1, fun hE hl hS => ap_gone h1 hE hl hS⟩
theorem restore_ret {g : Gr} {rs : List Rc} {u : Sg} {A : Option Addr} {c : Nat} (ha : Aps ⟨-1, 0, 0, 0, []⟩ rs u) (hm : MayS g u) (hl : rs.length ≤ 90000) (hE : Bes w0 F L 3 A rs.length (rs.flatMap encR)) (hS : St w0 F w L) : Ret Try.prog 9 #[grv g, .slice A rs.length c] w (ApplyR u w0 F L) := by
  refine s9 _ _ ?_
  unfold m9
  unfold m9_0
  refine new_ok (bx23 _ _ _ _) hS ?_
  intro b2 w hS
  refine new_ok (al28 _) hS ?_
  intro b4 w hS
  unfold m9_1
  refine callR (by kernel_rfl) (zero_ret hS) ?_
  rintro _ w ⟨rfl, hS⟩
  refine new_ok (al28 _) hS ?_
  intro b6 w hS
  first | refine ss28 0 hS rfl rfl rfl rfl rfl rfl ?_ | refine ss28 1 hS rfl rfl rfl rfl rfl rfl ?_ | refine ss28 2 hS rfl rfl rfl rfl rfl rfl ?_ | refine ss28 3 hS rfl rfl rfl rfl rfl rfl ?_ | refine ss28 4 hS rfl rfl rfl rfl rfl rfl ?_ | refine ss28 5 hS rfl rfl rfl rfl rfl rfl ?_ | refine ss28 6 hS rfl rfl rfl rfl rfl rfl ?_ | refine ss28 7 hS rfl rfl rfl rfl rfl rfl ?_
  intro w hS
  simp only [List.set_cons_zero, List.set_cons_succ] at hS
  unfold m9_2
  refine builtin_ok (len24 _) ?_
  unfold m9_8
  have hS := hS.row_nil 67 12
  have hS := hS.pick 4 [0, 1, 2, 3] (by simp) (by decide)
  refine loop_in (fun v w' => ∃ (i : Nat) (s : Sg) (A' : Option Addr) (c' : Nat), v = .int .i64 (i : Int) ∧ i ≤ rs.length ∧ s.L.length ≤ i ∧ Aps s (rs.drop i) u ∧ St w0 F w' (cRow A' c' s.L :: Res.cells b6 28 (encS s A' c') :: Res.cells b4 28 (encS ⟨0, 0, 0, 0, []⟩ none 0) :: Res.cells b2 23 (encGr g) :: L)) (fun v _ => rs.length - (intOf v).toNat) ⟨0, _, none, 0, rfl, by omega, by simp, ha, hS⟩ ?_
  clear hS
  rintro v w ⟨i, s, A', c', rfl, hi, hsl, ha, hS⟩
  unfold m9_9
  refine valP_ok (lss_ok _ _ _ _ _ _ _) ?_
  unfold m9_10
  refine cond_split (fun h => ?_) (fun h => ?_)
  · have hil : i < rs.length := by omega
    have hR := (((((hE.cons _).cons _).cons _).cons _).rd hS)
    obtain ⟨gb, o, rfl⟩ := hR.some_ (by omega) (by omega)
    have p := r_at hR hil
    rw [List.drop_eq_getElem_cons hil] at ha
    unfold m9_11
    refine valP_ok (ix24 hil _) ?_
    refine valP_ok (ld46 p.1 p.2.1 p.2.2) ?_
    refine new_ok (al46 _) hS ?_
    intro b8 w hS
    first | refine ss46 0 hS rfl rfl rfl rfl ?_ | refine ss46 1 hS rfl rfl rfl rfl ?_ | refine ss46 2 hS rfl rfl rfl rfl ?_ | refine ss46 3 hS rfl rfl rfl rfl ?_ | refine ss46 4 hS rfl rfl rfl rfl ?_ | refine ss46 5 hS rfl rfl rfl rfl ?_ | refine ss46 6 hS rfl rfl rfl rfl ?_ | refine ss46 7 hS rfl rfl rfl rfl ?_
    intro w hS
    simp only [List.set_cons_zero, List.set_cons_succ] at hS
    unfold m9_13
    first | refine ls28 0 hS rfl ?_ | refine ls28 1 hS rfl ?_ | refine ls28 2 hS rfl ?_ | refine ls28 3 hS rfl ?_ | refine ls28 4 hS rfl ?_ | refine ls28 5 hS rfl ?_ | refine ls28 6 hS rfl ?_ | refine ls28 7 hS rfl ?_ | refine valP_ok (ld28 (by assumption) (by assumption) (by assumption) (by assumption) (by assumption)) ?_
    first | refine ls46 0 hS rfl ?_ | refine ls46 1 hS rfl ?_ | refine ls46 2 hS rfl ?_ | refine ls46 3 hS rfl ?_ | refine ls46 4 hS rfl ?_ | refine ls46 5 hS rfl ?_ | refine ls46 6 hS rfl ?_ | refine ls46 7 hS rfl ?_ | refine valP_ok (ld46 (by assumption) (by assumption) (by assumption)) ?_
    obtain ⟨s', ha', hsl', hret⟩ := ap_any (w0 := w0) (F := F) (w := w) (L := Res.cells b8 46 (encR rs[i]) :: cRow A' c' s.L :: Res.cells b6 28 (encS s A' c') :: Res.cells b4 28 (encS ⟨0, 0, 0, 0, []⟩ none 0) :: Res.cells b2 23 (encGr g) :: L) ha
    refine callR (by kernel_rfl) (hret (Sl.row 1 hS rfl) (by omega) hS) ?_
    rintro _ w ⟨A9, c9, rfl, hS⟩
    refine valP_ok (extract_ok _ 0 rfl _) ?_
    refine valP_ok (extract_ok _ 1 rfl _) ?_
    refine new_ok (al28 _) hS ?_
    intro b9 w hS
    first | refine ss28 0 hS rfl rfl rfl rfl rfl rfl ?_ | refine ss28 1 hS rfl rfl rfl rfl rfl rfl ?_ | refine ss28 2 hS rfl rfl rfl rfl rfl rfl ?_ | refine ss28 3 hS rfl rfl rfl rfl rfl rfl ?_ | refine ss28 4 hS rfl rfl rfl rfl rfl rfl ?_ | refine ss28 5 hS rfl rfl rfl rfl rfl rfl ?_ | refine ss28 6 hS rfl rfl rfl rfl rfl rfl ?_ | refine ss28 7 hS rfl rfl rfl rfl rfl rfl ?_
    intro w hS
    simp only [List.set_cons_zero, List.set_cons_succ] at hS
    unfold m9_14
    refine valP_ok (ne35 _ _ _ _ _) ?_
    unfold m9_16
    refine cond_df (by omega) ?_
    unfold m9_15
    first | refine ls28 0 hS rfl ?_ | refine ls28 1 hS rfl ?_ | refine ls28 2 hS rfl ?_ | refine ls28 3 hS rfl ?_ | refine ls28 4 hS rfl ?_ | refine ls28 5 hS rfl ?_ | refine ls28 6 hS rfl ?_ | refine ls28 7 hS rfl ?_ | refine valP_ok (ld28 (by assumption) (by assumption) (by assumption) (by assumption) (by assumption)) ?_
    first | refine ss28 0 hS rfl rfl rfl rfl rfl rfl ?_ | refine ss28 1 hS rfl rfl rfl rfl rfl rfl ?_ | refine ss28 2 hS rfl rfl rfl rfl rfl rfl ?_ | refine ss28 3 hS rfl rfl rfl rfl rfl rfl ?_ | refine ss28 4 hS rfl rfl rfl rfl rfl rfl ?_ | refine ss28 5 hS rfl rfl rfl rfl rfl rfl ?_ | refine ss28 6 hS rfl rfl rfl rfl rfl rfl ?_ | refine ss28 7 hS rfl rfl rfl rfl rfl rfl ?_
    intro w hS
    simp only [List.set_cons_zero, List.set_cons_succ] at hS
    unfold m9_12
    refine valP_ok (add_ok _ _ _ (by omega) (by omega) _) ?_
    exact ⟨⟨i + 1, s', A9, c9, rfl, by omega, by omega, ha', hS.pick 7 [1, 4, 5, 6] (by simp) (by decide)⟩, by simp [intOf]; omega⟩
  · obtain rfl : i = rs.length := by omega
    rw [List.drop_length] at ha
    cases ha
    unfold m9_3
    first | refine ls23 0 hS rfl ?_ | refine ls23 1 hS rfl ?_ | refine ls23 2 hS rfl ?_ | refine ls23 3 hS rfl ?_ | refine ls23 4 hS rfl ?_ | refine ls23 5 hS rfl ?_ | refine ls23 6 hS rfl ?_ | refine ls23 7 hS rfl ?_ | refine valP_ok (ld23 (by assumption) (by assumption) (by assumption)) ?_
    first | refine ls28 0 hS rfl ?_ | refine ls28 1 hS rfl ?_ | refine ls28 2 hS rfl ?_ | refine ls28 3 hS rfl ?_ | refine ls28 4 hS rfl ?_ | refine ls28 5 hS rfl ?_ | refine ls28 6 hS rfl ?_ | refine ls28 7 hS rfl ?_ | refine valP_ok (ld28 (by assumption) (by assumption) (by assumption) (by assumption) (by assumption)) ?_
    refine callR (by kernel_rfl) (echeck_ret hm (Sl.row 0 hS rfl) hS) ?_
    rintro _ w ⟨rfl, hS⟩
    refine valP_ok (ne35 _ _ _ _ _) ?_
    unfold m9_6
    refine cond_df (by omega) ?_
    unfold m9_4
    first | refine ls28 0 hS rfl ?_ | refine ls28 1 hS rfl ?_ | refine ls28 2 hS rfl ?_ | refine ls28 3 hS rfl ?_ | refine ls28 4 hS rfl ?_ | refine ls28 5 hS rfl ?_ | refine ls28 6 hS rfl ?_ | refine ls28 7 hS rfl ?_ | refine valP_ok (ld28 (by assumption) (by assumption) (by assumption) (by assumption) (by assumption)) ?_
    first | refine ss28 0 hS rfl rfl rfl rfl rfl rfl ?_ | refine ss28 1 hS rfl rfl rfl rfl rfl rfl ?_ | refine ss28 2 hS rfl rfl rfl rfl rfl rfl ?_ | refine ss28 3 hS rfl rfl rfl rfl rfl rfl ?_ | refine ss28 4 hS rfl rfl rfl rfl rfl rfl ?_ | refine ss28 5 hS rfl rfl rfl rfl rfl rfl ?_ | refine ss28 6 hS rfl rfl rfl rfl rfl rfl ?_ | refine ss28 7 hS rfl rfl rfl rfl rfl rfl ?_
    intro w hS
    simp only [List.set_cons_zero, List.set_cons_succ] at hS
    unfold m9_5
    refine valS_ok (lc28 (hS.cell 2 rfl rfl) (hS.cell 2 rfl rfl) (hS.cell 2 rfl rfl) (hS.cell 2 rfl rfl) (hS.cell 2 rfl rfl)) ?_
    exact ⟨A', c', rfl, hS.pick 4 [0] (by simp) (by decide)⟩
theorem bare_ret {l : List Gt} {A : Option Addr} {c : Nat} (hm : l.length ≤ 90000) (hE : BG w0 F L A l) (hS : St w0 F w L) : Ret Try.prog 10 #[.slice A l.length c] w fun v w' => ∃ A' c', v = .slice A' (l.map (·.r)).length c' ∧ St w0 F w' (rRow A' c' (l.map (·.r)) :: L) := by
  refine s10 _ ?_
  unfold m10 m10_0 m10_1 m10_2 m10_5
  refine loop_in (fun u w' => ∃ (i : Nat) (A' : Option Addr) (c' : Nat), u = (.slice A' ((l.take i).map (·.r)).length c', .int .i64 (i : Int)) ∧ i ≤ l.length ∧ St w0 F w' (rRow A' c' ((l.take i).map (·.r)) :: L)) (fun u _ => l.length - (intOf u.2).toNat) ⟨0, none, 0, rfl, by omega, hS.row_nil 46 3⟩ ?_
  clear hS
  rintro u w ⟨i, A', c', rfl, hi, hS⟩
  simp only
  have hlen : ((l.take i).map (·.r)).length = i := by rw [List.length_map, List.length_take]; omega
  unfold m10_6
  refine builtin_ok (len25 _) ?_
  refine valP_ok (lss_ok _ _ _ _ _ _ _) ?_
  unfold m10_9
  refine cond_split (fun h => ?_) (fun h => ?_)
  · have hil : i < l.length := by omega
    obtain ⟨gb, o, rfl⟩ := (hE.rd1 hS).some_ (by omega) (by omega)
    have p := g_at (hE.rd1 hS) hil
    unfold m10_7
    refine valP_ok (ix25 hil _) ?_
    first | refine valP_ok (fa48_1 _ _) ?_ | refine valP_ok (fao48_1 _ _ _) ?_
    refine valP_ok (ld46 p.2.1 p.2.2.1 p.2.2.2) ?_
    refine newslice_ok (bs24_1 _) hS ?_
    intro b17 w hS
    refine append_one1 (enc := encR) 0 l[i].r sl24 encR_len encR_one (by unfold maxLen; omega) (by omega) hS rfl ?_
    intro A9 c9 w hS
    simp only [List.set_cons_zero] at hS
    have hnx : (l.take i).map (·.r) ++ [l[i].r] = (l.take (i + 1)).map (·.r) := by
      rw [List.take_succ_eq_append_getElem hil, List.map_append]
      rfl
    rw [hnx] at hS ⊢
    unfold m10_8
    refine valP_ok (add_ok _ _ _ (by omega) (by omega) _) ?_
    exact ⟨⟨i + 1, A9, c9, rfl, by omega, hS⟩, by simp [intOf]; omega⟩
  · obtain rfl : i = l.length := by omega
    rw [List.take_length] at hS ⊢
    unfold m10_3 m10_4
    exact ⟨_, _, rfl, hS⟩
theorem samecells_ret {l : List Ce} {A1 A2 : Option Addr} {c1 c2 : Nat} (hl : l.length ≤ 100000) (hok : ∀ x ∈ l, CeOk x) (hE1 : Sl w0 F L A1 c1 l) (hE2 : Sl w0 F L A2 c2 l) (hS : St w0 F w L) : Ret Try.prog 23 #[.slice A1 l.length c1, .slice A2 l.length c2] w fun v w' => v = .bool true ∧ St w0 F w' L := by
  refine s23 _ _ ?_
  unfold m23
  unfold m23_0
  unfold m23_1
  refine builtin_ok (len26 _) ?_
  refine builtin_ok (len26 _) ?_
  refine valP_ok (ne3 _ _ _ _ _) ?_
  unfold m23_12
  refine cond_df (by omega) ?_
  unfold m23_2 m23_5
  refine loop_in (fun u w' => ∃ i : Nat, u = .int .i64 (i : Int) ∧ i ≤ l.length ∧ St w0 F w' L) (fun u _ => l.length - (intOf u).toNat) ⟨0, rfl, by omega, hS⟩ ?_
  clear hS
  rintro u w ⟨i, rfl, hi, hS⟩
  unfold m23_6
  refine builtin_ok (len26 _) ?_
  refine valP_ok (lss_ok _ _ _ _ _ _ _) ?_
  unfold m23_11
  refine cond_split (fun h => ?_) (fun h => ?_)
  · have hil : i < l.length := by omega
    obtain ⟨g1, o1, rfl⟩ := (hE1.rd.rd hS).some_ (by omega) (by omega)
    obtain ⟨g2, o2, rfl⟩ := (hE2.rd.rd hS).some_ (by omega) (by omega)
    unfold m23_7
    refine valQ_ok (ix26 hil) ?_
    refine valQ_at (fun n => ldC (hE1.rd.rd (hS.drewN n)) hil) ?_
    refine valQ_ok (ix26 hil) ?_
    refine valQ_at (fun n => ldC (hE2.rd.rd (hS.drewN n)) hil) ?_
    obtain ⟨t, ht, hrun⟩ := ne67 (.tmp 20) (.tmp 24) (hok _ (List.getElem_mem hil)) (hok _ (List.getElem_mem hil))
    refine valQ_ok hrun ?_
    refine drawn_ok hS ?_
    intro w hS
    unfold m23_9
    cases t with
    | true => exact absurd rfl (ht.1 rfl)
    | false =>
      refine cond_f rfl ?_
      unfold m23_8
      refine valP_ok (add_ok _ _ _ (by omega) (by omega) _) ?_
      exact ⟨⟨i + 1, rfl, by omega, hS⟩, by simp [intOf]; omega⟩
  · unfold m23_3 m23_4
    exact ⟨rfl, hS⟩
theorem same_ret {s : Sg} {A1 A2 : Option Addr} {c1 c2 : Nat} (hl : s.L.length ≤ 100000) (hok : ∀ x ∈ s.L, CeOk x) (hE1 : Sl w0 F L A1 c1 s.L) (hE2 : Sl w0 F L A2 c2 s.L) (hS : St w0 F w L) : Ret Try.prog 11 #[sgv s A1 c1, sgv s A2 c2] w fun v w' => v = .bool true ∧ St w0 F w' L := by
  refine s11 _ _ ?_
  unfold m11
  unfold m11_0
  refine new_ok (bx28 _ _ _ _ _ _) hS ?_
  intro b2 w hS
  refine new_ok (bx28 _ _ _ _ _ _) hS ?_
  intro b3 w hS
  unfold m11_1
  first | refine valP_ok (fa28_0 _ _) ?_ | refine valP_ok (fao28_0 _ _ _) ?_
  first | refine valP_ok (ld3 (hS.cell 0 rfl rfl)) ?_ | refine valP_ok (ld3 (hS.cell 1 rfl rfl)) ?_ | refine valP_ok (ld3 (hS.cell 2 rfl rfl)) ?_ | refine valP_ok (ld3 (hS.cell 3 rfl rfl)) ?_ | refine valP_ok (ld3 (hS.cell 4 rfl rfl)) ?_ | refine valP_ok (ld3 (hS.cell 5 rfl rfl)) ?_ | refine valP_ok (ld3 (hS.cell 6 rfl rfl)) ?_ | refine valP_ok (ld3 (hS.cell 7 rfl rfl)) ?_ | refine valP_ok (ld3 (by assumption)) ?_
  first | refine valP_ok (fa28_0 _ _) ?_ | refine valP_ok (fao28_0 _ _ _) ?_
  first | refine valP_ok (ld3 (hS.cell 0 rfl rfl)) ?_ | refine valP_ok (ld3 (hS.cell 1 rfl rfl)) ?_ | refine valP_ok (ld3 (hS.cell 2 rfl rfl)) ?_ | refine valP_ok (ld3 (hS.cell 3 rfl rfl)) ?_ | refine valP_ok (ld3 (hS.cell 4 rfl rfl)) ?_ | refine valP_ok (ld3 (hS.cell 5 rfl rfl)) ?_ | refine valP_ok (ld3 (hS.cell 6 rfl rfl)) ?_ | refine valP_ok (ld3 (hS.cell 7 rfl rfl)) ?_ | refine valP_ok (ld3 (by assumption)) ?_
  refine valP_ok (eq3 _ _ _ _ _) ?_
  refine cond_dt (by omega) ?_
  first | refine valP_ok (fa28_1 _ _) ?_ | refine valP_ok (fao28_1 _ _ _) ?_
  first | refine valP_ok (ld3 (hS.cell 0 rfl rfl)) ?_ | refine valP_ok (ld3 (hS.cell 1 rfl rfl)) ?_ | refine valP_ok (ld3 (hS.cell 2 rfl rfl)) ?_ | refine valP_ok (ld3 (hS.cell 3 rfl rfl)) ?_ | refine valP_ok (ld3 (hS.cell 4 rfl rfl)) ?_ | refine valP_ok (ld3 (hS.cell 5 rfl rfl)) ?_ | refine valP_ok (ld3 (hS.cell 6 rfl rfl)) ?_ | refine valP_ok (ld3 (hS.cell 7 rfl rfl)) ?_ | refine valP_ok (ld3 (by assumption)) ?_
  first | refine valP_ok (fa28_1 _ _) ?_ | refine valP_ok (fao28_1 _ _ _) ?_
  first | refine valP_ok (ld3 (hS.cell 0 rfl rfl)) ?_ | refine valP_ok (ld3 (hS.cell 1 rfl rfl)) ?_ | refine valP_ok (ld3 (hS.cell 2 rfl rfl)) ?_ | refine valP_ok (ld3 (hS.cell 3 rfl rfl)) ?_ | refine valP_ok (ld3 (hS.cell 4 rfl rfl)) ?_ | refine valP_ok (ld3 (hS.cell 5 rfl rfl)) ?_ | refine valP_ok (ld3 (hS.cell 6 rfl rfl)) ?_ | refine valP_ok (ld3 (hS.cell 7 rfl rfl)) ?_ | refine valP_ok (ld3 (by assumption)) ?_
  refine valP_ok (eq3 _ _ _ _ _) ?_
  first | refine pick_dt (by first | assumption | omega) ?_ | refine pick_df (by first | assumption | omega) ?_ | refine pick_t (by first | rfl | assumption) ?_ | refine pick_f (by first | rfl | assumption) ?_ | refine pick_dt rfl ?_ | refine pick_df (not_not_intro rfl) ?_
  refine cond_dt (by omega) ?_
  first | refine valP_ok (fa28_2 _ _) ?_ | refine valP_ok (fao28_2 _ _ _) ?_
  first | refine valP_ok (ld3 (hS.cell 0 rfl rfl)) ?_ | refine valP_ok (ld3 (hS.cell 1 rfl rfl)) ?_ | refine valP_ok (ld3 (hS.cell 2 rfl rfl)) ?_ | refine valP_ok (ld3 (hS.cell 3 rfl rfl)) ?_ | refine valP_ok (ld3 (hS.cell 4 rfl rfl)) ?_ | refine valP_ok (ld3 (hS.cell 5 rfl rfl)) ?_ | refine valP_ok (ld3 (hS.cell 6 rfl rfl)) ?_ | refine valP_ok (ld3 (hS.cell 7 rfl rfl)) ?_ | refine valP_ok (ld3 (by assumption)) ?_
  first | refine valP_ok (fa28_2 _ _) ?_ | refine valP_ok (fao28_2 _ _ _) ?_
  first | refine valP_ok (ld3 (hS.cell 0 rfl rfl)) ?_ | refine valP_ok (ld3 (hS.cell 1 rfl rfl)) ?_ | refine valP_ok (ld3 (hS.cell 2 rfl rfl)) ?_ | refine valP_ok (ld3 (hS.cell 3 rfl rfl)) ?_ | refine valP_ok (ld3 (hS.cell 4 rfl rfl)) ?_ | refine valP_ok (ld3 (hS.cell 5 rfl rfl)) ?_ | refine valP_ok (ld3 (hS.cell 6 rfl rfl)) ?_ | refine valP_ok (ld3 (hS.cell 7 rfl rfl)) ?_ | refine valP_ok (ld3 (by assumption)) ?_
  refine valP_ok (eq3 _ _ _ _ _) ?_
  first | refine pick_dt (by first | assumption | omega) ?_ | refine pick_df (by first | assumption | omega) ?_ | refine pick_t (by first | rfl | assumption) ?_ | refine pick_f (by first | rfl | assumption) ?_ | refine pick_dt rfl ?_ | refine pick_df (not_not_intro rfl) ?_
  refine cond_dt (by omega) ?_
  first | refine valP_ok (fa28_3 _ _) ?_ | refine valP_ok (fao28_3 _ _ _) ?_
  first | refine valP_ok (ld3 (hS.cell 0 rfl rfl)) ?_ | refine valP_ok (ld3 (hS.cell 1 rfl rfl)) ?_ | refine valP_ok (ld3 (hS.cell 2 rfl rfl)) ?_ | refine valP_ok (ld3 (hS.cell 3 rfl rfl)) ?_ | refine valP_ok (ld3 (hS.cell 4 rfl rfl)) ?_ | refine valP_ok (ld3 (hS.cell 5 rfl rfl)) ?_ | refine valP_ok (ld3 (hS.cell 6 rfl rfl)) ?_ | refine valP_ok (ld3 (hS.cell 7 rfl rfl)) ?_ | refine valP_ok (ld3 (by assumption)) ?_
  first | refine valP_ok (fa28_3 _ _) ?_ | refine valP_ok (fao28_3 _ _ _) ?_
  first | refine valP_ok (ld3 (hS.cell 0 rfl rfl)) ?_ | refine valP_ok (ld3 (hS.cell 1 rfl rfl)) ?_ | refine valP_ok (ld3 (hS.cell 2 rfl rfl)) ?_ | refine valP_ok (ld3 (hS.cell 3 rfl rfl)) ?_ | refine valP_ok (ld3 (hS.cell 4 rfl rfl)) ?_ | refine valP_ok (ld3 (hS.cell 5 rfl rfl)) ?_ | refine valP_ok (ld3 (hS.cell 6 rfl rfl)) ?_ | refine valP_ok (ld3 (hS.cell 7 rfl rfl)) ?_ | refine valP_ok (ld3 (by assumption)) ?_
  refine valP_ok (eq3 _ _ _ _ _) ?_
  first | refine pick_dt (by first | assumption | omega) ?_ | refine pick_df (by first | assumption | omega) ?_ | refine pick_t (by first | rfl | assumption) ?_ | refine pick_f (by first | rfl | assumption) ?_ | refine pick_dt rfl ?_ | refine pick_df (not_not_intro rfl) ?_
  refine cond_dt (by omega) ?_
  first | refine valP_ok (fa28_4 _ _) ?_ | refine valP_ok (fao28_4 _ _ _) ?_
  first | refine valP_ok (ld26 (hS.cell 0 rfl rfl)) ?_ | refine valP_ok (ld26 (hS.cell 1 rfl rfl)) ?_ | refine valP_ok (ld26 (hS.cell 2 rfl rfl)) ?_ | refine valP_ok (ld26 (hS.cell 3 rfl rfl)) ?_ | refine valP_ok (ld26 (hS.cell 4 rfl rfl)) ?_ | refine valP_ok (ld26 (hS.cell 5 rfl rfl)) ?_ | refine valP_ok (ld26 (hS.cell 6 rfl rfl)) ?_ | refine valP_ok (ld26 (hS.cell 7 rfl rfl)) ?_ | refine valP_ok (ld26 (by assumption)) ?_
  first | refine valP_ok (fa28_4 _ _) ?_ | refine valP_ok (fao28_4 _ _ _) ?_
  first | refine valP_ok (ld26 (hS.cell 0 rfl rfl)) ?_ | refine valP_ok (ld26 (hS.cell 1 rfl rfl)) ?_ | refine valP_ok (ld26 (hS.cell 2 rfl rfl)) ?_ | refine valP_ok (ld26 (hS.cell 3 rfl rfl)) ?_ | refine valP_ok (ld26 (hS.cell 4 rfl rfl)) ?_ | refine valP_ok (ld26 (hS.cell 5 rfl rfl)) ?_ | refine valP_ok (ld26 (hS.cell 6 rfl rfl)) ?_ | refine valP_ok (ld26 (hS.cell 7 rfl rfl)) ?_ | refine valP_ok (ld26 (by assumption)) ?_
  refine callR (by kernel_rfl) (samecells_ret hl hok ((hE1.cons _).cons _) ((hE2.cons _).cons _) hS) ?_
  rintro _ w ⟨rfl, hS⟩
  first | refine pick_dt (by first | assumption | omega) ?_ | refine pick_df (by first | assumption | omega) ?_ | refine pick_t (by first | rfl | assumption) ?_ | refine pick_f (by first | rfl | assumption) ?_ | refine pick_dt rfl ?_ | refine pick_df (not_not_intro rfl) ?_
  unfold m11_2
  exact ⟨rfl, hS.tail.tail⟩
end
inductive Ch
  | head (t : Sg)
  | there (x : Ce)
  | gone (x : Ce)
def rc : Ch → Rc
  | .head t => headR t
  | .there x => thereR x
  | .gone x => goneR x
def subj : Ch → Option (Int × Int)
  | .head _ => none
  | .there x => some (x.key, x.start)
  | .gone x => some (x.key, x.start)
def isGone : Ch → Prop
  | .gone _ => True
  | _ => False
def okC : Ch → Prop
  | .head t => I64 t.mark ∧ I64 t.late ∧ I64 t.bad ∧ I64 t.n
  | .there x => AgOk x.a ∧ MayA x.a
  | .gone _ => True
def stepC (s : Sg) : Ch → Sg
  | .head t => ⟨t.mark, t.late, t.bad, t.n, s.L⟩
  | .there x => { s with L := putC s.L x }
  | .gone x => { s with L := delC s.L x }
def mayC (s : Sg) : Ch → Prop
  | .gone x => atC s.L x
  | _ => True
def Apc : Sg → List Ch → Sg → Prop
  | s, [], u => s = u
  | s, c :: P, u => okC c ∧ mayC s c ∧ Apc (stepC s c) P u
theorem Apc.aps {P : List Ch} : ∀ {s u : Sg}, Apc s P u → Aps s (P.map rc) u := by
  induction P with
  | nil => intro s u h; obtain rfl : s = u := h; exact .nil _
  | cons c P ih =>
    intro s u h
    obtain ⟨h1, h2, h3⟩ := h
    cases c with
    | head t => exact .head h1 (ih h3)
    | there x => exact .there h1.1 h1.2 (ih h3)
    | gone x => exact .gone h2 (ih h3)
theorem Apc.app {P Q : List Ch} : ∀ {s m u : Sg}, Apc s P m → Apc m Q u → Apc s (P ++ Q) u := by
  induction P with
  | nil => intro s m u h1 h2; obtain rfl : s = m := h1; exact h2
  | cons c P ih => intro s m u h1 h2; exact ⟨h1.1, h1.2.1, ih h1.2.2 h2⟩
theorem Apc.split {P Q : List Ch} : ∀ {s u : Sg}, Apc s (P ++ Q) u → ∃ m, Apc s P m ∧ Apc m Q u := by
  induction P with
  | nil => intro s u h; exact ⟨s, rfl, h⟩
  | cons c P ih =>
    intro s u h
    obtain ⟨m, h1, h2⟩ := ih h.2.2
    exact ⟨m, ⟨h.1, h.2.1, h1⟩, h2⟩
abbrev Srt (l : List Ce) : Prop := l.Pairwise AheadC
def sameK (a b : Ce) : Prop := a.key = b.key ∧ a.start = b.start
theorem ahead_trans {a b c : Ce} (h1 : AheadC a b) (h2 : AheadC b c) : AheadC a c := by unfold AheadC at *; omega
theorem ahead_ne {a b : Ce} (h : AheadC a b) : ¬ sameK a b := by unfold AheadC at h; unfold sameK; omega
theorem ahead_asym {a b : Ce} (h : AheadC a b) : ¬ AheadC b a := by unfold AheadC at *; omega
theorem same_of {a b : Ce} (h1 : ¬ AheadC a b) (h2 : ¬ AheadC b a) : sameK a b := by unfold AheadC at *; unfold sameK; omega
theorem ahead_same {a b x : Ce} (h : sameK a b) (h1 : AheadC x a) : AheadC x b := ((ahead_key h.1 h.2).1).1 h1
theorem ahead_same2 {a b x : Ce} (h : sameK a b) (h1 : AheadC a x) : AheadC b x := ((ahead_key h.1 h.2).2).1 h1
theorem sameK_symm {a b : Ce} (h : sameK a b) : sameK b a := ⟨h.1.symm, h.2.symm⟩
theorem put_mem {l : List Ce} (hs : Srt l) (x y : Ce) : y ∈ putC l x ↔ y = x ∨ (y ∈ l ∧ ¬ sameK y x) := by
  induction l with
  | nil => simp [putC]
  | cons a l ih =>
    obtain ⟨h1, h2⟩ := List.pairwise_cons.1 hs
    by_cases h : AheadC a x
    · rw [putC_y h, List.mem_cons, ih h2, List.mem_cons]
      constructor
      · rintro (rfl | rfl | ⟨h3, h4⟩)
        · exact .inr ⟨.inl rfl, ahead_ne h⟩
        · exact .inl rfl
        · exact .inr ⟨.inr h3, h4⟩
      · rintro (rfl | ⟨rfl | h3, h4⟩)
        · exact .inr (.inl rfl)
        · exact .inl rfl
        · exact .inr (.inr ⟨h3, h4⟩)
    · rw [putC_n h]
      by_cases h3 : AheadC x a
      · rw [if_pos h3]
        have : ∀ z ∈ a :: l, ¬ sameK z x := fun z hz => by
          rcases List.mem_cons.1 hz with rfl | hz
          · exact fun hk => ahead_ne h3 (sameK_symm hk)
          · exact fun hk => ahead_ne (ahead_trans h3 (h1 z hz)) (sameK_symm hk)
        rw [List.mem_cons]
        exact ⟨fun hy => hy.imp id fun hy => ⟨hy, this y hy⟩, fun hy => hy.imp id fun hy => hy.1⟩
      · rw [if_neg h3]
        have hax := same_of h h3
        have : ∀ z ∈ l, ¬ sameK z x := fun z hz hk => ahead_ne (h1 z hz) ⟨hax.1.trans hk.1.symm, hax.2.trans hk.2.symm⟩
        rw [List.mem_cons, List.mem_cons]
        constructor
        · rintro (rfl | hy)
          · exact .inl rfl
          · exact .inr ⟨.inr hy, this y hy⟩
        · rintro (rfl | ⟨rfl | hy, hn⟩)
          · exact .inl rfl
          · exact absurd hax hn
          · exact .inr hy
theorem put_srt {l : List Ce} (hs : Srt l) (x : Ce) : Srt (putC l x) := by
  induction l with
  | nil => exact List.pairwise_singleton _ _
  | cons a l ih =>
    obtain ⟨h1, h2⟩ := List.pairwise_cons.1 hs
    by_cases h : AheadC a x
    · rw [putC_y h]
      refine List.pairwise_cons.2 ⟨fun z hz => ?_, ih h2⟩
      rcases (put_mem h2 x z).1 hz with rfl | ⟨hz, _⟩
      · exact h
      · exact h1 z hz
    · rw [putC_n h]
      by_cases h3 : AheadC x a
      · rw [if_pos h3]
        refine List.pairwise_cons.2 ⟨fun z hz => ?_, hs⟩
        rcases List.mem_cons.1 hz with rfl | hz
        · exact h3
        · exact ahead_trans h3 (h1 z hz)
      · rw [if_neg h3]
        exact List.pairwise_cons.2 ⟨fun z hz => ahead_same2 (same_of h h3) (h1 z hz), h2⟩
theorem at_iff {l : List Ce} (hs : Srt l) (x : Ce) : atC l x ↔ ∃ y ∈ l, sameK y x := by
  constructor
  · rintro ⟨h, hn⟩
    exact ⟨_, List.getElem_mem h, same_of (posC_at l x h) hn⟩
  · rintro ⟨y, hy, hk⟩
    obtain ⟨i, hi, rfl⟩ := List.mem_iff_getElem.1 hy
    have e : i = posC l x := posC_of (by omega) (fun j hj hji => ahead_same hk ((List.pairwise_iff_getElem.1 hs) j i hj hi hji)) (fun _ h => ahead_ne h hk)
    refine ⟨by omega, ?_⟩
    simp only [← e]
    exact fun h => ahead_ne h (sameK_symm hk)
theorem del_mem {l : List Ce} (hs : Srt l) {x : Ce} (ha : ∃ y ∈ l, sameK y x) (y : Ce) : y ∈ delC l x ↔ y ∈ l ∧ ¬ sameK y x := by
  induction l with
  | nil => obtain ⟨y, hy, _⟩ := ha; cases hy
  | cons a l ih =>
    obtain ⟨h1, h2⟩ := List.pairwise_cons.1 hs
    obtain ⟨z, hz, hk⟩ := ha
    by_cases h : AheadC a x
    · have hz' : z ∈ l := by
        rcases List.mem_cons.1 hz with rfl | hz
        · exact absurd hk (ahead_ne h)
        · exact hz
      rw [delC_y h, List.mem_cons, ih h2 ⟨z, hz', hk⟩, List.mem_cons]
      constructor
      · rintro (rfl | ⟨h3, h4⟩)
        · exact ⟨.inl rfl, ahead_ne h⟩
        · exact ⟨.inr h3, h4⟩
      · rintro ⟨rfl | h3, h4⟩
        · exact .inl rfl
        · exact .inr ⟨h3, h4⟩
    · have hax : sameK a x := by
        rcases List.mem_cons.1 hz with rfl | hz
        · exact hk
        · exact absurd (ahead_same hk (h1 z hz)) h
      rw [delC_n h, List.mem_cons]
      constructor
      · exact fun hy => ⟨.inr hy, fun hk2 => ahead_ne (h1 y hy) ⟨hax.1.trans hk2.1.symm, hax.2.trans hk2.2.symm⟩⟩
      · rintro ⟨rfl | hy, hn⟩
        · exact absurd hax hn
        · exact hy
theorem del_srt {l : List Ce} (hs : Srt l) (x : Ce) : Srt (delC l x) := by
  induction l with
  | nil => exact .nil
  | cons a l ih =>
    obtain ⟨h1, h2⟩ := List.pairwise_cons.1 hs
    by_cases h : AheadC a x
    · rw [delC_y h]
      refine List.pairwise_cons.2 ⟨fun z hz => h1 z ?_, ih h2⟩
      clear ih h1 h2 hs h
      induction l with
      | nil => exact hz
      | cons b l ih2 =>
        by_cases h : AheadC b x
        · rw [delC_y h] at hz
          rcases List.mem_cons.1 hz with rfl | hz
          · exact .head _
          · exact .tail _ (ih2 hz)
        · rw [delC_n h] at hz
          exact .tail _ hz
    · rw [delC_n h]; exact h2
theorem srt_eq : ∀ {l m : List Ce}, Srt l → Srt m → (∀ x, x ∈ l ↔ x ∈ m) → l = m
  | [], [], _, _, _ => rfl
  | [], b :: m, _, _, h => by have := (h b).2 (.head _); cases this
  | a :: l, [], _, _, h => by have := (h a).1 (.head _); cases this
  | a :: l, b :: m, hl, hm, h => by
    obtain ⟨l1, l2⟩ := List.pairwise_cons.1 hl
    obtain ⟨m1, m2⟩ := List.pairwise_cons.1 hm
    have e : a = b := by
      rcases List.mem_cons.1 ((h a).1 (.head _)) with e | h1
      · exact e
      · rcases List.mem_cons.1 ((h b).2 (.head _)) with e | h2
        · exact e.symm
        · exact absurd (m1 a h1) (ahead_asym (l1 b h2))
    subst e
    have : l = m := srt_eq l2 m2 fun x => by
      constructor
      · intro hx
        rcases List.mem_cons.1 ((h x).1 (.tail _ hx)) with e | h1
        · subst e; exact absurd (l1 x hx) (fun h => ahead_ne h ⟨rfl, rfl⟩)
        · exact h1
      · intro hx
        rcases List.mem_cons.1 ((h x).2 (.tail _ hx)) with e | h1
        · subst e; exact absurd (m1 x hx) (fun h => ahead_ne h ⟨rfl, rfl⟩)
        · exact h1
    rw [this]
section
open Classical
noncomputable def clC : List Ch → List Ch
  | [] => []
  | a :: t => if isGone a ∨ ∃ b ∈ t, subj b = subj a then clC t else a :: clC t
end
theorem clC_y {a : Ch} {t : List Ch} (h : isGone a ∨ ∃ b ∈ t, subj b = subj a) : clC (a :: t) = clC t := by rw [clC, if_pos h]
theorem clC_n {a : Ch} {t : List Ch} (h : ¬ (isGone a ∨ ∃ b ∈ t, subj b = subj a)) : clC (a :: t) = a :: clC t := by rw [clC, if_neg h]
theorem clC_mem {P : List Ch} : ∀ {a : Ch}, a ∈ clC P → a ∈ P ∧ ¬ isGone a := by
  induction P with
  | nil => intro a h; exact absurd h (by simp [clC])
  | cons c P ih =>
    intro a h
    by_cases hc : isGone c ∨ ∃ b ∈ P, subj b = subj c
    · rw [clC_y hc] at h
      exact ⟨.tail _ (ih h).1, (ih h).2⟩
    · rw [clC_n hc] at h
      rcases List.mem_cons.1 h with rfl | h
      · exact ⟨.head _, fun hg => hc (.inl hg)⟩
      · exact ⟨.tail _ (ih h).1, (ih h).2⟩
theorem clC_apart (P : List Ch) : (clC P).Pairwise fun a b => ¬ subj b = subj a := by
  induction P with
  | nil => simp [clC]
  | cons c P ih =>
    by_cases hc : isGone c ∨ ∃ b ∈ P, subj b = subj c
    · rw [clC_y hc]; exact ih
    · rw [clC_n hc]
      exact List.pairwise_cons.2 ⟨fun b hb hs => hc (.inr ⟨b, (clC_mem hb).1, hs⟩), ih⟩
theorem clC_self {P : List Ch} (h : ∀ a ∈ P, ¬ isGone a) (hp : P.Pairwise fun a b => ¬ subj b = subj a) : clC P = P := by
  induction P with
  | nil => simp [clC]
  | cons c P ih =>
    obtain ⟨h1, h2⟩ := List.pairwise_cons.1 hp
    rw [clC_n (fun hc => hc.elim (h c (.head _)) (fun ⟨b, hb, he⟩ => h1 b hb he)), ih (fun a ha => h a (.tail _ ha)) h2]
abbrev hdC (s : Sg) : Int × Int × Int × Int := (s.mark, s.late, s.bad, s.n)
theorem step_srt {s : Sg} (hs : Srt s.L) (c : Ch) : Srt (stepC s c).L := by
  cases c with
  | head t => exact hs
  | there x => exact put_srt hs x
  | gone x => exact del_srt hs x
theorem step_mem {s : Sg} {c : Ch} (hs : Srt s.L) (hm : mayC s c) (x : Ce) : x ∈ (stepC s c).L ↔ c = .there x ∨ (x ∈ s.L ∧ ¬ subj c = some (x.key, x.start)) := by
  have key : ∀ y : Ce, some (y.key, y.start) = some (x.key, x.start) ↔ sameK x y := fun y => by
    unfold sameK
    rw [Option.some.injEq, Prod.mk.injEq]
    exact ⟨fun h => ⟨h.1.symm, h.2.symm⟩, fun h => ⟨h.1.symm, h.2.symm⟩⟩
  cases c with
  | head t => simp [stepC, subj]
  | there y =>
    show x ∈ putC s.L y ↔ Ch.there y = Ch.there x ∨ (x ∈ s.L ∧ ¬ some (y.key, y.start) = some (x.key, x.start))
    rw [put_mem hs, key y, Ch.there.injEq]
    exact ⟨fun h => h.imp Eq.symm id, fun h => h.imp Eq.symm id⟩
  | gone y =>
    show x ∈ delC s.L y ↔ Ch.gone y = Ch.there x ∨ (x ∈ s.L ∧ ¬ some (y.key, y.start) = some (x.key, x.start))
    rw [del_mem hs ((at_iff hs y).1 hm), key y]
    exact ⟨fun h => .inr h, fun h => h.elim (fun h => by cases h) id⟩
theorem apc_mem {P : List Ch} : ∀ {s u : Sg}, Apc s P u → Srt s.L → Srt u.L ∧ ∀ x, x ∈ u.L ↔ .there x ∈ clC P ∨ (x ∈ s.L ∧ ∀ b ∈ P, ¬ subj b = some (x.key, x.start)) := by
  induction P with
  | nil =>
    intro s u h hs
    obtain rfl : s = u := h
    exact ⟨hs, fun x => by simp [clC]⟩
  | cons c P ih =>
    intro s u h hs
    obtain ⟨h1, h2, h3⟩ := h
    obtain ⟨i1, i2⟩ := ih h3 (step_srt hs c)
    refine ⟨i1, fun x => ?_⟩
    rw [i2 x, step_mem hs h2 x]
    by_cases hc : isGone c ∨ ∃ b ∈ P, subj b = subj c
    · rw [clC_y hc]
      constructor
      · rintro (h | ⟨rfl | ⟨h4, h5⟩, h6⟩)
        · exact .inl h
        · rcases hc with hg | ⟨b, hb, he⟩
          · exact hg.elim
          · exact absurd he (h6 b hb)
        · exact .inr ⟨h4, fun b hb => by
            rcases List.mem_cons.1 hb with rfl | hb
            · exact h5
            · exact h6 b hb⟩
      · rintro (h | ⟨h4, h5⟩)
        · exact .inl h
        · exact .inr ⟨.inr ⟨h4, h5 c (.head _)⟩, fun b hb => h5 b (.tail _ hb)⟩
    · rw [clC_n hc, List.mem_cons]
      constructor
      · rintro (h | ⟨rfl | ⟨h4, h5⟩, h6⟩)
        · exact .inl (.inr h)
        · exact .inl (.inl rfl)
        · exact .inr ⟨h4, fun b hb => by
            rcases List.mem_cons.1 hb with rfl | hb
            · exact h5
            · exact h6 b hb⟩
      · rintro ((rfl | h) | ⟨h4, h5⟩)
        · exact .inr ⟨.inl rfl, fun b hb he => hc (.inr ⟨b, hb, he⟩)⟩
        · exact .inl h
        · exact .inr ⟨.inr ⟨h4, h5 c (.head _)⟩, fun b hb => h5 b (.tail _ hb)⟩
theorem apc_hd {P : List Ch} : ∀ {s u : Sg}, Apc s P u → (∃ t, .head t ∈ clC P ∧ hdC u = hdC t) ∨ ((∀ b ∈ P, ¬ subj b = none) ∧ hdC u = hdC s) := by
  induction P with
  | nil =>
    intro s u h
    obtain rfl : s = u := h
    exact .inr ⟨fun b hb => (by cases hb), rfl⟩
  | cons c P ih =>
    intro s u h
    have i1 := ih h.2.2
    by_cases hc : isGone c ∨ ∃ b ∈ P, subj b = subj c
    · rw [clC_y hc]
      rcases i1 with i1 | ⟨i1, i2⟩
      · exact .inl i1
      · cases c with
        | head t =>
          rcases hc with hg | ⟨b, hb, he⟩
          · exact hg.elim
          · exact absurd he (i1 b hb)
        | there x => exact .inr ⟨fun b hb => by
            rcases List.mem_cons.1 hb with rfl | hb
            · simp [subj]
            · exact i1 b hb, i2⟩
        | gone x => exact .inr ⟨fun b hb => by
            rcases List.mem_cons.1 hb with rfl | hb
            · simp [subj]
            · exact i1 b hb, i2⟩
    · rw [clC_n hc]
      rcases i1 with ⟨t, i1, i2⟩ | ⟨i1, i2⟩
      · exact .inl ⟨t, .tail _ i1, i2⟩
      · cases c with
        | head t => exact .inl ⟨t, .head _, i2⟩
        | there x => exact .inr ⟨fun b hb => by
            rcases List.mem_cons.1 hb with rfl | hb
            · simp [subj]
            · exact i1 b hb, i2⟩
        | gone x => exact .inr ⟨fun b hb => by
            rcases List.mem_cons.1 hb with rfl | hb
            · simp [subj]
            · exact i1 b hb, i2⟩
theorem apc_ok {P : List Ch} : ∀ {s u : Sg}, Apc s P u → ∀ a ∈ P, okC a := by
  induction P with
  | nil => intro s u _ a h; cases h
  | cons c P ih =>
    intro s u h a ha
    rcases List.mem_cons.1 ha with rfl | ha
    · exact h.1
    · exact ih h.2.2 a ha
theorem apc_any {P : List Ch} (h1 : ∀ a ∈ P, okC a) (h2 : ∀ a ∈ P, ¬ isGone a) : ∀ s : Sg, ∃ u, Apc s P u := by
  induction P with
  | nil => exact fun s => ⟨s, rfl⟩
  | cons c P ih =>
    intro s
    obtain ⟨u, hu⟩ := ih (fun a ha => h1 a (.tail _ ha)) (fun a ha => h2 a (.tail _ ha)) (stepC s c)
    refine ⟨u, h1 c (.head _), ?_, hu⟩
    cases c with
    | gone x => exact absurd trivial (h2 _ (.head _))
    | _ => trivial
theorem pw_eq {P : List Ch} (hp : P.Pairwise fun a b => ¬ subj b = subj a) {a b : Ch} (ha : a ∈ P) (hb : b ∈ P) (h : subj a = subj b) : a = b := by
  induction P with
  | nil => cases ha
  | cons c P ih =>
    obtain ⟨h1, h2⟩ := List.pairwise_cons.1 hp
    rcases List.mem_cons.1 ha with ea | ha'
    · rcases List.mem_cons.1 hb with eb | hb'
      · rw [ea, eb]
      · exact absurd (by rw [← ea]; exact h.symm) (h1 b hb')
    · rcases List.mem_cons.1 hb with eb | hb'
      · exact absurd (by rw [← eb]; exact h) (h1 a ha')
      · exact ih h2 ha' hb'
theorem apc_clean {s u : Sg} {P : List Ch} (hs : s.L = []) (h : Apc s P u) : Apc s (clC P) u := by
  have h0 : Srt s.L := by rw [hs]; exact .nil
  have hok := apc_ok h
  obtain ⟨m, hm⟩ := apc_any (P := clC P) (fun a ha => hok a (clC_mem ha).1) (fun a ha => (clC_mem ha).2) s
  have hself := clC_self (fun a ha => (clC_mem ha).2) (clC_apart P)
  obtain ⟨u1, u2⟩ := apc_mem h h0
  obtain ⟨m1, m2⟩ := apc_mem hm h0
  rw [hself] at m2
  have eL : m.L = u.L := srt_eq m1 u1 fun x => by
    rw [u2 x, m2 x, hs]
    simp
  have eH : hdC m = hdC u := by
    have hu := apc_hd h
    have hmm := apc_hd hm
    rw [hself] at hmm
    rcases hu with ⟨t, t1, t2⟩ | ⟨t1, t2⟩
    · rcases hmm with ⟨t', t3, t4⟩ | ⟨t3, t4⟩
      · have := pw_eq (clC_apart P) t1 t3 rfl
        obtain rfl : t = t' := by injection this
        rw [t4, t2]
      · exact absurd rfl (t3 _ t1)
    · rcases hmm with ⟨t', t3, t4⟩ | ⟨t3, t4⟩
      · exact absurd rfl (t1 _ (clC_mem t3).1)
      · rw [t4, t2]
  have : m = u := by
    obtain ⟨a, b, c, d, l⟩ := m
    obtain ⟨a', b', c', d', l'⟩ := u
    simp only [hdC, Prod.mk.injEq] at eH
    simp only at eL
    obtain ⟨rfl, rfl, rfl, rfl⟩ := eH
    rw [eL]
  rw [← this]
  exact hm
theorem kind_rc (a : Ch) : kindS (rc a).text = match a with | .head _ => 0 | .there _ => 1 | .gone _ => 2 := by
  cases a with
  | head t => exact kind_headR t
  | there x => exact kind_there x
  | gone x => exact kind_put2
theorem gone_rc (a : Ch) : (rc a).text = putS 2 ↔ isGone a := by
  have h := kind_rc a
  constructor
  · intro e
    rw [e, kind_put2] at h
    cases a with
    | gone x => trivial
    | head t => simp at h
    | there x => simp at h
  · intro hg
    cases a with
    | gone x => rfl
    | head t => exact hg.elim
    | there x => exact hg.elim
theorem same_rc (a b : Ch) : SameR (rc a) (rc b) ↔ subj b = subj a := by
  have ha := kind_rc a
  have hb := kind_rc b
  unfold SameR
  cases a <;> cases b <;> simp only at ha hb <;> rw [ha, hb] <;> simp [rc, subj] <;> exact ⟨fun h => ⟨h.1.symm, h.2.symm⟩, fun h => ⟨h.1.symm, h.2.symm⟩⟩
theorem ex_offs {u : Int} {Q : Rc → Prop} {P : List Ch} : ∀ {i : Int}, (∃ h ∈ offs i (P.map rc), h.off < u ∧ Q h.r) ↔ ∃ b ∈ P.take (u - i).toNat, Q (rc b) := by
  induction P with
  | nil => intro i; simp [offs]
  | cons c P ih =>
    intro i
    rw [List.map_cons, offs]
    by_cases h : i < u
    · obtain ⟨k, hk⟩ : ∃ k, (u - i).toNat = k + 1 := ⟨(u - i).toNat - 1, by omega⟩
      have hk2 : (u - (i + 1)).toNat = k := by omega
      have := ih (i := i + 1)
      rw [hk2] at this
      rw [hk, List.take_succ_cons]
      constructor
      · rintro ⟨x, hx, h1, h2⟩
        rcases List.mem_cons.1 hx with rfl | hx
        · exact ⟨c, .head _, h2⟩
        · obtain ⟨b, hb, hq⟩ := this.1 ⟨x, hx, h1, h2⟩
          exact ⟨b, .tail _ hb, hq⟩
      · rintro ⟨b, hb, hq⟩
        rcases List.mem_cons.1 hb with rfl | hb
        · exact ⟨_, .head _, h, hq⟩
        · obtain ⟨x, hx, h1, h2⟩ := this.2 ⟨b, hb, hq⟩
          exact ⟨x, .tail _ hx, h1, h2⟩
    · have hk : (u - i).toNat = 0 := by omega
      rw [hk, List.take_zero]
      constructor
      · rintro ⟨x, hx, h1, h2⟩
        exfalso
        rcases List.mem_cons.1 hx with rfl | hx
        · exact h h1
        · have := offs_mem hx
          omega
      · rintro ⟨b, hb, _⟩
        cases hb
theorem cl_rc {u : Int} {P : List Ch} : ∀ {i : Int}, (cl u (offs i (P.map rc))).map (·.r) = (clC (P.take (u - i).toNat) ++ P.drop (u - i).toNat).map rc := by
  induction P with
  | nil => intro i; simp [offs, cl, clC]
  | cons c P ih =>
    intro i
    rw [List.map_cons, offs]
    have ihh := ih (i := i + 1)
    by_cases h : i < u
    · obtain ⟨k, hk⟩ : ∃ k, (u - i).toNat = k + 1 := ⟨(u - i).toNat - 1, by omega⟩
      have hk2 : (u - (i + 1)).toNat = k := by omega
      rw [hk2] at ihh
      rw [hk, List.take_succ_cons, List.drop_succ_cons]
      have hn : need u ⟨i, rc c⟩ (offs (i + 1) (P.map rc)) ↔ (isGone c ∨ ∃ b ∈ P.take k, subj b = subj c) := by
        unfold need
        simp only
        rw [gone_rc, ex_offs (Q := fun r => SameR (rc c) r), hk2]
        simp only [same_rc]
        exact ⟨fun h => h.2, fun h2 => ⟨h, h2⟩⟩
      unfold cl
      by_cases hc : isGone c ∨ ∃ b ∈ P.take k, subj b = subj c
      · rw [if_pos (hn.2 hc), clC_y hc, ihh]
      · rw [if_neg (fun h => hc (hn.1 h)), clC_n hc, List.map_cons, ihh]
        rfl
    · have hk : (u - i).toNat = 0 := by omega
      have hk2 : (u - (i + 1)).toNat = 0 := by omega
      rw [hk2] at ihh
      rw [hk]
      unfold cl
      rw [if_neg (fun hn => h hn.1), List.map_cons, ihh]
      simp [clC]
theorem pre_put {pre l : List Ce} {x : Ce} (h : ∀ y ∈ pre, AheadC y x) : putC (pre ++ l) x = pre ++ putC l x := by
  induction pre with
  | nil => rfl
  | cons a p ih => rw [List.cons_append, putC_y (h a (.head _)), ih (fun y hy => h y (.tail _ hy)), List.cons_append]
theorem pre_del {pre l : List Ce} {x : Ce} (h : ∀ y ∈ pre, AheadC y x) : delC (pre ++ l) x = pre ++ delC l x := by
  induction pre with
  | nil => rfl
  | cons a p ih => rw [List.cons_append, delC_y (h a (.head _)), ih (fun y hy => h y (.tail _ hy)), List.cons_append]
theorem irr {a : Ce} : ¬ AheadC a a := fun h => ahead_ne h ⟨rfl, rfl⟩
theorem pre_lt {pre l : List Ce} {x : Ce} (h : Srt (pre ++ x :: l)) : ∀ y ∈ pre, AheadC y x := fun y hy => (List.pairwise_append.1 h).2.2 y hy x (.head _)
theorem ap_diff (A B : List Ce) : ∀ (s : Sg) (pre : List Ce), Srt (pre ++ A) → Srt (pre ++ B) → (∀ x ∈ B, AgOk x.a ∧ MayA x.a) → ∃ D : List Ch, D.map rc = diffL A B ∧ Apc { s with L := pre ++ A } D { s with L := pre ++ B } := by
  have snoc : ∀ (pre : List Ce) (x : Ce) (l : List Ce), pre ++ x :: l = (pre ++ [x]) ++ l := fun pre x l => by simp
  have goneSt : ∀ (s : Sg) (pre : List Ce) (a : Ce) (A : List Ce), Srt (pre ++ a :: A) → mayC { s with L := pre ++ a :: A } (.gone a) ∧ stepC { s with L := pre ++ a :: A } (.gone a) = { s with L := pre ++ A } := fun s pre a A h => by
    refine ⟨(at_iff h a).2 ⟨a, by simp, rfl, rfl⟩, ?_⟩
    show { s with L := delC (pre ++ a :: A) a } = _
    rw [pre_del (pre_lt h), delC_n irr]
  induction A, B using diffL.induct with
  | case1 => intro s pre _ _ _; exact ⟨[], by rw [diffL]; rfl, rfl⟩
  | case2 a A ih =>
    intro s pre h1 h2 h3
    have hs : Srt (pre ++ A) := h1.sublist (by simp)
    obtain ⟨D, d1, d2⟩ := ih s pre hs h2 h3
    obtain ⟨g1, g2⟩ := goneSt s pre a A h1
    exact ⟨.gone a :: D, by rw [diffL, List.map_cons, d1]; rfl, trivial, g1, by rw [g2]; exact d2⟩
  | case3 b B ih =>
    intro s pre h1 h2 h3
    obtain ⟨D, d1, d2⟩ := ih s (pre ++ [b]) (by rw [List.append_nil]; exact h2.sublist (by simp)) (by rw [← snoc]; exact h2) (fun x hx => h3 x (.tail _ hx))
    refine ⟨.there b :: D, by rw [diffL, List.map_cons, d1]; rfl, h3 b (.head _), trivial, ?_⟩
    have e : stepC { s with L := pre ++ [] } (.there b) = { s with L := (pre ++ [b]) ++ [] } := by
      show { s with L := putC (pre ++ []) b } = _
      rw [pre_put (pre_lt h2)]
      simp [putC]
    rw [e, snoc pre b B]
    exact d2
  | case4 a A b B hab ih =>
    intro s pre h1 h2 h3
    have hs : Srt (pre ++ A) := h1.sublist (by simp)
    obtain ⟨D, d1, d2⟩ := ih s pre hs h2 h3
    obtain ⟨g1, g2⟩ := goneSt s pre a A h1
    exact ⟨.gone a :: D, by rw [diffL, if_pos hab, List.map_cons, d1]; rfl, trivial, g1, by rw [g2]; exact d2⟩
  | case5 a A b B hab hba ih =>
    intro s pre h1 h2 h3
    have hsB : Srt ((pre ++ [b]) ++ B) := by rw [← snoc]; exact h2
    have hsA : Srt ((pre ++ [b]) ++ a :: A) := by
      obtain ⟨p1, p2, p3⟩ := List.pairwise_append.1 h1
      obtain ⟨q1, q2, q3⟩ := List.pairwise_append.1 h2
      rw [← snoc]
      refine List.pairwise_append.2 ⟨p1, List.pairwise_cons.2 ⟨fun z hz => ?_, p2⟩, fun y hy z hz => ?_⟩
      · rcases List.mem_cons.1 hz with rfl | hz
        · exact hba
        · exact ahead_trans hba ((List.pairwise_cons.1 p2).1 z hz)
      · rcases List.mem_cons.1 hz with rfl | hz
        · exact q3 y hy z (.head _)
        · exact p3 y hy z hz
    obtain ⟨D, d1, d2⟩ := ih s (pre ++ [b]) hsA hsB (fun x hx => h3 x (.tail _ hx))
    refine ⟨.there b :: D, by rw [diffL, if_neg hab, if_pos hba, List.map_cons, d1]; rfl, h3 b (.head _), trivial, ?_⟩
    have e : stepC { s with L := pre ++ a :: A } (.there b) = { s with L := (pre ++ [b]) ++ a :: A } := by
      show { s with L := putC (pre ++ a :: A) b } = _
      rw [pre_put (pre_lt h2), putC_n hab, if_pos hba, snoc]
    rw [e, snoc pre b B]
    exact d2
  | case6 a A b B hab hba ih =>
    intro s pre h1 h2 h3
    have hk := same_of hab hba
    have hsB : Srt ((pre ++ [b]) ++ B) := by rw [← snoc]; exact h2
    have hsA : Srt ((pre ++ [b]) ++ A) := by
      obtain ⟨p1, p2, p3⟩ := List.pairwise_append.1 h1
      obtain ⟨q1, q2, q3⟩ := List.pairwise_append.1 h2
      obtain ⟨p4, p5⟩ := List.pairwise_cons.1 p2
      rw [← snoc]
      refine List.pairwise_append.2 ⟨p1, List.pairwise_cons.2 ⟨fun z hz => ahead_same2 hk (p4 z hz), p5⟩, fun y hy z hz => ?_⟩
      rcases List.mem_cons.1 hz with rfl | hz
      · exact q3 y hy z (.head _)
      · exact p3 y hy z (.tail _ hz)
    obtain ⟨D, d1, d2⟩ := ih s (pre ++ [b]) hsA hsB (fun x hx => h3 x (.tail _ hx))
    by_cases he : a = b
    · refine ⟨D, by rw [diffL, if_neg hab, if_neg hba, if_pos he, d1]; rfl, ?_⟩
      rw [he, snoc pre b A, snoc pre b B]
      exact d2
    · refine ⟨.there b :: D, by rw [diffL, if_neg hab, if_neg hba, if_neg he, List.map_cons, d1]; rfl, h3 b (.head _), trivial, ?_⟩
      have e : stepC { s with L := pre ++ a :: A } (.there b) = { s with L := (pre ++ [b]) ++ A } := by
        show { s with L := putC (pre ++ a :: A) b } = _
        rw [pre_put (pre_lt h2), putC_n hab, if_neg hba, snoc]
      rw [e, snoc pre b B]
      exact d2
theorem may_srt {g : Gr} {s : Sg} (h : MayS g s) : Srt s.L := by
  have hc : ∀ i (h0 : i + 1 < s.L.length), AheadC s.L[i] s.L[i + 1] := fun i h0 => by
    have := (h.2 (i + 1) h0).2 (by omega)
    simpa using this
  refine List.pairwise_iff_getElem.2 fun i j hi hj hij => ?_
  obtain ⟨d, rfl⟩ : ∃ d, j = i + 1 + d := ⟨j - (i + 1), by omega⟩
  clear hij
  induction d with
  | zero => exact hc i hj
  | succ d ih => exact ahead_trans (ih (by omega)) (hc (i + 1 + d) (by omega))
theorem may_agg {g : Gr} {s : Sg} (h : MayS g s) (ho : SgOk s) : ∀ x ∈ s.L, AgOk x.a ∧ MayA x.a := fun x hx => by
  obtain ⟨i, hi, rfl⟩ := List.mem_iff_getElem.1 hx
  exact ⟨(ho.2 _ hx).2.2, (h.2 i hi).1.2.2.2.2.2⟩
theorem ap_diffS {g : Gr} {s t : Sg} (hs : MayS g s) (ht : MayS g t) (ho : SgOk t) : ∃ D : List Ch, D.map rc = diffS s t ∧ Apc s D t := by
  obtain ⟨D, d1, d2⟩ := ap_diff s.L t.L ⟨t.mark, t.late, t.bad, t.n, []⟩ [] (may_srt hs) (may_srt ht) (may_agg ht ho)
  simp only [List.nil_append] at d2
  unfold diffS
  split
  · exact ⟨.head t :: D, by rw [List.map_cons, d1]; rfl, ho.1, trivial, d2⟩
  · rename_i h
    have e1 : s.mark = t.mark := Classical.byContradiction fun h1 => h (.inl h1)
    have e2 : s.late = t.late := Classical.byContradiction fun h1 => h (.inr (.inl h1))
    have e3 : s.bad = t.bad := Classical.byContradiction fun h1 => h (.inr (.inr (.inl h1)))
    have e4 : s.n = t.n := Classical.byContradiction fun h1 => h (.inr (.inr (.inr h1)))
    refine ⟨D, by rw [d1]; rfl, ?_⟩
    have e : s = ⟨t.mark, t.late, t.bad, t.n, s.L⟩ := by rw [← e1, ← e2, ← e3, ← e4]
    rw [e]
    exact d2
theorem logs_ap {g : Gr} {rs : List Rc} {s : Sg} (h : Logs g rs s) : MayS g s → ∃ P : List Ch, P.map rc = rs ∧ Apc ⟨-1, 0, 0, 0, []⟩ P s := by
  induction h with
  | zero => exact fun _ => ⟨[], rfl, rfl⟩
  | step h1 h2 h3 h4 ih =>
    intro ht
    obtain ⟨P, p1, p2⟩ := ih h2
    obtain ⟨D, d1, d2⟩ := ap_diffS h2 ht h3
    exact ⟨P ++ D, by rw [List.map_append, p1, d1], p2.app d2⟩
theorem logs_clean {g : Gr} {rs : List Rc} {s : Sg} (h : Logs g rs s) (hm : MayS g s) (u : Int) : Aps ⟨-1, 0, 0, 0, []⟩ ((cl u (offs 0 rs)).map (·.r)) s := by
  obtain ⟨P, rfl, hP⟩ := logs_ap h hm
  rw [cl_rc]
  rw [← List.take_append_drop (u - 0).toNat P] at hP
  obtain ⟨m, h1, h2⟩ := hP.split
  exact ((apc_clean rfl h1).app h2).aps
end Go.Proofs.Ytnhgdngbdoifnaa.M
namespace Go.Proofs.Ytnhgdngbdoifnaa.M
open Go.Proofs.Ytnhgdngbdoifnaa.F
set_option linter.unusedVariables false
set_option maxRecDepth 100000
variable {R : VP} {Q : EQ}
def m4_7 (R : VP) (t8 : Value) (w : World) : Prop :=
  R t8 w
def m4_5 (R : VP) (t8 : Value) (w : World) : Prop :=
  R t8 w
def m4_4 (R : VP) (s10 t12 e13 : Value) (w : World) : Prop :=
  valP Try.prog (binS BinOp.eql 35 (tm 34) (ci 0) e13 (vi 0)) w fun t35 w =>
  condP t35
  (valP Try.prog (Instr.loadAt 28 s10) w fun t37 w =>
  valP Try.prog (Instr.loadAt 28 t12) w fun t38 w =>
  callP Try.prog (fnV 11) #[t37, t38] w fun t39 w =>
  pickP t35 t39 (Value.bool false) fun t40 =>
  condP t40
  (callP Try.prog (fnV 6) #[] w fun t42 w =>
  pickP t40 t42 (Value.bool false) fun t43 =>
  m4_5 R t43 w)
  (pickP t40 undef (Value.bool false) fun t43 =>
  m4_5 R t43 w))
  (pickP t35 undef (Value.bool false) fun t40 =>
  condP t40
  (callP Try.prog (fnV 6) #[] w fun t42 w =>
  pickP t40 t42 (Value.bool false) fun t43 =>
  m4_5 R t43 w)
  (pickP t40 undef (Value.bool false) fun t43 =>
  m4_5 R t43 w))
def m4_3 (R : VP) (upto3 g4 all9 s10 : Value) (w : World) : Prop :=
  anyDraw w fun w =>
  heldP w fun J =>
  valJ Try.prog J (Instr.loadAt 23 g4) fun t26 =>
  (callP Try.prog (fnV 7) #[all9, upto3] w fun t29 w =>
  stayP J w
  ((callP Try.prog (fnV 10) #[t29] w fun t30 w =>
  stayP J w
  ((callP Try.prog (fnV 9) #[t26, t30] w fun t31 w =>
  stayP J w
  (valJ Try.prog J (Instr.extract t31 0) fun t32 =>
  valJ Try.prog J (Instr.extract t31 1) fun t33 =>
  valP Try.prog (Instr.alloc 28 true (.tuple #[])) w fun t12 w =>
  stayP J w
  (unitP Try.prog (Instr.storeAt 28 t12 t32) w fun _ w =>
  stayP J w
  (m4_4 R s10 t12 t33 w)))) ∧ (valP Try.prog (Instr.alloc 28 true (.tuple #[])) w fun t12 w =>
  stayP J w
  (callP Try.prog (fnV 9) #[t26, t30] w fun t31 w =>
  stayP J w
  (valJ Try.prog J (Instr.extract t31 0) fun t32 =>
  valJ Try.prog J (Instr.extract t31 1) fun t33 =>
  unitP Try.prog (Instr.storeAt 28 t12 t32) w fun _ w =>
  stayP J w
  (m4_4 R s10 t12 t33 w)))))) ∧ (valP Try.prog (Instr.alloc 28 true (.tuple #[])) w fun t12 w =>
  stayP J w
  (callP Try.prog (fnV 10) #[t29] w fun t30 w =>
  stayP J w
  (callP Try.prog (fnV 9) #[t26, t30] w fun t31 w =>
  stayP J w
  (valJ Try.prog J (Instr.extract t31 0) fun t32 =>
  valJ Try.prog J (Instr.extract t31 1) fun t33 =>
  unitP Try.prog (Instr.storeAt 28 t12 t32) w fun _ w =>
  stayP J w
  (m4_4 R s10 t12 t33 w))))))) ∧ (valP Try.prog (Instr.alloc 28 true (.tuple #[])) w fun t12 w =>
  stayP J w
  (callP Try.prog (fnV 7) #[all9, upto3] w fun t29 w =>
  stayP J w
  (callP Try.prog (fnV 10) #[t29] w fun t30 w =>
  stayP J w
  (callP Try.prog (fnV 9) #[t26, t30] w fun t31 w =>
  stayP J w
  (valJ Try.prog J (Instr.extract t31 0) fun t32 =>
  valJ Try.prog J (Instr.extract t31 1) fun t33 =>
  unitP Try.prog (Instr.storeAt 28 t12 t32) w fun _ w =>
  stayP J w
  (m4_4 R s10 t12 t33 w))))))
def m4_6 (R : VP) (upto3 g4 all9 s10 t23 : Value) (w : World) : Prop :=
  condP t23
  (callP Try.prog (fnV 6) #[] w fun t24 w =>
  m4_7 R t24 w)
  (m4_3 R upto3 g4 all9 s10 w)
def m4_2 (R : VP) (upto3 g4 all9 s10 ok11 : Value) (w : World) : Prop :=
  valP Try.prog (Op.unary UnOp.not ok11) w fun t23 w =>
  m4_6 R upto3 g4 all9 s10 t23 w
def m4_1 (R : VP) (l1 most2 upto3 g4 : Value) (w : World) : Prop :=
  valP Try.prog (Instr.loadAt 23 g4) w fun t15 w =>
  callP Try.prog (fnV 5) #[t15, l1, most2] w fun t18 w =>
  valP Try.prog (Instr.extract t18 0) w fun t19 w =>
  valP Try.prog (Instr.extract t18 1) w fun t20 w =>
  valP Try.prog (Instr.extract t18 2) w fun t21 w =>
  valP Try.prog (Instr.alloc 28 true (.tuple #[])) w fun s10 w =>
  unitP Try.prog (Instr.storeAt 28 s10 t20) w fun _ w =>
  m4_2 R upto3 g4 t19 s10 t21 w
def m4_0 (R : VP) (g0 l1 most2 upto3 : Value) (w : World) : Prop :=
  valP Try.prog (Instr.box 23 g0) w fun g4 w =>
  m4_1 R l1 most2 upto3 g4 w
abbrev W4 := cwp Try.prog (fun i => 0)
noncomputable def k4_0 := bodyOf Try.f4
noncomputable def k4_1 := c2 k4_0
noncomputable def k4_2 := c2 k4_1
noncomputable def k4_3 := c2 k4_2
noncomputable def k4_4 := c2 k4_3
noncomputable def k4_5 := c2 k4_4
noncomputable def k4_6 := c2 (c1 k4_2)
noncomputable def k4_7 := c2 (c1 k4_6)
abbrev hR4 (R : VP) (Q : EQ) : Prop := ∀ e w, (R (e 8) w) → Q .ret e w
theorem s4_7 (hR : hR4 R Q) (e : Env) (w : World) (h : m4_7 R (e 8) w) : W4 k4_7 Q e w := by
  exact reA (hR _ _ h)
theorem s4_5 (hR : hR4 R Q) (e : Env) (w : World) (h : m4_5 R (e 8) w) : W4 k4_5 Q e w := by
  exact reA (hR _ _ h)
theorem s4_4 (hR : hR4 R Q) (e : Env) (w : World) (h : m4_4 R (e 10) (e 12) (e 13) w) : W4 k4_4 Q e w := by
  refine seA ?_
  exact rgA 5 (fun e w => m4_5 R (e 8) w) h fun e w h => then_N (s4_5 hR e w h)
theorem s4_3 (hR : hR4 R Q) (e : Env) (w : World) (h : m4_3 R (e 3) (e 4) (e 9) (e 10) w) : W4 k4_3 Q e w := by
  refine seA ?_
  have hN : ∀ e w, (m4_4 R (e 10) (e 12) (e 13) w) → (thenE (W4 k4_4 Q) Q) .normal e w := fun e w h => then_N (s4_4 hR e w h)
  exact treeJ_ok 4 12 (bt 12 0) (.take 0 (bt 12 1) (.take 1 (bt 12 3) (.take 2 (bt 12 7) (.alt 3 (bt 12 15) (.alt 4 (bt 12 31) (.alt 5 (bt 12 63) (.take 6 (bt 12 127) (.take 7 (bt 12 255) (.take 8 (bt 12 511) (.alt 9 (bt 12 1023) (.alt 10 (bt 12 2047) (.take 11 (bt 12 4095) .done) .stop) .stop)))) (.alt 9 (bt 12 543) (.alt 5 (bt 12 575) (.take 6 (bt 12 639) (.take 7 (bt 12 767) (.take 8 (bt 12 1023) (.alt 10 (bt 12 2047) (.take 11 (bt 12 4095) .done) .stop)))) .stop) .stop)) (.alt 9 (bt 12 527) (.alt 4 (bt 12 543) (.alt 5 (bt 12 575) (.take 6 (bt 12 639) (.take 7 (bt 12 767) (.take 8 (bt 12 1023) (.alt 10 (bt 12 2047) (.take 11 (bt 12 4095) .done) .stop)))) .stop) .stop) .stop)) (.alt 9 (bt 12 519) (.alt 3 (bt 12 527) (.alt 4 (bt 12 543) (.alt 5 (bt 12 575) (.take 6 (bt 12 639) (.take 7 (bt 12 767) (.take 8 (bt 12 1023) (.alt 10 (bt 12 2047) (.take 11 (bt 12 4095) .done) .stop)))) .stop) .stop) .stop) .stop))))) (fun e w => m4_4 R (e 10) (e 12) (e 13) w) (by kernel_rfl) (by kernel_rfl) (by kernel_rfl) (by kernel_rfl) (by kernel_rfl) (by kernel_rfl) (kcast (by kernel_rfl) h) hN (by kernel_rfl)
theorem s4_6 (hN : ∀ e w, (m4_3 R (e 3) (e 4) (e 9) (e 10) w) → Q .normal e w) (hR : hR4 R Q) (e : Env) (w : World) (h : m4_6 R (e 3) (e 4) (e 9) (e 10) (e 23) w) : W4 k4_6 Q e w := by
  refine coA (Operand.tmp 23) h (fun h1 => ?_) (fun h1 => ?_)
  · refine seA ?_
    exact rgA 3 (fun e w => m4_7 R (e 8) w) h1 fun e w h => then_N (s4_7 hR e w h)
  · exact skA (hN _ _ h1)
theorem s4_2 (hR : hR4 R Q) (e : Env) (w : World) (h : m4_2 R (e 3) (e 4) (e 9) (e 10) (e 11) w) : W4 k4_2 Q e w := by
  refine seA ?_
  have hN : ∀ e w, (m4_3 R (e 3) (e 4) (e 9) (e 10) w) → (thenE (W4 k4_3 Q) Q) .normal e w := fun e w h => then_N (s4_3 hR e w h)
  have hR : hR4 R (thenE (W4 k4_3 Q) Q) := fun e w h => then_R (hR e w h)
  refine seA ?_
  exact rgA 2 (fun e w => m4_6 R (e 3) (e 4) (e 9) (e 10) (e 23) w) h fun e w h => then_N (s4_6 hN hR e w h)
theorem s4_1 (hR : hR4 R Q) (e : Env) (w : World) (h : m4_1 R (e 1) (e 2) (e 3) (e 4) w) : W4 k4_1 Q e w := by
  refine seA ?_
  exact rgA 1 (fun e w => m4_2 R (e 3) (e 4) (e 9) (e 10) (e 11) w) h fun e w h => then_N (s4_2 hR e w h)
theorem s4_0 (hR : hR4 R Q) (e : Env) (w : World) (h : m4_0 R (e 0) (e 1) (e 2) (e 3) w) : W4 k4_0 Q e w := by
  refine seA ?_
  exact rgA 0 (fun e w => m4_1 R (e 1) (e 2) (e 3) (e 4) w) h fun e w h => then_N (s4_1 hR e w h)
abbrev m4 (R : VP) (g0 l1 most2 upto3 : Value) (w : World) : Prop := m4_0 R g0 l1 most2 upto3 w
theorem s4 (g0 l1 most2 upto3 : Value) {R : VP} {w : World} (h : m4 R g0 l1 most2 upto3 w) :
    Calls Try.prog 4 #[g0, l1, most2, upto3] w fun e w' => ∃ v, e = .returned v ∧ R v w' :=
  calls_of_cwp (st := (fun i => 0)) (c := k4_0) (by kernel_rfl) Try.func4 (by kernel_rfl) (Nat.le_of_ble_eq_true (by kernel_rfl)) (by kernel_rfl)
    (s4_0 (R := R) (Q := endE Try.prog Try.f4 R) (fun e w h => kcast (by kernel_rfl) h) (argsE #[g0, l1, most2, upto3]) w (kcast (by kernel_rfl) h))
end Go.Proofs.Ytnhgdngbdoifnaa.M
namespace Go.Proofs.Ytnhgdngbdoifnaa.M
open Go.Proofs.Ytnhgdngbdoifnaa.F Go.RowKit
set_option linter.unusedVariables false
set_option linter.unusedSimpArgs false
set_option maxRecDepth 100000
set_option maxHeartbeats 2000000
attribute [local irreducible] Res.cells Res.row Res.map Res.any World.cell? World.frozen? Instr.fieldAt Instr.loadAt Instr.storeAt Instr.indexAt Instr.lookup Instr.mapUpdate Instr.box Instr.build Instr.buildSlice Instr.extract Instr.alloc Instr.field Instr.index Instr.sliceAt Instr.makeSlice Instr.makeMap Instr.makeFunc binS Op.unary Sem.run
theorem tl1 {a : Res} {L : List Res} : ∀ r ∈ L, r ∈ a :: L := fun _ h => .tail _ h
theorem tl2 {a b : Res} {L : List Res} : ∀ r ∈ L, r ∈ a :: b :: L := fun _ h => .tail _ (.tail _ h)
theorem tl3 {a b c : Res} {L : List Res} : ∀ r ∈ L, r ∈ a :: b :: c :: L := fun _ h => .tail _ (.tail _ (.tail _ h))
theorem tl4 {a b c d : Res} {L : List Res} : ∀ r ∈ L, r ∈ a :: b :: c :: d :: L := fun _ h => .tail _ (.tail _ (.tail _ (.tail _ h)))
section
variable {w0 w : World} {g : Gr} {l : List Rc} {A : Option Addr} {c : Nat}
theorem keeps_4 {L : List Res} {s : Sg} {A1 A2 : Option Addr} {c1 c2 b10 b12 : Nat} (h64 : s.L.length ≤ 64) (hok : ∀ x ∈ s.L, CeOk x) (h10 : Res.cells b10 28 (encS s A1 c1) ∈ L) (h12 : Res.cells b12 28 (encS s A2 c2) ∈ L) (hE1 : Sl w0 [] L A1 c1 s.L) (hE2 : Sl w0 [] L A2 c2 s.L) (hS : St w0 [] w L) : m4_4 (fun v w' => v = .bool true ∧ Below w0.heap.size w0 w') (.pointer (some ⟨b10, 0, none⟩)) (.pointer (some ⟨b12, 0, none⟩)) (.int .i64 0) w := by
  obtain ⟨k1, hk1⟩ := List.mem_iff_getElem?.1 h10
  obtain ⟨k2, hk2⟩ := List.mem_iff_getElem?.1 h12
  unfold m4_4
  refine valP_ok (eq35 _ _ _ _ _) ?_
  refine cond_dt (by omega) ?_
  refine valP_ok (ld28 (hS.cell k1 hk1 (i := 0) rfl) (hS.cell k1 hk1 (i := 1) rfl) (hS.cell k1 hk1 (i := 2) rfl) (hS.cell k1 hk1 (i := 3) rfl) (hS.cell k1 hk1 (i := 4) rfl)) ?_
  refine valP_ok (ld28 (hS.cell k2 hk2 (i := 0) rfl) (hS.cell k2 hk2 (i := 1) rfl) (hS.cell k2 hk2 (i := 2) rfl) (hS.cell k2 hk2 (i := 3) rfl) (hS.cell k2 hk2 (i := 4) rfl)) ?_
  refine callR (by kernel_rfl) (same_ret (by omega) hok hE1 hE2 hS) ?_
  rintro _ w ⟨rfl, hS⟩
  first | refine pick_dt (by first | assumption | omega) ?_ | refine pick_df (by first | assumption | omega) ?_ | refine pick_t (by first | rfl | assumption) ?_ | refine pick_f (by first | rfl | assumption) ?_ | refine pick_dt rfl ?_ | refine pick_df (not_not_intro rfl) ?_
  refine cond_t rfl ?_
  refine callR (by kernel_rfl) (awake_ret hS) ?_
  rintro _ w ⟨rfl, hS⟩
  first | refine pick_dt (by first | assumption | omega) ?_ | refine pick_df (by first | assumption | omega) ?_ | refine pick_t (by first | rfl | assumption) ?_ | refine pick_f (by first | rfl | assumption) ?_ | refine pick_dt rfl ?_ | refine pick_df (not_not_intro rfl) ?_
  unfold m4_5
  exact ⟨rfl, hS.below⟩
theorem keeps_ret {most upto : Int} (hmo : -9223372036854775808 ≤ most ∧ most ≤ 9223372036854775807) (hl : Rd w0 3 A l.length (l.flatMap encR)) (hc : l.length ≤ c) : Ret Try.prog 4 #[grv g, .slice A l.length c, .int .i64 most, .int .i64 upto] w0 fun v w' => v = .bool true ∧ Below w0.heap.size w0 w' := by
  have hS := St.start w0
  refine s4 _ _ _ _ ?_
  unfold m4
  unfold m4_0
  refine new_ok (bx23 _ _ _ _) hS ?_
  intro b4 w hS
  unfold m4_1
  first | refine ls23 0 hS rfl ?_ | refine ls23 1 hS rfl ?_ | refine ls23 2 hS rfl ?_ | refine ls23 3 hS rfl ?_ | refine ls23 4 hS rfl ?_ | refine ls23 5 hS rfl ?_ | refine ls23 6 hS rfl ?_ | refine ls23 7 hS rfl ?_ | refine valP_ok (ld23 (by assumption) (by assumption) (by assumption)) ?_
  refine callR (by kernel_rfl) (log_ret hmo hc (Bes.of_old0 (Rd.takeS encR_len 150 hl)) hS) ?_
  rintro _ w ⟨L', al, s, A1, As, c1, cs, t, rfl, hS, hT⟩
  refine valP_ok (extract_ok _ 0 rfl _) ?_
  refine valP_ok (extract_ok _ 1 rfl _) ?_
  refine valP_ok (extract_ok _ 2 rfl _) ?_
  refine new_ok (al28 _) hS ?_
  intro b10 w hS
  first | refine ss28 0 hS rfl rfl rfl rfl rfl rfl ?_ | refine ss28 1 hS rfl rfl rfl rfl rfl rfl ?_ | refine ss28 2 hS rfl rfl rfl rfl rfl rfl ?_ | refine ss28 3 hS rfl rfl rfl rfl rfl rfl ?_ | refine ss28 4 hS rfl rfl rfl rfl rfl rfl ?_ | refine ss28 5 hS rfl rfl rfl rfl rfl rfl ?_ | refine ss28 6 hS rfl rfl rfl rfl rfl rfl ?_ | refine ss28 7 hS rfl rfl rfl rfl rfl rfl ?_
  intro w hS
  simp only [List.set_cons_zero, List.set_cons_succ] at hS
  unfold m4_2
  first | refine valP_ok (not_ok _ _) ?_ | refine valP_ok (notb_ok _ _) ?_
  unfold m4_6
  cases t with
  | false =>
    refine cond_t rfl ?_
    refine callR (by kernel_rfl) (awake_ret hS) ?_
    rintro _ w ⟨rfl, hS⟩
    unfold m4_7
    exact ⟨rfl, hS.below⟩
  | true =>
    obtain ⟨hB, hE, hm, hok, rs, rfl, hlg, hrl, hrng, hM⟩ := hT rfl
    have hol := offs_len 0 rs
    have hgo := offs_ok (i := 0) hrng
    have haps := logs_clean hlg hm upto
    have hcll : (cl upto (offs 0 rs)).length ≤ 20000 := by
      rw [← cleanN_eq]
      have := cleanN_len (offs 0 rs) upto (offs 0 rs).length
      omega
    have h64 := hm.1.2.2.2.2.2.2
    obtain ⟨k4, hk4⟩ := List.mem_iff_getElem?.1 (hM _ (.head _))
    generalize offs 0 rs = al at *
    have hlc : ((cl upto al).map (·.r)).length ≤ 90000 := by rw [List.length_map]; omega
    refine cond_f rfl ?_
    generalize hL0 : Res.cells b10 28 (encS s As cs) :: L' = L0 at hS
    have h10 : Res.cells b10 28 (encS s As cs) ∈ L0 := by rw [← hL0]; exact .head _
    have hB0 : BG w0 [] L0 A1 al := by rw [← hL0]; exact hB.cons _
    have hE0 : Sl w0 [] L0 As cs s.L := by rw [← hL0]; exact hE.cons _
    have hk4 : L0[k4 + 1]? = some (Res.cells b4 23 (encGr g)) := by rw [← hL0]; exact hk4
    clear hL0 hT hM hE hB
    unfold m4_3
    refine drawn_ok hS ?_
    intro w hS
    refine held_Hs hS ?_
    refine valJ_at (fun w hw => ld23 (Hs.cell (k4 + 1) hk4 (i := 0) rfl w hw) (Hs.cell (k4 + 1) hk4 (i := 1) rfl w hw) (Hs.cell (k4 + 1) hk4 (i := 2) rfl w hw)) ?_
    refine ⟨?_, ?_⟩
    · refine callR (by kernel_rfl) (clean_ret (upto := upto) (by omega) hgo hB0 hS) ?_
      rintro _ w ⟨A2, c2, rfl, hS⟩
      rw [cleanN_eq] at hS ⊢
      refine stay_Hs hS tl1 ?_
      refine ⟨?_, ?_⟩
      · refine callR (by kernel_rfl) (bare_ret (by omega) (Bes.of_row 0 rfl) hS) ?_
        rintro _ w ⟨A3, c3, rfl, hS⟩
        refine stay_Hs hS tl2 ?_
        refine ⟨?_, ?_⟩
        · refine callR (by kernel_rfl) (restore_ret haps hm hlc (Bes.of_row 0 rfl) hS) ?_
          rintro _ w ⟨A4, c4, rfl, hS⟩
          refine stay_Hs hS tl3 ?_
          refine valJ_ok (extract_ok _ 0 rfl) ?_
          refine valJ_ok (extract_ok _ 1 rfl) ?_
          refine new_ok (al28 _) hS ?_
          intro b12 w hS
          refine stay_Hs hS tl4 ?_
          first | refine ss28 0 hS rfl rfl rfl rfl rfl rfl ?_ | refine ss28 1 hS rfl rfl rfl rfl rfl rfl ?_ | refine ss28 2 hS rfl rfl rfl rfl rfl rfl ?_ | refine ss28 3 hS rfl rfl rfl rfl rfl rfl ?_ | refine ss28 4 hS rfl rfl rfl rfl rfl rfl ?_ | refine ss28 5 hS rfl rfl rfl rfl rfl rfl ?_ | refine ss28 6 hS rfl rfl rfl rfl rfl rfl ?_ | refine ss28 7 hS rfl rfl rfl rfl rfl rfl ?_
          intro w hS
          simp only [List.set_cons_zero, List.set_cons_succ] at hS
          refine stay_Hs hS tl4 ?_
          exact keeps_4 h64 hok.2 (tl4 _ h10) (.head _) (hE0.mono tl4) (Sl.row 1 hS rfl) hS
        · refine new_ok (al28 _) hS ?_
          intro b12 w hS
          refine stay_Hs hS tl3 ?_
          refine callR (by kernel_rfl) (restore_ret haps hm hlc (Bes.of_row 1 rfl) hS) ?_
          rintro _ w ⟨A4, c4, rfl, hS⟩
          refine stay_Hs hS tl4 ?_
          refine valJ_ok (extract_ok _ 0 rfl) ?_
          refine valJ_ok (extract_ok _ 1 rfl) ?_
          first | refine ss28 0 hS rfl rfl rfl rfl rfl rfl ?_ | refine ss28 1 hS rfl rfl rfl rfl rfl rfl ?_ | refine ss28 2 hS rfl rfl rfl rfl rfl rfl ?_ | refine ss28 3 hS rfl rfl rfl rfl rfl rfl ?_ | refine ss28 4 hS rfl rfl rfl rfl rfl rfl ?_ | refine ss28 5 hS rfl rfl rfl rfl rfl rfl ?_ | refine ss28 6 hS rfl rfl rfl rfl rfl rfl ?_ | refine ss28 7 hS rfl rfl rfl rfl rfl rfl ?_
          intro w hS
          simp only [List.set_cons_zero, List.set_cons_succ] at hS
          refine stay_Hs hS tl4 ?_
          exact keeps_4 h64 hok.2 (tl4 _ h10) (.tail _ (.head _)) (hE0.mono tl4) (Sl.row 0 hS rfl) hS
      · refine new_ok (al28 _) hS ?_
        intro b12 w hS
        refine stay_Hs hS tl2 ?_
        refine callR (by kernel_rfl) (bare_ret (by omega) (Bes.of_row 1 rfl) hS) ?_
        rintro _ w ⟨A3, c3, rfl, hS⟩
        refine stay_Hs hS tl3 ?_
        refine callR (by kernel_rfl) (restore_ret haps hm hlc (Bes.of_row 0 rfl) hS) ?_
        rintro _ w ⟨A4, c4, rfl, hS⟩
        refine stay_Hs hS tl4 ?_
        refine valJ_ok (extract_ok _ 0 rfl) ?_
        refine valJ_ok (extract_ok _ 1 rfl) ?_
        first | refine ss28 0 hS rfl rfl rfl rfl rfl rfl ?_ | refine ss28 1 hS rfl rfl rfl rfl rfl rfl ?_ | refine ss28 2 hS rfl rfl rfl rfl rfl rfl ?_ | refine ss28 3 hS rfl rfl rfl rfl rfl rfl ?_ | refine ss28 4 hS rfl rfl rfl rfl rfl rfl ?_ | refine ss28 5 hS rfl rfl rfl rfl rfl rfl ?_ | refine ss28 6 hS rfl rfl rfl rfl rfl rfl ?_ | refine ss28 7 hS rfl rfl rfl rfl rfl rfl ?_
        intro w hS
        simp only [List.set_cons_zero, List.set_cons_succ] at hS
        refine stay_Hs hS tl4 ?_
        exact keeps_4 h64 hok.2 (tl4 _ h10) (.tail _ (.tail _ (.head _))) (hE0.mono tl4) (Sl.row 0 hS rfl) hS
    · refine new_ok (al28 _) hS ?_
      intro b12 w hS
      refine stay_Hs hS tl1 ?_
      refine callR (by kernel_rfl) (clean_ret (upto := upto) (by omega) hgo (hB0.cons _) hS) ?_
      rintro _ w ⟨A2, c2, rfl, hS⟩
      rw [cleanN_eq] at hS ⊢
      refine stay_Hs hS tl2 ?_
      refine callR (by kernel_rfl) (bare_ret (by omega) (Bes.of_row 0 rfl) hS) ?_
      rintro _ w ⟨A3, c3, rfl, hS⟩
      refine stay_Hs hS tl3 ?_
      refine callR (by kernel_rfl) (restore_ret haps hm hlc (Bes.of_row 0 rfl) hS) ?_
      rintro _ w ⟨A4, c4, rfl, hS⟩
      refine stay_Hs hS tl4 ?_
      refine valJ_ok (extract_ok _ 0 rfl) ?_
      refine valJ_ok (extract_ok _ 1 rfl) ?_
      first | refine ss28 0 hS rfl rfl rfl rfl rfl rfl ?_ | refine ss28 1 hS rfl rfl rfl rfl rfl rfl ?_ | refine ss28 2 hS rfl rfl rfl rfl rfl rfl ?_ | refine ss28 3 hS rfl rfl rfl rfl rfl rfl ?_ | refine ss28 4 hS rfl rfl rfl rfl rfl rfl ?_ | refine ss28 5 hS rfl rfl rfl rfl rfl rfl ?_ | refine ss28 6 hS rfl rfl rfl rfl rfl rfl ?_ | refine ss28 7 hS rfl rfl rfl rfl rfl rfl ?_
      intro w hS
      simp only [List.set_cons_zero, List.set_cons_succ] at hS
      refine stay_Hs hS tl4 ?_
      exact keeps_4 h64 hok.2 (tl4 _ h10) (.tail _ (.tail _ (.tail _ (.head _)))) (hE0.mono tl4) (Sl.row 0 hS rfl) hS
end
end Go.Proofs.Ytnhgdngbdoifnaa.M
