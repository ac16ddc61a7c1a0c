/- SessionsRun: any events, one behind the other, leave a state that may be. -/
import Derived.Test.YtojgdmcojmllkaaS23
import Derived.Test.YtojgdmcojmllkaaMlb0
namespace Go.Proofs.Ytojgdmcojmllkaa.M
open Go.Proofs.Ytojgdmcojmllkaa.F Go.RowKit
set_option linter.unusedVariables false
set_option linter.unusedSimpArgs false
set_option maxRecDepth 100000
set_option maxHeartbeats 2000000
attribute [local irreducible] Res.cells Res.row Res.map Res.any World.cell? World.frozen? Instr.fieldAt Instr.loadAt Instr.storeAt Instr.indexAt Instr.lookup Instr.mapUpdate Instr.box Instr.build Instr.buildSlice Instr.extract Instr.alloc Instr.field Instr.index Instr.sliceAt Instr.makeSlice Instr.makeMap Instr.makeFunc binS Op.unary Sem.run
theorem Runs.nogap {g : Gp} (hg : ¬ GapOk g) {l : List In} {f : Fl} {all : List Se} (h : Runs g l f all) : l = [] ∧ all = [] := by
  cases h with
  | nil => exact ⟨rfl, rfl⟩
  | snoc h1 h2 => exact absurd h2.1.flow.gok hg
section
variable {w0 : World} {A : Option Addr} {c : Nat} {l : List In} {g : Gp}
theorem front_g {w : World} {b2 : Nat} {r : Res} {N : List Res} (hS : St w0 [] w (r :: (N ++ [gC b2 g]))) : St w0 [] w (gC b2 g :: r :: (N ++ [])) := St.swap (A := r :: N) (B := [gC b2 g]) (L := []) hS
theorem srun_ret (hl : Rd w0 3 A l.length (l.flatMap encI)) (hc : l.length ≤ c) : Ret Try.prog 4 #[gv g, .slice A l.length c] w0 fun v w' => v = .bool true ∧ Below w0.heap.size w0 w' := by
  have hS := St.start w0
  refine s4 _ _ ?_
  unfold m4
  unfold m4_0
  refine new_ok (bx23 _ _ _) hS ?_
  intro b2 w hS
  unfold m4_1
  refine callR (by kernel_rfl) (some_ret hc) ?_
  rintro v w ⟨rfl, rfl⟩
  have hl2 := Rd.takeS encI_len 100 hl
  have hll : (l.take 100).length ≤ 100 := by rw [List.length_take]; omega
  generalize l.take 100 = ls at *
  unfold m4_2
  first | refine ls23 0 hS rfl ?_ | refine ls23 1 hS rfl ?_ | refine ls23 2 hS rfl ?_ | refine ls23 3 hS rfl ?_ | refine ls23 4 hS rfl ?_ | refine ls23 5 hS rfl ?_ | refine ls23 6 hS rfl ?_ | refine ls23 7 hS rfl ?_ | refine valP_ok (ld23 (by assumption) (by assumption)) ?_
  refine callR (by kernel_rfl) (run_ret (g := g) (l := ls) (by omega) hS (Bes.of_old0 hl2)) ?_
  rintro v w (⟨f, all, A1, c1, l1, A2, c2, l2, N, hr, rfl, e1, e2, hn, hS, ho, hE⟩ | ⟨er, he, hno, rfl, hS⟩)
  · have hS := front_g hS
    refine valP_ok (extract_ok _ 0 rfl _) ?_
    refine valP_ok (extract_ok _ 1 rfl _) ?_
    refine valP_ok (extract_ok _ 2 rfl _) ?_
    refine new_ok (al26 _) hS ?_
    intro b5 w hS
    first | refine ss26 0 hS rfl rfl rfl rfl ?_ | refine ss26 1 hS rfl rfl rfl rfl ?_ | refine ss26 2 hS rfl rfl rfl rfl ?_ | refine ss26 3 hS rfl rfl rfl rfl ?_ | refine ss26 4 hS rfl rfl rfl rfl ?_ | refine ss26 5 hS rfl rfl rfl rfl ?_ | refine ss26 6 hS rfl rfl rfl rfl ?_ | refine ss26 7 hS rfl rfl rfl rfl ?_
    intro w hS
    simp only [List.set_cons_zero, List.set_cons_succ] at hS
    have hcap := ho.cap
    unfold m4_3
    refine valP_ok (ne34 _ _ _ _ _) ?_
    refine cond_df (by simp) ?_
    first | refine ls23 0 hS rfl ?_ | refine ls23 1 hS rfl ?_ | refine ls23 2 hS rfl ?_ | refine ls23 3 hS rfl ?_ | refine ls23 4 hS rfl ?_ | refine ls23 5 hS rfl ?_ | refine ls23 6 hS rfl ?_ | refine ls23 7 hS rfl ?_ | refine valP_ok (ld23 (by assumption) (by assumption)) ?_
    refine callR (by kernel_rfl) (rmay_ret hS) ?_
    rintro v w ⟨⟨t, rfl, ht⟩, hS⟩
    first | refine valP_ok (not_ok _ _) ?_ | refine valP_ok (notb_ok _ _) ?_
    first | refine pick_dt (by first | assumption | omega) ?_ | refine pick_df (by first | assumption | omega) ?_ | refine pick_t (by first | rfl | assumption) ?_ | refine pick_f (by first | rfl | assumption) ?_ | refine pick_dt rfl ?_ | refine pick_df (not_not_intro rfl) ?_
    unfold m4_14
    cases t with
    | false =>
      have hg : ¬ GapOk g := fun h => by have := ht.2 h; cases this
      obtain ⟨rfl, rfl⟩ := hr.nogap hg
      have z : l2 = [] := List.eq_nil_of_length_eq_zero (by have := congrArg List.length e2; simpa using this)
      subst z
      refine cond_t rfl ?_
      refine builtin_ok (len24 _) ?_
      refine valP_ok (eq3 _ _ _ _ _) ?_
      refine cond_dt rfl ?_
      refine builtin_ok (len44 _) ?_
      refine valP_ok (eq3 _ _ _ _ _) ?_
      refine cond_dt rfl ?_
      first | refine pick_dt (by first | assumption | omega) ?_ | refine pick_df (by first | assumption | omega) ?_ | refine pick_t (by first | rfl | assumption) ?_ | refine pick_f (by first | rfl | assumption) ?_ | refine pick_dt rfl ?_ | refine pick_df (not_not_intro rfl) ?_
      first | refine pick_dt (by first | assumption | omega) ?_ | refine pick_df (by first | assumption | omega) ?_ | refine pick_t (by first | rfl | assumption) ?_ | refine pick_f (by first | rfl | assumption) ?_ | refine pick_dt rfl ?_ | refine pick_df (not_not_intro rfl) ?_
      refine cond_t rfl ?_
      refine callR (by kernel_rfl) (awake_ret hS) ?_
      rintro v w ⟨rfl, hS⟩
      first | refine pick_dt (by first | assumption | omega) ?_ | refine pick_df (by first | assumption | omega) ?_ | refine pick_t (by first | rfl | assumption) ?_ | refine pick_f (by first | rfl | assumption) ?_ | refine pick_dt rfl ?_ | refine pick_df (not_not_intro rfl) ?_
      unfold m4_15
      exact ⟨rfl, hS.below⟩
    | true =>
      have hg := ht.1 rfl
      obtain ⟨hF, hall⟩ := hr.flow hg
      have hmk := hF.mrk
      refine cond_f rfl ?_
      unfold m4_4 m4_7
      have hB2 : BesS w0 [] (srow (.slice A2 l2.length c2) l2 :: (N ++ [])) A2 l2 := ⟨Bes.of_row 0 rfl, fun s hs => ((hE s hs).1.mono fun r hr => List.mem_append_left _ hr).cons _, by omega, fun s hs => (hE s hs).2⟩
      refine loop_in (fun u w' => ∃ i : Nat, u = .int .i64 (i : Int) ∧ i ≤ l2.length ∧ St w0 [] w' (Res.cells b5 26 [.int .i64 f.mark, .int .i64 f.late, .slice A1 l1.length c1] :: gC b2 g :: srow (.slice A2 l2.length c2) l2 :: (N ++ []))) (fun u _ => l2.length - (intOf u).toNat) ⟨0, rfl, by omega, hS⟩ ?_
      clear hS
      rintro u w ⟨i, rfl, hi, hS⟩
      unfold m4_8
      refine builtin_ok (len24 _) ?_
      refine valP_ok (lss_ok _ _ _ _ _ _ _) ?_
      unfold m4_13
      refine cond_split (fun h => ?_) (fun h => ?_)
      · have hlt : i < l2.length := by omega
        have hmem := List.getElem_mem hlt
        have hB := (hB2.cons (gC b2 g)).cons (Res.cells b5 26 [.int .i64 f.mark, .int .i64 f.late, .slice A1 l1.length c1])
        obtain ⟨b, o, rfl⟩ := (hB.row.rd hS).some_ (by omega) (by omega)
        have hms : l2[i].s ∈ all := by rw [← e2]; exact List.mem_map.2 ⟨_, hmem, rfl⟩
        obtain ⟨ho1, hsp⟩ := hall _ hms
        have hlen := hsp.len
        have ht1 := hsp.time (l2[i].s.l.length - 1) (by omega)
        have hlm : lT l2[i].s.l ≤ f.mark := by
          have h1 := hF.gok.gap
          have h2 := hF.gok.late
          unfold OverT at ho1
          omega
        have hl0 : 0 ≤ lT l2[i].s.l := by
          rw [lT_eq (by omega)]
          exact ht1.1
        have p := fun w (hw : Hs w0 [] (Res.cells b5 26 [.int .i64 f.mark, .int .i64 f.late, .slice A1 l1.length c1] :: gC b2 g :: srow (.slice (some ⟨b, o, none⟩) l2.length c2) l2 :: (N ++ [])) w) => sp_at (Hs.rd hB.row w hw) hlt
        unfold m4_9
        refine drawn_ok hS ?_
        intro w hS
        refine held_Hs hS ?_
        first | refine valJ_at (fun w hw => ld23 (Hs.cell 0 rfl rfl w hw) (Hs.cell 0 rfl rfl w hw)) ?_ | refine valJ_at (fun w hw => ld23 (Hs.cell 1 rfl rfl w hw) (Hs.cell 1 rfl rfl w hw)) ?_ | refine valJ_at (fun w hw => ld23 (Hs.cell 2 rfl rfl w hw) (Hs.cell 2 rfl rfl w hw)) ?_ | refine valJ_at (fun w hw => ld23 (Hs.cell 3 rfl rfl w hw) (Hs.cell 3 rfl rfl w hw)) ?_ | refine valJ_at (fun w hw => ld23 (Hs.cell 4 rfl rfl w hw) (Hs.cell 4 rfl rfl w hw)) ?_ | refine valJ_at (fun w hw => ld23 (Hs.cell 5 rfl rfl w hw) (Hs.cell 5 rfl rfl w hw)) ?_ | refine valJ_at (fun w hw => ld23 (Hs.cell 6 rfl rfl w hw) (Hs.cell 6 rfl rfl w hw)) ?_ | refine valJ_at (fun w hw => ld23 (Hs.cell 7 rfl rfl w hw) (Hs.cell 7 rfl rfl w hw)) ?_
        refine valJ_ok (ix24 hlt) ?_
        refine valJ_at (fun w hw => ld33 (p w hw).1 (p w hw).2) ?_
        first | refine valJ_ok (fa26_0 _) ?_ | refine valJ_ok (fao26_0 _ _) ?_
        first | refine valJ_load ld3 (Hs.cell 0 rfl rfl) ?_ | refine valJ_load ld3 (Hs.cell 1 rfl rfl) ?_ | refine valJ_load ld3 (Hs.cell 2 rfl rfl) ?_ | refine valJ_load ld3 (Hs.cell 3 rfl rfl) ?_ | refine valJ_load ld3 (Hs.cell 4 rfl rfl) ?_ | refine valJ_load ld3 (Hs.cell 5 rfl rfl) ?_ | refine valJ_load ld3 (Hs.cell 6 rfl rfl) ?_ | refine valJ_load ld3 (Hs.cell 7 rfl rfl) ?_ | refine valJ_load ld3 (by assumption) ?_
        refine callR (by kernel_rfl) (last_ret (key := l2[i].s.key) (c := l2[i].c) hS (hB.evs _ hmem) (by omega) (hB.emax _ hmem)) ?_
        rintro v w ⟨rfl, hS⟩
        refine stay_Hs hS (by first | exact fun _ h => h | exact fun _ h => .tail _ h | exact fun _ h => .tail _ (.tail _ h) | simp) ?_
        refine callR (by kernel_rfl) (rover_ret hg ⟨by omega, hmk.2⟩ hS) ?_
        rintro v w ⟨⟨t, rfl, ht⟩, hS⟩
        have ht := ht.2 ho1
        subst ht
        refine stay_Hs hS (by first | exact fun _ h => h | exact fun _ h => .tail _ h | exact fun _ h => .tail _ (.tail _ h) | simp) ?_
        first | refine valJ_ok (not_ok _) ?_ | refine valJ_ok (notb_ok _) ?_
        refine cond_f rfl ?_
        first | refine valJ_at (fun w hw => ld23 (Hs.cell 0 rfl rfl w hw) (Hs.cell 0 rfl rfl w hw)) ?_ | refine valJ_at (fun w hw => ld23 (Hs.cell 1 rfl rfl w hw) (Hs.cell 1 rfl rfl w hw)) ?_ | refine valJ_at (fun w hw => ld23 (Hs.cell 2 rfl rfl w hw) (Hs.cell 2 rfl rfl w hw)) ?_ | refine valJ_at (fun w hw => ld23 (Hs.cell 3 rfl rfl w hw) (Hs.cell 3 rfl rfl w hw)) ?_ | refine valJ_at (fun w hw => ld23 (Hs.cell 4 rfl rfl w hw) (Hs.cell 4 rfl rfl w hw)) ?_ | refine valJ_at (fun w hw => ld23 (Hs.cell 5 rfl rfl w hw) (Hs.cell 5 rfl rfl w hw)) ?_ | refine valJ_at (fun w hw => ld23 (Hs.cell 6 rfl rfl w hw) (Hs.cell 6 rfl rfl w hw)) ?_ | refine valJ_at (fun w hw => ld23 (Hs.cell 7 rfl rfl w hw) (Hs.cell 7 rfl rfl w hw)) ?_
        refine valJ_ok (ix24 hlt) ?_
        refine valJ_at (fun w hw => ld33 (p w hw).1 (p w hw).2) ?_
        refine valJ_ok (ix24 hlt) ?_
        refine valJ_at (fun w hw => ld33 (p w hw).1 (p w hw).2) ?_
        refine callR (by kernel_rfl) (last_ret (key := l2[i].s.key) (c := l2[i].c) hS (hB.evs _ hmem) (by omega) (hB.emax _ hmem)) ?_
        rintro v w ⟨rfl, hS⟩
        refine stay_Hs hS (by first | exact fun _ h => h | exact fun _ h => .tail _ h | exact fun _ h => .tail _ (.tail _ h) | simp) ?_
        refine callR (by kernel_rfl) (rspan_ret (key := l2[i].s.key) (c := l2[i].c) hg (by omega) (by omega) (hB.emax _ hmem) hS (hB.evs _ hmem)) ?_
        rintro v w ⟨⟨t, rfl, ht⟩, hS⟩
        have ht := ht.2 hsp
        subst ht
        refine stay_Hs hS (by first | exact fun _ h => h | exact fun _ h => .tail _ h | exact fun _ h => .tail _ (.tail _ h) | simp) ?_
        first | refine valJ_ok (not_ok _) ?_ | refine valJ_ok (notb_ok _) ?_
        first | refine pick_dt (by first | assumption | omega) ?_ | refine pick_df (by first | assumption | omega) ?_ | refine pick_t (by first | rfl | assumption) ?_ | refine pick_f (by first | rfl | assumption) ?_ | refine pick_dt rfl ?_ | refine pick_df (not_not_intro rfl) ?_
        unfold m4_11
        refine cond_f rfl ?_
        unfold m4_10
        refine valP_ok (add_ok _ _ _ (by omega) (by omega) _) ?_
        exact ⟨⟨i + 1, rfl, by omega, hS⟩, by simp [intOf]; omega⟩
      · have hB1 : BesS w0 [] (Res.cells b5 26 [.int .i64 f.mark, .int .i64 f.late, .slice A1 l1.length c1] :: gC b2 g :: srow (.slice A2 l2.length c2) l2 :: (N ++ [])) A1 l1 := (((ho.bes.mono fun r hr => List.mem_append_left _ hr).cons _).cons _).cons _
        have hF' : FlowOk g f.mark f.late (ses l1) := by rw [e1]; exact hF
        unfold m4_5
        first | refine ls23 0 hS rfl ?_ | refine ls23 1 hS rfl ?_ | refine ls23 2 hS rfl ?_ | refine ls23 3 hS rfl ?_ | refine ls23 4 hS rfl ?_ | refine ls23 5 hS rfl ?_ | refine ls23 6 hS rfl ?_ | refine ls23 7 hS rfl ?_ | refine valP_ok (ld23 (by assumption) (by assumption)) ?_
        first | refine ls26 0 hS rfl ?_ | refine ls26 1 hS rfl ?_ | refine ls26 2 hS rfl ?_ | refine ls26 3 hS rfl ?_ | refine ls26 4 hS rfl ?_ | refine ls26 5 hS rfl ?_ | refine ls26 6 hS rfl ?_ | refine ls26 7 hS rfl ?_ | refine valP_ok (ld26 (by assumption) (by assumption) (by assumption)) ?_
        refine callR (by kernel_rfl) (check_ret (f := ⟨f.mark, f.late, A1, c1, l1⟩) hcap hB1 hS) ?_
        rintro v w ⟨⟨x, rfl, _, hx⟩, hS⟩
        have hx : x = 0 := hx.2 hF'
        refine valP_ok (eq34 _ _ _ _ _) ?_
        refine cond_dt hx ?_
        first | refine ls23 0 hS rfl ?_ | refine ls23 1 hS rfl ?_ | refine ls23 2 hS rfl ?_ | refine ls23 3 hS rfl ?_ | refine ls23 4 hS rfl ?_ | refine ls23 5 hS rfl ?_ | refine ls23 6 hS rfl ?_ | refine ls23 7 hS rfl ?_ | refine valP_ok (ld23 (by assumption) (by assumption)) ?_
        first | refine ls26 0 hS rfl ?_ | refine ls26 1 hS rfl ?_ | refine ls26 2 hS rfl ?_ | refine ls26 3 hS rfl ?_ | refine ls26 4 hS rfl ?_ | refine ls26 5 hS rfl ?_ | refine ls26 6 hS rfl ?_ | refine ls26 7 hS rfl ?_ | refine valP_ok (ld26 (by assumption) (by assumption) (by assumption)) ?_
        refine callR (by kernel_rfl) (mayflow_ret (f := ⟨f.mark, f.late, A1, c1, l1⟩) hB1 hS) ?_
        rintro v w ⟨⟨t, rfl, ht⟩, hS⟩
        have ht := ht.2 hF'
        subst ht
        refine pick_dt hx ?_
        refine cond_t rfl ?_
        refine callR (by kernel_rfl) (awake_ret hS) ?_
        rintro v w ⟨rfl, hS⟩
        first | refine pick_dt (by first | assumption | omega) ?_ | refine pick_df (by first | assumption | omega) ?_ | refine pick_t (by first | rfl | assumption) ?_ | refine pick_f (by first | rfl | assumption) ?_ | refine pick_dt rfl ?_ | refine pick_df (not_not_intro rfl) ?_
        unfold m4_6
        exact ⟨rfl, hS.below⟩
  · refine valP_ok (extract_ok _ 0 rfl _) ?_
    refine valP_ok (extract_ok _ 1 rfl _) ?_
    refine valP_ok (extract_ok _ 2 rfl _) ?_
    refine new_ok (al26 _) hS ?_
    intro b5 w hS
    first | refine ss26 0 hS rfl rfl rfl rfl ?_ | refine ss26 1 hS rfl rfl rfl rfl ?_ | refine ss26 2 hS rfl rfl rfl rfl ?_ | refine ss26 3 hS rfl rfl rfl rfl ?_ | refine ss26 4 hS rfl rfl rfl rfl ?_ | refine ss26 5 hS rfl rfl rfl rfl ?_ | refine ss26 6 hS rfl rfl rfl rfl ?_ | refine ss26 7 hS rfl rfl rfl rfl ?_
    intro w hS
    simp only [List.set_cons_zero, List.set_cons_succ] at hS
    unfold m4_3
    refine valP_ok (ne34 _ _ _ _ _) ?_
    refine cond_dt he ?_
    first | refine pick_dt (by first | assumption | omega) ?_ | refine pick_df (by first | assumption | omega) ?_ | refine pick_t (by first | rfl | assumption) ?_ | refine pick_f (by first | rfl | assumption) ?_ | refine pick_dt rfl ?_ | refine pick_df (not_not_intro rfl) ?_
    unfold m4_14
    refine cond_t rfl ?_
    refine builtin_ok (len24 _) ?_
    refine valP_ok (eq3 _ _ _ _ _) ?_
    refine cond_dt rfl ?_
    refine builtin_ok (len44 _) ?_
    refine valP_ok (eq3 _ _ _ _ _) ?_
    refine cond_split (fun h => ?_) (fun h => ?_)
    · first | refine pick_dt (by first | assumption | omega) ?_ | refine pick_df (by first | assumption | omega) ?_ | refine pick_t (by first | rfl | assumption) ?_ | refine pick_f (by first | rfl | assumption) ?_ | refine pick_dt rfl ?_ | refine pick_df (not_not_intro rfl) ?_
      first | refine pick_dt (by first | assumption | omega) ?_ | refine pick_df (by first | assumption | omega) ?_ | refine pick_t (by first | rfl | assumption) ?_ | refine pick_f (by first | rfl | assumption) ?_ | refine pick_dt rfl ?_ | refine pick_df (not_not_intro rfl) ?_
      refine cond_t rfl ?_
      refine callR (by kernel_rfl) (awake_ret hS) ?_
      rintro v w ⟨rfl, hS⟩
      first | refine pick_dt (by first | assumption | omega) ?_ | refine pick_df (by first | assumption | omega) ?_ | refine pick_t (by first | rfl | assumption) ?_ | refine pick_f (by first | rfl | assumption) ?_ | refine pick_dt rfl ?_ | refine pick_df (not_not_intro rfl) ?_
      unfold m4_15
      exact ⟨rfl, hS.below⟩
    · refine valP_ok (ne34 _ _ _ _ _) ?_
      first | refine pick_dt (by first | assumption | omega) ?_ | refine pick_df (by first | assumption | omega) ?_ | refine pick_t (by first | rfl | assumption) ?_ | refine pick_f (by first | rfl | assumption) ?_ | refine pick_dt rfl ?_ | refine pick_df (not_not_intro rfl) ?_
      first | refine pick_dt (by first | assumption | omega) ?_ | refine pick_df (by first | assumption | omega) ?_ | refine pick_t (by first | rfl | assumption) ?_ | refine pick_f (by first | rfl | assumption) ?_ | refine pick_dt rfl ?_ | refine pick_df (not_not_intro rfl) ?_
      refine cond_dt he ?_
      refine callR (by kernel_rfl) (awake_ret hS) ?_
      rintro v w ⟨rfl, hS⟩
      refine pick_dt he ?_
      unfold m4_15
      exact ⟨rfl, hS.below⟩
end

end Go.Proofs.Ytojgdmcojmllkaa.M
