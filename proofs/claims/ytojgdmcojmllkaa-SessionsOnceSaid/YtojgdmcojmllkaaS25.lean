/- SessionsWhole: what lies near enough is together. -/
import Derived.Test.YtojgdmcojmllkaaS24
import Derived.Test.YtojgdmcojmllkaaMle0
namespace Go.Proofs.Ytojgdmcojmllkaa.M
open Go.Proofs.Ytojgdmcojmllkaa.F Go.RowKit
set_option linter.unusedVariables false
set_option linter.unusedSimpArgs false
set_option maxRecDepth 100000
set_option maxHeartbeats 2000000
attribute [local irreducible] Res.cells Res.row Res.map Res.any World.cell? World.frozen? Instr.fieldAt Instr.loadAt Instr.storeAt Instr.indexAt Instr.lookup Instr.mapUpdate Instr.box Instr.build Instr.buildSlice Instr.extract Instr.alloc Instr.field Instr.index Instr.sliceAt Instr.makeSlice Instr.makeMap Instr.makeFunc binS Op.unary Sem.run
theorem neg_ok {a : Int} (h1 : -9223372036854775808 < a) (h2 : a ≤ 9223372036854775807) (w : World) : (Op.unary .neg (.int .i64 a)).run Try.prog w = .ok (.int .i64 (-a)) w := by
  simp [Op.unary, go_sem, IntKind.wrap_i64]
  omega
theorem Runs.gap {g : Gp} {l : List In} {f : Fl} {all : List Se} (h : Runs g l f all) (hne : f.L ≠ []) : GapOk g := by
  cases h with
  | nil => exact absurd rfl hne
  | snoc h1 h2 => exact h2.1.flow.gok
section
variable {w0 : World} {A : Option Addr} {c : Nat} {l : List In} {g : Gp}
theorem swhole_ret (hl : Rd w0 3 A l.length (l.flatMap encI)) (hc : l.length ≤ c) : Ret Try.prog 7 #[gv g, .slice A l.length c] w0 fun v w' => v = .bool true ∧ Below w0.heap.size w0 w' := by
  have hS := St.start w0
  refine s7 _ _ ?_
  unfold m7
  unfold m7_0
  refine new_ok (bx23 _ _ _) hS ?_
  intro b2 w hS
  unfold m7_1
  refine callR (by kernel_rfl) (some_ret hc) ?_
  rintro v w ⟨rfl, rfl⟩
  have hl2 := Rd.takeS encI_len 100 hl
  have hll : (l.take 100).length ≤ 100 := by rw [List.length_take]; omega
  generalize l.take 100 = ls at *
  unfold m7_2
  first | refine ls23 0 hS rfl ?_ | refine ls23 1 hS rfl ?_ | refine ls23 2 hS rfl ?_ | refine ls23 3 hS rfl ?_ | refine ls23 4 hS rfl ?_ | refine ls23 5 hS rfl ?_ | refine ls23 6 hS rfl ?_ | refine ls23 7 hS rfl ?_ | refine valP_ok (ld23 (by assumption) (by assumption)) ?_
  refine callR (by kernel_rfl) (run_ret (g := g) (l := ls) (by omega) hS (Bes.of_old0 hl2)) ?_
  rintro v w (⟨f, all, A1, c1, l1, A2, c2, l2, N, hr, rfl, e1, e2, hn, hS, ho, hE⟩ | ⟨er, he, hno, rfl, hS⟩)
  · have hS := front_g hS
    refine valP_ok (extract_ok _ 0 rfl _) ?_
    refine valP_ok (extract_ok _ 1 rfl _) ?_
    refine valP_ok (extract_ok _ 2 rfl _) ?_
    refine new_ok (al26 _) hS ?_
    intro b5 w hS
    first | refine ss26 0 hS rfl rfl rfl rfl ?_ | refine ss26 1 hS rfl rfl rfl rfl ?_ | refine ss26 2 hS rfl rfl rfl rfl ?_ | refine ss26 3 hS rfl rfl rfl rfl ?_ | refine ss26 4 hS rfl rfl rfl rfl ?_ | refine ss26 5 hS rfl rfl rfl rfl ?_ | refine ss26 6 hS rfl rfl rfl rfl ?_ | refine ss26 7 hS rfl rfl rfl rfl ?_
    intro w hS
    simp only [List.set_cons_zero, List.set_cons_succ] at hS
    have hcap := ho.cap
    have hmax := ho.bes.max
    have hB1 : BesS w0 [] (Res.cells b5 26 [.int .i64 f.mark, .int .i64 f.late, .slice A1 l1.length c1] :: gC b2 g :: srow (.slice A2 l2.length c2) l2 :: (N ++ [])) A1 l1 := (((ho.bes.mono fun r hr => List.mem_append_left _ hr).cons _).cons _).cons _
    generalize srow (.slice A2 l2.length c2) l2 :: (N ++ []) = Y at *
    unfold m7_3
    refine valP_ok (ne34 _ _ _ _ _) ?_
    unfold m7_32
    refine cond_df (by simp) ?_
    unfold m7_4 m7_7
    refine loop_in (fun u w' => ∃ i : Nat, u = .int .i64 (i : Int) ∧ i ≤ l1.length ∧ St w0 [] w' (Res.cells b5 26 [.int .i64 f.mark, .int .i64 f.late, .slice A1 l1.length c1] :: gC b2 g :: Y)) (fun u _ => l1.length - (intOf u).toNat) ⟨0, rfl, by omega, hS⟩ ?_
    clear hS
    rintro u w ⟨i, rfl, hi, hS⟩
    unfold m7_8
    first | refine valP_ok (fa26_2 _ _) ?_ | refine valP_ok (fao26_2 _ _ _) ?_
    first | refine valP_ok (ld24 (hS.cell 0 rfl rfl)) ?_ | refine valP_ok (ld24 (hS.cell 1 rfl rfl)) ?_ | refine valP_ok (ld24 (hS.cell 2 rfl rfl)) ?_ | refine valP_ok (ld24 (hS.cell 3 rfl rfl)) ?_ | refine valP_ok (ld24 (hS.cell 4 rfl rfl)) ?_ | refine valP_ok (ld24 (hS.cell 5 rfl rfl)) ?_ | refine valP_ok (ld24 (hS.cell 6 rfl rfl)) ?_ | refine valP_ok (ld24 (hS.cell 7 rfl rfl)) ?_ | refine valP_ok (ld24 (by assumption)) ?_
    refine builtin_ok (len24 _) ?_
    refine valP_ok (lss_ok _ _ _ _ _ _ _) ?_
    unfold m7_31
    refine cond_split (fun h => ?_) (fun h => ?_)
    · have hil : i < l1.length := by omega
      have hne : f.L ≠ [] := fun h => by
        rw [← e1] at h
        have := congrArg List.length h
        simp at this
        rw [this] at hil
        simp at hil
      have hg := hr.gap hne
      have hF := (hr.flow hg).1
      have hmk := hF.mrk
      have hgap := hg.gap
      obtain ⟨b, o, rfl⟩ := (hB1.row.rd hS).some_ (by omega) (by omega)
      have hmi := List.getElem_mem hil
      unfold m7_9 m7_11
      refine loop_in (fun u w' => ∃ k : Nat, u = .int .i64 (k : Int) ∧ k ≤ l1.length ∧ St w0 [] w' (Res.cells b5 26 [.int .i64 f.mark, .int .i64 f.late, .slice (some ⟨b, o, none⟩) l1.length c1] :: gC b2 g :: Y)) (fun u _ => l1.length - (intOf u).toNat) ⟨0, rfl, by omega, hS⟩ ?_
      clear hS
      rintro u w ⟨k, rfl, hk, hS⟩
      unfold m7_12
      first | refine valP_ok (fa26_2 _ _) ?_ | refine valP_ok (fao26_2 _ _ _) ?_
      first | refine valP_ok (ld24 (hS.cell 0 rfl rfl)) ?_ | refine valP_ok (ld24 (hS.cell 1 rfl rfl)) ?_ | refine valP_ok (ld24 (hS.cell 2 rfl rfl)) ?_ | refine valP_ok (ld24 (hS.cell 3 rfl rfl)) ?_ | refine valP_ok (ld24 (hS.cell 4 rfl rfl)) ?_ | refine valP_ok (ld24 (hS.cell 5 rfl rfl)) ?_ | refine valP_ok (ld24 (hS.cell 6 rfl rfl)) ?_ | refine valP_ok (ld24 (hS.cell 7 rfl rfl)) ?_ | refine valP_ok (ld24 (by assumption)) ?_
      refine builtin_ok (len24 _) ?_
      refine valP_ok (lss_ok _ _ _ _ _ _ _) ?_
      unfold m7_30
      refine cond_split (fun h2 => ?_) (fun h2 => ?_)
      · have hkl : k < l1.length := by omega
        have hmk' := List.getElem_mem hkl
        have p := sp_at (hB1.row.rd hS) hil
        have q := sp_at (hB1.row.rd hS) hkl
        have skip : ∀ w, St w0 [] w (Res.cells b5 26 [.int .i64 f.mark, .int .i64 f.late, .slice (some ⟨b, o, none⟩) l1.length c1] :: gC b2 g :: Y) → ∀ K1 (K2 : Value → World → Prop), (∀ w, St w0 [] w (Res.cells b5 26 [.int .i64 f.mark, .int .i64 f.late, .slice (some ⟨b, o, none⟩) l1.length c1] :: gC b2 g :: Y) → K2 (.int .i64 ((k + 1 : Nat) : Int)) w) → m7_14 (fun v w' => v = .bool true ∧ Below w0.heap.size w0 w') K1 K2 (.pointer (some ⟨b2, 0, none⟩)) (.pointer (some ⟨b5, 0, none⟩)) (.int .i64 i) (.int .i64 k) w := by
          clear hS p q
          intro w hS K1 K2 hK
          unfold m7_14
          refine valP_ok (add_ok _ _ _ (by omega) (by omega) _) ?_
          exact hK w hS
        have inv : ∀ w, St w0 [] w (Res.cells b5 26 [.int .i64 f.mark, .int .i64 f.late, .slice (some ⟨b, o, none⟩) l1.length c1] :: gC b2 g :: Y) → (∃ k' : Nat, Value.int .i64 ((k + 1 : Nat) : Int) = .int .i64 (k' : Int) ∧ k' ≤ l1.length ∧ St w0 [] w (Res.cells b5 26 [.int .i64 f.mark, .int .i64 f.late, .slice (some ⟨b, o, none⟩) l1.length c1] :: gC b2 g :: Y)) ∧ l1.length - (intOf (.int .i64 ((k + 1 : Nat) : Int))).toNat < l1.length - (intOf (.int .i64 (k : Int))).toNat := fun w hS => ⟨⟨k + 1, rfl, by omega, hS⟩, by simp [intOf]; omega⟩
        unfold m7_13
        refine valQ_ok (eq3 _ _ _ _) ?_
        refine cond_split (fun h3 => ?_) (fun h3 => ?_)
        · first | refine pick_dt (by first | assumption | omega) ?_ | refine pick_df (by first | assumption | omega) ?_ | refine pick_t (by first | rfl | assumption) ?_ | refine pick_f (by first | rfl | assumption) ?_ | refine pick_dt rfl ?_ | refine pick_df (not_not_intro rfl) ?_
          refine drawn_ok hS ?_
          intro w hS
          unfold m7_29
          refine cond_t rfl ?_
          exact skip w hS _ _ inv
        · have hik : i ≠ k := by omega
          refine valQ_ok (fa26_2 _) ?_
          refine valQ_load ld24 (hS.cell 0 rfl rfl) ?_
          refine valQ_ok (ix24 hil) ?_
          refine valQ_ok (fao33_0 _ _) ?_
          refine valQ_load ld3 p.1 ?_
          refine valQ_ok (fa26_2 _) ?_
          refine valQ_load ld24 (hS.cell 0 rfl rfl) ?_
          refine valQ_ok (ix24 hkl) ?_
          refine valQ_ok (fao33_0 _ _) ?_
          refine valQ_load ld3 q.1 ?_
          refine valQ_ok (ne3 _ _ _ _) ?_
          first | refine pick_dt (by first | assumption | omega) ?_ | refine pick_df (by first | assumption | omega) ?_ | refine pick_t (by first | rfl | assumption) ?_ | refine pick_f (by first | rfl | assumption) ?_ | refine pick_dt rfl ?_ | refine pick_df (not_not_intro rfl) ?_
          refine drawn_ok hS ?_
          intro w hS
          unfold m7_29
          refine cond_split (fun h4 => ?_) (fun h4 => ?_)
          · exact skip w hS _ _ inv
          · have hkey : l1[i].s.key = l1[k].s.key := Decidable.not_not.1 h4
            have hsi : l1[i].s ∈ f.L := by rw [← e1]; exact List.mem_map.2 ⟨_, hmi, rfl⟩
            have hsk : l1[k].s ∈ f.L := by rw [← e1]; exact List.mem_map.2 ⟨_, hmk', rfl⟩
            have hnes : l1[i].s ≠ l1[k].s := fun e => by
              have hF1 : FlowOk g f.mark f.late (ses l1) := by rw [e1]; exact hF
              have hpw := (flow_pre.1 hF1).2.2.2.2.pair
              rcases Nat.lt_or_gt_of_ne hik with h5 | h5
              · have := (hpw i k h5 hkl hkl).1
                rw [e] at this
                exact bef_not this this
              · have := (hpw k i h5 hil hil).1
                rw [e] at this
                exact bef_not this this
            have far : ∀ x ∈ l1[i].s.l, ∀ y ∈ l1[k].s.l, (g.gap < x.t - y.t ∨ g.gap < y.t - x.t) ∧ 0 ≤ x.t ∧ x.t ≤ 1099511627776 ∧ 0 ≤ y.t ∧ y.t ≤ 1099511627776 := fun x hx y hy => by
              have h1 := flow_apart hF hsi hsk hnes hkey hx hy
              obtain ⟨j, hj, rfl⟩ := List.mem_iff_getElem.1 hx
              obtain ⟨j2, hj2, rfl⟩ := List.mem_iff_getElem.1 hy
              have t1 := (hF.span _ hsi).time j hj
              have t2 := (hF.span _ hsk).time j2 hj2
              exact ⟨h1, by omega, by omega, by omega, by omega⟩
            have hei := ho.bes.emax _ hmi
            have hek := ho.bes.emax _ hmk'
            unfold m7_15 m7_16
            refine loop_in (fun u w' => ∃ a : Nat, u = .int .i64 (a : Int) ∧ a ≤ l1[i].s.l.length ∧ St w0 [] w' (Res.cells b5 26 [.int .i64 f.mark, .int .i64 f.late, .slice (some ⟨b, o, none⟩) l1.length c1] :: gC b2 g :: Y)) (fun u _ => l1[i].s.l.length - (intOf u).toNat) ⟨0, rfl, by omega, hS⟩ ?_
            clear hS p q
            rintro u w ⟨a, rfl, ha, hS⟩
            have p := sp_at (hB1.row.rd hS) hil
            unfold m7_17
            first | refine valP_ok (fa26_2 _ _) ?_ | refine valP_ok (fao26_2 _ _ _) ?_
            first | refine valP_ok (ld24 (hS.cell 0 rfl rfl)) ?_ | refine valP_ok (ld24 (hS.cell 1 rfl rfl)) ?_ | refine valP_ok (ld24 (hS.cell 2 rfl rfl)) ?_ | refine valP_ok (ld24 (hS.cell 3 rfl rfl)) ?_ | refine valP_ok (ld24 (hS.cell 4 rfl rfl)) ?_ | refine valP_ok (ld24 (hS.cell 5 rfl rfl)) ?_ | refine valP_ok (ld24 (hS.cell 6 rfl rfl)) ?_ | refine valP_ok (ld24 (hS.cell 7 rfl rfl)) ?_ | refine valP_ok (ld24 (by assumption)) ?_
            refine valP_ok (ix24 hil _) ?_
            refine valP_ok (fao33_1 _ _ _) ?_
            refine valP_ok (ld31 p.2) ?_
            refine builtin_ok (len31 _) ?_
            refine valP_ok (lss_ok _ _ _ _ _ _ _) ?_
            unfold m7_28
            refine cond_split (fun h5 => ?_) (fun h5 => ?_)
            · have hal : a < l1[i].s.l.length := by omega
              unfold m7_18 m7_20
              refine loop_in (fun u w' => ∃ d : Nat, u = .int .i64 (d : Int) ∧ d ≤ l1[k].s.l.length ∧ St w0 [] w' (Res.cells b5 26 [.int .i64 f.mark, .int .i64 f.late, .slice (some ⟨b, o, none⟩) l1.length c1] :: gC b2 g :: Y)) (fun u _ => l1[k].s.l.length - (intOf u).toNat) ⟨0, rfl, by omega, hS⟩ ?_
              clear hS p
              rintro u w ⟨d, rfl, hd, hS⟩
              have p := sp_at (hB1.row.rd hS) hil
              have q := sp_at (hB1.row.rd hS) hkl
              unfold m7_21
              first | refine valP_ok (fa26_2 _ _) ?_ | refine valP_ok (fao26_2 _ _ _) ?_
              first | refine valP_ok (ld24 (hS.cell 0 rfl rfl)) ?_ | refine valP_ok (ld24 (hS.cell 1 rfl rfl)) ?_ | refine valP_ok (ld24 (hS.cell 2 rfl rfl)) ?_ | refine valP_ok (ld24 (hS.cell 3 rfl rfl)) ?_ | refine valP_ok (ld24 (hS.cell 4 rfl rfl)) ?_ | refine valP_ok (ld24 (hS.cell 5 rfl rfl)) ?_ | refine valP_ok (ld24 (hS.cell 6 rfl rfl)) ?_ | refine valP_ok (ld24 (hS.cell 7 rfl rfl)) ?_ | refine valP_ok (ld24 (by assumption)) ?_
              refine valP_ok (ix24 hkl _) ?_
              refine valP_ok (fao33_1 _ _ _) ?_
              refine valP_ok (ld31 q.2) ?_
              refine builtin_ok (len31 _) ?_
              refine valP_ok (lss_ok _ _ _ _ _ _ _) ?_
              unfold m7_27
              refine cond_split (fun h6 => ?_) (fun h6 => ?_)
              · have hdl : d < l1[k].s.l.length := by omega
                obtain ⟨hfar, x0, x1, y0, y1⟩ := far _ (List.getElem_mem hal) _ (List.getElem_mem hdl)
                have r1 := (hB1.evs _ hmi).rd hS
                have r2 := (hB1.evs _ hmk').rd hS
                obtain ⟨a1, o1, hA1⟩ := r1.some_ (by omega) (by omega)
                obtain ⟨a2, o2, hA2⟩ := r2.some_ (by omega) (by omega)
                rw [hA1] at r1
                rw [hA2] at r2
                have s := ev_at r1 hal
                have t := ev_at r2 hdl
                unfold m7_22
                refine valQ_ok (fa26_2 _) ?_
                refine valQ_load ld24 (hS.cell 0 rfl rfl) ?_
                refine valQ_ok (ix24 hil) ?_
                refine valQ_ok (fao33_1 _ _) ?_
                refine valQ_load ld31 p.2 ?_
                refine valQ_ok (ix31A hA1 hal) ?_
                refine valQ_ok (fao28_0 _ _) ?_
                refine valQ_load ld3 s.1 ?_
                refine valQ_ok (fa26_2 _) ?_
                refine valQ_load ld24 (hS.cell 0 rfl rfl) ?_
                refine valQ_ok (ix24 hkl) ?_
                refine valQ_ok (fao33_1 _ _) ?_
                refine valQ_load ld31 q.2 ?_
                refine valQ_ok (ix31A hA2 hdl) ?_
                refine valQ_ok (fao28_0 _ _) ?_
                refine valQ_load ld3 t.1 ?_
                refine valQ_ok (sub_ok _ _ _ (by omega) (by omega)) ?_
                refine drawn_ok hS ?_
                intro w hS
                have cont : ∀ w t, t = false → St w0 [] w (Res.cells b5 26 [.int .i64 f.mark, .int .i64 f.late, .slice (some ⟨b, o, none⟩) l1.length c1] :: gC b2 g :: Y) → ∀ K1 K2 K3 (K4 : Value → World → Prop), (∀ w, St w0 [] w (Res.cells b5 26 [.int .i64 f.mark, .int .i64 f.late, .slice (some ⟨b, o, none⟩) l1.length c1] :: gC b2 g :: Y) → K4 (.int .i64 ((d + 1 : Nat) : Int)) w) → m7_25 (fun v w' => v = .bool true ∧ Below w0.heap.size w0 w') K1 K2 K3 K4 (.pointer (some ⟨b2, 0, none⟩)) (.pointer (some ⟨b5, 0, none⟩)) (.int .i64 i) (.int .i64 k) (.int .i64 a) (.int .i64 d) (.bool t) w := by
                  clear hS p q s t r1 r2
                  intro w t ht hS K1 K2 K3 K4 hK
                  unfold m7_25
                  refine cond_f ht ?_
                  unfold m7_23
                  refine valP_ok (add_ok _ _ _ (by omega) (by omega) _) ?_
                  exact hK w hS
                have inv4 : ∀ w, St w0 [] w (Res.cells b5 26 [.int .i64 f.mark, .int .i64 f.late, .slice (some ⟨b, o, none⟩) l1.length c1] :: gC b2 g :: Y) → (∃ d' : Nat, Value.int .i64 ((d + 1 : Nat) : Int) = .int .i64 (d' : Int) ∧ d' ≤ l1[k].s.l.length ∧ St w0 [] w (Res.cells b5 26 [.int .i64 f.mark, .int .i64 f.late, .slice (some ⟨b, o, none⟩) l1.length c1] :: gC b2 g :: Y)) ∧ l1[k].s.l.length - (intOf (.int .i64 ((d + 1 : Nat) : Int))).toNat < l1[k].s.l.length - (intOf (.int .i64 (d : Int))).toNat := fun w hS => ⟨⟨d + 1, rfl, by omega, hS⟩, by simp [intOf]; omega⟩
                unfold m7_24
                first | refine valP_ok (fa23_0 _ _) ?_ | refine valP_ok (fao23_0 _ _ _) ?_
                first | refine valP_ok (ld3 (hS.cell 0 rfl rfl)) ?_ | refine valP_ok (ld3 (hS.cell 1 rfl rfl)) ?_ | refine valP_ok (ld3 (hS.cell 2 rfl rfl)) ?_ | refine valP_ok (ld3 (hS.cell 3 rfl rfl)) ?_ | refine valP_ok (ld3 (hS.cell 4 rfl rfl)) ?_ | refine valP_ok (ld3 (hS.cell 5 rfl rfl)) ?_ | refine valP_ok (ld3 (hS.cell 6 rfl rfl)) ?_ | refine valP_ok (ld3 (hS.cell 7 rfl rfl)) ?_ | refine valP_ok (ld3 (by assumption)) ?_
                refine valP_ok (leq_ok _ _ _ _ _ _ _) ?_
                refine cond_split (fun h7 => ?_) (fun h7 => ?_)
                · first | refine valP_ok (fa23_0 _ _) ?_ | refine valP_ok (fao23_0 _ _ _) ?_
                  first | refine valP_ok (ld3 (hS.cell 0 rfl rfl)) ?_ | refine valP_ok (ld3 (hS.cell 1 rfl rfl)) ?_ | refine valP_ok (ld3 (hS.cell 2 rfl rfl)) ?_ | refine valP_ok (ld3 (hS.cell 3 rfl rfl)) ?_ | refine valP_ok (ld3 (hS.cell 4 rfl rfl)) ?_ | refine valP_ok (ld3 (hS.cell 5 rfl rfl)) ?_ | refine valP_ok (ld3 (hS.cell 6 rfl rfl)) ?_ | refine valP_ok (ld3 (hS.cell 7 rfl rfl)) ?_ | refine valP_ok (ld3 (by assumption)) ?_
                  refine valP_ok (neg_ok (by omega) (by omega) _) ?_
                  refine valP_ok (geq_ok _ _ _ _ _ _ _) ?_
                  first | refine pick_dt (by first | assumption | omega) ?_ | refine pick_df (by first | assumption | omega) ?_ | refine pick_t (by first | rfl | assumption) ?_ | refine pick_f (by first | rfl | assumption) ?_ | refine pick_dt rfl ?_ | refine pick_df (not_not_intro rfl) ?_
                  exact cont w _ (decide_eq_false (by omega)) hS _ _ _ _ inv4
                · first | refine pick_dt (by first | assumption | omega) ?_ | refine pick_df (by first | assumption | omega) ?_ | refine pick_t (by first | rfl | assumption) ?_ | refine pick_f (by first | rfl | assumption) ?_ | refine pick_dt rfl ?_ | refine pick_df (not_not_intro rfl) ?_
                  exact cont w _ rfl hS _ _ _ _ inv4
              · unfold m7_19
                refine valP_ok (add_ok _ _ _ (by omega) (by omega) _) ?_
                exact ⟨⟨a + 1, rfl, by omega, hS⟩, by simp [intOf]; omega⟩
            · exact skip w hS _ _ inv
      · unfold m7_10
        refine valP_ok (add_ok _ _ _ (by omega) (by omega) _) ?_
        exact ⟨⟨i + 1, rfl, by omega, hS⟩, by simp [intOf]; omega⟩
    · unfold m7_5
      refine callR (by kernel_rfl) (awake_ret hS) ?_
      rintro v w ⟨rfl, hS⟩
      unfold m7_6
      exact ⟨rfl, hS.below⟩
  · refine valP_ok (extract_ok _ 0 rfl _) ?_
    refine valP_ok (extract_ok _ 1 rfl _) ?_
    refine valP_ok (extract_ok _ 2 rfl _) ?_
    refine new_ok (al26 _) hS ?_
    intro b5 w hS
    first | refine ss26 0 hS rfl rfl rfl rfl ?_ | refine ss26 1 hS rfl rfl rfl rfl ?_ | refine ss26 2 hS rfl rfl rfl rfl ?_ | refine ss26 3 hS rfl rfl rfl rfl ?_ | refine ss26 4 hS rfl rfl rfl rfl ?_ | refine ss26 5 hS rfl rfl rfl rfl ?_ | refine ss26 6 hS rfl rfl rfl rfl ?_ | refine ss26 7 hS rfl rfl rfl rfl ?_
    intro w hS
    simp only [List.set_cons_zero, List.set_cons_succ] at hS
    unfold m7_3
    refine valP_ok (ne34 _ _ _ _ _) ?_
    unfold m7_32
    refine cond_dt he ?_
    refine builtin_ok (len24 _) ?_
    refine valP_ok (eq3 _ _ _ _ _) ?_
    refine cond_dt rfl ?_
    refine callR (by kernel_rfl) (awake_ret hS) ?_
    rintro v w ⟨rfl, hS⟩
    first | refine pick_dt (by first | assumption | omega) ?_ | refine pick_df (by first | assumption | omega) ?_ | refine pick_t (by first | rfl | assumption) ?_ | refine pick_f (by first | rfl | assumption) ?_ | refine pick_dt rfl ?_ | refine pick_df (not_not_intro rfl) ?_
    unfold m7_33
    exact ⟨rfl, hS.below⟩
end

end Go.Proofs.Ytojgdmcojmllkaa.M
