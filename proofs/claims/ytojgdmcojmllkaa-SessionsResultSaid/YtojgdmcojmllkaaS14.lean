/- Add's contract. -/
import Derived.Test.YtojgdmcojmllkaaS13
namespace Go.Proofs.Ytojgdmcojmllkaa.M
open Go.Proofs.Ytojgdmcojmllkaa.F Go.RowKit
set_option linter.unusedVariables false
set_option linter.unusedSimpArgs false
set_option maxRecDepth 100000
set_option maxHeartbeats 2000000
attribute [local irreducible] Res.cells Res.row Res.map Res.any World.cell? World.frozen? Instr.fieldAt Instr.loadAt Instr.storeAt Instr.indexAt Instr.lookup Instr.mapUpdate Instr.box Instr.build Instr.buildSlice Instr.extract Instr.alloc Instr.field Instr.index Instr.sliceAt Instr.makeSlice Instr.makeMap Instr.makeFunc binS Op.unary Sem.run
section
variable {w0 w : World} {F : List Nat} {L : List Res} {g : Gp} {key : Int} {e : Ev} {f : Fq}
theorem mid_ok {g : Gp} {f : Fl} {key : Int} {e : Ev} (h : FlowOk g f.mark f.late f.L) : (midL g f key e).length ≤ 64 ∧ ∀ s ∈ midL g f key e, 1 ≤ s.l.length := by
  unfold midL
  split
  · exact ⟨h.len, fun s hs => (h.span s hs).len.1⟩
  · rename_i hd
    have hj : JoinOk g f.L key e := Decidable.not_not.1 fun hn => hd (.inr hn)
    refine ⟨hj.2, fun s hs => ?_⟩
    rcases List.mem_cons.1 ((setS_perm _ _).mem_iff.1 hs) with rfl | hs
    · show 1 ≤ (putsE _ _).length
      rw [putsE_len]
      simp
    · exact (h.span s (List.mem_filter.1 hs).1).len.1
/-- what Add tells. -/
def AddRes (w0 : World) (F : List Nat) (L K : List Res) (g : Gp) (f : Fl) (key : Int) (e : Ev) (v : Value) (w' : World) : Prop :=
  (¬ AddOk g f key e → v = .tuple #[.agg #[.int .i64 0, .int .i64 0, .slice none 0 0], .slice none 0 0, .int .i64 1] ∧ St w0 F w' L) ∧
  (AddOk g f key e → f.late = 1099511627776 → v = .tuple #[.agg #[.int .i64 0, .int .i64 0, .slice none 0 0], .slice none 0 0, .int .i64 6] ∧ St w0 F w' L) ∧
  (AddOk g f key e → f.late ≠ 1099511627776 → ∃ A1 c1 l1 A2 c2 l2 N, v = .tuple #[.agg #[.int .i64 (addS g f key e).mark, .int .i64 (addS g f key e).late, .slice A1 l1.length c1], .slice A2 l2.length c2, .int .i64 0] ∧
    ses l1 = (addS g f key e).L ∧ ses l2 = shutS g f key e ∧ St w0 F w' (N ++ L) ∧ SOk w0 F (N ++ K) A1 c1 l1 ∧ SOk w0 F (N ++ K) A2 c2 l2)
theorem add_m {R : Value → World → Prop} (hf : SOk w0 F L f.A f.c f.l) (hS : St w0 F w L) (hR : ∀ v w, AddRes w0 F L [] g f.fl key e v w → R v w) : m11 R (gv g) (fv f) (.int .i64 key) (ev e) w := by
  obtain ⟨fm, fl, fA, fc, fL⟩ := f
  obtain ⟨hB, hcap, hnil⟩ := hf
  simp only at hB hcap hnil
  have hR : ∀ v w, AddRes w0 F L [] g ⟨fm, fl, ses fL⟩ key e v w → R v w := hR
  show m11 R (gv g) (.agg #[.int .i64 fm, .int .i64 fl, .slice fA fL.length fc]) (.int .i64 key) (ev e) w
  unfold m11
  unfold m11_0
  refine new_ok (bx23 _ _ _) hS ?_
  intro b4 w hS
  refine new_ok (bx26 _ _ _ _) hS ?_
  intro b5 w hS
  refine new_ok (bx28 _ _ _) hS ?_
  intro b7 w hS
  refine new_ok (al26 _) hS ?_
  intro b8 w hS
  have leaf : ∀ w t, (t = false ↔ AddOk g ⟨fm, fl, ses fL⟩ key e) → St w0 F w (Res.cells b8 26 [.int .i64 0, .int .i64 0, .slice none 0 0] :: Res.cells b7 28 (encE e) :: Res.cells b5 26 [.int .i64 fm, .int .i64 fl, .slice fA fL.length fc] :: gC b4 g :: L) → m11_24 R (.int .i64 key) (.pointer (some ⟨b4, 0, none⟩)) (.pointer (some ⟨b5, 0, none⟩)) (.pointer (some ⟨b7, 0, none⟩)) (.pointer (some ⟨b8, 0, none⟩)) (.bool t) w := by
    clear hS
    intro w t ht hS
    unfold m11_24
    cases t with
    | true =>
      have hno : ¬ AddOk g ⟨fm, fl, ses fL⟩ key e := fun h => by have := ht.2 h; cases this
      refine cond_t rfl ?_
      refine valP_ok (bd26 _) ?_
      first | refine ss26 0 hS rfl rfl rfl rfl ?_ | refine ss26 1 hS rfl rfl rfl rfl ?_ | refine ss26 2 hS rfl rfl rfl rfl ?_ | refine ss26 3 hS rfl rfl rfl rfl ?_ | refine ss26 4 hS rfl rfl rfl rfl ?_ | refine ss26 5 hS rfl rfl rfl rfl ?_ | refine ss26 6 hS rfl rfl rfl rfl ?_ | refine ss26 7 hS rfl rfl rfl rfl ?_
      intro w hS
      simp only [List.set_cons_zero, List.set_cons_succ] at hS
      unfold m11_25
      refine valS_ok (lc26 (hS.cell 0 rfl rfl) (hS.cell 0 rfl rfl) (hS.cell 0 rfl rfl)) ?_
      exact hR _ _ ⟨fun _ => ⟨rfl, hS.tail.tail.tail.tail⟩, fun h => absurd h hno, fun h => absurd h hno⟩
    | false =>
      have hok := ht.1 rfl
      have hF : FlowOk g fm fl (ses fL) := hok.flow
      have hte := hok.time
      refine cond_f rfl ?_
      unfold m11_2
      first | refine valP_ok (fa26_1 _ _) ?_ | refine valP_ok (fao26_1 _ _ _) ?_
      first | refine valP_ok (ld3 (hS.cell 0 rfl rfl)) ?_ | refine valP_ok (ld3 (hS.cell 1 rfl rfl)) ?_ | refine valP_ok (ld3 (hS.cell 2 rfl rfl)) ?_ | refine valP_ok (ld3 (hS.cell 3 rfl rfl)) ?_ | refine valP_ok (ld3 (hS.cell 4 rfl rfl)) ?_ | refine valP_ok (ld3 (hS.cell 5 rfl rfl)) ?_ | refine valP_ok (ld3 (hS.cell 6 rfl rfl)) ?_ | refine valP_ok (ld3 (hS.cell 7 rfl rfl)) ?_ | refine valP_ok (ld3 (by assumption)) ?_
      refine valP_ok (eq3 _ _ _ _ _) ?_
      unfold m11_22
      refine cond_split (fun h => ?_) (fun h => ?_)
      · refine valP_ok (bd26 _) ?_
        first | refine ss26 0 hS rfl rfl rfl rfl ?_ | refine ss26 1 hS rfl rfl rfl rfl ?_ | refine ss26 2 hS rfl rfl rfl rfl ?_ | refine ss26 3 hS rfl rfl rfl rfl ?_ | refine ss26 4 hS rfl rfl rfl rfl ?_ | refine ss26 5 hS rfl rfl rfl rfl ?_ | refine ss26 6 hS rfl rfl rfl rfl ?_ | refine ss26 7 hS rfl rfl rfl rfl ?_
        intro w hS
        simp only [List.set_cons_zero, List.set_cons_succ] at hS
        unfold m11_23
        refine valS_ok (lc26 (hS.cell 0 rfl rfl) (hS.cell 0 rfl rfl) (hS.cell 0 rfl rfl)) ?_
        exact hR _ _ ⟨fun h => absurd hok h, fun _ _ => ⟨rfl, hS.tail.tail.tail.tail⟩, fun _ hn => absurd h hn⟩
      · have hmk := hF.mrk
        have hlt := hF.lt
        have hg := hF.gok
        unfold m11_3
        first | refine ls23 0 hS rfl ?_ | refine ls23 1 hS rfl ?_ | refine ls23 2 hS rfl ?_ | refine ls23 3 hS rfl ?_ | refine ls23 4 hS rfl ?_ | refine ls23 5 hS rfl ?_ | refine ls23 6 hS rfl ?_ | refine ls23 7 hS rfl ?_ | refine valP_ok (ld23 (by assumption) (by assumption)) ?_
        first | refine valP_ok (fa26_2 _ _) ?_ | refine valP_ok (fao26_2 _ _ _) ?_
        first | refine valP_ok (ld24 (hS.cell 0 rfl rfl)) ?_ | refine valP_ok (ld24 (hS.cell 1 rfl rfl)) ?_ | refine valP_ok (ld24 (hS.cell 2 rfl rfl)) ?_ | refine valP_ok (ld24 (hS.cell 3 rfl rfl)) ?_ | refine valP_ok (ld24 (hS.cell 4 rfl rfl)) ?_ | refine valP_ok (ld24 (hS.cell 5 rfl rfl)) ?_ | refine valP_ok (ld24 (hS.cell 6 rfl rfl)) ?_ | refine valP_ok (ld24 (hS.cell 7 rfl rfl)) ?_ | refine valP_ok (ld24 (by assumption)) ?_
        first | refine ls28 0 hS rfl ?_ | refine ls28 1 hS rfl ?_ | refine ls28 2 hS rfl ?_ | refine ls28 3 hS rfl ?_ | refine ls28 4 hS rfl ?_ | refine ls28 5 hS rfl ?_ | refine ls28 6 hS rfl ?_ | refine ls28 7 hS rfl ?_ | refine valP_ok (ld28 (by assumption) (by assumption)) ?_
        refine callR (by kernel_rfl) (join_ret hF hte hS ((((hB.cons _).cons _).cons _).cons _)) ?_
        rintro v w ⟨A', c', l', ok, N, rfl, hl', hok', hS, hK⟩
        have hB' := hK L hB
        have hS : St w0 F w (Res.cells b8 26 [.int .i64 0, .int .i64 0, .slice none 0 0] :: Res.cells b7 28 (encE e) :: Res.cells b5 26 [.int .i64 fm, .int .i64 fl, .slice fA fL.length fc] :: gC b4 g :: (N ++ L)) :=
          St.swap (A := N) (B := [Res.cells b8 26 [.int .i64 0, .int .i64 0, .slice none 0 0], Res.cells b7 28 (encE e), Res.cells b5 26 [.int .i64 fm, .int .i64 fl, .slice fA fL.length fc], gC b4 g]) hS
        refine valP_ok (extract_ok _ 0 rfl _) ?_
        refine valP_ok (extract_ok _ 1 rfl _) ?_
        unfold m11_4
        first | refine ls23 0 hS rfl ?_ | refine ls23 1 hS rfl ?_ | refine ls23 2 hS rfl ?_ | refine ls23 3 hS rfl ?_ | refine ls23 4 hS rfl ?_ | refine ls23 5 hS rfl ?_ | refine ls23 6 hS rfl ?_ | refine ls23 7 hS rfl ?_ | refine valP_ok (ld23 (by assumption) (by assumption)) ?_
        first | refine valP_ok (fa28_0 _ _) ?_ | refine valP_ok (fao28_0 _ _ _) ?_
        first | refine valP_ok (ld3 (hS.cell 0 rfl rfl)) ?_ | refine valP_ok (ld3 (hS.cell 1 rfl rfl)) ?_ | refine valP_ok (ld3 (hS.cell 2 rfl rfl)) ?_ | refine valP_ok (ld3 (hS.cell 3 rfl rfl)) ?_ | refine valP_ok (ld3 (hS.cell 4 rfl rfl)) ?_ | refine valP_ok (ld3 (hS.cell 5 rfl rfl)) ?_ | refine valP_ok (ld3 (hS.cell 6 rfl rfl)) ?_ | refine valP_ok (ld3 (hS.cell 7 rfl rfl)) ?_ | refine valP_ok (ld3 (by assumption)) ?_
        first | refine valP_ok (fa26_0 _ _) ?_ | refine valP_ok (fao26_0 _ _ _) ?_
        first | refine valP_ok (ld3 (hS.cell 0 rfl rfl)) ?_ | refine valP_ok (ld3 (hS.cell 1 rfl rfl)) ?_ | refine valP_ok (ld3 (hS.cell 2 rfl rfl)) ?_ | refine valP_ok (ld3 (hS.cell 3 rfl rfl)) ?_ | refine valP_ok (ld3 (hS.cell 4 rfl rfl)) ?_ | refine valP_ok (ld3 (hS.cell 5 rfl rfl)) ?_ | refine valP_ok (ld3 (hS.cell 6 rfl rfl)) ?_ | refine valP_ok (ld3 (hS.cell 7 rfl rfl)) ?_ | refine valP_ok (ld3 (by assumption)) ?_
        refine callR (by kernel_rfl) (over_ret hg ⟨by omega, hmk.2⟩ hS) ?_
        rintro v w ⟨⟨t, rfl, ht⟩, hS⟩
        have rest : ∀ w (lt : Int) lA lc lm, lt = (if Drop g ⟨fm, fl, ses fL⟩ key e then fl + 1 else fl) → ses lm = midL g ⟨fm, fl, ses fL⟩ key e → BesS w0 F (N ++ L) lA lm → (∀ s ∈ lm, s.s.l.length ≤ 5000) → St w0 F w (Res.cells b8 26 [.int .i64 0, .int .i64 0, .slice none 0 0] :: Res.cells b7 28 (encE e) :: Res.cells b5 26 [.int .i64 fm, .int .i64 lt, .slice fA fL.length fc] :: gC b4 g :: (N ++ L)) → m11_5 R (.pointer (some ⟨b4, 0, none⟩)) (.pointer (some ⟨b5, 0, none⟩)) (.pointer (some ⟨b7, 0, none⟩)) (.pointer (some ⟨b8, 0, none⟩)) (.slice lA lm.length lc) w := by
          clear hS
          intro w lt lA lc lm hlt hlm hBm hsz hS
          unfold m11_5
          first | refine valP_ok (fa26_0 _ _) ?_ | refine valP_ok (fao26_0 _ _ _) ?_
          first | refine valP_ok (ld3 (hS.cell 0 rfl rfl)) ?_ | refine valP_ok (ld3 (hS.cell 1 rfl rfl)) ?_ | refine valP_ok (ld3 (hS.cell 2 rfl rfl)) ?_ | refine valP_ok (ld3 (hS.cell 3 rfl rfl)) ?_ | refine valP_ok (ld3 (hS.cell 4 rfl rfl)) ?_ | refine valP_ok (ld3 (hS.cell 5 rfl rfl)) ?_ | refine valP_ok (ld3 (hS.cell 6 rfl rfl)) ?_ | refine valP_ok (ld3 (hS.cell 7 rfl rfl)) ?_ | refine valP_ok (ld3 (by assumption)) ?_
          first | refine valP_ok (fa28_0 _ _) ?_ | refine valP_ok (fao28_0 _ _ _) ?_
          first | refine valP_ok (ld3 (hS.cell 0 rfl rfl)) ?_ | refine valP_ok (ld3 (hS.cell 1 rfl rfl)) ?_ | refine valP_ok (ld3 (hS.cell 2 rfl rfl)) ?_ | refine valP_ok (ld3 (hS.cell 3 rfl rfl)) ?_ | refine valP_ok (ld3 (hS.cell 4 rfl rfl)) ?_ | refine valP_ok (ld3 (hS.cell 5 rfl rfl)) ?_ | refine valP_ok (ld3 (hS.cell 6 rfl rfl)) ?_ | refine valP_ok (ld3 (hS.cell 7 rfl rfl)) ?_ | refine valP_ok (ld3 (by assumption)) ?_
          refine builtin_ok (max_run _ _ _) ?_
          first | refine valP_ok (fa26_0 _ _) ?_ | refine valP_ok (fao26_0 _ _ _) ?_
          first | refine store_at 0 st3 hS rfl (by simp) rfl ?_ | refine store_at 1 st3 hS rfl (by simp) rfl ?_ | refine store_at 2 st3 hS rfl (by simp) rfl ?_ | refine store_at 3 st3 hS rfl (by simp) rfl ?_ | refine store_at 4 st3 hS rfl (by simp) rfl ?_ | refine store_at 5 st3 hS rfl (by simp) rfl ?_ | refine store_at 6 st3 hS rfl (by simp) rfl ?_ | refine store_at 7 st3 hS rfl (by simp) rfl ?_
          intro w hS
          simp only [List.set_cons_zero, List.set_cons_succ] at hS
          unfold m11_6
          first | refine valP_ok (fa26_2 _ _) ?_ | refine valP_ok (fao26_2 _ _ _) ?_
          first | refine store_at 0 st24 hS rfl (by simp) rfl ?_ | refine store_at 1 st24 hS rfl (by simp) rfl ?_ | refine store_at 2 st24 hS rfl (by simp) rfl ?_ | refine store_at 3 st24 hS rfl (by simp) rfl ?_ | refine store_at 4 st24 hS rfl (by simp) rfl ?_ | refine store_at 5 st24 hS rfl (by simp) rfl ?_ | refine store_at 6 st24 hS rfl (by simp) rfl ?_ | refine store_at 7 st24 hS rfl (by simp) rfl ?_
          intro w hS
          simp only [List.set_cons_zero, List.set_cons_succ] at hS
          have hmid := mid_ok (g := g) (f := ⟨fm, fl, ses fL⟩) (key := key) (e := e) hF
          rw [← hlm] at hmid
          refine add_rest (N := N) (L := L) hg ⟨by omega, by omega⟩ (by have := hmid.1; rw [List.length_map] at this; exact this) (fun s hs => ⟨hmid.2 _ (List.mem_map.2 ⟨s, hs, rfl⟩), hsz s hs⟩) (hS.pick 4 [2, 0, 3] (by simp) (by decide)) hBm ?_
          intro w A1 c1 l1 A2 c2 l2 N h1 h2 hS ho1 ho2
          refine hR _ _ ⟨fun h => absurd hok h, fun _ hn => absurd hn h, fun _ _ => ⟨A1, c1, l1, A2, c2, l2, N, ?_, ?_, ?_, hS, by rw [List.append_nil]; exact ho1, by rw [List.append_nil]; exact ho2⟩⟩
          · rw [hlt]
            rfl
          · rw [h1, hlm]
            rfl
          · rw [h2, hlm]
            rfl
        have drop : ∀ w, Drop g ⟨fm, fl, ses fL⟩ key e → St w0 F w (Res.cells b8 26 [.int .i64 0, .int .i64 0, .slice none 0 0] :: Res.cells b7 28 (encE e) :: Res.cells b5 26 [.int .i64 fm, .int .i64 fl, .slice fA fL.length fc] :: gC b4 g :: (N ++ L)) → ∀ t, t = true → m11_20 R (.pointer (some ⟨b4, 0, none⟩)) (.pointer (some ⟨b5, 0, none⟩)) (.pointer (some ⟨b7, 0, none⟩)) (.pointer (some ⟨b8, 0, none⟩)) (.slice A' l'.length c') (.bool t) w := fun w hd hS t ht => by
          unfold m11_20
          refine cond_t ht ?_
          first | refine valP_ok (fa26_1 _ _) ?_ | refine valP_ok (fao26_1 _ _ _) ?_
          first | refine valP_ok (ld3 (hS.cell 0 rfl rfl)) ?_ | refine valP_ok (ld3 (hS.cell 1 rfl rfl)) ?_ | refine valP_ok (ld3 (hS.cell 2 rfl rfl)) ?_ | refine valP_ok (ld3 (hS.cell 3 rfl rfl)) ?_ | refine valP_ok (ld3 (hS.cell 4 rfl rfl)) ?_ | refine valP_ok (ld3 (hS.cell 5 rfl rfl)) ?_ | refine valP_ok (ld3 (hS.cell 6 rfl rfl)) ?_ | refine valP_ok (ld3 (hS.cell 7 rfl rfl)) ?_ | refine valP_ok (ld3 (by assumption)) ?_
          refine valP_ok (add_ok _ _ _ (by omega) (by omega) _) ?_
          first | refine valP_ok (fa26_1 _ _) ?_ | refine valP_ok (fao26_1 _ _ _) ?_
          first | refine store_at 0 st3 hS rfl (by simp) rfl ?_ | refine store_at 1 st3 hS rfl (by simp) rfl ?_ | refine store_at 2 st3 hS rfl (by simp) rfl ?_ | refine store_at 3 st3 hS rfl (by simp) rfl ?_ | refine store_at 4 st3 hS rfl (by simp) rfl ?_ | refine store_at 5 st3 hS rfl (by simp) rfl ?_ | refine store_at 6 st3 hS rfl (by simp) rfl ?_ | refine store_at 7 st3 hS rfl (by simp) rfl ?_
          intro w hS
          simp only [List.set_cons_zero, List.set_cons_succ] at hS
          unfold m11_21
          first | refine valP_ok (fa26_2 _ _) ?_ | refine valP_ok (fao26_2 _ _ _) ?_
          first | refine valP_ok (ld24 (hS.cell 0 rfl rfl)) ?_ | refine valP_ok (ld24 (hS.cell 1 rfl rfl)) ?_ | refine valP_ok (ld24 (hS.cell 2 rfl rfl)) ?_ | refine valP_ok (ld24 (hS.cell 3 rfl rfl)) ?_ | refine valP_ok (ld24 (hS.cell 4 rfl rfl)) ?_ | refine valP_ok (ld24 (hS.cell 5 rfl rfl)) ?_ | refine valP_ok (ld24 (hS.cell 6 rfl rfl)) ?_ | refine valP_ok (ld24 (hS.cell 7 rfl rfl)) ?_ | refine valP_ok (ld24 (by assumption)) ?_
          refine rest w _ _ _ fL (by rw [if_pos hd]) (by unfold midL; rw [if_pos hd]) (hB.mono fun r hr => List.mem_append_right _ hr) (fun s hs => ?_) hS
          have := (hF.span _ (List.mem_map.2 ⟨s, hs, rfl⟩)).len
          omega
        refine cond_bsplit (fun h1 => ?_) (fun h1 => ?_)
        · refine pick_t h1 ?_
          exact drop w (.inl (ht.1 h1)) hS _ rfl
        · first | refine valP_ok (not_ok _ _) ?_ | refine valP_ok (notb_ok _ _) ?_
          refine pick_f h1 ?_
          have hno : ¬ OverT g e.t fm := fun h => by rw [ht.2 h] at h1; cases h1
          cases ok with
          | false =>
            exact drop w (.inr fun hj => by have := hok'.2 hj; cases this) hS _ rfl
          | true =>
            have hj := hok'.1 rfl
            have hd : ¬ Drop g ⟨fm, fl, ses fL⟩ key e := fun h => h.elim hno fun h => h hj
            unfold m11_20
            refine cond_f rfl ?_
            refine rest w fl _ _ l' (by rw [if_neg hd]) (by unfold midL; rw [if_neg hd]; exact hl') hB' (fun s hs => ?_) hS
            have h5 : s.s ∈ joinS g (ses fL) key e := by
              rw [← hl']
              exact List.mem_map.2 ⟨s, hs, rfl⟩
            rcases List.mem_cons.1 ((setS_perm _ _).mem_iff.1 h5) with h6 | h6
            · rw [h6]
              have := hj.1
              omega
            · have := (hF.span _ (List.mem_filter.1 h6).1).len
              omega
  unfold m11_1
  first | refine ls23 0 hS rfl ?_ | refine ls23 1 hS rfl ?_ | refine ls23 2 hS rfl ?_ | refine ls23 3 hS rfl ?_ | refine ls23 4 hS rfl ?_ | refine ls23 5 hS rfl ?_ | refine ls23 6 hS rfl ?_ | refine ls23 7 hS rfl ?_ | refine valP_ok (ld23 (by assumption) (by assumption)) ?_
  first | refine ls26 0 hS rfl ?_ | refine ls26 1 hS rfl ?_ | refine ls26 2 hS rfl ?_ | refine ls26 3 hS rfl ?_ | refine ls26 4 hS rfl ?_ | refine ls26 5 hS rfl ?_ | refine ls26 6 hS rfl ?_ | refine ls26 7 hS rfl ?_ | refine valP_ok (ld26 (by assumption) (by assumption) (by assumption)) ?_
  refine callR (by kernel_rfl) (check_ret (f := ⟨fm, fl, fA, fc, fL⟩) hcap ((((hB.cons _).cons _).cons _).cons _) hS) ?_
  rintro v w ⟨⟨x, rfl, hx01, hx⟩, hS⟩
  have hx : x = 0 ↔ FlowOk g fm fl (ses fL) := hx
  have ok_iff : AddOk g ⟨fm, fl, ses fL⟩ key e ↔ x = 0 ∧ (0 ≤ key ∧ key ≤ 1048576) ∧ (0 ≤ e.t ∧ e.t ≤ 1099511627776) := by
    rw [hx]
    exact ⟨fun h => ⟨h.flow, h.key, h.time⟩, fun h => ⟨h.1, h.2.1, h.2.2⟩⟩
  refine valP_ok (ne34 _ _ _ _ _) ?_
  first | refine cond_split (fun hc0 => ?_) (fun hc0 => ?_) | refine cond_bsplit (fun hc0 => ?_) (fun hc0 => ?_)
  · first | refine pick_dt (by first | assumption | omega) ?_ | refine pick_df (by first | assumption | omega) ?_ | refine pick_t (by first | rfl | assumption) ?_ | refine pick_f (by first | rfl | assumption) ?_ | refine pick_dt rfl ?_ | refine pick_df (not_not_intro rfl) ?_
    first | refine pick_dt (by first | assumption | omega) ?_ | refine pick_df (by first | assumption | omega) ?_ | refine pick_t (by first | rfl | assumption) ?_ | refine pick_f (by first | rfl | assumption) ?_ | refine pick_dt rfl ?_ | refine pick_df (not_not_intro rfl) ?_
    first | refine pick_dt (by first | assumption | omega) ?_ | refine pick_df (by first | assumption | omega) ?_ | refine pick_t (by first | rfl | assumption) ?_ | refine pick_f (by first | rfl | assumption) ?_ | refine pick_dt rfl ?_ | refine pick_df (not_not_intro rfl) ?_
    first | refine pick_dt (by first | assumption | omega) ?_ | refine pick_df (by first | assumption | omega) ?_ | refine pick_t (by first | rfl | assumption) ?_ | refine pick_f (by first | rfl | assumption) ?_ | refine pick_dt rfl ?_ | refine pick_df (not_not_intro rfl) ?_
    exact leaf _ _ (by rw [ok_iff]; simp only [decide_eq_false_iff_not, Bool.true_eq_false, false_iff] <;> first | contradiction | omega) hS
  · refine valP_ok (lss_ok _ _ _ _ _ _ _) ?_
    first | refine pick_dt (by first | assumption | omega) ?_ | refine pick_df (by first | assumption | omega) ?_ | refine pick_t (by first | rfl | assumption) ?_ | refine pick_f (by first | rfl | assumption) ?_ | refine pick_dt rfl ?_ | refine pick_df (not_not_intro rfl) ?_
    first | refine cond_split (fun hc1 => ?_) (fun hc1 => ?_) | refine cond_bsplit (fun hc1 => ?_) (fun hc1 => ?_)
    · first | refine pick_dt (by first | assumption | omega) ?_ | refine pick_df (by first | assumption | omega) ?_ | refine pick_t (by first | rfl | assumption) ?_ | refine pick_f (by first | rfl | assumption) ?_ | refine pick_dt rfl ?_ | refine pick_df (not_not_intro rfl) ?_
      first | refine pick_dt (by first | assumption | omega) ?_ | refine pick_df (by first | assumption | omega) ?_ | refine pick_t (by first | rfl | assumption) ?_ | refine pick_f (by first | rfl | assumption) ?_ | refine pick_dt rfl ?_ | refine pick_df (not_not_intro rfl) ?_
      first | refine pick_dt (by first | assumption | omega) ?_ | refine pick_df (by first | assumption | omega) ?_ | refine pick_t (by first | rfl | assumption) ?_ | refine pick_f (by first | rfl | assumption) ?_ | refine pick_dt rfl ?_ | refine pick_df (not_not_intro rfl) ?_
      exact leaf _ _ (by rw [ok_iff]; simp only [decide_eq_false_iff_not, Bool.true_eq_false, false_iff] <;> first | contradiction | omega) hS
    · refine valP_ok (gtr_ok _ _ _ _ _ _ _) ?_
      first | refine pick_dt (by first | assumption | omega) ?_ | refine pick_df (by first | assumption | omega) ?_ | refine pick_t (by first | rfl | assumption) ?_ | refine pick_f (by first | rfl | assumption) ?_ | refine pick_dt rfl ?_ | refine pick_df (not_not_intro rfl) ?_
      first | refine cond_split (fun hc2 => ?_) (fun hc2 => ?_) | refine cond_bsplit (fun hc2 => ?_) (fun hc2 => ?_)
      · first | refine pick_dt (by first | assumption | omega) ?_ | refine pick_df (by first | assumption | omega) ?_ | refine pick_t (by first | rfl | assumption) ?_ | refine pick_f (by first | rfl | assumption) ?_ | refine pick_dt rfl ?_ | refine pick_df (not_not_intro rfl) ?_
        first | refine pick_dt (by first | assumption | omega) ?_ | refine pick_df (by first | assumption | omega) ?_ | refine pick_t (by first | rfl | assumption) ?_ | refine pick_f (by first | rfl | assumption) ?_ | refine pick_dt rfl ?_ | refine pick_df (not_not_intro rfl) ?_
        exact leaf _ _ (by rw [ok_iff]; simp only [decide_eq_false_iff_not, Bool.true_eq_false, false_iff] <;> first | contradiction | omega) hS
      · first | refine valP_ok (fa28_0 _ _) ?_ | refine valP_ok (fao28_0 _ _ _) ?_
        first | refine valP_ok (ld3 (hS.cell 0 rfl rfl)) ?_ | refine valP_ok (ld3 (hS.cell 1 rfl rfl)) ?_ | refine valP_ok (ld3 (hS.cell 2 rfl rfl)) ?_ | refine valP_ok (ld3 (hS.cell 3 rfl rfl)) ?_ | refine valP_ok (ld3 (hS.cell 4 rfl rfl)) ?_ | refine valP_ok (ld3 (hS.cell 5 rfl rfl)) ?_ | refine valP_ok (ld3 (hS.cell 6 rfl rfl)) ?_ | refine valP_ok (ld3 (hS.cell 7 rfl rfl)) ?_ | refine valP_ok (ld3 (by assumption)) ?_
        refine valP_ok (lss_ok _ _ _ _ _ _ _) ?_
        first | refine pick_dt (by first | assumption | omega) ?_ | refine pick_df (by first | assumption | omega) ?_ | refine pick_t (by first | rfl | assumption) ?_ | refine pick_f (by first | rfl | assumption) ?_ | refine pick_dt rfl ?_ | refine pick_df (not_not_intro rfl) ?_
        first | refine cond_split (fun hc3 => ?_) (fun hc3 => ?_) | refine cond_bsplit (fun hc3 => ?_) (fun hc3 => ?_)
        · first | refine pick_dt (by first | assumption | omega) ?_ | refine pick_df (by first | assumption | omega) ?_ | refine pick_t (by first | rfl | assumption) ?_ | refine pick_f (by first | rfl | assumption) ?_ | refine pick_dt rfl ?_ | refine pick_df (not_not_intro rfl) ?_
          exact leaf _ _ (by rw [ok_iff]; simp only [decide_eq_false_iff_not, Bool.true_eq_false, false_iff] <;> first | contradiction | omega) hS
        · first | refine valP_ok (fa28_0 _ _) ?_ | refine valP_ok (fao28_0 _ _ _) ?_
          first | refine valP_ok (ld3 (hS.cell 0 rfl rfl)) ?_ | refine valP_ok (ld3 (hS.cell 1 rfl rfl)) ?_ | refine valP_ok (ld3 (hS.cell 2 rfl rfl)) ?_ | refine valP_ok (ld3 (hS.cell 3 rfl rfl)) ?_ | refine valP_ok (ld3 (hS.cell 4 rfl rfl)) ?_ | refine valP_ok (ld3 (hS.cell 5 rfl rfl)) ?_ | refine valP_ok (ld3 (hS.cell 6 rfl rfl)) ?_ | refine valP_ok (ld3 (hS.cell 7 rfl rfl)) ?_ | refine valP_ok (ld3 (by assumption)) ?_
          refine valP_ok (gtr_ok _ _ _ _ _ _ _) ?_
          first | refine pick_dt (by first | assumption | omega) ?_ | refine pick_df (by first | assumption | omega) ?_ | refine pick_t (by first | rfl | assumption) ?_ | refine pick_f (by first | rfl | assumption) ?_ | refine pick_dt rfl ?_ | refine pick_df (not_not_intro rfl) ?_
          exact leaf _ _ (by rw [ok_iff]; simp only [decide_eq_false_iff_not, Bool.true_eq_false, false_iff] <;> first | contradiction | omega) hS
theorem add_ret (hf : SOk w0 F L f.A f.c f.l) (hS : St w0 F w L) : Ret Try.prog 11 #[gv g, fv f, .int .i64 key, ev e] w fun v w' => AddRes w0 F L [] g f.fl key e v w' :=
  s11 _ _ _ _ (add_m hf hS fun v w h => h)
end

end Go.Proofs.Ytojgdmcojmllkaa.M
