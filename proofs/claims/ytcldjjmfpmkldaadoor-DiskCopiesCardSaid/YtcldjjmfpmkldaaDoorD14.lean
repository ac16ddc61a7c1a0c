/- Few deeds; a disk behind deeds. -/
import Derived.Test.YtcldjjmfpmkldaaDoorD13
import Derived.Test.YtcldjjmfpmkldaaDoorFwL
import Derived.Test.YtcldjjmfpmkldaaDoorFwW
import Derived.Test.YtcldjjmfpmkldaaDoorFwB
import Derived.Test.YtcldjjmfpmkldaaDoorFwM
import Derived.Test.YtcldjjmfpmkldaaDoorMtrim0
import Derived.Test.YtcldjjmfpmkldaaDoorMdisk0
import Derived.Test.YtcldjjmfpmkldaaDoorMmore0
import Derived.Test.YtcldjjmfpmkldaaDoorMlaw0
namespace Go.Proofs.YtcldjjmfpmkldaaDoor.M
open Go.Proofs.YtcldjjmfpmkldaaDoor.F Go.RowKit
set_option linter.unusedVariables false
set_option linter.unusedSimpArgs false
set_option maxRecDepth 100000
set_option maxHeartbeats 2000000
attribute [local irreducible] Res.cells Res.row Res.map Res.any World.cell? World.frozen? Instr.fieldAt Instr.loadAt Instr.storeAt Instr.indexAt Instr.lookup Instr.mapUpdate Instr.box Instr.build Instr.buildSlice Instr.extract Instr.alloc Instr.field Instr.index Instr.sliceAt Instr.makeSlice Instr.makeMap Instr.makeFunc binS Op.unary Sem.run
section
variable {w0 w : World} {L : List Res} {l : List De} {A : Option Addr} {c b size : Nat} {D : Dk}
theorem few_main {l0 : List De} (hm : l.length ≤ 80) (hc : ∀ x ∈ l, DeOk w0 x) (hE : Bes w0 [] L 6 A l.length (l.flatMap encD)) (hS : St w0 [] w L) : m26_2 (fun v w' => ∃ A' c', v = .slice A' (l.map cutDe).length c' ∧ St w0 [] w' (deRow A' c' (l.map cutDe) :: L)) (.slice A l.length c) w := by
  unfold m26_2 m26_3 m26_6
  refine loop_in (fun u w' => ∃ (i : Nat) (A' : Option Addr) (c' : Nat), u = (.slice A' ((l.take i).map cutDe).length c', .int .i64 (i : Int)) ∧ i ≤ l.length ∧ St w0 [] w' (deRow A' c' ((l.take i).map cutDe) :: L)) (fun u _ => l.length - (intOf u.2).toNat) ⟨0, none, 0, rfl, by omega, hS.row_nil 54 6⟩ ?_
  clear hS
  rintro u w ⟨i, A', c', rfl, hi, hS⟩
  simp only
  have hlen : ((l.take i).map cutDe).length = i := by rw [List.length_map, List.length_take]; omega
  unfold m26_7
  refine builtin_ok (len35 _) ?_
  refine valP_ok (lss_ok _ _ _ _ _ _ _) ?_
  unfold m26_15
  refine cond_split (fun h => ?_) (fun h => ?_)
  · have hil : i < l.length := by omega
    obtain ⟨gb, o, rfl⟩ := ((hE.cons _).rd hS).some_ (by omega) (by omega)
    have p := d_at ((hE.cons _).rd hS) hil
    have hok := hc _ (List.getElem_mem hil)
    have hnx : (l.take (i + 1)).map cutDe = (l.take i).map cutDe ++ [cutDe l[i]] := by
      rw [List.take_succ_eq_append_getElem hil, List.map_append]
      rfl
    unfold m26_8
    refine valP_ok (ix35 hil _) ?_
    refine valP_ok (ld54 p.1 p.2.1 p.2.2.1 p.2.2.2.1 p.2.2.2.2.1 p.2.2.2.2.2) ?_
    refine new_ok (al54 _) hS ?_
    intro b5 w hS
    first | refine ss54 0 hS rfl rfl rfl rfl rfl rfl rfl ?_ | refine ss54 1 hS rfl rfl rfl rfl rfl rfl rfl ?_ | refine ss54 2 hS rfl rfl rfl rfl rfl rfl rfl ?_ | refine ss54 3 hS rfl rfl rfl rfl rfl rfl rfl ?_ | refine ss54 4 hS rfl rfl rfl rfl rfl rfl rfl ?_ | refine ss54 5 hS rfl rfl rfl rfl rfl rfl rfl ?_ | refine ss54 6 hS rfl rfl rfl rfl rfl rfl rfl ?_ | refine ss54 7 hS rfl rfl rfl rfl rfl rfl rfl ?_
    intro w hS
    simp only [List.set_cons_zero, List.set_cons_succ] at hS
    have fin : ∀ (K1 : Value × Value → World → Prop), (∀ w' A' c', St w0 [] w' (deRow A' c' ((l.take (i + 1)).map cutDe) :: L) → K1 (.slice A' ((l.take (i + 1)).map cutDe).length c', .int .i64 ((i + 1 : Nat) : Int)) w') → ∀ w, St w0 [] w (Res.cells b5 54 (encD (cutDe l[i])) :: deRow A' c' ((l.take i).map cutDe) :: L) → m26_12 (fun v w' => ∃ A' c', v = .slice A' (l.map cutDe).length c' ∧ St w0 [] w' (deRow A' c' (l.map cutDe) :: L)) K1 (.slice (some ⟨gb, o, none⟩) l.length c) (.slice A' ((l.take i).map cutDe).length c') (.int .i64 (i : Int)) (.pointer (some ⟨b5, 0, none⟩)) w := fun K1 hK w hS => by
      unfold m26_12
      first | refine ls54 0 hS rfl ?_ | refine ls54 1 hS rfl ?_ | refine ls54 2 hS rfl ?_ | refine ls54 3 hS rfl ?_ | refine ls54 4 hS rfl ?_ | refine ls54 5 hS rfl ?_ | refine ls54 6 hS rfl ?_ | refine ls54 7 hS rfl ?_ | refine valP_ok (ld54 (by assumption) (by assumption) (by assumption) (by assumption) (by assumption) (by assumption)) ?_
      refine newslice_ok (bs35_1 _) hS ?_
      intro b39 w hS
      refine append_one1 (enc := encD) 1 (cutDe l[i]) sl35 encD_len encD_one (by unfold maxLen; omega) (by omega) hS rfl ?_
      intro A' c' w' hS
      simp only [List.set_cons_zero, List.set_cons_succ] at hS
      have h1 := hK w' A' c' (by rw [hnx]; exact hS.tail)
      rw [hnx] at h1
      unfold m26_9
      refine valP_ok (add_ok _ _ _ (by omega) (by omega) _) ?_
      exact h1
    have two : ∀ (K1 : Value × Value → World → Prop), (∀ w' A' c', St w0 [] w' (deRow A' c' ((l.take (i + 1)).map cutDe) :: L) → K1 (.slice A' ((l.take (i + 1)).map cutDe).length c', .int .i64 ((i + 1 : Nat) : Int)) w') → ∀ w, St w0 [] w (Res.cells b5 54 (encD ⟨l[i].kind, l[i].n, l[i].a, l[i].b, (cutDe l[i]).s, l[i].A, l[i].c, l[i].keep⟩) :: deRow A' c' ((l.take i).map cutDe) :: L) → m26_11 (fun v w' => ∃ A' c', v = .slice A' (l.map cutDe).length c' ∧ St w0 [] w' (deRow A' c' (l.map cutDe) :: L)) K1 (.slice (some ⟨gb, o, none⟩) l.length c) (.slice A' ((l.take i).map cutDe).length c') (.int .i64 (i : Int)) (.pointer (some ⟨b5, 0, none⟩)) w := fun K1 hK w hS => by
      unfold m26_11
      first | refine valP_ok (fa54_5 _ _) ?_ | refine valP_ok (fao54_5 _ _ _) ?_
      first | refine valP_ok (ld46 (hS.cell 0 rfl rfl)) ?_ | refine valP_ok (ld46 (hS.cell 1 rfl rfl)) ?_ | refine valP_ok (ld46 (hS.cell 2 rfl rfl)) ?_ | refine valP_ok (ld46 (hS.cell 3 rfl rfl)) ?_ | refine valP_ok (ld46 (hS.cell 4 rfl rfl)) ?_ | refine valP_ok (ld46 (hS.cell 5 rfl rfl)) ?_ | refine valP_ok (ld46 (hS.cell 6 rfl rfl)) ?_ | refine valP_ok (ld46 (hS.cell 7 rfl rfl)) ?_ | refine valP_ok (ld46 (by assumption)) ?_
      refine builtin_ok (len46 _) ?_
      refine valP_ok (gtr_ok _ _ _ _ _ _ _) ?_
      unfold m26_13
      refine cond_split (fun h1 => ?_) (fun h1 => ?_)
      · have h1a : (100 : Int) < (l[i].keep.length : Int) := h1
        have h1' : 100 < l[i].keep.length := by omega
        have hcc := hok.2.1
        refine valP_ok (fa54_5 _ _) ?_
        refine valP_ok (ld46 (hS.cell 0 rfl (i := 5) rfl)) ?_
        refine valP_ok (sh46 (k := 100) (show 100 ≤ l[i].c by omega) _) ?_
        refine valP_ok (fa54_5 _ _) ?_
        refine store_at (i := 5) 0 st46 hS rfl (by simp) rfl ?_
        intro w hS
        simp only [List.set_cons_zero, List.set_cons_succ] at hS
        refine fin K1 hK w ?_
        have e : encD (cutDe l[i]) = [.int .i64 l[i].kind, .int .i64 l[i].n, .string l[i].a, .string l[i].b, .string (cutDe l[i]).s, .slice l[i].A 100 l[i].c] := by
          have h2 : (cutDe l[i]).keep = l[i].keep.take 100 := if_pos h1'
          have h3 : (l[i].keep.take 100).length = 100 := by rw [List.length_take]; omega
          show [Value.int .i64 l[i].kind, Value.int .i64 l[i].n, .string l[i].a, .string l[i].b, .string (cutDe l[i]).s, .slice l[i].A (cutDe l[i]).keep.length l[i].c] = _
          rw [h2, h3]
        rw [e]
        exact hS
      · have e : encD (cutDe l[i]) = encD ⟨l[i].kind, l[i].n, l[i].a, l[i].b, (cutDe l[i]).s, l[i].A, l[i].c, l[i].keep⟩ := by
          have h1a : ¬ (100 : Int) < (l[i].keep.length : Int) := h1
          have h2 : (cutDe l[i]).keep = l[i].keep := if_neg (by omega)
          show [Value.int .i64 l[i].kind, Value.int .i64 l[i].n, .string l[i].a, .string l[i].b, .string (cutDe l[i]).s, .slice l[i].A (cutDe l[i]).keep.length l[i].c] = _
          rw [h2]
        exact fin K1 hK w (by rw [e]; exact hS)
    unfold m26_10
    first | refine valP_ok (fa54_4 _ _) ?_ | refine valP_ok (fao54_4 _ _ _) ?_
    first | refine valP_ok (ld9 (hS.cell 0 rfl rfl)) ?_ | refine valP_ok (ld9 (hS.cell 1 rfl rfl)) ?_ | refine valP_ok (ld9 (hS.cell 2 rfl rfl)) ?_ | refine valP_ok (ld9 (hS.cell 3 rfl rfl)) ?_ | refine valP_ok (ld9 (hS.cell 4 rfl rfl)) ?_ | refine valP_ok (ld9 (hS.cell 5 rfl rfl)) ?_ | refine valP_ok (ld9 (hS.cell 6 rfl rfl)) ?_ | refine valP_ok (ld9 (hS.cell 7 rfl rfl)) ?_ | refine valP_ok (ld9 (by assumption)) ?_
    refine builtin_ok (len9 _) ?_
    refine valP_ok (gtr_ok _ _ _ _ _ _ _) ?_
    unfold m26_14
    refine cond_split (fun h1 => ?_) (fun h1 => ?_)
    · have es : (cutDe l[i]).s = l[i].s.extract 0 3000 := if_pos (by omega)
      refine valP_ok (fa54_4 _ _) ?_
      refine valP_ok (ld9 (hS.cell 0 rfl (i := 4) rfl)) ?_
      refine valP_ok (sto (k := 3000) _ (by omega)) ?_
      refine valP_ok (fa54_4 _ _) ?_
      refine store_at (i := 4) 0 st9 hS rfl (by simp) rfl ?_
      intro w hS
      simp only [List.set_cons_zero, List.set_cons_succ] at hS
      exact two _ (fun w' A' c' hS => ⟨⟨i + 1, A', c', rfl, by omega, hS⟩, by simp [intOf]; omega⟩) w (by rw [es]; exact hS)
    · have es : (cutDe l[i]).s = l[i].s := if_neg (by omega)
      exact two _ (fun w' A' c' hS => ⟨⟨i + 1, A', c', rfl, by omega, hS⟩, by simp [intOf]; omega⟩) w (by rw [es]; exact hS)
  · obtain rfl : i = l.length := by omega
    rw [List.take_length] at hS ⊢
    unfold m26_4 m26_5
    exact ⟨_, _, rfl, hS⟩
theorem few_ret (hc : l.length ≤ c) (hok : ∀ x ∈ l, DeOk w0 x) (hl : Rd w0 6 A l.length (l.flatMap encD)) (hS : St w0 [] w L) : Ret Tryd.prog 26 #[.slice A l.length c] w fun v w' => ∃ A' c', v = .slice A' (fewL l).length c' ∧ St w0 [] w' (deRow A' c' (fewL l) :: L) := by
  have hll : (l.take 80).length = min 80 l.length := List.length_take
  have hE : Bes w0 [] L 6 A (l.take 80).length ((l.take 80).flatMap encD) := Bes.of_old0 (Rd.takeS encD_len 80 hl)
  have hok2 : ∀ x ∈ l.take 80, DeOk w0 x := fun x hx => hok x (List.mem_of_mem_take hx)
  refine s26 _ ?_
  unfold m26 m26_0
  unfold m26_1
  refine builtin_ok (len35 _) ?_
  refine valP_ok (gtr_ok _ _ _ _ _ _ _) ?_
  unfold m26_16
  refine cond_split (fun h => ?_) (fun h => ?_)
  · refine valP_ok (sh35 (k := 80) (by omega) _) ?_
    have h1 := few_main (c := c) (l0 := []) (by omega) hok2 hE hS
    rw [show (l.take 80).length = 80 by omega] at h1
    exact h1
  · have h1 := few_main (c := c) (l0 := []) (by omega) hok2 hE hS
    rw [show (l.take 80).length = l.length by omega] at h1
    exact h1
def runD (D : Dk) (l : List De) : Dk := l.foldl stepD D
theorem runD_take {D : Dk} {l : List De} {i : Nat} (h : i < l.length) : runD D (l.take (i + 1)) = stepD (runD D (l.take i)) l[i] := by
  unfold runD
  rw [List.take_succ_eq_append_getElem h, List.foldl_append]
  rfl
theorem Ok.run {l : List De} (hl : ∀ x ∈ l, DeS w0 x) (h : Ok size D) : Ok size (runD D l) := by
  unfold runD
  induction l generalizing D with
  | nil => exact h
  | cons x l ih => exact ih (fun y hy => hl y (.tail _ hy)) (Ok.step (hl x (.head _)).1.1.2 h)
/-- a disk of so many blocks behind deeds. -/
theorem made_ret {n : Int} (hc : l.length ≤ c) (hok : ∀ x ∈ l, DeOk w0 x) (hl : Rd w0 6 A l.length (l.flatMap encD)) (hS : St w0 [] w L) : Ret Tryd.prog 18 #[.int .i64 n, .slice A l.length c] w fun v w' => if 1 ≤ n ∧ n ≤ 16384 then ∃ b, v = ptr b ∧ Dsk w0 [] L b (runD ⟨[], n, -1, false⟩ (fewL l)) w' else v = .pointer none ∧ St w0 [] w' L := by
  have hfo := few_ok hok
  have hfl := fewL_len l
  refine s18 _ _ ?_
  unfold m18 m18_0 m18_1
  refine callR (by kernel_rfl) (new_ret (n := n) hS) ?_
  intro v w hR
  by_cases hn : 1 ≤ n ∧ n ≤ 16384
  · rw [if_pos hn] at hR
    obtain ⟨b, rfl, mb, X, hX, hS⟩ := hR
    have hO : Ok n.toNat ⟨[], n, -1, false⟩ := Ok.new hn
    refine valP_ok (extract_ok _ 0 rfl _) ?_
    refine valP_ok (extract_ok _ 1 rfl _) ?_
    unfold m18_2
    refine valP_ok (ne24 _ _ _ _ _) ?_
    unfold m18_12
    refine cond_df (not_not_intro rfl) ?_
    unfold m18_3
    refine callR (by kernel_rfl) (few_ret hc hok hl hS) ?_
    rintro _ w ⟨A1, c1, rfl, hS⟩
    generalize fewL l = ls at *
    unfold m18_4 m18_7
    have hD0 : Dsk w0 [] (deRow A1 c1 ls :: L) b ⟨[], n, -1, false⟩ w := ⟨mb, X, hX, St.push hS⟩
    refine loop_in (fun u w' => ∃ i : Nat, u = .int .i64 (i : Int) ∧ i ≤ ls.length ∧ Dsk w0 [] (deRow A1 c1 ls :: L) b (runD ⟨[], n, -1, false⟩ (ls.take i)) w') (fun u _ => ls.length - (intOf u).toNat) ⟨0, rfl, by omega, hD0⟩ ?_
    clear hS hD0 hX
    rintro u w ⟨i, rfl, hi, hD⟩
    have hOi : Ok n.toNat (runD ⟨[], n, -1, false⟩ (ls.take i)) := hO.run (fun x hx => hfo x (List.mem_of_mem_take hx))
    unfold m18_8
    refine builtin_ok (len35 _) ?_
    refine valP_ok (lss_ok _ _ _ _ _ _ _) ?_
    unfold m18_11
    refine cond_split (fun h => ?_) (fun h => ?_)
    · have hil : i < ls.length := by omega
      have hR : Rd w 6 A1 ls.length (ls.flatMap encD) := by
        obtain ⟨mb, X, _, hS⟩ := hD
        have h1 : (deRow A1 c1 ls) ∈ (dCell b (.map (some mb)) (runD ⟨[], n, -1, false⟩ (ls.take i)).room (runD ⟨[], n, -1, false⟩ (ls.take i)).fuse (runD ⟨[], n, -1, false⟩ (ls.take i)).off :: mapD mb X :: (X.map fileR ++ (deRow A1 c1 ls :: L))) := .tail _ (.tail _ (List.mem_append_right _ (.head _)))
        obtain ⟨k, hk⟩ := List.mem_iff_getElem?.1 h1
        exact hS.row_rd k hk
      obtain ⟨gb, o, rfl⟩ := hR.some_ (by omega) (by omega)
      have p := d_at hR hil
      unfold m18_9
      refine valP_ok (ix35 hil _) ?_
      refine valP_ok (ld54 p.1 p.2.1 p.2.2.1 p.2.2.2.1 p.2.2.2.2.1 p.2.2.2.2.2) ?_
      refine callR (by kernel_rfl) (do_ret (hfo _ (List.getElem_mem hil)) hOi hD) ?_
      intro _ w hD
      unfold m18_10
      refine valP_ok (add_ok _ _ _ (by omega) (by omega) _) ?_
      exact ⟨⟨i + 1, rfl, by omega, by rw [runD_take hil]; exact hD⟩, by simp [intOf]; omega⟩
    · obtain rfl : i = ls.length := by omega
      rw [List.take_length] at hD
      unfold m18_5 m18_6
      simp only [hn, and_self, if_true]
      exact ⟨b, rfl, Dsk.pop hD⟩
  · rw [if_neg hn] at hR
    obtain ⟨rfl, hS⟩ := hR
    refine valP_ok (extract_ok _ 0 rfl _) ?_
    refine valP_ok (extract_ok _ 1 rfl _) ?_
    unfold m18_2
    refine valP_ok (ne24 _ _ _ _ _) ?_
    unfold m18_12
    refine cond_dt (by omega) ?_
    unfold m18_13
    simp only [if_neg hn]
    exact ⟨trivial, hS⟩
end
theorem dcells3 : Tryd.prog.cellsOf 3 = 1 := by kernel_rfl
theorem dbI {x : Int} (h : (Lit.int .i64 x).wf = true) : -9223372036854775808 ≤ x ∧ x ≤ 9223372036854775807 := by
  simp only [Lit.wf, Bool.and_eq_true, decide_eq_true_eq] at h
  exact h
section
variable {H : Type} {en : TypeId × Value → H} {w : World}
theorem openDe {n : Nat} {cs : List Value} {y : DataW H × List MemPlace} (h : DataW.trod en Tryd.prog w 0 (fun _ => true) true n 54 cs = some y) : ∃ x : De, cs = encD x ∧ (encD x).length = 6 ∧ DeOk w x := by
  obtain ⟨hl, hf⟩ := open_structE Tryd.underlying54 h
  rw [show Tryd.prog.cellsOf 54 = 6 from by kernel_rfl] at hl
  obtain ⟨c0, c1, c2, c3, c4, c5, rfl⟩ : ∃ c0 c1 c2 c3 c4 c5, cs = [c0, c1, c2, c3, c4, c5] := by
    match cs, hl with
    | [c0, c1, c2, c3, c4, c5], _ => exact ⟨c0, c1, c2, c3, c4, c5, rfl⟩
  obtain ⟨_, _, h0⟩ := hf 0 3 0 1 rfl dcells3
  obtain ⟨_, _, h1⟩ := hf 1 3 1 1 rfl dcells3
  obtain ⟨_, _, h2⟩ := hf 2 9 2 1 rfl (by kernel_rfl)
  obtain ⟨_, _, h3⟩ := hf 3 9 3 1 rfl (by kernel_rfl)
  obtain ⟨_, _, h4⟩ := hf 4 9 4 1 rfl (by kernel_rfl)
  obtain ⟨_, _, h5⟩ := hf 5 46 5 1 rfl (by kernel_rfl)
  obtain ⟨a0, e0, _, w0⟩ := DataW.trod_int Tryd.underlying3 h0
  obtain ⟨a1, e1, _, w1⟩ := DataW.trod_int Tryd.underlying3 h1
  obtain ⟨a2, e2, _, w2⟩ := DataW.trod_string Tryd.underlying9 h2
  obtain ⟨a3, e3, _, w3⟩ := DataW.trod_string Tryd.underlying9 h3
  obtain ⟨a4, e4, _, w4⟩ := DataW.trod_string Tryd.underlying9 h4
  obtain ⟨A, c, l, e5, hc, hn, hr, hw⟩ := open_intsE Tryd.underlying46 Tryd.underlying3 dcells3 h5
  simp at e0 e1 e2 e3 e4 e5
  subst e0; subst e1; subst e2; subst e3; subst e4; subst e5
  exact ⟨⟨a0, a1, a2, a3, a4, A, c, l⟩, rfl, rfl, dbI w1, hc, hr⟩
theorem openDes {n : Nat} {cs : List Value} {y : DataW H × List MemPlace} (h : DataW.trod en Tryd.prog w 0 (fun _ => true) true n 35 cs = some y) :
    ∃ (A : Option Addr) (c : Nat) (l : List De), cs = [.slice A l.length c] ∧ l.length ≤ c ∧ (A = none → c = 0) ∧ Rd w 6 A l.length (l.flatMap encD) ∧ ∀ x ∈ l, DeOk w x :=
  open_rowsE encD (DeOk w) (by omega) Tryd.underlying35 (by kernel_rfl) (fun n cs y h => openDe h) h
end

end Go.Proofs.YtcldjjmfpmkldaaDoor.M
