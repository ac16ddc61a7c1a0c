/- An engine's Run. -/
import Derived.Test.YtnhgdngbdoifnaaK8
import Derived.Test.YtnhgdngbdoifnaaFwW
import Derived.Test.YtnhgdngbdoifnaaMbase0
import Derived.Test.YtnhgdngbdoifnaaMmid0
import Derived.Test.YtnhgdngbdoifnaaMgrid0
import Derived.Test.YtnhgdngbdoifnaaMfold0
import Derived.Test.YtnhgdngbdoifnaaMeng0
namespace Go.Proofs.Ytnhgdngbdoifnaa.M
open Go.Proofs.Ytnhgdngbdoifnaa.F Go.RowKit
set_option linter.unusedVariables false
set_option linter.unusedSimpArgs false
set_option maxRecDepth 100000
set_option maxHeartbeats 2000000
attribute [local irreducible] Res.cells Res.row Res.map Res.any World.cell? World.frozen? Instr.fieldAt Instr.loadAt Instr.storeAt Instr.indexAt Instr.lookup Instr.mapUpdate Instr.box Instr.build Instr.buildSlice Instr.extract Instr.alloc Instr.field Instr.index Instr.sliceAt Instr.makeSlice Instr.makeMap Instr.makeFunc binS Op.unary Sem.run
section
variable {w0 w : World} {F : List Nat} {B L : List Res}
theorem encR_len : ∀ g, (encR g).length = 3 := fun _ => rfl
theorem encR_one : ∀ x, ∀ u ∈ encR x, u.oneCell' = true := fun x u hu => by
  simp only [List.mem_cons, List.not_mem_nil, or_false] at hu
  rcases hu with rfl | rfl | rfl <;> rfl
theorem r_at {l : List Rc} {o b i : Nat} (hr : Rd w 3 (some ⟨b, o, none⟩) l.length (l.flatMap encR)) (hi : i < l.length) : w.cell? ⟨b, o + i * 3, none⟩ = some (.int .i64 l[i].key) ∧ w.cell? ⟨b, o + i * 3 + 1, none⟩ = some (.int .i64 l[i].time) ∧ w.cell? ⟨b, o + i * 3 + 2, none⟩ = some (.string l[i].text) :=
  ⟨hr.struct encR_len hi (j := 0) (by omega) rfl, hr.struct encR_len hi (j := 1) (by omega) rfl, hr.struct encR_len hi (j := 2) (by omega) rfl⟩
def RunR (g : Gr) (s0 : Sg) (w0 : World) (F : List Nat) (B L : List Res) (v : Value) (w : World) : Prop :=
  ∃ (R : List Res) (s : Sg) (sv x : Value) (e : Int), v = .tuple #[sv, x, .int .i64 e] ∧ (e = 0 → MayS g s0) ∧ SgR w0 F (R ++ L) sv s ∧ St w0 F w (R ++ (B ++ L))
section
variable {g : Gr} {s0 s : Sg} {A : Option Addr} {c b3 b4 b6 : Nat}
abbrev RnL (L : List Res) (g : Gr) (s : Sg) (A : Option Addr) (c b3 b4 b6 : Nat) : List Res := Res.cells b6 28 [.int .i64 0, .int .i64 0, .int .i64 0, .int .i64 0, .slice none 0 0] :: Res.cells b4 28 (encS s A c) :: Res.cells b3 23 (encGr g) :: L
theorem run_none {e : Int} {x : Value} (he : e = 0 → MayS g s0) (hS : St w0 F w (Res.cells b6 28 [.int .i64 0, .int .i64 0, .int .i64 0, .int .i64 0, .slice none 0 0] :: (B ++ L))) : m13_17 (RunR g s0 w0 F B L) (.pointer (some ⟨b6, 0, none⟩)) x (.int .i64 e) w := by
  unfold m13_17
  refine valS_ok (lc28 (hS.cell 0 rfl rfl) (hS.cell 0 rfl rfl) (hS.cell 0 rfl rfl) (hS.cell 0 rfl rfl) (hS.cell 0 rfl rfl)) ?_
  exact ⟨[], zeroSg, _, x, e, rfl, he, ⟨zeroSg_ok, by simp [zeroSg], none, 0, rfl, Sl.nil⟩, hS.tail⟩
theorem run_ret {l : List Rc} {Al : Option Addr} {cl : Nat} (hl : l.length ≤ 1000) (hB : Bes w0 F L 3 Al l.length (l.flatMap encR)) (hok : SgOk s) (hEs : Sl w0 F L A c s.L) (hS : St w0 F w (B ++ L)) : Ret Try.prog 13 #[grv g, sgv s A c, .slice Al l.length cl] w (RunR g s w0 F B L) := by
  refine s13 _ _ _ ?_
  unfold m13
  unfold m13_0
  refine new_ok (bx23 _ _ _ _) hS ?_
  intro b3 w hS
  refine new_ok (bx28 _ _ _ _ _ _) hS ?_
  intro b4 w hS
  refine new_ok (al28 _) hS ?_
  intro b6 w hS
  have hE3 := (((hEs.mono fun q hq => List.mem_append_right B hq).cons (Res.cells b3 23 (encGr g))).cons (Res.cells b4 28 (encS s A c))).cons (Res.cells b6 28 [.int .i64 0, .int .i64 0, .int .i64 0, .int .i64 0, .slice none 0 0])
  unfold m13_1
  first | refine ls23 0 hS rfl ?_ | refine ls23 1 hS rfl ?_ | refine ls23 2 hS rfl ?_ | refine ls23 3 hS rfl ?_ | refine ls23 4 hS rfl ?_ | refine ls23 5 hS rfl ?_ | refine ls23 6 hS rfl ?_ | refine ls23 7 hS rfl ?_ | refine valP_ok (ld23 (by assumption) (by assumption) (by assumption)) ?_
  first | refine ls28 0 hS rfl ?_ | refine ls28 1 hS rfl ?_ | refine ls28 2 hS rfl ?_ | refine ls28 3 hS rfl ?_ | refine ls28 4 hS rfl ?_ | refine ls28 5 hS rfl ?_ | refine ls28 6 hS rfl ?_ | refine ls28 7 hS rfl ?_ | refine valP_ok (ld28 (by assumption) (by assumption) (by assumption) (by assumption) (by assumption)) ?_
  refine callR (by kernel_rfl) (mays_ret hE3 hS) ?_
  rintro _ w ⟨⟨t, rfl, ht⟩, hS⟩
  first | refine valP_ok (not_ok _ _) ?_ | refine valP_ok (notb_ok _ _) ?_
  unfold m13_16
  cases t with
  | false =>
    refine cond_t rfl ?_
    refine valP_ok (bd28 _) ?_
    first | refine ss28 0 hS rfl rfl rfl rfl rfl rfl ?_ | refine ss28 1 hS rfl rfl rfl rfl rfl rfl ?_ | refine ss28 2 hS rfl rfl rfl rfl rfl rfl ?_ | refine ss28 3 hS rfl rfl rfl rfl rfl rfl ?_ | refine ss28 4 hS rfl rfl rfl rfl rfl rfl ?_ | refine ss28 5 hS rfl rfl rfl rfl rfl rfl ?_ | refine ss28 6 hS rfl rfl rfl rfl rfl rfl ?_ | refine ss28 7 hS rfl rfl rfl rfl rfl rfl ?_
    intro w hS
    simp only [List.set_cons_zero, List.set_cons_succ] at hS
    exact run_none (x := .slice none 0 0) (e := 1) (fun h => absurd h (by omega)) (St.mid (A := [_]) (B := [_, _]) hS)
  | true =>
    have hm := ht.1 rfl
    refine cond_f rfl ?_
    unfold m13_2 m13_3 m13_6
    refine loop_in (fun u w' => ∃ (i : Nat) (s' : Sg) (A' : Option Addr) (c' : Nat) (A2 : Option Addr) (c2 : Nat) (all : List Ce) (R : List Res), u = (.slice A2 all.length c2, .int .i64 (i : Int)) ∧ i ≤ l.length ∧ SgOk s' ∧ s'.L.length ≤ 64 ∧ all.length ≤ 64 * i ∧ Sl w0 F (R ++ L) A' c' s'.L ∧ St w0 F w' (cRow A2 c2 all :: RnL (B ++ (R ++ L)) g s' A' c' b3 b4 b6)) (fun u _ => l.length - (intOf u.2).toNat) ⟨0, s, A, c, none, 0, [], [], rfl, by omega, hok, hm.1.2.2.2.2.2.2, by simp, hEs, hS.row_nil 67 12⟩ ?_
    clear hS
    rintro u w ⟨i, s', A', c', A2, c2, all, R, rfl, hi, hok', h64, hal, hE, hS⟩
    simp only
    unfold m13_7
    refine builtin_ok (len24 _) ?_
    refine valP_ok (lss_ok _ _ _ _ _ _ _) ?_
    unfold m13_15
    refine cond_split (fun h => ?_) (fun h => ?_)
    · have hil : i < l.length := by omega
      have hB4 : Bes w0 F (cRow A2 c2 all :: RnL (B ++ (R ++ L)) g s' A' c' b3 b4 b6) 3 Al l.length (l.flatMap encR) := hB.mono fun q hq => .tail _ (.tail _ (.tail _ (.tail _ (List.mem_append_right _ (List.mem_append_right _ hq)))))
      obtain ⟨gb, o, rfl⟩ := (hB4.rd hS).some_ (by omega) (by omega)
      have last : ∀ (K1 : Value × Value → World → Prop), (∀ w s2 A4 c4 A5 c5 all2 R2, SgOk s2 → s2.L.length ≤ 64 → all2.length ≤ 64 * (i + 1) → Sl w0 F (R2 ++ L) A4 c4 s2.L → St w0 F w (cRow A5 c5 all2 :: RnL (B ++ (R2 ++ L)) g s2 A4 c4 b3 b4 b6) → K1 (.slice A5 all2.length c5, .int .i64 ((i + 1 : Nat) : Int)) w) →
          ∀ (e : Int) (s2 : Sg) (A3 A4 : Option Addr) (c3 c4 b11 : Nat) (ov : List Ce) (R2 : List Res) w, SgOk s2 → s2.L.length ≤ 64 → ov.length ≤ 64 → Sl w0 F (R2 ++ L) A4 c4 s2.L → Sl w0 F (R2 ++ L) A3 c3 ov → St w0 F w (Res.cells b11 28 (encS s2 A4 c4) :: cRow A2 c2 all :: RnL (B ++ (R2 ++ L)) g s' A' c' b3 b4 b6) →
          m13_10 (RunR g s w0 F B L) K1 (.slice (some ⟨gb, o, none⟩) l.length cl) (.pointer (some ⟨b3, 0, none⟩)) (.pointer (some ⟨b4, 0, none⟩)) (.pointer (some ⟨b6, 0, none⟩)) (.slice A2 all.length c2) (.int .i64 (i : Int)) (.pointer (some ⟨b11, 0, none⟩)) (.slice A3 ov.length c3) (.int .i64 e) w := by
        clear hS
        intro K1 hK e s2 A3 A4 c3 c4 b11 ov R2 w hok2 h642 hov hE2 hEo hS
        unfold m13_10
        refine valP_ok (ne3 _ _ _ _ _) ?_
        unfold m13_13
        refine cond_split (fun he => ?_) (fun he => ?_)
        · refine valP_ok (bd28 _) ?_
          first | refine ss28 0 hS rfl rfl rfl rfl rfl rfl ?_ | refine ss28 1 hS rfl rfl rfl rfl rfl rfl ?_ | refine ss28 2 hS rfl rfl rfl rfl rfl rfl ?_ | refine ss28 3 hS rfl rfl rfl rfl rfl rfl ?_ | refine ss28 4 hS rfl rfl rfl rfl rfl rfl ?_ | refine ss28 5 hS rfl rfl rfl rfl rfl rfl ?_ | refine ss28 6 hS rfl rfl rfl rfl rfl rfl ?_ | refine ss28 7 hS rfl rfl rfl rfl rfl rfl ?_
          intro w hS
          simp only [List.set_cons_zero, List.set_cons_succ] at hS
          unfold m13_14
          refine valS_ok (lc28 (hS.cell 2 rfl rfl) (hS.cell 2 rfl rfl) (hS.cell 2 rfl rfl) (hS.cell 2 rfl rfl) (hS.cell 2 rfl rfl)) ?_
          refine ⟨R2, zeroSg, _, _, e, rfl, fun _ => hm, ⟨zeroSg_ok, by simp [zeroSg], none, 0, rfl, Sl.nil⟩, ?_⟩
          exact St.swap (A := B) (B := R2) (St.mid (A := []) (B := [_, _, _, _, _]) hS)
        · unfold m13_11
          first | refine ls28 0 hS rfl ?_ | refine ls28 1 hS rfl ?_ | refine ls28 2 hS rfl ?_ | refine ls28 3 hS rfl ?_ | refine ls28 4 hS rfl ?_ | refine ls28 5 hS rfl ?_ | refine ls28 6 hS rfl ?_ | refine ls28 7 hS rfl ?_ | refine valP_ok (ld28 (by assumption) (by assumption) (by assumption) (by assumption) (by assumption)) ?_
          first | refine ss28 0 hS rfl rfl rfl rfl rfl rfl ?_ | refine ss28 1 hS rfl rfl rfl rfl rfl rfl ?_ | refine ss28 2 hS rfl rfl rfl rfl rfl rfl ?_ | refine ss28 3 hS rfl rfl rfl rfl rfl rfl ?_ | refine ss28 4 hS rfl rfl rfl rfl rfl rfl ?_ | refine ss28 5 hS rfl rfl rfl rfl rfl rfl ?_ | refine ss28 6 hS rfl rfl rfl rfl rfl rfl ?_ | refine ss28 7 hS rfl rfl rfl rfl rfl rfl ?_
          intro w hS
          simp only [List.set_cons_zero, List.set_cons_succ] at hS
          unfold m13_12
          have hlen : (all ++ ov).length = all.length + ov.length := List.length_append
          refine append_anyS (enc := encC) (l0 := all) (l := ov) 1 sl26 encC_len encC_one (by unfold maxLen; omega) (by omega) hS rfl ((hEo.mono (L' := _) fun q hq => .tail _ (.tail _ (.tail _ (.tail _ (.tail _ (List.mem_append_right _ hq)))))).rd.rd hS) hEo.nul ?_
          intro A5 c5 w hS
          simp only [List.set_cons_zero, List.set_cons_succ] at hS
          unfold m13_9
          refine valP_ok (add_ok _ _ _ (by omega) (by omega) _) ?_
          exact hK _ s2 A4 c4 A5 c5 (all ++ ov) R2 hok2 h642 (by omega) hE2 hS.tail
      unfold m13_8
      refine drawn_ok hS ?_
      intro w hS
      refine held_Hs hS ?_
      first | refine valJ_at (fun w hw => ld23 (Hs.cell 0 rfl rfl w hw) (Hs.cell 0 rfl rfl w hw) (Hs.cell 0 rfl rfl w hw)) ?_ | refine valJ_at (fun w hw => ld23 (Hs.cell 1 rfl rfl w hw) (Hs.cell 1 rfl rfl w hw) (Hs.cell 1 rfl rfl w hw)) ?_ | refine valJ_at (fun w hw => ld23 (Hs.cell 2 rfl rfl w hw) (Hs.cell 2 rfl rfl w hw) (Hs.cell 2 rfl rfl w hw)) ?_ | refine valJ_at (fun w hw => ld23 (Hs.cell 3 rfl rfl w hw) (Hs.cell 3 rfl rfl w hw) (Hs.cell 3 rfl rfl w hw)) ?_ | refine valJ_at (fun w hw => ld23 (Hs.cell 4 rfl rfl w hw) (Hs.cell 4 rfl rfl w hw) (Hs.cell 4 rfl rfl w hw)) ?_ | refine valJ_at (fun w hw => ld23 (Hs.cell 5 rfl rfl w hw) (Hs.cell 5 rfl rfl w hw) (Hs.cell 5 rfl rfl w hw)) ?_ | refine valJ_at (fun w hw => ld23 (Hs.cell 6 rfl rfl w hw) (Hs.cell 6 rfl rfl w hw) (Hs.cell 6 rfl rfl w hw)) ?_ | refine valJ_at (fun w hw => ld23 (Hs.cell 7 rfl rfl w hw) (Hs.cell 7 rfl rfl w hw) (Hs.cell 7 rfl rfl w hw)) ?_
      first | refine valJ_at (fun w hw => ld28 (Hs.cell 0 rfl rfl w hw) (Hs.cell 0 rfl rfl w hw) (Hs.cell 0 rfl rfl w hw) (Hs.cell 0 rfl rfl w hw) (Hs.cell 0 rfl rfl w hw)) ?_ | refine valJ_at (fun w hw => ld28 (Hs.cell 1 rfl rfl w hw) (Hs.cell 1 rfl rfl w hw) (Hs.cell 1 rfl rfl w hw) (Hs.cell 1 rfl rfl w hw) (Hs.cell 1 rfl rfl w hw)) ?_ | refine valJ_at (fun w hw => ld28 (Hs.cell 2 rfl rfl w hw) (Hs.cell 2 rfl rfl w hw) (Hs.cell 2 rfl rfl w hw) (Hs.cell 2 rfl rfl w hw) (Hs.cell 2 rfl rfl w hw)) ?_ | refine valJ_at (fun w hw => ld28 (Hs.cell 3 rfl rfl w hw) (Hs.cell 3 rfl rfl w hw) (Hs.cell 3 rfl rfl w hw) (Hs.cell 3 rfl rfl w hw) (Hs.cell 3 rfl rfl w hw)) ?_ | refine valJ_at (fun w hw => ld28 (Hs.cell 4 rfl rfl w hw) (Hs.cell 4 rfl rfl w hw) (Hs.cell 4 rfl rfl w hw) (Hs.cell 4 rfl rfl w hw) (Hs.cell 4 rfl rfl w hw)) ?_ | refine valJ_at (fun w hw => ld28 (Hs.cell 5 rfl rfl w hw) (Hs.cell 5 rfl rfl w hw) (Hs.cell 5 rfl rfl w hw) (Hs.cell 5 rfl rfl w hw) (Hs.cell 5 rfl rfl w hw)) ?_ | refine valJ_at (fun w hw => ld28 (Hs.cell 6 rfl rfl w hw) (Hs.cell 6 rfl rfl w hw) (Hs.cell 6 rfl rfl w hw) (Hs.cell 6 rfl rfl w hw) (Hs.cell 6 rfl rfl w hw)) ?_ | refine valJ_at (fun w hw => ld28 (Hs.cell 7 rfl rfl w hw) (Hs.cell 7 rfl rfl w hw) (Hs.cell 7 rfl rfl w hw) (Hs.cell 7 rfl rfl w hw) (Hs.cell 7 rfl rfl w hw)) ?_
      first | refine valJ_ok (ixz24 (by first | assumption | omega)) ?_ | refine valJ_ok (ix24 (by first | assumption | omega)) ?_
      have p := fun w (hw : Hs w0 F (cRow A2 c2 all :: RnL (B ++ (R ++ L)) g s' A' c' b3 b4 b6) w) => r_at (Hs.rd hB4 w hw) hil
      refine valJ_at (fun w hw => ld46 (p w hw).1 (p w hw).2.1 (p w hw).2.2) ?_
      refine ⟨?_, ?_⟩
      · refine callR (by kernel_rfl) (feed_ret (B := cRow A2 c2 all :: RnL B g s' A' c' b3 b4 b6) (L := R ++ L) hok' hE hS) ?_
        rintro _ w ⟨R1, s2, sv, e, A3, c3, ov, rfl, ⟨hok2, h642, A4, c4, rfl, hE2⟩, hEo, hov, hS⟩
        have hS := St.swap (A := R1) (B := cRow A2 c2 all :: RnL B g s' A' c' b3 b4 b6) (L := R ++ L) hS
        refine stay_Hs hS (fun q hq => mem_under (B := cRow A2 c2 all :: RnL B g s' A' c' b3 b4 b6) (R := R1) q hq) ?_
        have ea : R1 ++ (R ++ L) = (R1 ++ R) ++ L := (List.append_assoc ..).symm
        refine valJ_ok (extract_ok _ 0 rfl) ?_
        refine valJ_ok (extract_ok _ 1 rfl) ?_
        refine valJ_ok (extract_ok _ 2 rfl) ?_
        refine new_ok (al28 _) hS ?_
        intro b11 w hS
        refine stay_Hs hS (fun q hq => .tail _ (mem_under (B := cRow A2 c2 all :: RnL B g s' A' c' b3 b4 b6) (R := R1) q hq)) ?_
        first | refine ss28 0 hS rfl rfl rfl rfl rfl rfl ?_ | refine ss28 1 hS rfl rfl rfl rfl rfl rfl ?_ | refine ss28 2 hS rfl rfl rfl rfl rfl rfl ?_ | refine ss28 3 hS rfl rfl rfl rfl rfl rfl ?_ | refine ss28 4 hS rfl rfl rfl rfl rfl rfl ?_ | refine ss28 5 hS rfl rfl rfl rfl rfl rfl ?_ | refine ss28 6 hS rfl rfl rfl rfl rfl rfl ?_ | refine ss28 7 hS rfl rfl rfl rfl rfl rfl ?_
        intro w hS
        simp only [List.set_cons_zero, List.set_cons_succ] at hS
        refine stay_Hs hS (fun q hq => .tail _ (mem_under (B := cRow A2 c2 all :: RnL B g s' A' c' b3 b4 b6) (R := R1) q hq)) ?_
        rw [ea] at hE2 hEo hS
        exact last _ (fun w s2 A4 c4 A5 c5 all2 R2 q1 q2 q3 q4 q5 => ⟨⟨i + 1, s2, A4, c4, A5, c5, all2, R2, rfl, by omega, q1, q2, q3, q4, q5⟩, by simp [intOf]; omega⟩) e s2 A3 A4 c3 c4 _ ov (R1 ++ R) _ hok2 h642 hov hE2 hEo hS
      · refine new_ok (al28 _) hS ?_
        intro b11 w hS
        refine stay_Hs hS (by first | exact fun _ h => h | exact fun _ h => .tail _ h | exact fun _ h => .tail _ (.tail _ h) | simp) ?_
        refine callR (by kernel_rfl) (feed_ret (B := Res.cells b11 28 [.int .i64 0, .int .i64 0, .int .i64 0, .int .i64 0, .slice none 0 0] :: cRow A2 c2 all :: RnL B g s' A' c' b3 b4 b6) (L := R ++ L) hok' hE hS) ?_
        rintro _ w ⟨R1, s2, sv, e, A3, c3, ov, rfl, ⟨hok2, h642, A4, c4, rfl, hE2⟩, hEo, hov, hS⟩
        have hS := St.swap (A := R1) (B := Res.cells b11 28 [.int .i64 0, .int .i64 0, .int .i64 0, .int .i64 0, .slice none 0 0] :: cRow A2 c2 all :: RnL B g s' A' c' b3 b4 b6) (L := R ++ L) hS
        refine stay_Hs hS (fun q hq => .tail _ (mem_under (B := cRow A2 c2 all :: RnL B g s' A' c' b3 b4 b6) (R := R1) q hq)) ?_
        have ea : R1 ++ (R ++ L) = (R1 ++ R) ++ L := (List.append_assoc ..).symm
        have hS : St w0 F w (Res.cells b11 28 [.int .i64 0, .int .i64 0, .int .i64 0, .int .i64 0, .slice none 0 0] :: cRow A2 c2 all :: RnL (B ++ (R1 ++ (R ++ L))) g s' A' c' b3 b4 b6) := hS
        refine valJ_ok (extract_ok _ 0 rfl) ?_
        refine valJ_ok (extract_ok _ 1 rfl) ?_
        refine valJ_ok (extract_ok _ 2 rfl) ?_
        first | refine ss28 0 hS rfl rfl rfl rfl rfl rfl ?_ | refine ss28 1 hS rfl rfl rfl rfl rfl rfl ?_ | refine ss28 2 hS rfl rfl rfl rfl rfl rfl ?_ | refine ss28 3 hS rfl rfl rfl rfl rfl rfl ?_ | refine ss28 4 hS rfl rfl rfl rfl rfl rfl ?_ | refine ss28 5 hS rfl rfl rfl rfl rfl rfl ?_ | refine ss28 6 hS rfl rfl rfl rfl rfl rfl ?_ | refine ss28 7 hS rfl rfl rfl rfl rfl rfl ?_
        intro w hS
        simp only [List.set_cons_zero, List.set_cons_succ] at hS
        refine stay_Hs hS (fun q hq => .tail _ (mem_under (B := cRow A2 c2 all :: RnL B g s' A' c' b3 b4 b6) (R := R1) q hq)) ?_
        rw [ea] at hE2 hEo hS
        exact last _ (fun w s2 A4 c4 A5 c5 all2 R2 q1 q2 q3 q4 q5 => ⟨⟨i + 1, s2, A4, c4, A5, c5, all2, R2, rfl, by omega, q1, q2, q3, q4, q5⟩, by simp [intOf]; omega⟩) e s2 A3 A4 c3 c4 _ ov (R1 ++ R) _ hok2 h642 hov hE2 hEo hS
    · unfold m13_4
      first | refine ls28 0 hS rfl ?_ | refine ls28 1 hS rfl ?_ | refine ls28 2 hS rfl ?_ | refine ls28 3 hS rfl ?_ | refine ls28 4 hS rfl ?_ | refine ls28 5 hS rfl ?_ | refine ls28 6 hS rfl ?_ | refine ls28 7 hS rfl ?_ | refine valP_ok (ld28 (by assumption) (by assumption) (by assumption) (by assumption) (by assumption)) ?_
      first | refine ss28 0 hS rfl rfl rfl rfl rfl rfl ?_ | refine ss28 1 hS rfl rfl rfl rfl rfl rfl ?_ | refine ss28 2 hS rfl rfl rfl rfl rfl rfl ?_ | refine ss28 3 hS rfl rfl rfl rfl rfl rfl ?_ | refine ss28 4 hS rfl rfl rfl rfl rfl rfl ?_ | refine ss28 5 hS rfl rfl rfl rfl rfl rfl ?_ | refine ss28 6 hS rfl rfl rfl rfl rfl rfl ?_ | refine ss28 7 hS rfl rfl rfl rfl rfl rfl ?_
      intro w hS
      simp only [List.set_cons_zero, List.set_cons_succ] at hS
      unfold m13_5
      refine valS_ok (lc28 (hS.cell 1 rfl rfl) (hS.cell 1 rfl rfl) (hS.cell 1 rfl rfl) (hS.cell 1 rfl rfl) (hS.cell 1 rfl rfl)) ?_
      refine ⟨R, s', _, _, 0, rfl, fun _ => hm, ⟨hok', h64, A', c', rfl, hE⟩, ?_⟩
      exact St.swap (A := B) (B := R) (St.mid (A := []) (B := [_, _, _, _]) hS)
end
end

end Go.Proofs.Ytnhgdngbdoifnaa.M
