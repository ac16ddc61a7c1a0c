/- What an engine leaves, told some at a time. -/
import Derived.Test.YtnhgdngbdoifnaaK13
import Derived.Test.YtnhgdngbdoifnaaFwW
import Derived.Test.YtnhgdngbdoifnaaMbase0
import Derived.Test.YtnhgdngbdoifnaaMmid0
import Derived.Test.YtnhgdngbdoifnaaMgrid0
import Derived.Test.YtnhgdngbdoifnaaMfold0
import Derived.Test.YtnhgdngbdoifnaaMeng0
import Derived.Test.YtnhgdngbdoifnaaMdiff0
import Derived.Test.YtnhgdngbdoifnaaMlaw0
namespace Go.Proofs.Ytnhgdngbdoifnaa.M
open Go.Proofs.Ytnhgdngbdoifnaa.F Go.RowKit
set_option linter.unusedVariables false
set_option linter.unusedSimpArgs false
set_option maxRecDepth 100000
set_option maxHeartbeats 2000000
attribute [local irreducible] Res.cells Res.row Res.map Res.any World.cell? World.frozen? Instr.fieldAt Instr.loadAt Instr.storeAt Instr.indexAt Instr.lookup Instr.mapUpdate Instr.box Instr.build Instr.buildSlice Instr.extract Instr.alloc Instr.field Instr.index Instr.sliceAt Instr.makeSlice Instr.makeMap Instr.makeFunc binS Op.unary Sem.run
section
variable {w0 w : World} {F : List Nat} {L : List Res}
section
variable {g : Gr} {Lr R : List Res} {b3 b7 b9 b12 : Nat} {l : List Rc} {A' : Option Addr} {c' : Nat} {s t : Sg} {As At : Option Addr} {cs ct : Nat} {A2 : Option Addr} {c2 : Nat} {rs : List Rc}
theorem log_6 (hI : LgI g w0 F L Lr b3 b7 b9 l A' c' s As cs A2 c2 rs R w) : m5_6 (LogR g w0 F L) (.pointer (some ⟨b3, 0, none⟩)) (.pointer (some ⟨b7, 0, none⟩)) (.pointer (some ⟨b9, 0, none⟩)) (.slice A2 (offs 0 rs).length c2) w := by
  obtain ⟨-, -, -, hlg, hok, h64, hb, hrng, hE, hS⟩ := hI
  have hS : St w0 F w (Res.cells b7 28 zc :: grow A2 c2 (offs 0 rs) :: Res.cells b9 28 (encS s As cs) :: Res.cells b3 23 (encGr g) :: (R ++ Lr)) := hS.pick 4 [2, 0, 1, 3] (by simp) (by decide)
  unfold m5_6
  refine drawn_ok hS ?_
  intro w hS
  refine held_Hs hS.tail ?_
  first | refine valJ_at (fun w hw => ld28 (Hs.cell 0 rfl rfl w hw) (Hs.cell 0 rfl rfl w hw) (Hs.cell 0 rfl rfl w hw) (Hs.cell 0 rfl rfl w hw) (Hs.cell 0 rfl rfl w hw)) ?_ | refine valJ_at (fun w hw => ld28 (Hs.cell 1 rfl rfl w hw) (Hs.cell 1 rfl rfl w hw) (Hs.cell 1 rfl rfl w hw) (Hs.cell 1 rfl rfl w hw) (Hs.cell 1 rfl rfl w hw)) ?_ | refine valJ_at (fun w hw => ld28 (Hs.cell 2 rfl rfl w hw) (Hs.cell 2 rfl rfl w hw) (Hs.cell 2 rfl rfl w hw) (Hs.cell 2 rfl rfl w hw) (Hs.cell 2 rfl rfl w hw)) ?_ | refine valJ_at (fun w hw => ld28 (Hs.cell 3 rfl rfl w hw) (Hs.cell 3 rfl rfl w hw) (Hs.cell 3 rfl rfl w hw) (Hs.cell 3 rfl rfl w hw) (Hs.cell 3 rfl rfl w hw)) ?_ | refine valJ_at (fun w hw => ld28 (Hs.cell 4 rfl rfl w hw) (Hs.cell 4 rfl rfl w hw) (Hs.cell 4 rfl rfl w hw) (Hs.cell 4 rfl rfl w hw) (Hs.cell 4 rfl rfl w hw)) ?_ | refine valJ_at (fun w hw => ld28 (Hs.cell 5 rfl rfl w hw) (Hs.cell 5 rfl rfl w hw) (Hs.cell 5 rfl rfl w hw) (Hs.cell 5 rfl rfl w hw) (Hs.cell 5 rfl rfl w hw)) ?_ | refine valJ_at (fun w hw => ld28 (Hs.cell 6 rfl rfl w hw) (Hs.cell 6 rfl rfl w hw) (Hs.cell 6 rfl rfl w hw) (Hs.cell 6 rfl rfl w hw) (Hs.cell 6 rfl rfl w hw)) ?_ | refine valJ_at (fun w hw => ld28 (Hs.cell 7 rfl rfl w hw) (Hs.cell 7 rfl rfl w hw) (Hs.cell 7 rfl rfl w hw) (Hs.cell 7 rfl rfl w hw) (Hs.cell 7 rfl rfl w hw)) ?_
  first | refine valJ_at (fun w hw => ld23 (Hs.cell 0 rfl rfl w hw) (Hs.cell 0 rfl rfl w hw) (Hs.cell 0 rfl rfl w hw)) ?_ | refine valJ_at (fun w hw => ld23 (Hs.cell 1 rfl rfl w hw) (Hs.cell 1 rfl rfl w hw) (Hs.cell 1 rfl rfl w hw)) ?_ | refine valJ_at (fun w hw => ld23 (Hs.cell 2 rfl rfl w hw) (Hs.cell 2 rfl rfl w hw) (Hs.cell 2 rfl rfl w hw)) ?_ | refine valJ_at (fun w hw => ld23 (Hs.cell 3 rfl rfl w hw) (Hs.cell 3 rfl rfl w hw) (Hs.cell 3 rfl rfl w hw)) ?_ | refine valJ_at (fun w hw => ld23 (Hs.cell 4 rfl rfl w hw) (Hs.cell 4 rfl rfl w hw) (Hs.cell 4 rfl rfl w hw)) ?_ | refine valJ_at (fun w hw => ld23 (Hs.cell 5 rfl rfl w hw) (Hs.cell 5 rfl rfl w hw) (Hs.cell 5 rfl rfl w hw)) ?_ | refine valJ_at (fun w hw => ld23 (Hs.cell 6 rfl rfl w hw) (Hs.cell 6 rfl rfl w hw) (Hs.cell 6 rfl rfl w hw)) ?_ | refine valJ_at (fun w hw => ld23 (Hs.cell 7 rfl rfl w hw) (Hs.cell 7 rfl rfl w hw) (Hs.cell 7 rfl rfl w hw)) ?_
  first | refine valJ_at (fun w hw => ld28 (Hs.cell 0 rfl rfl w hw) (Hs.cell 0 rfl rfl w hw) (Hs.cell 0 rfl rfl w hw) (Hs.cell 0 rfl rfl w hw) (Hs.cell 0 rfl rfl w hw)) ?_ | refine valJ_at (fun w hw => ld28 (Hs.cell 1 rfl rfl w hw) (Hs.cell 1 rfl rfl w hw) (Hs.cell 1 rfl rfl w hw) (Hs.cell 1 rfl rfl w hw) (Hs.cell 1 rfl rfl w hw)) ?_ | refine valJ_at (fun w hw => ld28 (Hs.cell 2 rfl rfl w hw) (Hs.cell 2 rfl rfl w hw) (Hs.cell 2 rfl rfl w hw) (Hs.cell 2 rfl rfl w hw) (Hs.cell 2 rfl rfl w hw)) ?_ | refine valJ_at (fun w hw => ld28 (Hs.cell 3 rfl rfl w hw) (Hs.cell 3 rfl rfl w hw) (Hs.cell 3 rfl rfl w hw) (Hs.cell 3 rfl rfl w hw) (Hs.cell 3 rfl rfl w hw)) ?_ | refine valJ_at (fun w hw => ld28 (Hs.cell 4 rfl rfl w hw) (Hs.cell 4 rfl rfl w hw) (Hs.cell 4 rfl rfl w hw) (Hs.cell 4 rfl rfl w hw) (Hs.cell 4 rfl rfl w hw)) ?_ | refine valJ_at (fun w hw => ld28 (Hs.cell 5 rfl rfl w hw) (Hs.cell 5 rfl rfl w hw) (Hs.cell 5 rfl rfl w hw) (Hs.cell 5 rfl rfl w hw) (Hs.cell 5 rfl rfl w hw)) ?_ | refine valJ_at (fun w hw => ld28 (Hs.cell 6 rfl rfl w hw) (Hs.cell 6 rfl rfl w hw) (Hs.cell 6 rfl rfl w hw) (Hs.cell 6 rfl rfl w hw) (Hs.cell 6 rfl rfl w hw)) ?_ | refine valJ_at (fun w hw => ld28 (Hs.cell 7 rfl rfl w hw) (Hs.cell 7 rfl rfl w hw) (Hs.cell 7 rfl rfl w hw) (Hs.cell 7 rfl rfl w hw) (Hs.cell 7 rfl rfl w hw)) ?_
  refine callR (by kernel_rfl) (mays_ret ((((hE.cons _).cons _).cons _).cons _) hS) ?_
  rintro _ w ⟨⟨t, rfl, ht⟩, hS⟩
  refine stay_Hs hS (by first | exact fun _ h => h | exact fun _ h => .tail _ h | exact fun _ h => .tail _ (.tail _ h) | simp) ?_
  first | refine ss28 0 hS rfl rfl rfl rfl rfl rfl ?_ | refine ss28 1 hS rfl rfl rfl rfl rfl rfl ?_ | refine ss28 2 hS rfl rfl rfl rfl rfl rfl ?_ | refine ss28 3 hS rfl rfl rfl rfl rfl rfl ?_ | refine ss28 4 hS rfl rfl rfl rfl rfl rfl ?_ | refine ss28 5 hS rfl rfl rfl rfl rfl rfl ?_ | refine ss28 6 hS rfl rfl rfl rfl rfl rfl ?_ | refine ss28 7 hS rfl rfl rfl rfl rfl rfl ?_
  intro w hS
  simp only [List.set_cons_zero, List.set_cons_succ] at hS
  refine stay_Hs hS (by first | exact fun _ h => h | exact fun _ h => .tail _ h | exact fun _ h => .tail _ (.tail _ h) | simp) ?_
  unfold m5_7
  refine valS_ok (lc28 (hS.cell 0 rfl rfl) (hS.cell 0 rfl rfl) (hS.cell 0 rfl rfl) (hS.cell 0 rfl rfl) (hS.cell 0 rfl rfl)) ?_
  exact ⟨_, offs 0 rs, s, A2, As, c2, cs, t, rfl, hS, fun h => ⟨Bes.of_row (e := 48) (c := c2) 1 rfl, (((hE.cons _).cons _).cons _).cons _, ht.1 h, hok, rs, rfl, hlg, by omega, hrng⟩⟩
theorem log_11 {K1 : Value × Value → World → Prop} {m e : Int} {l1 l2 : List Rc} (h1 : 1 ≤ l1.length) (hlen : (l1 ++ l2).length ≤ 150) (hcap : (l1 ++ l2).length ≤ c') (hrd : Bes w0 F Lr 3 A' (l1 ++ l2).length ((l1 ++ l2).flatMap encR)) (hlg : Logs g rs s) (hm : e = 0 → MayS g s) (hs : SgOk s) (ht : SgOk t) (h64 : s.L.length ≤ 64 ∧ t.L.length ≤ 64)
    (hb : rs.length + 129 * (l1 ++ l2).length ≤ 19350) (hrng : ∀ r ∈ rs, RcI r) (hE1 : Sl w0 F (R ++ Lr) As cs s.L) (hE2 : Sl w0 F (R ++ Lr) At ct t.L)
    (hK : ∀ (A' : Option Addr) (c' : Nat) (A2 : Option Addr) (c2 : Nat) (rs2 : List Rc) w, LgI g w0 F L Lr b3 b7 b9 l2 A' c' t At ct A2 c2 rs2 R w → K1 (.slice A' l2.length c', .slice A2 (offs 0 rs2).length c2) w)
    (hS : St w0 F w (Res.cells b12 28 (encS t At ct) :: LgL (R ++ Lr) g s As cs b3 b7 b9 A2 c2 rs)) :
    m5_11 (LogR g w0 F L) K1 (.slice A' (l1 ++ l2).length c') (.int .i64 m) (.pointer (some ⟨b3, 0, none⟩)) (.pointer (some ⟨b7, 0, none⟩)) (.pointer (some ⟨b9, 0, none⟩)) (.slice A2 (offs 0 rs).length c2) (.int .i64 (l1.length : Int)) (.pointer (some ⟨b12, 0, none⟩)) (.int .i64 e) w := by
  unfold m5_11
  refine valP_ok (ne3 _ _ _ _ _) ?_
  unfold m5_21
  refine cond_split (fun he => ?_) (fun he => ?_)
  · refine drawn_ok hS ?_
    intro w hS
    refine valS_ok (ld28 (hS.cell 2 rfl rfl) (hS.cell 2 rfl rfl) (hS.cell 2 rfl rfl) (hS.cell 2 rfl rfl) (hS.cell 2 rfl rfl)) ?_
    refine ss28 3 hS rfl rfl rfl rfl rfl rfl ?_
    intro w hS
    simp only [List.set_cons_zero, List.set_cons_succ] at hS
    unfold m5_22
    refine valS_ok (lc28 (hS.cell 3 rfl rfl) (hS.cell 3 rfl rfl) (hS.cell 3 rfl rfl) (hS.cell 3 rfl rfl) (hS.cell 3 rfl rfl)) ?_
    exact ⟨_, [], s, none, As, 0, cs, false, rfl, hS, fun h => (by cases h)⟩
  · exact log_12 h1 hlen hcap hrd hlg (hm (Classical.not_not.1 he)) hs ht h64 hb hrng hE1 hE2 hK hS
theorem log_ret {most : Int} {l0 : List Rc} {A : Option Addr} {c : Nat} (hmo : I64 most) (hc : l0.length ≤ c) (hl : Bes w0 F L 3 A (l0.take 150).length ((l0.take 150).flatMap encR)) (hS : St w0 F w L) : Ret Try.prog 5 #[grv g, .slice A l0.length c, .int .i64 most] w (LogR g w0 F L) := by
  refine s5 _ _ _ ?_
  unfold m5
  unfold m5_0
  refine new_ok (bx23 _ _ _ _) hS ?_
  intro b3 w hS
  refine new_ok (al28 _) hS ?_
  intro b7 w hS
  unfold m5_1
  refine callR (by kernel_rfl) (some16_ret hc ((hl.cons _).cons _) hS) ?_
  rintro _ w ⟨A1, c1, rfl, hS⟩
  have hll : ((l0.take 150).map cutR).length ≤ 150 := by rw [List.length_map, List.length_take]; omega
  generalize (l0.take 150).map cutR = ls at *
  have t1 := tmod_bounds most (b := 9) (by omega)
  unfold m5_2
  refine valP_ok (rem_any _ _ _ (by omega) (by omega) (by omega) (by omega) _) ?_
  refine valP_ok (add_ok _ _ _ (by omega) (by omega) _) ?_
  refine valP_ok (rem_ok _ _ _ (by omega) (by omega) (by omega) _) ?_
  refine valP_ok (add_ok _ _ _ (by omega) (by omega) _) ?_
  generalize hmm : 1 + (most.tmod 9 + 9) % 9 = m
  have hm1 : 1 ≤ m ∧ m ≤ 9 := by omega
  clear hmm t1
  unfold m5_3
  refine valP_ok (bd28_0 rfl _) ?_
  refine new_ok (al28 _) hS ?_
  intro b9 w hS
  first | refine ss28 0 hS rfl rfl rfl rfl rfl rfl ?_ | refine ss28 1 hS rfl rfl rfl rfl rfl rfl ?_ | refine ss28 2 hS rfl rfl rfl rfl rfl rfl ?_ | refine ss28 3 hS rfl rfl rfl rfl rfl rfl ?_ | refine ss28 4 hS rfl rfl rfl rfl rfl rfl ?_ | refine ss28 5 hS rfl rfl rfl rfl rfl rfl ?_ | refine ss28 6 hS rfl rfl rfl rfl rfl rfl ?_ | refine ss28 7 hS rfl rfl rfl rfl rfl rfl ?_
  intro w hS
  simp only [List.set_cons_zero, List.set_cons_succ] at hS
  unfold m5_4 m5_5
  have hcap1 := (hS.row_max 1 rfl).1
  have hS : St w0 F w (Res.cells b9 28 (encS ⟨-1, 0, 0, 0, []⟩ none 0) :: Res.cells b7 28 zc :: Res.cells b3 23 (encGr g) :: (rRow A1 c1 ls :: L)) := hS.pick 4 [0, 2, 3, 1] (by simp) (by decide)
  have hok0 : SgOk ⟨-1, 0, 0, 0, []⟩ := ⟨⟨by show I64 (-1); omega, by show I64 0; omega, by show I64 0; omega, by show I64 0; omega⟩, fun c h => (by cases h)⟩
  refine loop_in (fun u w' => ∃ (l : List Rc) (A' : Option Addr) (c' : Nat) (s : Sg) (As : Option Addr) (cs : Nat) (A2 : Option Addr) (c2 : Nat) (rs : List Rc) (R : List Res), u = (.slice A' l.length c', .slice A2 (offs 0 rs).length c2) ∧ LgI g w0 F L (rRow A1 c1 ls :: L) b3 b7 b9 l A' c' s As cs A2 c2 rs R w') (fun u _ => match u.1 with | .slice _ n _ => n | _ => 0) ⟨ls, A1, c1, ⟨-1, 0, 0, 0, []⟩, none, 0, none, 0, [], [], rfl, ⟨hll, hcap1, Bes.of_row 0 rfl, .zero, hok0, by simp, by simp; omega, fun r h => (by cases h), Sl.nil, hS.row_nil 48 4⟩⟩ ?_
  clear hS hl
  rintro u w ⟨l, A', c', s, As, cs, A2, c2, rs, R, rfl, hI⟩
  simp only
  have hS := hI.st
  unfold m5_8
  refine builtin_ok (len24 _) ?_
  refine valP_ok (gtr_ok _ _ _ _ _ _ _) ?_
  unfold m5_23
  refine cond_split (fun h => ?_) (fun h => ?_)
  · obtain ⟨l1, l2, rfl, hn, h1⟩ : ∃ l1 l2, l = l1 ++ l2 ∧ min m (l.length : Int) = (l1.length : Int) ∧ 1 ≤ l1.length := by
      refine ⟨l.take (min m.toNat l.length), l.drop (min m.toNat l.length), (List.take_append_drop _ _).symm, ?_, ?_⟩
      · rw [List.length_take]; omega
      · rw [List.length_take]; omega
    have ll : (l1 ++ l2).length = l1.length + l2.length := List.length_append
    have hb3 := hI.len
    have hc3 := hI.cap
    unfold m5_9
    refine builtin_ok (len24 _) ?_
    refine builtin_ok (min_run _ _ _) ?_
    rw [hn]
    have hrun : Bes w0 F (R ++ (rRow A1 c1 ls :: L)) 3 A' l1.length (l1.flatMap encR) := fun w' L' hS' hL' => by
      have hd := (hI.rd w' L' hS' (fun r hr => hL' r (List.mem_append_right _ hr))).takeS encR_len l1.length
      rw [List.take_left] at hd
      exact hd
    unfold m5_10
    refine drawn_ok hS ?_
    intro w hS
    refine held_Hs hS ?_
    first | refine valJ_at (fun w hw => ld23 (Hs.cell 0 rfl rfl w hw) (Hs.cell 0 rfl rfl w hw) (Hs.cell 0 rfl rfl w hw)) ?_ | refine valJ_at (fun w hw => ld23 (Hs.cell 1 rfl rfl w hw) (Hs.cell 1 rfl rfl w hw) (Hs.cell 1 rfl rfl w hw)) ?_ | refine valJ_at (fun w hw => ld23 (Hs.cell 2 rfl rfl w hw) (Hs.cell 2 rfl rfl w hw) (Hs.cell 2 rfl rfl w hw)) ?_ | refine valJ_at (fun w hw => ld23 (Hs.cell 3 rfl rfl w hw) (Hs.cell 3 rfl rfl w hw) (Hs.cell 3 rfl rfl w hw)) ?_ | refine valJ_at (fun w hw => ld23 (Hs.cell 4 rfl rfl w hw) (Hs.cell 4 rfl rfl w hw) (Hs.cell 4 rfl rfl w hw)) ?_ | refine valJ_at (fun w hw => ld23 (Hs.cell 5 rfl rfl w hw) (Hs.cell 5 rfl rfl w hw) (Hs.cell 5 rfl rfl w hw)) ?_ | refine valJ_at (fun w hw => ld23 (Hs.cell 6 rfl rfl w hw) (Hs.cell 6 rfl rfl w hw) (Hs.cell 6 rfl rfl w hw)) ?_ | refine valJ_at (fun w hw => ld23 (Hs.cell 7 rfl rfl w hw) (Hs.cell 7 rfl rfl w hw) (Hs.cell 7 rfl rfl w hw)) ?_
    first | refine valJ_at (fun w hw => ld28 (Hs.cell 0 rfl rfl w hw) (Hs.cell 0 rfl rfl w hw) (Hs.cell 0 rfl rfl w hw) (Hs.cell 0 rfl rfl w hw) (Hs.cell 0 rfl rfl w hw)) ?_ | refine valJ_at (fun w hw => ld28 (Hs.cell 1 rfl rfl w hw) (Hs.cell 1 rfl rfl w hw) (Hs.cell 1 rfl rfl w hw) (Hs.cell 1 rfl rfl w hw) (Hs.cell 1 rfl rfl w hw)) ?_ | refine valJ_at (fun w hw => ld28 (Hs.cell 2 rfl rfl w hw) (Hs.cell 2 rfl rfl w hw) (Hs.cell 2 rfl rfl w hw) (Hs.cell 2 rfl rfl w hw) (Hs.cell 2 rfl rfl w hw)) ?_ | refine valJ_at (fun w hw => ld28 (Hs.cell 3 rfl rfl w hw) (Hs.cell 3 rfl rfl w hw) (Hs.cell 3 rfl rfl w hw) (Hs.cell 3 rfl rfl w hw) (Hs.cell 3 rfl rfl w hw)) ?_ | refine valJ_at (fun w hw => ld28 (Hs.cell 4 rfl rfl w hw) (Hs.cell 4 rfl rfl w hw) (Hs.cell 4 rfl rfl w hw) (Hs.cell 4 rfl rfl w hw) (Hs.cell 4 rfl rfl w hw)) ?_ | refine valJ_at (fun w hw => ld28 (Hs.cell 5 rfl rfl w hw) (Hs.cell 5 rfl rfl w hw) (Hs.cell 5 rfl rfl w hw) (Hs.cell 5 rfl rfl w hw) (Hs.cell 5 rfl rfl w hw)) ?_ | refine valJ_at (fun w hw => ld28 (Hs.cell 6 rfl rfl w hw) (Hs.cell 6 rfl rfl w hw) (Hs.cell 6 rfl rfl w hw) (Hs.cell 6 rfl rfl w hw) (Hs.cell 6 rfl rfl w hw)) ?_ | refine valJ_at (fun w hw => ld28 (Hs.cell 7 rfl rfl w hw) (Hs.cell 7 rfl rfl w hw) (Hs.cell 7 rfl rfl w hw) (Hs.cell 7 rfl rfl w hw) (Hs.cell 7 rfl rfl w hw)) ?_
    refine valJ_ok (sh24 (by omega)) ?_
    have fin : ∀ (R1 : List Res) (t : Sg) (At : Option Addr) (ct b12 : Nat) (e : Int) (K1 : Value × Value → World → Prop), (∀ (A' : Option Addr) (c' : Nat) (t : Sg) (At : Option Addr) (ct : Nat) (A2 : Option Addr) (c2 : Nat) (rs2 : List Rc) (R2 : List Res) w, LgI g w0 F L (rRow A1 c1 ls :: L) b3 b7 b9 l2 A' c' t At ct A2 c2 rs2 R2 w → K1 (.slice A' l2.length c', .slice A2 (offs 0 rs2).length c2) w) → ∀ w, (e = 0 → MayS g s) → SgOk t → t.L.length ≤ 64 → Sl w0 F (R1 ++ (R ++ (rRow A1 c1 ls :: L))) At ct t.L →
        St w0 F w (Res.cells b12 28 (encS t At ct) :: LgL (R1 ++ (R ++ (rRow A1 c1 ls :: L))) g s As cs b3 b7 b9 A2 c2 rs) → m5_11 (LogR g w0 F L) K1 (.slice A' (l1 ++ l2).length c') (.int .i64 m) (.pointer (some ⟨b3, 0, none⟩)) (.pointer (some ⟨b7, 0, none⟩)) (.pointer (some ⟨b9, 0, none⟩)) (.slice A2 (offs 0 rs).length c2) (.int .i64 (l1.length : Int)) (.pointer (some ⟨b12, 0, none⟩)) (.int .i64 e) w := fun R1 t At ct b12 e K1 hK w hm ht h64 hE2 hS => by
      have ea : R1 ++ (R ++ (rRow A1 c1 ls :: L)) = (R1 ++ R) ++ (rRow A1 c1 ls :: L) := (List.append_assoc ..).symm
      have hE1 : Sl w0 F (R1 ++ (R ++ (rRow A1 c1 ls :: L))) As cs s.L := Sl.pre hI.sl
      rw [ea] at hE2 hS hE1
      exact log_11 h1 hb3 hc3 hI.rd hI.logs hm hI.ok ht ⟨hI.l64, h64⟩ hI.bnd hI.rng hE1 hE2 (fun A' c' A2 c2 rs2 w h => hK A' c' t At ct A2 c2 rs2 _ w h) hS
    refine ⟨?_, ?_⟩
    · refine callR (by kernel_rfl) (run_ret (B := [grow A2 c2 (offs 0 rs), Res.cells b9 28 (encS s As cs), Res.cells b7 28 zc, Res.cells b3 23 (encGr g)]) (L := R ++ (rRow A1 c1 ls :: L)) (by omega) hrun hI.ok hI.sl hS) ?_
      rintro _ w ⟨R1, t, sv, x, e, rfl, hm, ⟨ht, h64, At, ct, rfl, hE2⟩, hS⟩
      have hS := St.swap (A := R1) (B := [grow A2 c2 (offs 0 rs), Res.cells b9 28 (encS s As cs), Res.cells b7 28 zc, Res.cells b3 23 (encGr g)]) (L := R ++ (rRow A1 c1 ls :: L)) hS
      refine stay_Hs hS (fun q hq => mem_under (B := [grow A2 c2 (offs 0 rs), Res.cells b9 28 (encS s As cs), Res.cells b7 28 zc, Res.cells b3 23 (encGr g)]) (R := R1) q hq) ?_
      have hS : St w0 F w (LgL (R1 ++ (R ++ (rRow A1 c1 ls :: L))) g s As cs b3 b7 b9 A2 c2 rs) := hS
      refine valJ_ok (extract_ok _ 0 rfl) ?_
      refine valJ_ok (extract_ok _ 1 rfl) ?_
      refine valJ_ok (extract_ok _ 2 rfl) ?_
      refine new_ok (al28 _) hS ?_
      intro b12 w hS
      refine stay_Hs hS (fun q hq => .tail _ (mem_under (B := [grow A2 c2 (offs 0 rs), Res.cells b9 28 (encS s As cs), Res.cells b7 28 zc, Res.cells b3 23 (encGr g)]) (R := R1) q hq)) ?_
      first | refine ss28 0 hS rfl rfl rfl rfl rfl rfl ?_ | refine ss28 1 hS rfl rfl rfl rfl rfl rfl ?_ | refine ss28 2 hS rfl rfl rfl rfl rfl rfl ?_ | refine ss28 3 hS rfl rfl rfl rfl rfl rfl ?_ | refine ss28 4 hS rfl rfl rfl rfl rfl rfl ?_ | refine ss28 5 hS rfl rfl rfl rfl rfl rfl ?_ | refine ss28 6 hS rfl rfl rfl rfl rfl rfl ?_ | refine ss28 7 hS rfl rfl rfl rfl rfl rfl ?_
      intro w hS
      simp only [List.set_cons_zero, List.set_cons_succ] at hS
      refine stay_Hs hS (fun q hq => .tail _ (mem_under (B := [grow A2 c2 (offs 0 rs), Res.cells b9 28 (encS s As cs), Res.cells b7 28 zc, Res.cells b3 23 (encGr g)]) (R := R1) q hq)) ?_
      refine fin R1 t At ct _ e _ (fun A' c' t At ct A2 c2 rs2 R2 w h => ⟨⟨l2, A', c', t, At, ct, A2, c2, rs2, R2, rfl, h⟩, ?_⟩) _ hm ht h64 hE2 hS
      show l2.length < (l1 ++ l2).length
      omega
    · refine new_ok (al28 _) hS ?_
      intro b12 w hS
      refine stay_Hs hS (by first | exact fun _ h => h | exact fun _ h => .tail _ h | exact fun _ h => .tail _ (.tail _ h) | simp) ?_
      refine callR (by kernel_rfl) (run_ret (B := [Res.cells b12 28 zc, grow A2 c2 (offs 0 rs), Res.cells b9 28 (encS s As cs), Res.cells b7 28 zc, Res.cells b3 23 (encGr g)]) (L := R ++ (rRow A1 c1 ls :: L)) (by omega) hrun hI.ok hI.sl hS) ?_
      rintro _ w ⟨R1, t, sv, x, e, rfl, hm, ⟨ht, h64, At, ct, rfl, hE2⟩, hS⟩
      have hS := St.swap (A := R1) (B := [Res.cells b12 28 zc, grow A2 c2 (offs 0 rs), Res.cells b9 28 (encS s As cs), Res.cells b7 28 zc, Res.cells b3 23 (encGr g)]) (L := R ++ (rRow A1 c1 ls :: L)) hS
      refine stay_Hs hS (fun q hq => .tail _ (mem_under (B := [grow A2 c2 (offs 0 rs), Res.cells b9 28 (encS s As cs), Res.cells b7 28 zc, Res.cells b3 23 (encGr g)]) (R := R1) q hq)) ?_
      have hS : St w0 F w (Res.cells b12 28 zc :: LgL (R1 ++ (R ++ (rRow A1 c1 ls :: L))) g s As cs b3 b7 b9 A2 c2 rs) := hS
      refine valJ_ok (extract_ok _ 0 rfl) ?_
      refine valJ_ok (extract_ok _ 1 rfl) ?_
      refine valJ_ok (extract_ok _ 2 rfl) ?_
      first | refine ss28 0 hS rfl rfl rfl rfl rfl rfl ?_ | refine ss28 1 hS rfl rfl rfl rfl rfl rfl ?_ | refine ss28 2 hS rfl rfl rfl rfl rfl rfl ?_ | refine ss28 3 hS rfl rfl rfl rfl rfl rfl ?_ | refine ss28 4 hS rfl rfl rfl rfl rfl rfl ?_ | refine ss28 5 hS rfl rfl rfl rfl rfl rfl ?_ | refine ss28 6 hS rfl rfl rfl rfl rfl rfl ?_ | refine ss28 7 hS rfl rfl rfl rfl rfl rfl ?_
      intro w hS
      simp only [List.set_cons_zero, List.set_cons_succ] at hS
      refine stay_Hs hS (fun q hq => .tail _ (mem_under (B := [grow A2 c2 (offs 0 rs), Res.cells b9 28 (encS s As cs), Res.cells b7 28 zc, Res.cells b3 23 (encGr g)]) (R := R1) q hq)) ?_
      refine fin R1 t At ct _ e _ (fun A' c' t At ct A2 c2 rs2 R2 w h => ⟨⟨l2, A', c', t, At, ct, A2, c2, rs2, R2, rfl, h⟩, ?_⟩) _ hm ht h64 hE2 hS
      show l2.length < (l1 ++ l2).length
      omega
  · exact log_6 hI
end
end

end Go.Proofs.Ytnhgdngbdoifnaa.M
