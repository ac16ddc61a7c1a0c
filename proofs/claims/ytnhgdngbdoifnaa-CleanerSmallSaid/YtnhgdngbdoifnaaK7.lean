/- An engine's Feed: what it leaves fits. -/
import Derived.Test.YtnhgdngbdoifnaaK6
import Derived.Test.YtnhgdngbdoifnaaFwW
import Derived.Test.YtnhgdngbdoifnaaMbase0
import Derived.Test.YtnhgdngbdoifnaaMmid0
import Derived.Test.YtnhgdngbdoifnaaMgrid0
import Derived.Test.YtnhgdngbdoifnaaMfold0
import Derived.Test.YtnhgdngbdoifnaaMeng0
namespace Go.Proofs.Ytnhgdngbdoifnaa.M
open Go.Proofs.Ytnhgdngbdoifnaa.F Go.RowKit
set_option linter.unusedVariables false
set_option linter.unusedSimpArgs false
set_option maxRecDepth 100000
set_option maxHeartbeats 2000000
attribute [local irreducible] Res.cells Res.row Res.map Res.any World.cell? World.frozen? Instr.fieldAt Instr.loadAt Instr.storeAt Instr.indexAt Instr.lookup Instr.mapUpdate Instr.box Instr.build Instr.buildSlice Instr.extract Instr.alloc Instr.field Instr.index Instr.sliceAt Instr.makeSlice Instr.makeMap Instr.makeFunc binS Op.unary Sem.run
def SgOk (s : Sg) : Prop := (I64 s.mark ∧ I64 s.late ∧ I64 s.bad ∧ I64 s.n) ∧ ∀ c ∈ s.L, CeOk c
def zeroSg : Sg := ⟨0, 0, 0, 0, []⟩
theorem zeroSg_ok : SgOk zeroSg := ⟨⟨by show I64 0; omega, by show I64 0; omega, by show I64 0; omega, by show I64 0; omega⟩, fun c h => (by cases h)⟩
theorem mem_under {B R Y : List Res} : ∀ r ∈ B ++ Y, r ∈ B ++ (R ++ Y) := fun r h => by
  rcases List.mem_append.1 h with h | h
  · exact List.mem_append_left _ h
  · exact List.mem_append_right _ (List.mem_append_right _ h)
section
variable {w0 w : World} {F : List Nat} {L : List Res}
theorem Sl.own {A : Option Addr} {c : Nat} {l : List Ce} {L0 : List Res} (hS : St w0 F w (cRow A c l :: L0)) (L' : List Res) : Sl w0 F (cRow A c l :: L') A c l := ⟨Bes.of_row 0 rfl, (Sl.row 0 hS rfl).cap, (Sl.row 0 hS rfl).nul⟩
/-- what a state is, that somebody is handed. -/
structure SgR (w0 : World) (F : List Nat) (L : List Res) (v : Value) (s : Sg) : Prop where
  ok : SgOk s
  len : s.L.length ≤ 64
  val : ∃ A c, v = sgv s A c ∧ Sl w0 F L A c s.L
def FeedR (w0 : World) (F : List Nat) (B L : List Res) (v : Value) (w : World) : Prop :=
  ∃ (R : List Res) (s : Sg) (sv : Value) (e : Int) (A : Option Addr) (c : Nat) (over : List Ce), v = .tuple #[sv, .slice A over.length c, .int .i64 e] ∧ SgR w0 F (R ++ L) sv s ∧ Sl w0 F (R ++ L) A c over ∧ over.length ≤ 64 ∧ St w0 F w (R ++ (B ++ L))
section
variable {g : Gr} {s : Sg} {r : Rc} {A : Option Addr} {c b3 b4 b5 b6 : Nat} {B : List Res}
/-- the cells of Feed. -/
abbrev FdL (L : List Res) (g : Gr) (s : Sg) (r : Rc) (A : Option Addr) (c b3 b4 b5 b6 : Nat) : List Res := Res.cells b6 28 [.int .i64 0, .int .i64 0, .int .i64 0, .int .i64 0, .slice none 0 0] :: Res.cells b5 46 (encR r) :: Res.cells b4 28 (encS s A c) :: Res.cells b3 23 (encGr g) :: L
theorem feed_none {e : Int} (hS : St w0 F w (Res.cells b6 28 [.int .i64 0, .int .i64 0, .int .i64 0, .int .i64 0, .slice none 0 0] :: (B ++ L))) : m24_37 (FeedR w0 F B L) (.pointer (some ⟨b6, 0, none⟩)) (.slice none 0 0) (.int .i64 e) w := by
  unfold m24_37
  refine valS_ok (lc28 (hS.cell 0 rfl rfl) (hS.cell 0 rfl rfl) (hS.cell 0 rfl rfl) (hS.cell 0 rfl rfl) (hS.cell 0 rfl rfl)) ?_
  exact ⟨[], zeroSg, _, e, none, 0, [], rfl, ⟨zeroSg_ok, by simp [zeroSg], none, 0, rfl, Sl.nil⟩, Sl.nil, by simp, hS.tail⟩
theorem feed_12 {l : List Ce} {A' : Option Addr} {c' : Nat} {R : List Res} (hok : SgOk s) (hg : MayG g) (hm : I64 s.mark) (hl : l.length ≤ 64) (hlo : ∀ x ∈ l, CeOk x) (hE : Sl w0 F (R ++ L) A' c' l) (hS : St w0 F w (FdL (R ++ (B ++ L)) g s r A c b3 b4 b5 b6)) :
    m24_12 (FeedR w0 F B L) (.pointer (some ⟨b3, 0, none⟩)) (.pointer (some ⟨b4, 0, none⟩)) (.pointer (some ⟨b6, 0, none⟩)) (.slice A' l.length c') w := by
  have hg1 := hg.1
  unfold m24_12 m24_13 m24_17
  refine loop_in (fun u w' => ∃ (i : Nat) (A1 : Option Addr) (c1 : Nat) (op : List Ce) (A2 : Option Addr) (c2 : Nat) (ov : List Ce), u = (.slice A1 op.length c1, .slice A2 ov.length c2, .int .i64 (i : Int)) ∧ i ≤ l.length ∧ op.length ≤ i ∧ ov.length ≤ i ∧ (∀ x ∈ op, CeOk x) ∧ St w0 F w' (cRow A1 c1 op :: cRow A2 c2 ov :: FdL (R ++ (B ++ L)) g s r A c b3 b4 b5 b6)) (fun u _ => l.length - (intOf u.2.2).toNat) ⟨0, none, 0, [], none, 0, [], rfl, by omega, by simp, by simp, fun x h => (by cases h), (hS.row_nil 67 12).row_nil 67 12⟩ ?_
  clear hS
  rintro u w ⟨i, A1, c1, op, A2, c2, ov, rfl, hi, hop, hov, hoo, hS⟩
  simp only
  have hE6 := ((((((hE.mono (mem_under (R := B))).cons (Res.cells b3 23 (encGr g))).cons (Res.cells b4 28 (encS s A c))).cons (Res.cells b5 46 (encR r))).cons (Res.cells b6 28 [.int .i64 0, .int .i64 0, .int .i64 0, .int .i64 0, .slice none 0 0])).cons (cRow A2 c2 ov)).cons (cRow A1 c1 op)
  unfold m24_18
  refine builtin_ok (len26 _) ?_
  refine valP_ok (lss_ok _ _ _ _ _ _ _) ?_
  unfold m24_22
  refine cond_split (fun h => ?_) (fun h => ?_)
  · have hil : i < l.length := by omega
    have hci := hlo _ (List.getElem_mem hil)
    obtain ⟨gb, o, rfl⟩ := (hE6.rd.rd hS).some_ (by omega) (by omega)
    unfold m24_19
    refine drawn_ok hS ?_
    intro w hS
    refine valS_ok (ld23 (hS.cell 5 rfl rfl) (hS.cell 5 rfl rfl) (hS.cell 5 rfl rfl)) ?_
    refine valS_ok (ix26 hil _) ?_
    refine valS_ok (fao67_1 _ _ _) ?_
    refine valS_ok (ld3 (c_at (hE6.rd.rd hS) hil 1 (by omega) rfl)) ?_
    first | refine valS_ok (fa28_0 _ _) ?_ | refine valS_ok (fao28_0 _ _ _) ?_
    first | refine valS_ok (ld3 (hS.cell 0 rfl rfl)) ?_ | refine valS_ok (ld3 (hS.cell 1 rfl rfl)) ?_ | refine valS_ok (ld3 (hS.cell 2 rfl rfl)) ?_ | refine valS_ok (ld3 (hS.cell 3 rfl rfl)) ?_ | refine valS_ok (ld3 (hS.cell 4 rfl rfl)) ?_ | refine valS_ok (ld3 (hS.cell 5 rfl rfl)) ?_ | refine valS_ok (ld3 (hS.cell 6 rfl rfl)) ?_ | refine valS_ok (ld3 (hS.cell 7 rfl rfl)) ?_ | refine valS_ok (ld3 (by assumption)) ?_
    refine callR (by kernel_rfl) (closed_ret hm hS) ?_
    rintro _ w ⟨⟨t, rfl, -⟩, hS⟩
    unfold m24_21
    cases t with
    | true =>
      refine cond_t rfl ?_
      refine valP_ok (ix26 hil _) ?_
      refine valP_ok (ldC (hE6.rd.rd hS) hil) ?_
      refine newslice_ok (bs26_1 _) hS ?_
      intro b137 w hS
      refine append_one1 (enc := encC) 1 l[i] sl26 encC_len encC_one (by unfold maxLen; omega) (by omega) hS rfl ?_
      intro A3 c3 w hS
      simp only [List.set_cons_zero, List.set_cons_succ] at hS
      unfold m24_20
      refine valP_ok (add_ok _ _ _ (by omega) (by omega) _) ?_
      exact ⟨⟨i + 1, A1, c1, op, A3, c3, ov ++ [l[i]], rfl, by omega, by omega, by rw [List.length_append]; simp; omega, hoo, hS⟩, by simp [intOf]; omega⟩
    | false =>
      refine cond_f rfl ?_
      refine valP_ok (ix26 hil _) ?_
      refine valP_ok (ldC (hE6.rd.rd hS) hil) ?_
      refine newslice_ok (bs26_1 _) hS ?_
      intro b144 w hS
      refine append_one1 (enc := encC) 0 l[i] sl26 encC_len encC_one (by unfold maxLen; omega) (by omega) hS rfl ?_
      intro A3 c3 w hS
      simp only [List.set_cons_zero, List.set_cons_succ] at hS
      unfold m24_20
      refine valP_ok (add_ok _ _ _ (by omega) (by omega) _) ?_
      refine ⟨⟨i + 1, A3, c3, op ++ [l[i]], A2, c2, ov, rfl, by omega, by rw [List.length_append]; simp; omega, by omega, fun y hy => ?_, hS⟩, by simp [intOf]; omega⟩
      rcases List.mem_append.1 hy with h | h
      · exact hoo y h
      · obtain rfl := List.mem_singleton.1 h
        exact hci
  · unfold m24_14
    first | refine valP_ok (fa28_4 _ _) ?_ | refine valP_ok (fao28_4 _ _ _) ?_
    first | refine store_at 0 st26 hS rfl (by simp) rfl ?_ | refine store_at 1 st26 hS rfl (by simp) rfl ?_ | refine store_at 2 st26 hS rfl (by simp) rfl ?_ | refine store_at 3 st26 hS rfl (by simp) rfl ?_ | refine store_at 4 st26 hS rfl (by simp) rfl ?_ | refine store_at 5 st26 hS rfl (by simp) rfl ?_ | refine store_at 6 st26 hS rfl (by simp) rfl ?_ | refine store_at 7 st26 hS rfl (by simp) rfl ?_
    intro w hS
    simp only [List.set_cons_zero, List.set_cons_succ] at hS
    unfold m24_15
    first | refine ls28 0 hS rfl ?_ | refine ls28 1 hS rfl ?_ | refine ls28 2 hS rfl ?_ | refine ls28 3 hS rfl ?_ | refine ls28 4 hS rfl ?_ | refine ls28 5 hS rfl ?_ | refine ls28 6 hS rfl ?_ | refine ls28 7 hS rfl ?_ | refine valP_ok (ld28 (by assumption) (by assumption) (by assumption) (by assumption) (by assumption)) ?_
    first | refine ss28 0 hS rfl rfl rfl rfl rfl rfl ?_ | refine ss28 1 hS rfl rfl rfl rfl rfl rfl ?_ | refine ss28 2 hS rfl rfl rfl rfl rfl rfl ?_ | refine ss28 3 hS rfl rfl rfl rfl rfl rfl ?_ | refine ss28 4 hS rfl rfl rfl rfl rfl rfl ?_ | refine ss28 5 hS rfl rfl rfl rfl rfl rfl ?_ | refine ss28 6 hS rfl rfl rfl rfl rfl rfl ?_ | refine ss28 7 hS rfl rfl rfl rfl rfl rfl ?_
    intro w hS
    simp only [List.set_cons_zero, List.set_cons_succ] at hS
    unfold m24_16
    refine valS_ok (lc28 (hS.cell 2 rfl rfl) (hS.cell 2 rfl rfl) (hS.cell 2 rfl rfl) (hS.cell 2 rfl rfl) (hS.cell 2 rfl rfl)) ?_
    have h1 := Sl.own hS (cRow A2 c2 ov :: (R ++ L))
    have h2 := (Sl.own hS.tail (R ++ L)).cons (cRow A1 c1 op)
    refine ⟨cRow A1 c1 op :: cRow A2 c2 ov :: R, ⟨s.mark, s.late, s.bad, s.n, op⟩, _, 0, A2, c2, ov, rfl, ⟨⟨hok.1, hoo⟩, by show op.length ≤ 64; omega, A1, c1, rfl, h1⟩, h2, by omega, ?_⟩
    exact St.mid (A := [_, _]) (B := [_, _, _, _]) hS
theorem feed_11 {l : List Ce} {A' : Option Addr} {c' : Nat} {R : List Res} (hok : SgOk s) (hg : MayG g) (hr : I64 r.time) (hl : l.length ≤ 64) (hlo : ∀ x ∈ l, CeOk x) (hE : Sl w0 F (R ++ L) A' c' l) (hS : St w0 F w (FdL (R ++ (B ++ L)) g s r A c b3 b4 b5 b6)) :
    m24_11 (FeedR w0 F B L) (.pointer (some ⟨b3, 0, none⟩)) (.pointer (some ⟨b4, 0, none⟩)) (.pointer (some ⟨b5, 0, none⟩)) (.pointer (some ⟨b6, 0, none⟩)) (.slice A' l.length c') w := by
  unfold m24_11
  first | refine valP_ok (fa46_1 _ _) ?_ | refine valP_ok (fao46_1 _ _ _) ?_
  first | refine valP_ok (ld3 (hS.cell 0 rfl rfl)) ?_ | refine valP_ok (ld3 (hS.cell 1 rfl rfl)) ?_ | refine valP_ok (ld3 (hS.cell 2 rfl rfl)) ?_ | refine valP_ok (ld3 (hS.cell 3 rfl rfl)) ?_ | refine valP_ok (ld3 (hS.cell 4 rfl rfl)) ?_ | refine valP_ok (ld3 (hS.cell 5 rfl rfl)) ?_ | refine valP_ok (ld3 (hS.cell 6 rfl rfl)) ?_ | refine valP_ok (ld3 (hS.cell 7 rfl rfl)) ?_ | refine valP_ok (ld3 (by assumption)) ?_
  first | refine valP_ok (fa28_0 _ _) ?_ | refine valP_ok (fao28_0 _ _ _) ?_
  first | refine valP_ok (ld3 (hS.cell 0 rfl rfl)) ?_ | refine valP_ok (ld3 (hS.cell 1 rfl rfl)) ?_ | refine valP_ok (ld3 (hS.cell 2 rfl rfl)) ?_ | refine valP_ok (ld3 (hS.cell 3 rfl rfl)) ?_ | refine valP_ok (ld3 (hS.cell 4 rfl rfl)) ?_ | refine valP_ok (ld3 (hS.cell 5 rfl rfl)) ?_ | refine valP_ok (ld3 (hS.cell 6 rfl rfl)) ?_ | refine valP_ok (ld3 (hS.cell 7 rfl rfl)) ?_ | refine valP_ok (ld3 (by assumption)) ?_
  refine valP_ok (gtr_ok _ _ _ _ _ _ _) ?_
  unfold m24_23
  refine cond_split (fun h => ?_) (fun h => ?_)
  · first | refine valP_ok (fa46_1 _ _) ?_ | refine valP_ok (fao46_1 _ _ _) ?_
    first | refine valP_ok (ld3 (hS.cell 0 rfl rfl)) ?_ | refine valP_ok (ld3 (hS.cell 1 rfl rfl)) ?_ | refine valP_ok (ld3 (hS.cell 2 rfl rfl)) ?_ | refine valP_ok (ld3 (hS.cell 3 rfl rfl)) ?_ | refine valP_ok (ld3 (hS.cell 4 rfl rfl)) ?_ | refine valP_ok (ld3 (hS.cell 5 rfl rfl)) ?_ | refine valP_ok (ld3 (hS.cell 6 rfl rfl)) ?_ | refine valP_ok (ld3 (hS.cell 7 rfl rfl)) ?_ | refine valP_ok (ld3 (by assumption)) ?_
    first | refine valP_ok (fa28_0 _ _) ?_ | refine valP_ok (fao28_0 _ _ _) ?_
    first | refine store_at 0 st3 hS rfl (by simp) rfl ?_ | refine store_at 1 st3 hS rfl (by simp) rfl ?_ | refine store_at 2 st3 hS rfl (by simp) rfl ?_ | refine store_at 3 st3 hS rfl (by simp) rfl ?_ | refine store_at 4 st3 hS rfl (by simp) rfl ?_ | refine store_at 5 st3 hS rfl (by simp) rfl ?_ | refine store_at 6 st3 hS rfl (by simp) rfl ?_ | refine store_at 7 st3 hS rfl (by simp) rfl ?_
    intro w hS
    simp only [List.set_cons_zero, List.set_cons_succ] at hS
    exact feed_12 (s := ⟨r.time, s.late, s.bad, s.n, s.L⟩) ⟨⟨hr, hok.1.2⟩, hok.2⟩ hg hr hl hlo hE hS
  · exact feed_12 hok hg hok.1.1 hl hlo hE hS
end
end

end Go.Proofs.Ytnhgdngbdoifnaa.M
