/- Parts of a proof, in one text: what it needs of K7, K8, K9, KX, Mdiff0, K10, K11, Mlaw0. -/
import Derived.Test.YtnhgdngbdoifnaaJCleanerKeeps5
import Derived.Test.YtnhgdngbdoifnaaProg
namespace Go.Proofs.Ytnhgdngbdoifnaa.M
open Go.Proofs.Ytnhgdngbdoifnaa.F Go.RowKit
set_option linter.unusedVariables false
set_option linter.unusedSimpArgs false
set_option maxRecDepth 100000
set_option maxHeartbeats 2000000
attribute [local irreducible] Res.cells Res.row Res.map Res.any World.cell? World.frozen? Instr.fieldAt Instr.loadAt Instr.storeAt Instr.indexAt Instr.lookup Instr.mapUpdate Instr.box Instr.build Instr.buildSlice Instr.extract Instr.alloc Instr.field Instr.index Instr.sliceAt Instr.makeSlice Instr.makeMap Instr.makeFunc binS Op.unary Sem.run
def SgOk (s : Sg) : Prop := (I64 s.mark ∧ I64 s.late ∧ I64 s.bad ∧ I64 s.n) ∧ ∀ c ∈ s.L, CeOk c
def zeroSg : Sg := ⟨0, 0, 0, 0, []⟩
theorem zeroSg_ok : SgOk zeroSg := ⟨⟨by show I64 0; omega, by show I64 0; omega, by show I64 0; omega, by show I64 0; omega⟩, fun c h => (by cases h)⟩
theorem mem_under {B R Y : List Res} : ∀ r ∈ B ++ Y, r ∈ B ++ (R ++ Y) := fun r h => by
  rcases List.mem_append.1 h with h | h
  · exact List.mem_append_left _ h
  · exact List.mem_append_right _ (List.mem_append_right _ h)
section
variable {w0 w : World} {F : List Nat} {L : List Res}
theorem Sl.own {A : Option Addr} {c : Nat} {l : List Ce} {L0 : List Res} (hS : St w0 F w (cRow A c l :: L0)) (L' : List Res) : Sl w0 F (cRow A c l :: L') A c l := ⟨Bes.of_row 0 rfl, (Sl.row 0 hS rfl).cap, (Sl.row 0 hS rfl).nul⟩
structure SgR (w0 : World) (F : List Nat) (L : List Res) (v : Value) (s : Sg) : Prop where
  ok : SgOk s
  len : s.L.length ≤ 64
  val : ∃ A c, v = sgv s A c ∧ Sl w0 F L A c s.L
def FeedR (w0 : World) (F : List Nat) (B L : List Res) (v : Value) (w : World) : Prop :=
  ∃ (R : List Res) (s : Sg) (sv : Value) (e : Int) (A : Option Addr) (c : Nat) (over : List Ce), v = .tuple #[sv, .slice A over.length c, .int .i64 e] ∧ SgR w0 F (R ++ L) sv s ∧ Sl w0 F (R ++ L) A c over ∧ over.length ≤ 64 ∧ St w0 F w (R ++ (B ++ L))
section
variable {g : Gr} {s : Sg} {r : Rc} {A : Option Addr} {c b3 b4 b5 b6 : Nat} {B : List Res}
abbrev FdL (L : List Res) (g : Gr) (s : Sg) (r : Rc) (A : Option Addr) (c b3 b4 b5 b6 : Nat) : List Res := Res.cells b6 28 [.int .i64 0, .int .i64 0, .int .i64 0, .int .i64 0, .slice none 0 0] :: Res.cells b5 46 (encR r) :: Res.cells b4 28 (encS s A c) :: Res.cells b3 23 (encGr g) :: L
theorem feed_none {e : Int} (hS : St w0 F w (Res.cells b6 28 [.int .i64 0, .int .i64 0, .int .i64 0, .int .i64 0, .slice none 0 0] :: (B ++ L))) : m24_37 (FeedR w0 F B L) (.pointer (some ⟨b6, 0, none⟩)) (.slice none 0 0) (.int .i64 e) w := by
  unfold m24_37
  refine valS_ok (lc28 (hS.cell 0 rfl rfl) (hS.cell 0 rfl rfl) (hS.cell 0 rfl rfl) (hS.cell 0 rfl rfl) (hS.cell 0 rfl rfl)) ?_
  exact ⟨[], zeroSg, _, e, none, 0, [], rfl, ⟨zeroSg_ok, by simp [zeroSg], none, 0, rfl, Sl.nil⟩, Sl.nil, by simp, hS.tail⟩
theorem feed_12 {l : List Ce} {A' : Option Addr} {c' : Nat} {R : List Res} (hok : SgOk s) (hg : MayG g) (hm : I64 s.mark) (hl : l.length ≤ 64) (hlo : ∀ x ∈ l, CeOk x) (hE : Sl w0 F (R ++ L) A' c' l) (hS : St w0 F w (FdL (R ++ (B ++ L)) g s r A c b3 b4 b5 b6)) :
    m24_12 (FeedR w0 F B L) (.pointer (some ⟨b3, 0, none⟩)) (.pointer (some ⟨b4, 0, none⟩)) (.pointer (some ⟨b6, 0, none⟩)) (.slice A' l.length c') w := by
  have hg1 := hg.1
  unfold m24_12 m24_13 m24_17
  refine loop_in (fun u w' => ∃ (i : Nat) (A1 : Option Addr) (c1 : Nat) (op : List Ce) (A2 : Option Addr) (c2 : Nat) (ov : List Ce), u = (.slice A1 op.length c1, .slice A2 ov.length c2, .int .i64 (i : Int)) ∧ i ≤ l.length ∧ op.length ≤ i ∧ ov.length ≤ i ∧ (∀ x ∈ op, CeOk x) ∧ St w0 F w' (cRow A1 c1 op :: cRow A2 c2 ov :: FdL (R ++ (B ++ L)) g s r A c b3 b4 b5 b6)) (fun u _ => l.length - (intOf u.2.2).toNat) ⟨0, none, 0, [], none, 0, [], rfl, by omega, by simp, by simp, fun x h => (by cases h), (hS.row_nil 67 12).row_nil 67 12⟩ ?_
  clear hS
  rintro u w ⟨i, A1, c1, op, A2, c2, ov, rfl, hi, hop, hov, hoo, hS⟩
  simp only
  have hE6 := ((((((hE.mono (mem_under (R := B))).cons (Res.cells b3 23 (encGr g))).cons (Res.cells b4 28 (encS s A c))).cons (Res.cells b5 46 (encR r))).cons (Res.cells b6 28 [.int .i64 0, .int .i64 0, .int .i64 0, .int .i64 0, .slice none 0 0])).cons (cRow A2 c2 ov)).cons (cRow A1 c1 op)
  unfold m24_18
  refine builtin_ok (len26 _) ?_
  refine valP_ok (lss_ok _ _ _ _ _ _ _) ?_
  unfold m24_22
  refine cond_split (fun h => ?_) (fun h => ?_)
  · have hil : i < l.length := by omega
    have hci := hlo _ (List.getElem_mem hil)
    obtain ⟨gb, o, rfl⟩ := (hE6.rd.rd hS).some_ (by omega) (by omega)
    unfold m24_19
    refine drawn_ok hS ?_
    intro w hS
    refine valS_ok (ld23 (hS.cell 5 rfl rfl) (hS.cell 5 rfl rfl) (hS.cell 5 rfl rfl)) ?_
    refine valS_ok (ix26 hil _) ?_
    refine valS_ok (fao67_1 _ _ _) ?_
    refine valS_ok (ld3 (c_at (hE6.rd.rd hS) hil 1 (by omega) rfl)) ?_
    first | refine valS_ok (fa28_0 _ _) ?_ | refine valS_ok (fao28_0 _ _ _) ?_
    first | refine valS_ok (ld3 (hS.cell 0 rfl rfl)) ?_ | refine valS_ok (ld3 (hS.cell 1 rfl rfl)) ?_ | refine valS_ok (ld3 (hS.cell 2 rfl rfl)) ?_ | refine valS_ok (ld3 (hS.cell 3 rfl rfl)) ?_ | refine valS_ok (ld3 (hS.cell 4 rfl rfl)) ?_ | refine valS_ok (ld3 (hS.cell 5 rfl rfl)) ?_ | refine valS_ok (ld3 (hS.cell 6 rfl rfl)) ?_ | refine valS_ok (ld3 (hS.cell 7 rfl rfl)) ?_ | refine valS_ok (ld3 (by assumption)) ?_
    refine callR (by kernel_rfl) (closed_ret hm hS) ?_
    rintro _ w ⟨⟨t, rfl, -⟩, hS⟩
    unfold m24_21
    cases t with
    | true =>
      refine cond_t rfl ?_
      refine valP_ok (ix26 hil _) ?_
      refine valP_ok (ldC (hE6.rd.rd hS) hil) ?_
      refine newslice_ok (bs26_1 _) hS ?_
      intro b137 w hS
      refine append_one1 (enc := encC) 1 l[i] sl26 encC_len encC_one (by unfold maxLen; omega) (by omega) hS rfl ?_
      intro A3 c3 w hS
      simp only [List.set_cons_zero, List.set_cons_succ] at hS
      unfold m24_20
      refine valP_ok (add_ok _ _ _ (by omega) (by omega) _) ?_
      exact ⟨⟨i + 1, A1, c1, op, A3, c3, ov ++ [l[i]], rfl, by omega, by omega, by rw [List.length_append]; simp; omega, hoo, hS⟩, by simp [intOf]; omega⟩
    | false =>
      refine cond_f rfl ?_
      refine valP_ok (ix26 hil _) ?_
      refine valP_ok (ldC (hE6.rd.rd hS) hil) ?_
      refine newslice_ok (bs26_1 _) hS ?_
      intro b144 w hS
      refine append_one1 (enc := encC) 0 l[i] sl26 encC_len encC_one (by unfold maxLen; omega) (by omega) hS rfl ?_
      intro A3 c3 w hS
      simp only [List.set_cons_zero, List.set_cons_succ] at hS
      unfold m24_20
      refine valP_ok (add_ok _ _ _ (by omega) (by omega) _) ?_
      refine ⟨⟨i + 1, A3, c3, op ++ [l[i]], A2, c2, ov, rfl, by omega, by rw [List.length_append]; simp; omega, by omega, fun y hy => ?_, hS⟩, by simp [intOf]; omega⟩
      rcases List.mem_append.1 hy with h | h
      · exact hoo y h
      · obtain rfl := List.mem_singleton.1 h
        exact hci
  · unfold m24_14
    first | refine valP_ok (fa28_4 _ _) ?_ | refine valP_ok (fao28_4 _ _ _) ?_
    first | refine store_at 0 st26 hS rfl (by simp) rfl ?_ | refine store_at 1 st26 hS rfl (by simp) rfl ?_ | refine store_at 2 st26 hS rfl (by simp) rfl ?_ | refine store_at 3 st26 hS rfl (by simp) rfl ?_ | refine store_at 4 st26 hS rfl (by simp) rfl ?_ | refine store_at 5 st26 hS rfl (by simp) rfl ?_ | refine store_at 6 st26 hS rfl (by simp) rfl ?_ | refine store_at 7 st26 hS rfl (by simp) rfl ?_
    intro w hS
    simp only [List.set_cons_zero, List.set_cons_succ] at hS
    unfold m24_15
    first | refine ls28 0 hS rfl ?_ | refine ls28 1 hS rfl ?_ | refine ls28 2 hS rfl ?_ | refine ls28 3 hS rfl ?_ | refine ls28 4 hS rfl ?_ | refine ls28 5 hS rfl ?_ | refine ls28 6 hS rfl ?_ | refine ls28 7 hS rfl ?_ | refine valP_ok (ld28 (by assumption) (by assumption) (by assumption) (by assumption) (by assumption)) ?_
    first | refine ss28 0 hS rfl rfl rfl rfl rfl rfl ?_ | refine ss28 1 hS rfl rfl rfl rfl rfl rfl ?_ | refine ss28 2 hS rfl rfl rfl rfl rfl rfl ?_ | refine ss28 3 hS rfl rfl rfl rfl rfl rfl ?_ | refine ss28 4 hS rfl rfl rfl rfl rfl rfl ?_ | refine ss28 5 hS rfl rfl rfl rfl rfl rfl ?_ | refine ss28 6 hS rfl rfl rfl rfl rfl rfl ?_ | refine ss28 7 hS rfl rfl rfl rfl rfl rfl ?_
    intro w hS
    simp only [List.set_cons_zero, List.set_cons_succ] at hS
    unfold m24_16
    refine valS_ok (lc28 (hS.cell 2 rfl rfl) (hS.cell 2 rfl rfl) (hS.cell 2 rfl rfl) (hS.cell 2 rfl rfl) (hS.cell 2 rfl rfl)) ?_
    have h1 := Sl.own hS (cRow A2 c2 ov :: (R ++ L))
    have h2 := (Sl.own hS.tail (R ++ L)).cons (cRow A1 c1 op)
    refine ⟨cRow A1 c1 op :: cRow A2 c2 ov :: R, ⟨s.mark, s.late, s.bad, s.n, op⟩, _, 0, A2, c2, ov, rfl, ⟨⟨hok.1, hoo⟩, by show op.length ≤ 64; omega, A1, c1, rfl, h1⟩, h2, by omega, ?_⟩
    exact St.mid (A := [_, _]) (B := [_, _, _, _]) hS
theorem feed_11 {l : List Ce} {A' : Option Addr} {c' : Nat} {R : List Res} (hok : SgOk s) (hg : MayG g) (hr : I64 r.time) (hl : l.length ≤ 64) (hlo : ∀ x ∈ l, CeOk x) (hE : Sl w0 F (R ++ L) A' c' l) (hS : St w0 F w (FdL (R ++ (B ++ L)) g s r A c b3 b4 b5 b6)) :
    m24_11 (FeedR w0 F B L) (.pointer (some ⟨b3, 0, none⟩)) (.pointer (some ⟨b4, 0, none⟩)) (.pointer (some ⟨b5, 0, none⟩)) (.pointer (some ⟨b6, 0, none⟩)) (.slice A' l.length c') w := by
  unfold m24_11
  first | refine valP_ok (fa46_1 _ _) ?_ | refine valP_ok (fao46_1 _ _ _) ?_
  first | refine valP_ok (ld3 (hS.cell 0 rfl rfl)) ?_ | refine valP_ok (ld3 (hS.cell 1 rfl rfl)) ?_ | refine valP_ok (ld3 (hS.cell 2 rfl rfl)) ?_ | refine valP_ok (ld3 (hS.cell 3 rfl rfl)) ?_ | refine valP_ok (ld3 (hS.cell 4 rfl rfl)) ?_ | refine valP_ok (ld3 (hS.cell 5 rfl rfl)) ?_ | refine valP_ok (ld3 (hS.cell 6 rfl rfl)) ?_ | refine valP_ok (ld3 (hS.cell 7 rfl rfl)) ?_ | refine valP_ok (ld3 (by assumption)) ?_
  first | refine valP_ok (fa28_0 _ _) ?_ | refine valP_ok (fao28_0 _ _ _) ?_
  first | refine valP_ok (ld3 (hS.cell 0 rfl rfl)) ?_ | refine valP_ok (ld3 (hS.cell 1 rfl rfl)) ?_ | refine valP_ok (ld3 (hS.cell 2 rfl rfl)) ?_ | refine valP_ok (ld3 (hS.cell 3 rfl rfl)) ?_ | refine valP_ok (ld3 (hS.cell 4 rfl rfl)) ?_ | refine valP_ok (ld3 (hS.cell 5 rfl rfl)) ?_ | refine valP_ok (ld3 (hS.cell 6 rfl rfl)) ?_ | refine valP_ok (ld3 (hS.cell 7 rfl rfl)) ?_ | refine valP_ok (ld3 (by assumption)) ?_
  refine valP_ok (gtr_ok _ _ _ _ _ _ _) ?_
  unfold m24_23
  refine cond_split (fun h => ?_) (fun h => ?_)
  · first | refine valP_ok (fa46_1 _ _) ?_ | refine valP_ok (fao46_1 _ _ _) ?_
    first | refine valP_ok (ld3 (hS.cell 0 rfl rfl)) ?_ | refine valP_ok (ld3 (hS.cell 1 rfl rfl)) ?_ | refine valP_ok (ld3 (hS.cell 2 rfl rfl)) ?_ | refine valP_ok (ld3 (hS.cell 3 rfl rfl)) ?_ | refine valP_ok (ld3 (hS.cell 4 rfl rfl)) ?_ | refine valP_ok (ld3 (hS.cell 5 rfl rfl)) ?_ | refine valP_ok (ld3 (hS.cell 6 rfl rfl)) ?_ | refine valP_ok (ld3 (hS.cell 7 rfl rfl)) ?_ | refine valP_ok (ld3 (by assumption)) ?_
    first | refine valP_ok (fa28_0 _ _) ?_ | refine valP_ok (fao28_0 _ _ _) ?_
    first | refine store_at 0 st3 hS rfl (by simp) rfl ?_ | refine store_at 1 st3 hS rfl (by simp) rfl ?_ | refine store_at 2 st3 hS rfl (by simp) rfl ?_ | refine store_at 3 st3 hS rfl (by simp) rfl ?_ | refine store_at 4 st3 hS rfl (by simp) rfl ?_ | refine store_at 5 st3 hS rfl (by simp) rfl ?_ | refine store_at 6 st3 hS rfl (by simp) rfl ?_ | refine store_at 7 st3 hS rfl (by simp) rfl ?_
    intro w hS
    simp only [List.set_cons_zero, List.set_cons_succ] at hS
    exact feed_12 (s := ⟨r.time, s.late, s.bad, s.n, s.L⟩) ⟨⟨hr, hok.1.2⟩, hok.2⟩ hg hr hl hlo hE hS
  · exact feed_12 hok hg hok.1.1 hl hlo hE hS
end
end
section
variable {w0 w : World} {F : List Nat} {L : List Res}
section
variable {g : Gr} {s : Sg} {r : Rc} {A : Option Addr} {c b3 b4 b5 b6 : Nat} {B : List Res}
theorem feed_10 {l : List Ce} {A' : Option Addr} {c' n : Nat} {R : List Res} (hok : SgOk s) (hlt : s.late ≤ 1099511627776) (hg : MayG g) (hr : I64 r.time) (hsl : s.L.length ≤ 64) (hlo : ∀ x ∈ l, CeOk x) (hEs : Sl w0 F (R ++ L) A c s.L) (hE : Sl w0 F (R ++ L) A' c' l) (hS : St w0 F w (FdL (R ++ (B ++ L)) g s r A c b3 b4 b5 b6)) :
    m24_10 (FeedR w0 F B L) (.pointer (some ⟨b3, 0, none⟩)) (.pointer (some ⟨b4, 0, none⟩)) (.pointer (some ⟨b5, 0, none⟩)) (.pointer (some ⟨b6, 0, none⟩)) (.slice A' l.length c') (.int .i64 (n : Int)) w := by
  have leaf : ∀ t : Bool, (t = false → l.length ≤ 64) → m24_24 (FeedR w0 F B L) (.pointer (some ⟨b3, 0, none⟩)) (.pointer (some ⟨b4, 0, none⟩)) (.pointer (some ⟨b5, 0, none⟩)) (.pointer (some ⟨b6, 0, none⟩)) (.slice A' l.length c') (.bool t) w := fun t ht => by
    have hb := hok.1.2.1
    unfold m24_24
    cases t with
    | true =>
      refine cond_t rfl ?_
      first | refine valP_ok (fa28_1 _ _) ?_ | refine valP_ok (fao28_1 _ _ _) ?_
      first | refine valP_ok (ld3 (hS.cell 0 rfl rfl)) ?_ | refine valP_ok (ld3 (hS.cell 1 rfl rfl)) ?_ | refine valP_ok (ld3 (hS.cell 2 rfl rfl)) ?_ | refine valP_ok (ld3 (hS.cell 3 rfl rfl)) ?_ | refine valP_ok (ld3 (hS.cell 4 rfl rfl)) ?_ | refine valP_ok (ld3 (hS.cell 5 rfl rfl)) ?_ | refine valP_ok (ld3 (hS.cell 6 rfl rfl)) ?_ | refine valP_ok (ld3 (hS.cell 7 rfl rfl)) ?_ | refine valP_ok (ld3 (by assumption)) ?_
      refine valP_ok (add_ok _ _ _ (by omega) (by omega) _) ?_
      first | refine valP_ok (fa28_1 _ _) ?_ | refine valP_ok (fao28_1 _ _ _) ?_
      first | refine store_at 0 st3 hS rfl (by simp) rfl ?_ | refine store_at 1 st3 hS rfl (by simp) rfl ?_ | refine store_at 2 st3 hS rfl (by simp) rfl ?_ | refine store_at 3 st3 hS rfl (by simp) rfl ?_ | refine store_at 4 st3 hS rfl (by simp) rfl ?_ | refine store_at 5 st3 hS rfl (by simp) rfl ?_ | refine store_at 6 st3 hS rfl (by simp) rfl ?_ | refine store_at 7 st3 hS rfl (by simp) rfl ?_
      intro w hS
      simp only [List.set_cons_zero, List.set_cons_succ] at hS
      unfold m24_25
      first | refine valP_ok (fa28_4 _ _) ?_ | refine valP_ok (fao28_4 _ _ _) ?_
      first | refine valP_ok (ld26 (hS.cell 0 rfl rfl)) ?_ | refine valP_ok (ld26 (hS.cell 1 rfl rfl)) ?_ | refine valP_ok (ld26 (hS.cell 2 rfl rfl)) ?_ | refine valP_ok (ld26 (hS.cell 3 rfl rfl)) ?_ | refine valP_ok (ld26 (hS.cell 4 rfl rfl)) ?_ | refine valP_ok (ld26 (hS.cell 5 rfl rfl)) ?_ | refine valP_ok (ld26 (hS.cell 6 rfl rfl)) ?_ | refine valP_ok (ld26 (hS.cell 7 rfl rfl)) ?_ | refine valP_ok (ld26 (by assumption)) ?_
      exact feed_11 (s := ⟨s.mark, s.late + 1, s.bad, s.n, s.L⟩) ⟨⟨hok.1.1, by show I64 (s.late + 1); omega, hok.1.2.2⟩, hok.2⟩ hg hr hsl hok.2 hEs hS
    | false =>
      refine cond_f rfl ?_
      exact feed_11 hok hg hr (ht rfl) hlo hE hS
  unfold m24_10
  refine valP_ok (eq3 _ _ _ _ _) ?_
  refine cond_split (fun h => ?_) (fun h => ?_)
  · first | refine pick_dt (by first | assumption | omega) ?_ | refine pick_df (by first | assumption | omega) ?_ | refine pick_t (by first | rfl | assumption) ?_ | refine pick_f (by first | rfl | assumption) ?_ | refine pick_dt rfl ?_ | refine pick_df (not_not_intro rfl) ?_
    exact leaf true (fun h => (by cases h))
  · refine builtin_ok (len26 _) ?_
    refine valP_ok (gtr_ok _ _ _ _ _ _ _) ?_
    first | refine pick_dt (by first | assumption | omega) ?_ | refine pick_df (by first | assumption | omega) ?_ | refine pick_t (by first | rfl | assumption) ?_ | refine pick_f (by first | rfl | assumption) ?_ | refine pick_dt rfl ?_ | refine pick_df (not_not_intro rfl) ?_
    exact leaf _ (fun h => by have := of_decide_eq_false h; omega)
theorem feed_7 {xs : List Int} {A1 : Option Addr} {c1 : Nat} {v : Int} (hok : SgOk s) (hlt : s.late ≤ 1099511627776) (hg : MayG g) (hr : I64 r.time) (hk : I64 r.key) (hsl : s.L.length ≤ 64) (hv : I64 v) (hxl : xs.length ≤ 1048577) (hx : ∀ x ∈ xs, I64 x) (hEs : Sl w0 F L A c s.L) (hS : St w0 F w (iRow A1 c1 xs :: FdL (B ++ L) g s r A c b3 b4 b5 b6)) :
    m24_7 (FeedR w0 F B L) (.pointer (some ⟨b3, 0, none⟩)) (.pointer (some ⟨b4, 0, none⟩)) (.pointer (some ⟨b5, 0, none⟩)) (.pointer (some ⟨b6, 0, none⟩)) (.int .i64 v) (.slice A1 xs.length c1) w := by
  have hg1 := hg.1
  unfold m24_7
  first | refine valP_ok (fa28_4 _ _) ?_ | refine valP_ok (fao28_4 _ _ _) ?_
  first | refine valP_ok (ld26 (hS.cell 0 rfl rfl)) ?_ | refine valP_ok (ld26 (hS.cell 1 rfl rfl)) ?_ | refine valP_ok (ld26 (hS.cell 2 rfl rfl)) ?_ | refine valP_ok (ld26 (hS.cell 3 rfl rfl)) ?_ | refine valP_ok (ld26 (hS.cell 4 rfl rfl)) ?_ | refine valP_ok (ld26 (hS.cell 5 rfl rfl)) ?_ | refine valP_ok (ld26 (hS.cell 6 rfl rfl)) ?_ | refine valP_ok (ld26 (hS.cell 7 rfl rfl)) ?_ | refine valP_ok (ld26 (by assumption)) ?_
  unfold m24_8 m24_9 m24_26
  refine loop_in (fun u w' => ∃ (i n : Nat) (A' : Option Addr) (c' : Nat) (l : List Ce) (R : List Res), u = (.slice A' l.length c', .int .i64 (n : Int), .int .i64 (i : Int)) ∧ i ≤ xs.length ∧ n ≤ i ∧ l.length ≤ 64 + i ∧ (∀ x ∈ l, CeOk x) ∧ Sl w0 F (R ++ L) A' c' l ∧ St w0 F w' (iRow A1 c1 xs :: FdL (R ++ (B ++ L)) g s r A c b3 b4 b5 b6)) (fun u _ => xs.length - (intOf u.2.2).toNat) ⟨0, 0, A, c, s.L, [], rfl, by omega, by omega, by omega, hok.2, hEs, hS⟩ ?_
  clear hS
  rintro u w ⟨i, n, A', c', l, R, rfl, hi, hn, hl, hlo, hE, hS⟩
  simp only
  unfold m24_27
  refine builtin_ok (len51 _) ?_
  refine valP_ok (lss_ok _ _ _ _ _ _ _) ?_
  unfold m24_32
  refine cond_split (fun h => ?_) (fun h => ?_)
  · have hil : i < xs.length := by omega
    obtain ⟨gb, rfl⟩ := hS.row_ptr 0 rfl (by omega)
    have hcell : ∀ w, St w0 F w (iRow (some ⟨gb, 0, none⟩) c1 xs :: FdL (R ++ (B ++ L)) g s r A c b3 b4 b5 b6) → w.cell? ⟨gb, i, none⟩ = some (.int .i64 xs[i]) := fun w hS => hS.row_cell 0 rfl (by rw [iFlat]; simp [hil])
    unfold m24_28
    refine drawn_ok hS ?_
    intro w hS
    refine valS_ok (ld23 (hS.cell 4 rfl rfl) (hS.cell 4 rfl rfl) (hS.cell 4 rfl rfl)) ?_
    refine valS_ok (ixz51 hil _) ?_
    refine valS_ok (ld3 (hcell _ hS)) ?_
    first | refine valS_ok (fa28_0 _ _) ?_ | refine valS_ok (fao28_0 _ _ _) ?_
    first | refine valS_ok (ld3 (hS.cell 0 rfl rfl)) ?_ | refine valS_ok (ld3 (hS.cell 1 rfl rfl)) ?_ | refine valS_ok (ld3 (hS.cell 2 rfl rfl)) ?_ | refine valS_ok (ld3 (hS.cell 3 rfl rfl)) ?_ | refine valS_ok (ld3 (hS.cell 4 rfl rfl)) ?_ | refine valS_ok (ld3 (hS.cell 5 rfl rfl)) ?_ | refine valS_ok (ld3 (hS.cell 6 rfl rfl)) ?_ | refine valS_ok (ld3 (hS.cell 7 rfl rfl)) ?_ | refine valS_ok (ld3 (by assumption)) ?_
    refine callR (by kernel_rfl) (closed_ret hok.1.1 hS) ?_
    rintro _ w ⟨⟨t, rfl, -⟩, hS⟩
    first | refine valP_ok (not_ok _ _) ?_ | refine valP_ok (notb_ok _ _) ?_
    unfold m24_30
    cases t with
    | true =>
      refine cond_f rfl ?_
      unfold m24_29
      refine valP_ok (add_ok _ _ _ (by omega) (by omega) _) ?_
      exact ⟨⟨i + 1, n, A', c', l, R, rfl, by omega, by omega, by omega, hlo, hE, hS⟩, by simp [intOf]; omega⟩
    | false =>
      refine cond_t rfl ?_
      refine drawn_ok hS ?_
      intro w hS
      first | refine valS_ok (fa46_0 _ _) ?_ | refine valS_ok (fao46_0 _ _ _) ?_
      first | refine valS_ok (ld3 (hS.cell 0 rfl rfl)) ?_ | refine valS_ok (ld3 (hS.cell 1 rfl rfl)) ?_ | refine valS_ok (ld3 (hS.cell 2 rfl rfl)) ?_ | refine valS_ok (ld3 (hS.cell 3 rfl rfl)) ?_ | refine valS_ok (ld3 (hS.cell 4 rfl rfl)) ?_ | refine valS_ok (ld3 (hS.cell 5 rfl rfl)) ?_ | refine valS_ok (ld3 (hS.cell 6 rfl rfl)) ?_ | refine valS_ok (ld3 (hS.cell 7 rfl rfl)) ?_ | refine valS_ok (ld3 (by assumption)) ?_
      refine valS_ok (ixz51 hil _) ?_
      refine valS_ok (ld3 (hcell _ hS)) ?_
      have hE5 := (((((hE.mono (mem_under (R := B))).cons (Res.cells b3 23 (encGr g))).cons (Res.cells b4 28 (encS s A c))).cons (Res.cells b5 46 (encR r))).cons (Res.cells b6 28 [.int .i64 0, .int .i64 0, .int .i64 0, .int .i64 0, .slice none 0 0])).cons (iRow (some ⟨gb, 0, none⟩) c1 xs)
      refine callR (by kernel_rfl) (put46_ret hE5 (by omega) hlo hv hk (hx _ (List.getElem_mem hil)) hS) ?_
      rintro _ w ⟨A2, c2, l2, rfl, hl2, hlo2, hS⟩
      unfold m24_31
      refine valP_ok (add_ok _ _ _ (by omega) (by omega) _) ?_
      unfold m24_29
      refine valP_ok (add_ok _ _ _ (by omega) (by omega) _) ?_
      refine ⟨⟨i + 1, n + 1, A2, c2, l2, cRow A2 c2 l2 :: R, rfl, by omega, by omega, by omega, hlo2, Sl.own hS _, ?_⟩, by simp [intOf]; omega⟩
      exact St.swap (A := [_]) (B := [_, _, _, _, _]) hS
  · have hS2 := St.swap (A := [_]) (B := [_, _, _, _]) hS
    exact feed_10 (R := iRow A1 c1 xs :: R) hok hlt hg hr hsl hlo (hEs.mono fun q hq => .tail _ (List.mem_append_right _ hq)) (hE.cons _) hS2
theorem feed_ret (hok : SgOk s) (hEs : Sl w0 F L A c s.L) (hS : St w0 F w (B ++ L)) : Ret Try.prog 24 #[grv g, sgv s A c, rv r] w (FeedR w0 F B L) := by
  refine s24 _ _ _ ?_
  unfold m24
  unfold m24_0
  refine new_ok (bx23 _ _ _ _) hS ?_
  intro b3 w hS
  refine new_ok (bx28 _ _ _ _ _ _) hS ?_
  intro b4 w hS
  refine new_ok (bx46 _ _ _ _) hS ?_
  intro b5 w hS
  refine new_ok (al28 _) hS ?_
  intro b6 w hS
  have hE4 := ((((hEs.mono fun q hq => List.mem_append_right B hq).cons (Res.cells b3 23 (encGr g))).cons (Res.cells b4 28 (encS s A c))).cons (Res.cells b5 46 (encR r))).cons (Res.cells b6 28 [.int .i64 0, .int .i64 0, .int .i64 0, .int .i64 0, .slice none 0 0])
  have leaf : ∀ (t : Bool) w, St w0 F w (FdL (B ++ L) g s r A c b3 b4 b5 b6) → (t = false → MayS g s ∧ I64 r.key ∧ I64 r.time) → m24_38 (FeedR w0 F B L) (.pointer (some ⟨b3, 0, none⟩)) (.pointer (some ⟨b4, 0, none⟩)) (.pointer (some ⟨b5, 0, none⟩)) (.pointer (some ⟨b6, 0, none⟩)) (.bool t) w := fun t w hS ht => by
    unfold m24_38
    cases t with
    | true =>
      refine cond_t rfl ?_
      refine valP_ok (bd28 _) ?_
      first | refine ss28 0 hS rfl rfl rfl rfl rfl rfl ?_ | refine ss28 1 hS rfl rfl rfl rfl rfl rfl ?_ | refine ss28 2 hS rfl rfl rfl rfl rfl rfl ?_ | refine ss28 3 hS rfl rfl rfl rfl rfl rfl ?_ | refine ss28 4 hS rfl rfl rfl rfl rfl rfl ?_ | refine ss28 5 hS rfl rfl rfl rfl rfl rfl ?_ | refine ss28 6 hS rfl rfl rfl rfl rfl rfl ?_ | refine ss28 7 hS rfl rfl rfl rfl rfl rfl ?_
      intro w hS
      simp only [List.set_cons_zero, List.set_cons_succ] at hS
      unfold m24_39
      exact feed_none (St.mid (A := [_]) (B := [_, _, _]) hS)
    | false =>
      obtain ⟨hm, hk, hr⟩ := ht rfl
      obtain ⟨hg, hmk, hla, hba, hnn, hlb, h64⟩ := hm.1
      unfold in40 at hla hba hnn
      refine cond_f rfl ?_
      unfold m24_2
      first | refine valP_ok (fa28_3 _ _) ?_ | refine valP_ok (fao28_3 _ _ _) ?_
      first | refine valP_ok (ld3 (hS.cell 0 rfl rfl)) ?_ | refine valP_ok (ld3 (hS.cell 1 rfl rfl)) ?_ | refine valP_ok (ld3 (hS.cell 2 rfl rfl)) ?_ | refine valP_ok (ld3 (hS.cell 3 rfl rfl)) ?_ | refine valP_ok (ld3 (hS.cell 4 rfl rfl)) ?_ | refine valP_ok (ld3 (hS.cell 5 rfl rfl)) ?_ | refine valP_ok (ld3 (hS.cell 6 rfl rfl)) ?_ | refine valP_ok (ld3 (hS.cell 7 rfl rfl)) ?_ | refine valP_ok (ld3 (by assumption)) ?_
      refine valP_ok (eq3 _ _ _ _ _) ?_
      unfold m24_36
      refine cond_split (fun h => ?_) (fun h => ?_)
      · refine valP_ok (bd28 _) ?_
        first | refine ss28 0 hS rfl rfl rfl rfl rfl rfl ?_ | refine ss28 1 hS rfl rfl rfl rfl rfl rfl ?_ | refine ss28 2 hS rfl rfl rfl rfl rfl rfl ?_ | refine ss28 3 hS rfl rfl rfl rfl rfl rfl ?_ | refine ss28 4 hS rfl rfl rfl rfl rfl rfl ?_ | refine ss28 5 hS rfl rfl rfl rfl rfl rfl ?_ | refine ss28 6 hS rfl rfl rfl rfl rfl rfl ?_ | refine ss28 7 hS rfl rfl rfl rfl rfl rfl ?_
        intro w hS
        simp only [List.set_cons_zero, List.set_cons_succ] at hS
        exact feed_none (St.mid (A := [_]) (B := [_, _, _]) hS)
      · unfold m24_3
        first | refine valP_ok (fa28_3 _ _) ?_ | refine valP_ok (fao28_3 _ _ _) ?_
        first | refine valP_ok (ld3 (hS.cell 0 rfl rfl)) ?_ | refine valP_ok (ld3 (hS.cell 1 rfl rfl)) ?_ | refine valP_ok (ld3 (hS.cell 2 rfl rfl)) ?_ | refine valP_ok (ld3 (hS.cell 3 rfl rfl)) ?_ | refine valP_ok (ld3 (hS.cell 4 rfl rfl)) ?_ | refine valP_ok (ld3 (hS.cell 5 rfl rfl)) ?_ | refine valP_ok (ld3 (hS.cell 6 rfl rfl)) ?_ | refine valP_ok (ld3 (hS.cell 7 rfl rfl)) ?_ | refine valP_ok (ld3 (by assumption)) ?_
        refine valP_ok (add_ok _ _ _ (by omega) (by omega) _) ?_
        first | refine valP_ok (fa28_3 _ _) ?_ | refine valP_ok (fao28_3 _ _ _) ?_
        first | refine store_at 0 st3 hS rfl (by simp) rfl ?_ | refine store_at 1 st3 hS rfl (by simp) rfl ?_ | refine store_at 2 st3 hS rfl (by simp) rfl ?_ | refine store_at 3 st3 hS rfl (by simp) rfl ?_ | refine store_at 4 st3 hS rfl (by simp) rfl ?_ | refine store_at 5 st3 hS rfl (by simp) rfl ?_ | refine store_at 6 st3 hS rfl (by simp) rfl ?_ | refine store_at 7 st3 hS rfl (by simp) rfl ?_
        intro w hS
        simp only [List.set_cons_zero, List.set_cons_succ] at hS
        have hS : St w0 F w (FdL (B ++ L) g ⟨s.mark, s.late, s.bad, s.n + 1, s.L⟩ r A c b3 b4 b5 b6) := hS
        have hok : SgOk ⟨s.mark, s.late, s.bad, s.n + 1, s.L⟩ := ⟨⟨hok.1.1, hok.1.2.1, hok.1.2.2.1, by show I64 (s.n + 1); omega⟩, hok.2⟩
        unfold m24_4
        refine valP_ok (ld46 (hS.cell 1 rfl rfl) (hS.cell 1 rfl rfl) (hS.cell 1 rfl rfl)) ?_
        refine callR (by kernel_rfl) (value_ret hS) ?_
        rintro _ w ⟨⟨x, t, rfl, hx⟩, hS⟩
        refine valP_ok (extract_ok _ 0 rfl _) ?_
        refine valP_ok (extract_ok _ 1 rfl _) ?_
        unfold m24_5
        first | refine valP_ok (not_ok _ _) ?_ | refine valP_ok (notb_ok _ _) ?_
        unfold m24_33
        cases t with
        | false =>
          have hbb : Sg.bad ⟨s.mark, s.late, s.bad, s.n + 1, s.L⟩ = s.bad := rfl
          refine cond_t rfl ?_
          first | refine valP_ok (fa28_2 _ _) ?_ | refine valP_ok (fao28_2 _ _ _) ?_
          first | refine valP_ok (ld3 (hS.cell 0 rfl rfl)) ?_ | refine valP_ok (ld3 (hS.cell 1 rfl rfl)) ?_ | refine valP_ok (ld3 (hS.cell 2 rfl rfl)) ?_ | refine valP_ok (ld3 (hS.cell 3 rfl rfl)) ?_ | refine valP_ok (ld3 (hS.cell 4 rfl rfl)) ?_ | refine valP_ok (ld3 (hS.cell 5 rfl rfl)) ?_ | refine valP_ok (ld3 (hS.cell 6 rfl rfl)) ?_ | refine valP_ok (ld3 (hS.cell 7 rfl rfl)) ?_ | refine valP_ok (ld3 (by assumption)) ?_
          refine valP_ok (add_ok _ _ _ (by omega) (by omega) _) ?_
          first | refine valP_ok (fa28_2 _ _) ?_ | refine valP_ok (fao28_2 _ _ _) ?_
          first | refine store_at 0 st3 hS rfl (by simp) rfl ?_ | refine store_at 1 st3 hS rfl (by simp) rfl ?_ | refine store_at 2 st3 hS rfl (by simp) rfl ?_ | refine store_at 3 st3 hS rfl (by simp) rfl ?_ | refine store_at 4 st3 hS rfl (by simp) rfl ?_ | refine store_at 5 st3 hS rfl (by simp) rfl ?_ | refine store_at 6 st3 hS rfl (by simp) rfl ?_ | refine store_at 7 st3 hS rfl (by simp) rfl ?_
          intro w hS
          simp only [List.set_cons_zero, List.set_cons_succ] at hS
          unfold m24_34
          first | refine ls28 0 hS rfl ?_ | refine ls28 1 hS rfl ?_ | refine ls28 2 hS rfl ?_ | refine ls28 3 hS rfl ?_ | refine ls28 4 hS rfl ?_ | refine ls28 5 hS rfl ?_ | refine ls28 6 hS rfl ?_ | refine ls28 7 hS rfl ?_ | refine valP_ok (ld28 (by assumption) (by assumption) (by assumption) (by assumption) (by assumption)) ?_
          first | refine ss28 0 hS rfl rfl rfl rfl rfl rfl ?_ | refine ss28 1 hS rfl rfl rfl rfl rfl rfl ?_ | refine ss28 2 hS rfl rfl rfl rfl rfl rfl ?_ | refine ss28 3 hS rfl rfl rfl rfl rfl rfl ?_ | refine ss28 4 hS rfl rfl rfl rfl rfl rfl ?_ | refine ss28 5 hS rfl rfl rfl rfl rfl rfl ?_ | refine ss28 6 hS rfl rfl rfl rfl rfl rfl ?_ | refine ss28 7 hS rfl rfl rfl rfl rfl rfl ?_
          intro w hS
          simp only [List.set_cons_zero, List.set_cons_succ] at hS
          unfold m24_35
          refine valS_ok (lc28 (hS.cell 0 rfl rfl) (hS.cell 0 rfl rfl) (hS.cell 0 rfl rfl) (hS.cell 0 rfl rfl) (hS.cell 0 rfl rfl)) ?_
          exact ⟨[], ⟨s.mark, s.late, s.bad + 1, s.n + 1, s.L⟩, _, 0, none, 0, [], rfl, ⟨⟨⟨hok.1.1, hok.1.2.1, by show I64 (s.bad + 1); omega, hok.1.2.2.2⟩, hok.2⟩, h64, A, c, rfl, hEs⟩, Sl.nil, by simp, hS.tail.tail.tail.tail⟩
        | true =>
          refine cond_f rfl ?_
          unfold m24_6
          first | refine ls23 0 hS rfl ?_ | refine ls23 1 hS rfl ?_ | refine ls23 2 hS rfl ?_ | refine ls23 3 hS rfl ?_ | refine ls23 4 hS rfl ?_ | refine ls23 5 hS rfl ?_ | refine ls23 6 hS rfl ?_ | refine ls23 7 hS rfl ?_ | refine valP_ok (ld23 (by assumption) (by assumption) (by assumption)) ?_
          first | refine valP_ok (fa46_1 _ _) ?_ | refine valP_ok (fao46_1 _ _ _) ?_
          first | refine valP_ok (ld3 (hS.cell 0 rfl rfl)) ?_ | refine valP_ok (ld3 (hS.cell 1 rfl rfl)) ?_ | refine valP_ok (ld3 (hS.cell 2 rfl rfl)) ?_ | refine valP_ok (ld3 (hS.cell 3 rfl rfl)) ?_ | refine valP_ok (ld3 (hS.cell 4 rfl rfl)) ?_ | refine valP_ok (ld3 (hS.cell 5 rfl rfl)) ?_ | refine valP_ok (ld3 (hS.cell 6 rfl rfl)) ?_ | refine valP_ok (ld3 (hS.cell 7 rfl rfl)) ?_ | refine valP_ok (ld3 (by assumption)) ?_
          refine callR (by kernel_rfl) (starts_ret hS) ?_
          rintro _ w ⟨A1, c1, e, xs, rfl, hxl, hx1, hS⟩
          refine valP_ok (extract_ok _ 0 rfl _) ?_
          refine valP_ok (extract_ok _ 1 rfl _) ?_
          exact feed_7 (s := ⟨s.mark, s.late, s.bad, s.n + 1, s.L⟩) hok (by show s.late ≤ _; omega) hg hr hk h64 hx hxl hx1 hEs hS
  unfold m24_1
  refine valP_ok (ld23 (hS.cell 3 rfl rfl) (hS.cell 3 rfl rfl) (hS.cell 3 rfl rfl)) ?_
  first | refine ls28 0 hS rfl ?_ | refine ls28 1 hS rfl ?_ | refine ls28 2 hS rfl ?_ | refine ls28 3 hS rfl ?_ | refine ls28 4 hS rfl ?_ | refine ls28 5 hS rfl ?_ | refine ls28 6 hS rfl ?_ | refine ls28 7 hS rfl ?_ | refine valP_ok (ld28 (by assumption) (by assumption) (by assumption) (by assumption) (by assumption)) ?_
  refine callR (by kernel_rfl) (mays_ret hE4 hS) ?_
  rintro _ w ⟨⟨t, rfl, ht⟩, hS⟩
  first | refine valP_ok (not_ok _ _) ?_ | refine valP_ok (notb_ok _ _) ?_
  cases t with
  | false =>
    refine cond_t rfl ?_
    first | refine pick_dt (by first | assumption | omega) ?_ | refine pick_df (by first | assumption | omega) ?_ | refine pick_t (by first | rfl | assumption) ?_ | refine pick_f (by first | rfl | assumption) ?_ | refine pick_dt rfl ?_ | refine pick_df (not_not_intro rfl) ?_
    refine cond_t rfl ?_
    first | refine pick_dt (by first | assumption | omega) ?_ | refine pick_df (by first | assumption | omega) ?_ | refine pick_t (by first | rfl | assumption) ?_ | refine pick_f (by first | rfl | assumption) ?_ | refine pick_dt rfl ?_ | refine pick_df (not_not_intro rfl) ?_
    refine cond_t rfl ?_
    first | refine pick_dt (by first | assumption | omega) ?_ | refine pick_df (by first | assumption | omega) ?_ | refine pick_t (by first | rfl | assumption) ?_ | refine pick_f (by first | rfl | assumption) ?_ | refine pick_dt rfl ?_ | refine pick_df (not_not_intro rfl) ?_
    exact leaf true _ hS (fun h => (by cases h))
  | true =>
    have hm := ht.1 rfl
    refine cond_f rfl ?_
    first | refine valP_ok (fa46_0 _ _) ?_ | refine valP_ok (fao46_0 _ _ _) ?_
    first | refine valP_ok (ld3 (hS.cell 0 rfl rfl)) ?_ | refine valP_ok (ld3 (hS.cell 1 rfl rfl)) ?_ | refine valP_ok (ld3 (hS.cell 2 rfl rfl)) ?_ | refine valP_ok (ld3 (hS.cell 3 rfl rfl)) ?_ | refine valP_ok (ld3 (hS.cell 4 rfl rfl)) ?_ | refine valP_ok (ld3 (hS.cell 5 rfl rfl)) ?_ | refine valP_ok (ld3 (hS.cell 6 rfl rfl)) ?_ | refine valP_ok (ld3 (hS.cell 7 rfl rfl)) ?_ | refine valP_ok (ld3 (by assumption)) ?_
    refine callR (by kernel_rfl) (in_ret hS) ?_
    rintro _ w ⟨rfl, hS⟩
    first | refine valP_ok (not_ok _ _) ?_ | refine valP_ok (notb_ok _ _) ?_
    first | refine pick_dt (by first | assumption | omega) ?_ | refine pick_df (by first | assumption | omega) ?_ | refine pick_t (by first | rfl | assumption) ?_ | refine pick_f (by first | rfl | assumption) ?_ | refine pick_dt rfl ?_ | refine pick_df (not_not_intro rfl) ?_
    refine cond_split (fun h1 => ?_) (fun h1 => ?_)
    · first | refine pick_dt (by first | assumption | omega) ?_ | refine pick_df (by first | assumption | omega) ?_ | refine pick_t (by first | rfl | assumption) ?_ | refine pick_f (by first | rfl | assumption) ?_ | refine pick_dt rfl ?_ | refine pick_df (not_not_intro rfl) ?_
      refine cond_t rfl ?_
      first | refine pick_dt (by first | assumption | omega) ?_ | refine pick_df (by first | assumption | omega) ?_ | refine pick_t (by first | rfl | assumption) ?_ | refine pick_f (by first | rfl | assumption) ?_ | refine pick_dt rfl ?_ | refine pick_df (not_not_intro rfl) ?_
      exact leaf true _ hS (fun h => (by cases h))
    · have h1 := Classical.not_not.1 h1
      unfold in40 at h1
      first | refine valP_ok (fa46_0 _ _) ?_ | refine valP_ok (fao46_0 _ _ _) ?_
      first | refine valP_ok (ld3 (hS.cell 0 rfl rfl)) ?_ | refine valP_ok (ld3 (hS.cell 1 rfl rfl)) ?_ | refine valP_ok (ld3 (hS.cell 2 rfl rfl)) ?_ | refine valP_ok (ld3 (hS.cell 3 rfl rfl)) ?_ | refine valP_ok (ld3 (hS.cell 4 rfl rfl)) ?_ | refine valP_ok (ld3 (hS.cell 5 rfl rfl)) ?_ | refine valP_ok (ld3 (hS.cell 6 rfl rfl)) ?_ | refine valP_ok (ld3 (hS.cell 7 rfl rfl)) ?_ | refine valP_ok (ld3 (by assumption)) ?_
      refine valP_ok (gtr_ok _ _ _ _ _ _ _) ?_
      first | refine pick_dt (by first | assumption | omega) ?_ | refine pick_df (by first | assumption | omega) ?_ | refine pick_t (by first | rfl | assumption) ?_ | refine pick_f (by first | rfl | assumption) ?_ | refine pick_dt rfl ?_ | refine pick_df (not_not_intro rfl) ?_
      refine cond_split (fun h2 => ?_) (fun h2 => ?_)
      · first | refine pick_dt (by first | assumption | omega) ?_ | refine pick_df (by first | assumption | omega) ?_ | refine pick_t (by first | rfl | assumption) ?_ | refine pick_f (by first | rfl | assumption) ?_ | refine pick_dt rfl ?_ | refine pick_df (not_not_intro rfl) ?_
        exact leaf true _ hS (fun h => (by cases h))
      · first | refine valP_ok (fa46_1 _ _) ?_ | refine valP_ok (fao46_1 _ _ _) ?_
        first | refine valP_ok (ld3 (hS.cell 0 rfl rfl)) ?_ | refine valP_ok (ld3 (hS.cell 1 rfl rfl)) ?_ | refine valP_ok (ld3 (hS.cell 2 rfl rfl)) ?_ | refine valP_ok (ld3 (hS.cell 3 rfl rfl)) ?_ | refine valP_ok (ld3 (hS.cell 4 rfl rfl)) ?_ | refine valP_ok (ld3 (hS.cell 5 rfl rfl)) ?_ | refine valP_ok (ld3 (hS.cell 6 rfl rfl)) ?_ | refine valP_ok (ld3 (hS.cell 7 rfl rfl)) ?_ | refine valP_ok (ld3 (by assumption)) ?_
        refine callR (by kernel_rfl) (in_ret hS) ?_
        rintro _ w ⟨rfl, hS⟩
        first | refine valP_ok (not_ok _ _) ?_ | refine valP_ok (notb_ok _ _) ?_
        first | refine pick_dt (by first | assumption | omega) ?_ | refine pick_df (by first | assumption | omega) ?_ | refine pick_t (by first | rfl | assumption) ?_ | refine pick_f (by first | rfl | assumption) ?_ | refine pick_dt rfl ?_ | refine pick_df (not_not_intro rfl) ?_
        refine leaf _ _ hS (fun h => ⟨hm, by omega, ?_⟩)
        have h3 := Classical.not_not.1 (of_decide_eq_false h)
        unfold in40 at h3
        omega
end
end
section
variable {w0 w : World} {F : List Nat} {B L : List Res}
theorem encR_len : ∀ g, (encR g).length = 3 := fun _ => rfl
theorem encR_one : ∀ x, ∀ u ∈ encR x, u.oneCell' = true := fun x u hu => by
  simp only [List.mem_cons, List.not_mem_nil, or_false] at hu
  rcases hu with rfl | rfl | rfl <;> rfl
theorem r_at {l : List Rc} {o b i : Nat} (hr : Rd w 3 (some ⟨b, o, none⟩) l.length (l.flatMap encR)) (hi : i < l.length) : w.cell? ⟨b, o + i * 3, none⟩ = some (.int .i64 l[i].key) ∧ w.cell? ⟨b, o + i * 3 + 1, none⟩ = some (.int .i64 l[i].time) ∧ w.cell? ⟨b, o + i * 3 + 2, none⟩ = some (.string l[i].text) :=
  ⟨hr.struct encR_len hi (j := 0) (by omega) rfl, hr.struct encR_len hi (j := 1) (by omega) rfl, hr.struct encR_len hi (j := 2) (by omega) rfl⟩
def RunR (g : Gr) (s0 : Sg) (w0 : World) (F : List Nat) (B L : List Res) (v : Value) (w : World) : Prop :=
  ∃ (R : List Res) (s : Sg) (sv x : Value) (e : Int), v = .tuple #[sv, x, .int .i64 e] ∧ (e = 0 → MayS g s0) ∧ SgR w0 F (R ++ L) sv s ∧ St w0 F w (R ++ (B ++ L))
section
variable {g : Gr} {s0 s : Sg} {A : Option Addr} {c b3 b4 b6 : Nat}
abbrev RnL (L : List Res) (g : Gr) (s : Sg) (A : Option Addr) (c b3 b4 b6 : Nat) : List Res := Res.cells b6 28 [.int .i64 0, .int .i64 0, .int .i64 0, .int .i64 0, .slice none 0 0] :: Res.cells b4 28 (encS s A c) :: Res.cells b3 23 (encGr g) :: L
theorem run_none {e : Int} {x : Value} (he : e = 0 → MayS g s0) (hS : St w0 F w (Res.cells b6 28 [.int .i64 0, .int .i64 0, .int .i64 0, .int .i64 0, .slice none 0 0] :: (B ++ L))) : m13_17 (RunR g s0 w0 F B L) (.pointer (some ⟨b6, 0, none⟩)) x (.int .i64 e) w := by
  unfold m13_17
  refine valS_ok (lc28 (hS.cell 0 rfl rfl) (hS.cell 0 rfl rfl) (hS.cell 0 rfl rfl) (hS.cell 0 rfl rfl) (hS.cell 0 rfl rfl)) ?_
  exact ⟨[], zeroSg, _, x, e, rfl, he, ⟨zeroSg_ok, by simp [zeroSg], none, 0, rfl, Sl.nil⟩, hS.tail⟩
theorem run_ret {l : List Rc} {Al : Option Addr} {cl : Nat} (hl : l.length ≤ 1000) (hB : Bes w0 F L 3 Al l.length (l.flatMap encR)) (hok : SgOk s) (hEs : Sl w0 F L A c s.L) (hS : St w0 F w (B ++ L)) : Ret Try.prog 13 #[grv g, sgv s A c, .slice Al l.length cl] w (RunR g s w0 F B L) := by
  refine s13 _ _ _ ?_
  unfold m13
  unfold m13_0
  refine new_ok (bx23 _ _ _ _) hS ?_
  intro b3 w hS
  refine new_ok (bx28 _ _ _ _ _ _) hS ?_
  intro b4 w hS
  refine new_ok (al28 _) hS ?_
  intro b6 w hS
  have hE3 := (((hEs.mono fun q hq => List.mem_append_right B hq).cons (Res.cells b3 23 (encGr g))).cons (Res.cells b4 28 (encS s A c))).cons (Res.cells b6 28 [.int .i64 0, .int .i64 0, .int .i64 0, .int .i64 0, .slice none 0 0])
  unfold m13_1
  first | refine ls23 0 hS rfl ?_ | refine ls23 1 hS rfl ?_ | refine ls23 2 hS rfl ?_ | refine ls23 3 hS rfl ?_ | refine ls23 4 hS rfl ?_ | refine ls23 5 hS rfl ?_ | refine ls23 6 hS rfl ?_ | refine ls23 7 hS rfl ?_ | refine valP_ok (ld23 (by assumption) (by assumption) (by assumption)) ?_
  first | refine ls28 0 hS rfl ?_ | refine ls28 1 hS rfl ?_ | refine ls28 2 hS rfl ?_ | refine ls28 3 hS rfl ?_ | refine ls28 4 hS rfl ?_ | refine ls28 5 hS rfl ?_ | refine ls28 6 hS rfl ?_ | refine ls28 7 hS rfl ?_ | refine valP_ok (ld28 (by assumption) (by assumption) (by assumption) (by assumption) (by assumption)) ?_
  refine callR (by kernel_rfl) (mays_ret hE3 hS) ?_
  rintro _ w ⟨⟨t, rfl, ht⟩, hS⟩
  first | refine valP_ok (not_ok _ _) ?_ | refine valP_ok (notb_ok _ _) ?_
  unfold m13_16
  cases t with
  | false =>
    refine cond_t rfl ?_
    refine valP_ok (bd28 _) ?_
    first | refine ss28 0 hS rfl rfl rfl rfl rfl rfl ?_ | refine ss28 1 hS rfl rfl rfl rfl rfl rfl ?_ | refine ss28 2 hS rfl rfl rfl rfl rfl rfl ?_ | refine ss28 3 hS rfl rfl rfl rfl rfl rfl ?_ | refine ss28 4 hS rfl rfl rfl rfl rfl rfl ?_ | refine ss28 5 hS rfl rfl rfl rfl rfl rfl ?_ | refine ss28 6 hS rfl rfl rfl rfl rfl rfl ?_ | refine ss28 7 hS rfl rfl rfl rfl rfl rfl ?_
    intro w hS
    simp only [List.set_cons_zero, List.set_cons_succ] at hS
    exact run_none (x := .slice none 0 0) (e := 1) (fun h => absurd h (by omega)) (St.mid (A := [_]) (B := [_, _]) hS)
  | true =>
    have hm := ht.1 rfl
    refine cond_f rfl ?_
    unfold m13_2 m13_3 m13_6
    refine loop_in (fun u w' => ∃ (i : Nat) (s' : Sg) (A' : Option Addr) (c' : Nat) (A2 : Option Addr) (c2 : Nat) (all : List Ce) (R : List Res), u = (.slice A2 all.length c2, .int .i64 (i : Int)) ∧ i ≤ l.length ∧ SgOk s' ∧ s'.L.length ≤ 64 ∧ all.length ≤ 64 * i ∧ Sl w0 F (R ++ L) A' c' s'.L ∧ St w0 F w' (cRow A2 c2 all :: RnL (B ++ (R ++ L)) g s' A' c' b3 b4 b6)) (fun u _ => l.length - (intOf u.2).toNat) ⟨0, s, A, c, none, 0, [], [], rfl, by omega, hok, hm.1.2.2.2.2.2.2, by simp, hEs, hS.row_nil 67 12⟩ ?_
    clear hS
    rintro u w ⟨i, s', A', c', A2, c2, all, R, rfl, hi, hok', h64, hal, hE, hS⟩
    simp only
    unfold m13_7
    refine builtin_ok (len24 _) ?_
    refine valP_ok (lss_ok _ _ _ _ _ _ _) ?_
    unfold m13_15
    refine cond_split (fun h => ?_) (fun h => ?_)
    · have hil : i < l.length := by omega
      have hB4 : Bes w0 F (cRow A2 c2 all :: RnL (B ++ (R ++ L)) g s' A' c' b3 b4 b6) 3 Al l.length (l.flatMap encR) := hB.mono fun q hq => .tail _ (.tail _ (.tail _ (.tail _ (List.mem_append_right _ (List.mem_append_right _ hq)))))
      obtain ⟨gb, o, rfl⟩ := (hB4.rd hS).some_ (by omega) (by omega)
      have last : ∀ (K1 : Value × Value → World → Prop), (∀ w s2 A4 c4 A5 c5 all2 R2, SgOk s2 → s2.L.length ≤ 64 → all2.length ≤ 64 * (i + 1) → Sl w0 F (R2 ++ L) A4 c4 s2.L → St w0 F w (cRow A5 c5 all2 :: RnL (B ++ (R2 ++ L)) g s2 A4 c4 b3 b4 b6) → K1 (.slice A5 all2.length c5, .int .i64 ((i + 1 : Nat) : Int)) w) →
          ∀ (e : Int) (s2 : Sg) (A3 A4 : Option Addr) (c3 c4 b11 : Nat) (ov : List Ce) (R2 : List Res) w, SgOk s2 → s2.L.length ≤ 64 → ov.length ≤ 64 → Sl w0 F (R2 ++ L) A4 c4 s2.L → Sl w0 F (R2 ++ L) A3 c3 ov → St w0 F w (Res.cells b11 28 (encS s2 A4 c4) :: cRow A2 c2 all :: RnL (B ++ (R2 ++ L)) g s' A' c' b3 b4 b6) →
          m13_10 (RunR g s w0 F B L) K1 (.slice (some ⟨gb, o, none⟩) l.length cl) (.pointer (some ⟨b3, 0, none⟩)) (.pointer (some ⟨b4, 0, none⟩)) (.pointer (some ⟨b6, 0, none⟩)) (.slice A2 all.length c2) (.int .i64 (i : Int)) (.pointer (some ⟨b11, 0, none⟩)) (.slice A3 ov.length c3) (.int .i64 e) w := by
        clear hS
        intro K1 hK e s2 A3 A4 c3 c4 b11 ov R2 w hok2 h642 hov hE2 hEo hS
        unfold m13_10
        refine valP_ok (ne3 _ _ _ _ _) ?_
        unfold m13_13
        refine cond_split (fun he => ?_) (fun he => ?_)
        · refine valP_ok (bd28 _) ?_
          first | refine ss28 0 hS rfl rfl rfl rfl rfl rfl ?_ | refine ss28 1 hS rfl rfl rfl rfl rfl rfl ?_ | refine ss28 2 hS rfl rfl rfl rfl rfl rfl ?_ | refine ss28 3 hS rfl rfl rfl rfl rfl rfl ?_ | refine ss28 4 hS rfl rfl rfl rfl rfl rfl ?_ | refine ss28 5 hS rfl rfl rfl rfl rfl rfl ?_ | refine ss28 6 hS rfl rfl rfl rfl rfl rfl ?_ | refine ss28 7 hS rfl rfl rfl rfl rfl rfl ?_
          intro w hS
          simp only [List.set_cons_zero, List.set_cons_succ] at hS
          unfold m13_14
          refine valS_ok (lc28 (hS.cell 2 rfl rfl) (hS.cell 2 rfl rfl) (hS.cell 2 rfl rfl) (hS.cell 2 rfl rfl) (hS.cell 2 rfl rfl)) ?_
          refine ⟨R2, zeroSg, _, _, e, rfl, fun _ => hm, ⟨zeroSg_ok, by simp [zeroSg], none, 0, rfl, Sl.nil⟩, ?_⟩
          exact St.swap (A := B) (B := R2) (St.mid (A := []) (B := [_, _, _, _, _]) hS)
        · unfold m13_11
          first | refine ls28 0 hS rfl ?_ | refine ls28 1 hS rfl ?_ | refine ls28 2 hS rfl ?_ | refine ls28 3 hS rfl ?_ | refine ls28 4 hS rfl ?_ | refine ls28 5 hS rfl ?_ | refine ls28 6 hS rfl ?_ | refine ls28 7 hS rfl ?_ | refine valP_ok (ld28 (by assumption) (by assumption) (by assumption) (by assumption) (by assumption)) ?_
          first | refine ss28 0 hS rfl rfl rfl rfl rfl rfl ?_ | refine ss28 1 hS rfl rfl rfl rfl rfl rfl ?_ | refine ss28 2 hS rfl rfl rfl rfl rfl rfl ?_ | refine ss28 3 hS rfl rfl rfl rfl rfl rfl ?_ | refine ss28 4 hS rfl rfl rfl rfl rfl rfl ?_ | refine ss28 5 hS rfl rfl rfl rfl rfl rfl ?_ | refine ss28 6 hS rfl rfl rfl rfl rfl rfl ?_ | refine ss28 7 hS rfl rfl rfl rfl rfl rfl ?_
          intro w hS
          simp only [List.set_cons_zero, List.set_cons_succ] at hS
          unfold m13_12
          have hlen : (all ++ ov).length = all.length + ov.length := List.length_append
          refine append_anyS (enc := encC) (l0 := all) (l := ov) 1 sl26 encC_len encC_one (by unfold maxLen; omega) (by omega) hS rfl ((hEo.mono (L' := _) fun q hq => .tail _ (.tail _ (.tail _ (.tail _ (.tail _ (List.mem_append_right _ hq)))))).rd.rd hS) hEo.nul ?_
          intro A5 c5 w hS
          simp only [List.set_cons_zero, List.set_cons_succ] at hS
          unfold m13_9
          refine valP_ok (add_ok _ _ _ (by omega) (by omega) _) ?_
          exact hK _ s2 A4 c4 A5 c5 (all ++ ov) R2 hok2 h642 (by omega) hE2 hS.tail
      unfold m13_8
      refine drawn_ok hS ?_
      intro w hS
      refine held_Hs hS ?_
      first | refine valJ_at (fun w hw => ld23 (Hs.cell 0 rfl rfl w hw) (Hs.cell 0 rfl rfl w hw) (Hs.cell 0 rfl rfl w hw)) ?_ | refine valJ_at (fun w hw => ld23 (Hs.cell 1 rfl rfl w hw) (Hs.cell 1 rfl rfl w hw) (Hs.cell 1 rfl rfl w hw)) ?_ | refine valJ_at (fun w hw => ld23 (Hs.cell 2 rfl rfl w hw) (Hs.cell 2 rfl rfl w hw) (Hs.cell 2 rfl rfl w hw)) ?_ | refine valJ_at (fun w hw => ld23 (Hs.cell 3 rfl rfl w hw) (Hs.cell 3 rfl rfl w hw) (Hs.cell 3 rfl rfl w hw)) ?_ | refine valJ_at (fun w hw => ld23 (Hs.cell 4 rfl rfl w hw) (Hs.cell 4 rfl rfl w hw) (Hs.cell 4 rfl rfl w hw)) ?_ | refine valJ_at (fun w hw => ld23 (Hs.cell 5 rfl rfl w hw) (Hs.cell 5 rfl rfl w hw) (Hs.cell 5 rfl rfl w hw)) ?_ | refine valJ_at (fun w hw => ld23 (Hs.cell 6 rfl rfl w hw) (Hs.cell 6 rfl rfl w hw) (Hs.cell 6 rfl rfl w hw)) ?_ | refine valJ_at (fun w hw => ld23 (Hs.cell 7 rfl rfl w hw) (Hs.cell 7 rfl rfl w hw) (Hs.cell 7 rfl rfl w hw)) ?_
      first | refine valJ_at (fun w hw => ld28 (Hs.cell 0 rfl rfl w hw) (Hs.cell 0 rfl rfl w hw) (Hs.cell 0 rfl rfl w hw) (Hs.cell 0 rfl rfl w hw) (Hs.cell 0 rfl rfl w hw)) ?_ | refine valJ_at (fun w hw => ld28 (Hs.cell 1 rfl rfl w hw) (Hs.cell 1 rfl rfl w hw) (Hs.cell 1 rfl rfl w hw) (Hs.cell 1 rfl rfl w hw) (Hs.cell 1 rfl rfl w hw)) ?_ | refine valJ_at (fun w hw => ld28 (Hs.cell 2 rfl rfl w hw) (Hs.cell 2 rfl rfl w hw) (Hs.cell 2 rfl rfl w hw) (Hs.cell 2 rfl rfl w hw) (Hs.cell 2 rfl rfl w hw)) ?_ | refine valJ_at (fun w hw => ld28 (Hs.cell 3 rfl rfl w hw) (Hs.cell 3 rfl rfl w hw) (Hs.cell 3 rfl rfl w hw) (Hs.cell 3 rfl rfl w hw) (Hs.cell 3 rfl rfl w hw)) ?_ | refine valJ_at (fun w hw => ld28 (Hs.cell 4 rfl rfl w hw) (Hs.cell 4 rfl rfl w hw) (Hs.cell 4 rfl rfl w hw) (Hs.cell 4 rfl rfl w hw) (Hs.cell 4 rfl rfl w hw)) ?_ | refine valJ_at (fun w hw => ld28 (Hs.cell 5 rfl rfl w hw) (Hs.cell 5 rfl rfl w hw) (Hs.cell 5 rfl rfl w hw) (Hs.cell 5 rfl rfl w hw) (Hs.cell 5 rfl rfl w hw)) ?_ | refine valJ_at (fun w hw => ld28 (Hs.cell 6 rfl rfl w hw) (Hs.cell 6 rfl rfl w hw) (Hs.cell 6 rfl rfl w hw) (Hs.cell 6 rfl rfl w hw) (Hs.cell 6 rfl rfl w hw)) ?_ | refine valJ_at (fun w hw => ld28 (Hs.cell 7 rfl rfl w hw) (Hs.cell 7 rfl rfl w hw) (Hs.cell 7 rfl rfl w hw) (Hs.cell 7 rfl rfl w hw) (Hs.cell 7 rfl rfl w hw)) ?_
      first | refine valJ_ok (ixz24 (by first | assumption | omega)) ?_ | refine valJ_ok (ix24 (by first | assumption | omega)) ?_
      have p := fun w (hw : Hs w0 F (cRow A2 c2 all :: RnL (B ++ (R ++ L)) g s' A' c' b3 b4 b6) w) => r_at (Hs.rd hB4 w hw) hil
      refine valJ_at (fun w hw => ld46 (p w hw).1 (p w hw).2.1 (p w hw).2.2) ?_
      refine ⟨?_, ?_⟩
      · refine callR (by kernel_rfl) (feed_ret (B := cRow A2 c2 all :: RnL B g s' A' c' b3 b4 b6) (L := R ++ L) hok' hE hS) ?_
        rintro _ w ⟨R1, s2, sv, e, A3, c3, ov, rfl, ⟨hok2, h642, A4, c4, rfl, hE2⟩, hEo, hov, hS⟩
        have hS := St.swap (A := R1) (B := cRow A2 c2 all :: RnL B g s' A' c' b3 b4 b6) (L := R ++ L) hS
        refine stay_Hs hS (fun q hq => mem_under (B := cRow A2 c2 all :: RnL B g s' A' c' b3 b4 b6) (R := R1) q hq) ?_
        have ea : R1 ++ (R ++ L) = (R1 ++ R) ++ L := (List.append_assoc ..).symm
        refine valJ_ok (extract_ok _ 0 rfl) ?_
        refine valJ_ok (extract_ok _ 1 rfl) ?_
        refine valJ_ok (extract_ok _ 2 rfl) ?_
        refine new_ok (al28 _) hS ?_
        intro b11 w hS
        refine stay_Hs hS (fun q hq => .tail _ (mem_under (B := cRow A2 c2 all :: RnL B g s' A' c' b3 b4 b6) (R := R1) q hq)) ?_
        first | refine ss28 0 hS rfl rfl rfl rfl rfl rfl ?_ | refine ss28 1 hS rfl rfl rfl rfl rfl rfl ?_ | refine ss28 2 hS rfl rfl rfl rfl rfl rfl ?_ | refine ss28 3 hS rfl rfl rfl rfl rfl rfl ?_ | refine ss28 4 hS rfl rfl rfl rfl rfl rfl ?_ | refine ss28 5 hS rfl rfl rfl rfl rfl rfl ?_ | refine ss28 6 hS rfl rfl rfl rfl rfl rfl ?_ | refine ss28 7 hS rfl rfl rfl rfl rfl rfl ?_
        intro w hS
        simp only [List.set_cons_zero, List.set_cons_succ] at hS
        refine stay_Hs hS (fun q hq => .tail _ (mem_under (B := cRow A2 c2 all :: RnL B g s' A' c' b3 b4 b6) (R := R1) q hq)) ?_
        rw [ea] at hE2 hEo hS
        exact last _ (fun w s2 A4 c4 A5 c5 all2 R2 q1 q2 q3 q4 q5 => ⟨⟨i + 1, s2, A4, c4, A5, c5, all2, R2, rfl, by omega, q1, q2, q3, q4, q5⟩, by simp [intOf]; omega⟩) e s2 A3 A4 c3 c4 _ ov (R1 ++ R) _ hok2 h642 hov hE2 hEo hS
      · refine new_ok (al28 _) hS ?_
        intro b11 w hS
        refine stay_Hs hS (by first | exact fun _ h => h | exact fun _ h => .tail _ h | exact fun _ h => .tail _ (.tail _ h) | simp) ?_
        refine callR (by kernel_rfl) (feed_ret (B := Res.cells b11 28 [.int .i64 0, .int .i64 0, .int .i64 0, .int .i64 0, .slice none 0 0] :: cRow A2 c2 all :: RnL B g s' A' c' b3 b4 b6) (L := R ++ L) hok' hE hS) ?_
        rintro _ w ⟨R1, s2, sv, e, A3, c3, ov, rfl, ⟨hok2, h642, A4, c4, rfl, hE2⟩, hEo, hov, hS⟩
        have hS := St.swap (A := R1) (B := Res.cells b11 28 [.int .i64 0, .int .i64 0, .int .i64 0, .int .i64 0, .slice none 0 0] :: cRow A2 c2 all :: RnL B g s' A' c' b3 b4 b6) (L := R ++ L) hS
        refine stay_Hs hS (fun q hq => .tail _ (mem_under (B := cRow A2 c2 all :: RnL B g s' A' c' b3 b4 b6) (R := R1) q hq)) ?_
        have ea : R1 ++ (R ++ L) = (R1 ++ R) ++ L := (List.append_assoc ..).symm
        have hS : St w0 F w (Res.cells b11 28 [.int .i64 0, .int .i64 0, .int .i64 0, .int .i64 0, .slice none 0 0] :: cRow A2 c2 all :: RnL (B ++ (R1 ++ (R ++ L))) g s' A' c' b3 b4 b6) := hS
        refine valJ_ok (extract_ok _ 0 rfl) ?_
        refine valJ_ok (extract_ok _ 1 rfl) ?_
        refine valJ_ok (extract_ok _ 2 rfl) ?_
        first | refine ss28 0 hS rfl rfl rfl rfl rfl rfl ?_ | refine ss28 1 hS rfl rfl rfl rfl rfl rfl ?_ | refine ss28 2 hS rfl rfl rfl rfl rfl rfl ?_ | refine ss28 3 hS rfl rfl rfl rfl rfl rfl ?_ | refine ss28 4 hS rfl rfl rfl rfl rfl rfl ?_ | refine ss28 5 hS rfl rfl rfl rfl rfl rfl ?_ | refine ss28 6 hS rfl rfl rfl rfl rfl rfl ?_ | refine ss28 7 hS rfl rfl rfl rfl rfl rfl ?_
        intro w hS
        simp only [List.set_cons_zero, List.set_cons_succ] at hS
        refine stay_Hs hS (fun q hq => .tail _ (mem_under (B := cRow A2 c2 all :: RnL B g s' A' c' b3 b4 b6) (R := R1) q hq)) ?_
        rw [ea] at hE2 hEo hS
        exact last _ (fun w s2 A4 c4 A5 c5 all2 R2 q1 q2 q3 q4 q5 => ⟨⟨i + 1, s2, A4, c4, A5, c5, all2, R2, rfl, by omega, q1, q2, q3, q4, q5⟩, by simp [intOf]; omega⟩) e s2 A3 A4 c3 c4 _ ov (R1 ++ R) _ hok2 h642 hov hE2 hEo hS
    · unfold m13_4
      first | refine ls28 0 hS rfl ?_ | refine ls28 1 hS rfl ?_ | refine ls28 2 hS rfl ?_ | refine ls28 3 hS rfl ?_ | refine ls28 4 hS rfl ?_ | refine ls28 5 hS rfl ?_ | refine ls28 6 hS rfl ?_ | refine ls28 7 hS rfl ?_ | refine valP_ok (ld28 (by assumption) (by assumption) (by assumption) (by assumption) (by assumption)) ?_
      first | refine ss28 0 hS rfl rfl rfl rfl rfl rfl ?_ | refine ss28 1 hS rfl rfl rfl rfl rfl rfl ?_ | refine ss28 2 hS rfl rfl rfl rfl rfl rfl ?_ | refine ss28 3 hS rfl rfl rfl rfl rfl rfl ?_ | refine ss28 4 hS rfl rfl rfl rfl rfl rfl ?_ | refine ss28 5 hS rfl rfl rfl rfl rfl rfl ?_ | refine ss28 6 hS rfl rfl rfl rfl rfl rfl ?_ | refine ss28 7 hS rfl rfl rfl rfl rfl rfl ?_
      intro w hS
      simp only [List.set_cons_zero, List.set_cons_succ] at hS
      unfold m13_5
      refine valS_ok (lc28 (hS.cell 1 rfl rfl) (hS.cell 1 rfl rfl) (hS.cell 1 rfl rfl) (hS.cell 1 rfl rfl) (hS.cell 1 rfl rfl)) ?_
      refine ⟨R, s', _, _, 0, rfl, fun _ => hm, ⟨hok', h64, A', c', rfl, hE⟩, ?_⟩
      exact St.swap (A := B) (B := R) (St.mid (A := []) (B := [_, _, _, _]) hS)
end
end
theorem kcells67 : Try.prog.cellsOf 67 = 12 := by kernel_rfl
theorem kcells65 : Try.prog.cellsOf 65 = 10 := by kernel_rfl
theorem kcells63 : Try.prog.cellsOf 63 = 4 := by kernel_rfl
theorem keyCe {c : Ce} (h : CeOk c) : Try.prog.keyLits 6 67 (encC c) = some [.int .i64 c.key, .int .i64 c.start, .int .i64 c.a.count, .int .i64 c.a.sum, .int .i64 c.a.mn, .int .i64 c.a.mx, .int .i64 c.a.h0, .int .i64 c.a.h1, .int .i64 c.a.h2, .int .i64 c.a.h3, .int .i64 c.a.re, .int .i64 c.a.im] := by
  have ha : ∀ x ∈ agI c.a, (Lit.int .i64 x).wf = true := fun x hx => wfI (h.2.2 x hx)
  simp only [agI, List.mem_cons, List.not_mem_nil, or_false, forall_eq_or_imp, forall_eq] at ha
  simp only [Program.keyLits, Try.underlying67, Try.underlying65, Try.underlying63, kcells67, kcells65, kcells63, cells3, Try.underlying3]
  simp [wfI h.1, wfI h.2.1, ha, cells3, kcells65, kcells63, List.range, List.range.loop]
  rw [if_pos (by decide)]
  rfl
theorem ne67 (x y : Operand) {a b : Ce} (ha : CeOk a) (hb : CeOk b) : ∃ t : Bool, (t = true ↔ ¬ a = b) ∧ ∀ w, (binS .neq 67 x y (cev a) (cev b)).run Try.prog w = .ok (.bool t) w := by
  have run : ∀ w : World, ∃ r : Bool, (binS .neq 67 x y (cev a) (cev b)).run Try.prog w = .ok (.bool (!r)) w ∧ (r = true ↔ a = b) := fun w => by
    obtain ⟨r, hr, hiff⟩ := run_equalIn_deep (P := Try.prog) 9996 4 67 (by kernel_rfl) w 6 6 (cev a) (cev b) _ _ (by kernel_rfl) (by kernel_rfl) (keyCe ha) (keyCe hb)
    refine ⟨r, ?_, ?_⟩
    · rw [binS_run _ _ _ _ _ _ (by kernel_rfl), run_neq_struct, hr]
      rfl
    · rw [hiff]
      obtain ⟨k, s, ⟨c0, c1, c2, c3, c4, c5, c6, c7, c8, c9⟩⟩ := a
      obtain ⟨k', s', ⟨d0, d1, d2, d3, d4, d5, d6, d7, d8, d9⟩⟩ := b
      simp
  by_cases h : a = b
  · refine ⟨false, by simp [h], fun w => ?_⟩
    obtain ⟨r, hr, hi⟩ := run w
    rw [hr, hi.2 h]
    rfl
  · refine ⟨true, by simp [h], fun w => ?_⟩
    obtain ⟨r, hr, hi⟩ := run w
    rw [hr]
    cases r with
    | true => exact absurd (hi.1 rfl) h
    | false => rfl
end Go.Proofs.Ytnhgdngbdoifnaa.M
namespace Go.Proofs.Ytnhgdngbdoifnaa.M
open Go.Proofs.Ytnhgdngbdoifnaa.F
set_option linter.unusedVariables false
set_option maxRecDepth 100000
variable {R : VP} {Q : EQ}
def m26_3 (R : VP) (t2 : Value) (w : World) : Prop :=
  valS Try.prog (loadC 46 t2) w fun r0 =>
  R r0 w
def m26_2 (R : VP) (c1 t2 s3 : Value) (w : World) : Prop :=
  anyDraw w fun w =>
  heldP w fun J =>
  valJ Try.prog J (Instr.fieldAt 67 c1 0) fun t11 =>
  valJ Try.prog J (Instr.loadAt 3 t11) fun t12 =>
  valJ Try.prog J (Instr.fieldAt 67 c1 1) fun t13 =>
  valJ Try.prog J (Instr.loadAt 3 t13) fun t14 =>
  callP Try.prog (fnV 17) #[(vi 1)] w fun t15 w =>
  stayP J w
  (valJ Try.prog J (binS BinOp.add 9 (tm 15) (tm 16) t15 s3) fun t17 =>
  valJ Try.prog J (Instr.build 46 #[(0, t12), (1, t14), (2, t17)]) fun t18 =>
  unitP Try.prog (Instr.storeAt 46 t2 t18) w fun _ w =>
  stayP J w
  (m26_3 R t2 w))
def m26_1 (R : VP) (c1 t2 : Value) (w : World) : Prop :=
  valP Try.prog (Instr.fieldAt 67 c1 2) w fun t6 w =>
  valP Try.prog (Instr.loadAt 65 t6) w fun t7 w =>
  callP Try.prog (fnV 47) #[t7] w fun t8 w =>
  valP Try.prog (Instr.extract t8 0) w fun t9 w =>
  valP Try.prog (Instr.extract t8 1) w fun t10 w =>
  m26_2 R c1 t2 t9 w
def m26_0 (R : VP) (c0 : Value) (w : World) : Prop :=
  valP Try.prog (Instr.box 67 c0) w fun c1 w =>
  valP Try.prog (Instr.alloc 46 true (.tuple #[])) w fun t2 w =>
  m26_1 R c1 t2 w
abbrev W26 := cwp Try.prog (fun i => 0)
noncomputable def k26_0 := bodyOf Try.f26
noncomputable def k26_1 := c2 k26_0
noncomputable def k26_2 := c2 k26_1
noncomputable def k26_3 := c2 k26_2
abbrev hR26 (R : VP) (Q : EQ) : Prop := ∀ e w, (valS Try.prog (loadC 46 (e 2)) w fun r0 =>
R r0 w) → Q .ret e w
theorem s26_3 (hR : hR26 R Q) (e : Env) (w : World) (h : m26_3 R (e 2) w) : W26 k26_3 Q e w := by
  exact reA (hR _ _ h)
theorem s26_2 (hR : hR26 R Q) (e : Env) (w : World) (h : m26_2 R (e 1) (e 2) (e 3) w) : W26 k26_2 Q e w := by
  refine seA ?_
  have hN : ∀ e w, (m26_3 R (e 2) w) → (thenE (W26 k26_3 Q) Q) .normal e w := fun e w h => then_N (s26_3 hR e w h)
  exact treeJ_ok 2 9 (bt 9 0) (.take 0 (bt 9 1) (.take 1 (bt 9 3) (.take 2 (bt 9 7) (.take 3 (bt 9 15) (.take 5 (bt 9 47) (.alt 4 (bt 9 63) (.take 6 (bt 9 127) (.take 7 (bt 9 255) (.alt 8 (bt 9 511) .done .stop))) .stop)))))) (fun e w => m26_3 R (e 2) w) (by kernel_rfl) (by kernel_rfl) (by kernel_rfl) (by kernel_rfl) (by kernel_rfl) (by kernel_rfl) (kcast (by kernel_rfl) h) hN (by kernel_rfl)
theorem s26_1 (hR : hR26 R Q) (e : Env) (w : World) (h : m26_1 R (e 1) (e 2) w) : W26 k26_1 Q e w := by
  refine seA ?_
  exact rgA 1 (fun e w => m26_2 R (e 1) (e 2) (e 3) w) h fun e w h => then_N (s26_2 hR e w h)
theorem s26_0 (hR : hR26 R Q) (e : Env) (w : World) (h : m26_0 R (e 0) w) : W26 k26_0 Q e w := by
  refine seA ?_
  exact rgA 0 (fun e w => m26_1 R (e 1) (e 2) w) h fun e w h => then_N (s26_1 hR e w h)
abbrev m26 (R : VP) (c0 : Value) (w : World) : Prop := m26_0 R c0 w
theorem s26 (c0 : Value) {R : VP} {w : World} (h : m26 R c0 w) :
    Calls Try.prog 26 #[c0] w fun e w' => ∃ v, e = .returned v ∧ R v w' :=
  calls_of_cwp (st := (fun i => 0)) (c := k26_0) (by kernel_rfl) Try.func26 (by kernel_rfl) (Nat.le_of_ble_eq_true (by kernel_rfl)) (by kernel_rfl)
    (s26_0 (R := R) (Q := endE Try.prog Try.f26 R) (fun e w h => kcast (by kernel_rfl) h) (argsE #[c0]) w (kcast (by kernel_rfl) h))
def m14_19 (R : VP) (K1 : (Value × Value × Value) → World → Prop) (old2 now3 out5 i6 k7 : Value) (w : World) : Prop :=
  K1 (out5, i6, k7) w
def m14_18 (R : VP) (K1 : (Value × Value × Value) → World → Prop) (old2 now3 out5 i6 k7 : Value) (w : World) : Prop :=
  valP Try.prog (binS BinOp.add 3 (tm 102) (ci 1) i6 (vi 1)) w fun t103 w =>
  m14_19 R K1 old2 now3 out5 t103 k7 w
def m14_16 (R : VP) (K1 : (Value × Value × Value) → World → Prop) (old2 now3 out5 i6 k7 : Value) (w : World) : Prop :=
  K1 (out5, i6, k7) w
def m14_15 (R : VP) (K1 : (Value × Value × Value) → World → Prop) (old2 now3 out5 i6 k7 : Value) (w : World) : Prop :=
  valP Try.prog (binS BinOp.add 3 (tm 131) (ci 1) k7 (vi 1)) w fun t132 w =>
  m14_16 R K1 old2 now3 out5 i6 t132 w
def m14_12 (R : VP) (K1 : (Value × Value × Value) → World → Prop) (old2 now3 out5 i6 k7 : Value) (w : World) : Prop :=
  valP Try.prog (binS BinOp.add 3 (tm 155) (ci 1) k7 (vi 1)) w fun t156 w =>
  K1 (out5, i6, t156) w
def m14_11 (R : VP) (K1 : (Value × Value × Value) → World → Prop) (old2 now3 out5 i6 k7 : Value) (w : World) : Prop :=
  valP Try.prog (binS BinOp.add 3 (tm 153) (ci 1) i6 (vi 1)) w fun t154 w =>
  m14_12 R K1 old2 now3 out5 t154 k7 w
def m14_13 (R : VP) (K1 : (Value × Value × Value) → World → Prop) (old2 now3 out5 i6 k7 t143 : Value) (w : World) : Prop :=
  condP t143
  (valP Try.prog (Instr.fieldAt 28 now3 4) w fun t145 w =>
  valP Try.prog (Instr.loadAt 26 t145) w fun t146 w =>
  valP Try.prog (Instr.indexAt 26 t146 k7) w fun t148 w =>
  valP Try.prog (Instr.loadAt 67 t148) w fun t149 w =>
  callP Try.prog (fnV 26) #[t149] w fun t150 w =>
  valP Try.prog (Instr.buildSlice 24 1 #[(0, t150)]) w fun t151 w =>
  builtinP Try.prog Builtin.append #[24, 24] 24 #[false, false] #[out5, t151] w fun t152 w =>
  m14_11 R K1 old2 now3 t152 i6 k7 w)
  (m14_11 R K1 old2 now3 out5 i6 k7 w)
def m14_10 (R : VP) (K1 : (Value × Value × Value) → World → Prop) (old2 now3 out5 i6 k7 : Value) (w : World) : Prop :=
  valQ Try.prog (Instr.fieldAt 28 old2 4) w fun t133 =>
  valQ Try.prog (Instr.loadAt 26 t133) w fun t134 =>
  valQ Try.prog (Instr.indexAt 26 t134 i6) w fun t136 =>
  valQ Try.prog (Instr.loadAt 67 t136) w fun t137 =>
  valQ Try.prog (Instr.fieldAt 28 now3 4) w fun t138 =>
  valQ Try.prog (Instr.loadAt 26 t138) w fun t139 =>
  valQ Try.prog (Instr.indexAt 26 t139 k7) w fun t141 =>
  valQ Try.prog (Instr.loadAt 67 t141) w fun t142 =>
  valQ Try.prog (binS BinOp.neq 67 (tm 137) (tm 142) t137 t142) w fun t143 =>
  anyDraw w fun w =>
  m14_13 R K1 old2 now3 out5 i6 k7 t143 w
def m14_14 (R : VP) (K1 : (Value × Value × Value) → World → Prop) (old2 now3 out5 i6 k7 t121 : Value) (w : World) : Prop :=
  condP t121
  (valP Try.prog (Instr.fieldAt 28 now3 4) w fun t123 w =>
  valP Try.prog (Instr.loadAt 26 t123) w fun t124 w =>
  valP Try.prog (Instr.indexAt 26 t124 k7) w fun t126 w =>
  valP Try.prog (Instr.loadAt 67 t126) w fun t127 w =>
  callP Try.prog (fnV 26) #[t127] w fun t128 w =>
  valP Try.prog (Instr.buildSlice 24 1 #[(0, t128)]) w fun t129 w =>
  builtinP Try.prog Builtin.append #[24, 24] 24 #[false, false] #[out5, t129] w fun t130 w =>
  m14_15 R K1 old2 now3 t130 i6 k7 w)
  (m14_10 R K1 old2 now3 out5 i6 k7 w)
def m14_9 (R : VP) (K1 : (Value × Value × Value) → World → Prop) (old2 now3 out5 i6 k7 : Value) (w : World) : Prop :=
  anyDraw w fun w =>
  valS Try.prog (Instr.fieldAt 28 old2 4) w fun t105 =>
  valS Try.prog (Instr.loadAt 26 t105) w fun t106 =>
  builtinS Try.prog Builtin.len #[26] 3 #[false] #[t106] w fun t107 =>
  valS Try.prog (binS BinOp.eql 3 (tm 104) (tm 107) i6 t107) w fun t108 =>
  condP t108
  (pickP t108 (Value.bool true) undef fun t121 =>
  m14_14 R K1 old2 now3 out5 i6 k7 t121 w)
  (valS Try.prog (Instr.fieldAt 28 now3 4) w fun t110 =>
  valS Try.prog (Instr.loadAt 26 t110) w fun t111 =>
  valS Try.prog (Instr.indexAt 26 t111 k7) w fun t113 =>
  valS Try.prog (Instr.loadAt 67 t113) w fun t114 =>
  valS Try.prog (Instr.fieldAt 28 old2 4) w fun t115 =>
  valS Try.prog (Instr.loadAt 26 t115) w fun t116 =>
  valS Try.prog (Instr.indexAt 26 t116 i6) w fun t118 =>
  valS Try.prog (Instr.loadAt 67 t118) w fun t119 =>
  callP Try.prog (fnV 25) #[t114, t119] w fun t120 w =>
  pickP t108 (Value.bool true) t120 fun t121 =>
  m14_14 R K1 old2 now3 out5 i6 k7 t121 w)
def m14_17 (R : VP) (K1 : (Value × Value × Value) → World → Prop) (old2 now3 out5 i6 k7 t84 : Value) (w : World) : Prop :=
  condP t84
  (anyDraw w fun w =>
  heldP w fun J =>
  valJ Try.prog J (Instr.fieldAt 28 old2 4) fun t86 =>
  valJ Try.prog J (Instr.loadAt 26 t86) fun t87 =>
  valJ Try.prog J (Instr.indexAt 26 t87 i6) fun t89 =>
  valJ Try.prog J (Instr.fieldAt 67 t89 0) fun t90 =>
  valJ Try.prog J (Instr.loadAt 3 t90) fun t91 =>
  valJ Try.prog J (Instr.fieldAt 28 old2 4) fun t92 =>
  valJ Try.prog J (Instr.loadAt 26 t92) fun t93 =>
  valJ Try.prog J (Instr.indexAt 26 t93 i6) fun t95 =>
  valJ Try.prog J (Instr.fieldAt 67 t95 1) fun t96 =>
  valJ Try.prog J (Instr.loadAt 3 t96) fun t97 =>
  callP Try.prog (fnV 17) #[(vi 2)] w fun t98 w =>
  stayP J w
  (valJ Try.prog J (Instr.build 46 #[(0, t91), (1, t97), (2, t98)]) fun t99 =>
  valP Try.prog (Instr.buildSlice 24 1 #[(0, t99)]) w fun t100 w =>
  stayP J w
  (builtinP Try.prog Builtin.append #[24, 24] 24 #[false, false] #[out5, t100] w fun t101 w =>
  stayP J w
  (m14_18 R K1 old2 now3 t101 i6 k7 w))))
  (m14_9 R K1 old2 now3 out5 i6 k7 w)
def m14_8 (R : VP) (K1 : (Value × Value × Value) → World → Prop) (old2 now3 out5 i6 k7 : Value) (w : World) : Prop :=
  anyDraw w fun w =>
  valS Try.prog (Instr.fieldAt 28 now3 4) w fun t61 =>
  valS Try.prog (Instr.loadAt 26 t61) w fun t62 =>
  builtinS Try.prog Builtin.len #[26] 3 #[false] #[t62] w fun t63 =>
  valS Try.prog (binS BinOp.eql 3 (tm 60) (tm 63) k7 t63) w fun t64 =>
  condP t64
  (pickP t64 (Value.bool true) undef fun t84 =>
  m14_17 R K1 old2 now3 out5 i6 k7 t84 w)
  (valS Try.prog (Instr.fieldAt 28 old2 4) w fun t67 =>
  valS Try.prog (Instr.loadAt 26 t67) w fun t68 =>
  builtinS Try.prog Builtin.len #[26] 3 #[false] #[t68] w fun t69 =>
  valS Try.prog (binS BinOp.lss 3 (tm 66) (tm 69) i6 t69) w fun t70 =>
  condP t70
  (valS Try.prog (Instr.fieldAt 28 old2 4) w fun t72 =>
  valS Try.prog (Instr.loadAt 26 t72) w fun t73 =>
  valS Try.prog (Instr.indexAt 26 t73 i6) w fun t75 =>
  valS Try.prog (Instr.loadAt 67 t75) w fun t76 =>
  valS Try.prog (Instr.fieldAt 28 now3 4) w fun t77 =>
  valS Try.prog (Instr.loadAt 26 t77) w fun t78 =>
  valS Try.prog (Instr.indexAt 26 t78 k7) w fun t80 =>
  valS Try.prog (Instr.loadAt 67 t80) w fun t81 =>
  callP Try.prog (fnV 25) #[t76, t81] w fun t82 w =>
  pickP t70 t82 (Value.bool false) fun t83 =>
  pickP t64 (Value.bool true) t83 fun t84 =>
  m14_17 R K1 old2 now3 out5 i6 k7 t84 w)
  (pickP t70 undef (Value.bool false) fun t83 =>
  pickP t64 (Value.bool true) t83 fun t84 =>
  m14_17 R K1 old2 now3 out5 i6 k7 t84 w))
def m14_6 (R : VP) (t4 : Value) (w : World) : Prop :=
  R t4 w
def m14_5 (R : VP) (out5 : Value) (w : World) : Prop :=
  m14_6 R out5 w
def m14_20 (R : VP) (K1 : (Value × Value × Value) → World → Prop) (old2 now3 out5 i6 k7 t59 : Value) (w : World) : Prop :=
  condP t59
  (m14_8 R K1 old2 now3 out5 i6 k7 w)
  (m14_5 R out5 w)
def m14_7 (R : VP) (K1 : (Value × Value × Value) → World → Prop) (old2 now3 out5 i6 k7 : Value) (w : World) : Prop :=
  valP Try.prog (Instr.fieldAt 28 old2 4) w fun t49 w =>
  valP Try.prog (Instr.loadAt 26 t49) w fun t50 w =>
  builtinP Try.prog Builtin.len #[26] 3 #[false] #[t50] w fun t51 w =>
  valP Try.prog (binS BinOp.lss 3 (tm 48) (tm 51) i6 t51) w fun t52 w =>
  condP t52
  (pickP t52 (Value.bool true) undef fun t59 =>
  m14_20 R K1 old2 now3 out5 i6 k7 t59 w)
  (valP Try.prog (Instr.fieldAt 28 now3 4) w fun t55 w =>
  valP Try.prog (Instr.loadAt 26 t55) w fun t56 w =>
  builtinP Try.prog Builtin.len #[26] 3 #[false] #[t56] w fun t57 w =>
  valP Try.prog (binS BinOp.lss 3 (tm 54) (tm 57) k7 t57) w fun t58 w =>
  pickP t52 (Value.bool true) t58 fun t59 =>
  m14_20 R K1 old2 now3 out5 i6 k7 t59 w)
def m14_4 (R : VP) (old2 now3 out5 i6 k7 : Value) (w : World) : Prop :=
  loopP (fun (K1 : (Value × Value × Value) → World → Prop) (s : Value × Value × Value) w => m14_7 R K1 old2 now3 s.1 s.2.1 s.2.2 w) (out5, i6, k7) w
def m14_3 (R : VP) (old2 now3 out5 : Value) (w : World) : Prop :=
  m14_4 R old2 now3 out5 (vi 0) (vi 0) w
def m14_21 (R : VP) (old2 now3 out5 t33 : Value) (w : World) : Prop :=
  condP t33
  (valP Try.prog (Instr.fieldAt 28 now3 0) w fun t35 w =>
  valP Try.prog (Instr.loadAt 3 t35) w fun t36 w =>
  valP Try.prog (Instr.fieldAt 28 now3 1) w fun t37 w =>
  valP Try.prog (Instr.loadAt 3 t37) w fun t38 w =>
  valP Try.prog (Instr.fieldAt 28 now3 2) w fun t39 w =>
  valP Try.prog (Instr.loadAt 3 t39) w fun t40 w =>
  valP Try.prog (Instr.fieldAt 28 now3 3) w fun t41 w =>
  valP Try.prog (Instr.loadAt 3 t41) w fun t42 w =>
  valP Try.prog (Instr.buildSlice 51 5 #[(0, (vi 0)), (1, t36), (2, t38), (3, t40), (4, t42)]) w fun t43 w =>
  callP Try.prog (fnV 16) #[t43] w fun t44 w =>
  valP Try.prog (Instr.build 46 #[(2, t44)]) w fun t45 w =>
  valP Try.prog (Instr.buildSlice 24 1 #[(0, t45)]) w fun t46 w =>
  builtinP Try.prog Builtin.append #[24, 24] 24 #[false, false] #[out5, t46] w fun t47 w =>
  m14_3 R old2 now3 t47 w)
  (m14_3 R old2 now3 out5 w)
def m14_2 (R : VP) (old2 now3 out5 : Value) (w : World) : Prop :=
  valP Try.prog (Instr.fieldAt 28 old2 0) w fun t8 w =>
  valP Try.prog (Instr.loadAt 3 t8) w fun t9 w =>
  valP Try.prog (Instr.fieldAt 28 now3 0) w fun t10 w =>
  valP Try.prog (Instr.loadAt 3 t10) w fun t11 w =>
  valP Try.prog (binS BinOp.neq 3 (tm 9) (tm 11) t9 t11) w fun t12 w =>
  condP t12
  (pickP t12 (Value.bool true) undef fun t19 =>
  condP t19
  (pickP t19 (Value.bool true) undef fun t26 =>
  condP t26
  (pickP t26 (Value.bool true) undef fun t33 =>
  m14_21 R old2 now3 out5 t33 w)
  (valP Try.prog (Instr.fieldAt 28 old2 3) w fun t28 w =>
  valP Try.prog (Instr.loadAt 3 t28) w fun t29 w =>
  valP Try.prog (Instr.fieldAt 28 now3 3) w fun t30 w =>
  valP Try.prog (Instr.loadAt 3 t30) w fun t31 w =>
  valP Try.prog (binS BinOp.neq 3 (tm 29) (tm 31) t29 t31) w fun t32 w =>
  pickP t26 (Value.bool true) t32 fun t33 =>
  m14_21 R old2 now3 out5 t33 w))
  (valP Try.prog (Instr.fieldAt 28 old2 2) w fun t21 w =>
  valP Try.prog (Instr.loadAt 3 t21) w fun t22 w =>
  valP Try.prog (Instr.fieldAt 28 now3 2) w fun t23 w =>
  valP Try.prog (Instr.loadAt 3 t23) w fun t24 w =>
  valP Try.prog (binS BinOp.neq 3 (tm 22) (tm 24) t22 t24) w fun t25 w =>
  pickP t19 (Value.bool true) t25 fun t26 =>
  condP t26
  (pickP t26 (Value.bool true) undef fun t33 =>
  m14_21 R old2 now3 out5 t33 w)
  (valP Try.prog (Instr.fieldAt 28 old2 3) w fun t28 w =>
  valP Try.prog (Instr.loadAt 3 t28) w fun t29 w =>
  valP Try.prog (Instr.fieldAt 28 now3 3) w fun t30 w =>
  valP Try.prog (Instr.loadAt 3 t30) w fun t31 w =>
  valP Try.prog (binS BinOp.neq 3 (tm 29) (tm 31) t29 t31) w fun t32 w =>
  pickP t26 (Value.bool true) t32 fun t33 =>
  m14_21 R old2 now3 out5 t33 w)))
  (valP Try.prog (Instr.fieldAt 28 old2 1) w fun t14 w =>
  valP Try.prog (Instr.loadAt 3 t14) w fun t15 w =>
  valP Try.prog (Instr.fieldAt 28 now3 1) w fun t16 w =>
  valP Try.prog (Instr.loadAt 3 t16) w fun t17 w =>
  valP Try.prog (binS BinOp.neq 3 (tm 15) (tm 17) t15 t17) w fun t18 w =>
  pickP t12 (Value.bool true) t18 fun t19 =>
  condP t19
  (pickP t19 (Value.bool true) undef fun t26 =>
  condP t26
  (pickP t26 (Value.bool true) undef fun t33 =>
  m14_21 R old2 now3 out5 t33 w)
  (valP Try.prog (Instr.fieldAt 28 old2 3) w fun t28 w =>
  valP Try.prog (Instr.loadAt 3 t28) w fun t29 w =>
  valP Try.prog (Instr.fieldAt 28 now3 3) w fun t30 w =>
  valP Try.prog (Instr.loadAt 3 t30) w fun t31 w =>
  valP Try.prog (binS BinOp.neq 3 (tm 29) (tm 31) t29 t31) w fun t32 w =>
  pickP t26 (Value.bool true) t32 fun t33 =>
  m14_21 R old2 now3 out5 t33 w))
  (valP Try.prog (Instr.fieldAt 28 old2 2) w fun t21 w =>
  valP Try.prog (Instr.loadAt 3 t21) w fun t22 w =>
  valP Try.prog (Instr.fieldAt 28 now3 2) w fun t23 w =>
  valP Try.prog (Instr.loadAt 3 t23) w fun t24 w =>
  valP Try.prog (binS BinOp.neq 3 (tm 22) (tm 24) t22 t24) w fun t25 w =>
  pickP t19 (Value.bool true) t25 fun t26 =>
  condP t26
  (pickP t26 (Value.bool true) undef fun t33 =>
  m14_21 R old2 now3 out5 t33 w)
  (valP Try.prog (Instr.fieldAt 28 old2 3) w fun t28 w =>
  valP Try.prog (Instr.loadAt 3 t28) w fun t29 w =>
  valP Try.prog (Instr.fieldAt 28 now3 3) w fun t30 w =>
  valP Try.prog (Instr.loadAt 3 t30) w fun t31 w =>
  valP Try.prog (binS BinOp.neq 3 (tm 29) (tm 31) t29 t31) w fun t32 w =>
  pickP t26 (Value.bool true) t32 fun t33 =>
  m14_21 R old2 now3 out5 t33 w)))
def m14_1 (R : VP) (old2 now3 : Value) (w : World) : Prop :=
  m14_2 R old2 now3 (Value.slice none 0 0) w
def m14_0 (R : VP) (old0 now1 : Value) (w : World) : Prop :=
  valP Try.prog (Instr.box 28 old0) w fun old2 w =>
  valP Try.prog (Instr.box 28 now1) w fun now3 w =>
  m14_1 R old2 now3 w
abbrev W14 := cwp Try.prog (fun i => cond (Nat.beq i 12) 1 (cond (Nat.beq i 9) 18 (cond (Nat.beq i 6) 24 (0))))
noncomputable def k14_0 := bodyOf Try.f14
noncomputable def k14_1 := c2 k14_0
noncomputable def k14_2 := c2 k14_1
noncomputable def k14_3 := c2 k14_2
noncomputable def k14_4 := c2 k14_3
noncomputable def k14_5 := c2 k14_4
noncomputable def k14_6 := c2 k14_5
noncomputable def k14_7 := c1 (c1 (c1 k14_4))
noncomputable def k14_8 := c2 k14_7
noncomputable def k14_9 := c2 (c1 k14_8)
noncomputable def k14_10 := c2 k14_9
noncomputable def k14_11 := c2 k14_10
noncomputable def k14_12 := c2 k14_11
noncomputable def k14_13 := c2 (c1 k14_10)
noncomputable def k14_14 := c2 (c1 k14_9)
noncomputable def k14_15 := c2 (c1 k14_14)
noncomputable def k14_16 := c2 k14_15
noncomputable def k14_17 := c2 (c1 (c1 k14_8))
noncomputable def k14_18 := c2 (c1 k14_17)
noncomputable def k14_19 := c2 k14_18
noncomputable def k14_20 := c2 (c1 k14_7)
noncomputable def k14_21 := c2 (c1 k14_2)
theorem s14_19 {K1 : (Value × Value × Value) → World → Prop} (hX1 : ∀ e w, (K1 ((e 5), (e 6), (e 7)) w) → Q (.exit 1) e w) (e : Env) (w : World) (h : m14_19 R K1 (e 2) (e 3) (e 5) (e 6) (e 7) w) : W14 k14_19 Q e w := by
  exact exA 1 (hX1 _ _ h)
theorem s14_18 {K1 : (Value × Value × Value) → World → Prop} (hX1 : ∀ e w, (K1 ((e 5), (e 6), (e 7)) w) → Q (.exit 1) e w) (e : Env) (w : World) (h : m14_18 R K1 (e 2) (e 3) (e 5) (e 6) (e 7) w) : W14 k14_18 Q e w := by
  refine seA ?_
  exact rgA 8 (fun e w => m14_19 R K1 (e 2) (e 3) (e 5) (e 6) (e 7) w) h fun e w h => then_N (s14_19 hX1 e w h)
theorem s14_16 {K1 : (Value × Value × Value) → World → Prop} (hX1 : ∀ e w, (K1 ((e 5), (e 6), (e 7)) w) → Q (.exit 1) e w) (e : Env) (w : World) (h : m14_16 R K1 (e 2) (e 3) (e 5) (e 6) (e 7) w) : W14 k14_16 Q e w := by
  exact exA 1 (hX1 _ _ h)
theorem s14_15 {K1 : (Value × Value × Value) → World → Prop} (hX1 : ∀ e w, (K1 ((e 5), (e 6), (e 7)) w) → Q (.exit 1) e w) (e : Env) (w : World) (h : m14_15 R K1 (e 2) (e 3) (e 5) (e 6) (e 7) w) : W14 k14_15 Q e w := by
  refine seA ?_
  exact rgA 11 (fun e w => m14_16 R K1 (e 2) (e 3) (e 5) (e 6) (e 7) w) h fun e w h => then_N (s14_16 hX1 e w h)
theorem s14_12 {K1 : (Value × Value × Value) → World → Prop} (hN : ∀ e w, (K1 ((e 5), (e 6), (e 7)) w) → Q .normal e w) (e : Env) (w : World) (h : m14_12 R K1 (e 2) (e 3) (e 5) (e 6) (e 7) w) : W14 k14_12 Q e w := by
  exact rgA 15 (fun e w => K1 ((e 5), (e 6), (e 7)) w) h hN
theorem s14_11 {K1 : (Value × Value × Value) → World → Prop} (hN : ∀ e w, (K1 ((e 5), (e 6), (e 7)) w) → Q .normal e w) (e : Env) (w : World) (h : m14_11 R K1 (e 2) (e 3) (e 5) (e 6) (e 7) w) : W14 k14_11 Q e w := by
  refine seA ?_
  exact rgA 14 (fun e w => m14_12 R K1 (e 2) (e 3) (e 5) (e 6) (e 7) w) h fun e w h => then_N (s14_12 hN e w h)
theorem s14_13 {K1 : (Value × Value × Value) → World → Prop} (hN : ∀ e w, (m14_11 R K1 (e 2) (e 3) (e 5) (e 6) (e 7) w) → Q .normal e w) (e : Env) (w : World) (h : m14_13 R K1 (e 2) (e 3) (e 5) (e 6) (e 7) (e 143) w) : W14 k14_13 Q e w := by
  refine coA (Operand.tmp 143) h (fun h1 => ?_) (fun h1 => ?_)
  · exact rgA 13 (fun e w => m14_11 R K1 (e 2) (e 3) (e 5) (e 6) (e 7) w) h1 hN
  · exact skA (hN _ _ h1)
theorem s14_10 {K1 : (Value × Value × Value) → World → Prop} (hN : ∀ e w, (K1 ((e 5), (e 6), (e 7)) w) → Q .normal e w) (e : Env) (w : World) (h : m14_10 R K1 (e 2) (e 3) (e 5) (e 6) (e 7) w) : W14 k14_10 Q e w := by
  refine seA ?_
  have hN : ∀ e w, (m14_11 R K1 (e 2) (e 3) (e 5) (e 6) (e 7) w) → (thenE (W14 k14_11 Q) Q) .normal e w := fun e w h => then_N (s14_11 hN e w h)
  refine seA ?_
  have hN : ∀ e w, (m14_13 R K1 (e 2) (e 3) (e 5) (e 6) (e 7) (e 143) w) → (thenE (W14 k14_13 (thenE (W14 k14_11 Q) Q)) (thenE (W14 k14_11 Q) Q)) .normal e w := fun e w h => then_N (s14_13 hN e w h)
  exact quA 12 (fun e w => m14_13 R K1 (e 2) (e 3) (e 5) (e 6) (e 7) (e 143) w) h hN
theorem s14_14 {K1 : (Value × Value × Value) → World → Prop} (hN : ∀ e w, (m14_10 R K1 (e 2) (e 3) (e 5) (e 6) (e 7) w) → Q .normal e w) (hX1 : ∀ e w, (K1 ((e 5), (e 6), (e 7)) w) → Q (.exit 1) e w) (e : Env) (w : World) (h : m14_14 R K1 (e 2) (e 3) (e 5) (e 6) (e 7) (e 121) w) : W14 k14_14 Q e w := by
  refine coA (Operand.tmp 121) h (fun h1 => ?_) (fun h1 => ?_)
  · refine seA ?_
    exact rgA 10 (fun e w => m14_15 R K1 (e 2) (e 3) (e 5) (e 6) (e 7) w) h1 fun e w h => then_N (s14_15 hX1 e w h)
  · exact skA (hN _ _ h1)
theorem s14_9 {K1 : (Value × Value × Value) → World → Prop} (hN : ∀ e w, (K1 ((e 5), (e 6), (e 7)) w) → Q .normal e w) (hX1 : ∀ e w, (K1 ((e 5), (e 6), (e 7)) w) → Q (.exit 1) e w) (e : Env) (w : World) (h : m14_9 R K1 (e 2) (e 3) (e 5) (e 6) (e 7) w) : W14 k14_9 Q e w := by
  refine seA ?_
  have hN : ∀ e w, (m14_10 R K1 (e 2) (e 3) (e 5) (e 6) (e 7) w) → (thenE (W14 k14_10 Q) Q) .normal e w := fun e w h => then_N (s14_10 hN e w h)
  have hX1 : ∀ e w, (K1 ((e 5), (e 6), (e 7)) w) → (thenE (W14 k14_10 Q) Q) (.exit 1) e w := fun e w h => then_X (hX1 e w h)
  refine seA ?_
  have hN : ∀ e w, (m14_14 R K1 (e 2) (e 3) (e 5) (e 6) (e 7) (e 121) w) → (thenE (W14 k14_14 (thenE (W14 k14_10 Q) Q)) (thenE (W14 k14_10 Q) Q)) .normal e w := fun e w h => then_N (s14_14 hN hX1 e w h)
  exact taA 9 16 (fun e w => m14_14 R K1 (e 2) (e 3) (e 5) (e 6) (e 7) (e 121) w) h hN
theorem s14_17 {K1 : (Value × Value × Value) → World → Prop} (hN : ∀ e w, (m14_9 R K1 (e 2) (e 3) (e 5) (e 6) (e 7) w) → Q .normal e w) (hX1 : ∀ e w, (K1 ((e 5), (e 6), (e 7)) w) → Q (.exit 1) e w) (e : Env) (w : World) (h : m14_17 R K1 (e 2) (e 3) (e 5) (e 6) (e 7) (e 84) w) : W14 k14_17 Q e w := by
  refine coA (Operand.tmp 84) h (fun h1 => ?_) (fun h1 => ?_)
  · refine seA ?_
    have hN : ∀ e w, (m14_18 R K1 (e 2) (e 3) (e 5) (e 6) (e 7) w) → (thenE (W14 k14_18 Q) Q) .normal e w := fun e w h => then_N (s14_18 hX1 e w h)
    exact treeJ_ok 7 18 (bt 18 0) (.take 0 (bt 18 1) (.take 1 (bt 18 3) (.take 2 (bt 18 7) (.take 3 (bt 18 15) (.take 4 (bt 18 31) (.take 5 (bt 18 63) (.take 6 (bt 18 127) (.take 7 (bt 18 255) (.take 8 (bt 18 511) (.take 9 (bt 18 1023) (.take 10 (bt 18 2047) (.take 11 (bt 18 4095) (.take 12 (bt 18 8191) (.alt 13 (bt 18 16383) (.take 14 (bt 18 32767) (.alt 15 (bt 18 65535) (.alt 16 (bt 18 131071) (.take 17 (bt 18 262143) .done) .stop) .stop)) .stop)))))))))))))) (fun e w => m14_18 R K1 (e 2) (e 3) (e 5) (e 6) (e 7) w) (by kernel_rfl) (by kernel_rfl) (by kernel_rfl) (by kernel_rfl) (by kernel_rfl) (by kernel_rfl) (kcast (by kernel_rfl) h1) hN (by kernel_rfl)
  · exact skA (hN _ _ h1)
theorem s14_8 {K1 : (Value × Value × Value) → World → Prop} (hN : ∀ e w, (K1 ((e 5), (e 6), (e 7)) w) → Q .normal e w) (e : Env) (w : World) (h : m14_8 R K1 (e 2) (e 3) (e 5) (e 6) (e 7) w) : W14 k14_8 Q e w := by
  refine block_ok 1 (by kernel_rfl) ?_
  have hX1 : ∀ e w, (K1 ((e 5), (e 6), (e 7)) w) → (inBlockE 1 Q) (.exit 1) e w := fun e w h => inBlock_same (Q := Q) 1 (hN e w h)
  have hN : ∀ e w, (K1 ((e 5), (e 6), (e 7)) w) → (inBlockE 1 Q) .normal e w := fun e w h => block_N (hN e w h)
  refine seA ?_
  have hN : ∀ e w, (m14_9 R K1 (e 2) (e 3) (e 5) (e 6) (e 7) w) → (thenE (W14 k14_9 (inBlockE 1 Q)) (inBlockE 1 Q)) .normal e w := fun e w h => then_N (s14_9 (R := R) (Q := (inBlockE 1 Q)) hN hX1 e w h)
  have hX1 : ∀ e w, (K1 ((e 5), (e 6), (e 7)) w) → (thenE (W14 k14_9 (inBlockE 1 Q)) (inBlockE 1 Q)) (.exit 1) e w := fun e w h => then_X (hX1 e w h)
  refine seA ?_
  have hN : ∀ e w, (m14_17 R K1 (e 2) (e 3) (e 5) (e 6) (e 7) (e 84) w) → (thenE (W14 k14_17 (thenE (W14 k14_9 (inBlockE 1 Q)) (inBlockE 1 Q))) (thenE (W14 k14_9 (inBlockE 1 Q)) (inBlockE 1 Q))) .normal e w := fun e w h => then_N (s14_17 hN hX1 e w h)
  exact taA 6 22 (fun e w => m14_17 R K1 (e 2) (e 3) (e 5) (e 6) (e 7) (e 84) w) h hN
abbrev hR14 (R : VP) (Q : EQ) : Prop := ∀ e w, (R (e 4) w) → Q .ret e w
theorem s14_6 (hR : hR14 R Q) (e : Env) (w : World) (h : m14_6 R (e 4) w) : W14 k14_6 Q e w := by
  exact reA (hR _ _ h)
theorem s14_5 (hR : hR14 R Q) (e : Env) (w : World) (h : m14_5 R (e 5) w) : W14 k14_5 Q e w := by
  refine seA ?_
  exact rgA 16 (fun e w => m14_6 R (e 4) w) h fun e w h => then_N (s14_6 hR e w h)
theorem s14_20 {K1 : (Value × Value × Value) → World → Prop} (hN : ∀ e w, (m14_8 R K1 (e 2) (e 3) (e 5) (e 6) (e 7) w) → Q .normal e w) (hX0 : ∀ e w, (m14_5 R (e 5) w) → Q (.exit 0) e w) (e : Env) (w : World) (h : m14_20 R K1 (e 2) (e 3) (e 5) (e 6) (e 7) (e 59) w) : W14 k14_20 Q e w := by
  refine coA (Operand.tmp 59) h (fun h1 => ?_) (fun h1 => ?_)
  · exact skA (hN _ _ h1)
  · exact exA 0 (hX0 _ _ h1)
theorem s14_7 {K1 : (Value × Value × Value) → World → Prop} (hN : ∀ e w, (K1 ((e 5), (e 6), (e 7)) w) → Q .normal e w) (hX0 : ∀ e w, (m14_5 R (e 5) w) → Q (.exit 0) e w) (e : Env) (w : World) (h : m14_7 R K1 (e 2) (e 3) (e 5) (e 6) (e 7) w) : W14 k14_7 Q e w := by
  refine seA ?_
  have hN : ∀ e w, (m14_8 R K1 (e 2) (e 3) (e 5) (e 6) (e 7) w) → (thenE (W14 k14_8 Q) Q) .normal e w := fun e w h => then_N (s14_8 hN e w h)
  have hX0 : ∀ e w, (m14_5 R (e 5) w) → (thenE (W14 k14_8 Q) Q) (.exit 0) e w := fun e w h => then_X (hX0 e w h)
  refine seA ?_
  exact rgA 5 (fun e w => m14_20 R K1 (e 2) (e 3) (e 5) (e 6) (e 7) (e 59) w) h fun e w h => then_N (s14_20 hN hX0 e w h)
theorem s14_4 (hR : hR14 R Q) (e : Env) (w : World) (h : m14_4 R (e 2) (e 3) (e 5) (e 6) (e 7) w) : W14 k14_4 Q e w := by
  refine seA ?_
  have hN : ∀ e w, (m14_5 R (e 5) w) → (thenE (W14 k14_5 Q) Q) .normal e w := fun e w h => then_N (s14_5 hR e w h)
  refine block_ok 0 (by kernel_rfl) ?_
  have hX0 : ∀ e w, (m14_5 R (e 5) w) → (inBlockE 0 (thenE (W14 k14_5 Q) Q)) (.exit 0) e w := fun e w h => inBlock_same (Q := (thenE (W14 k14_5 Q) Q)) 0 (hN e w h)
  refine loop_ok' (fun (e : Env) => (e 5, e 6, e 7)) [2, 3] (by kernel_rfl) (by kernel_rfl) h (fun K e' w' hk h' => ?_)
  have r2 : e' 2 = e 2 := hk 2 (by decide)
  have r3 : e' 3 = e 3 := hk 3 (by decide)
  have hX0 : ∀ e w, (m14_5 R (e 5) w) → (thenE (fun (e : Env) w => K ((e 5), (e 6), (e 7)) w) (inBlockE 0 (thenE (W14 k14_5 Q) Q))) (.exit 0) e w := fun e w h => then_X (hX0 e w h)
  exact s14_7 (K1 := K) (fun _ _ h => then_N h) hX0 e' w' (by rw [r2, r3]; exact h')
theorem s14_3 (hR : hR14 R Q) (e : Env) (w : World) (h : m14_3 R (e 2) (e 3) (e 5) w) : W14 k14_3 Q e w := by
  refine seA ?_
  exact rgA 4 (fun e w => m14_4 R (e 2) (e 3) (e 5) (e 6) (e 7) w) h fun e w h => then_N (s14_4 hR e w h)
theorem s14_21 (hN : ∀ e w, (m14_3 R (e 2) (e 3) (e 5) w) → Q .normal e w) (e : Env) (w : World) (h : m14_21 R (e 2) (e 3) (e 5) (e 33) w) : W14 k14_21 Q e w := by
  refine coA (Operand.tmp 33) h (fun h1 => ?_) (fun h1 => ?_)
  · exact rgA 3 (fun e w => m14_3 R (e 2) (e 3) (e 5) w) h1 hN
  · exact skA (hN _ _ h1)
theorem s14_2 (hR : hR14 R Q) (e : Env) (w : World) (h : m14_2 R (e 2) (e 3) (e 5) w) : W14 k14_2 Q e w := by
  refine seA ?_
  have hN : ∀ e w, (m14_3 R (e 2) (e 3) (e 5) w) → (thenE (W14 k14_3 Q) Q) .normal e w := fun e w h => then_N (s14_3 hR e w h)
  refine seA ?_
  exact rgA 2 (fun e w => m14_21 R (e 2) (e 3) (e 5) (e 33) w) h fun e w h => then_N (s14_21 hN e w h)
theorem s14_1 (hR : hR14 R Q) (e : Env) (w : World) (h : m14_1 R (e 2) (e 3) w) : W14 k14_1 Q e w := by
  refine seA ?_
  exact rgA 1 (fun e w => m14_2 R (e 2) (e 3) (e 5) w) h fun e w h => then_N (s14_2 hR e w h)
theorem s14_0 (hR : hR14 R Q) (e : Env) (w : World) (h : m14_0 R (e 0) (e 1) w) : W14 k14_0 Q e w := by
  refine seA ?_
  exact rgA 0 (fun e w => m14_1 R (e 2) (e 3) w) h fun e w h => then_N (s14_1 hR e w h)
abbrev m14 (R : VP) (old0 now1 : Value) (w : World) : Prop := m14_0 R old0 now1 w
theorem s14 (old0 now1 : Value) {R : VP} {w : World} (h : m14 R old0 now1 w) :
    Calls Try.prog 14 #[old0, now1] w fun e w' => ∃ v, e = .returned v ∧ R v w' :=
  calls_of_cwp (st := (fun i => cond (Nat.beq i 12) 1 (cond (Nat.beq i 9) 18 (cond (Nat.beq i 6) 24 (0))))) (c := k14_0) (by kernel_rfl) Try.func14 (by kernel_rfl) (Nat.le_of_ble_eq_true (by kernel_rfl)) (by kernel_rfl)
    (s14_0 (R := R) (Q := endE Try.prog Try.f14 R) (fun e w h => kcast (by kernel_rfl) h) (argsE #[old0, now1]) w (kcast (by kernel_rfl) h))
end Go.Proofs.Ytnhgdngbdoifnaa.M
namespace Go.Proofs.Ytnhgdngbdoifnaa.M
open Go.Proofs.Ytnhgdngbdoifnaa.F Go.RowKit
set_option linter.unusedVariables false
set_option linter.unusedSimpArgs false
set_option maxRecDepth 100000
set_option maxHeartbeats 2000000
attribute [local irreducible] Res.cells Res.row Res.map Res.any World.cell? World.frozen? Instr.fieldAt Instr.loadAt Instr.storeAt Instr.indexAt Instr.lookup Instr.mapUpdate Instr.box Instr.build Instr.buildSlice Instr.extract Instr.alloc Instr.field Instr.index Instr.sliceAt Instr.makeSlice Instr.makeMap Instr.makeFunc binS Op.unary Sem.run
abbrev rRow (A : Option Addr) (c : Nat) (l : List Rc) : Res := Res.row 46 3 (.slice A l.length c) l.length (l.flatMap encR)
theorem drop_cons {α : Type} {l : List α} {i : Nat} (h : i < l.length) : l.drop i = l[i] :: l.drop (i + 1) := List.drop_eq_getElem_cons h
theorem diff_gone {S T : List Ce} {i k : Nat} (hi : i < S.length) (h : T.length ≤ k ∨ ∃ hk : k < T.length, AheadC S[i] T[k]) : diffL (S.drop i) (T.drop k) = goneR S[i] :: diffL (S.drop (i + 1)) (T.drop k) := by
  rcases h with h | ⟨hk, h⟩
  · rw [drop_cons hi, List.drop_eq_nil_of_le h, diffL]
  · rw [drop_cons hi, drop_cons hk, diffL, if_pos h]
theorem diff_there {S T : List Ce} {i k : Nat} (hk : k < T.length) (h : S.length ≤ i ∨ ∃ hi : i < S.length, ¬ AheadC S[i] T[k] ∧ AheadC T[k] S[i]) : diffL (S.drop i) (T.drop k) = thereR T[k] :: diffL (S.drop i) (T.drop (k + 1)) := by
  rcases h with h | ⟨hi, h1, h⟩
  · rw [drop_cons hk, List.drop_eq_nil_of_le h, diffL]
  · rw [drop_cons hi, drop_cons hk, diffL, if_neg h1, if_pos h]
open Classical in
theorem diff_both {S T : List Ce} {i k : Nat} (hi : i < S.length) (hk : k < T.length) (h1 : ¬ AheadC S[i] T[k]) (h2 : ¬ AheadC T[k] S[i]) : diffL (S.drop i) (T.drop k) = (if S[i] = T[k] then [] else [thereR T[k]]) ++ diffL (S.drop (i + 1)) (T.drop (k + 1)) := by
  rw [drop_cons hi, drop_cons hk, diffL, if_neg h1, if_neg h2]
section
variable {w0 w : World} {F : List Nat} {L : List Res}
theorem there_ret {c : Ce} (hc : CeOk c) (hS : St w0 F w L) : Ret Try.prog 26 #[cev c] w fun v w' => v = rv (thereR c) ∧ St w0 F w' L := by
  have h1 := encA_size hc.2.2
  have h2 := putS_size (n := 1) (by omega)
  refine s26 _ ?_
  unfold m26
  unfold m26_0
  refine new_ok (bx67 _ _ _ _ _ _ _ _ _ _ _ _ _) hS ?_
  intro b1 w hS
  refine new_ok (al46 _) hS ?_
  intro b2 w hS
  unfold m26_1
  first | refine valP_ok (fa67_2 _ _) ?_ | refine valP_ok (fao67_2 _ _ _) ?_
  refine valP_ok (ldA 1 hS rfl) ?_
  refine callR (by kernel_rfl) (encode_ret hc.2.2 hS) ?_
  rintro _ w ⟨⟨e, rfl⟩, hS⟩
  refine valP_ok (extract_ok _ 0 rfl _) ?_
  refine valP_ok (extract_ok _ 1 rfl _) ?_
  unfold m26_2
  refine drawn_ok hS ?_
  intro w hS
  refine held_Hs hS.tail ?_
  first | refine valJ_ok (fa67_0 _) ?_ | refine valJ_ok (fao67_0 _ _) ?_
  first | refine valJ_load ld3 (Hs.cell 0 rfl rfl) ?_ | refine valJ_load ld3 (Hs.cell 1 rfl rfl) ?_ | refine valJ_load ld3 (Hs.cell 2 rfl rfl) ?_ | refine valJ_load ld3 (Hs.cell 3 rfl rfl) ?_ | refine valJ_load ld3 (Hs.cell 4 rfl rfl) ?_ | refine valJ_load ld3 (Hs.cell 5 rfl rfl) ?_ | refine valJ_load ld3 (Hs.cell 6 rfl rfl) ?_ | refine valJ_load ld3 (Hs.cell 7 rfl rfl) ?_ | refine valJ_load ld3 (by assumption) ?_
  first | refine valJ_ok (fa67_1 _) ?_ | refine valJ_ok (fao67_1 _ _) ?_
  first | refine valJ_load ld3 (Hs.cell 0 rfl rfl) ?_ | refine valJ_load ld3 (Hs.cell 1 rfl rfl) ?_ | refine valJ_load ld3 (Hs.cell 2 rfl rfl) ?_ | refine valJ_load ld3 (Hs.cell 3 rfl rfl) ?_ | refine valJ_load ld3 (Hs.cell 4 rfl rfl) ?_ | refine valJ_load ld3 (Hs.cell 5 rfl rfl) ?_ | refine valJ_load ld3 (Hs.cell 6 rfl rfl) ?_ | refine valJ_load ld3 (Hs.cell 7 rfl rfl) ?_ | refine valJ_load ld3 (by assumption) ?_
  refine callR (by kernel_rfl) (rput_ret (by omega) hS) ?_
  rintro _ w ⟨rfl, hS⟩
  refine stay_Hs hS (by first | exact fun _ h => h | exact fun _ h => .tail _ h | exact fun _ h => .tail _ (.tail _ h) | simp) ?_
  refine valJ_ok (fun w => sadd _ _ (by omega) w) ?_
  refine valJ_ok (bd46_0_1_2 rfl rfl rfl) ?_
  first | refine ss46 0 hS rfl rfl rfl rfl ?_ | refine ss46 1 hS rfl rfl rfl rfl ?_ | refine ss46 2 hS rfl rfl rfl rfl ?_ | refine ss46 3 hS rfl rfl rfl rfl ?_ | refine ss46 4 hS rfl rfl rfl rfl ?_ | refine ss46 5 hS rfl rfl rfl rfl ?_ | refine ss46 6 hS rfl rfl rfl rfl ?_ | refine ss46 7 hS rfl rfl rfl rfl ?_
  intro w hS
  simp only [List.set_cons_zero, List.set_cons_succ] at hS
  refine stay_Hs hS (by first | exact fun _ h => h | exact fun _ h => .tail _ h | exact fun _ h => .tail _ (.tail _ h) | simp) ?_
  unfold m26_3
  refine valS_ok (lc46 (hS.cell 0 rfl rfl) (hS.cell 0 rfl rfl) (hS.cell 0 rfl rfl)) ?_
  exact ⟨rfl, hS.tail.tail⟩
def DiffR (s t : Sg) (w0 : World) (F : List Nat) (L : List Res) (v : Value) (w : World) : Prop := ∃ A c, ∃ l : List Rc, v = .slice A l.length c ∧ l = diffS s t ∧ l.length ≤ 129 ∧ St w0 F w (rRow A c l :: L)
section
variable {s t : Sg} {A1 A2 : Option Addr} {c1 c2 b2 b3 : Nat}
abbrev DfL (L : List Res) (s t : Sg) (A1 A2 : Option Addr) (c1 c2 b2 b3 : Nat) : List Res := Res.cells b3 28 (encS t A2 c2) :: Res.cells b2 28 (encS s A1 c1) :: L
def DfI (s t : Sg) (i k : Nat) (rs : List Rc) : Prop := (i ≤ s.L.length ∧ k ≤ t.L.length) ∧ rs.length ≤ 1 + i + k ∧ rs ++ diffL (s.L.drop i) (t.L.drop k) = diffS s t
def DfK (s t : Sg) (w0 : World) (F : List Nat) (L : List Res) (A1 A2 : Option Addr) (c1 c2 b2 b3 n : Nat) (K1 : Value × Value × Value → World → Prop) : Prop :=
  ∀ w i k A c rs, DfI s t i k rs → n < i + k → St w0 F w (rRow A c rs :: DfL L s t A1 A2 c1 c2 b2 b3) → K1 (.slice A rs.length c, .int .i64 (i : Int), .int .i64 (k : Int)) w
variable {i k c : Nat} {A : Option Addr} {rs : List Rc} {K1 : Value × Value × Value → World → Prop}
theorem df_11 (h64 : s.L.length ≤ 64 ∧ t.L.length ≤ 64) (hik : i ≤ 64 ∧ k ≤ 64) (hI : DfI s t (i + 1) (k + 1) rs) (hK : DfK s t w0 F L A1 A2 c1 c2 b2 b3 (i + k) K1) (hS : St w0 F w (rRow A c rs :: DfL L s t A1 A2 c1 c2 b2 b3)) : m14_11 (DiffR s t w0 F L) K1 (.pointer (some ⟨b2, 0, none⟩)) (.pointer (some ⟨b3, 0, none⟩)) (.slice A rs.length c) (.int .i64 (i : Int)) (.int .i64 (k : Int)) w := by
  unfold m14_11
  refine valP_ok (add_ok _ _ _ (by omega) (by omega) _) ?_
  unfold m14_12
  refine valP_ok (add_ok _ _ _ (by omega) (by omega) _) ?_
  exact hK w (i + 1) (k + 1) A c rs hI (by omega) hS
theorem df_put (h64 : s.L.length ≤ 64 ∧ t.L.length ≤ 64) (hi : i ≤ 64 ∧ k ≤ 64) (hr : rs.length ≤ 1 + i + k) {r : Rc} {b : Nat} {K : Value → World → Prop} {cs : Array Bool} (hS : St w0 F w (Res.cells b 46 (encR r) :: rRow A c rs :: DfL L s t A1 A2 c1 c2 b2 b3))
    (h : ∀ A' c' w', St w0 F w' (rRow A' c' (rs ++ [r]) :: DfL L s t A1 A2 c1 c2 b2 b3) → K (.slice A' (rs ++ [r]).length c') w') : builtinP Try.prog .append #[24, 24] 24 cs #[.slice A rs.length c, .slice (some ⟨b, 0, none⟩) 1 1] w K := by
  refine append_one1 (enc := encR) 0 r sl24 encR_len encR_one (by unfold maxLen; omega) (by omega) hS rfl ?_
  intro A' c' w' hS
  simp only [List.set_cons_zero, List.set_cons_succ] at hS
  exact h A' c' w' hS
end
end
section
variable {w0 w : World} {F : List Nat} {L : List Res}
section
variable {s t : Sg} {A1 A2 : Option Addr} {c1 c2 b2 b3 : Nat} {i k c : Nat} {A : Option Addr} {rs : List Rc} {K1 : Value × Value × Value → World → Prop}
theorem up3 {x y z : Res} {A : Option Addr} {c : Nat} {l : List Ce} (h : Sl w0 F L A c l) : Sl w0 F (x :: y :: z :: L) A c l := ((h.cons _).cons _).cons _
theorem DfI.bnd (h : DfI s t i k rs) (h64 : s.L.length ≤ 64 ∧ t.L.length ≤ 64) : i ≤ 64 ∧ k ≤ 64 ∧ rs.length ≤ 1 + i + k := ⟨by have := h.1.1; omega, by have := h.1.2; omega, h.2.1⟩
theorem df_10 (h64 : s.L.length ≤ 64 ∧ t.L.length ≤ 64) (hs : SgOk s) (ht : SgOk t) (hE1 : Sl w0 F L A1 c1 s.L) (hE2 : Sl w0 F L A2 c2 t.L) (hi : i < s.L.length) (hk : k < t.L.length) (h1 : ¬ AheadC s.L[i] t.L[k]) (h2 : ¬ AheadC t.L[k] s.L[i]) (hI : DfI s t i k rs) (hK : DfK s t w0 F L A1 A2 c1 c2 b2 b3 (i + k) K1) (hS : St w0 F w (rRow A c rs :: DfL L s t A1 A2 c1 c2 b2 b3)) : m14_10 (DiffR s t w0 F L) K1 (.pointer (some ⟨b2, 0, none⟩)) (.pointer (some ⟨b3, 0, none⟩)) (.slice A rs.length c) (.int .i64 (i : Int)) (.int .i64 (k : Int)) w := by
  classical
  have hb := hI.bnd h64
  have hc1 := hs.2 _ (List.getElem_mem hi)
  have hc2 := ht.2 _ (List.getElem_mem hk)
  obtain ⟨g1, o1, rfl⟩ := ((up3 hE1).rd.rd hS).some_ (by omega) (by omega)
  obtain ⟨g2, o2, rfl⟩ := ((up3 hE2).rd.rd hS).some_ (by omega) (by omega)
  obtain ⟨q, hq, hrun⟩ := ne67 (.tmp 137) (.tmp 142) hc1 hc2
  have hd := diff_both hi hk h1 h2
  unfold m14_10
  first | refine valQ_ok (fa28_4 _) ?_ | refine valQ_ok (fao28_4 _ _) ?_
  first | refine valQ_load ld26 (hS.cell 0 rfl rfl) ?_ | refine valQ_load ld26 (hS.cell 1 rfl rfl) ?_ | refine valQ_load ld26 (hS.cell 2 rfl rfl) ?_ | refine valQ_load ld26 (hS.cell 3 rfl rfl) ?_ | refine valQ_load ld26 (hS.cell 4 rfl rfl) ?_ | refine valQ_load ld26 (hS.cell 5 rfl rfl) ?_ | refine valQ_load ld26 (hS.cell 6 rfl rfl) ?_ | refine valQ_load ld26 (hS.cell 7 rfl rfl) ?_ | refine valQ_load ld26 (by assumption) ?_
  first | refine valQ_ok (ixz26 (by first | assumption | omega)) ?_ | refine valQ_ok (ix26 (by first | assumption | omega)) ?_
  refine valQ_at (fun n => ldC ((up3 hE1).rd.rd (hS.drewN n)) hi) ?_
  first | refine valQ_ok (fa28_4 _) ?_ | refine valQ_ok (fao28_4 _ _) ?_
  first | refine valQ_load ld26 (hS.cell 0 rfl rfl) ?_ | refine valQ_load ld26 (hS.cell 1 rfl rfl) ?_ | refine valQ_load ld26 (hS.cell 2 rfl rfl) ?_ | refine valQ_load ld26 (hS.cell 3 rfl rfl) ?_ | refine valQ_load ld26 (hS.cell 4 rfl rfl) ?_ | refine valQ_load ld26 (hS.cell 5 rfl rfl) ?_ | refine valQ_load ld26 (hS.cell 6 rfl rfl) ?_ | refine valQ_load ld26 (hS.cell 7 rfl rfl) ?_ | refine valQ_load ld26 (by assumption) ?_
  first | refine valQ_ok (ixz26 (by first | assumption | omega)) ?_ | refine valQ_ok (ix26 (by first | assumption | omega)) ?_
  refine valQ_at (fun n => ldC ((up3 hE2).rd.rd (hS.drewN n)) hk) ?_
  refine valQ_ok hrun ?_
  refine drawn_ok hS ?_
  intro w hS
  unfold m14_13
  cases q with
  | true =>
    have hne := hq.1 rfl
    rw [if_neg hne] at hd
    refine cond_t rfl ?_
    first | refine valP_ok (fa28_4 _ _) ?_ | refine valP_ok (fao28_4 _ _ _) ?_
    first | refine valP_ok (ld26 (hS.cell 0 rfl rfl)) ?_ | refine valP_ok (ld26 (hS.cell 1 rfl rfl)) ?_ | refine valP_ok (ld26 (hS.cell 2 rfl rfl)) ?_ | refine valP_ok (ld26 (hS.cell 3 rfl rfl)) ?_ | refine valP_ok (ld26 (hS.cell 4 rfl rfl)) ?_ | refine valP_ok (ld26 (hS.cell 5 rfl rfl)) ?_ | refine valP_ok (ld26 (hS.cell 6 rfl rfl)) ?_ | refine valP_ok (ld26 (hS.cell 7 rfl rfl)) ?_ | refine valP_ok (ld26 (by assumption)) ?_
    first | refine valP_ok (ixz26 (by first | assumption | omega) _) ?_ | refine valP_ok (ix26 (by first | assumption | omega) _) ?_
    refine valP_ok (ldC ((up3 hE2).rd.rd hS) hk) ?_
    refine callR (by kernel_rfl) (there_ret hc2 hS) ?_
    rintro _ w ⟨rfl, hS⟩
    refine newslice_ok (bs24_1 _) hS ?_
    intro b151 w hS
    refine df_put (i := i) (k := k) h64 ⟨by omega, by omega⟩ (by omega) hS ?_
    intro A' c' w hS
    refine df_11 h64 ⟨by omega, by omega⟩ ⟨⟨by omega, by omega⟩, by rw [List.length_append]; simp; omega, ?_⟩ hK hS
    rw [List.append_assoc, ← hd]
    exact hI.2.2
  | false =>
    have he : s.L[i] = t.L[k] := Classical.byContradiction fun h => by have := hq.2 h; cases this
    rw [if_pos he, List.nil_append] at hd
    refine cond_f rfl ?_
    exact df_11 h64 ⟨by omega, by omega⟩ ⟨⟨by omega, by omega⟩, by omega, by rw [← hd]; exact hI.2.2⟩ hK hS
theorem df_14 (h64 : s.L.length ≤ 64 ∧ t.L.length ≤ 64) (hs : SgOk s) (ht : SgOk t) (hE1 : Sl w0 F L A1 c1 s.L) (hE2 : Sl w0 F L A2 c2 t.L) (hI : DfI s t i k rs) (hK : DfK s t w0 F L A1 A2 c1 c2 b2 b3 (i + k) K1) (hS : St w0 F w (rRow A c rs :: DfL L s t A1 A2 c1 c2 b2 b3)) (q : Bool) (hk : k < t.L.length) (hq1 : q = true → s.L.length ≤ i ∨ ∃ hi : i < s.L.length, ¬ AheadC s.L[i] t.L[k] ∧ AheadC t.L[k] s.L[i]) (hq2 : q = false → ∃ hi : i < s.L.length, ¬ AheadC s.L[i] t.L[k] ∧ ¬ AheadC t.L[k] s.L[i]) : m14_14 (DiffR s t w0 F L) K1 (.pointer (some ⟨b2, 0, none⟩)) (.pointer (some ⟨b3, 0, none⟩)) (.slice A rs.length c) (.int .i64 (i : Int)) (.int .i64 (k : Int)) (.bool q) w := by
  unfold m14_14
  cases q with
  | true =>
    have hb := hI.bnd h64
    have hc2 := ht.2 _ (List.getElem_mem hk)
    obtain ⟨g2, o2, rfl⟩ := ((up3 hE2).rd.rd hS).some_ (by omega) (by omega)
    have hd := diff_there hk (hq1 rfl)
    refine cond_t rfl ?_
    first | refine valP_ok (fa28_4 _ _) ?_ | refine valP_ok (fao28_4 _ _ _) ?_
    first | refine valP_ok (ld26 (hS.cell 0 rfl rfl)) ?_ | refine valP_ok (ld26 (hS.cell 1 rfl rfl)) ?_ | refine valP_ok (ld26 (hS.cell 2 rfl rfl)) ?_ | refine valP_ok (ld26 (hS.cell 3 rfl rfl)) ?_ | refine valP_ok (ld26 (hS.cell 4 rfl rfl)) ?_ | refine valP_ok (ld26 (hS.cell 5 rfl rfl)) ?_ | refine valP_ok (ld26 (hS.cell 6 rfl rfl)) ?_ | refine valP_ok (ld26 (hS.cell 7 rfl rfl)) ?_ | refine valP_ok (ld26 (by assumption)) ?_
    first | refine valP_ok (ixz26 (by first | assumption | omega) _) ?_ | refine valP_ok (ix26 (by first | assumption | omega) _) ?_
    refine valP_ok (ldC ((up3 hE2).rd.rd hS) hk) ?_
    refine callR (by kernel_rfl) (there_ret hc2 hS) ?_
    rintro _ w ⟨rfl, hS⟩
    refine newslice_ok (bs24_1 _) hS ?_
    intro b129 w hS
    refine df_put (i := i) (k := k) h64 ⟨by omega, by omega⟩ (by omega) hS ?_
    intro A' c' w hS
    unfold m14_15
    refine valP_ok (add_ok _ _ _ (by omega) (by omega) _) ?_
    unfold m14_16
    refine hK w i (k + 1) _ _ _ ⟨⟨hI.1.1, by omega⟩, by rw [List.length_append]; simp; omega, ?_⟩ (by omega) hS
    rw [List.append_assoc, List.singleton_append, ← hd]
    exact hI.2.2
  | false =>
    obtain ⟨hi, h1, h2⟩ := hq2 rfl
    refine cond_f rfl ?_
    exact df_10 h64 hs ht hE1 hE2 hi hk h1 h2 hI hK hS
theorem df_9 (h64 : s.L.length ≤ 64 ∧ t.L.length ≤ 64) (hs : SgOk s) (ht : SgOk t) (hE1 : Sl w0 F L A1 c1 s.L) (hE2 : Sl w0 F L A2 c2 t.L) (hI : DfI s t i k rs) (hK : DfK s t w0 F L A1 A2 c1 c2 b2 b3 (i + k) K1) (hS : St w0 F w (rRow A c rs :: DfL L s t A1 A2 c1 c2 b2 b3)) (hk : k < t.L.length) (h : s.L.length ≤ i ∨ ∃ hi : i < s.L.length, ¬ AheadC s.L[i] t.L[k]) : m14_9 (DiffR s t w0 F L) K1 (.pointer (some ⟨b2, 0, none⟩)) (.pointer (some ⟨b3, 0, none⟩)) (.slice A rs.length c) (.int .i64 (i : Int)) (.int .i64 (k : Int)) w := by
  have hb := hI.bnd h64
  unfold m14_9
  refine drawn_ok hS ?_
  intro w hS
  first | refine valS_ok (fa28_4 _ _) ?_ | refine valS_ok (fao28_4 _ _ _) ?_
  first | refine valS_ok (ld26 (hS.cell 0 rfl rfl)) ?_ | refine valS_ok (ld26 (hS.cell 1 rfl rfl)) ?_ | refine valS_ok (ld26 (hS.cell 2 rfl rfl)) ?_ | refine valS_ok (ld26 (hS.cell 3 rfl rfl)) ?_ | refine valS_ok (ld26 (hS.cell 4 rfl rfl)) ?_ | refine valS_ok (ld26 (hS.cell 5 rfl rfl)) ?_ | refine valS_ok (ld26 (hS.cell 6 rfl rfl)) ?_ | refine valS_ok (ld26 (hS.cell 7 rfl rfl)) ?_ | refine valS_ok (ld26 (by assumption)) ?_
  refine builtinS_ok (len26 _) ?_
  refine valS_ok (eq3 _ _ _ _ _) ?_
  refine cond_split (fun he => ?_) (fun he => ?_)
  · first | refine pick_dt (by first | assumption | omega) ?_ | refine pick_df (by first | assumption | omega) ?_ | refine pick_t (by first | rfl | assumption) ?_ | refine pick_f (by first | rfl | assumption) ?_ | refine pick_dt rfl ?_ | refine pick_df (not_not_intro rfl) ?_
    exact df_14 h64 hs ht hE1 hE2 hI hK hS true hk (fun _ => .inl (by omega)) (fun h => (by cases h))
  · obtain ⟨hi, h1⟩ : ∃ hi : i < s.L.length, ¬ AheadC s.L[i] t.L[k] := h.resolve_left (by have := hI.1.1; omega)
    obtain ⟨g1, o1, rfl⟩ := ((up3 hE1).rd.rd hS).some_ (by omega) (by omega)
    obtain ⟨g2, o2, rfl⟩ := ((up3 hE2).rd.rd hS).some_ (by omega) (by omega)
    first | refine valS_ok (fa28_4 _ _) ?_ | refine valS_ok (fao28_4 _ _ _) ?_
    first | refine valS_ok (ld26 (hS.cell 0 rfl rfl)) ?_ | refine valS_ok (ld26 (hS.cell 1 rfl rfl)) ?_ | refine valS_ok (ld26 (hS.cell 2 rfl rfl)) ?_ | refine valS_ok (ld26 (hS.cell 3 rfl rfl)) ?_ | refine valS_ok (ld26 (hS.cell 4 rfl rfl)) ?_ | refine valS_ok (ld26 (hS.cell 5 rfl rfl)) ?_ | refine valS_ok (ld26 (hS.cell 6 rfl rfl)) ?_ | refine valS_ok (ld26 (hS.cell 7 rfl rfl)) ?_ | refine valS_ok (ld26 (by assumption)) ?_
    first | refine valS_ok (ixz26 (by first | assumption | omega) _) ?_ | refine valS_ok (ix26 (by first | assumption | omega) _) ?_
    refine valS_ok (ldC ((up3 hE2).rd.rd hS) hk) ?_
    first | refine valS_ok (fa28_4 _ _) ?_ | refine valS_ok (fao28_4 _ _ _) ?_
    first | refine valS_ok (ld26 (hS.cell 0 rfl rfl)) ?_ | refine valS_ok (ld26 (hS.cell 1 rfl rfl)) ?_ | refine valS_ok (ld26 (hS.cell 2 rfl rfl)) ?_ | refine valS_ok (ld26 (hS.cell 3 rfl rfl)) ?_ | refine valS_ok (ld26 (hS.cell 4 rfl rfl)) ?_ | refine valS_ok (ld26 (hS.cell 5 rfl rfl)) ?_ | refine valS_ok (ld26 (hS.cell 6 rfl rfl)) ?_ | refine valS_ok (ld26 (hS.cell 7 rfl rfl)) ?_ | refine valS_ok (ld26 (by assumption)) ?_
    first | refine valS_ok (ixz26 (by first | assumption | omega) _) ?_ | refine valS_ok (ix26 (by first | assumption | omega) _) ?_
    refine valS_ok (ldC ((up3 hE1).rd.rd hS) hi) ?_
    refine callR (by kernel_rfl) (ahead_ret hS) ?_
    rintro _ w ⟨rfl, hS⟩
    first | refine pick_dt (by first | assumption | omega) ?_ | refine pick_df (by first | assumption | omega) ?_ | refine pick_t (by first | rfl | assumption) ?_ | refine pick_f (by first | rfl | assumption) ?_ | refine pick_dt rfl ?_ | refine pick_df (not_not_intro rfl) ?_
    exact df_14 h64 hs ht hE1 hE2 hI hK hS _ hk (fun h => .inr ⟨hi, h1, of_decide_eq_true h⟩) (fun h => ⟨hi, h1, of_decide_eq_false h⟩)
theorem df_17 (h64 : s.L.length ≤ 64 ∧ t.L.length ≤ 64) (hs : SgOk s) (ht : SgOk t) (hE1 : Sl w0 F L A1 c1 s.L) (hE2 : Sl w0 F L A2 c2 t.L) (hI : DfI s t i k rs) (hK : DfK s t w0 F L A1 A2 c1 c2 b2 b3 (i + k) K1) (hS : St w0 F w (rRow A c rs :: DfL L s t A1 A2 c1 c2 b2 b3)) (q : Bool) (hq1 : q = true → ∃ hi : i < s.L.length, t.L.length ≤ k ∨ ∃ hk : k < t.L.length, AheadC s.L[i] t.L[k]) (hq2 : q = false → ∃ hk : k < t.L.length, s.L.length ≤ i ∨ ∃ hi : i < s.L.length, ¬ AheadC s.L[i] t.L[k]) : m14_17 (DiffR s t w0 F L) K1 (.pointer (some ⟨b2, 0, none⟩)) (.pointer (some ⟨b3, 0, none⟩)) (.slice A rs.length c) (.int .i64 (i : Int)) (.int .i64 (k : Int)) (.bool q) w := by
  unfold m14_17
  cases q with
  | true =>
    obtain ⟨hi, h⟩ := hq1 rfl
    have hb := hI.bnd h64
    have hc1 := hs.2 _ (List.getElem_mem hi)
    obtain ⟨g1, o1, rfl⟩ := ((up3 hE1).rd.rd hS).some_ (by omega) (by omega)
    have hd := diff_gone hi h
    refine cond_t rfl ?_
    refine drawn_ok hS ?_
    intro w hS
    refine held_Hs hS.tail ?_
    have hE1' : Sl w0 F (DfL L s t (some ⟨g1, o1, none⟩) A2 c1 c2 b2 b3) (some ⟨g1, o1, none⟩) c1 s.L := (hE1.cons _).cons _
    have p := fun w (hw : Hs w0 F (DfL L s t (some ⟨g1, o1, none⟩) A2 c1 c2 b2 b3) w) j hj v hv => c_at (v := v) (Hs.rd hE1'.rd w hw) hi j hj hv
    first | refine valJ_ok (fa28_4 _) ?_ | refine valJ_ok (fao28_4 _ _) ?_
    first | refine valJ_load ld26 (Hs.cell 0 rfl rfl) ?_ | refine valJ_load ld26 (Hs.cell 1 rfl rfl) ?_ | refine valJ_load ld26 (Hs.cell 2 rfl rfl) ?_ | refine valJ_load ld26 (Hs.cell 3 rfl rfl) ?_ | refine valJ_load ld26 (Hs.cell 4 rfl rfl) ?_ | refine valJ_load ld26 (Hs.cell 5 rfl rfl) ?_ | refine valJ_load ld26 (Hs.cell 6 rfl rfl) ?_ | refine valJ_load ld26 (Hs.cell 7 rfl rfl) ?_ | refine valJ_load ld26 (by assumption) ?_
    refine valJ_ok (fun w => ix26 hi w) ?_
    refine valJ_ok (fun w => fao67_0 _ _ w) ?_
    refine valJ_at (fun w hw => ld3 (p w hw 0 (by omega) _ rfl)) ?_
    first | refine valJ_ok (fa28_4 _) ?_ | refine valJ_ok (fao28_4 _ _) ?_
    first | refine valJ_load ld26 (Hs.cell 0 rfl rfl) ?_ | refine valJ_load ld26 (Hs.cell 1 rfl rfl) ?_ | refine valJ_load ld26 (Hs.cell 2 rfl rfl) ?_ | refine valJ_load ld26 (Hs.cell 3 rfl rfl) ?_ | refine valJ_load ld26 (Hs.cell 4 rfl rfl) ?_ | refine valJ_load ld26 (Hs.cell 5 rfl rfl) ?_ | refine valJ_load ld26 (Hs.cell 6 rfl rfl) ?_ | refine valJ_load ld26 (Hs.cell 7 rfl rfl) ?_ | refine valJ_load ld26 (by assumption) ?_
    refine valJ_ok (fun w => ix26 hi w) ?_
    refine valJ_ok (fun w => fao67_1 _ _ w) ?_
    refine valJ_at (fun w hw => ld3 (p w hw 1 (by omega) _ rfl)) ?_
    refine callR (by kernel_rfl) (rput_ret (by omega) hS) ?_
    rintro _ w ⟨rfl, hS⟩
    refine stay_Hs hS (fun _ h => .tail _ h) ?_
    refine valJ_ok (bd46_0_1_2 rfl rfl rfl) ?_
    refine newslice_ok (bs24_1 _) hS ?_
    intro b100 w hS
    refine stay_Hs hS (fun _ h => .tail _ (.tail _ h)) ?_
    refine df_put (i := i) (k := k) (r := goneR s.L[i]) h64 ⟨by omega, by omega⟩ (by omega) hS ?_
    intro A' c' w hS
    refine stay_Hs hS (fun _ h => .tail _ h) ?_
    unfold m14_18
    refine valP_ok (add_ok _ _ _ (by omega) (by omega) _) ?_
    unfold m14_19
    refine hK w (i + 1) k _ _ _ ⟨⟨by omega, hI.1.2⟩, by rw [List.length_append]; simp; omega, ?_⟩ (by omega) hS
    rw [List.append_assoc, List.singleton_append, ← hd]
    exact hI.2.2
  | false =>
    obtain ⟨hk, h⟩ := hq2 rfl
    refine cond_f rfl ?_
    exact df_9 h64 hs ht hE1 hE2 hI hK hS hk h
theorem df_8 (h64 : s.L.length ≤ 64 ∧ t.L.length ≤ 64) (hs : SgOk s) (ht : SgOk t) (hE1 : Sl w0 F L A1 c1 s.L) (hE2 : Sl w0 F L A2 c2 t.L) (hI : DfI s t i k rs) (hK : DfK s t w0 F L A1 A2 c1 c2 b2 b3 (i + k) K1) (hS : St w0 F w (rRow A c rs :: DfL L s t A1 A2 c1 c2 b2 b3)) (h : i < s.L.length ∨ k < t.L.length) : m14_8 (DiffR s t w0 F L) K1 (.pointer (some ⟨b2, 0, none⟩)) (.pointer (some ⟨b3, 0, none⟩)) (.slice A rs.length c) (.int .i64 (i : Int)) (.int .i64 (k : Int)) w := by
  have hb := hI.bnd h64
  unfold m14_8
  refine drawn_ok hS ?_
  intro w hS
  first | refine valS_ok (fa28_4 _ _) ?_ | refine valS_ok (fao28_4 _ _ _) ?_
  first | refine valS_ok (ld26 (hS.cell 0 rfl rfl)) ?_ | refine valS_ok (ld26 (hS.cell 1 rfl rfl)) ?_ | refine valS_ok (ld26 (hS.cell 2 rfl rfl)) ?_ | refine valS_ok (ld26 (hS.cell 3 rfl rfl)) ?_ | refine valS_ok (ld26 (hS.cell 4 rfl rfl)) ?_ | refine valS_ok (ld26 (hS.cell 5 rfl rfl)) ?_ | refine valS_ok (ld26 (hS.cell 6 rfl rfl)) ?_ | refine valS_ok (ld26 (hS.cell 7 rfl rfl)) ?_ | refine valS_ok (ld26 (by assumption)) ?_
  refine builtinS_ok (len26 _) ?_
  refine valS_ok (eq3 _ _ _ _ _) ?_
  refine cond_split (fun he => ?_) (fun he => ?_)
  · first | refine pick_dt (by first | assumption | omega) ?_ | refine pick_df (by first | assumption | omega) ?_ | refine pick_t (by first | rfl | assumption) ?_ | refine pick_f (by first | rfl | assumption) ?_ | refine pick_dt rfl ?_ | refine pick_df (not_not_intro rfl) ?_
    exact df_17 h64 hs ht hE1 hE2 hI hK hS true (fun _ => ⟨by omega, .inl (by omega)⟩) (fun h => (by cases h))
  · have hk : k < t.L.length := by have := hI.1.2; omega
    first | refine valS_ok (fa28_4 _ _) ?_ | refine valS_ok (fao28_4 _ _ _) ?_
    first | refine valS_ok (ld26 (hS.cell 0 rfl rfl)) ?_ | refine valS_ok (ld26 (hS.cell 1 rfl rfl)) ?_ | refine valS_ok (ld26 (hS.cell 2 rfl rfl)) ?_ | refine valS_ok (ld26 (hS.cell 3 rfl rfl)) ?_ | refine valS_ok (ld26 (hS.cell 4 rfl rfl)) ?_ | refine valS_ok (ld26 (hS.cell 5 rfl rfl)) ?_ | refine valS_ok (ld26 (hS.cell 6 rfl rfl)) ?_ | refine valS_ok (ld26 (hS.cell 7 rfl rfl)) ?_ | refine valS_ok (ld26 (by assumption)) ?_
    refine builtinS_ok (len26 _) ?_
    refine valS_ok (lss_ok _ _ _ _ _ _ _) ?_
    refine cond_split (fun he2 => ?_) (fun he2 => ?_)
    · have hi : i < s.L.length := by omega
      obtain ⟨g1, o1, rfl⟩ := ((up3 hE1).rd.rd hS).some_ (by omega) (by omega)
      obtain ⟨g2, o2, rfl⟩ := ((up3 hE2).rd.rd hS).some_ (by omega) (by omega)
      first | refine valS_ok (fa28_4 _ _) ?_ | refine valS_ok (fao28_4 _ _ _) ?_
      first | refine valS_ok (ld26 (hS.cell 0 rfl rfl)) ?_ | refine valS_ok (ld26 (hS.cell 1 rfl rfl)) ?_ | refine valS_ok (ld26 (hS.cell 2 rfl rfl)) ?_ | refine valS_ok (ld26 (hS.cell 3 rfl rfl)) ?_ | refine valS_ok (ld26 (hS.cell 4 rfl rfl)) ?_ | refine valS_ok (ld26 (hS.cell 5 rfl rfl)) ?_ | refine valS_ok (ld26 (hS.cell 6 rfl rfl)) ?_ | refine valS_ok (ld26 (hS.cell 7 rfl rfl)) ?_ | refine valS_ok (ld26 (by assumption)) ?_
      first | refine valS_ok (ixz26 (by first | assumption | omega) _) ?_ | refine valS_ok (ix26 (by first | assumption | omega) _) ?_
      refine valS_ok (ldC ((up3 hE1).rd.rd hS) hi) ?_
      first | refine valS_ok (fa28_4 _ _) ?_ | refine valS_ok (fao28_4 _ _ _) ?_
      first | refine valS_ok (ld26 (hS.cell 0 rfl rfl)) ?_ | refine valS_ok (ld26 (hS.cell 1 rfl rfl)) ?_ | refine valS_ok (ld26 (hS.cell 2 rfl rfl)) ?_ | refine valS_ok (ld26 (hS.cell 3 rfl rfl)) ?_ | refine valS_ok (ld26 (hS.cell 4 rfl rfl)) ?_ | refine valS_ok (ld26 (hS.cell 5 rfl rfl)) ?_ | refine valS_ok (ld26 (hS.cell 6 rfl rfl)) ?_ | refine valS_ok (ld26 (hS.cell 7 rfl rfl)) ?_ | refine valS_ok (ld26 (by assumption)) ?_
      first | refine valS_ok (ixz26 (by first | assumption | omega) _) ?_ | refine valS_ok (ix26 (by first | assumption | omega) _) ?_
      refine valS_ok (ldC ((up3 hE2).rd.rd hS) hk) ?_
      refine callR (by kernel_rfl) (ahead_ret hS) ?_
      rintro _ w ⟨rfl, hS⟩
      first | refine pick_dt (by first | assumption | omega) ?_ | refine pick_df (by first | assumption | omega) ?_ | refine pick_t (by first | rfl | assumption) ?_ | refine pick_f (by first | rfl | assumption) ?_ | refine pick_dt rfl ?_ | refine pick_df (not_not_intro rfl) ?_
      first | refine pick_dt (by first | assumption | omega) ?_ | refine pick_df (by first | assumption | omega) ?_ | refine pick_t (by first | rfl | assumption) ?_ | refine pick_f (by first | rfl | assumption) ?_ | refine pick_dt rfl ?_ | refine pick_df (not_not_intro rfl) ?_
      exact df_17 h64 hs ht hE1 hE2 hI hK hS _ (fun h => ⟨hi, .inr ⟨hk, of_decide_eq_true h⟩⟩) (fun h => ⟨hk, .inr ⟨hi, of_decide_eq_false h⟩⟩)
    · first | refine pick_dt (by first | assumption | omega) ?_ | refine pick_df (by first | assumption | omega) ?_ | refine pick_t (by first | rfl | assumption) ?_ | refine pick_f (by first | rfl | assumption) ?_ | refine pick_dt rfl ?_ | refine pick_df (not_not_intro rfl) ?_
      first | refine pick_dt (by first | assumption | omega) ?_ | refine pick_df (by first | assumption | omega) ?_ | refine pick_t (by first | rfl | assumption) ?_ | refine pick_f (by first | rfl | assumption) ?_ | refine pick_dt rfl ?_ | refine pick_df (not_not_intro rfl) ?_
      exact df_17 h64 hs ht hE1 hE2 hI hK hS false (fun h => (by cases h)) (fun _ => ⟨hk, .inl (by omega)⟩)
end
section
variable {s t : Sg} {A1 A2 : Option Addr} {c1 c2 b2 b3 : Nat}
theorem df_3 {c : Nat} {A : Option Addr} {rs : List Rc} (h64 : s.L.length ≤ 64 ∧ t.L.length ≤ 64) (hs : SgOk s) (ht : SgOk t) (hE1 : Sl w0 F L A1 c1 s.L) (hE2 : Sl w0 F L A2 c2 t.L) (hI : DfI s t 0 0 rs) (hS : St w0 F w (rRow A c rs :: DfL L s t A1 A2 c1 c2 b2 b3)) : m14_3 (DiffR s t w0 F L) (.pointer (some ⟨b2, 0, none⟩)) (.pointer (some ⟨b3, 0, none⟩)) (.slice A rs.length c) w := by
  unfold m14_3 m14_4
  refine loop_in (fun u w' => ∃ (i k : Nat) (A : Option Addr) (c : Nat) (rs : List Rc), u = (.slice A rs.length c, .int .i64 (i : Int), .int .i64 (k : Int)) ∧ DfI s t i k rs ∧ St w0 F w' (rRow A c rs :: DfL L s t A1 A2 c1 c2 b2 b3)) (fun u _ => 128 - ((intOf u.2.1).toNat + (intOf u.2.2).toNat)) ⟨0, 0, A, c, rs, rfl, hI, hS⟩ ?_
  clear hS hI
  rintro u w ⟨i, k, A, c, rs, rfl, hI, hS⟩
  simp only
  have hb := hI.bnd h64
  have leaf : ∀ (K1 : Value × Value × Value → World → Prop), DfK s t w0 F L A1 A2 c1 c2 b2 b3 (i + k) K1 → ∀ q : Bool, (q = true ↔ (i < s.L.length ∨ k < t.L.length)) → m14_20 (DiffR s t w0 F L) K1 (.pointer (some ⟨b2, 0, none⟩)) (.pointer (some ⟨b3, 0, none⟩)) (.slice A rs.length c) (.int .i64 (i : Int)) (.int .i64 (k : Int)) (.bool q) w := fun K1 hK q hq => by
    unfold m14_20
    cases q with
    | true =>
      refine cond_t rfl ?_
      exact df_8 h64 hs ht hE1 hE2 hI hK hS (hq.1 rfl)
    | false =>
      have hn : ¬ (i < s.L.length ∨ k < t.L.length) := fun h => by have := hq.2 h; cases this
      refine cond_f rfl ?_
      unfold m14_5 m14_6
      refine ⟨A, c, rs, rfl, ?_, by omega, St.mid (A := [_]) (B := [_, _]) hS⟩
      have := hI.2.2
      rw [List.drop_eq_nil_of_le (by omega), List.drop_eq_nil_of_le (by omega), diffL, List.append_nil] at this
      exact this
  have hK : ∀ (K1 : Value × Value × Value → World → Prop), (∀ (i2 k2 : Nat) (A : Option Addr) (c : Nat) (rs : List Rc) w, DfI s t i2 k2 rs → i + k < i2 + k2 → St w0 F w (rRow A c rs :: DfL L s t A1 A2 c1 c2 b2 b3) → K1 (.slice A rs.length c, .int .i64 (i2 : Int), .int .i64 (k2 : Int)) w) → DfK s t w0 F L A1 A2 c1 c2 b2 b3 (i + k) K1 := fun K1 h w i2 k2 A c rs hI hlt hS => h i2 k2 A c rs w hI hlt hS
  unfold m14_7
  first | refine valP_ok (fa28_4 _ _) ?_ | refine valP_ok (fao28_4 _ _ _) ?_
  first | refine valP_ok (ld26 (hS.cell 0 rfl rfl)) ?_ | refine valP_ok (ld26 (hS.cell 1 rfl rfl)) ?_ | refine valP_ok (ld26 (hS.cell 2 rfl rfl)) ?_ | refine valP_ok (ld26 (hS.cell 3 rfl rfl)) ?_ | refine valP_ok (ld26 (hS.cell 4 rfl rfl)) ?_ | refine valP_ok (ld26 (hS.cell 5 rfl rfl)) ?_ | refine valP_ok (ld26 (hS.cell 6 rfl rfl)) ?_ | refine valP_ok (ld26 (hS.cell 7 rfl rfl)) ?_ | refine valP_ok (ld26 (by assumption)) ?_
  refine builtin_ok (len26 _) ?_
  refine valP_ok (lss_ok _ _ _ _ _ _ _) ?_
  refine cond_split (fun h1 => ?_) (fun h1 => ?_)
  · first | refine pick_dt (by first | assumption | omega) ?_ | refine pick_df (by first | assumption | omega) ?_ | refine pick_t (by first | rfl | assumption) ?_ | refine pick_f (by first | rfl | assumption) ?_ | refine pick_dt rfl ?_ | refine pick_df (not_not_intro rfl) ?_
    refine leaf _ (hK _ fun i2 k2 A c rs w hI2 hlt hS => ⟨⟨i2, k2, A, c, rs, rfl, hI2, hS⟩, ?_⟩) true ⟨fun _ => .inl (by omega), fun _ => rfl⟩
    have := hI2.bnd h64
    simp [intOf]
    omega
  · first | refine valP_ok (fa28_4 _ _) ?_ | refine valP_ok (fao28_4 _ _ _) ?_
    first | refine valP_ok (ld26 (hS.cell 0 rfl rfl)) ?_ | refine valP_ok (ld26 (hS.cell 1 rfl rfl)) ?_ | refine valP_ok (ld26 (hS.cell 2 rfl rfl)) ?_ | refine valP_ok (ld26 (hS.cell 3 rfl rfl)) ?_ | refine valP_ok (ld26 (hS.cell 4 rfl rfl)) ?_ | refine valP_ok (ld26 (hS.cell 5 rfl rfl)) ?_ | refine valP_ok (ld26 (hS.cell 6 rfl rfl)) ?_ | refine valP_ok (ld26 (hS.cell 7 rfl rfl)) ?_ | refine valP_ok (ld26 (by assumption)) ?_
    refine builtin_ok (len26 _) ?_
    refine valP_ok (lss_ok _ _ _ _ _ _ _) ?_
    first | refine pick_dt (by first | assumption | omega) ?_ | refine pick_df (by first | assumption | omega) ?_ | refine pick_t (by first | rfl | assumption) ?_ | refine pick_f (by first | rfl | assumption) ?_ | refine pick_dt rfl ?_ | refine pick_df (not_not_intro rfl) ?_
    refine leaf _ (hK _ fun i2 k2 A c rs w hI2 hlt hS => ⟨⟨i2, k2, A, c, rs, rfl, hI2, hS⟩, ?_⟩) _ (by rw [decide_eq_true_eq]; omega)
    have := hI2.bnd h64
    simp [intOf]
    omega
theorem diff_ret (h64 : s.L.length ≤ 64 ∧ t.L.length ≤ 64) (hs : SgOk s) (ht : SgOk t) (hE1 : Sl w0 F L A1 c1 s.L) (hE2 : Sl w0 F L A2 c2 t.L) (hS : St w0 F w L) : Ret Try.prog 14 #[sgv s A1 c1, sgv t A2 c2] w (DiffR s t w0 F L) := by
  classical
  refine s14 _ _ ?_
  unfold m14
  unfold m14_0
  refine new_ok (bx28 _ _ _ _ _ _) hS ?_
  intro b2 w hS
  refine new_ok (bx28 _ _ _ _ _ _) hS ?_
  intro b3 w hS
  unfold m14_1
  have hS := hS.row_nil 46 3
  have leaf : ∀ q : Bool, (q = true ↔ (¬ s.mark = t.mark ∨ ¬ s.late = t.late ∨ ¬ s.bad = t.bad ∨ ¬ s.n = t.n)) → m14_21 (DiffR s t w0 F L) (.pointer (some ⟨b2, 0, none⟩)) (.pointer (some ⟨b3, 0, none⟩)) (.slice none 0 0) (.bool q) w := fun q hq => by
    unfold m14_21
    cases q with
    | true =>
      have hd : diffS s t = headR t :: diffL s.L t.L := by unfold diffS; rw [if_pos (hq.1 rfl)]; rfl
      refine cond_t rfl ?_
      first | refine valP_ok (fa28_0 _ _) ?_ | refine valP_ok (fao28_0 _ _ _) ?_
      first | refine valP_ok (ld3 (hS.cell 0 rfl rfl)) ?_ | refine valP_ok (ld3 (hS.cell 1 rfl rfl)) ?_ | refine valP_ok (ld3 (hS.cell 2 rfl rfl)) ?_ | refine valP_ok (ld3 (hS.cell 3 rfl rfl)) ?_ | refine valP_ok (ld3 (hS.cell 4 rfl rfl)) ?_ | refine valP_ok (ld3 (hS.cell 5 rfl rfl)) ?_ | refine valP_ok (ld3 (hS.cell 6 rfl rfl)) ?_ | refine valP_ok (ld3 (hS.cell 7 rfl rfl)) ?_ | refine valP_ok (ld3 (by assumption)) ?_
      first | refine valP_ok (fa28_1 _ _) ?_ | refine valP_ok (fao28_1 _ _ _) ?_
      first | refine valP_ok (ld3 (hS.cell 0 rfl rfl)) ?_ | refine valP_ok (ld3 (hS.cell 1 rfl rfl)) ?_ | refine valP_ok (ld3 (hS.cell 2 rfl rfl)) ?_ | refine valP_ok (ld3 (hS.cell 3 rfl rfl)) ?_ | refine valP_ok (ld3 (hS.cell 4 rfl rfl)) ?_ | refine valP_ok (ld3 (hS.cell 5 rfl rfl)) ?_ | refine valP_ok (ld3 (hS.cell 6 rfl rfl)) ?_ | refine valP_ok (ld3 (hS.cell 7 rfl rfl)) ?_ | refine valP_ok (ld3 (by assumption)) ?_
      first | refine valP_ok (fa28_2 _ _) ?_ | refine valP_ok (fao28_2 _ _ _) ?_
      first | refine valP_ok (ld3 (hS.cell 0 rfl rfl)) ?_ | refine valP_ok (ld3 (hS.cell 1 rfl rfl)) ?_ | refine valP_ok (ld3 (hS.cell 2 rfl rfl)) ?_ | refine valP_ok (ld3 (hS.cell 3 rfl rfl)) ?_ | refine valP_ok (ld3 (hS.cell 4 rfl rfl)) ?_ | refine valP_ok (ld3 (hS.cell 5 rfl rfl)) ?_ | refine valP_ok (ld3 (hS.cell 6 rfl rfl)) ?_ | refine valP_ok (ld3 (hS.cell 7 rfl rfl)) ?_ | refine valP_ok (ld3 (by assumption)) ?_
      first | refine valP_ok (fa28_3 _ _) ?_ | refine valP_ok (fao28_3 _ _ _) ?_
      first | refine valP_ok (ld3 (hS.cell 0 rfl rfl)) ?_ | refine valP_ok (ld3 (hS.cell 1 rfl rfl)) ?_ | refine valP_ok (ld3 (hS.cell 2 rfl rfl)) ?_ | refine valP_ok (ld3 (hS.cell 3 rfl rfl)) ?_ | refine valP_ok (ld3 (hS.cell 4 rfl rfl)) ?_ | refine valP_ok (ld3 (hS.cell 5 rfl rfl)) ?_ | refine valP_ok (ld3 (hS.cell 6 rfl rfl)) ?_ | refine valP_ok (ld3 (hS.cell 7 rfl rfl)) ?_ | refine valP_ok (ld3 (by assumption)) ?_
      refine newslice_ok (bs51_5 rfl rfl rfl rfl rfl _) hS ?_
      intro b43 w hS
      refine callR (by kernel_rfl) (all_ret (xs := [0, t.mark, t.late, t.bad, t.n]) (fun x hx => ?_) (by simp) (Bes.of_cells 0 rfl rfl) hS) ?_
      · have h0 : I64 0 := by omega
        simp only [List.mem_cons, List.not_mem_nil, or_false] at hx
        rcases hx with rfl | rfl | rfl | rfl | rfl
        · exact h0
        · exact ht.1.1
        · exact ht.1.2.1
        · exact ht.1.2.2.1
        · exact ht.1.2.2.2
      rintro _ w ⟨rfl, hS⟩
      refine valP_ok (bd46_2 rfl _) ?_
      refine newslice_ok (bs24_1 _) hS ?_
      intro b46 w hS
      refine append_one1 (enc := encR) (l := []) 1 (headR t) sl24 encR_len encR_one (by unfold maxLen; simp) (by simp) hS rfl ?_
      intro A' c' w hS
      simp only [List.set_cons_zero, List.set_cons_succ] at hS
      exact df_3 (rs := [headR t]) h64 hs ht hE1 hE2 ⟨⟨by omega, by omega⟩, by simp, by rw [hd]; rfl⟩ hS.tail
    | false =>
      have hd : diffS s t = diffL s.L t.L := by unfold diffS; rw [if_neg (fun h => by have := hq.2 h; cases this)]; rfl
      refine cond_f rfl ?_
      exact df_3 (rs := []) h64 hs ht hE1 hE2 ⟨⟨by omega, by omega⟩, by simp, by rw [hd]; rfl⟩ hS
  unfold m14_2
  first | refine valP_ok (fa28_0 _ _) ?_ | refine valP_ok (fao28_0 _ _ _) ?_
  first | refine valP_ok (ld3 (hS.cell 0 rfl rfl)) ?_ | refine valP_ok (ld3 (hS.cell 1 rfl rfl)) ?_ | refine valP_ok (ld3 (hS.cell 2 rfl rfl)) ?_ | refine valP_ok (ld3 (hS.cell 3 rfl rfl)) ?_ | refine valP_ok (ld3 (hS.cell 4 rfl rfl)) ?_ | refine valP_ok (ld3 (hS.cell 5 rfl rfl)) ?_ | refine valP_ok (ld3 (hS.cell 6 rfl rfl)) ?_ | refine valP_ok (ld3 (hS.cell 7 rfl rfl)) ?_ | refine valP_ok (ld3 (by assumption)) ?_
  first | refine valP_ok (fa28_0 _ _) ?_ | refine valP_ok (fao28_0 _ _ _) ?_
  first | refine valP_ok (ld3 (hS.cell 0 rfl rfl)) ?_ | refine valP_ok (ld3 (hS.cell 1 rfl rfl)) ?_ | refine valP_ok (ld3 (hS.cell 2 rfl rfl)) ?_ | refine valP_ok (ld3 (hS.cell 3 rfl rfl)) ?_ | refine valP_ok (ld3 (hS.cell 4 rfl rfl)) ?_ | refine valP_ok (ld3 (hS.cell 5 rfl rfl)) ?_ | refine valP_ok (ld3 (hS.cell 6 rfl rfl)) ?_ | refine valP_ok (ld3 (hS.cell 7 rfl rfl)) ?_ | refine valP_ok (ld3 (by assumption)) ?_
  refine valP_ok (ne3 _ _ _ _ _) ?_
  first | refine cond_split (fun hc0 => ?_) (fun hc0 => ?_) | refine cond_bsplit (fun hc0 => ?_) (fun hc0 => ?_)
  · first | refine pick_dt (by first | assumption | omega) ?_ | refine pick_df (by first | assumption | omega) ?_ | refine pick_t (by first | rfl | assumption) ?_ | refine pick_f (by first | rfl | assumption) ?_ | refine pick_dt rfl ?_ | refine pick_df (not_not_intro rfl) ?_
    first | refine cond_split (fun hc1 => ?_) (fun hc1 => ?_) | refine cond_bsplit (fun hc1 => ?_) (fun hc1 => ?_)
    · first | refine pick_dt (by first | assumption | omega) ?_ | refine pick_df (by first | assumption | omega) ?_ | refine pick_t (by first | rfl | assumption) ?_ | refine pick_f (by first | rfl | assumption) ?_ | refine pick_dt rfl ?_ | refine pick_df (not_not_intro rfl) ?_
      first | refine cond_split (fun hc2 => ?_) (fun hc2 => ?_) | refine cond_bsplit (fun hc2 => ?_) (fun hc2 => ?_)
      · first | refine pick_dt (by first | assumption | omega) ?_ | refine pick_df (by first | assumption | omega) ?_ | refine pick_t (by first | rfl | assumption) ?_ | refine pick_f (by first | rfl | assumption) ?_ | refine pick_dt rfl ?_ | refine pick_df (not_not_intro rfl) ?_
        exact leaf _ (by simp only [decide_eq_true_eq, Bool.false_eq_true, false_iff, true_iff] <;> first | contradiction | omega)
      · first | refine valP_ok (fa28_3 _ _) ?_ | refine valP_ok (fao28_3 _ _ _) ?_
        first | refine valP_ok (ld3 (hS.cell 0 rfl rfl)) ?_ | refine valP_ok (ld3 (hS.cell 1 rfl rfl)) ?_ | refine valP_ok (ld3 (hS.cell 2 rfl rfl)) ?_ | refine valP_ok (ld3 (hS.cell 3 rfl rfl)) ?_ | refine valP_ok (ld3 (hS.cell 4 rfl rfl)) ?_ | refine valP_ok (ld3 (hS.cell 5 rfl rfl)) ?_ | refine valP_ok (ld3 (hS.cell 6 rfl rfl)) ?_ | refine valP_ok (ld3 (hS.cell 7 rfl rfl)) ?_ | refine valP_ok (ld3 (by assumption)) ?_
        first | refine valP_ok (fa28_3 _ _) ?_ | refine valP_ok (fao28_3 _ _ _) ?_
        first | refine valP_ok (ld3 (hS.cell 0 rfl rfl)) ?_ | refine valP_ok (ld3 (hS.cell 1 rfl rfl)) ?_ | refine valP_ok (ld3 (hS.cell 2 rfl rfl)) ?_ | refine valP_ok (ld3 (hS.cell 3 rfl rfl)) ?_ | refine valP_ok (ld3 (hS.cell 4 rfl rfl)) ?_ | refine valP_ok (ld3 (hS.cell 5 rfl rfl)) ?_ | refine valP_ok (ld3 (hS.cell 6 rfl rfl)) ?_ | refine valP_ok (ld3 (hS.cell 7 rfl rfl)) ?_ | refine valP_ok (ld3 (by assumption)) ?_
        refine valP_ok (ne3 _ _ _ _ _) ?_
        first | refine pick_dt (by first | assumption | omega) ?_ | refine pick_df (by first | assumption | omega) ?_ | refine pick_t (by first | rfl | assumption) ?_ | refine pick_f (by first | rfl | assumption) ?_ | refine pick_dt rfl ?_ | refine pick_df (not_not_intro rfl) ?_
        exact leaf _ (by simp only [decide_eq_true_eq, Bool.false_eq_true, false_iff, true_iff] <;> first | contradiction | omega)
    · first | refine valP_ok (fa28_2 _ _) ?_ | refine valP_ok (fao28_2 _ _ _) ?_
      first | refine valP_ok (ld3 (hS.cell 0 rfl rfl)) ?_ | refine valP_ok (ld3 (hS.cell 1 rfl rfl)) ?_ | refine valP_ok (ld3 (hS.cell 2 rfl rfl)) ?_ | refine valP_ok (ld3 (hS.cell 3 rfl rfl)) ?_ | refine valP_ok (ld3 (hS.cell 4 rfl rfl)) ?_ | refine valP_ok (ld3 (hS.cell 5 rfl rfl)) ?_ | refine valP_ok (ld3 (hS.cell 6 rfl rfl)) ?_ | refine valP_ok (ld3 (hS.cell 7 rfl rfl)) ?_ | refine valP_ok (ld3 (by assumption)) ?_
      first | refine valP_ok (fa28_2 _ _) ?_ | refine valP_ok (fao28_2 _ _ _) ?_
      first | refine valP_ok (ld3 (hS.cell 0 rfl rfl)) ?_ | refine valP_ok (ld3 (hS.cell 1 rfl rfl)) ?_ | refine valP_ok (ld3 (hS.cell 2 rfl rfl)) ?_ | refine valP_ok (ld3 (hS.cell 3 rfl rfl)) ?_ | refine valP_ok (ld3 (hS.cell 4 rfl rfl)) ?_ | refine valP_ok (ld3 (hS.cell 5 rfl rfl)) ?_ | refine valP_ok (ld3 (hS.cell 6 rfl rfl)) ?_ | refine valP_ok (ld3 (hS.cell 7 rfl rfl)) ?_ | refine valP_ok (ld3 (by assumption)) ?_
      refine valP_ok (ne3 _ _ _ _ _) ?_
      first | refine pick_dt (by first | assumption | omega) ?_ | refine pick_df (by first | assumption | omega) ?_ | refine pick_t (by first | rfl | assumption) ?_ | refine pick_f (by first | rfl | assumption) ?_ | refine pick_dt rfl ?_ | refine pick_df (not_not_intro rfl) ?_
      first | refine cond_split (fun hc2 => ?_) (fun hc2 => ?_) | refine cond_bsplit (fun hc2 => ?_) (fun hc2 => ?_)
      · first | refine pick_dt (by first | assumption | omega) ?_ | refine pick_df (by first | assumption | omega) ?_ | refine pick_t (by first | rfl | assumption) ?_ | refine pick_f (by first | rfl | assumption) ?_ | refine pick_dt rfl ?_ | refine pick_df (not_not_intro rfl) ?_
        exact leaf _ (by simp only [decide_eq_true_eq, Bool.false_eq_true, false_iff, true_iff] <;> first | contradiction | omega)
      · first | refine valP_ok (fa28_3 _ _) ?_ | refine valP_ok (fao28_3 _ _ _) ?_
        first | refine valP_ok (ld3 (hS.cell 0 rfl rfl)) ?_ | refine valP_ok (ld3 (hS.cell 1 rfl rfl)) ?_ | refine valP_ok (ld3 (hS.cell 2 rfl rfl)) ?_ | refine valP_ok (ld3 (hS.cell 3 rfl rfl)) ?_ | refine valP_ok (ld3 (hS.cell 4 rfl rfl)) ?_ | refine valP_ok (ld3 (hS.cell 5 rfl rfl)) ?_ | refine valP_ok (ld3 (hS.cell 6 rfl rfl)) ?_ | refine valP_ok (ld3 (hS.cell 7 rfl rfl)) ?_ | refine valP_ok (ld3 (by assumption)) ?_
        first | refine valP_ok (fa28_3 _ _) ?_ | refine valP_ok (fao28_3 _ _ _) ?_
        first | refine valP_ok (ld3 (hS.cell 0 rfl rfl)) ?_ | refine valP_ok (ld3 (hS.cell 1 rfl rfl)) ?_ | refine valP_ok (ld3 (hS.cell 2 rfl rfl)) ?_ | refine valP_ok (ld3 (hS.cell 3 rfl rfl)) ?_ | refine valP_ok (ld3 (hS.cell 4 rfl rfl)) ?_ | refine valP_ok (ld3 (hS.cell 5 rfl rfl)) ?_ | refine valP_ok (ld3 (hS.cell 6 rfl rfl)) ?_ | refine valP_ok (ld3 (hS.cell 7 rfl rfl)) ?_ | refine valP_ok (ld3 (by assumption)) ?_
        refine valP_ok (ne3 _ _ _ _ _) ?_
        first | refine pick_dt (by first | assumption | omega) ?_ | refine pick_df (by first | assumption | omega) ?_ | refine pick_t (by first | rfl | assumption) ?_ | refine pick_f (by first | rfl | assumption) ?_ | refine pick_dt rfl ?_ | refine pick_df (not_not_intro rfl) ?_
        exact leaf _ (by simp only [decide_eq_true_eq, Bool.false_eq_true, false_iff, true_iff] <;> first | contradiction | omega)
  · first | refine valP_ok (fa28_1 _ _) ?_ | refine valP_ok (fao28_1 _ _ _) ?_
    first | refine valP_ok (ld3 (hS.cell 0 rfl rfl)) ?_ | refine valP_ok (ld3 (hS.cell 1 rfl rfl)) ?_ | refine valP_ok (ld3 (hS.cell 2 rfl rfl)) ?_ | refine valP_ok (ld3 (hS.cell 3 rfl rfl)) ?_ | refine valP_ok (ld3 (hS.cell 4 rfl rfl)) ?_ | refine valP_ok (ld3 (hS.cell 5 rfl rfl)) ?_ | refine valP_ok (ld3 (hS.cell 6 rfl rfl)) ?_ | refine valP_ok (ld3 (hS.cell 7 rfl rfl)) ?_ | refine valP_ok (ld3 (by assumption)) ?_
    first | refine valP_ok (fa28_1 _ _) ?_ | refine valP_ok (fao28_1 _ _ _) ?_
    first | refine valP_ok (ld3 (hS.cell 0 rfl rfl)) ?_ | refine valP_ok (ld3 (hS.cell 1 rfl rfl)) ?_ | refine valP_ok (ld3 (hS.cell 2 rfl rfl)) ?_ | refine valP_ok (ld3 (hS.cell 3 rfl rfl)) ?_ | refine valP_ok (ld3 (hS.cell 4 rfl rfl)) ?_ | refine valP_ok (ld3 (hS.cell 5 rfl rfl)) ?_ | refine valP_ok (ld3 (hS.cell 6 rfl rfl)) ?_ | refine valP_ok (ld3 (hS.cell 7 rfl rfl)) ?_ | refine valP_ok (ld3 (by assumption)) ?_
    refine valP_ok (ne3 _ _ _ _ _) ?_
    first | refine pick_dt (by first | assumption | omega) ?_ | refine pick_df (by first | assumption | omega) ?_ | refine pick_t (by first | rfl | assumption) ?_ | refine pick_f (by first | rfl | assumption) ?_ | refine pick_dt rfl ?_ | refine pick_df (not_not_intro rfl) ?_
    first | refine cond_split (fun hc1 => ?_) (fun hc1 => ?_) | refine cond_bsplit (fun hc1 => ?_) (fun hc1 => ?_)
    · first | refine pick_dt (by first | assumption | omega) ?_ | refine pick_df (by first | assumption | omega) ?_ | refine pick_t (by first | rfl | assumption) ?_ | refine pick_f (by first | rfl | assumption) ?_ | refine pick_dt rfl ?_ | refine pick_df (not_not_intro rfl) ?_
      first | refine cond_split (fun hc2 => ?_) (fun hc2 => ?_) | refine cond_bsplit (fun hc2 => ?_) (fun hc2 => ?_)
      · first | refine pick_dt (by first | assumption | omega) ?_ | refine pick_df (by first | assumption | omega) ?_ | refine pick_t (by first | rfl | assumption) ?_ | refine pick_f (by first | rfl | assumption) ?_ | refine pick_dt rfl ?_ | refine pick_df (not_not_intro rfl) ?_
        exact leaf _ (by simp only [decide_eq_true_eq, Bool.false_eq_true, false_iff, true_iff] <;> first | contradiction | omega)
      · first | refine valP_ok (fa28_3 _ _) ?_ | refine valP_ok (fao28_3 _ _ _) ?_
        first | refine valP_ok (ld3 (hS.cell 0 rfl rfl)) ?_ | refine valP_ok (ld3 (hS.cell 1 rfl rfl)) ?_ | refine valP_ok (ld3 (hS.cell 2 rfl rfl)) ?_ | refine valP_ok (ld3 (hS.cell 3 rfl rfl)) ?_ | refine valP_ok (ld3 (hS.cell 4 rfl rfl)) ?_ | refine valP_ok (ld3 (hS.cell 5 rfl rfl)) ?_ | refine valP_ok (ld3 (hS.cell 6 rfl rfl)) ?_ | refine valP_ok (ld3 (hS.cell 7 rfl rfl)) ?_ | refine valP_ok (ld3 (by assumption)) ?_
        first | refine valP_ok (fa28_3 _ _) ?_ | refine valP_ok (fao28_3 _ _ _) ?_
        first | refine valP_ok (ld3 (hS.cell 0 rfl rfl)) ?_ | refine valP_ok (ld3 (hS.cell 1 rfl rfl)) ?_ | refine valP_ok (ld3 (hS.cell 2 rfl rfl)) ?_ | refine valP_ok (ld3 (hS.cell 3 rfl rfl)) ?_ | refine valP_ok (ld3 (hS.cell 4 rfl rfl)) ?_ | refine valP_ok (ld3 (hS.cell 5 rfl rfl)) ?_ | refine valP_ok (ld3 (hS.cell 6 rfl rfl)) ?_ | refine valP_ok (ld3 (hS.cell 7 rfl rfl)) ?_ | refine valP_ok (ld3 (by assumption)) ?_
        refine valP_ok (ne3 _ _ _ _ _) ?_
        first | refine pick_dt (by first | assumption | omega) ?_ | refine pick_df (by first | assumption | omega) ?_ | refine pick_t (by first | rfl | assumption) ?_ | refine pick_f (by first | rfl | assumption) ?_ | refine pick_dt rfl ?_ | refine pick_df (not_not_intro rfl) ?_
        exact leaf _ (by simp only [decide_eq_true_eq, Bool.false_eq_true, false_iff, true_iff] <;> first | contradiction | omega)
    · first | refine valP_ok (fa28_2 _ _) ?_ | refine valP_ok (fao28_2 _ _ _) ?_
      first | refine valP_ok (ld3 (hS.cell 0 rfl rfl)) ?_ | refine valP_ok (ld3 (hS.cell 1 rfl rfl)) ?_ | refine valP_ok (ld3 (hS.cell 2 rfl rfl)) ?_ | refine valP_ok (ld3 (hS.cell 3 rfl rfl)) ?_ | refine valP_ok (ld3 (hS.cell 4 rfl rfl)) ?_ | refine valP_ok (ld3 (hS.cell 5 rfl rfl)) ?_ | refine valP_ok (ld3 (hS.cell 6 rfl rfl)) ?_ | refine valP_ok (ld3 (hS.cell 7 rfl rfl)) ?_ | refine valP_ok (ld3 (by assumption)) ?_
      first | refine valP_ok (fa28_2 _ _) ?_ | refine valP_ok (fao28_2 _ _ _) ?_
      first | refine valP_ok (ld3 (hS.cell 0 rfl rfl)) ?_ | refine valP_ok (ld3 (hS.cell 1 rfl rfl)) ?_ | refine valP_ok (ld3 (hS.cell 2 rfl rfl)) ?_ | refine valP_ok (ld3 (hS.cell 3 rfl rfl)) ?_ | refine valP_ok (ld3 (hS.cell 4 rfl rfl)) ?_ | refine valP_ok (ld3 (hS.cell 5 rfl rfl)) ?_ | refine valP_ok (ld3 (hS.cell 6 rfl rfl)) ?_ | refine valP_ok (ld3 (hS.cell 7 rfl rfl)) ?_ | refine valP_ok (ld3 (by assumption)) ?_
      refine valP_ok (ne3 _ _ _ _ _) ?_
      first | refine pick_dt (by first | assumption | omega) ?_ | refine pick_df (by first | assumption | omega) ?_ | refine pick_t (by first | rfl | assumption) ?_ | refine pick_f (by first | rfl | assumption) ?_ | refine pick_dt rfl ?_ | refine pick_df (not_not_intro rfl) ?_
      first | refine cond_split (fun hc2 => ?_) (fun hc2 => ?_) | refine cond_bsplit (fun hc2 => ?_) (fun hc2 => ?_)
      · first | refine pick_dt (by first | assumption | omega) ?_ | refine pick_df (by first | assumption | omega) ?_ | refine pick_t (by first | rfl | assumption) ?_ | refine pick_f (by first | rfl | assumption) ?_ | refine pick_dt rfl ?_ | refine pick_df (not_not_intro rfl) ?_
        exact leaf _ (by simp only [decide_eq_true_eq, Bool.false_eq_true, false_iff, true_iff] <;> first | contradiction | omega)
      · first | refine valP_ok (fa28_3 _ _) ?_ | refine valP_ok (fao28_3 _ _ _) ?_
        first | refine valP_ok (ld3 (hS.cell 0 rfl rfl)) ?_ | refine valP_ok (ld3 (hS.cell 1 rfl rfl)) ?_ | refine valP_ok (ld3 (hS.cell 2 rfl rfl)) ?_ | refine valP_ok (ld3 (hS.cell 3 rfl rfl)) ?_ | refine valP_ok (ld3 (hS.cell 4 rfl rfl)) ?_ | refine valP_ok (ld3 (hS.cell 5 rfl rfl)) ?_ | refine valP_ok (ld3 (hS.cell 6 rfl rfl)) ?_ | refine valP_ok (ld3 (hS.cell 7 rfl rfl)) ?_ | refine valP_ok (ld3 (by assumption)) ?_
        first | refine valP_ok (fa28_3 _ _) ?_ | refine valP_ok (fao28_3 _ _ _) ?_
        first | refine valP_ok (ld3 (hS.cell 0 rfl rfl)) ?_ | refine valP_ok (ld3 (hS.cell 1 rfl rfl)) ?_ | refine valP_ok (ld3 (hS.cell 2 rfl rfl)) ?_ | refine valP_ok (ld3 (hS.cell 3 rfl rfl)) ?_ | refine valP_ok (ld3 (hS.cell 4 rfl rfl)) ?_ | refine valP_ok (ld3 (hS.cell 5 rfl rfl)) ?_ | refine valP_ok (ld3 (hS.cell 6 rfl rfl)) ?_ | refine valP_ok (ld3 (hS.cell 7 rfl rfl)) ?_ | refine valP_ok (ld3 (by assumption)) ?_
        refine valP_ok (ne3 _ _ _ _ _) ?_
        first | refine pick_dt (by first | assumption | omega) ?_ | refine pick_df (by first | assumption | omega) ?_ | refine pick_t (by first | rfl | assumption) ?_ | refine pick_f (by first | rfl | assumption) ?_ | refine pick_dt rfl ?_ | refine pick_df (not_not_intro rfl) ?_
        exact leaf _ (by simp only [decide_eq_true_eq, Bool.false_eq_true, false_iff, true_iff] <;> first | contradiction | omega)
end
end
end Go.Proofs.Ytnhgdngbdoifnaa.M
namespace Go.Proofs.Ytnhgdngbdoifnaa.M
open Go.Proofs.Ytnhgdngbdoifnaa.F
set_option linter.unusedVariables false
set_option maxRecDepth 100000
variable {R : VP} {Q : EQ}
def m12_9 (R : VP) (K1 : (Value × Value) → World → Prop) (l0 out3 i4 : Value) (w : World) : Prop :=
  valP Try.prog (binS BinOp.add 3 (tm 15) (ci 1) i4 (vi 1)) w fun t16 w =>
  K1 (out3, t16) w
def m12_11 (R : VP) (K1 : (Value × Value) → World → Prop) (l0 out3 i4 r5 : Value) (w : World) : Prop :=
  valP Try.prog (Instr.loadAt 46 r5) w fun t30 w =>
  valP Try.prog (Instr.buildSlice 24 1 #[(0, t30)]) w fun t31 w =>
  builtinP Try.prog Builtin.append #[24, 24] 24 #[false, false] #[out3, t31] w fun t32 w =>
  m12_9 R K1 l0 t32 i4 w
def m12_12 (R : VP) (K1 : (Value × Value) → World → Prop) (l0 out3 i4 r5 t24 : Value) (w : World) : Prop :=
  condP t24
  (valP Try.prog (Instr.fieldAt 46 r5 2) w fun t25 w =>
  valP Try.prog (Instr.loadAt 9 t25) w fun t26 w =>
  valP Try.prog (Instr.sliceAt 9 t26 none (some (vi 50)) none) w fun t27 w =>
  valP Try.prog (Instr.fieldAt 46 r5 2) w fun t28 w =>
  unitP Try.prog (Instr.storeAt 9 t28 t27) w fun _ w =>
  m12_11 R K1 l0 out3 i4 r5 w)
  (m12_11 R K1 l0 out3 i4 r5 w)
def m12_10 (R : VP) (K1 : (Value × Value) → World → Prop) (l0 out3 i4 r5 : Value) (w : World) : Prop :=
  valP Try.prog (Instr.fieldAt 46 r5 2) w fun t21 w =>
  valP Try.prog (Instr.loadAt 9 t21) w fun t22 w =>
  builtinP Try.prog Builtin.len #[9] 3 #[false] #[t22] w fun t23 w =>
  valP Try.prog (binS BinOp.gtr 3 (tm 23) (ci 50) t23 (vi 50)) w fun t24 w =>
  m12_12 R K1 l0 out3 i4 r5 t24 w
def m12_8 (R : VP) (K1 : (Value × Value) → World → Prop) (l0 out3 i4 : Value) (w : World) : Prop :=
  valP Try.prog (Instr.indexAt 24 l0 i4) w fun t19 w =>
  valP Try.prog (Instr.loadAt 46 t19) w fun t20 w =>
  valP Try.prog (Instr.alloc 46 true (.tuple #[])) w fun r5 w =>
  unitP Try.prog (Instr.storeAt 46 r5 t20) w fun _ w =>
  m12_10 R K1 l0 out3 i4 r5 w
def m12_5 (R : VP) (t2 : Value) (w : World) : Prop :=
  R t2 w
def m12_4 (R : VP) (out3 : Value) (w : World) : Prop :=
  m12_5 R out3 w
def m12_13 (R : VP) (K1 : (Value × Value) → World → Prop) (l0 out3 i4 t14 : Value) (w : World) : Prop :=
  condP t14
  (m12_8 R K1 l0 out3 i4 w)
  (m12_4 R out3 w)
def m12_7 (R : VP) (K1 : (Value × Value) → World → Prop) (l0 out3 i4 : Value) (w : World) : Prop :=
  builtinP Try.prog Builtin.len #[24] 3 #[false] #[l0] w fun t13 w =>
  valP Try.prog (binS BinOp.lss 3 (tm 11) (tm 13) i4 t13) w fun t14 w =>
  m12_13 R K1 l0 out3 i4 t14 w
def m12_6 (R : VP) (l0 out3 i4 : Value) (w : World) : Prop :=
  loopP (fun (K1 : (Value × Value) → World → Prop) (s : Value × Value) w => m12_7 R K1 l0 s.1 s.2 w) (out3, i4) w
def m12_3 (R : VP) (l0 out3 : Value) (w : World) : Prop :=
  m12_6 R l0 out3 (vi 0) w
def m12_2 (R : VP) (l0 : Value) (w : World) : Prop :=
  m12_3 R l0 (Value.slice none 0 0) w
def m12_14 (R : VP) (l0 t8 : Value) (w : World) : Prop :=
  condP t8
  (valP Try.prog (Instr.sliceAt 24 l0 none (some (vi 150)) none) w fun t10 w =>
  m12_2 R t10 w)
  (m12_2 R l0 w)
def m12_1 (R : VP) (l0 : Value) (w : World) : Prop :=
  builtinP Try.prog Builtin.len #[24] 3 #[false] #[l0] w fun t7 w =>
  valP Try.prog (binS BinOp.gtr 3 (tm 7) (ci 150) t7 (vi 150)) w fun t8 w =>
  m12_14 R l0 t8 w
def m12_0 (R : VP) (l0 : Value) (w : World) : Prop :=
  m12_1 R l0 w
abbrev W12 := cwp Try.prog (fun i => 0)
noncomputable def k12_0 := bodyOf Try.f12
noncomputable def k12_1 := c2 k12_0
noncomputable def k12_2 := c2 k12_1
noncomputable def k12_3 := c2 k12_2
noncomputable def k12_4 := c2 k12_3
noncomputable def k12_5 := c2 k12_4
noncomputable def k12_6 := c2 (c1 k12_3)
noncomputable def k12_7 := c1 (c1 k12_6)
noncomputable def k12_8 := c2 k12_7
noncomputable def k12_9 := c2 k12_8
noncomputable def k12_10 := c2 (c1 (c1 k12_8))
noncomputable def k12_11 := c2 k12_10
noncomputable def k12_12 := c2 (c1 k12_10)
noncomputable def k12_13 := c2 (c1 k12_7)
noncomputable def k12_14 := c2 (c1 k12_1)
theorem s12_9 {K1 : (Value × Value) → World → Prop} (hN : ∀ e w, (K1 ((e 3), (e 4)) w) → Q .normal e w) (e : Env) (w : World) (h : m12_9 R K1 (e 0) (e 3) (e 4) w) : W12 k12_9 Q e w := by
  exact rgA 6 (fun e w => K1 ((e 3), (e 4)) w) h hN
theorem s12_11 {K1 : (Value × Value) → World → Prop} (hN : ∀ e w, (m12_9 R K1 (e 0) (e 3) (e 4) w) → Q .normal e w) (e : Env) (w : World) (h : m12_11 R K1 (e 0) (e 3) (e 4) (e 5) w) : W12 k12_11 Q e w := by
  exact rgA 10 (fun e w => m12_9 R K1 (e 0) (e 3) (e 4) w) h hN
theorem s12_12 {K1 : (Value × Value) → World → Prop} (hN : ∀ e w, (m12_11 R K1 (e 0) (e 3) (e 4) (e 5) w) → Q .normal e w) (e : Env) (w : World) (h : m12_12 R K1 (e 0) (e 3) (e 4) (e 5) (e 24) w) : W12 k12_12 Q e w := by
  refine coA (Operand.tmp 24) h (fun h1 => ?_) (fun h1 => ?_)
  · exact rgA 9 (fun e w => m12_11 R K1 (e 0) (e 3) (e 4) (e 5) w) h1 hN
  · exact skA (hN _ _ h1)
theorem s12_10 {K1 : (Value × Value) → World → Prop} (hN : ∀ e w, (m12_9 R K1 (e 0) (e 3) (e 4) w) → Q .normal e w) (e : Env) (w : World) (h : m12_10 R K1 (e 0) (e 3) (e 4) (e 5) w) : W12 k12_10 Q e w := by
  refine seA ?_
  have hN : ∀ e w, (m12_11 R K1 (e 0) (e 3) (e 4) (e 5) w) → (thenE (W12 k12_11 Q) Q) .normal e w := fun e w h => then_N (s12_11 hN e w h)
  refine seA ?_
  exact rgA 8 (fun e w => m12_12 R K1 (e 0) (e 3) (e 4) (e 5) (e 24) w) h fun e w h => then_N (s12_12 hN e w h)
theorem s12_8 {K1 : (Value × Value) → World → Prop} (hN : ∀ e w, (K1 ((e 3), (e 4)) w) → Q .normal e w) (e : Env) (w : World) (h : m12_8 R K1 (e 0) (e 3) (e 4) w) : W12 k12_8 Q e w := by
  refine seA ?_
  have hN : ∀ e w, (m12_9 R K1 (e 0) (e 3) (e 4) w) → (thenE (W12 k12_9 Q) Q) .normal e w := fun e w h => then_N (s12_9 hN e w h)
  refine block_ok 1 (by kernel_rfl) ?_
  have hN : ∀ e w, (m12_9 R K1 (e 0) (e 3) (e 4) w) → (inBlockE 1 (thenE (W12 k12_9 Q) Q)) .normal e w := fun e w h => block_N (hN e w h)
  refine seA ?_
  exact rgA 7 (fun e w => m12_10 R K1 (e 0) (e 3) (e 4) (e 5) w) h fun e w h => then_N (s12_10 (R := R) (Q := (inBlockE 1 (thenE (W12 k12_9 Q) Q))) hN e w h)
abbrev hR12 (R : VP) (Q : EQ) : Prop := ∀ e w, (R (e 2) w) → Q .ret e w
theorem s12_5 (hR : hR12 R Q) (e : Env) (w : World) (h : m12_5 R (e 2) w) : W12 k12_5 Q e w := by
  exact reA (hR _ _ h)
theorem s12_4 (hR : hR12 R Q) (e : Env) (w : World) (h : m12_4 R (e 3) w) : W12 k12_4 Q e w := by
  refine seA ?_
  exact rgA 11 (fun e w => m12_5 R (e 2) w) h fun e w h => then_N (s12_5 hR e w h)
theorem s12_13 {K1 : (Value × Value) → World → Prop} (hN : ∀ e w, (m12_8 R K1 (e 0) (e 3) (e 4) w) → Q .normal e w) (hX0 : ∀ e w, (m12_4 R (e 3) w) → Q (.exit 0) e w) (e : Env) (w : World) (h : m12_13 R K1 (e 0) (e 3) (e 4) (e 14) w) : W12 k12_13 Q e w := by
  refine coA (Operand.tmp 14) h (fun h1 => ?_) (fun h1 => ?_)
  · exact skA (hN _ _ h1)
  · exact exA 0 (hX0 _ _ h1)
theorem s12_7 {K1 : (Value × Value) → World → Prop} (hN : ∀ e w, (K1 ((e 3), (e 4)) w) → Q .normal e w) (hX0 : ∀ e w, (m12_4 R (e 3) w) → Q (.exit 0) e w) (e : Env) (w : World) (h : m12_7 R K1 (e 0) (e 3) (e 4) w) : W12 k12_7 Q e w := by
  refine seA ?_
  have hN : ∀ e w, (m12_8 R K1 (e 0) (e 3) (e 4) w) → (thenE (W12 k12_8 Q) Q) .normal e w := fun e w h => then_N (s12_8 hN e w h)
  have hX0 : ∀ e w, (m12_4 R (e 3) w) → (thenE (W12 k12_8 Q) Q) (.exit 0) e w := fun e w h => then_X (hX0 e w h)
  refine seA ?_
  exact rgA 5 (fun e w => m12_13 R K1 (e 0) (e 3) (e 4) (e 14) w) h fun e w h => then_N (s12_13 hN hX0 e w h)
theorem s12_6 (hN : ∀ e w, (m12_4 R (e 3) w) → Q .normal e w) (e : Env) (w : World) (h : m12_6 R (e 0) (e 3) (e 4) w) : W12 k12_6 Q e w := by
  refine block_ok 0 (by kernel_rfl) ?_
  have hX0 : ∀ e w, (m12_4 R (e 3) w) → (inBlockE 0 Q) (.exit 0) e w := fun e w h => inBlock_same (Q := Q) 0 (hN e w h)
  refine loop_ok' (fun (e : Env) => (e 3, e 4)) [0] (by kernel_rfl) (by kernel_rfl) h (fun K e' w' hk h' => ?_)
  have r0 : e' 0 = e 0 := hk 0 (by decide)
  have hX0 : ∀ e w, (m12_4 R (e 3) w) → (thenE (fun (e : Env) w => K ((e 3), (e 4)) w) (inBlockE 0 Q)) (.exit 0) e w := fun e w h => then_X (hX0 e w h)
  exact s12_7 (K1 := K) (fun _ _ h => then_N h) hX0 e' w' (by rw [r0]; exact h')
theorem s12_3 (hR : hR12 R Q) (e : Env) (w : World) (h : m12_3 R (e 0) (e 3) w) : W12 k12_3 Q e w := by
  refine seA ?_
  have hN : ∀ e w, (m12_4 R (e 3) w) → (thenE (W12 k12_4 Q) Q) .normal e w := fun e w h => then_N (s12_4 hR e w h)
  refine seA ?_
  exact rgA 4 (fun e w => m12_6 R (e 0) (e 3) (e 4) w) h fun e w h => then_N (s12_6 hN e w h)
theorem s12_2 (hR : hR12 R Q) (e : Env) (w : World) (h : m12_2 R (e 0) w) : W12 k12_2 Q e w := by
  refine seA ?_
  exact rgA 3 (fun e w => m12_3 R (e 0) (e 3) w) h fun e w h => then_N (s12_3 hR e w h)
theorem s12_14 (hN : ∀ e w, (m12_2 R (e 0) w) → Q .normal e w) (e : Env) (w : World) (h : m12_14 R (e 0) (e 8) w) : W12 k12_14 Q e w := by
  refine coA (Operand.tmp 8) h (fun h1 => ?_) (fun h1 => ?_)
  · exact rgA 2 (fun e w => m12_2 R (e 0) w) h1 hN
  · exact skA (hN _ _ h1)
theorem s12_1 (hR : hR12 R Q) (e : Env) (w : World) (h : m12_1 R (e 0) w) : W12 k12_1 Q e w := by
  refine seA ?_
  have hN : ∀ e w, (m12_2 R (e 0) w) → (thenE (W12 k12_2 Q) Q) .normal e w := fun e w h => then_N (s12_2 hR e w h)
  refine seA ?_
  exact rgA 1 (fun e w => m12_14 R (e 0) (e 8) w) h fun e w h => then_N (s12_14 hN e w h)
theorem s12_0 (hR : hR12 R Q) (e : Env) (w : World) (h : m12_0 R (e 0) w) : W12 k12_0 Q e w := by
  refine seA ?_
  exact rgA 0 (fun e w => m12_1 R (e 0) w) h fun e w h => then_N (s12_1 hR e w h)
abbrev m12 (R : VP) (l0 : Value) (w : World) : Prop := m12_0 R l0 w
theorem s12 (l0 : Value) {R : VP} {w : World} (h : m12 R l0 w) :
    Calls Try.prog 12 #[l0] w fun e w' => ∃ v, e = .returned v ∧ R v w' :=
  calls_of_cwp (st := (fun i => 0)) (c := k12_0) (by kernel_rfl) Try.func12 (by kernel_rfl) (Nat.le_of_ble_eq_true (by kernel_rfl)) (by kernel_rfl)
    (s12_0 (R := R) (Q := endE Try.prog Try.f12 R) (fun e w h => kcast (by kernel_rfl) h) (argsE #[l0]) w (kcast (by kernel_rfl) h))
def m5_22 (R : VP) (K1 : (Value × Value) → World → Prop) (t6 t7 t8 : Value) (w : World) : Prop :=
  valS Try.prog (loadC 28 t7) w fun r1 =>
  R (Value.tuple #[t6, r1, t8]) w
def m5_19 (R : VP) (K1 : (Value × Value) → World → Prop) (K2 : (Value × Value) → World → Prop) (l1 most2 g3 t7 s9 out10 n11 t12 d15 i16 : Value) (w : World) : Prop :=
  valP Try.prog (binS BinOp.add 3 (tm 52) (ci 1) i16 (vi 1)) w fun t53 w =>
  K2 (out10, t53) w
def m5_18 (R : VP) (K1 : (Value × Value) → World → Prop) (K2 : (Value × Value) → World → Prop) (l1 most2 g3 t7 s9 out10 n11 t12 d15 i16 : Value) (w : World) : Prop :=
  builtinP Try.prog Builtin.len #[25] 3 #[false] #[out10] w fun t56 w =>
  valP Try.prog (Instr.indexAt 24 d15 i16) w fun t59 w =>
  valP Try.prog (Instr.loadAt 46 t59) w fun t60 w =>
  valP Try.prog (Instr.build 48 #[(0, t56), (1, t60)]) w fun t61 w =>
  valP Try.prog (Instr.buildSlice 25 1 #[(0, t61)]) w fun t62 w =>
  builtinP Try.prog Builtin.append #[25, 25] 25 #[false, false] #[out10, t62] w fun t63 w =>
  m5_19 R K1 K2 l1 most2 g3 t7 s9 t63 n11 t12 d15 i16 w
def m5_15 (R : VP) (K1 : (Value × Value) → World → Prop) (l1 most2 g3 t7 s9 out10 n11 : Value) (w : World) : Prop :=
  valP Try.prog (Instr.sliceAt 24 l1 (some n11) none none) w fun t67 w =>
  K1 (t67, out10) w
def m5_14 (R : VP) (K1 : (Value × Value) → World → Prop) (l1 most2 g3 t7 s9 out10 n11 t12 : Value) (w : World) : Prop :=
  valP Try.prog (Instr.loadAt 28 t12) w fun t64 w =>
  unitP Try.prog (Instr.storeAt 28 s9 t64) w fun _ w =>
  m5_15 R K1 l1 most2 g3 t7 s9 out10 n11 w
def m5_20 (R : VP) (K1 : (Value × Value) → World → Prop) (K2 : (Value × Value) → World → Prop) (l1 most2 g3 t7 s9 out10 n11 t12 d15 i16 t51 : Value) (w : World) : Prop :=
  condP t51
  (m5_18 R K1 K2 l1 most2 g3 t7 s9 out10 n11 t12 d15 i16 w)
  (m5_14 R K1 l1 most2 g3 t7 s9 out10 n11 t12 w)
def m5_17 (R : VP) (K1 : (Value × Value) → World → Prop) (K2 : (Value × Value) → World → Prop) (l1 most2 g3 t7 s9 out10 n11 t12 d15 i16 : Value) (w : World) : Prop :=
  builtinP Try.prog Builtin.len #[24] 3 #[false] #[d15] w fun t50 w =>
  valP Try.prog (binS BinOp.lss 3 (tm 48) (tm 50) i16 t50) w fun t51 w =>
  m5_20 R K1 K2 l1 most2 g3 t7 s9 out10 n11 t12 d15 i16 t51 w
def m5_16 (R : VP) (K1 : (Value × Value) → World → Prop) (l1 most2 g3 t7 s9 out10 n11 t12 d15 i16 : Value) (w : World) : Prop :=
  loopP (fun (K2 : (Value × Value) → World → Prop) (s : Value × Value) w => m5_17 R K1 K2 l1 most2 g3 t7 s9 s.1 n11 t12 d15 s.2 w) (out10, i16) w
def m5_13 (R : VP) (K1 : (Value × Value) → World → Prop) (l1 most2 g3 t7 s9 out10 n11 t12 d15 : Value) (w : World) : Prop :=
  m5_16 R K1 l1 most2 g3 t7 s9 out10 n11 t12 d15 (vi 0) w
def m5_12 (R : VP) (K1 : (Value × Value) → World → Prop) (l1 most2 g3 t7 s9 out10 n11 t12 : Value) (w : World) : Prop :=
  valP Try.prog (Instr.loadAt 28 s9) w fun t45 w =>
  valP Try.prog (Instr.loadAt 28 t12) w fun t46 w =>
  callP Try.prog (fnV 14) #[t45, t46] w fun t47 w =>
  m5_13 R K1 l1 most2 g3 t7 s9 out10 n11 t12 t47 w
def m5_21 (R : VP) (K1 : (Value × Value) → World → Prop) (l1 most2 g3 t7 s9 out10 n11 t12 t43 : Value) (w : World) : Prop :=
  condP t43
  (anyDraw w fun w =>
  valS Try.prog (Instr.loadAt 28 s9) w fun t44 =>
  unitP Try.prog (Instr.storeAt 28 t7 t44) w fun _ w =>
  m5_22 R K1 (Value.slice none 0 0) t7 (Value.bool false) w)
  (m5_12 R K1 l1 most2 g3 t7 s9 out10 n11 t12 w)
def m5_11 (R : VP) (K1 : (Value × Value) → World → Prop) (l1 most2 g3 t7 s9 out10 n11 t12 e14 : Value) (w : World) : Prop :=
  valP Try.prog (binS BinOp.neq 3 (tm 42) (ci 0) e14 (vi 0)) w fun t43 w =>
  m5_21 R K1 l1 most2 g3 t7 s9 out10 n11 t12 t43 w
def m5_10 (R : VP) (K1 : (Value × Value) → World → Prop) (l1 most2 g3 t7 s9 out10 n11 : Value) (w : World) : Prop :=
  anyDraw w fun w =>
  heldP w fun J =>
  valJ Try.prog J (Instr.loadAt 23 g3) fun t33 =>
  valJ Try.prog J (Instr.loadAt 28 s9) fun t34 =>
  valJ Try.prog J (Instr.sliceAt 24 l1 none (some n11) none) fun t37 =>
  (callP Try.prog (fnV 13) #[t33, t34, t37] w fun t38 w =>
  stayP J w
  (valJ Try.prog J (Instr.extract t38 0) fun t39 =>
  valJ Try.prog J (Instr.extract t38 1) fun t40 =>
  valJ Try.prog J (Instr.extract t38 2) fun t41 =>
  valP Try.prog (Instr.alloc 28 true (.tuple #[])) w fun t12 w =>
  stayP J w
  (unitP Try.prog (Instr.storeAt 28 t12 t39) w fun _ w =>
  stayP J w
  (m5_11 R K1 l1 most2 g3 t7 s9 out10 n11 t12 t41 w)))) ∧ (valP Try.prog (Instr.alloc 28 true (.tuple #[])) w fun t12 w =>
  stayP J w
  (callP Try.prog (fnV 13) #[t33, t34, t37] w fun t38 w =>
  stayP J w
  (valJ Try.prog J (Instr.extract t38 0) fun t39 =>
  valJ Try.prog J (Instr.extract t38 1) fun t40 =>
  valJ Try.prog J (Instr.extract t38 2) fun t41 =>
  unitP Try.prog (Instr.storeAt 28 t12 t39) w fun _ w =>
  stayP J w
  (m5_11 R K1 l1 most2 g3 t7 s9 out10 n11 t12 t41 w))))
def m5_9 (R : VP) (K1 : (Value × Value) → World → Prop) (l1 most2 g3 t7 s9 out10 : Value) (w : World) : Prop :=
  builtinP Try.prog Builtin.len #[24] 3 #[false] #[l1] w fun t30 w =>
  builtinP Try.prog Builtin.min #[3, 3] 3 #[false, false] #[most2, t30] w fun t31 w =>
  m5_10 R K1 l1 most2 g3 t7 s9 out10 t31 w
def m5_7 (R : VP) (t6 t7 t8 : Value) (w : World) : Prop :=
  valS Try.prog (loadC 28 t7) w fun r1 =>
  R (Value.tuple #[t6, r1, t8]) w
def m5_6 (R : VP) (g3 t7 s9 out10 : Value) (w : World) : Prop :=
  anyDraw w fun w =>
  heldP w fun J =>
  valJ Try.prog J (Instr.loadAt 28 s9) fun t69 =>
  valJ Try.prog J (Instr.loadAt 23 g3) fun t70 =>
  valJ Try.prog J (Instr.loadAt 28 s9) fun t71 =>
  callP Try.prog (fnV 15) #[t70, t71] w fun t72 w =>
  stayP J w
  (unitP Try.prog (Instr.storeAt 28 t7 t69) w fun _ w =>
  stayP J w
  (m5_7 R out10 t7 t72 w))
def m5_23 (R : VP) (K1 : (Value × Value) → World → Prop) (l1 most2 g3 t7 s9 out10 t27 : Value) (w : World) : Prop :=
  condP t27
  (m5_9 R K1 l1 most2 g3 t7 s9 out10 w)
  (m5_6 R g3 t7 s9 out10 w)
def m5_8 (R : VP) (K1 : (Value × Value) → World → Prop) (l1 most2 g3 t7 s9 out10 : Value) (w : World) : Prop :=
  builtinP Try.prog Builtin.len #[24] 3 #[false] #[l1] w fun t26 w =>
  valP Try.prog (binS BinOp.gtr 3 (tm 26) (ci 0) t26 (vi 0)) w fun t27 w =>
  m5_23 R K1 l1 most2 g3 t7 s9 out10 t27 w
def m5_5 (R : VP) (l1 most2 g3 t7 s9 out10 : Value) (w : World) : Prop :=
  loopP (fun (K1 : (Value × Value) → World → Prop) (s : Value × Value) w => m5_8 R K1 s.1 most2 g3 t7 s9 s.2 w) (l1, out10) w
def m5_4 (R : VP) (l1 most2 g3 t7 s9 : Value) (w : World) : Prop :=
  m5_5 R l1 most2 g3 t7 s9 (Value.slice none 0 0) w
def m5_3 (R : VP) (l1 most2 g3 t7 : Value) (w : World) : Prop :=
  valP Try.prog (Instr.build 28 #[(0, (vi (-1)))]) w fun t24 w =>
  valP Try.prog (Instr.alloc 28 true (.tuple #[])) w fun s9 w =>
  unitP Try.prog (Instr.storeAt 28 s9 t24) w fun _ w =>
  m5_4 R l1 most2 g3 t7 s9 w
def m5_2 (R : VP) (l1 most2 g3 t7 : Value) (w : World) : Prop :=
  valP Try.prog (binS BinOp.rem 3 (tm 19) (ci 9) most2 (vi 9)) w fun t20 w =>
  valP Try.prog (binS BinOp.add 3 (tm 20) (ci 9) t20 (vi 9)) w fun t21 w =>
  valP Try.prog (binS BinOp.rem 3 (tm 21) (ci 9) t21 (vi 9)) w fun t22 w =>
  valP Try.prog (binS BinOp.add 3 (ci 1) (tm 22) (vi 1) t22) w fun t23 w =>
  m5_3 R l1 t23 g3 t7 w
def m5_1 (R : VP) (l1 most2 g3 t7 : Value) (w : World) : Prop :=
  callP Try.prog (fnV 12) #[l1] w fun t18 w =>
  m5_2 R t18 most2 g3 t7 w
def m5_0 (R : VP) (g0 l1 most2 : Value) (w : World) : Prop :=
  valP Try.prog (Instr.box 23 g0) w fun g3 w =>
  valP Try.prog (Instr.alloc 28 true (.tuple #[])) w fun t7 w =>
  m5_1 R l1 most2 g3 t7 w
abbrev W5 := cwp Try.prog (fun i => cond (Nat.beq i 9) 4 (0))
noncomputable def k5_0 := bodyOf Try.f5
noncomputable def k5_1 := c2 k5_0
noncomputable def k5_2 := c2 k5_1
noncomputable def k5_3 := c2 k5_2
noncomputable def k5_4 := c2 k5_3
noncomputable def k5_5 := c2 k5_4
noncomputable def k5_6 := c2 k5_5
noncomputable def k5_7 := c2 k5_6
noncomputable def k5_8 := c1 (c1 (c1 k5_5))
noncomputable def k5_9 := c2 k5_8
noncomputable def k5_10 := c2 (c1 k5_9)
noncomputable def k5_11 := c2 k5_10
noncomputable def k5_12 := c2 k5_11
noncomputable def k5_13 := c2 k5_12
noncomputable def k5_14 := c2 k5_13
noncomputable def k5_15 := c2 k5_14
noncomputable def k5_16 := c2 (c1 k5_13)
noncomputable def k5_17 := c1 (c1 k5_16)
noncomputable def k5_18 := c2 k5_17
noncomputable def k5_19 := c2 k5_18
noncomputable def k5_20 := c2 (c1 k5_17)
noncomputable def k5_21 := c2 (c1 k5_11)
noncomputable def k5_22 := c2 (c1 k5_21)
noncomputable def k5_23 := c2 (c1 k5_8)
abbrev hR5 (R : VP) (Q : EQ) : Prop := ∀ e w, (valS Try.prog (loadC 28 (e 7)) w fun r1 =>
R (Value.tuple #[(e 6), r1, (e 8)]) w) → Q .ret e w
theorem s5_22 {K1 : (Value × Value) → World → Prop} (hR : hR5 R Q) (e : Env) (w : World) (h : m5_22 R K1 (e 6) (e 7) (e 8) w) : W5 k5_22 Q e w := by
  exact reA (hR _ _ h)
theorem s5_19 {K1 : (Value × Value) → World → Prop} {K2 : (Value × Value) → World → Prop} (hN : ∀ e w, (K2 ((e 10), (e 16)) w) → Q .normal e w) (e : Env) (w : World) (h : m5_19 R K1 K2 (e 1) (e 2) (e 3) (e 7) (e 9) (e 10) (e 11) (e 12) (e 15) (e 16) w) : W5 k5_19 Q e w := by
  exact rgA 13 (fun e w => K2 ((e 10), (e 16)) w) h hN
theorem s5_18 {K1 : (Value × Value) → World → Prop} {K2 : (Value × Value) → World → Prop} (hN : ∀ e w, (K2 ((e 10), (e 16)) w) → Q .normal e w) (e : Env) (w : World) (h : m5_18 R K1 K2 (e 1) (e 2) (e 3) (e 7) (e 9) (e 10) (e 11) (e 12) (e 15) (e 16) w) : W5 k5_18 Q e w := by
  refine seA ?_
  have hN : ∀ e w, (m5_19 R K1 K2 (e 1) (e 2) (e 3) (e 7) (e 9) (e 10) (e 11) (e 12) (e 15) (e 16) w) → (thenE (W5 k5_19 Q) Q) .normal e w := fun e w h => then_N (s5_19 hN e w h)
  refine block_ok 3 (by kernel_rfl) ?_
  exact rgA 14 (fun e w => m5_19 R K1 K2 (e 1) (e 2) (e 3) (e 7) (e 9) (e 10) (e 11) (e 12) (e 15) (e 16) w) h fun e w h => block_N (hN e w h)
theorem s5_15 {K1 : (Value × Value) → World → Prop} (hN : ∀ e w, (K1 ((e 1), (e 10)) w) → Q .normal e w) (e : Env) (w : World) (h : m5_15 R K1 (e 1) (e 2) (e 3) (e 7) (e 9) (e 10) (e 11) w) : W5 k5_15 Q e w := by
  exact rgA 16 (fun e w => K1 ((e 1), (e 10)) w) h hN
theorem s5_14 {K1 : (Value × Value) → World → Prop} (hN : ∀ e w, (K1 ((e 1), (e 10)) w) → Q .normal e w) (e : Env) (w : World) (h : m5_14 R K1 (e 1) (e 2) (e 3) (e 7) (e 9) (e 10) (e 11) (e 12) w) : W5 k5_14 Q e w := by
  refine seA ?_
  exact rgA 15 (fun e w => m5_15 R K1 (e 1) (e 2) (e 3) (e 7) (e 9) (e 10) (e 11) w) h fun e w h => then_N (s5_15 hN e w h)
theorem s5_20 {K1 : (Value × Value) → World → Prop} {K2 : (Value × Value) → World → Prop} (hN : ∀ e w, (m5_18 R K1 K2 (e 1) (e 2) (e 3) (e 7) (e 9) (e 10) (e 11) (e 12) (e 15) (e 16) w) → Q .normal e w) (hX2 : ∀ e w, (m5_14 R K1 (e 1) (e 2) (e 3) (e 7) (e 9) (e 10) (e 11) (e 12) w) → Q (.exit 2) e w) (e : Env) (w : World) (h : m5_20 R K1 K2 (e 1) (e 2) (e 3) (e 7) (e 9) (e 10) (e 11) (e 12) (e 15) (e 16) (e 51) w) : W5 k5_20 Q e w := by
  refine coA (Operand.tmp 51) h (fun h1 => ?_) (fun h1 => ?_)
  · exact skA (hN _ _ h1)
  · exact exA 2 (hX2 _ _ h1)
theorem s5_17 {K1 : (Value × Value) → World → Prop} {K2 : (Value × Value) → World → Prop} (hN : ∀ e w, (K2 ((e 10), (e 16)) w) → Q .normal e w) (hX2 : ∀ e w, (m5_14 R K1 (e 1) (e 2) (e 3) (e 7) (e 9) (e 10) (e 11) (e 12) w) → Q (.exit 2) e w) (e : Env) (w : World) (h : m5_17 R K1 K2 (e 1) (e 2) (e 3) (e 7) (e 9) (e 10) (e 11) (e 12) (e 15) (e 16) w) : W5 k5_17 Q e w := by
  refine seA ?_
  have hN : ∀ e w, (m5_18 R K1 K2 (e 1) (e 2) (e 3) (e 7) (e 9) (e 10) (e 11) (e 12) (e 15) (e 16) w) → (thenE (W5 k5_18 Q) Q) .normal e w := fun e w h => then_N (s5_18 hN e w h)
  have hX2 : ∀ e w, (m5_14 R K1 (e 1) (e 2) (e 3) (e 7) (e 9) (e 10) (e 11) (e 12) w) → (thenE (W5 k5_18 Q) Q) (.exit 2) e w := fun e w h => then_X (hX2 e w h)
  refine seA ?_
  exact rgA 12 (fun e w => m5_20 R K1 K2 (e 1) (e 2) (e 3) (e 7) (e 9) (e 10) (e 11) (e 12) (e 15) (e 16) (e 51) w) h fun e w h => then_N (s5_20 hN hX2 e w h)
theorem s5_16 {K1 : (Value × Value) → World → Prop} (hN : ∀ e w, (m5_14 R K1 (e 1) (e 2) (e 3) (e 7) (e 9) (e 10) (e 11) (e 12) w) → Q .normal e w) (e : Env) (w : World) (h : m5_16 R K1 (e 1) (e 2) (e 3) (e 7) (e 9) (e 10) (e 11) (e 12) (e 15) (e 16) w) : W5 k5_16 Q e w := by
  refine block_ok 2 (by kernel_rfl) ?_
  have hX2 : ∀ e w, (m5_14 R K1 (e 1) (e 2) (e 3) (e 7) (e 9) (e 10) (e 11) (e 12) w) → (inBlockE 2 Q) (.exit 2) e w := fun e w h => inBlock_same (Q := Q) 2 (hN e w h)
  refine loop_ok' (fun (e : Env) => (e 10, e 16)) [1, 2, 3, 7, 9, 11, 12, 15] (by kernel_rfl) (by kernel_rfl) h (fun K e' w' hk h' => ?_)
  have r1 : e' 1 = e 1 := hk 1 (by decide)
  have r2 : e' 2 = e 2 := hk 2 (by decide)
  have r3 : e' 3 = e 3 := hk 3 (by decide)
  have r7 : e' 7 = e 7 := hk 7 (by decide)
  have r9 : e' 9 = e 9 := hk 9 (by decide)
  have r11 : e' 11 = e 11 := hk 11 (by decide)
  have r12 : e' 12 = e 12 := hk 12 (by decide)
  have r15 : e' 15 = e 15 := hk 15 (by decide)
  have hX2 : ∀ e w, (m5_14 R K1 (e 1) (e 2) (e 3) (e 7) (e 9) (e 10) (e 11) (e 12) w) → (thenE (fun (e : Env) w => K ((e 10), (e 16)) w) (inBlockE 2 Q)) (.exit 2) e w := fun e w h => then_X (hX2 e w h)
  exact s5_17 (K1 := K1) (K2 := K) (fun _ _ h => then_N h) hX2 e' w' (by rw [r1, r2, r3, r7, r9, r11, r12, r15]; exact h')
theorem s5_13 {K1 : (Value × Value) → World → Prop} (hN : ∀ e w, (K1 ((e 1), (e 10)) w) → Q .normal e w) (e : Env) (w : World) (h : m5_13 R K1 (e 1) (e 2) (e 3) (e 7) (e 9) (e 10) (e 11) (e 12) (e 15) w) : W5 k5_13 Q e w := by
  refine seA ?_
  have hN : ∀ e w, (m5_14 R K1 (e 1) (e 2) (e 3) (e 7) (e 9) (e 10) (e 11) (e 12) w) → (thenE (W5 k5_14 Q) Q) .normal e w := fun e w h => then_N (s5_14 hN e w h)
  refine seA ?_
  exact rgA 11 (fun e w => m5_16 R K1 (e 1) (e 2) (e 3) (e 7) (e 9) (e 10) (e 11) (e 12) (e 15) (e 16) w) h fun e w h => then_N (s5_16 hN e w h)
theorem s5_12 {K1 : (Value × Value) → World → Prop} (hN : ∀ e w, (K1 ((e 1), (e 10)) w) → Q .normal e w) (e : Env) (w : World) (h : m5_12 R K1 (e 1) (e 2) (e 3) (e 7) (e 9) (e 10) (e 11) (e 12) w) : W5 k5_12 Q e w := by
  refine seA ?_
  exact rgA 10 (fun e w => m5_13 R K1 (e 1) (e 2) (e 3) (e 7) (e 9) (e 10) (e 11) (e 12) (e 15) w) h fun e w h => then_N (s5_13 hN e w h)
theorem s5_21 {K1 : (Value × Value) → World → Prop} (hN : ∀ e w, (m5_12 R K1 (e 1) (e 2) (e 3) (e 7) (e 9) (e 10) (e 11) (e 12) w) → Q .normal e w) (hR : hR5 R Q) (e : Env) (w : World) (h : m5_21 R K1 (e 1) (e 2) (e 3) (e 7) (e 9) (e 10) (e 11) (e 12) (e 43) w) : W5 k5_21 Q e w := by
  refine coA (Operand.tmp 43) h (fun h1 => ?_) (fun h1 => ?_)
  · refine seA ?_
    have hN : ∀ e w, (m5_22 R K1 (e 6) (e 7) (e 8) w) → (thenE (W5 k5_22 Q) Q) .normal e w := fun e w h => then_N (s5_22 hR e w h)
    exact taA 9 2 (fun e w => m5_22 R K1 (e 6) (e 7) (e 8) w) h1 hN
  · exact skA (hN _ _ h1)
theorem s5_11 {K1 : (Value × Value) → World → Prop} (hN : ∀ e w, (K1 ((e 1), (e 10)) w) → Q .normal e w) (hR : hR5 R Q) (e : Env) (w : World) (h : m5_11 R K1 (e 1) (e 2) (e 3) (e 7) (e 9) (e 10) (e 11) (e 12) (e 14) w) : W5 k5_11 Q e w := by
  refine seA ?_
  have hN : ∀ e w, (m5_12 R K1 (e 1) (e 2) (e 3) (e 7) (e 9) (e 10) (e 11) (e 12) w) → (thenE (W5 k5_12 Q) Q) .normal e w := fun e w h => then_N (s5_12 hN e w h)
  have hR : ∀ e w, (valS Try.prog (loadC 28 (e 7)) w fun r1 =>
  R (Value.tuple #[(e 6), r1, (e 8)]) w) → (thenE (W5 k5_12 Q) Q) .ret e w := fun e w h => then_R (hR e w h)
  refine seA ?_
  exact rgA 8 (fun e w => m5_21 R K1 (e 1) (e 2) (e 3) (e 7) (e 9) (e 10) (e 11) (e 12) (e 43) w) h fun e w h => then_N (s5_21 hN hR e w h)
theorem s5_10 {K1 : (Value × Value) → World → Prop} (hN : ∀ e w, (K1 ((e 1), (e 10)) w) → Q .normal e w) (hR : hR5 R Q) (e : Env) (w : World) (h : m5_10 R K1 (e 1) (e 2) (e 3) (e 7) (e 9) (e 10) (e 11) w) : W5 k5_10 Q e w := by
  refine seA ?_
  have hN : ∀ e w, (m5_11 R K1 (e 1) (e 2) (e 3) (e 7) (e 9) (e 10) (e 11) (e 12) (e 14) w) → (thenE (W5 k5_11 Q) Q) .normal e w := fun e w h => then_N (s5_11 hN hR e w h)
  exact treeJ_ok 7 14 (bt 14 0) (.take 0 (bt 14 1) (.take 1 (bt 14 3) (.take 2 (bt 14 7) (.take 3 (bt 14 15) (.take 4 (bt 14 31) (.alt 5 (bt 14 63) (.take 6 (bt 14 127) (.take 7 (bt 14 255) (.take 8 (bt 14 511) (.take 9 (bt 14 1023) (.alt 10 (bt 14 2047) (.alt 11 (bt 14 4095) (.take 12 (bt 14 8191) (.take 13 (bt 14 16383) .done)) .stop) .stop))))) (.alt 10 (bt 14 1055) (.alt 5 (bt 14 1087) (.take 6 (bt 14 1151) (.take 7 (bt 14 1279) (.take 8 (bt 14 1535) (.take 9 (bt 14 2047) (.alt 11 (bt 14 4095) (.take 12 (bt 14 8191) (.take 13 (bt 14 16383) .done)) .stop))))) .stop) .stop))))))) (fun e w => m5_11 R K1 (e 1) (e 2) (e 3) (e 7) (e 9) (e 10) (e 11) (e 12) (e 14) w) (by kernel_rfl) (by kernel_rfl) (by kernel_rfl) (by kernel_rfl) (by kernel_rfl) (by kernel_rfl) (kcast (by kernel_rfl) h) hN (by kernel_rfl)
theorem s5_9 {K1 : (Value × Value) → World → Prop} (hN : ∀ e w, (K1 ((e 1), (e 10)) w) → Q .normal e w) (hR : hR5 R Q) (e : Env) (w : World) (h : m5_9 R K1 (e 1) (e 2) (e 3) (e 7) (e 9) (e 10) w) : W5 k5_9 Q e w := by
  refine block_ok 1 (by kernel_rfl) ?_
  have hN : ∀ e w, (K1 ((e 1), (e 10)) w) → (inBlockE 1 Q) .normal e w := fun e w h => block_N (hN e w h)
  have hR : ∀ e w, (valS Try.prog (loadC 28 (e 7)) w fun r1 =>
  R (Value.tuple #[(e 6), r1, (e 8)]) w) → (inBlockE 1 Q) .ret e w := fun e w h => block_R (hR e w h)
  refine seA ?_
  exact rgA 6 (fun e w => m5_10 R K1 (e 1) (e 2) (e 3) (e 7) (e 9) (e 10) (e 11) w) h fun e w h => then_N (s5_10 (R := R) (Q := (inBlockE 1 Q)) hN hR e w h)
theorem s5_7 (hR : hR5 R Q) (e : Env) (w : World) (h : m5_7 R (e 6) (e 7) (e 8) w) : W5 k5_7 Q e w := by
  exact reA (hR _ _ h)
theorem s5_6 (hR : hR5 R Q) (e : Env) (w : World) (h : m5_6 R (e 3) (e 7) (e 9) (e 10) w) : W5 k5_6 Q e w := by
  refine seA ?_
  have hN : ∀ e w, (m5_7 R (e 6) (e 7) (e 8) w) → (thenE (W5 k5_7 Q) Q) .normal e w := fun e w h => then_N (s5_7 hR e w h)
  exact treeJ_ok 17 8 (bt 8 0) (.take 0 (bt 8 1) (.take 1 (bt 8 3) (.take 2 (bt 8 7) (.take 3 (bt 8 15) (.alt 4 (bt 8 31) (.take 5 (bt 8 63) (.alt 6 (bt 8 127) (.take 7 (bt 8 255) .done) .stop)) .stop))))) (fun e w => m5_7 R (e 6) (e 7) (e 8) w) (by kernel_rfl) (by kernel_rfl) (by kernel_rfl) (by kernel_rfl) (by kernel_rfl) (by kernel_rfl) (kcast (by kernel_rfl) h) hN (by kernel_rfl)
theorem s5_23 {K1 : (Value × Value) → World → Prop} (hN : ∀ e w, (m5_9 R K1 (e 1) (e 2) (e 3) (e 7) (e 9) (e 10) w) → Q .normal e w) (hX0 : ∀ e w, (m5_6 R (e 3) (e 7) (e 9) (e 10) w) → Q (.exit 0) e w) (e : Env) (w : World) (h : m5_23 R K1 (e 1) (e 2) (e 3) (e 7) (e 9) (e 10) (e 27) w) : W5 k5_23 Q e w := by
  refine coA (Operand.tmp 27) h (fun h1 => ?_) (fun h1 => ?_)
  · exact skA (hN _ _ h1)
  · exact exA 0 (hX0 _ _ h1)
theorem s5_8 {K1 : (Value × Value) → World → Prop} (hN : ∀ e w, (K1 ((e 1), (e 10)) w) → Q .normal e w) (hR : hR5 R Q) (hX0 : ∀ e w, (m5_6 R (e 3) (e 7) (e 9) (e 10) w) → Q (.exit 0) e w) (e : Env) (w : World) (h : m5_8 R K1 (e 1) (e 2) (e 3) (e 7) (e 9) (e 10) w) : W5 k5_8 Q e w := by
  refine seA ?_
  have hN : ∀ e w, (m5_9 R K1 (e 1) (e 2) (e 3) (e 7) (e 9) (e 10) w) → (thenE (W5 k5_9 Q) Q) .normal e w := fun e w h => then_N (s5_9 hN hR e w h)
  have hX0 : ∀ e w, (m5_6 R (e 3) (e 7) (e 9) (e 10) w) → (thenE (W5 k5_9 Q) Q) (.exit 0) e w := fun e w h => then_X (hX0 e w h)
  refine seA ?_
  exact rgA 5 (fun e w => m5_23 R K1 (e 1) (e 2) (e 3) (e 7) (e 9) (e 10) (e 27) w) h fun e w h => then_N (s5_23 hN hX0 e w h)
theorem s5_5 (hR : hR5 R Q) (e : Env) (w : World) (h : m5_5 R (e 1) (e 2) (e 3) (e 7) (e 9) (e 10) w) : W5 k5_5 Q e w := by
  refine seA ?_
  have hN : ∀ e w, (m5_6 R (e 3) (e 7) (e 9) (e 10) w) → (thenE (W5 k5_6 Q) Q) .normal e w := fun e w h => then_N (s5_6 hR e w h)
  have hR : ∀ e w, (valS Try.prog (loadC 28 (e 7)) w fun r1 =>
  R (Value.tuple #[(e 6), r1, (e 8)]) w) → (thenE (W5 k5_6 Q) Q) .ret e w := fun e w h => then_R (hR e w h)
  refine block_ok 0 (by kernel_rfl) ?_
  have hX0 : ∀ e w, (m5_6 R (e 3) (e 7) (e 9) (e 10) w) → (inBlockE 0 (thenE (W5 k5_6 Q) Q)) (.exit 0) e w := fun e w h => inBlock_same (Q := (thenE (W5 k5_6 Q) Q)) 0 (hN e w h)
  have hR : ∀ e w, (valS Try.prog (loadC 28 (e 7)) w fun r1 =>
  R (Value.tuple #[(e 6), r1, (e 8)]) w) → (inBlockE 0 (thenE (W5 k5_6 Q) Q)) .ret e w := fun e w h => block_R (hR e w h)
  refine loop_ok' (fun (e : Env) => (e 1, e 10)) [2, 3, 7, 9] (by kernel_rfl) (by kernel_rfl) h (fun K e' w' hk h' => ?_)
  have r2 : e' 2 = e 2 := hk 2 (by decide)
  have r3 : e' 3 = e 3 := hk 3 (by decide)
  have r7 : e' 7 = e 7 := hk 7 (by decide)
  have r9 : e' 9 = e 9 := hk 9 (by decide)
  have hR : ∀ e w, (valS Try.prog (loadC 28 (e 7)) w fun r1 =>
  R (Value.tuple #[(e 6), r1, (e 8)]) w) → (thenE (fun (e : Env) w => K ((e 1), (e 10)) w) (inBlockE 0 (thenE (W5 k5_6 Q) Q))) .ret e w := fun e w h => then_R (hR e w h)
  have hX0 : ∀ e w, (m5_6 R (e 3) (e 7) (e 9) (e 10) w) → (thenE (fun (e : Env) w => K ((e 1), (e 10)) w) (inBlockE 0 (thenE (W5 k5_6 Q) Q))) (.exit 0) e w := fun e w h => then_X (hX0 e w h)
  exact s5_8 (K1 := K) (fun _ _ h => then_N h) hR hX0 e' w' (by rw [r2, r3, r7, r9]; exact h')
theorem s5_4 (hR : hR5 R Q) (e : Env) (w : World) (h : m5_4 R (e 1) (e 2) (e 3) (e 7) (e 9) w) : W5 k5_4 Q e w := by
  refine seA ?_
  exact rgA 4 (fun e w => m5_5 R (e 1) (e 2) (e 3) (e 7) (e 9) (e 10) w) h fun e w h => then_N (s5_5 hR e w h)
theorem s5_3 (hR : hR5 R Q) (e : Env) (w : World) (h : m5_3 R (e 1) (e 2) (e 3) (e 7) w) : W5 k5_3 Q e w := by
  refine seA ?_
  exact rgA 3 (fun e w => m5_4 R (e 1) (e 2) (e 3) (e 7) (e 9) w) h fun e w h => then_N (s5_4 hR e w h)
theorem s5_2 (hR : hR5 R Q) (e : Env) (w : World) (h : m5_2 R (e 1) (e 2) (e 3) (e 7) w) : W5 k5_2 Q e w := by
  refine seA ?_
  exact rgA 2 (fun e w => m5_3 R (e 1) (e 2) (e 3) (e 7) w) h fun e w h => then_N (s5_3 hR e w h)
theorem s5_1 (hR : hR5 R Q) (e : Env) (w : World) (h : m5_1 R (e 1) (e 2) (e 3) (e 7) w) : W5 k5_1 Q e w := by
  refine seA ?_
  exact rgA 1 (fun e w => m5_2 R (e 1) (e 2) (e 3) (e 7) w) h fun e w h => then_N (s5_2 hR e w h)
theorem s5_0 (hR : hR5 R Q) (e : Env) (w : World) (h : m5_0 R (e 0) (e 1) (e 2) w) : W5 k5_0 Q e w := by
  refine seA ?_
  exact rgA 0 (fun e w => m5_1 R (e 1) (e 2) (e 3) (e 7) w) h fun e w h => then_N (s5_1 hR e w h)
abbrev m5 (R : VP) (g0 l1 most2 : Value) (w : World) : Prop := m5_0 R g0 l1 most2 w
theorem s5 (g0 l1 most2 : Value) {R : VP} {w : World} (h : m5 R g0 l1 most2 w) :
    Calls Try.prog 5 #[g0, l1, most2] w fun e w' => ∃ v, e = .returned v ∧ R v w' :=
  calls_of_cwp (st := (fun i => cond (Nat.beq i 9) 4 (0))) (c := k5_0) (by kernel_rfl) Try.func5 (by kernel_rfl) (Nat.le_of_ble_eq_true (by kernel_rfl)) (by kernel_rfl)
    (s5_0 (R := R) (Q := endE Try.prog Try.f5 R) (fun e w h => kcast (by kernel_rfl) h) (argsE #[g0, l1, most2]) w (kcast (by kernel_rfl) h))
def m3_7 (R : VP) (t6 : Value) (w : World) : Prop :=
  R t6 w
def m3_5 (R : VP) (t6 : Value) (w : World) : Prop :=
  R t6 w
def m3_4 (R : VP) (all7 s8 a10 : Value) (w : World) : Prop :=
  builtinP Try.prog Builtin.len #[25] 3 #[false] #[a10] w fun t27 w =>
  valP Try.prog (Instr.fieldAt 28 s8 4) w fun t28 w =>
  valP Try.prog (Instr.loadAt 26 t28) w fun t29 w =>
  builtinP Try.prog Builtin.len #[26] 3 #[false] #[t29] w fun t30 w =>
  valP Try.prog (binS BinOp.add 3 (tm 30) (ci 1) t30 (vi 1)) w fun t31 w =>
  valP Try.prog (binS BinOp.leq 3 (tm 27) (tm 31) t27 t31) w fun t32 w =>
  condP t32
  (builtinP Try.prog Builtin.len #[25] 3 #[false] #[all7] w fun t36 w =>
  callP Try.prog (fnV 7) #[a10, t36] w fun t37 w =>
  callP Try.prog (fnV 8) #[t37, a10] w fun t39 w =>
  pickP t32 t39 (Value.bool false) fun t40 =>
  condP t40
  (callP Try.prog (fnV 6) #[] w fun t42 w =>
  pickP t40 t42 (Value.bool false) fun t43 =>
  m3_5 R t43 w)
  (pickP t40 undef (Value.bool false) fun t43 =>
  m3_5 R t43 w))
  (pickP t32 undef (Value.bool false) fun t40 =>
  condP t40
  (callP Try.prog (fnV 6) #[] w fun t42 w =>
  pickP t40 t42 (Value.bool false) fun t43 =>
  m3_5 R t43 w)
  (pickP t40 undef (Value.bool false) fun t43 =>
  m3_5 R t43 w))
def m3_3 (R : VP) (all7 s8 : Value) (w : World) : Prop :=
  builtinP Try.prog Builtin.len #[25] 3 #[false] #[all7] w fun t24 w =>
  callP Try.prog (fnV 7) #[all7, t24] w fun t25 w =>
  m3_4 R all7 s8 t25 w
def m3_6 (R : VP) (all7 s8 t20 : Value) (w : World) : Prop :=
  condP t20
  (callP Try.prog (fnV 6) #[] w fun t21 w =>
  m3_7 R t21 w)
  (m3_3 R all7 s8 w)
def m3_2 (R : VP) (all7 s8 ok9 : Value) (w : World) : Prop :=
  valP Try.prog (Op.unary UnOp.not ok9) w fun t20 w =>
  m3_6 R all7 s8 t20 w
def m3_1 (R : VP) (l1 most2 g3 : Value) (w : World) : Prop :=
  valP Try.prog (Instr.loadAt 23 g3) w fun t12 w =>
  callP Try.prog (fnV 5) #[t12, l1, most2] w fun t15 w =>
  valP Try.prog (Instr.extract t15 0) w fun t16 w =>
  valP Try.prog (Instr.extract t15 1) w fun t17 w =>
  valP Try.prog (Instr.extract t15 2) w fun t18 w =>
  valP Try.prog (Instr.alloc 28 true (.tuple #[])) w fun s8 w =>
  unitP Try.prog (Instr.storeAt 28 s8 t17) w fun _ w =>
  m3_2 R t16 s8 t18 w
def m3_0 (R : VP) (g0 l1 most2 : Value) (w : World) : Prop :=
  valP Try.prog (Instr.box 23 g0) w fun g3 w =>
  m3_1 R l1 most2 g3 w
abbrev W3 := cwp Try.prog (fun i => 0)
noncomputable def k3_0 := bodyOf Try.f3
noncomputable def k3_1 := c2 k3_0
noncomputable def k3_2 := c2 k3_1
noncomputable def k3_3 := c2 k3_2
noncomputable def k3_4 := c2 k3_3
noncomputable def k3_5 := c2 k3_4
noncomputable def k3_6 := c2 (c1 k3_2)
noncomputable def k3_7 := c2 (c1 k3_6)
abbrev hR3 (R : VP) (Q : EQ) : Prop := ∀ e w, (R (e 6) w) → Q .ret e w
theorem s3_7 (hR : hR3 R Q) (e : Env) (w : World) (h : m3_7 R (e 6) w) : W3 k3_7 Q e w := by
  exact reA (hR _ _ h)
theorem s3_5 (hR : hR3 R Q) (e : Env) (w : World) (h : m3_5 R (e 6) w) : W3 k3_5 Q e w := by
  exact reA (hR _ _ h)
theorem s3_4 (hR : hR3 R Q) (e : Env) (w : World) (h : m3_4 R (e 7) (e 8) (e 10) w) : W3 k3_4 Q e w := by
  refine seA ?_
  exact rgA 5 (fun e w => m3_5 R (e 6) w) h fun e w h => then_N (s3_5 hR e w h)
theorem s3_3 (hR : hR3 R Q) (e : Env) (w : World) (h : m3_3 R (e 7) (e 8) w) : W3 k3_3 Q e w := by
  refine seA ?_
  exact rgA 4 (fun e w => m3_4 R (e 7) (e 8) (e 10) w) h fun e w h => then_N (s3_4 hR e w h)
theorem s3_6 (hN : ∀ e w, (m3_3 R (e 7) (e 8) w) → Q .normal e w) (hR : hR3 R Q) (e : Env) (w : World) (h : m3_6 R (e 7) (e 8) (e 20) w) : W3 k3_6 Q e w := by
  refine coA (Operand.tmp 20) h (fun h1 => ?_) (fun h1 => ?_)
  · refine seA ?_
    exact rgA 3 (fun e w => m3_7 R (e 6) w) h1 fun e w h => then_N (s3_7 hR e w h)
  · exact skA (hN _ _ h1)
theorem s3_2 (hR : hR3 R Q) (e : Env) (w : World) (h : m3_2 R (e 7) (e 8) (e 9) w) : W3 k3_2 Q e w := by
  refine seA ?_
  have hN : ∀ e w, (m3_3 R (e 7) (e 8) w) → (thenE (W3 k3_3 Q) Q) .normal e w := fun e w h => then_N (s3_3 hR e w h)
  have hR : hR3 R (thenE (W3 k3_3 Q) Q) := fun e w h => then_R (hR e w h)
  refine seA ?_
  exact rgA 2 (fun e w => m3_6 R (e 7) (e 8) (e 20) w) h fun e w h => then_N (s3_6 hN hR e w h)
theorem s3_1 (hR : hR3 R Q) (e : Env) (w : World) (h : m3_1 R (e 1) (e 2) (e 3) w) : W3 k3_1 Q e w := by
  refine seA ?_
  exact rgA 1 (fun e w => m3_2 R (e 7) (e 8) (e 9) w) h fun e w h => then_N (s3_2 hR e w h)
theorem s3_0 (hR : hR3 R Q) (e : Env) (w : World) (h : m3_0 R (e 0) (e 1) (e 2) w) : W3 k3_0 Q e w := by
  refine seA ?_
  exact rgA 0 (fun e w => m3_1 R (e 1) (e 2) (e 3) w) h fun e w h => then_N (s3_1 hR e w h)
abbrev m3 (R : VP) (g0 l1 most2 : Value) (w : World) : Prop := m3_0 R g0 l1 most2 w
theorem s3 (g0 l1 most2 : Value) {R : VP} {w : World} (h : m3 R g0 l1 most2 w) :
    Calls Try.prog 3 #[g0, l1, most2] w fun e w' => ∃ v, e = .returned v ∧ R v w' :=
  calls_of_cwp (st := (fun i => 0)) (c := k3_0) (by kernel_rfl) Try.func3 (by kernel_rfl) (Nat.le_of_ble_eq_true (by kernel_rfl)) (by kernel_rfl)
    (s3_0 (R := R) (Q := endE Try.prog Try.f3 R) (fun e w h => kcast (by kernel_rfl) h) (argsE #[g0, l1, most2]) w (kcast (by kernel_rfl) h))
end Go.Proofs.Ytnhgdngbdoifnaa.M
