/- An engine's Feed. -/
import Derived.Test.YtnhgdngbdoifnaaK7
import Derived.Test.YtnhgdngbdoifnaaFwW
import Derived.Test.YtnhgdngbdoifnaaMbase0
import Derived.Test.YtnhgdngbdoifnaaMmid0
import Derived.Test.YtnhgdngbdoifnaaMgrid0
import Derived.Test.YtnhgdngbdoifnaaMfold0
import Derived.Test.YtnhgdngbdoifnaaMeng0
namespace Go.Proofs.Ytnhgdngbdoifnaa.M
open Go.Proofs.Ytnhgdngbdoifnaa.F Go.RowKit
set_option linter.unusedVariables false
set_option linter.unusedSimpArgs false
set_option maxRecDepth 100000
set_option maxHeartbeats 2000000
attribute [local irreducible] Res.cells Res.row Res.map Res.any World.cell? World.frozen? Instr.fieldAt Instr.loadAt Instr.storeAt Instr.indexAt Instr.lookup Instr.mapUpdate Instr.box Instr.build Instr.buildSlice Instr.extract Instr.alloc Instr.field Instr.index Instr.sliceAt Instr.makeSlice Instr.makeMap Instr.makeFunc binS Op.unary Sem.run
section
variable {w0 w : World} {F : List Nat} {L : List Res}
section
variable {g : Gr} {s : Sg} {r : Rc} {A : Option Addr} {c b3 b4 b5 b6 : Nat} {B : List Res}
theorem feed_10 {l : List Ce} {A' : Option Addr} {c' n : Nat} {R : List Res} (hok : SgOk s) (hlt : s.late ≤ 1099511627776) (hg : MayG g) (hr : I64 r.time) (hsl : s.L.length ≤ 64) (hlo : ∀ x ∈ l, CeOk x) (hEs : Sl w0 F (R ++ L) A c s.L) (hE : Sl w0 F (R ++ L) A' c' l) (hS : St w0 F w (FdL (R ++ (B ++ L)) g s r A c b3 b4 b5 b6)) :
    m24_10 (FeedR w0 F B L) (.pointer (some ⟨b3, 0, none⟩)) (.pointer (some ⟨b4, 0, none⟩)) (.pointer (some ⟨b5, 0, none⟩)) (.pointer (some ⟨b6, 0, none⟩)) (.slice A' l.length c') (.int .i64 (n : Int)) w := by
  have leaf : ∀ t : Bool, (t = false → l.length ≤ 64) → m24_24 (FeedR w0 F B L) (.pointer (some ⟨b3, 0, none⟩)) (.pointer (some ⟨b4, 0, none⟩)) (.pointer (some ⟨b5, 0, none⟩)) (.pointer (some ⟨b6, 0, none⟩)) (.slice A' l.length c') (.bool t) w := fun t ht => by
    have hb := hok.1.2.1
    unfold m24_24
    cases t with
    | true =>
      refine cond_t rfl ?_
      first | refine valP_ok (fa28_1 _ _) ?_ | refine valP_ok (fao28_1 _ _ _) ?_
      first | refine valP_ok (ld3 (hS.cell 0 rfl rfl)) ?_ | refine valP_ok (ld3 (hS.cell 1 rfl rfl)) ?_ | refine valP_ok (ld3 (hS.cell 2 rfl rfl)) ?_ | refine valP_ok (ld3 (hS.cell 3 rfl rfl)) ?_ | refine valP_ok (ld3 (hS.cell 4 rfl rfl)) ?_ | refine valP_ok (ld3 (hS.cell 5 rfl rfl)) ?_ | refine valP_ok (ld3 (hS.cell 6 rfl rfl)) ?_ | refine valP_ok (ld3 (hS.cell 7 rfl rfl)) ?_ | refine valP_ok (ld3 (by assumption)) ?_
      refine valP_ok (add_ok _ _ _ (by omega) (by omega) _) ?_
      first | refine valP_ok (fa28_1 _ _) ?_ | refine valP_ok (fao28_1 _ _ _) ?_
      first | refine store_at 0 st3 hS rfl (by simp) rfl ?_ | refine store_at 1 st3 hS rfl (by simp) rfl ?_ | refine store_at 2 st3 hS rfl (by simp) rfl ?_ | refine store_at 3 st3 hS rfl (by simp) rfl ?_ | refine store_at 4 st3 hS rfl (by simp) rfl ?_ | refine store_at 5 st3 hS rfl (by simp) rfl ?_ | refine store_at 6 st3 hS rfl (by simp) rfl ?_ | refine store_at 7 st3 hS rfl (by simp) rfl ?_
      intro w hS
      simp only [List.set_cons_zero, List.set_cons_succ] at hS
      unfold m24_25
      first | refine valP_ok (fa28_4 _ _) ?_ | refine valP_ok (fao28_4 _ _ _) ?_
      first | refine valP_ok (ld26 (hS.cell 0 rfl rfl)) ?_ | refine valP_ok (ld26 (hS.cell 1 rfl rfl)) ?_ | refine valP_ok (ld26 (hS.cell 2 rfl rfl)) ?_ | refine valP_ok (ld26 (hS.cell 3 rfl rfl)) ?_ | refine valP_ok (ld26 (hS.cell 4 rfl rfl)) ?_ | refine valP_ok (ld26 (hS.cell 5 rfl rfl)) ?_ | refine valP_ok (ld26 (hS.cell 6 rfl rfl)) ?_ | refine valP_ok (ld26 (hS.cell 7 rfl rfl)) ?_ | refine valP_ok (ld26 (by assumption)) ?_
      exact feed_11 (s := ⟨s.mark, s.late + 1, s.bad, s.n, s.L⟩) ⟨⟨hok.1.1, by show I64 (s.late + 1); omega, hok.1.2.2⟩, hok.2⟩ hg hr hsl hok.2 hEs hS
    | false =>
      refine cond_f rfl ?_
      exact feed_11 hok hg hr (ht rfl) hlo hE hS
  unfold m24_10
  refine valP_ok (eq3 _ _ _ _ _) ?_
  refine cond_split (fun h => ?_) (fun h => ?_)
  · first | refine pick_dt (by first | assumption | omega) ?_ | refine pick_df (by first | assumption | omega) ?_ | refine pick_t (by first | rfl | assumption) ?_ | refine pick_f (by first | rfl | assumption) ?_ | refine pick_dt rfl ?_ | refine pick_df (not_not_intro rfl) ?_
    exact leaf true (fun h => (by cases h))
  · refine builtin_ok (len26 _) ?_
    refine valP_ok (gtr_ok _ _ _ _ _ _ _) ?_
    first | refine pick_dt (by first | assumption | omega) ?_ | refine pick_df (by first | assumption | omega) ?_ | refine pick_t (by first | rfl | assumption) ?_ | refine pick_f (by first | rfl | assumption) ?_ | refine pick_dt rfl ?_ | refine pick_df (not_not_intro rfl) ?_
    exact leaf _ (fun h => by have := of_decide_eq_false h; omega)
theorem feed_7 {xs : List Int} {A1 : Option Addr} {c1 : Nat} {v : Int} (hok : SgOk s) (hlt : s.late ≤ 1099511627776) (hg : MayG g) (hr : I64 r.time) (hk : I64 r.key) (hsl : s.L.length ≤ 64) (hv : I64 v) (hxl : xs.length ≤ 1048577) (hx : ∀ x ∈ xs, I64 x) (hEs : Sl w0 F L A c s.L) (hS : St w0 F w (iRow A1 c1 xs :: FdL (B ++ L) g s r A c b3 b4 b5 b6)) :
    m24_7 (FeedR w0 F B L) (.pointer (some ⟨b3, 0, none⟩)) (.pointer (some ⟨b4, 0, none⟩)) (.pointer (some ⟨b5, 0, none⟩)) (.pointer (some ⟨b6, 0, none⟩)) (.int .i64 v) (.slice A1 xs.length c1) w := by
  have hg1 := hg.1
  unfold m24_7
  first | refine valP_ok (fa28_4 _ _) ?_ | refine valP_ok (fao28_4 _ _ _) ?_
  first | refine valP_ok (ld26 (hS.cell 0 rfl rfl)) ?_ | refine valP_ok (ld26 (hS.cell 1 rfl rfl)) ?_ | refine valP_ok (ld26 (hS.cell 2 rfl rfl)) ?_ | refine valP_ok (ld26 (hS.cell 3 rfl rfl)) ?_ | refine valP_ok (ld26 (hS.cell 4 rfl rfl)) ?_ | refine valP_ok (ld26 (hS.cell 5 rfl rfl)) ?_ | refine valP_ok (ld26 (hS.cell 6 rfl rfl)) ?_ | refine valP_ok (ld26 (hS.cell 7 rfl rfl)) ?_ | refine valP_ok (ld26 (by assumption)) ?_
  unfold m24_8 m24_9 m24_26
  refine loop_in (fun u w' => ∃ (i n : Nat) (A' : Option Addr) (c' : Nat) (l : List Ce) (R : List Res), u = (.slice A' l.length c', .int .i64 (n : Int), .int .i64 (i : Int)) ∧ i ≤ xs.length ∧ n ≤ i ∧ l.length ≤ 64 + i ∧ (∀ x ∈ l, CeOk x) ∧ Sl w0 F (R ++ L) A' c' l ∧ St w0 F w' (iRow A1 c1 xs :: FdL (R ++ (B ++ L)) g s r A c b3 b4 b5 b6)) (fun u _ => xs.length - (intOf u.2.2).toNat) ⟨0, 0, A, c, s.L, [], rfl, by omega, by omega, by omega, hok.2, hEs, hS⟩ ?_
  clear hS
  rintro u w ⟨i, n, A', c', l, R, rfl, hi, hn, hl, hlo, hE, hS⟩
  simp only
  unfold m24_27
  refine builtin_ok (len51 _) ?_
  refine valP_ok (lss_ok _ _ _ _ _ _ _) ?_
  unfold m24_32
  refine cond_split (fun h => ?_) (fun h => ?_)
  · have hil : i < xs.length := by omega
    obtain ⟨gb, rfl⟩ := hS.row_ptr 0 rfl (by omega)
    have hcell : ∀ w, St w0 F w (iRow (some ⟨gb, 0, none⟩) c1 xs :: FdL (R ++ (B ++ L)) g s r A c b3 b4 b5 b6) → w.cell? ⟨gb, i, none⟩ = some (.int .i64 xs[i]) := fun w hS => hS.row_cell 0 rfl (by rw [iFlat]; simp [hil])
    unfold m24_28
    refine drawn_ok hS ?_
    intro w hS
    refine valS_ok (ld23 (hS.cell 4 rfl rfl) (hS.cell 4 rfl rfl) (hS.cell 4 rfl rfl)) ?_
    refine valS_ok (ixz51 hil _) ?_
    refine valS_ok (ld3 (hcell _ hS)) ?_
    first | refine valS_ok (fa28_0 _ _) ?_ | refine valS_ok (fao28_0 _ _ _) ?_
    first | refine valS_ok (ld3 (hS.cell 0 rfl rfl)) ?_ | refine valS_ok (ld3 (hS.cell 1 rfl rfl)) ?_ | refine valS_ok (ld3 (hS.cell 2 rfl rfl)) ?_ | refine valS_ok (ld3 (hS.cell 3 rfl rfl)) ?_ | refine valS_ok (ld3 (hS.cell 4 rfl rfl)) ?_ | refine valS_ok (ld3 (hS.cell 5 rfl rfl)) ?_ | refine valS_ok (ld3 (hS.cell 6 rfl rfl)) ?_ | refine valS_ok (ld3 (hS.cell 7 rfl rfl)) ?_ | refine valS_ok (ld3 (by assumption)) ?_
    refine callR (by kernel_rfl) (closed_ret hok.1.1 hS) ?_
    rintro _ w ⟨⟨t, rfl, -⟩, hS⟩
    first | refine valP_ok (not_ok _ _) ?_ | refine valP_ok (notb_ok _ _) ?_
    unfold m24_30
    cases t with
    | true =>
      refine cond_f rfl ?_
      unfold m24_29
      refine valP_ok (add_ok _ _ _ (by omega) (by omega) _) ?_
      exact ⟨⟨i + 1, n, A', c', l, R, rfl, by omega, by omega, by omega, hlo, hE, hS⟩, by simp [intOf]; omega⟩
    | false =>
      refine cond_t rfl ?_
      refine drawn_ok hS ?_
      intro w hS
      first | refine valS_ok (fa46_0 _ _) ?_ | refine valS_ok (fao46_0 _ _ _) ?_
      first | refine valS_ok (ld3 (hS.cell 0 rfl rfl)) ?_ | refine valS_ok (ld3 (hS.cell 1 rfl rfl)) ?_ | refine valS_ok (ld3 (hS.cell 2 rfl rfl)) ?_ | refine valS_ok (ld3 (hS.cell 3 rfl rfl)) ?_ | refine valS_ok (ld3 (hS.cell 4 rfl rfl)) ?_ | refine valS_ok (ld3 (hS.cell 5 rfl rfl)) ?_ | refine valS_ok (ld3 (hS.cell 6 rfl rfl)) ?_ | refine valS_ok (ld3 (hS.cell 7 rfl rfl)) ?_ | refine valS_ok (ld3 (by assumption)) ?_
      refine valS_ok (ixz51 hil _) ?_
      refine valS_ok (ld3 (hcell _ hS)) ?_
      have hE5 := (((((hE.mono (mem_under (R := B))).cons (Res.cells b3 23 (encGr g))).cons (Res.cells b4 28 (encS s A c))).cons (Res.cells b5 46 (encR r))).cons (Res.cells b6 28 [.int .i64 0, .int .i64 0, .int .i64 0, .int .i64 0, .slice none 0 0])).cons (iRow (some ⟨gb, 0, none⟩) c1 xs)
      refine callR (by kernel_rfl) (put46_ret hE5 (by omega) hlo hv hk (hx _ (List.getElem_mem hil)) hS) ?_
      rintro _ w ⟨A2, c2, l2, rfl, hl2, hlo2, hS⟩
      unfold m24_31
      refine valP_ok (add_ok _ _ _ (by omega) (by omega) _) ?_
      unfold m24_29
      refine valP_ok (add_ok _ _ _ (by omega) (by omega) _) ?_
      refine ⟨⟨i + 1, n + 1, A2, c2, l2, cRow A2 c2 l2 :: R, rfl, by omega, by omega, by omega, hlo2, Sl.own hS _, ?_⟩, by simp [intOf]; omega⟩
      exact St.swap (A := [_]) (B := [_, _, _, _, _]) hS
  · have hS2 := St.swap (A := [_]) (B := [_, _, _, _]) hS
    exact feed_10 (R := iRow A1 c1 xs :: R) hok hlt hg hr hsl hlo (hEs.mono fun q hq => .tail _ (List.mem_append_right _ hq)) (hE.cons _) hS2
theorem feed_ret (hok : SgOk s) (hEs : Sl w0 F L A c s.L) (hS : St w0 F w (B ++ L)) : Ret Try.prog 24 #[grv g, sgv s A c, rv r] w (FeedR w0 F B L) := by
  refine s24 _ _ _ ?_
  unfold m24
  unfold m24_0
  refine new_ok (bx23 _ _ _ _) hS ?_
  intro b3 w hS
  refine new_ok (bx28 _ _ _ _ _ _) hS ?_
  intro b4 w hS
  refine new_ok (bx46 _ _ _ _) hS ?_
  intro b5 w hS
  refine new_ok (al28 _) hS ?_
  intro b6 w hS
  have hE4 := ((((hEs.mono fun q hq => List.mem_append_right B hq).cons (Res.cells b3 23 (encGr g))).cons (Res.cells b4 28 (encS s A c))).cons (Res.cells b5 46 (encR r))).cons (Res.cells b6 28 [.int .i64 0, .int .i64 0, .int .i64 0, .int .i64 0, .slice none 0 0])
  have leaf : ∀ (t : Bool) w, St w0 F w (FdL (B ++ L) g s r A c b3 b4 b5 b6) → (t = false → MayS g s ∧ I64 r.key ∧ I64 r.time) → m24_38 (FeedR w0 F B L) (.pointer (some ⟨b3, 0, none⟩)) (.pointer (some ⟨b4, 0, none⟩)) (.pointer (some ⟨b5, 0, none⟩)) (.pointer (some ⟨b6, 0, none⟩)) (.bool t) w := fun t w hS ht => by
    unfold m24_38
    cases t with
    | true =>
      refine cond_t rfl ?_
      refine valP_ok (bd28 _) ?_
      first | refine ss28 0 hS rfl rfl rfl rfl rfl rfl ?_ | refine ss28 1 hS rfl rfl rfl rfl rfl rfl ?_ | refine ss28 2 hS rfl rfl rfl rfl rfl rfl ?_ | refine ss28 3 hS rfl rfl rfl rfl rfl rfl ?_ | refine ss28 4 hS rfl rfl rfl rfl rfl rfl ?_ | refine ss28 5 hS rfl rfl rfl rfl rfl rfl ?_ | refine ss28 6 hS rfl rfl rfl rfl rfl rfl ?_ | refine ss28 7 hS rfl rfl rfl rfl rfl rfl ?_
      intro w hS
      simp only [List.set_cons_zero, List.set_cons_succ] at hS
      unfold m24_39
      exact feed_none (St.mid (A := [_]) (B := [_, _, _]) hS)
    | false =>
      obtain ⟨hm, hk, hr⟩ := ht rfl
      obtain ⟨hg, hmk, hla, hba, hnn, hlb, h64⟩ := hm.1
      unfold in40 at hla hba hnn
      refine cond_f rfl ?_
      unfold m24_2
      first | refine valP_ok (fa28_3 _ _) ?_ | refine valP_ok (fao28_3 _ _ _) ?_
      first | refine valP_ok (ld3 (hS.cell 0 rfl rfl)) ?_ | refine valP_ok (ld3 (hS.cell 1 rfl rfl)) ?_ | refine valP_ok (ld3 (hS.cell 2 rfl rfl)) ?_ | refine valP_ok (ld3 (hS.cell 3 rfl rfl)) ?_ | refine valP_ok (ld3 (hS.cell 4 rfl rfl)) ?_ | refine valP_ok (ld3 (hS.cell 5 rfl rfl)) ?_ | refine valP_ok (ld3 (hS.cell 6 rfl rfl)) ?_ | refine valP_ok (ld3 (hS.cell 7 rfl rfl)) ?_ | refine valP_ok (ld3 (by assumption)) ?_
      refine valP_ok (eq3 _ _ _ _ _) ?_
      unfold m24_36
      refine cond_split (fun h => ?_) (fun h => ?_)
      · refine valP_ok (bd28 _) ?_
        first | refine ss28 0 hS rfl rfl rfl rfl rfl rfl ?_ | refine ss28 1 hS rfl rfl rfl rfl rfl rfl ?_ | refine ss28 2 hS rfl rfl rfl rfl rfl rfl ?_ | refine ss28 3 hS rfl rfl rfl rfl rfl rfl ?_ | refine ss28 4 hS rfl rfl rfl rfl rfl rfl ?_ | refine ss28 5 hS rfl rfl rfl rfl rfl rfl ?_ | refine ss28 6 hS rfl rfl rfl rfl rfl rfl ?_ | refine ss28 7 hS rfl rfl rfl rfl rfl rfl ?_
        intro w hS
        simp only [List.set_cons_zero, List.set_cons_succ] at hS
        exact feed_none (St.mid (A := [_]) (B := [_, _, _]) hS)
      · unfold m24_3
        first | refine valP_ok (fa28_3 _ _) ?_ | refine valP_ok (fao28_3 _ _ _) ?_
        first | refine valP_ok (ld3 (hS.cell 0 rfl rfl)) ?_ | refine valP_ok (ld3 (hS.cell 1 rfl rfl)) ?_ | refine valP_ok (ld3 (hS.cell 2 rfl rfl)) ?_ | refine valP_ok (ld3 (hS.cell 3 rfl rfl)) ?_ | refine valP_ok (ld3 (hS.cell 4 rfl rfl)) ?_ | refine valP_ok (ld3 (hS.cell 5 rfl rfl)) ?_ | refine valP_ok (ld3 (hS.cell 6 rfl rfl)) ?_ | refine valP_ok (ld3 (hS.cell 7 rfl rfl)) ?_ | refine valP_ok (ld3 (by assumption)) ?_
        refine valP_ok (add_ok _ _ _ (by omega) (by omega) _) ?_
        first | refine valP_ok (fa28_3 _ _) ?_ | refine valP_ok (fao28_3 _ _ _) ?_
        first | refine store_at 0 st3 hS rfl (by simp) rfl ?_ | refine store_at 1 st3 hS rfl (by simp) rfl ?_ | refine store_at 2 st3 hS rfl (by simp) rfl ?_ | refine store_at 3 st3 hS rfl (by simp) rfl ?_ | refine store_at 4 st3 hS rfl (by simp) rfl ?_ | refine store_at 5 st3 hS rfl (by simp) rfl ?_ | refine store_at 6 st3 hS rfl (by simp) rfl ?_ | refine store_at 7 st3 hS rfl (by simp) rfl ?_
        intro w hS
        simp only [List.set_cons_zero, List.set_cons_succ] at hS
        have hS : St w0 F w (FdL (B ++ L) g ⟨s.mark, s.late, s.bad, s.n + 1, s.L⟩ r A c b3 b4 b5 b6) := hS
        have hok : SgOk ⟨s.mark, s.late, s.bad, s.n + 1, s.L⟩ := ⟨⟨hok.1.1, hok.1.2.1, hok.1.2.2.1, by show I64 (s.n + 1); omega⟩, hok.2⟩
        unfold m24_4
        refine valP_ok (ld46 (hS.cell 1 rfl rfl) (hS.cell 1 rfl rfl) (hS.cell 1 rfl rfl)) ?_
        refine callR (by kernel_rfl) (value_ret hS) ?_
        rintro _ w ⟨⟨x, t, rfl, hx⟩, hS⟩
        refine valP_ok (extract_ok _ 0 rfl _) ?_
        refine valP_ok (extract_ok _ 1 rfl _) ?_
        unfold m24_5
        first | refine valP_ok (not_ok _ _) ?_ | refine valP_ok (notb_ok _ _) ?_
        unfold m24_33
        cases t with
        | false =>
          have hbb : Sg.bad ⟨s.mark, s.late, s.bad, s.n + 1, s.L⟩ = s.bad := rfl
          refine cond_t rfl ?_
          first | refine valP_ok (fa28_2 _ _) ?_ | refine valP_ok (fao28_2 _ _ _) ?_
          first | refine valP_ok (ld3 (hS.cell 0 rfl rfl)) ?_ | refine valP_ok (ld3 (hS.cell 1 rfl rfl)) ?_ | refine valP_ok (ld3 (hS.cell 2 rfl rfl)) ?_ | refine valP_ok (ld3 (hS.cell 3 rfl rfl)) ?_ | refine valP_ok (ld3 (hS.cell 4 rfl rfl)) ?_ | refine valP_ok (ld3 (hS.cell 5 rfl rfl)) ?_ | refine valP_ok (ld3 (hS.cell 6 rfl rfl)) ?_ | refine valP_ok (ld3 (hS.cell 7 rfl rfl)) ?_ | refine valP_ok (ld3 (by assumption)) ?_
          refine valP_ok (add_ok _ _ _ (by omega) (by omega) _) ?_
          first | refine valP_ok (fa28_2 _ _) ?_ | refine valP_ok (fao28_2 _ _ _) ?_
          first | refine store_at 0 st3 hS rfl (by simp) rfl ?_ | refine store_at 1 st3 hS rfl (by simp) rfl ?_ | refine store_at 2 st3 hS rfl (by simp) rfl ?_ | refine store_at 3 st3 hS rfl (by simp) rfl ?_ | refine store_at 4 st3 hS rfl (by simp) rfl ?_ | refine store_at 5 st3 hS rfl (by simp) rfl ?_ | refine store_at 6 st3 hS rfl (by simp) rfl ?_ | refine store_at 7 st3 hS rfl (by simp) rfl ?_
          intro w hS
          simp only [List.set_cons_zero, List.set_cons_succ] at hS
          unfold m24_34
          first | refine ls28 0 hS rfl ?_ | refine ls28 1 hS rfl ?_ | refine ls28 2 hS rfl ?_ | refine ls28 3 hS rfl ?_ | refine ls28 4 hS rfl ?_ | refine ls28 5 hS rfl ?_ | refine ls28 6 hS rfl ?_ | refine ls28 7 hS rfl ?_ | refine valP_ok (ld28 (by assumption) (by assumption) (by assumption) (by assumption) (by assumption)) ?_
          first | refine ss28 0 hS rfl rfl rfl rfl rfl rfl ?_ | refine ss28 1 hS rfl rfl rfl rfl rfl rfl ?_ | refine ss28 2 hS rfl rfl rfl rfl rfl rfl ?_ | refine ss28 3 hS rfl rfl rfl rfl rfl rfl ?_ | refine ss28 4 hS rfl rfl rfl rfl rfl rfl ?_ | refine ss28 5 hS rfl rfl rfl rfl rfl rfl ?_ | refine ss28 6 hS rfl rfl rfl rfl rfl rfl ?_ | refine ss28 7 hS rfl rfl rfl rfl rfl rfl ?_
          intro w hS
          simp only [List.set_cons_zero, List.set_cons_succ] at hS
          unfold m24_35
          refine valS_ok (lc28 (hS.cell 0 rfl rfl) (hS.cell 0 rfl rfl) (hS.cell 0 rfl rfl) (hS.cell 0 rfl rfl) (hS.cell 0 rfl rfl)) ?_
          exact ⟨[], ⟨s.mark, s.late, s.bad + 1, s.n + 1, s.L⟩, _, 0, none, 0, [], rfl, ⟨⟨⟨hok.1.1, hok.1.2.1, by show I64 (s.bad + 1); omega, hok.1.2.2.2⟩, hok.2⟩, h64, A, c, rfl, hEs⟩, Sl.nil, by simp, hS.tail.tail.tail.tail⟩
        | true =>
          refine cond_f rfl ?_
          unfold m24_6
          first | refine ls23 0 hS rfl ?_ | refine ls23 1 hS rfl ?_ | refine ls23 2 hS rfl ?_ | refine ls23 3 hS rfl ?_ | refine ls23 4 hS rfl ?_ | refine ls23 5 hS rfl ?_ | refine ls23 6 hS rfl ?_ | refine ls23 7 hS rfl ?_ | refine valP_ok (ld23 (by assumption) (by assumption) (by assumption)) ?_
          first | refine valP_ok (fa46_1 _ _) ?_ | refine valP_ok (fao46_1 _ _ _) ?_
          first | refine valP_ok (ld3 (hS.cell 0 rfl rfl)) ?_ | refine valP_ok (ld3 (hS.cell 1 rfl rfl)) ?_ | refine valP_ok (ld3 (hS.cell 2 rfl rfl)) ?_ | refine valP_ok (ld3 (hS.cell 3 rfl rfl)) ?_ | refine valP_ok (ld3 (hS.cell 4 rfl rfl)) ?_ | refine valP_ok (ld3 (hS.cell 5 rfl rfl)) ?_ | refine valP_ok (ld3 (hS.cell 6 rfl rfl)) ?_ | refine valP_ok (ld3 (hS.cell 7 rfl rfl)) ?_ | refine valP_ok (ld3 (by assumption)) ?_
          refine callR (by kernel_rfl) (starts_ret hS) ?_
          rintro _ w ⟨A1, c1, e, xs, rfl, hxl, hx1, hS⟩
          refine valP_ok (extract_ok _ 0 rfl _) ?_
          refine valP_ok (extract_ok _ 1 rfl _) ?_
          exact feed_7 (s := ⟨s.mark, s.late, s.bad, s.n + 1, s.L⟩) hok (by show s.late ≤ _; omega) hg hr hk h64 hx hxl hx1 hEs hS
  unfold m24_1
  refine valP_ok (ld23 (hS.cell 3 rfl rfl) (hS.cell 3 rfl rfl) (hS.cell 3 rfl rfl)) ?_
  first | refine ls28 0 hS rfl ?_ | refine ls28 1 hS rfl ?_ | refine ls28 2 hS rfl ?_ | refine ls28 3 hS rfl ?_ | refine ls28 4 hS rfl ?_ | refine ls28 5 hS rfl ?_ | refine ls28 6 hS rfl ?_ | refine ls28 7 hS rfl ?_ | refine valP_ok (ld28 (by assumption) (by assumption) (by assumption) (by assumption) (by assumption)) ?_
  refine callR (by kernel_rfl) (mays_ret hE4 hS) ?_
  rintro _ w ⟨⟨t, rfl, ht⟩, hS⟩
  first | refine valP_ok (not_ok _ _) ?_ | refine valP_ok (notb_ok _ _) ?_
  cases t with
  | false =>
    refine cond_t rfl ?_
    first | refine pick_dt (by first | assumption | omega) ?_ | refine pick_df (by first | assumption | omega) ?_ | refine pick_t (by first | rfl | assumption) ?_ | refine pick_f (by first | rfl | assumption) ?_ | refine pick_dt rfl ?_ | refine pick_df (not_not_intro rfl) ?_
    refine cond_t rfl ?_
    first | refine pick_dt (by first | assumption | omega) ?_ | refine pick_df (by first | assumption | omega) ?_ | refine pick_t (by first | rfl | assumption) ?_ | refine pick_f (by first | rfl | assumption) ?_ | refine pick_dt rfl ?_ | refine pick_df (not_not_intro rfl) ?_
    refine cond_t rfl ?_
    first | refine pick_dt (by first | assumption | omega) ?_ | refine pick_df (by first | assumption | omega) ?_ | refine pick_t (by first | rfl | assumption) ?_ | refine pick_f (by first | rfl | assumption) ?_ | refine pick_dt rfl ?_ | refine pick_df (not_not_intro rfl) ?_
    exact leaf true _ hS (fun h => (by cases h))
  | true =>
    have hm := ht.1 rfl
    refine cond_f rfl ?_
    first | refine valP_ok (fa46_0 _ _) ?_ | refine valP_ok (fao46_0 _ _ _) ?_
    first | refine valP_ok (ld3 (hS.cell 0 rfl rfl)) ?_ | refine valP_ok (ld3 (hS.cell 1 rfl rfl)) ?_ | refine valP_ok (ld3 (hS.cell 2 rfl rfl)) ?_ | refine valP_ok (ld3 (hS.cell 3 rfl rfl)) ?_ | refine valP_ok (ld3 (hS.cell 4 rfl rfl)) ?_ | refine valP_ok (ld3 (hS.cell 5 rfl rfl)) ?_ | refine valP_ok (ld3 (hS.cell 6 rfl rfl)) ?_ | refine valP_ok (ld3 (hS.cell 7 rfl rfl)) ?_ | refine valP_ok (ld3 (by assumption)) ?_
    refine callR (by kernel_rfl) (in_ret hS) ?_
    rintro _ w ⟨rfl, hS⟩
    first | refine valP_ok (not_ok _ _) ?_ | refine valP_ok (notb_ok _ _) ?_
    first | refine pick_dt (by first | assumption | omega) ?_ | refine pick_df (by first | assumption | omega) ?_ | refine pick_t (by first | rfl | assumption) ?_ | refine pick_f (by first | rfl | assumption) ?_ | refine pick_dt rfl ?_ | refine pick_df (not_not_intro rfl) ?_
    refine cond_split (fun h1 => ?_) (fun h1 => ?_)
    · first | refine pick_dt (by first | assumption | omega) ?_ | refine pick_df (by first | assumption | omega) ?_ | refine pick_t (by first | rfl | assumption) ?_ | refine pick_f (by first | rfl | assumption) ?_ | refine pick_dt rfl ?_ | refine pick_df (not_not_intro rfl) ?_
      refine cond_t rfl ?_
      first | refine pick_dt (by first | assumption | omega) ?_ | refine pick_df (by first | assumption | omega) ?_ | refine pick_t (by first | rfl | assumption) ?_ | refine pick_f (by first | rfl | assumption) ?_ | refine pick_dt rfl ?_ | refine pick_df (not_not_intro rfl) ?_
      exact leaf true _ hS (fun h => (by cases h))
    · have h1 := Classical.not_not.1 h1
      unfold in40 at h1
      first | refine valP_ok (fa46_0 _ _) ?_ | refine valP_ok (fao46_0 _ _ _) ?_
      first | refine valP_ok (ld3 (hS.cell 0 rfl rfl)) ?_ | refine valP_ok (ld3 (hS.cell 1 rfl rfl)) ?_ | refine valP_ok (ld3 (hS.cell 2 rfl rfl)) ?_ | refine valP_ok (ld3 (hS.cell 3 rfl rfl)) ?_ | refine valP_ok (ld3 (hS.cell 4 rfl rfl)) ?_ | refine valP_ok (ld3 (hS.cell 5 rfl rfl)) ?_ | refine valP_ok (ld3 (hS.cell 6 rfl rfl)) ?_ | refine valP_ok (ld3 (hS.cell 7 rfl rfl)) ?_ | refine valP_ok (ld3 (by assumption)) ?_
      refine valP_ok (gtr_ok _ _ _ _ _ _ _) ?_
      first | refine pick_dt (by first | assumption | omega) ?_ | refine pick_df (by first | assumption | omega) ?_ | refine pick_t (by first | rfl | assumption) ?_ | refine pick_f (by first | rfl | assumption) ?_ | refine pick_dt rfl ?_ | refine pick_df (not_not_intro rfl) ?_
      refine cond_split (fun h2 => ?_) (fun h2 => ?_)
      · first | refine pick_dt (by first | assumption | omega) ?_ | refine pick_df (by first | assumption | omega) ?_ | refine pick_t (by first | rfl | assumption) ?_ | refine pick_f (by first | rfl | assumption) ?_ | refine pick_dt rfl ?_ | refine pick_df (not_not_intro rfl) ?_
        exact leaf true _ hS (fun h => (by cases h))
      · first | refine valP_ok (fa46_1 _ _) ?_ | refine valP_ok (fao46_1 _ _ _) ?_
        first | refine valP_ok (ld3 (hS.cell 0 rfl rfl)) ?_ | refine valP_ok (ld3 (hS.cell 1 rfl rfl)) ?_ | refine valP_ok (ld3 (hS.cell 2 rfl rfl)) ?_ | refine valP_ok (ld3 (hS.cell 3 rfl rfl)) ?_ | refine valP_ok (ld3 (hS.cell 4 rfl rfl)) ?_ | refine valP_ok (ld3 (hS.cell 5 rfl rfl)) ?_ | refine valP_ok (ld3 (hS.cell 6 rfl rfl)) ?_ | refine valP_ok (ld3 (hS.cell 7 rfl rfl)) ?_ | refine valP_ok (ld3 (by assumption)) ?_
        refine callR (by kernel_rfl) (in_ret hS) ?_
        rintro _ w ⟨rfl, hS⟩
        first | refine valP_ok (not_ok _ _) ?_ | refine valP_ok (notb_ok _ _) ?_
        first | refine pick_dt (by first | assumption | omega) ?_ | refine pick_df (by first | assumption | omega) ?_ | refine pick_t (by first | rfl | assumption) ?_ | refine pick_f (by first | rfl | assumption) ?_ | refine pick_dt rfl ?_ | refine pick_df (not_not_intro rfl) ?_
        refine leaf _ _ hS (fun h => ⟨hm, by omega, ?_⟩)
        have h3 := Classical.not_not.1 (of_decide_eq_false h)
        unfold in40 at h3
        omega
end
end

end Go.Proofs.Ytnhgdngbdoifnaa.M
