/- Check: whether a state may be. -/
import Derived.Test.YtojgdmcojmllkaaS6
namespace Go.Proofs.Ytojgdmcojmllkaa.M
open Go.Proofs.Ytojgdmcojmllkaa.F Go.RowKit
set_option linter.unusedVariables false
set_option linter.unusedSimpArgs false
set_option maxRecDepth 100000
set_option maxHeartbeats 2000000
attribute [local irreducible] Res.cells Res.row Res.map Res.any World.cell? World.frozen? Instr.fieldAt Instr.loadAt Instr.storeAt Instr.indexAt Instr.lookup Instr.mapUpdate Instr.box Instr.build Instr.buildSlice Instr.extract Instr.alloc Instr.field Instr.index Instr.sliceAt Instr.makeSlice Instr.makeMap Instr.makeFunc binS Op.unary Sem.run
structure Fq where
  mark : Int
  late : Int
  A : Option Addr
  c : Nat
  l : List Sq
abbrev fv (f : Fq) : Value := .agg #[.int .i64 f.mark, .int .i64 f.late, .slice f.A f.l.length f.c]
abbrev flC (b : Nat) (f : Fq) : Res := Res.cells b 26 [.int .i64 f.mark, .int .i64 f.late, .slice f.A f.l.length f.c]
abbrev gC (b : Nat) (g : Gp) : Res := Res.cells b 23 [.int .i64 g.gap, .int .i64 g.late]
abbrev Bef (a b : Se) : Prop := BeforeS a.key a.l b.key b.l
abbrev Nea (g : Gp) (a b : Se) : Prop := NearS g a.key a.l b.key b.l
structure FlowOk (g : Gp) (mark late : Int) (L : List Se) : Prop where
  gok : GapOk g
  mrk : -1 ≤ mark ∧ mark ≤ 1099511627776
  lt : 0 ≤ late ∧ late ≤ 1099511627776
  len : L.length ≤ 64
  span : ∀ s ∈ L, SpanOk g s.key s.l mark
  pair : L.Pairwise fun a b => Bef a b ∧ ¬ Nea g a b
/-- What is true of the first i sessions. -/
structure PreOk (g : Gp) (mark : Int) (L : List Sq) (i : Nat) : Prop where
  span : ∀ j (h : j < L.length), j < i → SpanOk g L[j].s.key L[j].s.l mark
  pair : ∀ k j (hk : k < j) (hj : j < L.length), j < i → Bef L[k].s L[j].s ∧ ¬ Nea g L[k].s L[j].s
theorem PreOk.zero {g : Gp} {mark : Int} {L : List Sq} : PreOk g mark L 0 := ⟨fun _ _ h => by omega, fun _ _ _ _ h => by omega⟩
theorem flow_pre {g : Gp} {mark late : Int} {L : List Sq} : FlowOk g mark late (ses L) ↔ GapOk g ∧ (-1 ≤ mark ∧ mark ≤ 1099511627776) ∧ (0 ≤ late ∧ late ≤ 1099511627776) ∧ L.length ≤ 64 ∧ PreOk g mark L L.length := by
  constructor
  · rintro ⟨h1, h2, h3, h4, h5, h6⟩
    refine ⟨h1, h2, h3, by simpa using h4, fun j h _ => h5 _ (List.mem_map.2 ⟨_, List.getElem_mem h, rfl⟩), fun k j hk hj _ => ?_⟩
    have := List.pairwise_iff_getElem.1 h6 k j (by simp; omega) (by simpa using hj) hk
    simpa using this
  · rintro ⟨h1, h2, h3, h4, h5⟩
    refine ⟨h1, h2, h3, by simpa using h4, fun s hs => ?_, List.pairwise_iff_getElem.2 fun k j hk hj hkj => ?_⟩
    · obtain ⟨x, hx, rfl⟩ := List.mem_map.1 hs
      obtain ⟨j, hj, rfl⟩ := List.mem_iff_getElem.1 hx
      exact h5.span j hj hj
    · have := h5.pair k j hkj (by simpa using hj) (by simpa using hj)
      simpa using this
theorem BeforeS.trans {a b c : Se} (h1 : Bef a b) (h2 : Bef b c) : Bef a c := by
  unfold Bef BeforeS at *
  omega
theorem SpanOk.tb {g : Gp} {key : Int} {l : List Ev} {mark : Int} (h : SpanOk g key l mark) (hm : mark ≤ 1099511627776) : TB l := by
  have hl := h.len
  have h0 := h.time 0 (by omega)
  have h1 := h.time (l.length - 1) (by omega)
  rw [← fT_eq (by omega)] at h0
  rw [← lT_eq (by omega)] at h1
  exact ⟨by omega, by omega, by omega, by omega⟩
theorem pre_step {g : Gp} {mark : Int} {L : List Sq} {i : Nat} (h : PreOk g mark L i) (hi : i < L.length) (hs : SpanOk g L[i].s.key L[i].s.l mark) (hb : ∀ h0 : 0 < i, Bef (L[i - 1]'(by omega)).s L[i].s) (hn : ∀ k (hk : k < i), ¬ Nea g (L[k]'(by omega)).s L[i].s) : PreOk g mark L (i + 1) := by
  refine ⟨fun j hj hji => ?_, fun k j hk hj hji => ?_⟩
  · by_cases e : j = i
    · subst e
      exact hs
    · exact h.span j hj (by omega)
  · by_cases e : j = i
    · subst e
      refine ⟨?_, hn k hk⟩
      by_cases e : k = j - 1
      · subst e
        exact hb (by omega)
      · exact BeforeS.trans (h.pair k (j - 1) (by omega) (by omega) (by omega)).1 (hb (by omega))
    · exact h.pair k j hk hj (by omega)
section
variable {w0 w : World} {F : List Nat} {L : List Res} {A B : Option Addr} {c d : Nat} {l l2 : List Sq} {g : Gp} {f f2 : Fq}
theorem same_ret (hS : St w0 F w L) (h1 : BesS w0 F L f.A f.l) (h2 : BesS w0 F L f2.A f2.l) :
    Ret Try.prog 13 #[fv f, fv f2] w fun v w' => (∃ b, v = .bool b ∧ (b = true ↔ f.mark = f2.mark ∧ f.late = f2.late ∧ ses f.l = ses f2.l)) ∧ St w0 F w' L := by
  refine s13 _ _ ?_
  unfold m13
  unfold m13_0
  refine new_ok (bx26 _ _ _ _) hS ?_
  intro b2 w hS
  refine new_ok (bx26 _ _ _ _) hS ?_
  intro b3 w hS
  unfold m13_1
  first | refine valP_ok (fa26_0 _ _) ?_ | refine valP_ok (fao26_0 _ _ _) ?_
  first | refine valP_ok (ld3 (hS.cell 0 rfl rfl)) ?_ | refine valP_ok (ld3 (hS.cell 1 rfl rfl)) ?_ | refine valP_ok (ld3 (hS.cell 2 rfl rfl)) ?_ | refine valP_ok (ld3 (hS.cell 3 rfl rfl)) ?_ | refine valP_ok (ld3 (hS.cell 4 rfl rfl)) ?_ | refine valP_ok (ld3 (hS.cell 5 rfl rfl)) ?_ | refine valP_ok (ld3 (hS.cell 6 rfl rfl)) ?_ | refine valP_ok (ld3 (hS.cell 7 rfl rfl)) ?_ | refine valP_ok (ld3 (by assumption)) ?_
  first | refine valP_ok (fa26_0 _ _) ?_ | refine valP_ok (fao26_0 _ _ _) ?_
  first | refine valP_ok (ld3 (hS.cell 0 rfl rfl)) ?_ | refine valP_ok (ld3 (hS.cell 1 rfl rfl)) ?_ | refine valP_ok (ld3 (hS.cell 2 rfl rfl)) ?_ | refine valP_ok (ld3 (hS.cell 3 rfl rfl)) ?_ | refine valP_ok (ld3 (hS.cell 4 rfl rfl)) ?_ | refine valP_ok (ld3 (hS.cell 5 rfl rfl)) ?_ | refine valP_ok (ld3 (hS.cell 6 rfl rfl)) ?_ | refine valP_ok (ld3 (hS.cell 7 rfl rfl)) ?_ | refine valP_ok (ld3 (by assumption)) ?_
  refine valP_ok (eq3 _ _ _ _ _) ?_
  refine cond_split (fun hm => ?_) (fun hm => ?_)
  · first | refine valP_ok (fa26_1 _ _) ?_ | refine valP_ok (fao26_1 _ _ _) ?_
    first | refine valP_ok (ld3 (hS.cell 0 rfl rfl)) ?_ | refine valP_ok (ld3 (hS.cell 1 rfl rfl)) ?_ | refine valP_ok (ld3 (hS.cell 2 rfl rfl)) ?_ | refine valP_ok (ld3 (hS.cell 3 rfl rfl)) ?_ | refine valP_ok (ld3 (hS.cell 4 rfl rfl)) ?_ | refine valP_ok (ld3 (hS.cell 5 rfl rfl)) ?_ | refine valP_ok (ld3 (hS.cell 6 rfl rfl)) ?_ | refine valP_ok (ld3 (hS.cell 7 rfl rfl)) ?_ | refine valP_ok (ld3 (by assumption)) ?_
    first | refine valP_ok (fa26_1 _ _) ?_ | refine valP_ok (fao26_1 _ _ _) ?_
    first | refine valP_ok (ld3 (hS.cell 0 rfl rfl)) ?_ | refine valP_ok (ld3 (hS.cell 1 rfl rfl)) ?_ | refine valP_ok (ld3 (hS.cell 2 rfl rfl)) ?_ | refine valP_ok (ld3 (hS.cell 3 rfl rfl)) ?_ | refine valP_ok (ld3 (hS.cell 4 rfl rfl)) ?_ | refine valP_ok (ld3 (hS.cell 5 rfl rfl)) ?_ | refine valP_ok (ld3 (hS.cell 6 rfl rfl)) ?_ | refine valP_ok (ld3 (hS.cell 7 rfl rfl)) ?_ | refine valP_ok (ld3 (by assumption)) ?_
    refine valP_ok (eq3 _ _ _ _ _) ?_
    first | refine pick_dt (by first | assumption | omega) ?_ | refine pick_df (by first | assumption | omega) ?_ | refine pick_t (by first | rfl | assumption) ?_ | refine pick_f (by first | rfl | assumption) ?_ | refine pick_dt rfl ?_ | refine pick_df (not_not_intro rfl) ?_
    refine cond_split (fun hl => ?_) (fun hl => ?_)
    · first | refine valP_ok (fa26_2 _ _) ?_ | refine valP_ok (fao26_2 _ _ _) ?_
      first | refine valP_ok (ld24 (hS.cell 0 rfl rfl)) ?_ | refine valP_ok (ld24 (hS.cell 1 rfl rfl)) ?_ | refine valP_ok (ld24 (hS.cell 2 rfl rfl)) ?_ | refine valP_ok (ld24 (hS.cell 3 rfl rfl)) ?_ | refine valP_ok (ld24 (hS.cell 4 rfl rfl)) ?_ | refine valP_ok (ld24 (hS.cell 5 rfl rfl)) ?_ | refine valP_ok (ld24 (hS.cell 6 rfl rfl)) ?_ | refine valP_ok (ld24 (hS.cell 7 rfl rfl)) ?_ | refine valP_ok (ld24 (by assumption)) ?_
      first | refine valP_ok (fa26_2 _ _) ?_ | refine valP_ok (fao26_2 _ _ _) ?_
      first | refine valP_ok (ld24 (hS.cell 0 rfl rfl)) ?_ | refine valP_ok (ld24 (hS.cell 1 rfl rfl)) ?_ | refine valP_ok (ld24 (hS.cell 2 rfl rfl)) ?_ | refine valP_ok (ld24 (hS.cell 3 rfl rfl)) ?_ | refine valP_ok (ld24 (hS.cell 4 rfl rfl)) ?_ | refine valP_ok (ld24 (hS.cell 5 rfl rfl)) ?_ | refine valP_ok (ld24 (hS.cell 6 rfl rfl)) ?_ | refine valP_ok (ld24 (hS.cell 7 rfl rfl)) ?_ | refine valP_ok (ld24 (by assumption)) ?_
      refine callR (by kernel_rfl) (samespans_ret hS ((h1.cons _).cons _) ((h2.cons _).cons _)) ?_
      rintro v w ⟨⟨b, rfl, hb⟩, hS⟩
      first | refine pick_dt (by first | assumption | omega) ?_ | refine pick_df (by first | assumption | omega) ?_ | refine pick_t (by first | rfl | assumption) ?_ | refine pick_f (by first | rfl | assumption) ?_ | refine pick_dt rfl ?_ | refine pick_df (not_not_intro rfl) ?_
      unfold m13_2
      exact gapok_leaf hS.tail.tail (by rw [hb]; exact ⟨fun h => ⟨hm, hl, h⟩, fun h => h.2.2⟩)
    · first | refine pick_dt (by first | assumption | omega) ?_ | refine pick_df (by first | assumption | omega) ?_ | refine pick_t (by first | rfl | assumption) ?_ | refine pick_f (by first | rfl | assumption) ?_ | refine pick_dt rfl ?_ | refine pick_df (not_not_intro rfl) ?_
      unfold m13_2
      exact gapok_leaf hS.tail.tail ⟨fun h => (by cases h), fun h => absurd h.2.1 hl⟩
  · first | refine pick_dt (by first | assumption | omega) ?_ | refine pick_df (by first | assumption | omega) ?_ | refine pick_t (by first | rfl | assumption) ?_ | refine pick_f (by first | rfl | assumption) ?_ | refine pick_dt rfl ?_ | refine pick_df (not_not_intro rfl) ?_
    refine cond_f rfl ?_
    refine pick_f rfl ?_
    unfold m13_2
    exact gapok_leaf hS.tail.tail ⟨fun h => (by cases h), fun h => absurd h.1 hm⟩
/-- the closure that asks whether a session is near the one at place i. -/
theorem clo_ret {b2 b3 b6 i : Nat} {x : Sq} (hg : GapOk g) (hi : i < f.l.length) (htx : TB x.s.l) (hti : TB f.l[i].s.l) (hS : St w0 F w (Res.cells b6 3 [.int .i64 i] :: flC b3 f :: gC b2 g :: L)) (hx : BE w0 F L x.A x.s.l) (hf : BesS w0 F L f.A f.l) :
    Ret Try.prog 36 #[sv x, .pointer (some ⟨b2, 0, none⟩), .pointer (some ⟨b3, 0, none⟩), .pointer (some ⟨b6, 0, none⟩)] w fun v w' => (∃ b, v = .bool b ∧ (b = true ↔ Nea g x.s f.l[i].s)) ∧ St w0 F w' (Res.cells b6 3 [.int .i64 i] :: flC b3 f :: gC b2 g :: L) := by
  obtain ⟨fm, fl, fA, fc, fL⟩ := f
  have hA : ∃ b o, fA = some ⟨b, o, none⟩ := (hf.row.rd hS.tail.tail.tail).some_ (Nat.lt_of_le_of_lt (Nat.zero_le _) hi) (by omega)
  obtain ⟨b, o, rfl⟩ := hA
  simp only at hi hti hf ⊢
  refine s36 _ _ _ _ ?_
  unfold m36
  unfold m36_0
  refine new_ok (bx33 _ _ _) hS ?_
  intro b4 w hS
  unfold m36_1
  refine drawn_ok hS ?_
  intro w hS
  have p := sp_at (hf.row.rd hS.tail.tail.tail.tail) hi
  refine valS_ok (ld23 (hS.cell 3 rfl rfl) (hS.cell 3 rfl rfl)) ?_
  refine valS_ok (ld33 (hS.cell 0 rfl rfl) (hS.cell 0 rfl rfl)) ?_
  refine valS_ok (fa26_2 _ _) ?_
  refine valS_ok (ld24 (hS.cell 2 rfl rfl)) ?_
  refine valS_ok (ld3 (hS.cell 1 rfl rfl)) ?_
  refine valS_ok (ix24 hi _) ?_
  refine valS_ok (ld33 p.1 p.2) ?_
  refine callR (by kernel_rfl) (near_ret hg htx hti hS ((((hx.cons _).cons _).cons _).cons _) (((((hf.evs _ (List.getElem_mem hi)).cons _).cons _).cons _).cons _)) ?_
  rintro v w ⟨h, hS⟩
  unfold m36_2
  exact ⟨h, hS.tail⟩
theorem index_ret {b2 b3 b6 i : Nat} (hg : GapOk g) (hi : i < f.l.length) (ht : ∀ j (h : j < f.l.length), j ≤ i → TB f.l[j].s.l) (hS : St w0 F w (Res.cells b6 3 [.int .i64 i] :: flC b3 f :: gC b2 g :: L)) (hf : BesS w0 F L f.A f.l) :
    Ret Try.prog 49 #[.slice f.A i f.c, .func (.func 36) #[] #[.pointer (some ⟨b2, 0, none⟩), .pointer (some ⟨b3, 0, none⟩), .pointer (some ⟨b6, 0, none⟩)]] w fun v w' => (∃ x : Int, v = .int .i64 x ∧ (0 ≤ x ↔ ∃ j, ∃ h : j < i, Nea g f.l[j].s f.l[i].s)) ∧ St w0 F w' (Res.cells b6 3 [.int .i64 i] :: flC b3 f :: gC b2 g :: L) := by
  have hmax := hf.max
  obtain ⟨b, o, hA⟩ := (hf.row.rd hS.tail.tail.tail).some_ (by omega) (by omega)
  refine s49 _ _ ?_
  unfold m49
  unfold m49_0
  unfold m49_1
  refine builtin_ok (len24 _) ?_
  unfold m49_4
  refine loop_in (fun u w' => ∃ k : Nat, u = .int .i64 k ∧ k ≤ i ∧ (∀ j (h : j < i), j < k → ¬ Nea g f.l[j].s f.l[i].s) ∧ St w0 F w' (Res.cells b6 3 [.int .i64 i] :: flC b3 f :: gC b2 g :: L)) (fun u _ => i - (intOf u).toNat) ⟨0, rfl, by omega, fun _ _ h => by omega, hS⟩ ?_
  clear hS
  rintro u w ⟨k, rfl, hk, hK, hS⟩
  unfold m49_5
  refine valP_ok (lss_ok _ _ _ _ _ _ _) ?_
  unfold m49_6
  refine cond_split (fun h => ?_) (fun h => ?_)
  · have hki : k < i := by omega
    have hkl : k < f.l.length := by omega
    have hr : Rd w 2 (some ⟨b, o, none⟩) f.l.length (f.l.flatMap encS) := by
      have := hf.row.rd hS.tail.tail.tail
      rw [hA] at this
      exact this
    have p := sp_at hr hkl
    unfold m49_7 m49_9
    rw [hA]
    refine valP_ok (ix24 hki _) ?_
    refine valP_ok (ld33 p.1 p.2) ?_
    refine callvR (by kernel_rfl) rfl (clo_ret (x := f.l[k]) hg hi (ht k hkl (by omega)) (ht i hi (by omega)) hS (hf.evs _ (List.getElem_mem hkl)) hf) ?_
    rintro v w ⟨⟨t, rfl, ht'⟩, hS⟩
    unfold m49_10
    refine cond_bsplit (fun h1 => ?_) (fun h1 => ?_)
    · unfold m49_11
      exact ⟨⟨_, rfl, ⟨fun _ => ⟨k, hki, ht'.1 h1⟩, fun _ => by omega⟩⟩, hS⟩
    · unfold m49_8
      refine valP_ok (add_ok _ _ _ (by omega) (by omega) _) ?_
      refine ⟨⟨k + 1, rfl, by omega, fun j hj hjk hn => ?_, hS⟩, by simp [intOf]; omega⟩
      by_cases e : j = k
      · subst e
        rw [ht'.2 hn] at h1
        cases h1
      · exact hK j hj (by omega) hn
  · unfold m49_2 m49_3
    exact ⟨⟨_, rfl, ⟨fun h => by omega, fun ⟨j, hj, hn⟩ => absurd hn (hK j hj (by omega))⟩⟩, hS⟩
theorem contains_ret {b2 b3 b6 i : Nat} (hg : GapOk g) (hi : i < f.l.length) (ht : ∀ j (h : j < f.l.length), j ≤ i → TB f.l[j].s.l) (hS : St w0 F w (Res.cells b6 3 [.int .i64 i] :: flC b3 f :: gC b2 g :: L)) (hf : BesS w0 F L f.A f.l) :
    Ret Try.prog 35 #[.slice f.A i f.c, .func (.func 36) #[] #[.pointer (some ⟨b2, 0, none⟩), .pointer (some ⟨b3, 0, none⟩), .pointer (some ⟨b6, 0, none⟩)]] w fun v w' => (∃ t, v = .bool t ∧ (t = true ↔ ∃ j, ∃ h : j < i, Nea g f.l[j].s f.l[i].s)) ∧ St w0 F w' (Res.cells b6 3 [.int .i64 i] :: flC b3 f :: gC b2 g :: L) := by
  refine s35 _ _ ?_
  unfold m35
  unfold m35_0
  unfold m35_1
  refine callR (by kernel_rfl) (index_ret hg hi ht hS hf) ?_
  rintro v w ⟨⟨x, rfl, hx⟩, hS⟩
  refine valP_ok (geq_ok _ _ _ _ _ _ _) ?_
  unfold m35_2
  exact ⟨⟨_, rfl, by rw [decide_eq_true_eq]; exact hx⟩, hS⟩
def cellN (w : World) (v : Value) : Nat := match v with
  | .pointer (some a) => (intOf ((w.cell? a).getD undef)).toNat
  | _ => 0
end

end Go.Proofs.Ytojgdmcojmllkaa.M
