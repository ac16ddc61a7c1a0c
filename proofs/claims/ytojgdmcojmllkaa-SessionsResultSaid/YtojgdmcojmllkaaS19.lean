/- Adding an event keeps a state as it may be: in plain lists. -/
import Derived.Test.YtojgdmcojmllkaaS18
namespace Go.Proofs.Ytojgdmcojmllkaa.M
open Go.Proofs.Ytojgdmcojmllkaa.F Go.RowKit
set_option linter.unusedVariables false
set_option linter.unusedSimpArgs false
set_option maxRecDepth 100000
set_option maxHeartbeats 2000000
attribute [local irreducible] Res.cells Res.row Res.map Res.any World.cell? World.frozen? Instr.fieldAt Instr.loadAt Instr.storeAt Instr.indexAt Instr.lookup Instr.mapUpdate Instr.box Instr.build Instr.buildSlice Instr.extract Instr.alloc Instr.field Instr.index Instr.sliceAt Instr.makeSlice Instr.makeMap Instr.makeFunc binS Op.unary Sem.run
theorem srt_le {l : List Ev} (h : Srt l) {x : Ev} (hx : x ∈ l) : fT l ≤ x.t ∧ x.t ≤ lT l := by
  obtain ⟨j, hj, rfl⟩ := List.mem_iff_getElem.1 hx
  have h0 : 0 < l.length := by omega
  rw [fT_eq h0, lT_eq (by omega)]
  constructor
  · by_cases e0 : j = 0
    · subst e0
      exact Int.le_refl _
    · have := List.pairwise_iff_getElem.1 h 0 j h0 hj (by omega)
      unfold AheadE at this
      omega
  · by_cases e0 : j = l.length - 1
    · subst e0
      exact Int.le_refl _
    · have := List.pairwise_iff_getElem.1 h j (l.length - 1) hj (by omega) (by omega)
      unfold AheadE at this
      omega
theorem fT_mem {l : List Ev} (h : l ≠ []) : ∃ x ∈ l, fT l = x.t := ⟨l[0]'(List.length_pos_iff.2 h), List.getElem_mem _, fT_eq (List.length_pos_iff.2 h)⟩
theorem lT_mem {l : List Ev} (h : l ≠ []) : ∃ x ∈ l, lT l = x.t := by
  have h0 := List.length_pos_iff.2 h
  exact ⟨l[l.length - 1]'(by omega), List.getElem_mem _, lT_eq (by omega)⟩
theorem nea_symm {g : Gp} {a b : Se} (h : Nea g a b) : Nea g b a := ⟨h.1.symm, h.2.2, h.2.1⟩
/-- consecutive events lie near. -/
def Chain (g : Gp) (l : List Ev) : Prop := ∀ i (h : i + 1 < l.length), l[i + 1].t - l[i].t ≤ g.gap
/-- a chain that begins ahead of a gap and ends behind it: there is none. -/
theorem chain_cross {g : Gp} {l : List Ev} (hc : Chain g l) {a b : Int} (hab : g.gap < b - a) (h : ∀ x ∈ l, x.t ≤ a ∨ b ≤ x.t) (h0 : 0 < l.length) (hf : l[0].t ≤ a) : ∀ j (hj : j < l.length), l[j].t ≤ a
  | 0, _ => hf
  | j + 1, hj => by
    have ih := chain_cross hc hab h h0 hf j (by omega)
    have h1 := hc j hj
    rcases h _ (List.getElem_mem hj) with h2 | h2
    · exact h2
    · omega
theorem mem_whole {g : Gp} {L : List Se} {key : Int} {e x : Ev} : x ∈ (wholeS g L key e).l ↔ x = e ∨ ∃ m ∈ L, Nea g m (alone key e) ∧ x ∈ m.l := by
  show x ∈ putsE _ _ ↔ _
  rw [(putsE_perm _ _).mem_iff]
  simp only [List.cons_append, List.nil_append, List.mem_cons, List.mem_flatMap, List.mem_filter]
  constructor
  · rintro (h | ⟨m, ⟨hm, hn⟩, hx⟩)
    · exact .inl h
    · exact .inr ⟨m, hm, of_decide_eq_true hn, hx⟩
  · rintro (h | ⟨m, hm, hn, hx⟩)
    · exact .inl h
    · exact .inr ⟨m, ⟨hm, decide_eq_true hn⟩, hx⟩
theorem whole_srt (g : Gp) (L : List Se) (key : Int) (e : Ev) : Srt (wholeS g L key e).l := putsE_srt _ (List.pairwise_singleton _ _)
theorem whole_ne (g : Gp) (L : List Se) (key : Int) (e : Ev) : (wholeS g L key e).l ≠ [] := fun h => by
  have := (mem_whole (g := g) (L := L) (key := key) (e := e) (x := e)).2 (.inl rfl)
  rw [h] at this
  cases this
/-- the parts of a whole session lie near one another. -/
theorem whole_chain {g : Gp} {L : List Se} {key : Int} {e : Ev} (hg0 : 0 ≤ g.gap) (hL : ∀ m ∈ L, Srt m.l ∧ m.l ≠ [] ∧ Chain g m.l) : Chain g (wholeS g L key e).l := by
  intro i hi
  have hs := whole_srt g L key e
  apply Classical.byContradiction
  intro hgap
  have hgap : g.gap < (wholeS g L key e).l[i + 1].t - (wholeS g L key e).l[i].t := by omega
  have dich : ∀ z ∈ (wholeS g L key e).l, z.t ≤ (wholeS g L key e).l[i].t ∨ (wholeS g L key e).l[i + 1].t ≤ z.t := fun z hz => by
    obtain ⟨j, hj, rfl⟩ := List.mem_iff_getElem.1 hz
    by_cases h1 : j ≤ i
    · left
      by_cases e0 : j = i
      · subst e0
        exact Int.le_refl _
      · have := List.pairwise_iff_getElem.1 hs j i hj (by omega) (by omega)
        unfold AheadE at this
        omega
    · right
      by_cases e0 : j = i + 1
      · subst e0
        exact Int.le_refl _
      · have := List.pairwise_iff_getElem.1 hs (i + 1) j (by omega) hj (by omega)
        unfold AheadE at this
        omega
  have hx := mem_whole.1 (List.getElem_mem (show i < (wholeS g L key e).l.length by omega))
  have hy := mem_whole.1 (List.getElem_mem hi)
  have he := dich e (mem_whole.2 (.inl rfl))
  generalize (wholeS g L key e).l[i] = x at *
  generalize (wholeS g L key e).l[i + 1] = y at *
  have part : ∀ m ∈ L, Nea g m (alone key e) → ∀ z ∈ m.l, z.t ≤ x.t ∨ y.t ≤ z.t := fun m hm hn z hz => dich z (mem_whole.2 (.inr ⟨m, hm, hn, hz⟩))
  have cross : ∀ m ∈ L, Nea g m (alone key e) → fT m.l ≤ x.t → lT m.l ≤ x.t := fun m hm hn hf => by
    obtain ⟨s1, s2, s3⟩ := hL m hm
    have h0 := List.length_pos_iff.2 s2
    rw [fT_eq h0] at hf
    rw [lT_eq (by omega)]
    exact chain_cross s3 hgap (part m hm hn) h0 hf _ (by omega)
  rcases he with he | he
  · rcases hy with rfl | ⟨m, hm, hn, hym⟩
    · omega
    · obtain ⟨s1, s2, s3⟩ := hL m hm
      have hn2 : fT m.l - e.t ≤ g.gap := hn.2.2
      obtain ⟨z, hz, hfz⟩ := fT_mem s2
      have hd := part m hm hn z hz
      have hly := (srt_le s1 hym).2
      rcases hd with hd | hd
      · have := cross m hm hn (by omega)
        omega
      · omega
  · rcases hx with rfl | ⟨m, hm, hn, hxm⟩
    · omega
    · obtain ⟨s1, s2, s3⟩ := hL m hm
      have hn2 : e.t - lT m.l ≤ g.gap := hn.2.1
      have hfx := (srt_le s1 hxm).1
      have := cross m hm hn hfx
      omega
/-- a session that is not near the event, nor any that is, is not near the whole. -/
theorem whole_far {g : Gp} {L : List Se} {key : Int} {e : Ev} (hg : GapOk g) (hL : ∀ m ∈ L, Srt m.l ∧ m.l ≠ []) (hp : ∀ a ∈ L, ∀ b ∈ L, a ≠ b → ¬ Nea g a b) {s : Se} (hs : s ∈ L) (hn : ¬ Nea g s (alone key e)) : ¬ Nea g s (wholeS g L key e) := by
  intro hw
  have hgap := hg.gap
  have hk : s.key = key := hw.1
  have h1 : fT (wholeS g L key e).l - lT s.l ≤ g.gap := hw.2.1
  have h2 : fT s.l - lT (wholeS g L key e).l ≤ g.gap := hw.2.2
  obtain ⟨x, hx, hfx⟩ := fT_mem (whole_ne g L key e)
  obtain ⟨y, hy, hly⟩ := lT_mem (whole_ne g L key e)
  have hsf : fT s.l ≤ lT s.l := by
    obtain ⟨z, hz, hz2⟩ := fT_mem (hL s hs).2
    have := srt_le (hL s hs).1 hz
    omega
  have far : ∀ m ∈ L, Nea g m (alone key e) → (g.gap < fT s.l - lT m.l ∨ g.gap < fT m.l - lT s.l) := fun m hm hmn => by
    have hne : s ≠ m := fun h => hn (h ▸ hmn)
    have := hp s hs m hm hne
    have hmk : m.key = key := hmn.1
    apply Classical.byContradiction
    intro h
    exact this ⟨by omega, by omega, by omega⟩
  have hor : g.gap < fT s.l - e.t ∨ g.gap < e.t - lT s.l := by
    apply Classical.byContradiction
    intro h
    exact hn ⟨hk, by show e.t - lT s.l ≤ g.gap; omega, by show fT s.l - e.t ≤ g.gap; omega⟩
  rcases hor with hA | hB
  · rcases mem_whole.1 hy with rfl | ⟨m, hm, hmn, hym⟩
    · omega
    · have q := srt_le (hL m hm).1 hym
      have hm2 : fT m.l - e.t ≤ g.gap := hmn.2.2
      rcases far m hm hmn with h | h <;> omega
  · rcases mem_whole.1 hx with rfl | ⟨m, hm, hmn, hxm⟩
    · omega
    · have q := srt_le (hL m hm).1 hxm
      have hm2 : e.t - lT m.l ≤ g.gap := hmn.2.1
      rcases far m hm hmn with h | h <;> omega
theorem SpanOk.chain {g : Gp} {key : Int} {l : List Ev} {mark : Int} (h : SpanOk g key l mark) : Chain g l := fun i hi => (h.step i hi).2
/-- of two that are in a valid state, none is near the other one. -/
theorem FlowOk.apart {g : Gp} {mark late : Int} {L : List Se} (h : FlowOk g mark late L) {a b : Se} (ha : a ∈ L) (hb : b ∈ L) (hne : a ≠ b) : ¬ Nea g a b := by
  obtain ⟨i, hi, rfl⟩ := List.mem_iff_getElem.1 ha
  obtain ⟨j, hj, rfl⟩ := List.mem_iff_getElem.1 hb
  rcases Nat.lt_trichotomy i j with hij | hij | hij
  · exact (List.pairwise_iff_getElem.1 h.pair i j hi hj hij).2
  · subst hij
    exact absurd rfl hne
  · exact fun hn => (List.pairwise_iff_getElem.1 h.pair j i hj hi hij).2 (nea_symm hn)
/-- what is in the middle is as it may be, but for those that are over. -/
theorem mid_flow {g : Gp} {f : Fl} {key : Int} {e : Ev} (h : AddOk g f key e) : (∀ s ∈ midL g f key e, (0 ≤ s.key ∧ s.key ≤ 1048576) ∧ (1 ≤ s.l.length ∧ s.l.length ≤ 64) ∧ (∀ x ∈ s.l, 0 ≤ x.t ∧ x.t ≤ mark' f e) ∧ Srt s.l ∧ Chain g s.l) ∧ (midL g f key e).Pairwise (fun a b => Bef a b ∧ ¬ Nea g a b) := by
  have hF := h.flow
  have hte := h.time
  have hold : ∀ s ∈ f.L, (0 ≤ s.key ∧ s.key ≤ 1048576) ∧ (1 ≤ s.l.length ∧ s.l.length ≤ 64) ∧ (∀ x ∈ s.l, 0 ≤ x.t ∧ x.t ≤ mark' f e) ∧ Srt s.l ∧ Chain g s.l := fun s hs => by
    have hsp := hF.span s hs
    refine ⟨hsp.key, hsp.len, fun x hx => ?_, hsp.srt.1, hsp.chain⟩
    obtain ⟨i, hi, rfl⟩ := List.mem_iff_getElem.1 hx
    have := hsp.time i hi
    unfold mark'
    omega
  unfold midL
  split
  · exact ⟨hold, hF.pair⟩
  · rename_i hd
    have hj : JoinOk g f.L key e := Decidable.not_not.1 fun hn => hd (.inr hn)
    have hstr : Strict (joinS g f.L key e) := by
      refine setS_strict ((hF.pair.imp fun h => h.1).filter _) fun a ha => ?_
      exact whole_apart hF.gok hF.pair (fun s hs => (hF.span s hs).srt) ha
    have hmem : ∀ s ∈ joinS g f.L key e, s = wholeS g f.L key e ∨ s ∈ restS g f.L key e := fun s hs => List.mem_cons.1 ((setS_perm _ _).mem_iff.1 hs)
    refine ⟨fun s hs => ?_, hstr.and ?_⟩
    · rcases hmem s hs with rfl | hs
      · refine ⟨h.key, ⟨?_, hj.1⟩, fun x hx => ?_, whole_srt _ _ _ _, whole_chain hF.gok.gap.1 fun m hm => ⟨(hF.span m hm).srt.1, (hF.span m hm).srt.2, (hF.span m hm).chain⟩⟩
        · exact List.length_pos_iff.2 (whole_ne _ _ _ _)
        · rcases mem_whole.1 hx with rfl | ⟨m, hm, _, hx⟩
          · unfold mark'
            omega
          · exact (hold m hm).2.2.1 x hx
      · exact hold s (List.mem_filter.1 hs).1
    · refine (List.Perm.pairwise_iff (R := fun a b : Se => ¬ Nea g a b) (fun h hn => h (nea_symm hn)) (setS_perm _ _)).2 ?_
      refine List.pairwise_cons.2 ⟨fun s hs hn => ?_, (hF.pair.imp fun h => h.2).filter _⟩
      obtain ⟨hs, hn2⟩ := List.mem_filter.1 hs
      have hn2 : ¬ Nea g s (alone key e) := by
        unfold nearB at hn2
        simpa using hn2
      exact whole_far hF.gok (fun m hm => (hF.span m hm).srt) (fun a ha b hb hne => hF.apart ha hb hne) hs hn2 (nea_symm hn)
theorem add_flow {g : Gp} {f : Fl} {key : Int} {e : Ev} (h : AddOk g f key e) (hl : f.late ≠ 1099511627776) : FlowOk g (addS g f key e).mark (addS g f key e).late (addS g f key e).L := by
  obtain ⟨h1, h2⟩ := mid_flow h
  have hF := h.flow
  have hte := h.time
  have hmk := hF.mrk
  have hlt := hF.lt
  refine ⟨hF.gok, ?_, ?_, ?_, fun s hs => ?_, h2.filter _⟩
  · show -1 ≤ mark' f e ∧ mark' f e ≤ _
    unfold mark'
    omega
  · show 0 ≤ (if Drop g f key e then f.late + 1 else f.late) ∧ (if Drop g f key e then f.late + 1 else f.late) ≤ 1099511627776
    split <;> omega
  · exact Nat.le_trans (List.length_filter_le _ _) (mid_ok hF).1
  · obtain ⟨hs, ho⟩ := List.mem_filter.1 hs
    obtain ⟨a1, a2, a3, a4, a5⟩ := h1 s hs
    refine ⟨a1, a2, fun i hi => a3 _ (List.getElem_mem hi), fun i hi => ⟨List.pairwise_iff_getElem.1 a4 i (i + 1) (by omega) hi (by omega), a5 i hi⟩, ?_⟩
    show ¬ OverT g (lT s.l) (mark' f e)
    unfold overB at ho
    simpa using ho
theorem shut_span {g : Gp} {f : Fl} {key : Int} {e : Ev} (h : AddOk g f key e) : ∀ s ∈ shutS g f key e, OverT g (lT s.l) (mark' f e) ∧ SpanOk g s.key s.l (lT s.l) := fun s hs => by
  obtain ⟨h1, _⟩ := mid_flow h
  obtain ⟨hs, ho⟩ := List.mem_filter.1 hs
  obtain ⟨a1, a2, a3, a4, a5⟩ := h1 s hs
  have hg := h.flow.gok
  have h3 := hg.gap
  have h4 := hg.late
  refine ⟨by unfold overB at ho; simpa using ho, a1, a2, fun i hi => ⟨(a3 _ (List.getElem_mem hi)).1, (srt_le a4 (List.getElem_mem hi)).2⟩, fun i hi => ⟨List.pairwise_iff_getElem.1 a4 i (i + 1) (by omega) hi (by omega), a5 i hi⟩, ?_⟩
  unfold OverT
  omega
/-- what is true of states that events led to. -/
theorem Runs.flow {g : Gp} (hg : GapOk g) {l : List In} {f : Fl} {all : List Se} (h : Runs g l f all) : FlowOk g f.mark f.late f.L ∧ ∀ s ∈ all, OverT g (lT s.l) f.mark ∧ SpanOk g s.key s.l (lT s.l) := by
  induction h with
  | nil => exact ⟨⟨hg, by simp [zeroF], by simp [zeroF], by simp [zeroF], by simp [zeroF], .nil⟩, by simp⟩
  | @snoc l f all x h1 h2 ih =>
    refine ⟨add_flow h2.1 h2.2, fun s hs => ?_⟩
    rcases List.mem_append.1 hs with hs | hs
    · obtain ⟨a1, a2⟩ := ih.2 s hs
      refine ⟨?_, a2⟩
      show OverT g _ (mark' f x.e)
      unfold OverT mark' at *
      omega
    · exact shut_span h2.1 s hs

end Go.Proofs.Ytojgdmcojmllkaa.M
