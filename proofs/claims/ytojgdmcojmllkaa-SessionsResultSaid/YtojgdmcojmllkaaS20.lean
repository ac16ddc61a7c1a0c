/- Each event is dropped or in just one session; which sessions there are does not hang on the order: in plain lists. -/
import Derived.Test.YtojgdmcojmllkaaS19
namespace Go.Proofs.Ytojgdmcojmllkaa.M
open Go.Proofs.Ytojgdmcojmllkaa.F Go.RowKit
set_option linter.unusedVariables false
set_option linter.unusedSimpArgs false
set_option maxRecDepth 100000
set_option maxHeartbeats 2000000
attribute [local irreducible] Res.cells Res.row Res.map Res.any World.cell? World.frozen? Instr.fieldAt Instr.loadAt Instr.storeAt Instr.indexAt Instr.lookup Instr.mapUpdate Instr.box Instr.build Instr.buildSlice Instr.extract Instr.alloc Instr.field Instr.index Instr.sliceAt Instr.makeSlice Instr.makeMap Instr.makeFunc binS Op.unary Sem.run
def evK (s : Se) : List In := s.l.map fun e => ⟨s.key, e⟩
theorem mem_evK {s : Se} {x : In} : x ∈ evK s ↔ x.key = s.key ∧ x.e ∈ s.l := by
  unfold evK
  constructor
  · intro h
    obtain ⟨e, he, rfl⟩ := List.mem_map.1 h
    exact ⟨rfl, he⟩
  · rintro ⟨h1, h2⟩
    obtain ⟨k, e⟩ := x
    simp only at h1 h2
    subst h1
    exact List.mem_map.2 ⟨e, h2, rfl⟩
abbrev evs (L : List Se) : List In := L.flatMap evK
theorem whole_evK (g : Gp) (L : List Se) (key : Int) (e : Ev) : (evK (wholeS g L key e)).Perm (⟨key, e⟩ :: evs (L.filter (nearB g key e))) := by
  have h1 : (evK (wholeS g L key e)).Perm (([e] ++ (L.filter (nearB g key e)).flatMap (·.l)).map fun e => (⟨key, e⟩ : In)) := (putsE_perm _ _).map _
  refine h1.trans ?_
  simp only [List.cons_append, List.nil_append, List.map_cons]
  refine List.Perm.cons _ (List.Perm.of_eq ?_)
  rw [List.map_flatMap]
  unfold evs
  rw [List.flatMap_def, List.flatMap_def]
  congr 1
  refine List.map_congr_left fun s hs => ?_
  have hn : Nea g s (alone key e) := of_decide_eq_true (List.mem_filter.1 hs).2
  have hk : s.key = key := hn.1
  unfold evK
  rw [hk]
theorem join_evs (g : Gp) (L : List Se) (key : Int) (e : Ev) : (evs (joinS g L key e)).Perm (evs L ++ [⟨key, e⟩]) := by
  have h1 : (evs (joinS g L key e)).Perm (evs (wholeS g L key e :: restS g L key e)) := (setS_perm _ _).flatMap_right _
  have h2 : (evs (L.filter (nearB g key e) ++ restS g L key e)).Perm (evs L) := (List.filter_append_perm _ _).flatMap_right _
  refine h1.trans ?_
  show (evK _ ++ evs _).Perm _
  refine ((whole_evK g L key e).append_right _).trans ?_
  refine List.Perm.trans ?_ (List.perm_append_comm (l₁ := [_]))
  rw [List.cons_append]
  refine List.Perm.cons _ ?_
  unfold evs at h2 ⊢
  rw [List.flatMap_append] at h2
  exact h2
theorem add_evs (g : Gp) (f : Fl) (key : Int) (e : Ev) : (evs ((addS g f key e).L ++ shutS g f key e)).Perm (evs (midL g f key e)) := by
  have h := (List.filter_append_perm (overB g (mark' f e)) (midL g f key e)).flatMap_right evK
  refine List.Perm.trans ?_ h
  exact (List.perm_append_comm (l₁ := (addS g f key e).L) (l₂ := shutS g f key e)).flatMap_right evK
/-- each event is dropped, or in just one session. -/
theorem Runs.evs {g : Gp} {l : List In} {f : Fl} {all : List Se} (h : Runs g l f all) : ∃ dr : List In, (dr.length : Int) = f.late ∧ (evs (all ++ f.L) ++ dr).Perm l := by
  induction h with
  | nil => exact ⟨[], by simp [zeroF], by simp [zeroF]⟩
  | @snoc l f all x h1 h2 ih =>
    obtain ⟨dr, hd, hp⟩ := ih
    have ha := add_evs g f x.key x.e
    have e1 : (M.evs ((all ++ shutS g f x.key x.e) ++ (addS g f x.key x.e).L)).Perm (M.evs all ++ M.evs (midL g f x.key x.e)) := by
      unfold M.evs at *
      rw [List.append_assoc, List.flatMap_append]
      refine List.Perm.append_left _ (List.Perm.trans ?_ ha)
      exact (List.perm_append_comm).flatMap_right _
    have e2 : M.evs (all ++ f.L) = M.evs all ++ M.evs f.L := by unfold M.evs; rw [List.flatMap_append]
    rw [e2] at hp
    by_cases hdr : Drop g f x.key x.e
    · refine ⟨dr ++ [x], ?_, ?_⟩
      · show _ = if Drop g f x.key x.e then f.late + 1 else f.late
        rw [if_pos hdr]
        simp
        omega
      · have em : midL g f x.key x.e = f.L := by unfold midL; rw [if_pos hdr]
        rw [em] at e1
        refine (e1.append_right _).trans ?_
        rw [← List.append_assoc]
        exact hp.append_right _
    · refine ⟨dr, ?_, ?_⟩
      · show _ = if Drop g f x.key x.e then f.late + 1 else f.late
        rw [if_neg hdr]
        exact hd
      · have em : midL g f x.key x.e = joinS g f.L x.key x.e := by unfold midL; rw [if_neg hdr]
        rw [em] at e1
        have e3 : (M.evs all ++ M.evs (joinS g f.L x.key x.e)).Perm (M.evs all ++ (M.evs f.L ++ [x])) := List.Perm.append_left _ (join_evs g f.L x.key x.e)
        refine ((e1.trans e3).append_right _).trans ?_
        have e4 : (M.evs all ++ (M.evs f.L ++ [x]) ++ dr).Perm ((M.evs all ++ M.evs f.L ++ dr) ++ [x]) := by
          rw [← List.append_assoc, List.append_assoc (M.evs all ++ M.evs f.L), List.append_assoc (M.evs all ++ M.evs f.L)]
          exact List.Perm.append_left _ List.perm_append_comm
        exact e4.trans (hp.append_right _)
/-- events of two sessions of one key lie apart. -/
theorem flow_apart {g : Gp} {mark late : Int} {L : List Se} (h : FlowOk g mark late L) {a b : Se} (ha : a ∈ L) (hb : b ∈ L) (hne : a ≠ b) (hk : a.key = b.key) {x y : Ev} (hx : x ∈ a.l) (hy : y ∈ b.l) : g.gap < x.t - y.t ∨ g.gap < y.t - x.t := by
  have hn := h.apart ha hb hne
  have h1 := srt_le (h.span a ha).srt.1 hx
  have h2 := srt_le (h.span b hb).srt.1 hy
  have hg := h.gok.gap
  apply Classical.byContradiction
  intro hc
  exact hn ⟨hk, by omega, by omega⟩
/-- a chain of events of one key that are all in a state are in one session. -/
theorem chain_in {g : Gp} {mark late : Int} {L : List Se} (h : FlowOk g mark late L) {s : Se} (hs : s ∈ L) {l : List Ev} (hc : Chain g l) (hso : Srt l) (hin : ∀ x ∈ l, (⟨s.key, x⟩ : In) ∈ evs L) {p : Nat} (hp : p < l.length) (hps : l[p] ∈ s.l) : ∀ x ∈ l, x ∈ s.l := by
  have near : ∀ i j (hi : i < l.length) (hj : j < l.length), (j = i + 1 ∨ i = j + 1) → l[i] ∈ s.l → l[j] ∈ s.l := fun i j hi hj hij hm => by
    obtain ⟨s2, hs2, hm2⟩ := List.mem_flatMap.1 (hin _ (List.getElem_mem hj))
    obtain ⟨hk, hm2⟩ := mem_evK.1 hm2
    simp only at hk hm2
    apply Classical.byContradiction
    intro hno
    have hne : s ≠ s2 := fun e => hno (e ▸ hm2)
    have ha := flow_apart h hs hs2 hne hk hm hm2
    have hg := h.gok.gap
    rcases hij with rfl | rfl
    · have h1 := hc i hj
      have h2 := List.pairwise_iff_getElem.1 hso i (i + 1) hi hj (by omega)
      unfold AheadE at h2
      omega
    · have h1 := hc j hi
      have h2 := List.pairwise_iff_getElem.1 hso j (j + 1) hj hi (by omega)
      unfold AheadE at h2
      omega
  have up : ∀ k (hk : p + k < l.length), l[p + k] ∈ s.l := fun k => by
    induction k with
    | zero => exact fun _ => hps
    | succ k ih => exact fun hk => near (p + k) (p + (k + 1)) (by omega) hk (.inl (by omega)) (ih (by omega))
  have down : ∀ k (hk : k ≤ p), l[p - k]'(by omega) ∈ s.l := fun k => by
    induction k with
    | zero => exact fun _ => hps
    | succ k ih => exact fun hk => near (p - k) (p - (k + 1)) (by omega) (by omega) (.inr (by omega)) (ih (by omega))
  intro x hx
  obtain ⟨j, hj, rfl⟩ := List.mem_iff_getElem.1 hx
  by_cases hjp : p ≤ j
  · have := up (j - p) (by omega)
    simpa [show p + (j - p) = j by omega] using this
  · have := down (p - j) (by omega)
    simpa [show p - (p - j) = j by omega] using this
theorem count_evK {s : Se} {x : In} (hk : x.key = s.key) : (evK s).count x = s.l.count x.e := by
  obtain ⟨k, e⟩ := x
  simp only at hk
  subst hk
  unfold evK
  have inj : ∀ a b : Ev, (⟨s.key, a⟩ : In) = ⟨s.key, b⟩ → a = b := fun a b h => by injection h
  induction s.l with
  | nil => rfl
  | cons a l ih =>
    rw [List.map_cons, List.count_cons, List.count_cons, ih]
    by_cases ea : a = e
    · subst ea
      simp
    · have : ¬ (⟨s.key, a⟩ : In) = ⟨s.key, e⟩ := fun h => ea (inj _ _ h)
      simp [ea]
theorem count_evs {g : Gp} {mark late : Int} {L : List Se} (h : FlowOk g mark late L) {s : Se} (hs : s ∈ L) {y : Ev} (hy : y ∈ s.l) : (evs L).count ⟨s.key, y⟩ = s.l.count y := by
  obtain ⟨A, B, rfl⟩ := List.append_of_mem hs
  have hpw := List.pairwise_append.1 h.pair
  have hpw2 := List.pairwise_cons.1 hpw.2.1
  have zero : ∀ C : List Se, (∀ c ∈ C, c ∈ A ++ s :: B ∧ ¬ Nea g c s) → (C.flatMap evK).count ⟨s.key, y⟩ = 0 := fun C hC => by
    refine List.count_eq_zero.2 fun hm => ?_
    obtain ⟨c, hc, hm⟩ := List.mem_flatMap.1 hm
    obtain ⟨hk, hm⟩ := mem_evK.1 hm
    simp only at hk hm
    obtain ⟨hcL, hn⟩ := hC c hc
    have h1 := srt_le (h.span c hcL).srt.1 hm
    have h2 := srt_le (h.span s hs).srt.1 hy
    have hg := h.gok.gap
    exact hn ⟨hk.symm, by omega, by omega⟩
  show ((A ++ s :: B).flatMap evK).count _ = _
  rw [List.flatMap_append, List.flatMap_cons, List.count_append, List.count_append, zero A fun c hc => ⟨by simp [hc], (hpw.2.2 c hc s (.head _)).2⟩, zero B fun c hc => ⟨by simp [hc], fun hn => (hpw2.1 c hc).2 (nea_symm hn)⟩, count_evK rfl]
  simp only [Nat.zero_add, Nat.add_zero]
/-- valid states of the same events are the same. -/
theorem flow_uniq {g : Gp} {m1 m2 t1 t2 : Int} {L1 L2 : List Se} (h1 : FlowOk g m1 t1 L1) (h2 : FlowOk g m2 t2 L2) (hp : (evs L1).Perm (evs L2)) : L1 = L2 := by
  have sub : ∀ {L1 L2 : List Se} {m1 m2 t1 t2 : Int}, FlowOk g m1 t1 L1 → FlowOk g m2 t2 L2 → (evs L1).Perm (evs L2) → ∀ s ∈ L1, s ∈ L2 := fun {L1 L2 m1 m2 t1 t2} h1 h2 hp s hs => by
    obtain ⟨q1, q2⟩ := (h1.span s hs).srt
    have h0 := List.length_pos_iff.2 q2
    have hin : ∀ x ∈ s.l, (⟨s.key, x⟩ : In) ∈ evs L2 := fun x hx => hp.mem_iff.1 (List.mem_flatMap.2 ⟨s, hs, mem_evK.2 ⟨rfl, hx⟩⟩)
    obtain ⟨s2, hs2, hm⟩ := List.mem_flatMap.1 (hin _ (List.getElem_mem h0))
    obtain ⟨hk, hm⟩ := mem_evK.1 hm
    simp only at hk hm
    obtain ⟨r1, r2⟩ := (h2.span s2 hs2).srt
    have c1 : ∀ x ∈ s.l, x ∈ s2.l := chain_in h2 hs2 (h1.span s hs).chain q1 (fun x hx => by rw [← hk]; exact hin x hx) h0 hm
    obtain ⟨p, hp2, hpe⟩ := List.mem_iff_getElem.1 hm
    have c2 : ∀ x ∈ s2.l, x ∈ s.l := chain_in h1 hs (h2.span s2 hs2).chain r1 (fun x hx => by
      rw [hk]
      exact hp.mem_iff.2 (List.mem_flatMap.2 ⟨s2, hs2, mem_evK.2 ⟨rfl, hx⟩⟩)) hp2 (by rw [hpe]; exact List.getElem_mem h0)
    have hl : s.l = s2.l := by
      refine srt_uniq q1 r1 (List.perm_iff_count.2 fun y => ?_)
      by_cases hy : y ∈ s.l
      · rw [← count_evs h1 hs hy, ← count_evs h2 hs2 (c1 y hy), hk]
        exact List.perm_iff_count.1 hp _
      · rw [List.count_eq_zero.2 hy, List.count_eq_zero.2 fun h => hy (c2 y h)]
    obtain ⟨k, l⟩ := s
    obtain ⟨k2, l2⟩ := s2
    simp only at hk hl
    subst hk
    subst hl
    exact hs2
  have nd : ∀ {L : List Se} {m t : Int}, FlowOk g m t L → L.Nodup := fun {L m t} h => by
    refine h.pair.imp fun {a b} hab e => ?_
    subst e
    exact bef_not hab.1 hab.1
  have hst : ∀ {L : List Se} {m t : Int}, FlowOk g m t L → Strict L := fun h => h.pair.imp fun h => h.1
  have hperm : L1.Perm L2 := (List.perm_ext_iff_of_nodup (nd h1) (nd h2)).2 fun s => ⟨sub h1 h2 hp s, sub h2 h1 hp.symm s⟩
  exact strict_uniq ((hst h1).imp fun h => bef_not h) (hst h2) hperm
/-- the watermark is the latest time. -/
theorem Runs.mark {g : Gp} {l : List In} {f : Fl} {all : List Se} (h : Runs g l f all) : -1 ≤ f.mark ∧ (∀ x ∈ l, x.e.t ≤ f.mark) ∧ (f.mark = -1 ∨ ∃ x ∈ l, f.mark = x.e.t) ∧ ∀ x ∈ l, 0 ≤ x.e.t := by
  induction h with
  | nil => exact ⟨by simp [zeroF], by simp, .inl rfl, by simp⟩
  | @snoc l f all x h1 h2 ih =>
    obtain ⟨a1, a2, a3, a4⟩ := ih
    have hm : (addS g f x.key x.e).mark = max f.mark x.e.t := rfl
    have hte := h2.1.time
    rw [hm]
    refine ⟨by omega, fun y hy => ?_, ?_, fun y hy => ?_⟩
    · rcases List.mem_append.1 hy with hy | hy
      · have := a2 y hy
        omega
      · obtain rfl := List.mem_singleton.1 hy
        omega
    · by_cases hc : f.mark ≤ x.e.t
      · exact .inr ⟨x, by simp, by omega⟩
      · rcases a3 with h | ⟨y, hy, h⟩
        · omega
        · exact .inr ⟨y, by simp [hy], by omega⟩
    · rcases List.mem_append.1 hy with hy | hy
      · exact a4 y hy
      · obtain rfl := List.mem_singleton.1 hy
        exact hte.1
/-- as long as none is dropped and none is over, the order is of no matter. -/
theorem Runs.order {g : Gp} (hg : GapOk g) {a b : List In} {f h : Fl} (ha : Runs g a f []) (hb : Runs g b h []) (hp : a.Perm b) (hf : f.late = 0) (hh : h.late = 0) : f = h := by
  obtain ⟨d1, e1, p1⟩ := ha.evs
  obtain ⟨d2, e2, p2⟩ := hb.evs
  have z1 : d1 = [] := List.eq_nil_of_length_eq_zero (by omega)
  have z2 : d2 = [] := List.eq_nil_of_length_eq_zero (by omega)
  subst z1
  subst z2
  simp only [List.nil_append, List.append_nil] at p1 p2
  have hL : f.L = h.L := flow_uniq (ha.flow hg).1 (hb.flow hg).1 (p1.trans (hp.trans p2.symm))
  have m1 := ha.mark
  have m2 := hb.mark
  have hm : f.mark = h.mark := by
    rcases m1.2.2.1 with h1 | ⟨x, hx, h1⟩ <;> rcases m2.2.2.1 with h2 | ⟨y, hy, h2⟩
    · omega
    · have := m1.2.1 y (hp.mem_iff.2 hy)
      have := m2.2.2.2 y hy
      omega
    · have := m2.2.1 x (hp.mem_iff.1 hx)
      have := m1.2.2.2 x hx
      omega
    · have := m1.2.1 y (hp.mem_iff.2 hy)
      have := m2.2.1 x (hp.mem_iff.1 hx)
      omega
  obtain ⟨fm, fl, fL⟩ := f
  obtain ⟨hm', hl, hL'⟩ := h
  simp only at hm hL hf hh
  subst hm hL hf hh
  rfl

end Go.Proofs.Ytojgdmcojmllkaa.M
