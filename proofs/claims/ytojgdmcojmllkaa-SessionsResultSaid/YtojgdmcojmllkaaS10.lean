/- What adding an event comes to, in plain lists. -/
import Derived.Test.YtojgdmcojmllkaaS9
namespace Go.Proofs.Ytojgdmcojmllkaa.M
open Go.Proofs.Ytojgdmcojmllkaa.F Go.RowKit
set_option linter.unusedVariables false
set_option linter.unusedSimpArgs false
set_option maxRecDepth 100000
set_option maxHeartbeats 2000000
attribute [local irreducible] Res.cells Res.row Res.map Res.any World.cell? World.frozen? Instr.fieldAt Instr.loadAt Instr.storeAt Instr.indexAt Instr.lookup Instr.mapUpdate Instr.box Instr.build Instr.buildSlice Instr.extract Instr.alloc Instr.field Instr.index Instr.sliceAt Instr.makeSlice Instr.makeMap Instr.makeFunc binS Op.unary Sem.run
instance (a b : Ev) : Decidable (AheadE a b) := inferInstanceAs (Decidable (_ ∨ _))
instance (g : Gp) (t m : Int) : Decidable (OverT g t m) := inferInstanceAs (Decidable (_ < _))
instance (g : Gp) (a : Int) (b : List Ev) (c : Int) (d : List Ev) : Decidable (NearS g a b c d) := inferInstanceAs (Decidable (_ ∧ _))
instance (a : Int) (b : List Ev) (c : Int) (d : List Ev) : Decidable (BeforeS a b c d) := inferInstanceAs (Decidable (_ ∨ _))
/-- an event in its place. -/
def putE : List Ev → Ev → List Ev
  | [], e => [e]
  | a :: l, e => if AheadE e a then e :: a :: l else a :: putE l e
/-- a session in its place. -/
def setS : List Se → Se → List Se
  | [], s => [s]
  | a :: l, s => if Bef a s then a :: setS l s else s :: a :: l
def Srt (l : List Ev) : Prop := l.Pairwise fun a b => ¬ AheadE b a
theorem putE_at {e : Ev} : ∀ {l : List Ev} {i : Nat}, i ≤ l.length → (∀ j (h : j < l.length), j < i → ¬ AheadE e l[j]) → (∀ h : i < l.length, AheadE e l[i]) → putE l e = l.take i ++ e :: l.drop i
  | [], i, hi, _, _ => by
    obtain rfl : i = 0 := by simpa using hi
    rfl
  | a :: l, 0, _, _, h => by
    have := h (by simp)
    simp only [List.getElem_cons_zero] at this
    simp [putE, this]
  | a :: l, i + 1, hi, h1, h2 => by
    have h0 := h1 0 (by simp) (by omega)
    simp only [List.getElem_cons_zero] at h0
    unfold putE
    rw [if_neg h0, putE_at (l := l) (i := i) (by simpa using hi) (fun j h hj => by have := h1 (j + 1) (by simpa using h) (by omega); simpa using this) (fun h => by have := h2 (by simpa using h); simpa using this)]
    simp
theorem setS_at {s : Se} : ∀ {l : List Se} {i : Nat}, i ≤ l.length → (∀ j (h : j < l.length), j < i → Bef l[j] s) → (∀ h : i < l.length, ¬ Bef l[i] s) → setS l s = l.take i ++ s :: l.drop i
  | [], i, hi, _, _ => by
    obtain rfl : i = 0 := by simpa using hi
    rfl
  | a :: l, 0, _, _, h => by
    have := h (by simp)
    simp only [List.getElem_cons_zero] at this
    unfold setS
    rw [if_neg this]
    rfl
  | a :: l, i + 1, hi, h1, h2 => by
    have h0 := h1 0 (by simp) (by omega)
    simp only [List.getElem_cons_zero] at h0
    unfold setS
    rw [if_pos h0, setS_at (l := l) (i := i) (by simpa using hi) (fun j h hj => by have := h1 (j + 1) (by simpa using h) (by omega); simpa using this) (fun h => by have := h2 (by simpa using h); simpa using this)]
    simp
theorem putE_perm (e : Ev) : ∀ l, (putE l e).Perm (e :: l)
  | [] => .refl _
  | a :: l => by
    unfold putE
    split
    · exact .refl _
    · exact ((putE_perm e l).cons a).trans (.swap e a l)
theorem setS_perm (s : Se) : ∀ l, (setS l s).Perm (s :: l)
  | [] => .refl _
  | a :: l => by
    unfold setS
    split
    · exact ((setS_perm s l).cons a).trans (.swap s a l)
    · exact .refl _
theorem putE_len (l : List Ev) (e : Ev) : (putE l e).length = l.length + 1 := by
  have := (putE_perm e l).length_eq
  simpa using this
theorem setS_len (l : List Se) (s : Se) : (setS l s).length = l.length + 1 := by
  have := (setS_perm s l).length_eq
  simpa using this
theorem ahead_tot {a b : Ev} (h1 : ¬ AheadE a b) (h2 : ¬ AheadE b a) : a = b := by
  unfold AheadE at *
  exact ev_ext.2 (by omega)
theorem ahead_trans {a b c : Ev} (h1 : ¬ AheadE b a) (h2 : ¬ AheadE c b) : ¬ AheadE c a := by
  unfold AheadE at *
  omega
theorem ahead_not {a b : Ev} (h : AheadE a b) : ¬ AheadE b a := by
  unfold AheadE at *
  omega
theorem putE_srt (e : Ev) : ∀ {l}, Srt l → Srt (putE l e)
  | [], _ => List.pairwise_singleton _ _
  | a :: l, h => by
    obtain ⟨h1, h2⟩ := List.pairwise_cons.1 h
    unfold putE
    split
    · rename_i ha
      refine List.pairwise_cons.2 ⟨fun x hx => ?_, h⟩
      rcases List.mem_cons.1 hx with rfl | hx
      · exact ahead_not ha
      · exact ahead_trans (ahead_not ha) (h1 x hx)
    · rename_i ha
      refine List.pairwise_cons.2 ⟨fun x hx => ?_, putE_srt e h2⟩
      rcases List.mem_cons.1 ((putE_perm e l).mem_iff.1 hx) with rfl | hx
      · exact ha
      · exact h1 x hx
theorem srt_uniq {a b : List Ev} (ha : Srt a) (hb : Srt b) (h : a.Perm b) : a = b := List.Perm.eq_of_pairwise (fun x y _ _ h1 h2 => ahead_tot h2 h1) ha hb h
def putsE (l : List Ev) (m : List Ev) : List Ev := m.foldl putE l
theorem putsE_perm : ∀ (m l : List Ev), (putsE l m).Perm (l ++ m)
  | [], l => by simp [putsE]
  | e :: m, l => by
    show (putsE (putE l e) m).Perm _
    refine (putsE_perm m _).trans ?_
    refine ((putE_perm e l).append_right m).trans ?_
    simp only [List.cons_append]
    exact List.perm_middle.symm
theorem putsE_srt : ∀ (m : List Ev) {l : List Ev}, Srt l → Srt (putsE l m)
  | [], _, h => h
  | e :: m, l, h => putsE_srt m (putE_srt e h)
theorem putsE_len (m l : List Ev) : (putsE l m).length = l.length + m.length := by
  have := (putsE_perm m l).length_eq
  simpa using this
def alone (key : Int) (e : Ev) : Se := ⟨key, [e]⟩
def nearB (g : Gp) (key : Int) (e : Ev) (s : Se) : Bool := decide (Nea g s (alone key e))
def wholeS (g : Gp) (L : List Se) (key : Int) (e : Ev) : Se := ⟨key, putsE [e] ((L.filter (nearB g key e)).flatMap (·.l))⟩
def restS (g : Gp) (L : List Se) (key : Int) (e : Ev) : List Se := L.filter fun s => !nearB g key e s
def joinS (g : Gp) (L : List Se) (key : Int) (e : Ev) : List Se := setS (restS g L key e) (wholeS g L key e)
def JoinOk (g : Gp) (L : List Se) (key : Int) (e : Ev) : Prop := (wholeS g L key e).l.length ≤ 64 ∧ (joinS g L key e).length ≤ 64
instance (g : Gp) (L : List Se) (key : Int) (e : Ev) : Decidable (JoinOk g L key e) := inferInstanceAs (Decidable (_ ∧ _))
structure Fl where
  mark : Int
  late : Int
  L : List Se
def Drop (g : Gp) (f : Fl) (key : Int) (e : Ev) : Prop := OverT g e.t f.mark ∨ ¬ JoinOk g f.L key e
instance (g : Gp) (f : Fl) (key : Int) (e : Ev) : Decidable (Drop g f key e) := inferInstanceAs (Decidable (_ ∨ _))
def midL (g : Gp) (f : Fl) (key : Int) (e : Ev) : List Se := if Drop g f key e then f.L else joinS g f.L key e
def mark' (f : Fl) (e : Ev) : Int := max f.mark e.t
def overB (g : Gp) (m : Int) (s : Se) : Bool := decide (OverT g (lT s.l) m)
/-- the state behind an event. -/
def addS (g : Gp) (f : Fl) (key : Int) (e : Ev) : Fl := ⟨mark' f e, if Drop g f key e then f.late + 1 else f.late, (midL g f key e).filter fun s => !overB g (mark' f e) s⟩
/-- the sessions that are over by it. -/
def shutS (g : Gp) (f : Fl) (key : Int) (e : Ev) : List Se := (midL g f key e).filter (overB g (mark' f e))
theorem bef_not {a b : Se} (h : Bef a b) : ¬ Bef b a := by
  unfold Bef BeforeS at *
  omega
/-- a list of sessions with places of their own. -/
def Strict (L : List Se) : Prop := L.Pairwise Bef
theorem fT_putsE {l m : List Ev} (h : Srt l) (hl : l ≠ []) : (fT (putsE l m) = fT l) ∨ ∃ x ∈ m, fT (putsE l m) = x.t := by
  have hp := putsE_perm m l
  have hn : 0 < (putsE l m).length := by
    rw [putsE_len]
    have := List.length_pos_iff.2 hl
    omega
  have hs := putsE_srt m h
  rw [fT_eq hn]
  have hmem := hp.mem_iff.1 (List.getElem_mem hn)
  rcases List.mem_append.1 hmem with hm | hm
  · left
    have h0 : 0 < l.length := List.length_pos_iff.2 hl
    rw [fT_eq h0]
    obtain ⟨j, hj, e⟩ := List.mem_iff_getElem.1 hm
    have a1 : ¬ AheadE l[j] l[0] := by
      by_cases e0 : j = 0
      · subst e0
        unfold AheadE
        omega
      · exact List.pairwise_iff_getElem.1 h 0 j h0 hj (by omega)
    obtain ⟨k, hk, e2⟩ := List.mem_iff_getElem.1 (hp.symm.mem_iff.1 (List.mem_append_left m (List.getElem_mem h0)))
    have a2 : ¬ AheadE (putsE l m)[k] (putsE l m)[0] := by
      by_cases e0 : k = 0
      · subst e0
        unfold AheadE
        omega
      · exact List.pairwise_iff_getElem.1 hs 0 k hn hk (by omega)
    rw [e2] at a2
    rw [← e] at a2 ⊢
    unfold AheadE at *
    omega
  · exact .inr ⟨_, hm, rfl⟩
/-- no session that stays stands where the whole one does. -/
theorem whole_apart {g : Gp} {L : List Se} {key : Int} {e : Ev} (hg : GapOk g) (hL : L.Pairwise fun a b => Bef a b ∧ ¬ Nea g a b) (hne : ∀ s ∈ L, Srt s.l ∧ s.l ≠ []) {s : Se} (hs : s ∈ restS g L key e) : ¬ (fT s.l = fT (wholeS g L key e).l ∧ s.key = key) := by
  rintro ⟨h1, h2⟩
  obtain ⟨hs, hn⟩ := List.mem_filter.1 hs
  have hn : ¬ Nea g s (alone key e) := by
    unfold nearB at hn
    simpa using hn
  have hgap := hg.gap
  have hfs : fT s.l ≤ lT s.l := by
    obtain ⟨q1, q2⟩ := hne s hs
    have h0 : 0 < s.l.length := List.length_pos_iff.2 q2
    rw [fT_eq h0, lT_eq (by omega)]
    by_cases e0 : s.l.length - 1 = 0
    · simp only [e0]
      exact Int.le_refl _
    · have := List.pairwise_iff_getElem.1 q1 0 (s.l.length - 1) h0 (by omega) (by omega)
      unfold AheadE at this
      omega
  rcases fT_putsE (l := [e]) (m := (L.filter (nearB g key e)).flatMap (·.l)) (List.pairwise_singleton _ _) (by simp) with h | ⟨x, hx, h⟩
  · have h : fT (wholeS g L key e).l = e.t := h
    refine hn ⟨h2, ?_, ?_⟩
    · show e.t - lT s.l ≤ g.gap
      omega
    · show fT s.l - e.t ≤ g.gap
      omega
  · have h : fT (wholeS g L key e).l = x.t := h
    obtain ⟨m, hm, hx⟩ := List.mem_flatMap.1 hx
    obtain ⟨hmL, hmn⟩ := List.mem_filter.1 hm
    have hmn : Nea g m (alone key e) := by
      unfold nearB at hmn
      simpa using hmn
    have hkey : m.key = key := hmn.1
    -- s and m are two, of one key, and m has an event at s's beginning
    have hsm : s ≠ m := fun e => hn (e ▸ hmn)
    have hx1 : fT m.l ≤ x.t ∧ x.t ≤ lT m.l := by
      obtain ⟨q1, q2⟩ := hne m hmL
      have h0 : 0 < m.l.length := List.length_pos_iff.2 q2
      obtain ⟨j, hj, rfl⟩ := List.mem_iff_getElem.1 hx
      rw [fT_eq h0, lT_eq (by omega)]
      constructor
      · by_cases e0 : j = 0
        · subst e0
          exact Int.le_refl _
        · have := List.pairwise_iff_getElem.1 q1 0 j h0 hj (by omega)
          unfold AheadE at this
          omega
      · by_cases e0 : j = m.l.length - 1
        · subst e0
          exact Int.le_refl _
        · have := List.pairwise_iff_getElem.1 q1 j (m.l.length - 1) hj (by omega) (by omega)
          unfold AheadE at this
          omega
    have near : ∀ {a b : Se}, a.key = b.key → fT b.l - lT a.l ≤ g.gap → fT a.l - lT b.l ≤ g.gap → Nea g a b := fun h1 h2 h3 => ⟨h1, h2, h3⟩
    obtain ⟨i, hi, rfl⟩ := List.mem_iff_getElem.1 hs
    obtain ⟨j, hj, rfl⟩ := List.mem_iff_getElem.1 hmL
    rcases Nat.lt_trichotomy i j with hij | hij | hij
    · exact (List.pairwise_iff_getElem.1 hL i j hi hj hij).2 (near (by omega) (by omega) (by omega))
    · subst hij
      exact hsm rfl
    · exact (List.pairwise_iff_getElem.1 hL j i hj hi hij).2 (near (by omega) (by omega) (by omega))
theorem setS_strict {s : Se} : ∀ {L : List Se}, Strict L → (∀ a ∈ L, ¬ (fT a.l = fT s.l ∧ a.key = s.key)) → Strict (setS L s)
  | [], _, _ => List.pairwise_singleton _ _
  | a :: L, h, hn => by
    obtain ⟨h1, h2⟩ := List.pairwise_cons.1 h
    unfold setS
    split
    · rename_i ha
      refine List.pairwise_cons.2 ⟨fun x hx => ?_, setS_strict h2 fun x hx => hn x (.tail _ hx)⟩
      rcases List.mem_cons.1 ((setS_perm s L).mem_iff.1 hx) with rfl | hx
      · exact ha
      · exact h1 x hx
    · rename_i ha
      have hsa : Bef s a := by
        have := hn a (.head _)
        unfold Bef BeforeS at *
        omega
      refine List.pairwise_cons.2 ⟨fun x hx => ?_, h⟩
      rcases List.mem_cons.1 hx with rfl | hx
      · exact hsa
      · exact BeforeS.trans hsa (h1 x hx)
/-- sorted by their places, that are their own: there is one such list. -/
theorem strict_uniq {a b : List Se} (ha : a.Pairwise fun x y => ¬ Bef y x) (hb : Strict b) (h : a.Perm b) : a = b := by
  refine List.Perm.eq_of_pairwise (le := fun x y => ¬ Bef y x) (fun x y hx hy h1 h2 => ?_) ha (hb.imp fun h => bef_not h) h
  have hx := h.mem_iff.1 hx
  obtain ⟨i, hi, rfl⟩ := List.mem_iff_getElem.1 hx
  obtain ⟨j, hj, rfl⟩ := List.mem_iff_getElem.1 hy
  rcases Nat.lt_trichotomy i j with hij | hij | hij
  · exact absurd (List.pairwise_iff_getElem.1 hb i j hi hj hij) h2
  · subst hij
    rfl
  · exact absurd (List.pairwise_iff_getElem.1 hb j i hj hi hij) h1
theorem SpanOk.srt {g : Gp} {key : Int} {l : List Ev} {mark : Int} (h : SpanOk g key l mark) : Srt l ∧ l ≠ [] := by
  have hn := h.len
  refine ⟨List.pairwise_iff_getElem.2 fun i j hi hj hij => ?_, fun e => by rw [e] at hn; simp at hn⟩
  obtain ⟨k, rfl⟩ : ∃ k, j = i + 1 + k := ⟨j - (i + 1), by omega⟩
  induction k with
  | zero => exact (h.step i hj).1
  | succ k ih => exact ahead_trans (ih (by omega) (by omega)) (h.step (i + 1 + k) hj).1

end Go.Proofs.Ytojgdmcojmllkaa.M
