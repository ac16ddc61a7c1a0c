/- Cleaned up to one offset, and then up to a later one: plain. -/
import Derived.Test.YtnhgdngbdoifnaaV13
namespace Go.Proofs.Ytnhgdngbdoifnaa.M
open Go.Proofs.Ytnhgdngbdoifnaa.F Go.RowKit
set_option linter.unusedVariables false
set_option linter.unusedSimpArgs false
set_option maxRecDepth 100000
set_option maxHeartbeats 2000000
attribute [local irreducible] Res.cells Res.row Res.map Res.any World.cell? World.frozen? Instr.fieldAt Instr.loadAt Instr.storeAt Instr.indexAt Instr.lookup Instr.mapUpdate Instr.box Instr.build Instr.buildSlice Instr.extract Instr.alloc Instr.field Instr.index Instr.sliceAt Instr.makeSlice Instr.makeMap Instr.makeFunc binS Op.unary Sem.run
/-- is it needless, ahead of these? -/
def need (u : Int) (g : Gt) (t : List Gt) : Prop := g.off < u ∧ (g.r.text = putS 2 ∨ ∃ h ∈ t, h.off < u ∧ SameR g.r h.r)
open Classical in
noncomputable def cl (u : Int) : List Gt → List Gt
  | [] => []
  | g :: t => if need u g t then cl u t else g :: cl u t
theorem needless_need {l : List Gt} {u : Int} {i : Nat} (hi : i < l.length) : Needless l i u ↔ need u l[i] (l.drop (i + 1)) := by
  unfold Needless need
  constructor
  · rintro ⟨_, h1, h2⟩
    refine ⟨h1, h2.imp id ?_⟩
    rintro ⟨k, hk, h3, h4, h5⟩
    refine ⟨l[k], ?_, h4, h5⟩
    rw [List.mem_iff_getElem]
    refine ⟨k - (i + 1), by rw [List.length_drop]; omega, ?_⟩
    rw [List.getElem_drop]
    congr 1
    omega
  · rintro ⟨h1, h2⟩
    refine ⟨hi, h1, h2.imp id ?_⟩
    rintro ⟨h, hm, h4, h5⟩
    obtain ⟨k, hk, rfl⟩ := List.mem_iff_getElem.1 hm
    rw [List.length_drop] at hk
    rw [List.getElem_drop] at h4 h5
    exact ⟨i + 1 + k, by omega, by omega, h4, h5⟩
theorem cleanN_cl (l : List Gt) (u : Int) : ∀ n, n ≤ l.length → cleanN l u n ++ cl u (l.drop n) = cl u l
  | 0, _ => rfl
  | n + 1, hn => by
    have hi : n < l.length := by omega
    have ih := cleanN_cl l u n (by omega)
    rw [List.drop_eq_getElem_cons hi, cl] at ih
    by_cases h : Needless l n u
    · rw [if_pos ((needless_need hi).1 h)] at ih
      rw [cleanN_skip h]
      exact ih
    · rw [if_neg (fun h1 => h ((needless_need hi).2 h1))] at ih
      rw [cleanN_take hi h, List.append_assoc]
      exact ih
theorem cleanN_eq (l : List Gt) (u : Int) : cleanN l u l.length = cl u l := by
  have h := cleanN_cl l u l.length (Nat.le_refl _)
  rw [List.drop_length] at h
  rw [← h]
  simp [cl]
theorem cl_sub (u : Int) : ∀ l : List Gt, ∀ g ∈ cl u l, g ∈ l
  | [], g, h => h
  | a :: l, g, h => by
    unfold cl at h
    split at h
    · exact .tail _ (cl_sub u l g h)
    · rcases List.mem_cons.1 h with rfl | h
      · exact .head _
      · exact .tail _ (cl_sub u l g h)
theorem cl_late {u : Int} : ∀ {l : List Gt} {g : Gt}, g ∈ l → u ≤ g.off → g ∈ cl u l
  | a :: l, g, h, hu => by
    unfold cl
    rcases List.mem_cons.1 h with rfl | h
    · rw [if_neg (fun h => by have := h.1; omega)]
      exact .head _
    · split
      · exact cl_late h hu
      · exact .tail _ (cl_late h hu)
theorem cl_cl {u m : Int} (hum : u ≤ m) : ∀ {l : List Gt}, l.Pairwise (fun a b => a.off ≤ b.off) → cl m (cl u l) = cl m l
  | [], _ => rfl
  | g :: t, hp => by
    obtain ⟨h1, h2⟩ := List.pairwise_cons.1 hp
    have ih := cl_cl hum h2
    by_cases hn : need u g t
    · have hn' : need m g t := ⟨by have := hn.1; omega, hn.2.imp id fun ⟨h, a, b, c⟩ => ⟨h, a, by omega, c⟩⟩
      rw [cl, if_pos hn, cl, if_pos hn']
      exact ih
    · have e : need m g (cl u t) ↔ need m g t := by
        constructor
        · exact fun h => ⟨h.1, h.2.imp id fun ⟨x, a, b, c⟩ => ⟨x, cl_sub u t x a, b, c⟩⟩
        · refine fun h => ⟨h.1, h.2.imp id fun ⟨x, a, b, c⟩ => ⟨x, ?_, b, c⟩⟩
          refine cl_late a ?_
          refine Classical.byContradiction fun hx => hn ⟨?_, .inr ⟨x, a, by omega, c⟩⟩
          have := h1 x a
          omega
      rw [show cl u (g :: t) = g :: cl u t from by rw [cl, if_neg hn]]
      by_cases hm : need m g t
      · rw [cl, if_pos (e.2 hm), show cl m (g :: t) = cl m t from by rw [cl, if_pos hm]]
        exact ih
      · rw [cl, if_neg (fun h => hm (e.1 h)), show cl m (g :: t) = g :: cl m t from by rw [cl, if_neg hm], ih]


end Go.Proofs.Ytnhgdngbdoifnaa.M
