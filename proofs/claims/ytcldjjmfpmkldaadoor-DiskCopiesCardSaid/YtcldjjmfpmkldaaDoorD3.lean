/- Files of a disk, by their names. -/
import Derived.Test.YtcldjjmfpmkldaaDoorD2
import Derived.Test.YtcldjjmfpmkldaaDoorFwW
import Derived.Test.YtcldjjmfpmkldaaDoorFwB
import Derived.Test.YtcldjjmfpmkldaaDoorFwM
import Derived.Test.YtcldjjmfpmkldaaDoorMtrim0
import Derived.Test.YtcldjjmfpmkldaaDoorMdisk0
namespace Go.Proofs.YtcldjjmfpmkldaaDoor.M
open Go.Proofs.YtcldjjmfpmkldaaDoor.F Go.RowKit
set_option linter.unusedVariables false
set_option linter.unusedSimpArgs false
set_option maxRecDepth 100000
set_option maxHeartbeats 2000000
attribute [local irreducible] Res.cells Res.row Res.map Res.any World.cell? World.frozen? Instr.fieldAt Instr.loadAt Instr.storeAt Instr.indexAt Instr.lookup Instr.mapUpdate Instr.box Instr.build Instr.buildSlice Instr.extract Instr.alloc Instr.field Instr.index Instr.sliceAt Instr.makeSlice Instr.makeMap Instr.makeFunc binS Op.unary Sem.run
def getF (l : List Fl) (s : ByteArray) : Option Fl := l.find? (fun f => decide (f.name = s))
def updF (l : List Fl) (f' : Fl) : List Fl := l.map (fun f => if f.name = f'.name then f' else f)
def insX (p : Fl × Nat) : List (Fl × Nat) → List (Fl × Nat)
  | [] => [p]
  | q :: X => if lst p.1.name < lst q.1.name then p :: q :: X else q :: insX p X
def insF (f : Fl) : List Fl → List Fl
  | [] => [f]
  | q :: X => if lst f.name < lst q.name then f :: q :: X else q :: insF f X
theorem insX_map (p : Fl × Nat) : ∀ X, (insX p X).map Prod.fst = insF p.1 (X.map Prod.fst)
  | [] => rfl
  | q :: X => by
    unfold insX
    simp only [List.map_cons, insF]
    split
    · rfl
    · rw [List.map_cons, insX_map p X]
theorem insX_perm (p : Fl × Nat) : ∀ X, (insX p X).Perm (p :: X)
  | [] => .refl _
  | q :: X => by
    unfold insX
    split
    · exact .refl _
    · exact ((insX_perm p X).cons q).trans (.swap _ _ _)
theorem insF_perm (f : Fl) : ∀ l, (insF f l).Perm (f :: l)
  | [] => .refl _
  | q :: l => by
    unfold insF
    split
    · exact .refl _
    · exact ((insF_perm f l).cons q).trans (.swap _ _ _)
theorem lt_of_ne {a b : ByteArray} (h : ¬ lst a < lst b) (hne : a ≠ b) : lst b < lst a := by
  refine Classical.byContradiction fun h1 => hne (lst_inj ?_)
  exact List.le_antisymm (List.not_lt.1 h1) (List.not_lt.1 h)
theorem insF_up {f : Fl} : ∀ {l : List Fl}, UpL l → (∀ g ∈ l, g.name ≠ f.name) → UpL (insF f l)
  | [], _, _ => List.pairwise_singleton _ _
  | q :: l, h, hn => by
    have hq := List.pairwise_cons.1 h
    unfold insF
    split
    · rename_i h1
      refine List.pairwise_cons.2 ⟨fun g hg => ?_, h⟩
      rcases List.mem_cons.1 hg with rfl | hg
      · exact h1
      · exact List.lt_trans h1 (hq.1 g hg)
    · rename_i h1
      refine List.pairwise_cons.2 ⟨fun g hg => ?_, insF_up hq.2 (fun g hg => hn g (.tail _ hg))⟩
      rcases List.mem_cons.1 ((insF_perm f l).mem_iff.1 hg) with rfl | hg
      · exact lt_of_ne h1 (hn q (.head _)).symm
      · exact hq.1 g hg
theorem up_ne {l : List Fl} (h : UpL l) : l.Pairwise (fun a b => a.name ≠ b.name) := h.imp fun hab e => by rw [e] at hab; exact absurd hab (List.lt_irrefl _)
theorem getF_mem {l : List Fl} (h : UpL l) {f : Fl} (hf : f ∈ l) : getF l f.name = some f := by
  induction l with
  | nil => cases hf
  | cons q l ih =>
    have hq := List.pairwise_cons.1 (up_ne h)
    unfold getF
    rcases List.mem_cons.1 hf with rfl | hf
    · simp
    · rw [List.find?_cons_of_neg (by simp [hq.1 f hf])]
      exact ih (List.pairwise_cons.1 h).2 hf
theorem getF_none {l : List Fl} {s : ByteArray} (h : ∀ f ∈ l, f.name ≠ s) : getF l s = none := List.find?_eq_none.2 fun f hf => by simp [h f hf]
theorem getF_some {l : List Fl} {s : ByteArray} {f : Fl} (h : getF l s = some f) : f ∈ l ∧ f.name = s := ⟨List.mem_of_find?_eq_some h, by simpa using List.find?_some h⟩
theorem look_X {X : List (Fl × Nat)} (hU : UpL (X.map Prod.fst)) (s : ByteArray) : (Assoc.find (X.map nb) s = none ∧ getF (X.map Prod.fst) s = none ∧ ∀ p ∈ X, p.1.name ≠ s) ∨ ∃ i, ∃ hi : i < X.length, Assoc.find (X.map nb) s = some X[i].2 ∧ getF (X.map Prod.fst) s = some X[i].1 ∧ X[i].1.name = s := by
  cases hf : Assoc.find (X.map nb) s with
  | none =>
    have h := Assoc.find_none hf
    have h2 : ∀ p ∈ X, p.1.name ≠ s := fun p hp => h (nb p) (List.mem_map.2 ⟨p, hp, rfl⟩)
    exact .inl ⟨rfl, getF_none (fun f hf => by obtain ⟨p, hp, rfl⟩ := List.mem_map.1 hf; exact h2 p hp), h2⟩
  | some g =>
    have h := Assoc.find_some hf
    obtain ⟨p, hp, he⟩ := List.mem_map.1 h
    obtain ⟨i, hi, rfl⟩ := List.mem_iff_getElem.1 hp
    obtain ⟨rfl, rfl⟩ := Prod.mk.inj he
    exact .inr ⟨i, hi, rfl, getF_mem hU (List.mem_map.2 ⟨_, List.getElem_mem hi, rfl⟩), rfl⟩
theorem updF_set : ∀ {l : List Fl} (_ : UpL l) {i : Nat} (hi : i < l.length) {f' : Fl} (_ : l[i].name = f'.name), l.set i f' = updF l f'
  | [], _, i, hi, _, _ => absurd hi (Nat.not_lt_zero _)
  | q :: l, h, 0, hi, f', e => by
    have hq := List.pairwise_cons.1 (up_ne h)
    simp only [List.getElem_cons_zero] at e
    unfold updF
    rw [List.set_cons_zero, List.map_cons, if_pos e]
    congr 1
    exact (Eq.trans (List.map_congr_left (g := id) (fun g hg => if_neg (fun h2 => hq.1 g hg (e.trans h2.symm)))) (List.map_id l)).symm
  | q :: l, h, i + 1, hi, f', e => by
    have hq := List.pairwise_cons.1 (up_ne h)
    simp only [List.getElem_cons_succ] at e
    have hl : i < l.length := by simpa using hi
    have ih := updF_set (List.pairwise_cons.1 h).2 hl e
    unfold updF at ih ⊢
    rw [List.set_cons_succ, List.map_cons, if_neg (fun h2 => hq.1 _ (List.getElem_mem hl) (h2.trans e.symm)), ih]
theorem updX_map {X : List (Fl × Nat)} (hU : UpL (X.map Prod.fst)) {i : Nat} (hi : i < X.length) {f' : Fl} (e : X[i].1.name = f'.name) : (X.set i (f', X[i].2)).map Prod.fst = updF (X.map Prod.fst) f' := by
  rw [List.map_set]
  exact updF_set hU (by simpa using hi) (by simpa using e)
theorem nb_set {X : List (Fl × Nat)} {i : Nat} (hi : i < X.length) {f' : Fl} (e : X[i].1.name = f'.name) : (X.set i (f', X[i].2)).map nb = X.map nb := by
  rw [List.map_set]
  have : nb (f', X[i].2) = (X.map nb)[i]'(by simpa using hi) := by simp [nb, e]
  rw [this, List.set_getElem_self]
theorem fileAt {X : List (Fl × Nat)} {i : Nat} (hi : i < X.length) (L : List Res) (a b : Res) : (a :: b :: (X.map fileR ++ L))[i + 2]? = some (fileR X[i]) := by
  rw [List.getElem?_cons_succ, List.getElem?_cons_succ, List.getElem?_append_left (by simpa using hi)]
  simp [hi]
theorem fileSet {X : List (Fl × Nat)} {i : Nat} (hi : i < X.length) (L : List Res) (a b : Res) (f' : Fl) : (a :: b :: (X.map fileR ++ L)).set (i + 2) (fileR (f', X[i].2)) = a :: b :: ((X.set i (f', X[i].2)).map fileR ++ L) := by
  rw [List.set_cons_succ, List.set_cons_succ, List.set_append_left _ _ (by simpa using hi), List.map_set]
def used (l : List Fl) : Nat := (l.map (fun f => blk f.sz)).sum
/-- a disk of so many blocks. -/
structure Ok (size : Nat) (D : Dk) : Prop where
  up : UpL D.L
  len : D.L.length ≤ 256
  room : 0 ≤ D.room
  sum : D.room + used D.L = size
  names : ∀ f ∈ D.L, f.name.size ≤ 24
  fuse : -1 ≤ D.fuse ∧ D.fuse ≤ 9223372036854775807
  size : size ≤ 16384
theorem used_mem {l : List Fl} {f : Fl} (h : f ∈ l) : blk f.sz ≤ used l := by
  unfold used
  induction l with
  | nil => cases h
  | cons q l ih =>
    rw [List.map_cons, List.sum_cons]
    rcases List.mem_cons.1 h with rfl | h
    · omega
    · have := ih h
      omega
theorem Ok.sz {n : Nat} {D : Dk} (h : Ok n D) {f : Fl} (hf : f ∈ D.L) : f.sz ≤ 1048576 := by
  have h1 := used_mem hf
  have h2 := h.sum
  have h3 := h.room
  have h4 := h.size
  unfold blk at h1
  omega

end Go.Proofs.YtcldjjmfpmkldaaDoor.M
