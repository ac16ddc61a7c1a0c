/- Rows of events and of sessions: Clone, the sorts. -/
import Derived.Test.YtojgdmcojmllkaaS10
namespace Go.Proofs.Ytojgdmcojmllkaa.M
open Go.Proofs.Ytojgdmcojmllkaa.F Go.RowKit
set_option linter.unusedVariables false
set_option linter.unusedSimpArgs false
set_option maxRecDepth 100000
set_option maxHeartbeats 2000000
attribute [local irreducible] Res.cells Res.row Res.map Res.any World.cell? World.frozen? Instr.fieldAt Instr.loadAt Instr.storeAt Instr.indexAt Instr.lookup Instr.mapUpdate Instr.box Instr.build Instr.buildSlice Instr.extract Instr.alloc Instr.field Instr.index Instr.sliceAt Instr.makeSlice Instr.makeMap Instr.makeFunc binS Op.unary Sem.run
open Go.Sort Go.Shelf
theorem encE_one : ∀ x, ∀ u ∈ encE x, u.oneCell' = true := fun x u hu => by
  simp only [List.mem_cons, List.not_mem_nil, or_false] at hu
  rcases hu with rfl | rfl <;> rfl
theorem encS_one : ∀ x, ∀ u ∈ encS x, u.oneCell' = true := fun x u hu => by
  simp only [List.mem_cons, List.not_mem_nil, or_false] at hu
  rcases hu with rfl | rfl <;> rfl
abbrev erow (v : Value) (l : List Ev) : Res := Res.row 28 2 v l.length (l.flatMap encE)
abbrev srow (v : Value) (l : List Sq) : Res := Res.row 33 2 v l.length (l.flatMap encS)
theorem byT_lt (a b : Ev) : ltOf byT a b = decide (AheadE a b) := by
  unfold ltOf
  rw [decide_eq_decide]
  exact or2_neg
theorem byT_swo : SWO (ltOf byT) where
  irrefl x := by rw [byT_lt]; exact decide_eq_false (by unfold AheadE; omega)
  trans x y z h1 h2 := by rw [byT_lt] at *; simp only [decide_eq_true_eq, decide_eq_false_iff_not] at *; unfold AheadE at *; omega
  ntrans x y z h1 h2 := by rw [byT_lt] at *; simp only [decide_eq_true_eq, decide_eq_false_iff_not] at *; unfold AheadE at *; omega
def bySe (a b : Se) : Int := byS a.key a.l b.key b.l
theorem bySe_lt {α : Type} (f : α → Se) (a b : α) : ltOf (fun x y => bySe (f x) (f y)) a b = decide (Bef (f a) (f b)) := by
  unfold ltOf
  rw [decide_eq_decide]
  exact or2_neg
theorem bySe_swo {α : Type} (f : α → Se) : SWO (ltOf (fun x y => bySe (f x) (f y))) where
  irrefl x := by rw [bySe_lt]; exact decide_eq_false (by unfold Bef BeforeS; omega)
  trans x y z h1 h2 := by rw [bySe_lt] at *; simp only [decide_eq_true_eq, decide_eq_false_iff_not] at *; unfold Bef BeforeS at *; omega
  ntrans x y z h1 h2 := by rw [bySe_lt] at *; simp only [decide_eq_true_eq, decide_eq_false_iff_not] at *; unfold Bef BeforeS at *; omega
section
variable {w0 w : World} {F : List Nat} {L : List Res} {A : Option Addr} {c : Nat}
theorem eclone_ret {l : List Ev} (hn : 0 < l.length) (hm : l.length ≤ 1000000) (hS : St w0 F w L) (hE : BE w0 F L A l) :
    Ret Try.prog 27 #[.slice A l.length c] w fun v w' => ∃ A' c', v = .slice A' l.length c' ∧ St w0 F w' (erow (.slice A' l.length c') l :: L) := by
  obtain ⟨b, o, rfl⟩ := (hE.rd hS).some_ hn (by omega)
  refine s27 _ ?_
  unfold m27
  unfold m27_0
  unfold m27_1
  refine valP_ok (eq31 _ _ _ _ _ _) ?_
  unfold m27_4
  refine cond_f rfl ?_
  unfold m27_2
  refine newslice_ok (bs31_0 _) hS ?_
  intro b5 w hS
  have hS := hS.as_row 0 2 0 rfl rfl (by unfold maxLen; omega)
  simp only [List.set_cons_zero] at hS
  have hr : Rd w 2 (some ⟨b, o, none⟩) l.length (l.flatMap encE) := hE.rd1 hS
  refine append_anyS (l0 := ([] : List Ev)) 0 sl31 encE_len encE_one (by simp; unfold maxLen; omega) (by simp; omega) hS rfl hr (fun h => by cases h) ?_
  intro A' c' w' hS
  simp only [List.set_cons_zero, List.nil_append] at hS ⊢
  unfold m27_3
  exact ⟨A', c', rfl, hS⟩
theorem esort_ret {l : List Ev} (p : Nat) (hl : l.length ≤ 1000000) (hS : St w0 F w L) (hp : L[p]? = some (erow (.slice A l.length c) l)) :
    Ret Try.prog 44 #[.slice A l.length c, fnV 45] w fun v w' => ∃ l', l'.Perm l ∧ Srt l' ∧ St w0 F w' (L.set p (erow (.slice A l'.length c) l')) := by
  rcases Nat.eq_zero_or_pos l.length with h0 | h0
  · have hnil : l = [] := List.eq_nil_of_length_eq_zero h0
    subst hnil
    have hc := AnyF.slices_SortFunc_none Try.sortE A c (fnV 45) w
    refine Calls.mono hc fun e w' h => ?_
    obtain ⟨he, hw⟩ := h
    refine ⟨_, he, [], .refl _, .nil, ?_⟩
    have hs : L.set p (erow (.slice A ([] : List Ev).length c) []) = L := by
      obtain ⟨hlt, he⟩ := List.getElem?_eq_some_iff.1 hp
      rw [← he, List.set_getElem_self]
    rw [hs, hw]
    exact hS
  · obtain ⟨g, rfl⟩ := hS.row_ptr p hp h0
    have eg : ∀ args w, (callFunc 45 args).run Try.prog w = .ok (.enter 45 args) w := fun args w => callFunc_run (by kernel_rfl) args w
    have hH := holdsK_row encE 2 encE_len (by omega) p hS hp
    have hlt : g < w.heap.size := hS.lt _ (List.mem_of_getElem? hp) g (by unfold erow Res.row; simp [Value.ownBlock])
    have hc := AnyQ.slices_SortFunc Try.sortE 2 (by intro w; kernel_rfl) (by intro w; kernel_rfl) encE encE_len (fun x v hv => encE_one x v hv) byT byT_swo 45 #[] g 0 c l.toArray w eg (bytime_cmp.lays 2 g 0 l.toArray.size w) hH hlt (by simp; omega)
    refine Calls.mono hc fun e w' h => ?_
    obtain ⟨he, d', n, os, hpm, hso, hw⟩ := h
    have hperm := permIn_perm hpm
    have hsz : d'.size = l.length := by have := hpm.1; simpa using this
    refine ⟨_, he, d'.toList, by simpa using hperm, ?_, ?_⟩
    · have h1 : SortedIn (ltOf byT) 0 d'.size d' := by rw [hsz]; simpa using hso
      refine (sortedIn_pairwise h1).imp fun {a b} h => ?_
      rw [byT_lt] at h
      simpa using h
    · have hown := hS.own_row p hp
      have hfl := flatK_list encE 2 encE_len (by omega) d'
      have h1 := own_putRow (q := n) (ys := d'.toList.flatMap encE) hown (by rw [flat_len _ _ encE_len, flat_len _ _ encE_len]; simp [hsz])
      rw [hw]
      have e1 : (d'.toList.flatMap encE).toArray = flatK encE 2 d' := by rw [← hfl]
      rw [e1] at h1
      have hch : Chg [g] w (sortWorldK encE 2 w g 0 n d' os) := (chg_putRow _ _ _ _ _ _).trans (chg_grow _ _ _)
      have hlen : d'.toList.length = l.length := by simp [hsz]
      have hb : (erow (.slice (some ⟨g, 0, none⟩) d'.toList.length c) d'.toList).blks = [g] := by unfold erow Res.row; simp [Value.ownBlock]
      have hb' : (erow (.slice (some ⟨g, 0, none⟩) l.length c) l).blks = [g] := by unfold erow Res.row; simp [Value.ownBlock]
      refine hS.updk p hp (by rw [hb']; exact hch) ?_ (fun x hx => .inl (by rw [hb']; rw [hb] at hx; exact hx)) (fun x hx => ?_)
      · unfold erow Res.row
        show World.ownsRow _ 0 28 2 _ _ _
        rw [hlen]
        refine ⟨h1.1, h1.2.imp id fun ⟨g', cap, cur, a1, a2, a3, a4⟩ => ⟨g', cap, cur, a1, a2, ?_, a4⟩⟩
        have hg' : g' < (putRow id (Sort.ahead w n) g 0 (flatK encE 2 d')).heap.size := (Array.getElem?_eq_some_iff.1 a3).1
        show ((putRow id (Sort.ahead w n) g 0 (flatK encE 2 d')).heap ++ os)[g']? = _
        rw [Array.getElem?_append_left hg']
        exact a3
      · rw [hb] at hx
        obtain rfl := List.mem_singleton.1 hx
        exact Nat.lt_of_lt_of_le hlt hch.size
/-- sessions are sorted: which of them stand where, their events lying apart from the row. -/
theorem ssort_ret {l : List Sq} (hl : l.length ≤ 1000000) (hl0 : 0 < l.length) (hS : St w0 F w (srow (.slice A l.length c) l :: L)) (hE : ∀ s ∈ l, BE w0 F L s.A s.s.l) (hne : ∀ s ∈ l, 0 < s.s.l.length) :
    Ret Try.prog 46 #[.slice A l.length c, fnV 34] w fun v w' => ∃ l' : List Sq, l'.Perm l ∧ (ses l').Pairwise (fun x y => ¬ Bef y x) ∧ St w0 F w' (srow (.slice A l'.length c) l' :: L) := by
  have hp : (srow (.slice A l.length c) l :: L)[0]? = some (srow (.slice A l.length c) l) := rfl
  obtain ⟨g, rfl⟩ := hS.row_ptr 0 hp hl0
  obtain ⟨n, hn⟩ : ∃ n, l.length = n + 1 := ⟨l.length - 1, by omega⟩
  have at_ : ∀ i : Fin (n + 1), i.val < l.length := fun i => by have := i.isLt; omega
  let enc : Fin (n + 1) → List Value := fun i => encS (l[i.val]'(at_ i))
  have enc_len : ∀ x, (enc x).length = 2 := fun x => rfl
  have hfin : (List.finRange (n + 1)).map (fun i => l[i.val]'(at_ i)) = l := by
    refine List.ext_getElem (by simp [hn]) fun i h1 h2 => ?_
    simp
  have hflat : (List.finRange (n + 1)).flatMap enc = l.flatMap encS := by
    conv => rhs; rw [← hfin]
    rw [List.flatMap_map]
  have eg : ∀ args w, (callFunc 34 args).run Try.prog w = .ok (.enter 34 args) w := fun args w => callFunc_run (by kernel_rfl) args w
  have hlt : g < w.heap.size := hS.lt _ (List.mem_of_getElem? hp) g (by unfold srow Res.row; simp [Value.ownBlock])
  have hp' : (srow (.slice (some ⟨g, 0, none⟩) l.length c) l :: L)[0]? = some (Res.row 33 2 (.slice (some ⟨g, 0, none⟩) (List.finRange (n + 1)).length c) (List.finRange (n + 1)).length ((List.finRange (n + 1)).flatMap enc)) := by
    rw [hflat, show (List.finRange (n + 1)).length = l.length by simp [hn]]
    rfl
  have hH := holdsK_row enc 2 enc_len (by omega) 0 hS hp'
  have hb : ∀ v : List Sq, (srow (.slice (some ⟨g, 0, none⟩) v.length c) v).blks = [g] := fun v => by unfold srow Res.row; simp [Value.ownBlock]
  have hchg : ∀ m os dk, Chg [g] w (sortWorldK enc 2 w g 0 m dk os) := fun m os dk => (chg_putRow _ _ _ _ _ _).trans (chg_grow _ _ _)
  have hcmp : CmpLays Try.prog 34 #[] enc 2 (fun x y => bySe (l[x.val]'(at_ x)).s (l[y.val]'(at_ y)).s) g 0 (List.finRange (n + 1)).toArray.size w := fun m os dk hdk x y => by
    have hW : St w0 F (sortWorldK enc 2 w g 0 m dk os) (Res.cells g 0 [] :: L) → True := fun _ => trivial
    have hL : St w0 F (sortWorldK enc 2 w g 0 m dk os) L := by
      have h2 : St w0 F (sortWorldK enc 2 w g 0 m dk os) (Res.any g (fun _ => True) :: L) := hS.updk 0 hp (by rw [hb]; exact hchg m os dk) (by
        have h3 : g < (sortWorldK enc 2 w g 0 m dk os).heap.size := Nat.lt_of_lt_of_le hlt (hchg m os dk).size
        unfold Res.any
        exact ⟨_, Array.getElem?_eq_getElem h3, trivial⟩) (fun x hx => .inl (by unfold Res.any at hx; rw [hb]; exact hx)) (fun x hx => by
        unfold Res.any at hx
        obtain rfl := List.mem_singleton.1 hx
        exact Nat.lt_of_lt_of_le hlt (hchg m os dk).size)
      exact h2.tail
    have mx := List.getElem_mem (at_ x)
    have my := List.getElem_mem (at_ y)
    have hc := bystart_cmp (W := sortWorldK enc 2 w g 0 m dk os) (key := (l[x.val]'(at_ x)).s.key) (key2 := (l[y.val]'(at_ y)).s.key) (c := (l[x.val]'(at_ x)).c) (c2 := (l[y.val]'(at_ y)).c) (hne _ mx) (hne _ my) ((hE _ mx).rd hL) ((hE _ my).rd hL)
    exact Calls.mono hc fun e w' ⟨v, he, hv, hg⟩ => ⟨hv ▸ he, hg⟩
  have hc := AnyQ.slices_SortFunc Try.sortS 2 (by intro w; kernel_rfl) (by intro w; kernel_rfl) enc enc_len (fun x v hv => encS_one _ v hv) (fun x y => bySe (l[x.val]'(at_ x)).s (l[y.val]'(at_ y)).s) (bySe_swo fun x : Fin (n + 1) => (l[x.val]'(at_ x)).s) 34 #[] g 0 c (List.finRange (n + 1)).toArray w eg hcmp hH hlt (by simp; omega)
  have e0 : (List.finRange (n + 1)).toArray.size = l.length := by simp [hn]
  rw [e0] at hc
  refine Calls.mono hc fun e w' h => ?_
  obtain ⟨he, d', m, os, hpm, hso, hw⟩ := h
  have hpm : PermIn 0 (List.finRange (n + 1)).toArray.size (List.finRange (n + 1)).toArray d' := by rw [e0]; exact hpm
  have hperm : d'.toList.Perm (List.finRange (n + 1)) := by simpa using permIn_perm hpm
  have hsz : d'.size = l.length := by have := hpm.1; rw [e0] at this; exact this
  have hfd : (d'.toList.map fun i => l[i.val]'(at_ i)).flatMap encS = d'.toList.flatMap enc := by rw [List.flatMap_map]
  have hld : (d'.toList.map fun i => l[i.val]'(at_ i)).length = l.length := by simp [hsz]
  refine ⟨_, he, d'.toList.map fun i => l[i.val]'(at_ i), ?_, ?_, ?_⟩
  · have := hperm.map fun i => l[i.val]'(at_ i)
    rw [hfin] at this
    exact this
  · have h1 : SortedIn (ltOf fun x y => bySe (l[x.val]'(at_ x)).s (l[y.val]'(at_ y)).s) 0 d'.size d' := by rw [hsz]; exact hso
    rw [List.pairwise_map, List.pairwise_map]
    refine (sortedIn_pairwise h1).imp fun {a b} h => ?_
    rw [bySe_lt (fun x : Fin (n + 1) => (l[x.val]'(at_ x)).s)] at h
    simpa using h
  · have hown := hS.own_row 0 hp'
    have hfl := flatK_list enc 2 enc_len (by omega) d'
    have h1 := own_putRow (q := m) (ys := d'.toList.flatMap enc) hown (by rw [flat_len _ _ enc_len, flat_len _ _ enc_len]; simp [hsz, hn])
    rw [hw]
    have e1 : (d'.toList.flatMap enc).toArray = flatK enc 2 d' := by rw [← hfl]
    rw [e1] at h1
    have hch := hchg m os d'
    refine hS.updk 0 hp (by rw [hb]; exact hch) ?_ (fun x hx => .inl (by rw [hb]; rw [hb] at hx; exact hx)) (fun x hx => ?_)
    · unfold srow Res.row
      show World.ownsRow _ 0 33 2 _ _ _
      rw [hld, hfd]
      have h1' : (putRow id (Sort.ahead w m) g 0 (flatK enc 2 d')).ownsRow 0 33 2 (.slice (some ⟨g, 0, none⟩) l.length c) l.length (d'.toList.flatMap enc) := by
        have e3 : (List.finRange (n + 1)).length = l.length := by simp [hn]
        rw [e3] at h1
        exact h1
      refine ⟨h1'.1, h1'.2.imp id fun ⟨g', cap, cur, a1, a2, a3, a4⟩ => ⟨g', cap, cur, a1, a2, ?_, a4⟩⟩
      have hg' : g' < (putRow id (Sort.ahead w m) g 0 (flatK enc 2 d')).heap.size := (Array.getElem?_eq_some_iff.1 a3).1
      show ((putRow id (Sort.ahead w m) g 0 (flatK enc 2 d')).heap ++ os)[g']? = _
      rw [Array.getElem?_append_left hg']
      exact a3
    · rw [hb] at hx
      obtain rfl := List.mem_singleton.1 hx
      exact Nat.lt_of_lt_of_le hlt hch.size
end

end Go.Proofs.Ytojgdmcojmllkaa.M
