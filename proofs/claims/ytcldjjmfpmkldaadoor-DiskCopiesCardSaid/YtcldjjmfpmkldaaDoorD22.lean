/- Range over a map of files; Copy. -/
import Derived.Test.YtcldjjmfpmkldaaDoorD11
import Derived.Maps.Range
import Derived.Test.YtcldjjmfpmkldaaDoorFwL
import Derived.Test.YtcldjjmfpmkldaaDoorFwW
import Derived.Test.YtcldjjmfpmkldaaDoorFwB
import Derived.Test.YtcldjjmfpmkldaaDoorFwM
import Derived.Test.YtcldjjmfpmkldaaDoorMtrim0
import Derived.Test.YtcldjjmfpmkldaaDoorMdisk0
import Derived.Test.YtcldjjmfpmkldaaDoorMmore0
namespace Go.Proofs.YtcldjjmfpmkldaaDoor.M
open Go.Proofs.YtcldjjmfpmkldaaDoor.F Go.RowKit
set_option linter.unusedVariables false
set_option linter.unusedSimpArgs false
set_option maxRecDepth 100000
set_option maxHeartbeats 2000000
attribute [local irreducible] Res.cells Res.row Res.map Res.any World.cell? World.frozen? Instr.fieldAt Instr.loadAt Instr.storeAt Instr.indexAt Instr.lookup Instr.mapUpdate Instr.box Instr.build Instr.buildSlice Instr.extract Instr.alloc Instr.field Instr.index Instr.sliceAt Instr.makeSlice Instr.makeMap Instr.makeFunc binS Op.unary Sem.run
section
variable {k e t : TypeId} {b r : Nat} {A B : Assoc} {w w0 : World} {F : List Nat} {L : List Res} {K : Value → World → Prop}
/-- a loop over a map, and what is left of it. -/
def RangeT (k : TypeId) (b r : Nat) (A B : Assoc) (m : Nat) (w : World) : Prop := ∃ es left, w.ranges Tryd.prog k PtrE b r A.length (.map es) left m ∧ es.Perm (A.map ent) ∧ A.Nd ∧ (∀ p ∈ A, p.1.size ≤ maxLen) ∧ (∀ kl, left kl = true → ∃ p ∈ B, kl = .string (lst p.1)) ∧ (∀ p ∈ B, p ∈ A ∧ left (.string (lst p.1)) = true)
theorem RangeT.loc {w' : World} (h : ∀ g ∈ [b, r], w'.heap[g]? = w.heap[g]?) {m : Nat} (hM : RangeT k b r A B m w) : RangeT k b r A B m w' := by
  obtain ⟨es, left, ⟨xs, clock, since, seen, c0, hb, F, hs, hD, hr, rest⟩, h2⟩ := hM
  exact ⟨es, left, ⟨xs, clock, since, seen, c0, (h b (.head _)).trans hb, F, hs, hD, (h r (.tail _ (.head _))).trans hr, rest⟩, h2⟩
def Res.rangeT (k : TypeId) (b r : Nat) (A B : Assoc) (m : Nat) : Res := ⟨[b, r], RangeT k b r A B m, fun _ _ h hM => hM.loc h⟩
theorem has_ent {es : List (Lit × DataW Unit)} {kl : Lit} : Go.Maps.has (DataW.map es) kl = true ↔ ∃ x ∈ es, x.1.sameKey kl = true := by
  unfold Go.Maps.has
  simp only [List.any_eq_true]
theorem rangeT_ok (j : Nat) (hS : St w0 F w L) (hj : L[j]? = some (Res.mapT Tryd.prog k b A)) (hk : Tryd.prog.underlying k = some .string) (ht : Tryd.prog.underlying t = some (.map k e))
    (h : ∀ r m w', m ≤ A.length → St w0 F w' (L.set j (Res.rangeT k b r A A m)) → K (.pointer (some ⟨r, 0, none⟩)) w') : valP Tryd.prog (Instr.range t (.map (some b))) w K := by
  obtain ⟨es, h1, h2, h3, h4⟩ := hS.mapT j hj
  obtain ⟨w', hr, hrg, hg, hsz⟩ := h1.range (Go.Maps.string_keyed hk) ht
  have hlt : b < w.heap.size := hS.lt _ (List.mem_of_getElem? hj) b (.head _)
  refine valP_ok hr (h _ _ _ (by rw [Go.Maps.size_eq, h2.length_eq, List.length_map]; exact Nat.le_refl _) (hS.updk j hj ((Chg.of_grown hg).mono (by simp)) ⟨es, _, hrg, h2, h3, h4, fun kl hkl => ?_, fun p hp => ⟨hp, has_ent.2 ⟨ent p, h2.mem_iff.2 (List.mem_map.2 ⟨p, hp, rfl⟩), by simp [ent, Lit.sameKey]⟩⟩⟩ (fun g hg => ?_) (fun g hg => ?_)))
  · obtain ⟨x, hx, hxk⟩ := has_ent.1 hkl
    obtain ⟨p, hp, rfl⟩ := List.mem_map.1 (h2.mem_iff.1 hx)
    exact ⟨p, hp, (WideAt.sameKey_eq hxk).symm⟩
  · rcases List.mem_cons.1 hg with rfl | hg
    · exact .inl (.head _)
    · obtain rfl := List.mem_singleton.1 hg
      exact .inr (Nat.le_refl _)
  · rcases List.mem_cons.1 hg with rfl | hg
    · omega
    · obtain rfl := List.mem_singleton.1 hg
      omega
theorem nextT_ok (j : Nat) {ty : TypeId} {m : Nat} (hS : St w0 F w L) (hj : L[j]? = some (Res.rangeT k b r A B m)) (hk : Tryd.prog.underlying k = some .string) (h0 : B = [] → K (.tuple #[.bool false]) w)
    (h1 : ∀ p ∈ B, p ∈ A → ∀ m' w', m' < m → St w0 F w' (L.set j (Res.rangeT k b r A (B.filter (fun q => decide (q.1 ≠ p.1))) m')) → (Instr.entry (.pointer (some ⟨r, 0, none⟩))).run Tryd.prog w' = .ok (.tuple #[.string p.1, ptr p.2]) w' → K (.tuple #[.bool true, .string p.1, ptr p.2]) w') : valP Tryd.prog (Instr.next (.pointer (some ⟨r, 0, none⟩)) false ty) w K := by
  obtain ⟨es, left, hr, hp, hn, hz, hl1, hl2⟩ := hS.get j hj
  rcases hr.next (Go.Maps.string_keyed hk) ty with ⟨_, hall, hrun⟩ | ⟨key, v, kl, y, w', cnt', hkey, hleft, hv, hat, hrun, hr', hlt, hg, hsz, hen⟩
  · refine valP_ok hrun (h0 ?_)
    cases B with
    | nil => rfl
    | cons p B =>
      have := (hl2 p (.head _)).2
      rw [hall] at this
      cases this
  · obtain ⟨p, hpB, rfl⟩ := hl1 kl hleft
    have hpA := (hl2 p hpB).1
    obtain rfl : key = .string p.1 := (Go.Maps.string_keyed hk).inj hkey (keyS hk (hz p hpA))
    have hy := hat (.lit (.int .i64 0))
    rw [atKey_ent hp hn, Assoc.find_mem hn hpA] at hy
    simp only at hy
    obtain rfl : v = ptr p.2 := ptrE_apart v (ptr p.2) (.lit (.int .i64 p.2)) y.2 [] (by rw [hv, hy]) (ptrE_some _)
    have hlt' := hS.lt _ (List.mem_of_getElem? hj)
    refine valP_ok hrun (h1 p hpB hpA cnt' _ hlt (hS.updk j hj ((Chg.of_grown hg).mono (by simp [Res.rangeT])) ⟨es, _, hr', hp, hn, hz, fun x hx => ?_, fun q hq => ?_⟩ (fun g hg => .inl hg) (fun g hg => by rw [hsz]; exact hlt' g hg)) hen)
    · rw [Bool.and_eq_true] at hx
      obtain ⟨q, hq, rfl⟩ := hl1 x hx.1
      refine ⟨q, List.mem_filter.2 ⟨hq, decide_eq_true fun e => ?_⟩, rfl⟩
      have := hx.2
      rw [e] at this
      simp [Lit.sameKey] at this
    · obtain ⟨hqB, hqp⟩ := List.mem_filter.1 hq
      have hqp := of_decide_eq_true hqp
      refine ⟨(hl2 q hqB).1, ?_⟩
      rw [(hl2 q hqB).2]
      simp only [Lit.sameKey, Bool.true_and, Bool.not_eq_true', beq_eq_false_iff_ne, ne_eq]
      exact fun e => hqp (lst_inj e)
theorem St.rangeLeft (j : Nat) {m : Nat} (hS : St w0 F w L) (hj : L[j]? = some (Res.rangeT k b r A B m)) : w.rangeLeft b r = m := by
  obtain ⟨es, left, hr, _⟩ := hS.get j hj
  exact hr.left_eq
theorem St.rangeT_back (j : Nat) {m : Nat} (hS : St w0 F w L) (hj : L[j]? = some (Res.rangeT k b r A B m)) : St w0 F w (L.set j (Res.mapT Tryd.prog k b A)) := by
  obtain ⟨es, left, hr, hp, hn, hz, _⟩ := hS.get j hj
  refine hS.updk j hj (Chg.refl _ _) ⟨es, hr.owns, hp, hn, hz⟩ (fun g hg => .inl ?_) (fun g hg => ?_)
  · obtain rfl := List.mem_singleton.1 hg; exact .head _
  · obtain rfl := List.mem_singleton.1 hg; exact hS.lt _ (List.mem_of_getElem? hj) _ (.head _)
end

end Go.Proofs.YtcldjjmfpmkldaaDoor.M
