/- A map with integer elements, its keys told as values. -/
import Derived.Test.YtahemhjlfajlkaaPLx0
import Derived.Maps.Own
import Derived.Maps.OwnOps
import Derived.Maps.OwnSet
import Derived.Maps.Views
namespace Go.Proofs.Ytahemhjlfajlkaa.PL
open Go.RowKit Go.Proofs.YtahemhjlfajlkaaW.PrintWords Go.Proofs.YtahemhjlfajlkaaW.PrintLast Go.Proofs.YtahemhjlfajlkaaW.PrintMore
set_option linter.unusedVariables false
set_option linter.unusedSimpArgs false

/-! ### A map with integer elements, its keys told as values -/
open Classical in
noncomputable def upd (M : Value → Option Int) (k : Value) (x : Int) : Value → Option Int := fun v => if v = k then some x else M v
theorem upd_same (M : Value → Option Int) (k : Value) (x : Int) : upd M k x k = some x := by unfold upd; rw [if_pos rfl]
theorem upd_other {M : Value → Option Int} {k v : Value} {x : Int} (h : v ≠ k) : upd M k x v = M v := by unfold upd; rw [if_neg h]
def MapI (P : Program) (k e : TypeId) (w : World) (b n : Nat) (M : Value → Option Int) : Prop :=
  ∃ D : DataW Unit, w.ownsMap P k (plainElem P e) b n D ∧ ∀ v l, keyOf P k v = some l → Go.Maps.has D l = (M v).isSome ∧ D.atKey l (.lit (.int .i64 0)) = .lit (.int .i64 ((M v).getD 0))
theorem MapI_made (P : Program) (k e : TypeId) (w : World) : MapI P k e (w.alloc (.map #[] 0)) w.heap.size 0 (fun _ => none) :=
  ⟨.map [], World.ownsMap_made _ _ _ _, fun v l _ => ⟨rfl, rfl⟩⟩
theorem MapI.kept {P : Program} {k e : TypeId} {w w' : World} {b n : Nat} {M : Value → Option Int} {row : Option Nat} (h : MapI P k e w b n M) (hg : w.grownBy w' row) (hne : some b ≠ row) : MapI P k e w' b n M := by
  obtain ⟨D, h1, h2⟩ := h
  exact ⟨D, h1.kept hg hne, h2⟩
theorem MapI.below {P : Program} {k e : TypeId} {w w' : World} {b n : Nat} {M : Value → Option Int} (h : MapI P k e w b n M) (hw : Below w.heap.size w w') : MapI P k e w' b n M :=
  h.kept (row := none) (grown_of_below hw none) (by simp)
theorem MapI.mono {P : Program} {k e : TypeId} {w : World} {b n n' : Nat} {M : Value → Option Int} (h : MapI P k e w b n M) (hn : n ≤ n') : MapI P k e w b n' M := by
  obtain ⟨D, h1, h2⟩ := h
  exact ⟨D, h1.mono hn, h2⟩
theorem MapI.congr {P : Program} {k e : TypeId} {w : World} {b n : Nat} {M M' : Value → Option Int} (h : MapI P k e w b n M) (he : ∀ v l, keyOf P k v = some l → M v = M' v) : MapI P k e w b n M' := by
  obtain ⟨D, h1, h2⟩ := h
  exact ⟨D, h1, fun v l hl => he v l hl ▸ h2 v l hl⟩
theorem MapI_store {P : Program} (w : World) {ops : Array Oper} {rest : List Oper} {o : Oper} {a : Act} {Q : Exit → Act → World → Prop}
    (hg : o.guard = none) (m x v : Operand) (t : TypeId) (hop : o.op = Op.mapUpdate t m x v)
    (k e : TypeId) (K : Go.Maps.Keyed P k) (ht : P.underlying t = some (.map k e)) (he : P.underlying e = some (.int .i64)) (b n : Nat) (M : Value → Option Int)
    (hm : a.eval m = .map (some b)) (h : MapI P k e w b n M) (hn : n < maxLen) (key : Value) (z : Int) (hx : a.eval x = key) (hv : a.eval v = .int .i64 z) (hkey : ∃ l, keyOf P k key = some l) (hz : (Lit.int .i64 z).wf = true)
    (hK : ∀ w', MapI P k e w' b (n + 1) (upd M key z) → w.grownBy w' (some b) → wpList P ops Q rest (a.put o.dst undef) w') :
    wpList P ops Q (o :: rest) a w := by
  obtain ⟨D, h1, h2⟩ := h
  obtain ⟨l, hl⟩ := hkey
  refine wpList_mapUpdate_own w hg m x v t hop k e K ht (plainElem P e) b n D hm h1 hn key (.int .i64 z) l hx hv hl (.lit (.int .i64 z)) [] (plainElem_int he hz) ?_
  intro w' h3 h4
  refine hK w' ⟨_, h3, fun v' l' hl' => ?_⟩ h4
  have hD : Go.Maps.IsMap D := by
    obtain ⟨es, clock, _, _, _, hD⟩ := h1
    exact ⟨_, hD⟩
  by_cases e1 : v' = key
  · subst e1
    have : l' = l := Option.some.inj (hl'.symm.trans hl)
    subst this
    rw [upd_same, Go.Maps.has_put_same hD (K.key hl), Go.Maps.atKey_put_same hD (K.key hl)]
    exact ⟨rfl, rfl⟩
  · have hne : l' ≠ l := fun e2 => e1 (K.inj (hl'.trans (congrArg some e2)) hl)
    rw [upd_other e1, Go.Maps.has_put_other hne, Go.Maps.atKey_put_other hne]
    exact h2 v' l' hl'
theorem MapI_look_ok {P : Program} (w : World) {ops : Array Oper} {rest : List Oper} {o : Oper} {a : Act} {Q : Exit → Act → World → Prop}
    (hg : o.guard = none) (m x : Operand) (t : TypeId) (hop : o.op = Op.lookup t m x true)
    (k e : TypeId) (K : Go.Maps.Keyed P k) (ht : P.underlying t = some (.map k e)) (he : P.underlying e = some (.int .i64)) (hz : (zeroValue e).run P w = .ok (.int .i64 0) w) (b n : Nat) (M : Value → Option Int)
    (hm : a.eval m = .map (some b)) (h : MapI P k e w b n M) (key : Value) (hx : a.eval x = key) (hkey : ∃ l, keyOf P k key = some l)
    (hK : wpList P ops Q rest (a.put o.dst (.tuple #[.int .i64 ((M key).getD 0), .bool (M key).isSome])) w) :
    wpList P ops Q (o :: rest) a w := by
  obtain ⟨D, h1, h2⟩ := h
  obtain ⟨l, hl⟩ := hkey
  refine wpList_lookup_own_ok_int w hg m x t hop k e .i64 K ht he hz b n D hm h1 key l hx hl fun c hc hw => ?_
  obtain ⟨g1, g2⟩ := h2 key l hl
  have : c = (M key).getD 0 := by
    have := hc.symm.trans g2
    injection this with this
    injection this
  rw [this, g1]
  exact hK
theorem MapI_look {P : Program} (w : World) {ops : Array Oper} {rest : List Oper} {o : Oper} {a : Act} {Q : Exit → Act → World → Prop}
    (hg : o.guard = none) (m x : Operand) (t : TypeId) (hop : o.op = Op.lookup t m x false)
    (k e : TypeId) (K : Go.Maps.Keyed P k) (ht : P.underlying t = some (.map k e)) (he : P.underlying e = some (.int .i64)) (hz : (zeroValue e).run P w = .ok (.int .i64 0) w) (b n : Nat) (M : Value → Option Int)
    (hm : a.eval m = .map (some b)) (h : MapI P k e w b n M) (key : Value) (hx : a.eval x = key) (hkey : ∃ l, keyOf P k key = some l)
    (hK : wpList P ops Q rest (a.put o.dst (.int .i64 ((M key).getD 0))) w) :
    wpList P ops Q (o :: rest) a w := by
  obtain ⟨D, h1, h2⟩ := h
  obtain ⟨l, hl⟩ := hkey
  refine wpList_lookup_own_int w hg m x t hop k e .i64 K ht he hz b n D hm h1 key l hx hl fun c hc hw => ?_
  obtain ⟨g1, g2⟩ := h2 key l hl
  have : c = (M key).getD 0 := by
    have := hc.symm.trans g2
    injection this with this
    injection this
  rw [this]
  exact hK
end Go.Proofs.Ytahemhjlfajlkaa.PL
