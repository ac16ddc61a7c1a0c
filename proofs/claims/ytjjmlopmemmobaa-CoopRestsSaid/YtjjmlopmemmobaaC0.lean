/- Clone at ints. -/
import Derived.Test.YtjjmlopmemmobaaA13
import Derived.Test.YtjjmlopmemmobaaFwT
namespace Go.Proofs.Ytjjmlopmemmobaa.M
open Go.Proofs.Ytjjmlopmemmobaa.F Go.RowKit
set_option linter.unusedVariables false
set_option linter.unusedSimpArgs false
set_option maxRecDepth 100000
set_option maxHeartbeats 2000000
attribute [local irreducible] Res.cells Res.row Res.map Res.any World.cell? World.frozen? Instr.fieldAt Instr.loadAt Instr.storeAt Instr.indexAt Instr.lookup Instr.mapUpdate Instr.box Instr.build Instr.buildSlice Instr.extract Instr.alloc Instr.field Instr.index Instr.sliceAt Instr.makeSlice Instr.makeMap Instr.makeFunc binS Op.unary Sem.run
open Go.Proofs.Ytjjmlopmemmobaa.L Go.Shelf
theorem irow_nilcap {w0 w : World} {F : List Nat} {L : List Res} {A : Option Addr} {c : Nat} {l : List Int} (k : Nat) (hS : St w0 F w L) (hk : L[k]? = some (irow (.slice A l.length c) l)) : A = none → c = 0 := fun hA => by
  subst hA
  have h := hS.own_row k hk
  rcases h.2 with ⟨e, h0⟩ | ⟨g, cap, cur, hv, _⟩
  · injection e
  · cases hv
theorem clone_ret {w0 w : World} {F : List Nat} {L : List Res} {A : Option Addr} {c : Nat} {l : List Int} (k : Nat) (hS : St w0 F w L) (hk : L[k]? = some (irow (.slice A l.length c) l)) (hl : l.length ≤ 100000) :
    Ret Try.prog 55 #[.slice A l.length c] w fun v w' => ∃ A' c', v = .slice A' l.length c' ∧ St w0 F w' (irow (.slice A' l.length c') l :: L) := by
  refine s55 _ ?_
  unfold m55
  unfold m55_0
  unfold m55_1
  refine valP_ok (eq28 _ _ _ _ _ _) ?_
  unfold m55_4
  refine cond_bsplit (fun h => ?_) (fun h => ?_)
  · unfold m55_5
    cases A with
    | some a => cases h
    | none =>
      have h0 := (hS.own_row k hk).2
      have h0 : l.length = 0 := by
        rcases h0 with ⟨_, h⟩ | ⟨g, cap, cur, hv, _⟩
        · exact h
        · cases hv
      have hn : l = [] := List.eq_nil_of_length_eq_zero h0
      subst hn
      exact ⟨none, 0, rfl, hS.row_nil 3 1⟩
  · unfold m55_2
    refine newslice_ok (bs28_0 _) hS ?_
    intro b5 w hS
    have hS := hS.as_row 0 1 0 rfl rfl (by unfold maxLen; omega)
    simp only [List.set_cons_zero] at hS
    have hr : Rd w 1 A l.length (ints l) := hS.row_rd (k + 1) (by rw [List.getElem?_cons_succ]; exact hk)
    refine append_any (l0 := []) 0 (by simp) hl hS rfl hr (fun hA => ?_) ?_
    · exact irow_nilcap (k + 1) hS (by rw [List.getElem?_cons_succ]; exact hk) hA
    intro A' c' w' hS
    simp only [List.set_cons_zero, List.nil_append] at hS
    unfold m55_3
    exact ⟨A', c', rfl, hS⟩

end Go.Proofs.Ytjjmlopmemmobaa.M
