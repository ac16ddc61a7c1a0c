/- What assign.Range comes to. -/
import Derived.Test.YtjjmlopmemmobaaA2
namespace Go.Proofs.Ytjjmlopmemmobaa.M
open Go.Proofs.Ytjjmlopmemmobaa.F Go.RowKit
set_option linter.unusedVariables false
set_option linter.unusedSimpArgs false
set_option maxRecDepth 100000
set_option maxHeartbeats 2000000
attribute [local irreducible] Res.cells Res.row Res.map Res.any World.cell? World.frozen? Instr.fieldAt Instr.loadAt Instr.storeAt Instr.indexAt Instr.lookup Instr.mapUpdate Instr.box Instr.build Instr.buildSlice Instr.extract Instr.alloc Instr.field Instr.index Instr.sliceAt Instr.makeSlice Instr.makeMap Instr.makeFunc binS Op.unary Sem.run
open Go.Proofs.Ytjjmlopmemmobaa.L Go.Shelf
theorem St_sub {w0 w : World} {F : List Nat} {L L' : List Res} (h : St w0 F w L) (hs : L'.Sublist L) : St w0 F w L' :=
  ⟨h.chg, fun r hr => h.H r (hs.subset hr), fun r hr => h.lt r (hs.subset hr), fun r hr => h.own r (hs.subset hr), h.apart.sublist hs⟩
abbrev irow (v : Value) (l : List Int) : Res := Res.row 3 1 v l.length (ints l)
theorem share_nums {parts : Int} {M : List Int} (h : ¬ badParts parts) : 0 ≤ baseI parts M ∧ baseI parts M ≤ 64 ∧ 0 ≤ bigI parts M ∧ bigI parts M ≤ 64 := by
  unfold badParts at h
  unfold baseI bigI
  by_cases h0 : M.length = 0
  · rw [if_pos h0, if_pos h0]; omega
  · rw [if_neg h0, if_neg h0]
    have h1 : (0 : Int) < M.length := by omega
    have := Int.ediv_nonneg (show 0 ≤ parts by omega) (show (0 : Int) ≤ M.length by omega)
    have := Int.ediv_le_self (M.length : Int) (show 0 ≤ parts by omega)
    have := Int.emod_nonneg parts (show (M.length : Int) ≠ 0 by omega)
    have := Int.mul_ediv_add_emod parts (M.length : Int)
    have := Int.mul_nonneg (show (0 : Int) ≤ M.length by omega) (Int.ediv_nonneg (show 0 ≤ parts by omega) (show (0 : Int) ≤ M.length by omega))
    omega
theorem append_one {K : Value → World → Prop} {w0 w : World} {F : List Nat} {L : List Res} {cs : Array Bool} {b c : Nat} {A : Option Addr} {l : List Int} {x : Int} (k : Nat) (hl : l.length ≤ 1000000) (hS : St w0 F w (Res.cells b 3 [.int .i64 x] :: L)) (hk : L[k]? = some (irow (.slice A l.length c) l))
    (h : ∀ A' c' w', St w0 F w' (L.set k (irow (.slice A' (l ++ [x]).length c') (l ++ [x]))) → K (.slice A' (l ++ [x]).length c') w') :
    builtinP Try.prog .append #[28, 28] 28 cs #[.slice A l.length c, .slice (some ⟨b, 0, none⟩) 1 1] w K := by
  refine append_ok (k + 1) sl28 hS (by simpa using hk) (m := 1) (news := [.int .i64 x]) rfl (fun j u hj => ?_) (by simp [Value.oneCell']) (by unfold maxLen; omega) (by omega) ?_
  · rw [add_none, Nat.zero_add]
    exact hS.cell 0 rfl hj
  intro A' c' w' hS
  simp only [List.set_cons_succ] at hS
  have e1 : l.length + 1 = (l ++ [x]).length := by simp
  have e2 : ints l ++ [.int .i64 x] = ints (l ++ [x]) := by simp [ints]
  have hS := hS.tail
  rw [e1, e2] at hS
  rw [e1]
  exact h _ _ _ hS

end Go.Proofs.Ytjjmlopmemmobaa.M
