/- Any partitions go to any members, with any old owners, as the document says. -/
import Derived.Test.YtjjmlopmemmobaaA9
namespace Go.Proofs.Ytjjmlopmemmobaa.M
open Go.Proofs.Ytjjmlopmemmobaa.F Go.RowKit
set_option linter.unusedVariables false
set_option linter.unusedSimpArgs false
set_option maxRecDepth 100000
set_option maxHeartbeats 2000000
attribute [local irreducible] Res.cells Res.row Res.map Res.any World.cell? World.frozen? Instr.fieldAt Instr.loadAt Instr.storeAt Instr.indexAt Instr.lookup Instr.mapUpdate Instr.box Instr.build Instr.buildSlice Instr.extract Instr.alloc Instr.field Instr.index Instr.sliceAt Instr.makeSlice Instr.makeMap Instr.makeFunc binS Op.unary Sem.run
open Go.Proofs.Ytjjmlopmemmobaa.L Go.Shelf
theorem append_any {K : Value → World → Prop} {w0 w : World} {F : List Nat} {L : List Res} {cs : Array Bool} {A A0 : Option Addr} {c c0 : Nat} {l l0 : List Int} (k : Nat) (h0 : l0.length ≤ 100000) (hl : l.length ≤ 100000) (hS : St w0 F w L) (hk : L[k]? = some (irow (.slice A0 l0.length c0) l0)) (hR : Rd w 1 A l.length (ints l)) (hz : A = none → c = 0)
    (h : ∀ A' c' w', St w0 F w' (L.set k (irow (.slice A' (l0 ++ l).length c') (l0 ++ l))) → K (.slice A' (l0 ++ l).length c') w') :
    builtinP Try.prog .append #[28, 28] 28 cs #[.slice A0 l0.length c0, .slice A l.length c] w K := by
  have hlen : (l0 ++ l).length = l0.length + l.length := by simp
  have hints : ints l0 ++ ints l = ints (l0 ++ l) := by simp [ints]
  cases A with
  | none =>
    obtain rfl := hz rfl
    have hl0 : l = [] := by
      rcases Nat.eq_zero_or_pos l.length with h | h
      · exact List.eq_nil_of_length_eq_zero h
      · obtain ⟨g, o, hA⟩ := hR.some_ h (by omega); cases hA
    subst hl0
    have hself : St w0 F w (L.set k (irow (.slice A0 l0.length c0) l0)) := by
      obtain ⟨hlt, he⟩ := List.getElem?_eq_some_iff.1 hk
      rw [← he, List.set_getElem_self]
      exact hS
    rw [List.append_nil] at h
    exact append_none_ok k sl28 hS hk (h _ _ _ hself)
  | some a =>
    refine append_rd k sl28 hS hk hR rfl (fun u hu => ?_) (by unfold maxLen; omega) (by omega) ?_
    · obtain ⟨x, _, rfl⟩ := List.mem_map.1 hu
      rfl
    intro A4 c4 w' hS'
    rw [hints, ← hlen] at hS'
    rw [← hlen]
    exact h _ _ _ hS'
theorem stickyL_len {parts : Int} {M old : List Int} (h : ¬ badParts parts) (hr : M.Pairwise (· < ·)) (hl : M.length ≤ 1000) (hM : ∀ x ∈ M, -9223372036854775808 ≤ x ∧ x ≤ 9223372036854775807) : (stickyL parts M old).length = parts.toNat := by
  unfold stickyL
  split
  · simp
  · have hp : parts.toNat ≤ 64 := by unfold badParts at h; omega
    have hk := keepsL_ok (old := old) h hr hl hM (min parts.toNat old.length) (by omega)
    exact (fillsL_ok (n := parts.toNat) (q := min parts.toNat old.length) (base := baseI parts M) (by omega) (by omega) hk parts.toNat hp).2.2.1

end Go.Proofs.Ytjjmlopmemmobaa.M
