/- Diff: what is told between two states. -/
import Derived.Test.YtnhgdngbdoifnaaKX
import Derived.Test.YtnhgdngbdoifnaaFwW
import Derived.Test.YtnhgdngbdoifnaaMbase0
import Derived.Test.YtnhgdngbdoifnaaMmid0
import Derived.Test.YtnhgdngbdoifnaaMgrid0
import Derived.Test.YtnhgdngbdoifnaaMfold0
import Derived.Test.YtnhgdngbdoifnaaMeng0
import Derived.Test.YtnhgdngbdoifnaaMdiff0
namespace Go.Proofs.Ytnhgdngbdoifnaa.M
open Go.Proofs.Ytnhgdngbdoifnaa.F Go.RowKit
set_option linter.unusedVariables false
set_option linter.unusedSimpArgs false
set_option maxRecDepth 100000
set_option maxHeartbeats 2000000
attribute [local irreducible] Res.cells Res.row Res.map Res.any World.cell? World.frozen? Instr.fieldAt Instr.loadAt Instr.storeAt Instr.indexAt Instr.lookup Instr.mapUpdate Instr.box Instr.build Instr.buildSlice Instr.extract Instr.alloc Instr.field Instr.index Instr.sliceAt Instr.makeSlice Instr.makeMap Instr.makeFunc binS Op.unary Sem.run
abbrev rRow (A : Option Addr) (c : Nat) (l : List Rc) : Res := Res.row 46 3 (.slice A l.length c) l.length (l.flatMap encR)
theorem drop_cons {α : Type} {l : List α} {i : Nat} (h : i < l.length) : l.drop i = l[i] :: l.drop (i + 1) := List.drop_eq_getElem_cons h
theorem diff_gone {S T : List Ce} {i k : Nat} (hi : i < S.length) (h : T.length ≤ k ∨ ∃ hk : k < T.length, AheadC S[i] T[k]) : diffL (S.drop i) (T.drop k) = goneR S[i] :: diffL (S.drop (i + 1)) (T.drop k) := by
  rcases h with h | ⟨hk, h⟩
  · rw [drop_cons hi, List.drop_eq_nil_of_le h, diffL]
  · rw [drop_cons hi, drop_cons hk, diffL, if_pos h]
theorem diff_there {S T : List Ce} {i k : Nat} (hk : k < T.length) (h : S.length ≤ i ∨ ∃ hi : i < S.length, ¬ AheadC S[i] T[k] ∧ AheadC T[k] S[i]) : diffL (S.drop i) (T.drop k) = thereR T[k] :: diffL (S.drop i) (T.drop (k + 1)) := by
  rcases h with h | ⟨hi, h1, h⟩
  · rw [drop_cons hk, List.drop_eq_nil_of_le h, diffL]
  · rw [drop_cons hi, drop_cons hk, diffL, if_neg h1, if_pos h]
open Classical in
theorem diff_both {S T : List Ce} {i k : Nat} (hi : i < S.length) (hk : k < T.length) (h1 : ¬ AheadC S[i] T[k]) (h2 : ¬ AheadC T[k] S[i]) : diffL (S.drop i) (T.drop k) = (if S[i] = T[k] then [] else [thereR T[k]]) ++ diffL (S.drop (i + 1)) (T.drop (k + 1)) := by
  rw [drop_cons hi, drop_cons hk, diffL, if_neg h1, if_neg h2]
section
variable {w0 w : World} {F : List Nat} {L : List Res}
theorem there_ret {c : Ce} (hc : CeOk c) (hS : St w0 F w L) : Ret Try.prog 26 #[cev c] w fun v w' => v = rv (thereR c) ∧ St w0 F w' L := by
  have h1 := encA_size hc.2.2
  have h2 := putS_size (n := 1) (by omega)
  refine s26 _ ?_
  unfold m26
  unfold m26_0
  refine new_ok (bx67 _ _ _ _ _ _ _ _ _ _ _ _ _) hS ?_
  intro b1 w hS
  refine new_ok (al46 _) hS ?_
  intro b2 w hS
  unfold m26_1
  first | refine valP_ok (fa67_2 _ _) ?_ | refine valP_ok (fao67_2 _ _ _) ?_
  refine valP_ok (ldA 1 hS rfl) ?_
  refine callR (by kernel_rfl) (encode_ret hc.2.2 hS) ?_
  rintro _ w ⟨⟨e, rfl⟩, hS⟩
  refine valP_ok (extract_ok _ 0 rfl _) ?_
  refine valP_ok (extract_ok _ 1 rfl _) ?_
  unfold m26_2
  refine drawn_ok hS ?_
  intro w hS
  refine held_Hs hS.tail ?_
  first | refine valJ_ok (fa67_0 _) ?_ | refine valJ_ok (fao67_0 _ _) ?_
  first | refine valJ_load ld3 (Hs.cell 0 rfl rfl) ?_ | refine valJ_load ld3 (Hs.cell 1 rfl rfl) ?_ | refine valJ_load ld3 (Hs.cell 2 rfl rfl) ?_ | refine valJ_load ld3 (Hs.cell 3 rfl rfl) ?_ | refine valJ_load ld3 (Hs.cell 4 rfl rfl) ?_ | refine valJ_load ld3 (Hs.cell 5 rfl rfl) ?_ | refine valJ_load ld3 (Hs.cell 6 rfl rfl) ?_ | refine valJ_load ld3 (Hs.cell 7 rfl rfl) ?_ | refine valJ_load ld3 (by assumption) ?_
  first | refine valJ_ok (fa67_1 _) ?_ | refine valJ_ok (fao67_1 _ _) ?_
  first | refine valJ_load ld3 (Hs.cell 0 rfl rfl) ?_ | refine valJ_load ld3 (Hs.cell 1 rfl rfl) ?_ | refine valJ_load ld3 (Hs.cell 2 rfl rfl) ?_ | refine valJ_load ld3 (Hs.cell 3 rfl rfl) ?_ | refine valJ_load ld3 (Hs.cell 4 rfl rfl) ?_ | refine valJ_load ld3 (Hs.cell 5 rfl rfl) ?_ | refine valJ_load ld3 (Hs.cell 6 rfl rfl) ?_ | refine valJ_load ld3 (Hs.cell 7 rfl rfl) ?_ | refine valJ_load ld3 (by assumption) ?_
  refine callR (by kernel_rfl) (rput_ret (by omega) hS) ?_
  rintro _ w ⟨rfl, hS⟩
  refine stay_Hs hS (by first | exact fun _ h => h | exact fun _ h => .tail _ h | exact fun _ h => .tail _ (.tail _ h) | simp) ?_
  refine valJ_ok (fun w => sadd _ _ (by omega) w) ?_
  refine valJ_ok (bd46_0_1_2 rfl rfl rfl) ?_
  first | refine ss46 0 hS rfl rfl rfl rfl ?_ | refine ss46 1 hS rfl rfl rfl rfl ?_ | refine ss46 2 hS rfl rfl rfl rfl ?_ | refine ss46 3 hS rfl rfl rfl rfl ?_ | refine ss46 4 hS rfl rfl rfl rfl ?_ | refine ss46 5 hS rfl rfl rfl rfl ?_ | refine ss46 6 hS rfl rfl rfl rfl ?_ | refine ss46 7 hS rfl rfl rfl rfl ?_
  intro w hS
  simp only [List.set_cons_zero, List.set_cons_succ] at hS
  refine stay_Hs hS (by first | exact fun _ h => h | exact fun _ h => .tail _ h | exact fun _ h => .tail _ (.tail _ h) | simp) ?_
  unfold m26_3
  refine valS_ok (lc46 (hS.cell 0 rfl rfl) (hS.cell 0 rfl rfl) (hS.cell 0 rfl rfl)) ?_
  exact ⟨rfl, hS.tail.tail⟩
def DiffR (s t : Sg) (w0 : World) (F : List Nat) (L : List Res) (v : Value) (w : World) : Prop := ∃ A c, ∃ l : List Rc, v = .slice A l.length c ∧ l = diffS s t ∧ l.length ≤ 129 ∧ St w0 F w (rRow A c l :: L)
section
variable {s t : Sg} {A1 A2 : Option Addr} {c1 c2 b2 b3 : Nat}
abbrev DfL (L : List Res) (s t : Sg) (A1 A2 : Option Addr) (c1 c2 b2 b3 : Nat) : List Res := Res.cells b3 28 (encS t A2 c2) :: Res.cells b2 28 (encS s A1 c1) :: L
/-- what the walk has told, up to here. -/
def DfI (s t : Sg) (i k : Nat) (rs : List Rc) : Prop := (i ≤ s.L.length ∧ k ≤ t.L.length) ∧ rs.length ≤ 1 + i + k ∧ rs ++ diffL (s.L.drop i) (t.L.drop k) = diffS s t
/-- it goes on. -/
def DfK (s t : Sg) (w0 : World) (F : List Nat) (L : List Res) (A1 A2 : Option Addr) (c1 c2 b2 b3 n : Nat) (K1 : Value × Value × Value → World → Prop) : Prop :=
  ∀ w i k A c rs, DfI s t i k rs → n < i + k → St w0 F w (rRow A c rs :: DfL L s t A1 A2 c1 c2 b2 b3) → K1 (.slice A rs.length c, .int .i64 (i : Int), .int .i64 (k : Int)) w
variable {i k c : Nat} {A : Option Addr} {rs : List Rc} {K1 : Value × Value × Value → World → Prop}
theorem df_11 (h64 : s.L.length ≤ 64 ∧ t.L.length ≤ 64) (hik : i ≤ 64 ∧ k ≤ 64) (hI : DfI s t (i + 1) (k + 1) rs) (hK : DfK s t w0 F L A1 A2 c1 c2 b2 b3 (i + k) K1) (hS : St w0 F w (rRow A c rs :: DfL L s t A1 A2 c1 c2 b2 b3)) : m14_11 (DiffR s t w0 F L) K1 (.pointer (some ⟨b2, 0, none⟩)) (.pointer (some ⟨b3, 0, none⟩)) (.slice A rs.length c) (.int .i64 (i : Int)) (.int .i64 (k : Int)) w := by
  unfold m14_11
  refine valP_ok (add_ok _ _ _ (by omega) (by omega) _) ?_
  unfold m14_12
  refine valP_ok (add_ok _ _ _ (by omega) (by omega) _) ?_
  exact hK w (i + 1) (k + 1) A c rs hI (by omega) hS
theorem df_put (h64 : s.L.length ≤ 64 ∧ t.L.length ≤ 64) (hi : i ≤ 64 ∧ k ≤ 64) (hr : rs.length ≤ 1 + i + k) {r : Rc} {b : Nat} {K : Value → World → Prop} {cs : Array Bool} (hS : St w0 F w (Res.cells b 46 (encR r) :: rRow A c rs :: DfL L s t A1 A2 c1 c2 b2 b3))
    (h : ∀ A' c' w', St w0 F w' (rRow A' c' (rs ++ [r]) :: DfL L s t A1 A2 c1 c2 b2 b3) → K (.slice A' (rs ++ [r]).length c') w') : builtinP Try.prog .append #[24, 24] 24 cs #[.slice A rs.length c, .slice (some ⟨b, 0, none⟩) 1 1] w K := by
  refine append_one1 (enc := encR) 0 r sl24 encR_len encR_one (by unfold maxLen; omega) (by omega) hS rfl ?_
  intro A' c' w' hS
  simp only [List.set_cons_zero, List.set_cons_succ] at hS
  exact h A' c' w' hS
end
end

end Go.Proofs.Ytnhgdngbdoifnaa.M
