/- Not too many changes, and no long texts. -/
import Derived.Test.YtcdnkbplplghmaaV10
import Derived.Test.YtcdnkbplplghmaaMbase0
import Derived.Test.YtcdnkbplplghmaaMmid0
namespace Go.Proofs.Ytcdnkbplplghmaa.M
open Go.Proofs.Ytcdnkbplplghmaa.F Go.RowKit
set_option linter.unusedVariables false
set_option linter.unusedSimpArgs false
set_option maxRecDepth 100000
set_option maxHeartbeats 2000000
attribute [local irreducible] Res.cells Res.row Res.map Res.any World.cell? World.frozen? Instr.fieldAt Instr.loadAt Instr.storeAt Instr.indexAt Instr.lookup Instr.mapUpdate Instr.box Instr.build Instr.buildSlice Instr.extract Instr.alloc Instr.field Instr.index Instr.sliceAt Instr.makeSlice Instr.makeMap Instr.makeFunc binS Op.unary Sem.run
def cutT (s : ByteArray) : ByteArray := if 600 < s.size then s.extract 0 600 else s
def cutG (g : Gt) : Gt := ⟨g.off, g.r.key, g.r.time, cutT g.r.text⟩
section
variable {w0 w : World} {F : List Nat} {L : List Res} {l : List Gt} {A : Option Addr} {c : Nat}
theorem some_main (hm : l.length ≤ 150) (hE : BG w0 F L A l) (hS : St w0 F w L) : m8_2 (fun v w' => ∃ A' c', v = .slice A' (l.map cutG).length c' ∧ St w0 F w' (grow A' c' (l.map cutG) :: L)) (.slice A l.length c) w := by
  unfold m8_2 m8_3 m8_6
  refine loop_in (fun u w' => ∃ (i : Nat) (A' : Option Addr) (c' : Nat), u = (.slice A' ((l.take i).map cutG).length c', .int .i64 (i : Int)) ∧ i ≤ l.length ∧ St w0 F w' (grow A' c' ((l.take i).map cutG) :: L)) (fun u _ => l.length - (intOf u.2).toNat) ⟨0, none, 0, rfl, by omega, hS.row_nil 40 4⟩ ?_
  clear hS
  rintro u w ⟨i, A', c', rfl, hi, hS⟩
  simp only
  have hlen : ((l.take i).map cutG).length = i := by rw [List.length_map, List.length_take]; omega
  unfold m8_7
  refine builtin_ok (len22 _) ?_
  refine valP_ok (lss_ok _ _ _ _ _ _ _) ?_
  unfold m8_13
  refine cond_split (fun h => ?_) (fun h => ?_)
  · have hil : i < l.length := by omega
    obtain ⟨gb, o, rfl⟩ := (hE.rd1 hS).some_ (by omega) (by omega)
    have p := g_at (hE.rd1 hS) hil
    have hnx : (l.take (i + 1)).map cutG = (l.take i).map cutG ++ [cutG l[i]] := by
      rw [List.take_succ_eq_append_getElem hil, List.map_append]
      rfl
    unfold m8_8
    refine valP_ok (ix22 hil _) ?_
    refine valP_ok (ld40 p.1 p.2.1 p.2.2.1 p.2.2.2) ?_
    refine new_ok (al40 _) hS ?_
    intro b5 w hS
    first | refine ss40 0 hS rfl rfl rfl rfl rfl ?_ | refine ss40 1 hS rfl rfl rfl rfl rfl ?_ | refine ss40 2 hS rfl rfl rfl rfl rfl ?_ | refine ss40 3 hS rfl rfl rfl rfl rfl ?_ | refine ss40 4 hS rfl rfl rfl rfl rfl ?_ | refine ss40 5 hS rfl rfl rfl rfl rfl ?_ | refine ss40 6 hS rfl rfl rfl rfl rfl ?_ | refine ss40 7 hS rfl rfl rfl rfl rfl ?_
    intro w hS
    simp only [List.set_cons_zero, List.set_cons_succ] at hS
    have leaf : ∀ (K1 : Value × Value → World → Prop), (∀ w' A' c', St w0 F w' (grow A' c' ((l.take (i + 1)).map cutG) :: L) → K1 (.slice A' ((l.take (i + 1)).map cutG).length c', .int .i64 ((i + 1 : Nat) : Int)) w') → ∀ w, St w0 F w (Res.cells b5 40 (encG (cutG l[i])) :: grow A' c' ((l.take i).map cutG) :: L) → m8_11 (fun v w' => ∃ A' c', v = .slice A' (l.map cutG).length c' ∧ St w0 F w' (grow A' c' (l.map cutG) :: L)) K1 (.slice (some ⟨gb, o, none⟩) l.length c) (.slice A' ((l.take i).map cutG).length c') (.int .i64 (i : Int)) (.pointer (some ⟨b5, 0, none⟩)) w := fun K1 hK w hS => by
      unfold m8_11
      first | refine ls40 0 hS rfl ?_ | refine ls40 1 hS rfl ?_ | refine ls40 2 hS rfl ?_ | refine ls40 3 hS rfl ?_ | refine ls40 4 hS rfl ?_ | refine ls40 5 hS rfl ?_ | refine ls40 6 hS rfl ?_ | refine ls40 7 hS rfl ?_ | refine valP_ok (ld40 (by assumption) (by assumption) (by assumption) (by assumption)) ?_
      refine newslice_ok (bs22_1 _) hS ?_
      intro b34 w hS
      refine append_one1 (enc := encG) 1 (cutG l[i]) sl22 encG_len encG_one (by unfold maxLen; omega) (by omega) hS rfl ?_
      intro A' c' w' hS
      simp only [List.set_cons_zero, List.set_cons_succ] at hS
      have h1 := hK w' A' c' (by rw [hnx]; exact hS.tail)
      rw [hnx] at h1
      unfold m8_9
      refine valP_ok (add_ok _ _ _ (by omega) (by omega) _) ?_
      exact h1
    unfold m8_10
    refine valP_ok (fa40_1 _ _) ?_
    refine valP_ok (fao38_2 _ _ _) ?_
    refine valP_ok (ld9 (hS.cell 0 rfl rfl)) ?_
    refine builtin_ok (len9 _) ?_
    refine valP_ok (gtr_ok _ _ _ _ _ _ _) ?_
    unfold m8_12
    refine cond_split (fun h1 => ?_) (fun h1 => ?_)
    · have e : cutG l[i] = ⟨l[i].off, l[i].r.key, l[i].r.time, l[i].r.text.extract 0 600⟩ := by
        unfold cutG cutT
        rw [if_pos (by omega)]
      refine valP_ok (fa40_1 _ _) ?_
      refine valP_ok (fao38_2 _ _ _) ?_
      refine valP_ok (ld9 (hS.cell 0 rfl rfl)) ?_
      refine valP_ok (sto (k := 600) _ (by omega)) ?_
      refine valP_ok (fa40_1 _ _) ?_
      refine valP_ok (fao38_2 _ _ _) ?_
      refine store_at (i := 3) 0 st9 hS rfl (by simp) rfl ?_
      intro w hS
      simp only [List.set_cons_zero, List.set_cons_succ] at hS
      exact leaf _ (fun w' A' c' hS => ⟨⟨i + 1, A', c', rfl, by omega, hS⟩, by simp [intOf]; omega⟩) _ (by rw [e]; exact hS)
    · have e : cutG l[i] = l[i] := by
        unfold cutG cutT
        rw [if_neg (by omega)]
      exact leaf _ (fun w' A' c' hS => ⟨⟨i + 1, A', c', rfl, by omega, hS⟩, by simp [intOf]; omega⟩) _ (by rw [e]; exact hS)
  · obtain rfl : i = l.length := by omega
    rw [List.take_length] at hS ⊢
    unfold m8_4 m8_5
    exact ⟨_, _, rfl, hS⟩
theorem some_ret (hc : l.length ≤ c) (hE : BG w0 F L A (l.take 150)) (hS : St w0 F w L) : Ret Try.prog 8 #[.slice A l.length c] w fun v w' => ∃ A' c', v = .slice A' ((l.take 150).map cutG).length c' ∧ St w0 F w' (grow A' c' ((l.take 150).map cutG) :: L) := by
  have hl : (l.take 150).length = min 150 l.length := List.length_take
  refine s8 _ ?_
  unfold m8 m8_0
  unfold m8_1
  refine builtin_ok (len22 _) ?_
  refine valP_ok (gtr_ok _ _ _ _ _ _ _) ?_
  unfold m8_14
  refine cond_split (fun h => ?_) (fun h => ?_)
  · refine valP_ok (sh22 (k := 150) (by omega) _) ?_
    have h1 := some_main (c := c) (by omega) hE hS
    rw [show (l.take 150).length = 150 by omega] at h1
    exact h1
  · have h1 := some_main (c := c) (by omega) hE hS
    rw [show (l.take 150).length = l.length by omega] at h1
    exact h1
end

end Go.Proofs.Ytcdnkbplplghmaa.M
