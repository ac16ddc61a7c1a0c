/- Some records; what an engine leaves, told some at a time. -/
import Derived.Test.YtnhgdngbdoifnaaK11
import Derived.Test.YtnhgdngbdoifnaaFwW
import Derived.Test.YtnhgdngbdoifnaaMbase0
import Derived.Test.YtnhgdngbdoifnaaMmid0
import Derived.Test.YtnhgdngbdoifnaaMgrid0
import Derived.Test.YtnhgdngbdoifnaaMfold0
import Derived.Test.YtnhgdngbdoifnaaMeng0
import Derived.Test.YtnhgdngbdoifnaaMdiff0
import Derived.Test.YtnhgdngbdoifnaaMlaw0
namespace Go.Proofs.Ytnhgdngbdoifnaa.M
open Go.Proofs.Ytnhgdngbdoifnaa.F Go.RowKit
set_option linter.unusedVariables false
set_option linter.unusedSimpArgs false
set_option maxRecDepth 100000
set_option maxHeartbeats 2000000
attribute [local irreducible] Res.cells Res.row Res.map Res.any World.cell? World.frozen? Instr.fieldAt Instr.loadAt Instr.storeAt Instr.indexAt Instr.lookup Instr.mapUpdate Instr.box Instr.build Instr.buildSlice Instr.extract Instr.alloc Instr.field Instr.index Instr.sliceAt Instr.makeSlice Instr.makeMap Instr.makeFunc binS Op.unary Sem.run
def cut50 (s : ByteArray) : ByteArray := if 50 < s.size then s.extract 0 50 else s
def cutR (r : Rc) : Rc := ⟨r.key, r.time, cut50 r.text⟩
section
variable {w0 w : World} {F : List Nat} {L : List Res} {l : List Rc} {A : Option Addr} {c : Nat}
theorem some16_main (hm : l.length ≤ 150) (hE : Bes w0 F L 3 A l.length (l.flatMap encR)) (hS : St w0 F w L) : m12_2 (fun v w' => ∃ A' c', v = .slice A' (l.map cutR).length c' ∧ St w0 F w' (rRow A' c' (l.map cutR) :: L)) (.slice A l.length c) w := by
  unfold m12_2 m12_3 m12_6
  refine loop_in (fun u w' => ∃ (i : Nat) (A' : Option Addr) (c' : Nat), u = (.slice A' ((l.take i).map cutR).length c', .int .i64 (i : Int)) ∧ i ≤ l.length ∧ St w0 F w' (rRow A' c' ((l.take i).map cutR) :: L)) (fun u _ => l.length - (intOf u.2).toNat) ⟨0, none, 0, rfl, by omega, hS.row_nil 46 3⟩ ?_
  clear hS
  rintro u w ⟨i, A', c', rfl, hi, hS⟩
  simp only
  have hlen : ((l.take i).map cutR).length = i := by rw [List.length_map, List.length_take]; omega
  unfold m12_7
  refine builtin_ok (len24 _) ?_
  refine valP_ok (lss_ok _ _ _ _ _ _ _) ?_
  unfold m12_13
  refine cond_split (fun h => ?_) (fun h => ?_)
  · have hil : i < l.length := by omega
    obtain ⟨gb, o, rfl⟩ := (hE.rd1 hS).some_ (by omega) (by omega)
    have p := r_at (hE.rd1 hS) hil
    have hnx : (l.take (i + 1)).map cutR = (l.take i).map cutR ++ [cutR l[i]] := by
      rw [List.take_succ_eq_append_getElem hil, List.map_append]
      rfl
    unfold m12_8
    refine valP_ok (ix24 hil _) ?_
    refine valP_ok (ld46 p.1 p.2.1 p.2.2) ?_
    refine new_ok (al46 _) hS ?_
    intro b5 w hS
    first | refine ss46 0 hS rfl rfl rfl rfl ?_ | refine ss46 1 hS rfl rfl rfl rfl ?_ | refine ss46 2 hS rfl rfl rfl rfl ?_ | refine ss46 3 hS rfl rfl rfl rfl ?_ | refine ss46 4 hS rfl rfl rfl rfl ?_ | refine ss46 5 hS rfl rfl rfl rfl ?_ | refine ss46 6 hS rfl rfl rfl rfl ?_ | refine ss46 7 hS rfl rfl rfl rfl ?_
    intro w hS
    simp only [List.set_cons_zero, List.set_cons_succ] at hS
    have leaf : ∀ (K1 : Value × Value → World → Prop), (∀ w' A' c', St w0 F w' (rRow A' c' ((l.take (i + 1)).map cutR) :: L) → K1 (.slice A' ((l.take (i + 1)).map cutR).length c', .int .i64 ((i + 1 : Nat) : Int)) w') → ∀ w, St w0 F w (Res.cells b5 46 (encR (cutR l[i])) :: rRow A' c' ((l.take i).map cutR) :: L) → m12_11 (fun v w' => ∃ A' c', v = .slice A' (l.map cutR).length c' ∧ St w0 F w' (rRow A' c' (l.map cutR) :: L)) K1 (.slice (some ⟨gb, o, none⟩) l.length c) (.slice A' ((l.take i).map cutR).length c') (.int .i64 (i : Int)) (.pointer (some ⟨b5, 0, none⟩)) w := fun K1 hK w hS => by
      unfold m12_11
      first | refine ls46 0 hS rfl ?_ | refine ls46 1 hS rfl ?_ | refine ls46 2 hS rfl ?_ | refine ls46 3 hS rfl ?_ | refine ls46 4 hS rfl ?_ | refine ls46 5 hS rfl ?_ | refine ls46 6 hS rfl ?_ | refine ls46 7 hS rfl ?_ | refine valP_ok (ld46 (by assumption) (by assumption) (by assumption)) ?_
      refine newslice_ok (bs24_1 _) hS ?_
      intro b31 w hS
      refine append_one1 (enc := encR) 1 (cutR l[i]) sl24 encR_len encR_one (by unfold maxLen; omega) (by omega) hS rfl ?_
      intro A' c' w' hS
      simp only [List.set_cons_zero, List.set_cons_succ] at hS
      have h1 := hK w' A' c' (by rw [hnx]; exact hS.tail)
      rw [hnx] at h1
      unfold m12_9
      refine valP_ok (add_ok _ _ _ (by omega) (by omega) _) ?_
      exact h1
    unfold m12_10
    first | refine valP_ok (fa46_2 _ _) ?_ | refine valP_ok (fao46_2 _ _ _) ?_
    first | refine valP_ok (ld9 (hS.cell 0 rfl rfl)) ?_ | refine valP_ok (ld9 (hS.cell 1 rfl rfl)) ?_ | refine valP_ok (ld9 (hS.cell 2 rfl rfl)) ?_ | refine valP_ok (ld9 (hS.cell 3 rfl rfl)) ?_ | refine valP_ok (ld9 (hS.cell 4 rfl rfl)) ?_ | refine valP_ok (ld9 (hS.cell 5 rfl rfl)) ?_ | refine valP_ok (ld9 (hS.cell 6 rfl rfl)) ?_ | refine valP_ok (ld9 (hS.cell 7 rfl rfl)) ?_ | refine valP_ok (ld9 (by assumption)) ?_
    refine builtin_ok (len9 _) ?_
    refine valP_ok (gtr_ok _ _ _ _ _ _ _) ?_
    unfold m12_12
    refine cond_split (fun h1 => ?_) (fun h1 => ?_)
    · have e : cutR l[i] = ⟨l[i].key, l[i].time, l[i].text.extract 0 50⟩ := by
        unfold cutR cut50
        rw [if_pos (by omega)]
      first | refine valP_ok (fa46_2 _ _) ?_ | refine valP_ok (fao46_2 _ _ _) ?_
      first | refine valP_ok (ld9 (hS.cell 0 rfl rfl)) ?_ | refine valP_ok (ld9 (hS.cell 1 rfl rfl)) ?_ | refine valP_ok (ld9 (hS.cell 2 rfl rfl)) ?_ | refine valP_ok (ld9 (hS.cell 3 rfl rfl)) ?_ | refine valP_ok (ld9 (hS.cell 4 rfl rfl)) ?_ | refine valP_ok (ld9 (hS.cell 5 rfl rfl)) ?_ | refine valP_ok (ld9 (hS.cell 6 rfl rfl)) ?_ | refine valP_ok (ld9 (hS.cell 7 rfl rfl)) ?_ | refine valP_ok (ld9 (by assumption)) ?_
      refine valP_ok (sto (k := 50) _ (by omega)) ?_
      first | refine valP_ok (fa46_2 _ _) ?_ | refine valP_ok (fao46_2 _ _ _) ?_
      first | refine store_at 0 st9 hS rfl (by simp) rfl ?_ | refine store_at 1 st9 hS rfl (by simp) rfl ?_ | refine store_at 2 st9 hS rfl (by simp) rfl ?_ | refine store_at 3 st9 hS rfl (by simp) rfl ?_ | refine store_at 4 st9 hS rfl (by simp) rfl ?_ | refine store_at 5 st9 hS rfl (by simp) rfl ?_ | refine store_at 6 st9 hS rfl (by simp) rfl ?_ | refine store_at 7 st9 hS rfl (by simp) rfl ?_
      intro w hS
      simp only [List.set_cons_zero, List.set_cons_succ] at hS
      exact leaf _ (fun w' A' c' hS => ⟨⟨i + 1, A', c', rfl, by omega, hS⟩, by simp [intOf]; omega⟩) _ (by rw [e]; exact hS)
    · have e : cutR l[i] = l[i] := by
        unfold cutR cut50
        rw [if_neg (by omega)]
      exact leaf _ (fun w' A' c' hS => ⟨⟨i + 1, A', c', rfl, by omega, hS⟩, by simp [intOf]; omega⟩) _ (by rw [e]; exact hS)
  · obtain rfl : i = l.length := by omega
    rw [List.take_length] at hS ⊢
    unfold m12_4 m12_5
    exact ⟨_, _, rfl, hS⟩
theorem some16_ret (hc : l.length ≤ c) (hE : Bes w0 F L 3 A (l.take 150).length ((l.take 150).flatMap encR)) (hS : St w0 F w L) : Ret Try.prog 12 #[.slice A l.length c] w fun v w' => ∃ A' c', v = .slice A' ((l.take 150).map cutR).length c' ∧ St w0 F w' (rRow A' c' ((l.take 150).map cutR) :: L) := by
  have hl : (l.take 150).length = min 150 l.length := List.length_take
  refine s12 _ ?_
  unfold m12 m12_0
  unfold m12_1
  refine builtin_ok (len24 _) ?_
  refine valP_ok (gtr_ok _ _ _ _ _ _ _) ?_
  unfold m12_14
  refine cond_split (fun h => ?_) (fun h => ?_)
  · refine valP_ok (sh24 (k := 150) (by omega) _) ?_
    have h1 := some16_main (c := c) (by omega) hE hS
    rw [show (l.take 150).length = 150 by omega] at h1
    exact h1
  · rw [List.take_of_length_le (by omega)] at hE ⊢
    exact some16_main (c := c) (by omega) hE hS
end
/-- changes that an engine left, and what it came to. -/
inductive Logs (g : Gr) : List Rc → Sg → Prop
  | zero : Logs g [] ⟨-1, 0, 0, 0, []⟩
  | step {rs : List Rc} {s t : Sg} : Logs g rs s → MayS g s → SgOk t → t.L.length ≤ 64 → Logs g (rs ++ diffS s t) t
theorem logs_lives {g : Gr} {rs : List Rc} {s : Sg} (h : Logs g rs s) : Lives s.L rs := by
  induction h with
  | zero => trivial
  | step _ _ _ _ ih => exact diffS_step ih
def RcI (r : Rc) : Prop := I64 r.key ∧ I64 r.time
theorem diffS_ok {s t : Sg} (hs : SgOk s) (ht : SgOk t) : ∀ r ∈ diffS s t, RcI r := fun r hr => by
  unfold diffS at hr
  rcases List.mem_append.1 hr with h | h
  · split at h
    · obtain rfl := List.mem_singleton.1 h
      exact ⟨by show I64 0; omega, by show I64 0; omega⟩
    · cases h
  · rcases diff_mem _ _ r h with ⟨c, hc, rfl⟩ | ⟨c, hc, rfl⟩
    · exact ⟨(hs.2 c hc).1, (hs.2 c hc).2.1⟩
    · exact ⟨(ht.2 c hc).1, (ht.2 c hc).2.1⟩

end Go.Proofs.Ytnhgdngbdoifnaa.M
