/- An engine's put. -/
import Derived.Test.YtnhgdngbdoifnaaK5
import Derived.Test.YtnhgdngbdoifnaaFwW
import Derived.Test.YtnhgdngbdoifnaaMbase0
import Derived.Test.YtnhgdngbdoifnaaMmid0
import Derived.Test.YtnhgdngbdoifnaaMgrid0
import Derived.Test.YtnhgdngbdoifnaaMfold0
import Derived.Test.YtnhgdngbdoifnaaMeng0
namespace Go.Proofs.Ytnhgdngbdoifnaa.M
open Go.Proofs.Ytnhgdngbdoifnaa.F Go.RowKit
set_option linter.unusedVariables false
set_option linter.unusedSimpArgs false
set_option maxRecDepth 100000
set_option maxHeartbeats 2000000
attribute [local irreducible] Res.cells Res.row Res.map Res.any World.cell? World.frozen? Instr.fieldAt Instr.loadAt Instr.storeAt Instr.indexAt Instr.lookup Instr.mapUpdate Instr.box Instr.build Instr.buildSlice Instr.extract Instr.alloc Instr.field Instr.index Instr.sliceAt Instr.makeSlice Instr.makeMap Instr.makeFunc binS Op.unary Sem.run
section
variable {w0 w : World} {F : List Nat} {L : List Res} {K : Value → World → Prop}
theorem set_at {k : Nat} (h : k < L.length) (r : Res) : (L.set k r)[k]? = some r := by simp [h]
theorem ssA {b tt : Nat} {x : Ce} {a : Ag} (k : Nat) (hS : St w0 F w L) (hk : L[k]? = some (Res.cells b tt (encC x))) (h : ∀ w', St w0 F w' (L.set k (Res.cells b tt (encC ⟨x.key, x.start, a⟩))) → K undef w') : unitP Try.prog (Instr.storeAt 65 (.pointer (some ⟨b, 2, none⟩)) (agv a)) w K := by
  obtain ⟨hkl, _⟩ := List.getElem?_eq_some_iff.1 hk
  have hl : ∀ r : Res, k < (L.set k r).length := fun r => by rw [List.length_set]; exact hkl
  have hf := fun i => hS.frozen (i := i) k hk
  have s1 := hS.set (i := 2) k (.int .i64 a.count) hk
  have s2 := s1.set (i := 3) k (.int .i64 a.sum) (set_at hkl _)
  simp only [List.set_set] at s2
  have s3 := s2.set (i := 4) k (.int .i64 a.mn) (set_at hkl _)
  simp only [List.set_set] at s3
  have s4 := s3.set (i := 5) k (.int .i64 a.mx) (set_at hkl _)
  simp only [List.set_set] at s4
  have s5 := s4.set (i := 6) k (.int .i64 a.h0) (set_at hkl _)
  simp only [List.set_set] at s5
  have s6 := s5.set (i := 7) k (.int .i64 a.h1) (set_at hkl _)
  simp only [List.set_set] at s6
  have s7 := s6.set (i := 8) k (.int .i64 a.h2) (set_at hkl _)
  simp only [List.set_set] at s7
  have s8 := s7.set (i := 9) k (.int .i64 a.h3) (set_at hkl _)
  simp only [List.set_set] at s8
  have s9 := s8.set (i := 10) k (.int .i64 a.re) (set_at hkl _)
  simp only [List.set_set] at s9
  have s10 := s9.set (i := 11) k (.int .i64 a.im) (set_at hkl _)
  simp only [List.set_set, List.set_cons_zero, List.set_cons_succ] at s10
  exact unitP_ok (st65 (hS.cell k hk (i := 2) rfl) (hS.cell k hk (i := 2 + 1) rfl) (hS.cell k hk (i := 2 + 2) rfl) (hS.cell k hk (i := 2 + 3) rfl) (hS.cell k hk (i := 2 + 4) rfl) (hS.cell k hk (i := 2 + 5) rfl) (hS.cell k hk (i := 2 + 6) rfl) (hS.cell k hk (i := 2 + 7) rfl) (hS.cell k hk (i := 2 + 8) rfl) (hS.cell k hk (i := 2 + 9) rfl)
    (hf _) rfl (hf _) rfl (hf _) rfl (hf _) rfl (hf _) rfl (hf _) rfl (hf _) rfl (hf _) rfl (hf _) rfl (hf _) rfl) (h _ s10)
def PutR (n : Nat) (w0 : World) (F : List Nat) (L : List Res) (v : Value) (w : World) : Prop := ∃ A c, ∃ l : List Ce, v = .slice A l.length c ∧ l.length ≤ n + 1 ∧ (∀ x ∈ l, CeOk x) ∧ St w0 F w (cRow A c l :: L)
section
variable {l out : List Ce} {A A2 : Option Addr} {c c2 b9 : Nat} {x : Ce} {v : Int}
theorem put_6 {j : Nat} (hE : Sl w0 F L A c l) (hl : l.length ≤ 2000000) (hok : ∀ x ∈ l, CeOk x) (hv : I64 v) (hx : CeOk x) (ho : ∀ x ∈ out, CeOk x) (hj : j ≤ l.length) (hoj : out.length ≤ j) (hS : St w0 F w (cRow A2 c2 out :: Res.cells b9 67 (encC x) :: L)) :
    m46_6 (PutR l.length w0 F L) (.slice A l.length c) (.int .i64 v) (.pointer (some ⟨b9, 0, none⟩)) (.slice A2 out.length c2) (.int .i64 (j : Int)) w := by
  have hcap := hE.cap
  unfold m46_6
  first | refine valP_ok (fa67_2 _ _) ?_ | refine valP_ok (fao67_2 _ _ _) ?_
  refine valP_ok (ldA 1 hS rfl) ?_
  refine callR (by kernel_rfl) (add5_ret hx.2.2 hv hS) ?_
  rintro _ w ⟨⟨a, rfl, ha⟩, hS⟩
  first | refine valP_ok (fa67_2 _ _) ?_ | refine valP_ok (fao67_2 _ _ _) ?_
  refine ssA 1 hS rfl ?_
  intro w hS
  simp only [List.set_cons_zero, List.set_cons_succ] at hS
  have hx2 : CeOk ⟨x.key, x.start, a⟩ := ⟨hx.1, hx.2.1, ha⟩
  generalize (⟨x.key, x.start, a⟩ : Ce) = x2 at hS hx2
  unfold m46_7
  refine valP_ok (ldK 1 hS rfl) ?_
  refine newslice_ok (bs26_1 _) hS ?_
  intro b62 w hS
  refine append_one1 (enc := encC) 0 x2 sl26 encC_len encC_one (by unfold maxLen; omega) (by omega) hS rfl ?_
  intro A3 c3 w hS
  simp only [List.set_cons_zero, List.set_cons_succ] at hS
  unfold m46_8
  refine valP_ok (so26 (by omega) (by omega) _) ?_
  rw [show l.length - j = (l.drop j).length from List.length_drop.symm]
  have hol : (out ++ [x2]).length = out.length + 1 := by simp
  have hdl : (l.drop j).length = l.length - j := List.length_drop
  refine append_anyS (enc := encC) (l0 := out ++ [x2]) (l := l.drop j) 0 sl26 encC_len encC_one (by unfold maxLen; omega) (by omega) hS rfl ((((hE.cons _).cons _).rd.rd hS).dropS encC_len hj hcap) (fun h => ?_) ?_
  · split at h
    · omega
    · have hA : A = none := by
        cases A with
        | none => rfl
        | some a => cases h
      have := hE.nul hA
      omega
  intro A4 c4 w hS
  simp only [List.set_cons_zero, List.set_cons_succ] at hS
  unfold m46_9 m46_10
  refine ⟨A4, c4, _, rfl, by rw [List.length_append]; omega, fun y hy => ?_, St.mid (A := [_]) (B := [_]) hS⟩
  rcases List.mem_append.1 hy with h | h
  · rcases List.mem_append.1 h with h | h
    · exact ho y h
    · obtain rfl := List.mem_singleton.1 h
      exact hx2
  · exact hok y (List.mem_of_mem_drop h)
theorem put_5 {j : Nat} (hE : Sl w0 F L A c l) (hl : l.length ≤ 2000000) (hok : ∀ x ∈ l, CeOk x) (hv : I64 v) (hx : CeOk x) (ho : ∀ x ∈ out, CeOk x) (hj : j ≤ l.length) (hoj : out.length ≤ j) (hS : St w0 F w (cRow A2 c2 out :: Res.cells b9 67 (encC x) :: L)) :
    m46_5 (PutR l.length w0 F L) (.slice A l.length c) (.int .i64 v) (.pointer (some ⟨b9, 0, none⟩)) (.slice A2 out.length c2) (.int .i64 (j : Int)) w := by
  have hE2 := (hE.cons (Res.cells b9 67 (encC x))).cons (cRow A2 c2 out)
  have leaf : ∀ (t : Bool) w, (t = true → j < l.length) → St w0 F w (cRow A2 c2 out :: Res.cells b9 67 (encC x) :: L) → m46_11 (PutR l.length w0 F L) (.slice A l.length c) (.int .i64 v) (.pointer (some ⟨b9, 0, none⟩)) (.slice A2 out.length c2) (.int .i64 (j : Int)) (.bool t) w := fun t w ht hS => by
    unfold m46_11
    cases t with
    | true =>
      have hjl := ht rfl
      have hcj := hok _ (List.getElem_mem hjl)
      obtain ⟨gb, o, rfl⟩ := (hE2.rd.rd hS).some_ (by omega) (by omega)
      refine cond_t rfl ?_
      refine valP_ok (ix26 hjl _) ?_
      refine valP_ok (ldC (hE2.rd.rd hS) hjl) ?_
      first | refine ss67 0 hS rfl rfl rfl rfl rfl rfl rfl rfl rfl rfl rfl rfl rfl ?_ | refine ss67 1 hS rfl rfl rfl rfl rfl rfl rfl rfl rfl rfl rfl rfl rfl ?_ | refine ss67 2 hS rfl rfl rfl rfl rfl rfl rfl rfl rfl rfl rfl rfl rfl ?_ | refine ss67 3 hS rfl rfl rfl rfl rfl rfl rfl rfl rfl rfl rfl rfl rfl ?_ | refine ss67 4 hS rfl rfl rfl rfl rfl rfl rfl rfl rfl rfl rfl rfl rfl ?_ | refine ss67 5 hS rfl rfl rfl rfl rfl rfl rfl rfl rfl rfl rfl rfl rfl ?_ | refine ss67 6 hS rfl rfl rfl rfl rfl rfl rfl rfl rfl rfl rfl rfl rfl ?_ | refine ss67 7 hS rfl rfl rfl rfl rfl rfl rfl rfl rfl rfl rfl rfl rfl ?_
      intro w hS
      simp only [List.set_cons_zero, List.set_cons_succ] at hS
      unfold m46_12
      refine valP_ok (add_ok _ _ _ (by omega) (by omega) _) ?_
      exact put_6 (x := l[j]) (j := j + 1) hE hl hok hv hcj ho (by omega) (by omega) hS
    | false =>
      refine cond_f rfl ?_
      exact put_6 hE hl hok hv hx ho hj hoj hS
  unfold m46_5
  refine drawn_ok hS ?_
  intro w hS
  refine builtinS_ok (len26 _) ?_
  refine valS_ok (lss_ok _ _ _ _ _ _ _) ?_
  refine cond_split (fun h => ?_) (fun h => ?_)
  · have hjl : j < l.length := by omega
    obtain ⟨gb, o, rfl⟩ := (hE2.rd.rd hS).some_ (by omega) (by omega)
    refine valS_ok (ldK 1 hS rfl) ?_
    refine valS_ok (ix26 hjl _) ?_
    refine valS_ok (ldC (hE2.rd.rd hS) hjl) ?_
    refine callR (by kernel_rfl) (ahead_ret hS) ?_
    rintro _ w ⟨rfl, hS⟩
    first | refine valP_ok (not_ok _ _) ?_ | refine valP_ok (notb_ok _ _) ?_
    first | refine pick_dt (by first | assumption | omega) ?_ | refine pick_df (by first | assumption | omega) ?_ | refine pick_t (by first | rfl | assumption) ?_ | refine pick_f (by first | rfl | assumption) ?_ | refine pick_dt rfl ?_ | refine pick_df (not_not_intro rfl) ?_
    exact leaf _ _ (fun _ => hjl) hS
  · first | refine pick_dt (by first | assumption | omega) ?_ | refine pick_df (by first | assumption | omega) ?_ | refine pick_t (by first | rfl | assumption) ?_ | refine pick_f (by first | rfl | assumption) ?_ | refine pick_dt rfl ?_ | refine pick_df (not_not_intro rfl) ?_
    exact leaf _ _ (fun h => (by cases h)) hS
theorem put46_ret {key start : Int} (hE : Sl w0 F L A c l) (hl : l.length ≤ 2000000) (hok : ∀ x ∈ l, CeOk x) (hv : I64 v) (hk : I64 key) (hst : I64 start) (hS : St w0 F w L) : Ret Try.prog 46 #[.slice A l.length c, .int .i64 key, .int .i64 start, .int .i64 v] w (PutR l.length w0 F L) := by
  refine s46 _ _ _ _ ?_
  unfold m46
  unfold m46_0
  unfold m46_1
  refine valP_ok (bd67_0_1 rfl rfl _) ?_
  refine new_ok (al67 _) hS ?_
  intro b9 w hS
  first | refine ss67 0 hS rfl rfl rfl rfl rfl rfl rfl rfl rfl rfl rfl rfl rfl ?_ | refine ss67 1 hS rfl rfl rfl rfl rfl rfl rfl rfl rfl rfl rfl rfl rfl ?_ | refine ss67 2 hS rfl rfl rfl rfl rfl rfl rfl rfl rfl rfl rfl rfl rfl ?_ | refine ss67 3 hS rfl rfl rfl rfl rfl rfl rfl rfl rfl rfl rfl rfl rfl ?_ | refine ss67 4 hS rfl rfl rfl rfl rfl rfl rfl rfl rfl rfl rfl rfl rfl ?_ | refine ss67 5 hS rfl rfl rfl rfl rfl rfl rfl rfl rfl rfl rfl rfl rfl ?_ | refine ss67 6 hS rfl rfl rfl rfl rfl rfl rfl rfl rfl rfl rfl rfl rfl ?_ | refine ss67 7 hS rfl rfl rfl rfl rfl rfl rfl rfl rfl rfl rfl rfl rfl ?_
  intro w hS
  simp only [List.set_cons_zero, List.set_cons_succ] at hS
  have hx : CeOk ⟨key, start, zeroAg⟩ := ⟨hk, hst, zeroAg_ok⟩
  have hS : St w0 F w (Res.cells b9 67 (encC ⟨key, start, zeroAg⟩) :: L) := hS
  generalize (⟨key, start, zeroAg⟩ : Ce) = x at hS hx
  unfold m46_2 m46_3 m46_4
  refine loop_in (fun u w' => ∃ (i : Nat) (A2 : Option Addr) (c2 : Nat) (out : List Ce), u = (.slice A2 out.length c2, .int .i64 (i : Int)) ∧ i ≤ l.length ∧ out.length ≤ i ∧ (∀ x ∈ out, CeOk x) ∧ St w0 F w' (cRow A2 c2 out :: Res.cells b9 67 (encC x) :: L)) (fun u _ => l.length - (intOf u.2).toNat) ⟨0, none, 0, [], rfl, by omega, by simp, fun x h => (by cases h), hS.row_nil 67 12⟩ ?_
  clear hS
  rintro u w ⟨i, A2, c2, out, rfl, hi, hoi, ho, hS⟩
  simp only
  have hE2 := (hE.cons (Res.cells b9 67 (encC x))).cons (cRow A2 c2 out)
  unfold m46_13
  refine drawn_ok hS ?_
  intro w hS
  refine builtinS_ok (len26 _) ?_
  refine valS_ok (lss_ok _ _ _ _ _ _ _) ?_
  refine cond_split (fun h => ?_) (fun h => ?_)
  · have hil : i < l.length := by omega
    have hci := hok _ (List.getElem_mem hil)
    obtain ⟨gb, o, rfl⟩ := (hE2.rd.rd hS).some_ (by omega) (by omega)
    refine valS_ok (ix26 hil _) ?_
    refine valS_ok (ldC (hE2.rd.rd hS) hil) ?_
    refine valS_ok (ldK 1 hS rfl) ?_
    refine callR (by kernel_rfl) (ahead_ret hS) ?_
    rintro _ w ⟨rfl, hS⟩
    first | refine pick_dt (by first | assumption | omega) ?_ | refine pick_df (by first | assumption | omega) ?_ | refine pick_t (by first | rfl | assumption) ?_ | refine pick_f (by first | rfl | assumption) ?_ | refine pick_dt rfl ?_ | refine pick_df (not_not_intro rfl) ?_
    unfold m46_16
    refine cond_split (fun h1 => ?_) (fun h1 => ?_)
    · unfold m46_14
      refine valP_ok (ix26 hil _) ?_
      refine valP_ok (ldC (hE2.rd.rd hS) hil) ?_
      refine newslice_ok (bs26_1 _) hS ?_
      intro b32 w hS
      refine append_one1 (enc := encC) 0 l[i] sl26 encC_len encC_one (by unfold maxLen; omega) (by omega) hS rfl ?_
      intro A3 c3 w hS
      simp only [List.set_cons_zero, List.set_cons_succ] at hS
      unfold m46_15
      refine valP_ok (add_ok _ _ _ (by omega) (by omega) _) ?_
      refine ⟨⟨i + 1, A3, c3, out ++ [l[i]], rfl, by omega, by rw [List.length_append]; simp; omega, fun y hy => ?_, hS⟩, by simp [intOf]; omega⟩
      rcases List.mem_append.1 hy with h | h
      · exact ho y h
      · obtain rfl := List.mem_singleton.1 h
        exact hci
    · exact put_5 hE hl hok hv hx ho hi hoi hS
  · first | refine pick_dt (by first | assumption | omega) ?_ | refine pick_df (by first | assumption | omega) ?_ | refine pick_t (by first | rfl | assumption) ?_ | refine pick_f (by first | rfl | assumption) ?_ | refine pick_dt rfl ?_ | refine pick_df (not_not_intro rfl) ?_
    unfold m46_16
    refine cond_f rfl ?_
    exact put_5 hE hl hok hv hx ho hi hoi hS
end
end

end Go.Proofs.Ytnhgdngbdoifnaa.M
