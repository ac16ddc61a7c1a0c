/- Any partitions go to any members, with any old owners, as the document says. -/
import Derived.Test.YtlgafiekogajfaaA9
namespace Go.Proofs.Ytlgafiekogajfaa.M
open Go.Proofs.Ytlgafiekogajfaa.F Go.RowKit
set_option linter.unusedVariables false
set_option linter.unusedSimpArgs false
set_option maxRecDepth 100000
set_option maxHeartbeats 2000000
attribute [local irreducible] Res.cells Res.row Res.map Res.any World.cell? World.frozen? Instr.fieldAt Instr.loadAt Instr.storeAt Instr.indexAt Instr.lookup Instr.mapUpdate Instr.box Instr.build Instr.buildSlice Instr.extract Instr.alloc Instr.field Instr.index Instr.sliceAt Instr.makeSlice Instr.makeMap Instr.makeFunc binS Op.unary Sem.run
open Go.Proofs.Ytlgafiekogajfaa.L Go.Shelf
theorem append_any {K : Value → World → Prop} {w0 w : World} {F : List Nat} {L : List Res} {cs : Array Bool} {A A0 : Option Addr} {c c0 : Nat} {l l0 : List Int} (k : Nat) (h0 : l0.length ≤ 100000) (hl : l.length ≤ 100000) (hS : St w0 F w L) (hk : L[k]? = some (irow (.slice A0 l0.length c0) l0)) (hR : Rd w 1 A l.length (ints l)) (hz : A = none → c = 0)
    (h : ∀ A' c' w', St w0 F w' (L.set k (irow (.slice A' (l0 ++ l).length c') (l0 ++ l))) → K (.slice A' (l0 ++ l).length c') w') :
    builtinP Try.prog .append #[22, 22] 22 cs #[.slice A0 l0.length c0, .slice A l.length c] w K := by
  have hlen : (l0 ++ l).length = l0.length + l.length := by simp
  have hints : ints l0 ++ ints l = ints (l0 ++ l) := by simp [ints]
  cases A with
  | none =>
    obtain rfl := hz rfl
    have hl0 : l = [] := by
      rcases Nat.eq_zero_or_pos l.length with h | h
      · exact List.eq_nil_of_length_eq_zero h
      · obtain ⟨g, o, hA⟩ := hR.some_ h (by omega); cases hA
    subst hl0
    have hself : St w0 F w (L.set k (irow (.slice A0 l0.length c0) l0)) := by
      obtain ⟨hlt, he⟩ := List.getElem?_eq_some_iff.1 hk
      rw [← he, List.set_getElem_self]
      exact hS
    rw [List.append_nil] at h
    exact append_none_ok k sl22 hS hk (h _ _ _ hself)
  | some a =>
    refine append_rd k sl22 hS hk hR rfl (fun u hu => ?_) (by unfold maxLen; omega) (by omega) ?_
    · obtain ⟨x, _, rfl⟩ := List.mem_map.1 hu
      rfl
    intro A4 c4 w' hS'
    rw [hints, ← hlen] at hS'
    rw [← hlen]
    exact h _ _ _ hS'
theorem stickyL_len {parts : Int} {M old : List Int} (h : ¬ badParts parts) (hr : M.Pairwise (· < ·)) (hl : M.length ≤ 1000) (hM : ∀ x ∈ M, -9223372036854775808 ≤ x ∧ x ≤ 9223372036854775807) : (stickyL parts M old).length = parts.toNat := by
  unfold stickyL
  split
  · simp
  · have hp : parts.toNat ≤ 64 := by unfold badParts at h; omega
    have hk := keepsL_ok (old := old) h hr hl hM (min parts.toNat old.length) (by omega)
    exact (fillsL_ok (n := parts.toNat) (q := min parts.toNat old.length) (base := baseI parts M) (by omega) (by omega) hk parts.toNat hp).2.2.1
theorem sticks_ret {w : World} {A B : Option Addr} {c d : Nat} {l r : List Int} {parts : Int} (hp : -9223372036854775808 ≤ parts) (hp' : parts ≤ 9223372036854775807) (hc : l.length ≤ c) (hd : r.length ≤ d) (hr : Rd w 1 A l.length (ints l)) (hrr : Rd w 1 B r.length (ints r))
    (hz : A = none → c = 0) (hzr : B = none → d = 0) (hb : ∀ x ∈ l, -9223372036854775808 ≤ x ∧ x ≤ 9223372036854775807) (hbr : ∀ x ∈ r, -9223372036854775808 ≤ x ∧ x ≤ 9223372036854775807) :
    Ret Try.prog 4 #[.int .i64 parts, .slice A l.length c, .slice B r.length d] w fun v w' => v = .bool true ∧ Below w.heap.size w w' := by
  refine s4 _ _ _ ?_
  unfold m4 m4_0
  unfold m4_1
  refine callR (by kernel_rfl) (some_ret A c l w hc) ?_
  rintro v w ⟨rfl, rfl⟩
  refine callR (by kernel_rfl) (some_ret B d r w hd) ?_
  rintro v w ⟨rfl, rfl⟩
  have hS := St.start w
  have hr := Rd.take_ints hr 70
  have hrr := Rd.take_ints hrr 70
  have hb : ∀ x ∈ l.take 70, -9223372036854775808 ≤ x ∧ x ≤ 9223372036854775807 := fun x hx => hb x (List.mem_of_mem_take hx)
  have hbr : ∀ x ∈ r.take 70, -9223372036854775808 ≤ x ∧ x ≤ 9223372036854775807 := fun x hx => hbr x (List.mem_of_mem_take hx)
  have hl : (l.take 70).length ≤ 70 := by rw [List.length_take]; omega
  have hl2 : (r.take 70).length ≤ 70 := by rw [List.length_take]; omega
  generalize l.take 70 = l at hr hl hb ⊢
  generalize r.take 70 = r at hrr hl2 hbr ⊢
  have hspec := membersL_spec l
  have hMl : (membersL l).length ≤ 1000 := by have := membersL_len l; omega
  have hMb : ∀ x ∈ membersL l, -9223372036854775808 ≤ x ∧ x ≤ 9223372036854775807 := fun x hx => hb x ((hspec.2 x).1 hx).1
  have hS := hS.row_nil 3 1
  unfold m4_2
  unfold m4_3
  refine append_any (l0 := []) 0 (by simp) (by omega) hS rfl (hr.old0 hS) hz ?_
  intro A1 c1 w1 hS
  simp only [List.set_cons_zero, List.nil_append] at hS ⊢
  have hS := hS.row_nil 3 1
  unfold m4_4
  refine append_any (l0 := []) 0 (by simp) (by omega) hS rfl (hrr.old0 hS) hzr ?_
  intro A2 c2 w2 hS
  simp only [List.set_cons_zero, List.nil_append] at hS ⊢
  unfold m4_5
  refine callR (by kernel_rfl) (sticky_ret hp hp' hS (Bes.of_old0 hr) (Bes.of_old0 hrr) (by omega) hb hbr) ?_
  intro v w3 hv
  have fin : ∀ (a : List Int) (n : Int) (A3 A4 : Option Addr) (c3 c4 : Nat) (L : List Res) (w : World) (i j p q : Nat), a.length ≤ 1000 → St _ [] w L → Bes _ [] L 1 A3 a.length (ints a) → Bes _ [] L 1 A4 a.length (ints a) → Bes _ [] L 1 A1 l.length (ints l) → Bes _ [] L 1 A2 r.length (ints r) →
      m4_7 (fun v w' => v = .bool true ∧ Below _ _ w') (.slice A l.length c) (.slice B r.length d) (.slice A1 l.length c1) (.slice A2 r.length c2) (.slice A3 a.length c3) (.int .i64 n) (.slice A4 a.length c4) (.int .i64 n) w := fun a n A3 A4 c3 c4 L w i j p q hal hS h3 h4 h1 h2 => by
    unfold m4_7
    refine callR (by kernel_rfl) (same_ret (a := a) (b := a) (by omega) hS h3 h4) ?_
    rintro v w ⟨rfl, hS⟩
    refine cond_dt rfl ?_
    refine valP_ok (eq3 _ _ _ _ _) ?_
    refine pick_dt rfl ?_
    refine cond_dt rfl ?_
    refine callR (by kernel_rfl) (same_ret (a := l) (b := l) (by omega) hS (Bes.of_old0 hr) h1) ?_
    rintro v w ⟨rfl, hS⟩
    refine pick_dt rfl ?_
    refine cond_dt rfl ?_
    refine callR (by kernel_rfl) (same_ret (a := r) (b := r) (by omega) hS (Bes.of_old0 hrr) h2) ?_
    rintro v w ⟨rfl, hS⟩
    refine pick_dt rfl ?_
    refine cond_dt rfl ?_
    refine callR (by kernel_rfl) (awake_ret hS) ?_
    rintro v w ⟨rfl, hS⟩
    refine pick_dt rfl ?_
    unfold m4_8
    exact ⟨rfl, hS.below⟩
  by_cases hbad : badParts parts
  · rw [if_pos hbad] at hv
    obtain ⟨rfl, hS⟩ := hv
    refine valP_ok (extract_ok _ 0 rfl _) ?_
    refine valP_ok (extract_ok _ 1 rfl _) ?_
    unfold m4_6
    refine callR (by kernel_rfl) (rsticky_ret hS (Bes.of_row 1 rfl) (Bes.of_row 0 rfl) (by omega) hb) ?_
    intro v w4 hv
    rw [if_pos hbad] at hv
    obtain ⟨rfl, hS⟩ := hv
    refine valP_ok (extract_ok _ 0 rfl _) ?_
    refine valP_ok (extract_ok _ 1 rfl _) ?_
    exact fin [] 1 none none 0 0 _ _ 0 0 0 0 (by simp) hS (Bes.of_old0 (Rd.nil_ _ _ _)) (Bes.of_old0 (Rd.nil_ _ _ _)) (Bes.of_row 1 rfl) (Bes.of_row 0 rfl)
  · have hlen := stickyL_len (old := r) hbad hspec.1 hMl hMb
    have hp64 : parts.toNat ≤ 64 := by unfold badParts at hbad; omega
    rw [if_neg hbad] at hv
    obtain ⟨A3, c3, rfl, hS⟩ := hv
    refine valP_ok (extract_ok _ 0 rfl _) ?_
    refine valP_ok (extract_ok _ 1 rfl _) ?_
    unfold m4_6
    refine callR (by kernel_rfl) (rsticky_ret hS (Bes.of_row 2 rfl) (Bes.of_row 1 rfl) (by omega) hb) ?_
    intro v w4 hv
    rw [if_neg hbad] at hv
    obtain ⟨A4, c4, rfl, hS⟩ := hv
    refine valP_ok (extract_ok _ 0 rfl _) ?_
    refine valP_ok (extract_ok _ 1 rfl _) ?_
    exact fin (stickyL parts (membersL l) r) 0 A3 A4 c3 c4 _ _ 0 0 0 0 (by omega) hS (Bes.of_row 1 rfl) (Bes.of_row 0 rfl) (Bes.of_row 3 rfl) (Bes.of_row 2 rfl)

end Go.Proofs.Ytlgafiekogajfaa.M
