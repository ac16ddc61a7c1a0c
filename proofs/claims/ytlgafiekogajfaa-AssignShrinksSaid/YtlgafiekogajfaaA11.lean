/- In which order members are named, and how often, is of no matter. -/
import Derived.Test.YtlgafiekogajfaaA10
namespace Go.Proofs.Ytlgafiekogajfaa.M
open Go.Proofs.Ytlgafiekogajfaa.F Go.RowKit
set_option linter.unusedVariables false
set_option linter.unusedSimpArgs false
set_option maxRecDepth 100000
set_option maxHeartbeats 2000000
attribute [local irreducible] Res.cells Res.row Res.map Res.any World.cell? World.frozen? Instr.fieldAt Instr.loadAt Instr.storeAt Instr.indexAt Instr.lookup Instr.mapUpdate Instr.box Instr.build Instr.buildSlice Instr.extract Instr.alloc Instr.field Instr.index Instr.sliceAt Instr.makeSlice Instr.makeMap Instr.makeFunc binS Op.unary Sem.run
open Go.Proofs.Ytlgafiekogajfaa.L Go.Shelf
theorem order_ret {w : World} {A B : Option Addr} {c d : Nat} {l r : List Int} {parts more : Int} (hp : -9223372036854775808 ≤ parts) (hp' : parts ≤ 9223372036854775807) (hmr : -9223372036854775808 ≤ more) (hmr' : more ≤ 9223372036854775807) (hc : l.length ≤ c) (hd : r.length ≤ d) (hr : Rd w 1 A l.length (ints l)) (hrr : Rd w 1 B r.length (ints r))
    (hb : ∀ x ∈ l, -9223372036854775808 ≤ x ∧ x ≤ 9223372036854775807) (hbr : ∀ x ∈ r, -9223372036854775808 ≤ x ∧ x ≤ 9223372036854775807) :
    Ret Try.prog 9 #[.int .i64 parts, .slice A l.length c, .slice B r.length d, .int .i64 more] w fun v w' => v = .bool true ∧ Below w.heap.size w w' := by
  refine s9 _ _ _ _ ?_
  unfold m9 m9_0
  unfold m9_1
  refine callR (by kernel_rfl) (some_ret A c l w hc) ?_
  rintro v w ⟨rfl, rfl⟩
  refine callR (by kernel_rfl) (some_ret B d r w hd) ?_
  rintro v w ⟨rfl, rfl⟩
  have hS := St.start w
  have hr := Rd.take_ints hr 70
  have hrr := Rd.take_ints hrr 70
  have hb : ∀ x ∈ l.take 70, -9223372036854775808 ≤ x ∧ x ≤ 9223372036854775807 := fun x hx => hb x (List.mem_of_mem_take hx)
  have hbr : ∀ x ∈ r.take 70, -9223372036854775808 ≤ x ∧ x ≤ 9223372036854775807 := fun x hx => hbr x (List.mem_of_mem_take hx)
  have hl : (l.take 70).length ≤ 70 := by rw [List.length_take]; omega
  have hl2 : (r.take 70).length ≤ 70 := by rw [List.length_take]; omega
  generalize l.take 70 = l at hr hl hb ⊢
  generalize r.take 70 = r at hrr hl2 hbr ⊢
  have hspec := membersL_spec l
  have hMl : (membersL l).length ≤ 1000 := by have := membersL_len l; omega
  have hMb : ∀ x ∈ membersL l, -9223372036854775808 ≤ x ∧ x ≤ 9223372036854775807 := fun x hx => hb x ((hspec.2 x).1 hx).1
  have hS := hS.row_nil 3 1
  unfold m9_2
  unfold m9_3
  refine builtin_ok (len22 _) ?_
  refine valP_ok (sub_ok _ _ _ (by omega) (by omega) _) ?_
  unfold m9_12
  refine loop_in (fun s w' => ∃ q : Nat, ∃ t : List Int, ∃ A' c', s = (.slice A' t.length c', .int .i64 ((q : Int) - 1)) ∧ q ≤ l.length ∧ t.length ≤ 2 * (l.length - q) ∧ (∀ x, x ∈ t ↔ x ∈ l.drop q) ∧ St _ [] w' (irow (.slice A' t.length c') t :: []))
    (fun s _ => (intOf s.2 + 1).toNat) ⟨l.length, [], none, 0, rfl, by omega, by simp, by simp, hS⟩ ?_
  clear hS
  rintro s w1 ⟨q, t, A1, c1, rfl, hq, htl, htm, hS⟩
  unfold m9_13
  refine valP_ok (geq_ok _ _ _ _ _ _ _) ?_
  unfold m9_17
  refine cond_split (fun h => ?_) (fun h => ?_)
  · obtain ⟨k, rfl⟩ : ∃ k, q = k + 1 := ⟨q - 1, by omega⟩
    have ek : ((k + 1 : Nat) : Int) - 1 = (k : Int) := by omega
    rw [ek]
    have hlt : k < l.length := by omega
    have hro := hr.old0 hS
    obtain ⟨g, o, rfl⟩ := hro.some_ (by omega) (by omega)
    have hc := hro.cell_ (ints_get hlt)
    unfold m9_14
    refine valP_ok (ix22 hlt _) ?_
    first | refine valP_ok (ld3 (hS.cell 0 rfl rfl)) ?_ | refine valP_ok (ld3 (hS.cell 1 rfl rfl)) ?_ | refine valP_ok (ld3 (hS.cell 2 rfl rfl)) ?_ | refine valP_ok (ld3 (hS.cell 3 rfl rfl)) ?_ | refine valP_ok (ld3 (hS.cell 4 rfl rfl)) ?_ | refine valP_ok (ld3 (by assumption)) ?_
    refine newslice_ok (bs22_1 rfl _) hS ?_
    intro b35 w hS
    refine append_one 0 (by omega) hS rfl ?_
    intro A2 c2 w2 hS
    simp only [List.set_cons_zero] at hS
    have hc := (hr.old0 hS).cell_ (ints_get hlt)
    unfold m9_16
    refine valP_ok (ix22 hlt _) ?_
    first | refine valP_ok (ld3 (hS.cell 0 rfl rfl)) ?_ | refine valP_ok (ld3 (hS.cell 1 rfl rfl)) ?_ | refine valP_ok (ld3 (hS.cell 2 rfl rfl)) ?_ | refine valP_ok (ld3 (hS.cell 3 rfl rfl)) ?_ | refine valP_ok (ld3 (hS.cell 4 rfl rfl)) ?_ | refine valP_ok (ld3 (by assumption)) ?_
    refine newslice_ok (bs22_1 rfl _) hS ?_
    intro b42 w hS
    refine append_one 0 (by simp; omega) hS rfl ?_
    intro A3 c3 w3 hS
    simp only [List.set_cons_zero] at hS
    unfold m9_15
    refine valP_ok (sub_ok _ _ _ (by omega) (by omega) _) ?_
    refine ⟨⟨k, _, A3, c3, rfl, by omega, by simp; omega, fun x => ?_, hS⟩, by simp [intOf] <;> omega⟩
    rw [List.drop_eq_getElem_cons hlt]
    simp only [List.mem_append, List.mem_singleton, List.mem_cons, List.not_mem_nil, or_false, htm x]
    constructor
    · rintro ((h | h) | h)
      · exact .inr h
      · exact .inl h
      · exact .inl h
    · rintro (h | h)
      · exact .inr h
      · exact .inl (.inl h)
  have hq0 : q = 0 := by omega
  subst hq0
  rw [List.drop_zero] at htm
  have fin : ∀ (t : List Int) (A1 : Option Addr) (c1 : Nat) (w1 : World), t.length ≤ 1000 → (∀ x ∈ t, -9223372036854775808 ≤ x ∧ x ≤ 9223372036854775807) → membersL t = membersL l → St w [] w1 (irow (.slice A1 t.length c1) t :: []) →
      m9_5 (fun v w' => v = .bool true ∧ Below w.heap.size w w') (.int .i64 parts) (.slice A l.length c) (.slice B r.length d) (.slice A1 t.length c1) w1 := fun t A1 c1 w1 htl htb htm hS => by
    have fin2 : ∀ (a b : List Int) (n : Int) (A3 A4 A5 A6 : Option Addr) (c3 c4 c5 c6 : Nat) (L : List Res) (w1 : World), a.length ≤ 1000000 → b.length ≤ 1000000 → St w [] w1 L → Bes w [] L 1 A3 a.length (ints a) → Bes w [] L 1 A4 a.length (ints a) → Bes w [] L 1 A5 b.length (ints b) → Bes w [] L 1 A6 b.length (ints b) →
        m9_9 (fun v w' => v = .bool true ∧ Below w.heap.size w w') (.slice A3 a.length c3) (.int .i64 n) (.slice A4 a.length c4) (.int .i64 n) (.slice A5 b.length c5) (.int .i64 n) (.slice A6 b.length c6) (.int .i64 n) w1 := fun a b n A3 A4 A5 A6 c3 c4 c5 c6 L w1 ha hb' hS h3 h4 h5 h6 => by
      unfold m9_9
      refine callR (by kernel_rfl) (same_ret (a := a) (b := a) ha hS h3 h4) ?_
      rintro v w2 ⟨rfl, hS⟩
      refine cond_dt rfl ?_
      refine valP_ok (eq24 _ _ _ _ _) ?_
      refine pick_dt rfl ?_
      refine cond_dt rfl ?_
      refine callR (by kernel_rfl) (same_ret (a := b) (b := b) hb' hS h5 h6) ?_
      rintro v w3 ⟨rfl, hS⟩
      refine pick_dt rfl ?_
      refine cond_dt rfl ?_
      refine valP_ok (eq24 _ _ _ _ _) ?_
      refine pick_dt rfl ?_
      refine cond_dt rfl ?_
      refine callR (by kernel_rfl) (awake_ret hS) ?_
      rintro v w4 ⟨rfl, hS⟩
      refine pick_dt rfl ?_
      unfold m9_10
      exact ⟨rfl, hS.below⟩
    unfold m9_5
    refine callR (by kernel_rfl) (range_ret hp hp' hS (Bes.of_old0 hr) (by omega) hb) ?_
    intro v w2 hv
    by_cases hbad : badParts parts
    · rw [if_pos hbad] at hv
      obtain ⟨rfl, hS⟩ := hv
      refine valP_ok (extract_ok _ 0 rfl _) ?_
      refine valP_ok (extract_ok _ 1 rfl _) ?_
      unfold m9_6
      refine callR (by kernel_rfl) (range_ret hp hp' hS (Bes.of_row 0 rfl) htl htb) ?_
      intro v w3 hv
      rw [if_pos hbad] at hv
      obtain ⟨rfl, hS⟩ := hv
      refine valP_ok (extract_ok _ 0 rfl _) ?_
      refine valP_ok (extract_ok _ 1 rfl _) ?_
      unfold m9_7
      refine callR (by kernel_rfl) (sticky_ret hp hp' hS (Bes.of_old0 hr) (Bes.of_old0 hrr) (by omega) hb hbr) ?_
      intro v w4 hv
      rw [if_pos hbad] at hv
      obtain ⟨rfl, hS⟩ := hv
      refine valP_ok (extract_ok _ 0 rfl _) ?_
      refine valP_ok (extract_ok _ 1 rfl _) ?_
      unfold m9_8
      refine callR (by kernel_rfl) (sticky_ret hp hp' hS (Bes.of_row 0 rfl) (Bes.of_old0 hrr) htl htb hbr) ?_
      intro v w5 hv
      rw [if_pos hbad] at hv
      obtain ⟨rfl, hS⟩ := hv
      refine valP_ok (extract_ok _ 0 rfl _) ?_
      refine valP_ok (extract_ok _ 1 rfl _) ?_
      exact fin2 [] [] 1 none none none none 0 0 0 0 _ _ (by simp) (by simp) hS (Bes.of_old0 (Rd.nil_ _ _ _)) (Bes.of_old0 (Rd.nil_ _ _ _)) (Bes.of_old0 (Rd.nil_ _ _ _)) (Bes.of_old0 (Rd.nil_ _ _ _))
    · have hlen := stickyL_len (old := r) hbad hspec.1 hMl hMb
      have hlen2 := rangeL_len hbad hMl
      have hp64 : parts.toNat ≤ 64 := by unfold badParts at hbad; omega
      rw [if_neg hbad] at hv
      obtain ⟨B1, d1, rfl, hS⟩ := hv
      refine valP_ok (extract_ok _ 0 rfl _) ?_
      refine valP_ok (extract_ok _ 1 rfl _) ?_
      unfold m9_6
      refine callR (by kernel_rfl) (range_ret hp hp' hS (Bes.of_row 1 rfl) htl htb) ?_
      intro v w3 hv
      rw [if_neg hbad, htm] at hv
      obtain ⟨B2, d2, rfl, hS⟩ := hv
      refine valP_ok (extract_ok _ 0 rfl _) ?_
      refine valP_ok (extract_ok _ 1 rfl _) ?_
      unfold m9_7
      refine callR (by kernel_rfl) (sticky_ret hp hp' hS (Bes.of_old0 hr) (Bes.of_old0 hrr) (by omega) hb hbr) ?_
      intro v w4 hv
      rw [if_neg hbad] at hv
      obtain ⟨B3, d3, rfl, hS⟩ := hv
      refine valP_ok (extract_ok _ 0 rfl _) ?_
      refine valP_ok (extract_ok _ 1 rfl _) ?_
      unfold m9_8
      refine callR (by kernel_rfl) (sticky_ret hp hp' hS (Bes.of_row 3 rfl) (Bes.of_old0 hrr) htl htb hbr) ?_
      intro v w5 hv
      rw [if_neg hbad, htm] at hv
      obtain ⟨B4, d4, rfl, hS⟩ := hv
      refine valP_ok (extract_ok _ 0 rfl _) ?_
      refine valP_ok (extract_ok _ 1 rfl _) ?_
      exact fin2 (rangeL parts (membersL l)) (stickyL parts (membersL l) r) 0 B1 B2 B3 B4 d1 d2 d3 d4 _ _ hlen2 (by omega) hS (Bes.of_row 3 rfl) (Bes.of_row 2 rfl) (Bes.of_row 1 rfl) (Bes.of_row 0 rfl)
  unfold m9_4
  refine valP_ok (leq_ok _ _ _ _ _ _ _) ?_
  unfold m9_11
  refine cond_split (fun hm => ?_) (fun hm => ?_)
  · refine newslice_ok (bs22_1 rfl _) hS ?_
    intro b48 w hS
    refine append_one 0 (by omega) hS rfl ?_
    intro A2 c2 w2 hS
    simp only [List.set_cons_zero] at hS
    refine fin _ A2 c2 w2 (by simp; omega) (fun x hx => ?_) ?_ hS
    · rcases List.mem_append.1 hx with hx | hx
      · exact hb x ((htm x).1 hx)
      · obtain rfl := List.mem_singleton.1 hx
        exact ⟨hmr, hmr'⟩
    · refine membersL_of hspec.1 fun x => ?_
      rw [hspec.2 x]
      simp only [List.mem_append, List.mem_singleton, htm x]
      constructor
      · rintro ⟨h1, h2⟩; exact ⟨.inl h1, h2⟩
      · rintro ⟨h1 | h1, h2⟩
        · exact ⟨h1, h2⟩
        · omega
  · refine fin _ A1 c1 w1 (by omega) (fun x hx => hb x ((htm x).1 hx)) ?_ hS
    refine membersL_of hspec.1 fun x => ?_
    rw [hspec.2 x, htm x]

end Go.Proofs.Ytlgafiekogajfaa.M
