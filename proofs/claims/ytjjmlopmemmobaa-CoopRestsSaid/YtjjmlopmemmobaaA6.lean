/- The document's own answer: members, and what lies side by side. -/
import Derived.Test.YtjjmlopmemmobaaA5
namespace Go.Proofs.Ytjjmlopmemmobaa.M
open Go.Proofs.Ytjjmlopmemmobaa.F Go.RowKit
set_option linter.unusedVariables false
set_option linter.unusedSimpArgs false
set_option maxRecDepth 100000
set_option maxHeartbeats 2000000
attribute [local irreducible] Res.cells Res.row Res.map Res.any World.cell? World.frozen? Instr.fieldAt Instr.loadAt Instr.storeAt Instr.indexAt Instr.lookup Instr.mapUpdate Instr.box Instr.build Instr.buildSlice Instr.extract Instr.alloc Instr.field Instr.index Instr.sliceAt Instr.makeSlice Instr.makeMap Instr.makeFunc binS Op.unary Sem.run
open Go.Proofs.Ytjjmlopmemmobaa.L Go.Shelf
theorem append_none_ok {P : Program} {w0 w : World} {F : List Nat} {L : List Res} {K : Value → World → Prop} (k : Nat) {t e ty size bytes n : Nat} {z : Value} {v : Value} {cs : Array Bool} {xs : List Value} (hT : SlT P t e size bytes z) (hS : St w0 F w L) (hk : L[k]? = some (Res.row e size v n xs))
    (h : K v w) : builtinP P .append #[t, t] ty cs #[v, .slice none 0 0] w K := by
  obtain ⟨i, hi, hz, hs, hb⟩ := hT.parts
  exact builtin_ok (append_run (run_append_owned_none w 0 t ty e i size hT.1 hi v n xs (hS.own_row k hk))) h
theorem Rd.drop_ints {w : World} {A : Option Addr} {c : Nat} {l : List Int} (h : Rd w 1 A l.length (ints l)) {k : Nat} (hk : k ≤ l.length) (hc : l.length ≤ c) : Rd w 1 (if c = k then A else A.map (·.add k)) (l.drop k).length (ints (l.drop k)) := by
  refine ⟨by simp, fun hp => ?_⟩
  have hp' : 0 < l.length - k := by simpa using hp
  obtain ⟨g, o, hA, hcell⟩ := h.2 (by simp; omega)
  subst hA
  rw [if_neg (by omega)]
  refine ⟨g, o + k, by simp [add_none], fun j u hj => ?_⟩
  rw [Nat.add_assoc]
  refine hcell _ _ ?_
  have e : ints (l.drop k) = (ints l).drop k := by simp [ints, List.map_drop]
  rw [e, List.getElem?_drop] at hj
  exact hj
theorem append_drop {K : Value → World → Prop} {w0 w : World} {F : List Nat} {L : List Res} {cs : Array Bool} {A A2 : Option Addr} {c c2 k : Nat} {l out : List Int} (p q : Nat) (hl : l.length ≤ 100000) (ho : out.length ≤ 100000) (hS : St w0 F w L) (hp : L[p]? = some (irow (.slice A l.length c) l)) (hq : L[q]? = some (irow (.slice A2 out.length c2) out)) (hk : k ≤ out.length)
    (h : ∀ A' c' w', St w0 F w' (L.set p (irow (.slice A' (l ++ out.drop k).length c') (l ++ out.drop k))) → K (.slice A' (l ++ out.drop k).length c') w') :
    builtinP Try.prog .append #[28, 28] 28 cs #[.slice A l.length c, .slice (if c2 = k then A2 else A2.map (·.add k)) (out.length - k) (c2 - k)] w K := by
  have hcap := hS.row_max q hq
  have hself : St w0 F w (L.set p (irow (.slice A l.length c) l)) := by
    obtain ⟨hlt, he⟩ := List.getElem?_eq_some_iff.1 hp
    rw [← he, List.set_getElem_self]
    exact hS
  have hlen : (l ++ out.drop k).length = l.length + (out.length - k) := by simp
  have hints : ints l ++ ints (out.drop k) = ints (l ++ out.drop k) := by simp [ints]
  by_cases hck : c2 = k
  · have ed : out.drop k = [] := List.drop_eq_nil_of_le (by omega)
    have e0 : out.length - k = 0 := by omega
    rw [if_pos hck, e0]
    rw [ed, List.append_nil] at h
    rcases (hS.own_row q hq).2 with ⟨hv, h0⟩ | ⟨g2, cap, cur, hv, _⟩
    · injection hv with q1 q2 q3
      subst q1
      have : c2 - k = 0 := by omega
      rw [this]
      exact append_none_ok p sl28 hS hp (h _ _ _ hself)
    · injection hv with q1 q2 q3
      subst q1
      refine append_ok p sl28 hS hp (m := 0) (news := []) rfl (fun j u hj => by simp at hj) (by simp) (by unfold maxLen; omega) (by omega) ?_
      intro A4 c4 w' hS'
      rw [Nat.add_zero, List.append_nil] at hS'
      rw [Nat.add_zero]
      exact h _ _ _ hS'
  · rcases (hS.own_row q hq).2 with ⟨hv, h0⟩ | ⟨g2, cap, cur, hv, _⟩
    · injection hv with q1 q2 q3
      omega
    · injection hv with q1 q2 q3
      subst q1
      have hR := Rd.drop_ints (hS.row_rd q hq) hk hcap.1
      rw [if_neg hck] at hR ⊢
      have e1 : (out.drop k).length = out.length - k := by simp
      rw [e1] at hR
      refine append_rd p sl28 hS hp hR rfl (fun u hu => ?_) (by unfold maxLen; omega) (by omega) ?_
      · obtain ⟨x, _, rfl⟩ := List.mem_map.1 hu
        rfl
      intro A4 c4 w' hS'
      rw [hints, ← hlen] at hS'
      rw [← hlen]
      exact h _ _ _ hS'
theorem ins_ok {out : List Int} {x : Int} {k k' : Nat} (hr : out.Pairwise (· < ·)) (hk : k ≤ out.length) (hb : ∀ t ∈ out.take k, t < x) (hn : ∀ h : k < out.length, x ≤ out[k])
    (hk' : (k' = k ∧ ∀ h : k < out.length, out[k] ≠ x) ∨ (∃ h : k < out.length, out[k] = x ∧ k' = k + 1)) :
    (out.take k ++ [x] ++ out.drop k').Pairwise (· < ·) ∧ ∀ y, y ∈ out.take k ++ [x] ++ out.drop k' ↔ y ∈ out ∨ y = x := by
  have hgt : ∀ t ∈ out.drop k', x < t := fun t ht => by
    obtain ⟨j, hj, rfl⟩ := List.mem_iff_getElem.1 ht
    rw [List.length_drop] at hj
    rw [List.getElem_drop]
    have hlt : k < out.length := by rcases hk' with ⟨rfl, _⟩ | ⟨h, _, rfl⟩ <;> omega
    have hx := hn hlt
    by_cases e : k' + j = k
    · rcases hk' with ⟨rfl, h⟩ | ⟨h, _, rfl⟩
      · have := h hlt
        simp only [e]
        omega
      · omega
    · have := (List.pairwise_iff_getElem.1 hr) k (k' + j) hlt (by omega) (by rcases hk' with ⟨rfl, _⟩ | ⟨h, _, rfl⟩ <;> omega)
      omega
  refine ⟨?_, fun y => ?_⟩
  · refine List.pairwise_append.2 ⟨List.pairwise_append.2 ⟨hr.sublist (List.take_sublist _ _), by simp, fun a ha b hb' => ?_⟩, hr.sublist (List.drop_sublist _ _), fun a ha b hb' => ?_⟩
    · obtain rfl := List.mem_singleton.1 hb'
      exact hb a ha
    · have hbx := hgt b hb'
      rcases List.mem_append.1 ha with ha | ha
      · have := hb a ha; omega
      · obtain rfl := List.mem_singleton.1 ha
        exact hbx
  · have e : ∀ y, y ∈ out ↔ y ∈ out.take k ∨ y ∈ out.drop k := fun y => by rw [← List.mem_append, List.take_append_drop]
    rw [e y]
    simp only [List.mem_append, List.mem_singleton]
    rcases hk' with ⟨rfl, _⟩ | ⟨h, hx, rfl⟩
    · constructor
      · rintro ((h | h) | h)
        · exact .inl (.inl h)
        · exact .inr h
        · exact .inl (.inr h)
      · rintro ((h | h) | h)
        · exact .inl (.inl h)
        · exact .inr h
        · exact .inl (.inr h)
    · rw [List.drop_eq_getElem_cons h, List.mem_cons, hx]
      constructor
      · rintro ((h | h) | h)
        · exact .inl (.inl h)
        · exact .inr h
        · exact .inl (.inr (.inr h))
      · rintro ((h | h | h) | h)
        · exact .inl (.inl h)
        · exact .inl (.inr h)
        · exact .inr h
        · exact .inl (.inr h)
theorem mem_leaf {w0 w : World} {F : List Nat} {L : List Res} {R : Value → World → Prop} {K1 K2 : Value × Value → World → Prop} {A A2 A3 : Option Addr} {c c2 c3 i k : Nat} {l out : List Int} {t : Bool} (hi : i < l.length) (hil : l.length ≤ 1000) (ho : out.length ≤ 1000) (hk : k ≤ out.length)
    (hI : Bes w0 F L 1 A l.length (ints l)) (ht : t = true → ∃ h : k < out.length, out[k] < l[i])
    (hS : St w0 F w (irow (.slice A3 (out.take k).length c3) (out.take k) :: irow (.slice A2 out.length c2) out :: L))
    (hK2 : (∃ h : k < out.length, out[k] < l[i]) → ∀ A3 c3 w, St w0 F w (irow (.slice A3 (out.take (k + 1)).length c3) (out.take (k + 1)) :: irow (.slice A2 out.length c2) out :: L) → K2 (.slice A3 (out.take (k + 1)).length c3, .int .i64 ((k + 1 : Nat) : Int)) w)
    (hK1 : t = false → ∀ k', ((k' = k ∧ ∀ h : k < out.length, out[k] ≠ l[i]) ∨ (∃ h : k < out.length, out[k] = l[i] ∧ k' = k + 1)) → ∀ A3 c3 w, St w0 F w (irow (.slice A3 (out.take k ++ [l[i]] ++ out.drop k').length c3) (out.take k ++ [l[i]] ++ out.drop k') :: L) → K1 (.slice A3 (out.take k ++ [l[i]] ++ out.drop k').length c3, .int .i64 ((i + 1 : Nat) : Int)) w) :
    m63_20 R K1 K2 (.slice A l.length c) (.slice A2 out.length c2) (.int .i64 i) (.slice A3 (out.take k).length c3) (.int .i64 k) (.bool t) w := by
  have hlen : (out.take k).length = k := by rw [List.length_take]; omega
  unfold m63_20
  refine cond_bsplit (fun h => ?_) (fun h => ?_)
  · obtain ⟨hlt, hx⟩ := ht h
    obtain ⟨g, rfl⟩ := hS.row_ptr 1 rfl (by omega)
    have h0 := hS.row_cell 1 rfl (ints_get hlt)
    unfold m63_18
    refine valP_ok (ixz28 hlt _) ?_
    first | refine valP_ok (ld3 (hS.cell 0 rfl rfl)) ?_ | refine valP_ok (ld3 (hS.cell 1 rfl rfl)) ?_ | refine valP_ok (ld3 (hS.cell 2 rfl rfl)) ?_ | refine valP_ok (ld3 (hS.cell 3 rfl rfl)) ?_ | refine valP_ok (ld3 (hS.cell 4 rfl rfl)) ?_ | refine valP_ok (ld3 (by assumption)) ?_
    refine newslice_ok (bs28_1 rfl _) hS ?_
    intro b38 w hS
    refine append_one 0 (by omega) hS rfl ?_
    intro A' c' w hS
    simp only [List.set_cons_zero] at hS
    have e : out.take k ++ [out[k]] = out.take (k + 1) := (List.take_succ_eq_append_getElem hlt).symm
    rw [e] at hS ⊢
    unfold m63_19
    refine valP_ok (add_ok _ _ _ (by omega) (by omega) _) ?_
    exact hK2 ⟨hlt, hx⟩ _ _ _ hS
  · have hr : Rd w 1 A l.length (ints l) := hI.rd2 hS
    obtain ⟨g, o, rfl⟩ := hr.some_ (by omega) (by omega)
    have hc := hr.cell_ (ints_get hi)
    unfold m63_12
    refine valP_ok (ix28 hi _) ?_
    first | refine valP_ok (ld3 (hS.cell 0 rfl rfl)) ?_ | refine valP_ok (ld3 (hS.cell 1 rfl rfl)) ?_ | refine valP_ok (ld3 (hS.cell 2 rfl rfl)) ?_ | refine valP_ok (ld3 (hS.cell 3 rfl rfl)) ?_ | refine valP_ok (ld3 (hS.cell 4 rfl rfl)) ?_ | refine valP_ok (ld3 (by assumption)) ?_
    refine newslice_ok (bs28_1 rfl _) hS ?_
    intro b47 w hS
    refine append_one 0 (by omega) hS rfl ?_
    intro A' c' w hS
    simp only [List.set_cons_zero] at hS
    clear hr hc
    have fin : ∀ k', ((k' = k ∧ ∀ h : k < out.length, out[k] ≠ l[i]) ∨ (∃ h : k < out.length, out[k] = l[i] ∧ k' = k + 1)) → ∀ w, St w0 F w (irow (.slice A' (out.take k ++ [l[i]]).length c') (out.take k ++ [l[i]]) :: irow (.slice A2 out.length c2) out :: L) →
        m63_14 R K1 (.slice (some ⟨g, o, none⟩) l.length c) (.slice A2 out.length c2) (.int .i64 i) (.slice A' (out.take k ++ [l[i]]).length c') (.int .i64 k') w := fun k' hk' w hS => by
      have hcap := hS.row_max 1 rfl
      have hkl : k' ≤ out.length := by rcases hk' with ⟨rfl, _⟩ | ⟨h, _, rfl⟩ <;> omega
      unfold m63_14
      refine valP_ok (so28 hkl hcap.1 _) ?_
      refine append_drop 0 1 (by simp; omega) (by omega) hS rfl rfl hkl ?_
      intro A5 c5 w hS
      simp only [List.set_cons_zero] at hS
      unfold m63_15
      unfold m63_8
      refine valP_ok (add_ok _ _ _ (by omega) (by omega) _) ?_
      exact hK1 h k' hk' _ _ _ (hS.perm (.swap _ _ _)).tail
    unfold m63_13
    refine builtinQ_ok (len28) ?_
    refine valQ_ok (lss_ok _ _ _ _ _ _) ?_
    refine cond_split (fun hc => ?_) (fun hc => ?_)
    · have hlt : k < out.length := by omega
      have hr : Rd w 1 (some ⟨g, o, none⟩) l.length (ints l) := hI.rd2 hS
      have hc1 := hr.cell_ (ints_get hi)
      obtain ⟨g2, rfl⟩ := hS.row_ptr 1 rfl (by omega)
      have h0 := hS.row_cell 1 rfl (ints_get hlt)
      refine valQ_ok (ixz28 hlt) ?_
      refine valQ_load ld3 h0 ?_
      refine valQ_ok (ix28 hi) ?_
      refine valQ_load ld3 hc1 ?_
      refine valQ_ok (eq3 _ _ _ _) ?_
      first | refine pick_dt (by first | assumption | omega) ?_ | refine pick_df (by first | assumption | omega) ?_ | refine pick_t (by first | rfl | assumption) ?_ | refine pick_f (by first | rfl | assumption) ?_ | refine pick_dt rfl ?_ | refine pick_df (not_not_intro rfl) ?_
      refine drawn_ok hS ?_
      intro w hS
      unfold m63_16
      refine cond_split (fun he => ?_) (fun he => ?_)
      · refine valP_ok (add_ok _ _ _ (by omega) (by omega) _) ?_
        exact fin (k + 1) (.inr ⟨hlt, he, rfl⟩) _ hS
      · exact fin k (.inl ⟨rfl, fun _ => he⟩) _ hS
    · first | refine pick_dt (by first | assumption | omega) ?_ | refine pick_df (by first | assumption | omega) ?_ | refine pick_t (by first | rfl | assumption) ?_ | refine pick_f (by first | rfl | assumption) ?_ | refine pick_dt rfl ?_ | refine pick_df (not_not_intro rfl) ?_
      refine drawn_ok hS ?_
      intro w hS
      unfold m63_16
      refine cond_f rfl ?_
      exact fin k (.inl ⟨rfl, fun h => absurd h (by omega)⟩) _ hS
theorem members_ret {w0 w : World} {F : List Nat} {L : List Res} {A : Option Addr} {c : Nat} {l : List Int} (hl : l.length ≤ 1000) (hS : St w0 F w L) (hI : Bes w0 F L 1 A l.length (ints l)) :
    Ret Try.prog 63 #[.slice A l.length c] w fun v w' => ∃ A' c', v = .slice A' (membersL l).length c' ∧ St w0 F w' (irow (.slice A' (membersL l).length c') (membersL l) :: L) := by
  refine s63 _ ?_
  unfold m63
  unfold m63_0
  unfold m63_1
  unfold m63_2
  unfold m63_5
  have hS := hS.row_nil 3 1
  refine loop_in (fun s w' => ∃ i : Nat, ∃ out : List Int, ∃ A2 c2, s = (.slice A2 out.length c2, .int .i64 i) ∧ i ≤ l.length ∧ out.length ≤ i ∧ out.Pairwise (· < ·) ∧ (∀ x, x ∈ out ↔ x ∈ l.take i ∧ 0 < x) ∧ St w0 F w' (irow (.slice A2 out.length c2) out :: L))
    (fun s _ => l.length - (intOf s.2).toNat) ⟨0, [], none, 0, rfl, by omega, by simp, .nil, by simp, hS⟩ ?_
  clear hS
  rintro s w ⟨i, out, A2, c2, rfl, hi, hol, hr, hm, hS⟩
  unfold m63_6
  refine builtin_ok (len28 _) ?_
  refine valP_ok (lss_ok _ _ _ _ _ _ _) ?_
  unfold m63_22
  refine cond_split (fun h => ?_) (fun h => ?_)
  · have hlt : i < l.length := by omega
    have hR : Rd w 1 A l.length (ints l) := hI.rd1 hS
    obtain ⟨g, o, rfl⟩ := hR.some_ (by omega) (by omega)
    have hc := hR.cell_ (ints_get hlt)
    have etk : l.take (i + 1) = l.take i ++ [l[i]] := List.take_succ_eq_append_getElem hlt
    unfold m63_7
    first | refine valP_ok (ixz28 (by first | assumption | omega) _) ?_ | refine valP_ok (ix28 (by first | assumption | omega) _) ?_
    first | refine valP_ok (ld3 (hS.cell 0 rfl rfl)) ?_ | refine valP_ok (ld3 (hS.cell 1 rfl rfl)) ?_ | refine valP_ok (ld3 (hS.cell 2 rfl rfl)) ?_ | refine valP_ok (ld3 (hS.cell 3 rfl rfl)) ?_ | refine valP_ok (ld3 (hS.cell 4 rfl rfl)) ?_ | refine valP_ok (ld3 (by assumption)) ?_
    refine valP_ok (leq_ok _ _ _ _ _ _ _) ?_
    unfold m63_21
    refine cond_split (fun hx => ?_) (fun hx => ?_)
    · unfold m63_8
      refine valP_ok (add_ok _ _ _ (by omega) (by omega) _) ?_
      refine ⟨⟨i + 1, out, A2, c2, rfl, by omega, by omega, hr, fun x => ?_, hS⟩, by simp [intOf]; omega⟩
      rw [etk, hm x]
      simp only [List.mem_append, List.mem_singleton]
      constructor
      · rintro ⟨h1, h2⟩; exact ⟨.inl h1, h2⟩
      · rintro ⟨h1 | h1, h2⟩
        · exact ⟨h1, h2⟩
        · omega
    · have hS := hS.row_nil 3 1
      unfold m63_9
      unfold m63_10
      unfold m63_11
      refine loop_in (fun s w' => ∃ k : Nat, ∃ A3 c3, s = (.slice A3 (out.take k).length c3, .int .i64 k) ∧ k ≤ out.length ∧ (∀ t ∈ out.take k, t < l[i]) ∧ St w0 F w' (irow (.slice A3 (out.take k).length c3) (out.take k) :: irow (.slice A2 out.length c2) out :: L))
        (fun s _ => out.length - (intOf s.2).toNat) ⟨0, none, 0, rfl, by omega, by simp, hS⟩ ?_
      clear hS hR hc
      rintro s w ⟨k, A3, c3, rfl, hk, hb, hS⟩
      have hK1 : (∀ h : k < out.length, l[i] ≤ out[k]) → ∀ k', ((k' = k ∧ ∀ h : k < out.length, out[k] ≠ l[i]) ∨ (∃ h : k < out.length, out[k] = l[i] ∧ k' = k + 1)) →
          (out.take k ++ [l[i]] ++ out.drop k').length ≤ i + 1 ∧ (out.take k ++ [l[i]] ++ out.drop k').Pairwise (· < ·) ∧ (∀ x, x ∈ out.take k ++ [l[i]] ++ out.drop k' ↔ x ∈ l.take (i + 1) ∧ 0 < x) := fun hn k' hk' => by
        obtain ⟨p1, p2⟩ := ins_ok hr hk hb hn hk'
        refine ⟨?_, p1, fun x => ?_⟩
        · rcases hk' with ⟨rfl, _⟩ | ⟨h, _, rfl⟩ <;> simp <;> omega
        · rw [p2 x, hm x, etk]
          simp only [List.mem_append, List.mem_singleton]
          constructor
          · rintro (⟨h1, h2⟩ | h1)
            · exact ⟨.inl h1, h2⟩
            · exact ⟨.inr h1, by omega⟩
          · rintro ⟨h1 | h1, h2⟩
            · exact .inl ⟨h1, h2⟩
            · exact .inr h1
      have hK2 : (∃ h : k < out.length, out[k] < l[i]) → ∀ t ∈ out.take (k + 1), t < l[i] := fun ⟨hkk, e⟩ t ht => by
        rw [List.take_succ_eq_append_getElem hkk] at ht
        rcases List.mem_append.1 ht with ht | ht
        · exact hb t ht
        · obtain rfl := List.mem_singleton.1 ht
          exact e
      unfold m63_17
      refine builtinQ_ok (len28) ?_
      refine valQ_ok (lss_ok _ _ _ _ _ _) ?_
      refine cond_split (fun hc => ?_) (fun hc => ?_)
      · have hkk : k < out.length := by omega
        have hR : Rd w 1 (some ⟨g, o, none⟩) l.length (ints l) := hI.rd2 hS
        have hc1 := hR.cell_ (ints_get hlt)
        obtain ⟨g2, rfl⟩ := hS.row_ptr 1 rfl (by omega)
        have h0 := hS.row_cell 1 rfl (ints_get hkk)
        refine valQ_ok (ixz28 hkk) ?_
        refine valQ_load ld3 h0 ?_
        refine valQ_ok (ix28 hlt) ?_
        refine valQ_load ld3 hc1 ?_
        refine valQ_ok (lss_ok _ _ _ _ _ _) ?_
        first | refine pick_dt (by first | assumption | omega) ?_ | refine pick_df (by first | assumption | omega) ?_ | refine pick_t (by first | rfl | assumption) ?_ | refine pick_f (by first | rfl | assumption) ?_ | refine pick_dt rfl ?_ | refine pick_df (not_not_intro rfl) ?_
        refine drawn_ok hS ?_
        intro w hS
        exact mem_leaf hlt hl (by omega) hk hI (fun h => ⟨hkk, by simpa using h⟩) hS (fun h A3 c3 w hS => ⟨⟨k + 1, A3, c3, rfl, by omega, hK2 h, hS⟩, by simp [intOf]; omega⟩)
          (fun h k' hk' A3 c3 w hS => by
            obtain ⟨p1, p2, p3⟩ := hK1 (fun _ => by simp at h; exact h) k' hk'
            exact ⟨⟨i + 1, _, A3, c3, rfl, by omega, p1, p2, p3, hS⟩, by simp [intOf]; omega⟩)
      · first | refine pick_dt (by first | assumption | omega) ?_ | refine pick_df (by first | assumption | omega) ?_ | refine pick_t (by first | rfl | assumption) ?_ | refine pick_f (by first | rfl | assumption) ?_ | refine pick_dt rfl ?_ | refine pick_df (not_not_intro rfl) ?_
        refine drawn_ok hS ?_
        intro w hS
        exact mem_leaf hlt hl (by omega) hk hI (fun h => by cases h) hS (fun h A3 c3 w hS => ⟨⟨k + 1, A3, c3, rfl, by obtain ⟨h, _⟩ := h; omega, hK2 h, hS⟩, by obtain ⟨h, _⟩ := h; simp [intOf]; omega⟩)
          (fun h k' hk' A3 c3 w hS => by
            obtain ⟨p1, p2, p3⟩ := hK1 (fun h => absurd h (by omega)) k' hk'
            exact ⟨⟨i + 1, _, A3, c3, rfl, by omega, p1, p2, p3, hS⟩, by simp [intOf]; omega⟩)
  · have : i = l.length := by omega
    subst this
    rw [List.take_length] at hm
    obtain rfl : membersL l = out := membersL_of hr hm
    unfold m63_3 m63_4
    exact ⟨_, _, rfl, hS⟩

end Go.Proofs.Ytjjmlopmemmobaa.M
