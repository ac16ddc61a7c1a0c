/- The document's own answer: the heaviest; what is told is the document's. -/
import Derived.Test.YtcfdalmnhgiaeaaX14
namespace Go.Proofs.Ytcfdalmnhgiaeaa.M
open Go.Proofs.Ytcfdalmnhgiaeaa.F Go.RowKit
set_option linter.unusedVariables false
set_option linter.unusedSimpArgs false
set_option maxRecDepth 100000
set_option maxHeartbeats 2000000
attribute [local irreducible] Res.cells Res.row Res.map Res.any World.cell? World.frozen? Instr.fieldAt Instr.loadAt Instr.storeAt Instr.indexAt Instr.lookup Instr.mapUpdate Instr.box Instr.build Instr.buildSlice Instr.extract Instr.alloc Instr.field Instr.index Instr.sliceAt Instr.makeSlice Instr.makeMap Instr.makeFunc binS Op.unary Sem.run
open Go.Sort Go.Shelf
theorem append_none_ok {P : Program} {w0 w : World} {F : List Nat} {L : List Res} {K : Value → World → Prop} (k : Nat) {t e ty size bytes n : Nat} {z : Value} {v : Value} {cs : Array Bool} {xs : List Value} (hT : SlT P t e size bytes z) (hS : St w0 F w L) (hk : L[k]? = some (Res.row e size v n xs))
    (h : K v w) : builtinP P .append #[t, t] ty cs #[v, .slice none 0 0] w K := by
  obtain ⟨i, hi, hz, hs, hb⟩ := hT.parts
  exact builtin_ok (append_run (run_append_owned_none w 0 t ty e i size hT.1 hi v n xs (hS.own_row k hk))) h
theorem Rd.drop_ {w : World} {g c : Nat} {l : List Ta} (h : Rd w 3 (some ⟨g, 0, none⟩) l.length (l.flatMap encT)) {k : Nat} (hk : k ≤ l.length) :
    Rd w 3 (some ⟨g, k * 3, none⟩) (l.length - k) ((l.drop k).flatMap encT) := by
  have hl := flat_len encT 3 encT_len (l.drop k)
  refine ⟨by rw [hl, List.length_drop], fun hp => ⟨g, k * 3, rfl, fun j u hj => ?_⟩⟩
  have e : l.flatMap encT = (l.take k).flatMap encT ++ (l.drop k).flatMap encT := by rw [← List.flatMap_append, List.take_append_drop]
  have hlt : ((l.take k).flatMap encT).length = k * 3 := by rw [flat_len encT 3 encT_len, List.length_take, Nat.min_eq_left hk]
  have := h.cells_ (i := k * 3 + j) (u := u) (by rw [e, List.getElem?_append_right (by omega), hlt, Nat.add_sub_cancel_left]; exact hj)
  rwa [Nat.zero_add] at this
/-- Where the next one goes. -/
theorem heav_put {out : List Ta} {x : Ta} {k : Nat} (hs : Heaviest out) (hk : k ≤ out.length) (hb : ∀ t ∈ out.take k, ltOf topI t x = true) (hn : ∀ h : k < out.length, ltOf topI out[k] x = false) : Heaviest (out.take k ++ [x] ++ out.drop k) := by
  have hs' : Heaviest (out.take k ++ out.drop k) := by rw [List.take_append_drop]; exact hs
  unfold Heaviest at *
  rw [List.pairwise_append] at hs'
  obtain ⟨p1, p2, p3⟩ := hs'
  have hx : ∀ t ∈ out.drop k, ltOf topI t x = false := fun t ht => by
    obtain ⟨j, hj, rfl⟩ := List.mem_iff_getElem.1 ht
    rw [List.length_drop] at hj
    have h0 := hn (by omega)
    rw [List.getElem_drop]
    by_cases e : j = 0
    · subst e; exact h0
    · have := (List.pairwise_iff_getElem.1 hs) k (k + j) (by omega) (by omega) (by omega)
      rw [topI_lt] at *
      simp at *
      omega
  refine List.pairwise_append.2 ⟨List.pairwise_append.2 ⟨p1, by simp, fun a ha b hb' => ?_⟩, p2, fun a ha b hb' => ?_⟩
  · obtain rfl := List.mem_singleton.1 hb'
    have := hb a ha
    rw [topI_lt] at *
    simp at *
    omega
  · rcases List.mem_append.1 ha with ha | ha
    · exact p3 a ha b hb'
    · obtain rfl := List.mem_singleton.1 ha
      exact hx b hb'
theorem top_leaf {w0 w : World} {F : List Nat} {L : List Res} {R : Value → World → Prop} {K1 K2 : Value × Value → World → Prop} {b : Nat} {most n m : Int} {A A2 A3 : Option Addr} {c c2 c3 i k : Nat} {l out : List Ta} {t : Bool} (hl : l.length ≤ 64) (hi : i < l.length) (ho : out.length ≤ 64) (hk : k ≤ out.length)
    (ht : t = true → k < out.length)
    (hS : St w0 F w (hrow (.slice A3 (out.take k).length c3) (out.take k) :: hrow (.slice A2 out.length c2) out :: rcl b most n (.slice A l.length c) :: hrow (.slice A l.length c) l :: L))
    (hK2 : t = true → ∀ A3 c3 w, St w0 F w (hrow (.slice A3 (out.take (k + 1)).length c3) (out.take (k + 1)) :: hrow (.slice A2 out.length c2) out :: rcl b most n (.slice A l.length c) :: hrow (.slice A l.length c) l :: L) → K2 (.slice A3 (out.take (k + 1)).length c3, .int .i64 ((k + 1 : Nat) : Int)) w)
    (hK1 : t = false → ∀ A3 c3 w, St w0 F w (hrow (.slice A3 (out.take k ++ [l[i]] ++ out.drop k).length c3) (out.take k ++ [l[i]] ++ out.drop k) :: rcl b most n (.slice A l.length c) :: hrow (.slice A l.length c) l :: L) → K1 (.slice A3 (out.take k ++ [l[i]] ++ out.drop k).length c3, .int .i64 ((i + 1 : Nat) : Int)) w) :
    m20_23 R K1 K2 (.pointer (some ⟨b, 0, none⟩)) (.int .i64 m) (.slice A2 out.length c2) (.int .i64 i) (.slice A3 (out.take k).length c3) (.int .i64 k) (.bool t) w := by
  have hlen : (out.take k).length = k := by rw [List.length_take]; omega
  unfold m20_23
  refine cond_bsplit (fun h => ?_) (fun h => ?_)
  · have hlt := ht h
    obtain ⟨g, rfl⟩ := hS.row_ptr 1 rfl (by omega)
    obtain ⟨h0, h1, h2⟩ := tally_at 1 hS rfl hlt
    unfold m20_21
    first | refine valP_ok (ixz28 (by first | assumption | omega) _) ?_ | refine valP_ok (ix28 (by first | assumption | omega) _) ?_
    first | refine ls45 0 hS rfl ?_ | refine ls45 1 hS rfl ?_ | refine ls45 2 hS rfl ?_ | refine ls45 3 hS rfl ?_ | refine ls45 4 hS rfl ?_ | refine valP_ok (ld45 (by assumption) (by assumption) (by assumption)) ?_
    refine newslice_ok (bs28_1 _) hS ?_
    intro b75 w hS
    refine append_ok 1 sl28 hS rfl (m := 1) (news := encT out[k]) rfl (fun j u hj => ?_) (by simp [encT, Value.oneCell']) (by unfold maxLen; omega) (by omega) ?_
    · rw [add_none, Nat.zero_add]
      exact hS.cell 0 rfl hj
    intro A' c' w hS
    simp only [List.set_cons_zero, List.set_cons_succ] at hS
    have hS := hS.tail
    have e : out.take (k + 1) = out.take k ++ [out[k]] := List.take_succ_eq_append_getElem hlt
    have e2 : (out.take k).flatMap encT ++ encT out[k] = (out.take (k + 1)).flatMap encT := by rw [e, List.flatMap_append, List.flatMap_singleton]
    have e3 : (out.take k).length + 1 = (out.take (k + 1)).length := by rw [e, List.length_append]; rfl
    rw [e2, e3] at hS
    rw [e3]
    unfold m20_22
    refine valP_ok (add_ok _ _ _ (by omega) (by omega) _) ?_
    exact hK2 h _ _ _ hS
  · obtain ⟨g, rfl⟩ := hS.row_ptr 3 rfl (by omega)
    obtain ⟨h0, h1, h2⟩ := tally_at 3 hS rfl hi
    unfold m20_17
    refine nil_ok ?_
    first | refine valP_ok (fa30_2 _ _) ?_ | refine valP_ok (fao30_2 _ _ _) ?_
    first | refine valP_ok (ld28 (hS.cell 0 rfl rfl)) ?_ | refine valP_ok (ld28 (hS.cell 1 rfl rfl)) ?_ | refine valP_ok (ld28 (hS.cell 2 rfl rfl)) ?_ | refine valP_ok (ld28 (hS.cell 3 rfl rfl)) ?_ | refine valP_ok (ld28 (hS.cell 4 rfl rfl)) ?_ | refine valP_ok (ld28 (by assumption)) ?_
    first | refine valP_ok (ixz28 (by first | assumption | omega) _) ?_ | refine valP_ok (ix28 (by first | assumption | omega) _) ?_
    first | refine ls45 0 hS rfl ?_ | refine ls45 1 hS rfl ?_ | refine ls45 2 hS rfl ?_ | refine ls45 3 hS rfl ?_ | refine ls45 4 hS rfl ?_ | refine valP_ok (ld45 (by assumption) (by assumption) (by assumption)) ?_
    refine newslice_ok (bs28_1 _) hS ?_
    intro b87 w hS
    refine append_ok 1 sl28 hS rfl (m := 1) (news := encT l[i]) rfl (fun j u hj => ?_) (by simp [encT, Value.oneCell']) (by unfold maxLen; omega) (by omega) ?_
    · rw [add_none, Nat.zero_add]
      exact hS.cell 0 rfl hj
    intro A' c' w hS
    simp only [List.set_cons_zero, List.set_cons_succ] at hS
    have hS := hS.tail
    have e2 : (out.take k).flatMap encT ++ encT l[i] = (out.take k ++ [l[i]]).flatMap encT := by simp
    have e3 : (out.take k).length + 1 = (out.take k ++ [l[i]]).length := by simp
    rw [e2, e3] at hS
    rw [e3]
    have hcap := hS.row_max 1 rfl
    unfold m20_18
    refine valP_ok (so28 hk hcap.1 _) ?_
    have fin : ∀ A4 c4 w, St w0 F w (hrow (.slice A4 (out.take k ++ [l[i]] ++ out.drop k).length c4) (out.take k ++ [l[i]] ++ out.drop k) :: hrow (.slice A2 out.length c2) out :: rcl b most n (.slice (some ⟨g, 0, none⟩) l.length c) :: hrow (.slice (some ⟨g, 0, none⟩) l.length c) l :: L) →
        m20_19 R K1 (.pointer (some ⟨b, 0, none⟩)) (.int .i64 m) (.int .i64 i) (.slice A4 (out.take k ++ [l[i]] ++ out.drop k).length c4) w := fun A4 c4 w hS => by
      unfold m20_19
      unfold m20_14
      refine valP_ok (add_ok _ _ _ (by omega) (by omega) _) ?_
      exact hK1 h _ _ _ (hS.perm (.swap _ _ _)).tail
    have e5 : (out.take k ++ [l[i]]).flatMap encT ++ (out.drop k).flatMap encT = (out.take k ++ [l[i]] ++ out.drop k).flatMap encT := by simp
    have e6 : (out.take k ++ [l[i]]).length + (out.length - k) = (out.take k ++ [l[i]] ++ out.drop k).length := by simp; omega
    by_cases hck : c2 = k
    · rw [if_pos hck]
      have hkl : out.length = k := by omega
      have ed : out.drop k = [] := List.drop_eq_nil_of_le (by omega)
      have e0 : out.length - k = 0 := by omega
      cases A2 with
      | none =>
        rw [e0, hck, Nat.sub_self]
        refine append_none_ok 0 sl28 hS rfl ?_
        have := fin A' c' w (by rw [ed, List.append_nil]; exact hS)
        rw [ed, List.append_nil] at this
        exact this
      | some a =>
        rw [e0]
        refine append_ok 0 sl28 hS rfl (m := 0) (news := []) rfl (fun j u hj => by simp at hj) (by simp) (by unfold maxLen; simp; omega) (by simp; omega) ?_
        intro A4 c4 w hS
        simp only [List.set_cons_zero, List.set_cons_succ, List.append_nil, Nat.add_zero] at hS ⊢
        have := fin A4 c4 w (by rw [ed, List.append_nil]; exact hS)
        rw [ed, List.append_nil] at this
        exact this
    · rw [if_neg hck]
      rcases (hS.own_row 1 rfl).2 with ⟨hv, h0⟩ | ⟨g2, cap, cur, hv, _⟩
      · injection hv with q1 q2 q3
        omega
      · injection hv with q1 q2 q3
        subst q1
        have hR := Rd.drop_ (c := c2) (hS.row_rd 1 rfl) hk
        refine append_rd 0 sl28 hS rfl hR (by simp [add_none]) (fun u hu => ?_) (by unfold maxLen; simp; omega) (by simp; omega) ?_
        · obtain ⟨t, _, ht⟩ := List.mem_flatMap.1 hu
          simp [encT] at ht
          rcases ht with rfl | rfl | rfl <;> rfl
        intro A4 c4 w hS
        simp only [List.set_cons_zero, List.set_cons_succ] at hS ⊢
        rw [e5, e6] at hS
        rw [e6]
        exact fin _ _ _ hS
theorem rtop_ret {w0 w : World} {F : List Nat} {L : List Res} {b : Nat} {most n : Int} {A : Option Addr} {c : Nat} {l : List Ta} (m : Int) (hok : HOk most n l) (hS : St w0 F w (rcl b most n (.slice A l.length c) :: hrow (.slice A l.length c) l :: L)) :
    Ret Try.prog 20 #[.pointer (some ⟨b, 0, none⟩), .int .i64 m] w fun v w' => ∃ A' c', v = .slice A' ((topL l).take m.toNat).length c' ∧
      St w0 F w' (hrow (.slice A' ((topL l).take m.toNat).length c') ((topL l).take m.toNat) :: rcl b most n (.slice A l.length c) :: hrow (.slice A l.length c) l :: L) := by
  obtain ⟨h1, h2, h3, h4, h5, h6, h7⟩ := hok
  have hl : l.length ≤ 64 := by omega
  refine s20 _ _ ?_
  unfold m20
  unfold m20_0
  unfold m20_1
  unfold m20_2
  unfold m20_11
  have hS := hS.row_nil 45 3
  refine loop_in (fun s w' => ∃ i : Nat, ∃ out : List Ta, ∃ A2 c2, s = (.slice A2 out.length c2, .int .i64 i) ∧ i ≤ l.length ∧ out.Perm (l.take i) ∧ Heaviest out ∧ St w0 F w' (hrow (.slice A2 out.length c2) out :: rcl b most n (.slice A l.length c) :: hrow (.slice A l.length c) l :: L))
    (fun s _ => l.length - (intOf s.2).toNat) ⟨0, [], none, 0, rfl, by omega, .refl _, .nil, hS⟩ ?_
  clear hS
  rintro s w ⟨i, out, A2, c2, rfl, hi, hp, hh, hS⟩
  have hol : out.length = i := by rw [hp.length_eq, List.length_take]; omega
  unfold m20_12
  refine nil_ok ?_
  first | refine valP_ok (fa30_2 _ _) ?_ | refine valP_ok (fao30_2 _ _ _) ?_
  first | refine valP_ok (ld28 (hS.cell 0 rfl rfl)) ?_ | refine valP_ok (ld28 (hS.cell 1 rfl rfl)) ?_ | refine valP_ok (ld28 (hS.cell 2 rfl rfl)) ?_ | refine valP_ok (ld28 (hS.cell 3 rfl rfl)) ?_ | refine valP_ok (ld28 (hS.cell 4 rfl rfl)) ?_ | refine valP_ok (ld28 (by assumption)) ?_
  refine builtin_ok (len28 _) ?_
  refine valP_ok (lss_ok _ _ _ _ _ _ _) ?_
  unfold m20_24
  refine cond_split (fun h => ?_) (fun h => ?_)
  · have hlt : i < l.length := by omega
    have hS := hS.row_nil 45 3
    unfold m20_13
    unfold m20_15
    unfold m20_16
    refine loop_in (fun s w' => ∃ k : Nat, ∃ A3 c3, s = (.slice A3 (out.take k).length c3, .int .i64 k) ∧ k ≤ out.length ∧ (∀ t ∈ out.take k, ltOf topI t l[i] = true) ∧ St w0 F w' (hrow (.slice A3 (out.take k).length c3) (out.take k) :: hrow (.slice A2 out.length c2) out :: rcl b most n (.slice A l.length c) :: hrow (.slice A l.length c) l :: L))
      (fun s _ => out.length - (intOf s.2).toNat) ⟨0, none, 0, rfl, by omega, by simp, hS⟩ ?_
    clear hS
    rintro s w ⟨k, A3, c3, rfl, hk, hb, hS⟩
    have hK2 : ∀ hkk : k < out.length, ltOf topI out[k] l[i] = true → ∀ t ∈ out.take (k + 1), ltOf topI t l[i] = true := fun hkk e t ht => by
      rw [List.take_succ_eq_append_getElem hkk] at ht
      rcases List.mem_append.1 ht with ht | ht
      · exact hb t ht
      · obtain rfl := List.mem_singleton.1 ht
        exact e
    have hK1 : (∀ hkk : k < out.length, ltOf topI out[k] l[i] = false) → (out.take k ++ [l[i]] ++ out.drop k).Perm (l.take (i + 1)) ∧ Heaviest (out.take k ++ [l[i]] ++ out.drop k) := fun hn => by
      refine ⟨?_, heav_put hh hk hb hn⟩
      rw [List.take_succ_eq_append_getElem hlt]
      have p1 : (out.take k ++ [l[i]] ++ out.drop k).Perm (out.take k ++ out.drop k ++ [l[i]]) := by
        rw [List.append_assoc, List.append_assoc]
        exact List.Perm.append_left _ List.perm_append_comm
      rw [List.take_append_drop] at p1
      exact p1.trans (hp.append_right _)
    unfold m20_20
    refine builtinQ_ok (len28) ?_
    refine valQ_ok (lss_ok _ _ _ _ _ _) ?_
    refine cond_split (fun hc => ?_) (fun hc => ?_)
    · have hkk : k < out.length := by omega
      obtain ⟨g, rfl⟩ := hS.row_ptr 1 rfl (by omega)
      obtain ⟨t0, t1, t2⟩ := tally_at 1 hS rfl hkk
      obtain ⟨g2, rfl⟩ := hS.row_ptr 3 rfl (by omega)
      obtain ⟨u0, u1, u2⟩ := tally_at 3 hS rfl hlt
      first | refine valQ_ok (ixz28 (by first | assumption | omega)) ?_ | refine valQ_ok (ix28 (by first | assumption | omega)) ?_
      first | refine valQ_ok (fa45_1 _) ?_ | refine valQ_ok (fao45_1 _ _) ?_
      first | refine valQ_load ld3 (hS.cell 0 rfl rfl) ?_ | refine valQ_load ld3 (hS.cell 1 rfl rfl) ?_ | refine valQ_load ld3 (hS.cell 2 rfl rfl) ?_ | refine valQ_load ld3 (hS.cell 3 rfl rfl) ?_ | refine valQ_load ld3 (hS.cell 4 rfl rfl) ?_ | refine valQ_load ld3 (by assumption) ?_
      refine nil_ok ?_
      first | refine valQ_ok (fa30_2 _) ?_ | refine valQ_ok (fao30_2 _ _) ?_
      first | refine valQ_load ld28 (hS.cell 0 rfl rfl) ?_ | refine valQ_load ld28 (hS.cell 1 rfl rfl) ?_ | refine valQ_load ld28 (hS.cell 2 rfl rfl) ?_ | refine valQ_load ld28 (hS.cell 3 rfl rfl) ?_ | refine valQ_load ld28 (hS.cell 4 rfl rfl) ?_ | refine valQ_load ld28 (by assumption) ?_
      first | refine valQ_ok (ixz28 (by first | assumption | omega)) ?_ | refine valQ_ok (ix28 (by first | assumption | omega)) ?_
      first | refine valQ_ok (fa45_1 _) ?_ | refine valQ_ok (fao45_1 _ _) ?_
      first | refine valQ_load ld3 (hS.cell 0 rfl rfl) ?_ | refine valQ_load ld3 (hS.cell 1 rfl rfl) ?_ | refine valQ_load ld3 (hS.cell 2 rfl rfl) ?_ | refine valQ_load ld3 (hS.cell 3 rfl rfl) ?_ | refine valQ_load ld3 (hS.cell 4 rfl rfl) ?_ | refine valQ_load ld3 (by assumption) ?_
      refine valQ_ok (gtr_ok _ _ _ _ _ _) ?_
      refine cond_split (fun hgt => ?_) (fun hgt => ?_)
      · first | refine pick_dt (by first | assumption | omega) ?_ | refine pick_df (by first | assumption | omega) ?_ | refine pick_t (by first | rfl | assumption) ?_ | refine pick_f (by first | rfl | assumption) ?_
        first | refine pick_dt (by first | assumption | omega) ?_ | refine pick_df (by first | assumption | omega) ?_ | refine pick_t (by first | rfl | assumption) ?_ | refine pick_f (by first | rfl | assumption) ?_
        refine drawn_ok hS ?_
        intro w hS
        exact top_leaf hl hlt (by omega) hk (fun _ => hkk) hS (fun h A3 c3 w hS => ⟨⟨k + 1, A3, c3, rfl, by omega, hK2 hkk (by rw [topI_lt]; (try simp at h) <;> simp <;> omega), hS⟩, by simp [intOf]; omega⟩) (fun h A3 c3 w hS => ⟨⟨i + 1, _, A3, c3, rfl, by omega, (hK1 (fun _ => by rw [topI_lt]; (try simp at h) <;> simp <;> omega)).1, (hK1 (fun _ => by rw [topI_lt]; (try simp at h) <;> simp <;> omega)).2, hS⟩, by simp [intOf]; omega⟩)
      · first | refine valQ_ok (ixz28 (by first | assumption | omega)) ?_ | refine valQ_ok (ix28 (by first | assumption | omega)) ?_
        first | refine valQ_ok (fa45_1 _) ?_ | refine valQ_ok (fao45_1 _ _) ?_
        first | refine valQ_load ld3 (hS.cell 0 rfl rfl) ?_ | refine valQ_load ld3 (hS.cell 1 rfl rfl) ?_ | refine valQ_load ld3 (hS.cell 2 rfl rfl) ?_ | refine valQ_load ld3 (hS.cell 3 rfl rfl) ?_ | refine valQ_load ld3 (hS.cell 4 rfl rfl) ?_ | refine valQ_load ld3 (by assumption) ?_
        refine nil_ok ?_
        first | refine valQ_ok (fa30_2 _) ?_ | refine valQ_ok (fao30_2 _ _) ?_
        first | refine valQ_load ld28 (hS.cell 0 rfl rfl) ?_ | refine valQ_load ld28 (hS.cell 1 rfl rfl) ?_ | refine valQ_load ld28 (hS.cell 2 rfl rfl) ?_ | refine valQ_load ld28 (hS.cell 3 rfl rfl) ?_ | refine valQ_load ld28 (hS.cell 4 rfl rfl) ?_ | refine valQ_load ld28 (by assumption) ?_
        first | refine valQ_ok (ixz28 (by first | assumption | omega)) ?_ | refine valQ_ok (ix28 (by first | assumption | omega)) ?_
        first | refine valQ_ok (fa45_1 _) ?_ | refine valQ_ok (fao45_1 _ _) ?_
        first | refine valQ_load ld3 (hS.cell 0 rfl rfl) ?_ | refine valQ_load ld3 (hS.cell 1 rfl rfl) ?_ | refine valQ_load ld3 (hS.cell 2 rfl rfl) ?_ | refine valQ_load ld3 (hS.cell 3 rfl rfl) ?_ | refine valQ_load ld3 (hS.cell 4 rfl rfl) ?_ | refine valQ_load ld3 (by assumption) ?_
        refine valQ_ok (eq3 _ _ _ _) ?_
        refine cond_split (fun heq => ?_) (fun heq => ?_)
        · first | refine valQ_ok (ixz28 (by first | assumption | omega)) ?_ | refine valQ_ok (ix28 (by first | assumption | omega)) ?_
          first | refine valQ_ok (fa45_0 _) ?_ | refine valQ_ok (fao45_0 _ _) ?_
          first | refine valQ_load ld3 (hS.cell 0 rfl rfl) ?_ | refine valQ_load ld3 (hS.cell 1 rfl rfl) ?_ | refine valQ_load ld3 (hS.cell 2 rfl rfl) ?_ | refine valQ_load ld3 (hS.cell 3 rfl rfl) ?_ | refine valQ_load ld3 (hS.cell 4 rfl rfl) ?_ | refine valQ_load ld3 (by assumption) ?_
          refine nil_ok ?_
          first | refine valQ_ok (fa30_2 _) ?_ | refine valQ_ok (fao30_2 _ _) ?_
          first | refine valQ_load ld28 (hS.cell 0 rfl rfl) ?_ | refine valQ_load ld28 (hS.cell 1 rfl rfl) ?_ | refine valQ_load ld28 (hS.cell 2 rfl rfl) ?_ | refine valQ_load ld28 (hS.cell 3 rfl rfl) ?_ | refine valQ_load ld28 (hS.cell 4 rfl rfl) ?_ | refine valQ_load ld28 (by assumption) ?_
          first | refine valQ_ok (ixz28 (by first | assumption | omega)) ?_ | refine valQ_ok (ix28 (by first | assumption | omega)) ?_
          first | refine valQ_ok (fa45_0 _) ?_ | refine valQ_ok (fao45_0 _ _) ?_
          first | refine valQ_load ld3 (hS.cell 0 rfl rfl) ?_ | refine valQ_load ld3 (hS.cell 1 rfl rfl) ?_ | refine valQ_load ld3 (hS.cell 2 rfl rfl) ?_ | refine valQ_load ld3 (hS.cell 3 rfl rfl) ?_ | refine valQ_load ld3 (hS.cell 4 rfl rfl) ?_ | refine valQ_load ld3 (by assumption) ?_
          refine valQ_ok (lss_ok _ _ _ _ _ _) ?_
          first | refine pick_dt (by first | assumption | omega) ?_ | refine pick_df (by first | assumption | omega) ?_ | refine pick_t (by first | rfl | assumption) ?_ | refine pick_f (by first | rfl | assumption) ?_
          first | refine pick_dt (by first | assumption | omega) ?_ | refine pick_df (by first | assumption | omega) ?_ | refine pick_t (by first | rfl | assumption) ?_ | refine pick_f (by first | rfl | assumption) ?_
          first | refine pick_dt (by first | assumption | omega) ?_ | refine pick_df (by first | assumption | omega) ?_ | refine pick_t (by first | rfl | assumption) ?_ | refine pick_f (by first | rfl | assumption) ?_
          refine drawn_ok hS ?_
          intro w hS
          exact top_leaf hl hlt (by omega) hk (fun _ => hkk) hS (fun h A3 c3 w hS => ⟨⟨k + 1, A3, c3, rfl, by omega, hK2 hkk (by rw [topI_lt]; (try simp at h) <;> simp <;> omega), hS⟩, by simp [intOf]; omega⟩) (fun h A3 c3 w hS => ⟨⟨i + 1, _, A3, c3, rfl, by omega, (hK1 (fun _ => by rw [topI_lt]; (try simp at h) <;> simp <;> omega)).1, (hK1 (fun _ => by rw [topI_lt]; (try simp at h) <;> simp <;> omega)).2, hS⟩, by simp [intOf]; omega⟩)
        · first | refine pick_dt (by first | assumption | omega) ?_ | refine pick_df (by first | assumption | omega) ?_ | refine pick_t (by first | rfl | assumption) ?_ | refine pick_f (by first | rfl | assumption) ?_
          first | refine pick_dt (by first | assumption | omega) ?_ | refine pick_df (by first | assumption | omega) ?_ | refine pick_t (by first | rfl | assumption) ?_ | refine pick_f (by first | rfl | assumption) ?_
          first | refine pick_dt (by first | assumption | omega) ?_ | refine pick_df (by first | assumption | omega) ?_ | refine pick_t (by first | rfl | assumption) ?_ | refine pick_f (by first | rfl | assumption) ?_
          refine drawn_ok hS ?_
          intro w hS
          exact top_leaf hl hlt (by omega) hk (fun _ => hkk) hS (fun h A3 c3 w hS => ⟨⟨k + 1, A3, c3, rfl, by omega, hK2 hkk (by rw [topI_lt]; (try simp at h) <;> simp <;> omega), hS⟩, by simp [intOf]; omega⟩) (fun h A3 c3 w hS => ⟨⟨i + 1, _, A3, c3, rfl, by omega, (hK1 (fun _ => by rw [topI_lt]; (try simp at h) <;> simp <;> omega)).1, (hK1 (fun _ => by rw [topI_lt]; (try simp at h) <;> simp <;> omega)).2, hS⟩, by simp [intOf]; omega⟩)
    · first | refine pick_dt (by first | assumption | omega) ?_ | refine pick_df (by first | assumption | omega) ?_ | refine pick_t (by first | rfl | assumption) ?_ | refine pick_f (by first | rfl | assumption) ?_
      refine drawn_ok hS ?_
      intro w hS
      exact top_leaf hl hlt (by omega) hk (fun h => by cases h) hS (fun h => by cases h) (fun h A3 c3 w hS => ⟨⟨i + 1, _, A3, c3, rfl, by omega, (hK1 (fun hkk => absurd hkk (by omega))).1, (hK1 (fun hkk => absurd hkk (by omega))).2, hS⟩, by simp [intOf]; omega⟩)
  · have : i = l.length := by omega
    subst this
    rw [List.take_length] at hp
    obtain rfl := heaviest_eq h7 hp (topL_perm l) hh (topL_sorted l)
    unfold m20_3
    refine valP_ok (leq_ok _ _ _ _ _ _ _) ?_
    unfold m20_9
    by_cases hm : m ≤ 0
    · refine cond_dt hm ?_
      unfold m20_10
      have : m.toNat = 0 := by omega
      rw [this, List.take_zero]
      exact ⟨_, _, rfl, hS.tail.row_nil 45 3⟩
    · refine cond_df hm ?_
      unfold m20_4
      refine builtin_ok (len28 _) ?_
      refine valP_ok (lss_ok _ _ _ _ _ _ _) ?_
      unfold m20_7
      have hmx := hS.row_max 0 rfl
      by_cases hml : m < ((topL l).length : Int)
      · refine cond_dt hml ?_
        have e : m = (((topL l).take m.toNat).length : Nat) := by rw [List.length_take]; omega
        rw [show (Value.int .i64 m) = Value.int .i64 ((((topL l).take m.toNat).length : Nat) : Int) by rw [← e]]
        refine valP_ok (sh28 (by rw [List.length_take]; omega) _) ?_
        unfold m20_8
        have hS' := hS.row_take (k := ((topL l).take m.toNat).length) 0 rfl (by rw [List.length_take]; omega)
        simp only [List.set_cons_zero] at hS'
        rw [flat_take encT 3 encT_len, List.length_take, ← List.take_take, List.take_length] at hS'
        refine ⟨A2, c2, rfl, ?_⟩
        rw [List.length_take]
        unfold hrow at *
        rw [List.length_take]
        exact hS'
      · refine cond_df hml ?_
        unfold m20_5
        unfold m20_6
        rw [List.take_of_length_le (by omega)]
        exact ⟨_, _, rfl, hS⟩

end Go.Proofs.Ytcfdalmnhgiaeaa.M
