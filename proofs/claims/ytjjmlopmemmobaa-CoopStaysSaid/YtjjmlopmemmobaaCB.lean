/- Clone at ints; Equal, Index, Contains at ints; DeleteFunc at ints, whatever is asked; What coop's own functions come to: who is a member, what is given, a generation; What a coop's turn, its beginning, and what members do to it come to; What coop.New, Join, Leave, Revoke, Done come to; What coop's Join, Leave, Revoke, Done come to; What coop's Leave, Revoke, Done come to. -/
import Derived.Test.YtjjmlopmemmobaaAA
import Derived.Test.YtjjmlopmemmobaaFwT
import Derived.Test.YtjjmlopmemmobaaMcoop0
import Derived.Test.YtjjmlopmemmobaaMcoop1
namespace Go.Proofs.Ytjjmlopmemmobaa.M
open Go.Proofs.Ytjjmlopmemmobaa.F Go.RowKit
set_option linter.unusedVariables false
set_option linter.unusedSimpArgs false
set_option maxRecDepth 100000
set_option maxHeartbeats 2000000
attribute [local irreducible] Res.cells Res.row Res.map Res.any World.cell? World.frozen? Instr.fieldAt Instr.loadAt Instr.storeAt Instr.indexAt Instr.lookup Instr.mapUpdate Instr.box Instr.build Instr.buildSlice Instr.extract Instr.alloc Instr.field Instr.index Instr.sliceAt Instr.makeSlice Instr.makeMap Instr.makeFunc binS Op.unary Sem.run
open Go.Proofs.Ytjjmlopmemmobaa.L Go.Shelf
theorem irow_nilcap {w0 w : World} {F : List Nat} {L : List Res} {A : Option Addr} {c : Nat} {l : List Int} (k : Nat) (hS : St w0 F w L) (hk : L[k]? = some (irow (.slice A l.length c) l)) : A = none → c = 0 := fun hA => by
  subst hA
  have h := hS.own_row k hk
  rcases h.2 with ⟨e, h0⟩ | ⟨g, cap, cur, hv, _⟩
  · injection e
  · cases hv
theorem clone_ret {w0 w : World} {F : List Nat} {L : List Res} {A : Option Addr} {c : Nat} {l : List Int} (k : Nat) (hS : St w0 F w L) (hk : L[k]? = some (irow (.slice A l.length c) l)) (hl : l.length ≤ 100000) :
    Ret Try.prog 55 #[.slice A l.length c] w fun v w' => ∃ A' c', v = .slice A' l.length c' ∧ St w0 F w' (irow (.slice A' l.length c') l :: L) := by
  refine s55 _ ?_
  unfold m55
  unfold m55_0
  unfold m55_1
  refine valP_ok (eq28 _ _ _ _ _ _) ?_
  unfold m55_4
  refine cond_bsplit (fun h => ?_) (fun h => ?_)
  · unfold m55_5
    cases A with
    | some a => cases h
    | none =>
      have h0 := (hS.own_row k hk).2
      have h0 : l.length = 0 := by
        rcases h0 with ⟨_, h⟩ | ⟨g, cap, cur, hv, _⟩
        · exact h
        · cases hv
      have hn : l = [] := List.eq_nil_of_length_eq_zero h0
      subst hn
      exact ⟨none, 0, rfl, hS.row_nil 3 1⟩
  · unfold m55_2
    refine newslice_ok (bs28_0 _) hS ?_
    intro b5 w hS
    have hS := hS.as_row 0 1 0 rfl rfl (by unfold maxLen; omega)
    simp only [List.set_cons_zero] at hS
    have hr : Rd w 1 A l.length (ints l) := hS.row_rd (k + 1) (by rw [List.getElem?_cons_succ]; exact hk)
    refine append_any (l0 := []) 0 (by simp) hl hS rfl hr (fun hA => ?_) ?_
    · exact irow_nilcap (k + 1) hS (by rw [List.getElem?_cons_succ]; exact hk) hA
    intro A' c' w' hS
    simp only [List.set_cons_zero, List.nil_append] at hS
    unfold m55_3
    exact ⟨A', c', rfl, hS⟩
theorem equal_ret {w0 w : World} {F : List Nat} {L : List Res} {A B : Option Addr} {c d : Nat} {a b : List Int} (hl : a.length ≤ 1000000) (hS : St w0 F w L) (hA : Bes w0 F L 1 A a.length (ints a)) (hB : Bes w0 F L 1 B b.length (ints b)) :
    Ret Try.prog 56 #[.slice A a.length c, .slice B b.length d] w fun v w' => v = .bool (decide (a = b)) ∧ St w0 F w' L := by
  refine s56 _ _ ?_
  unfold m56
  unfold m56_0
  unfold m56_1
  refine builtin_ok (len28 _) ?_
  refine builtin_ok (len28 _) ?_
  refine valP_ok (ne3 _ _ _ _ _) ?_
  unfold m56_13
  refine cond_split (fun h => ?_) (fun h => ?_)
  · unfold m56_14
    exact ⟨by rw [decide_eq_false (fun e => h (by rw [e]))], hS⟩
  have hlen : a.length = b.length := by omega
  unfold m56_2
  refine builtin_ok (len28 _) ?_
  unfold m56_5
  refine loop_in (fun s w' => ∃ i : Nat, s = .int .i64 i ∧ i ≤ a.length ∧ a.take i = b.take i ∧ St w0 F w' L) (fun s _ => a.length - (intOf s).toNat) ⟨0, rfl, by omega, by simp, hS⟩ ?_
  clear hS
  rintro s w ⟨i, rfl, hi, hp, hS⟩
  unfold m56_6
  refine valP_ok (lss_ok _ _ _ _ _ _ _) ?_
  unfold m56_7
  refine cond_split (fun h => ?_) (fun h => ?_)
  · have ha : i < a.length := by omega
    have hb : i < b.length := by omega
    have h1 := hA.rd hS
    have h2 := hB.rd hS
    obtain ⟨g, o, rfl⟩ := h1.some_ (by omega) (by omega)
    obtain ⟨g2, o2, rfl⟩ := h2.some_ (by omega) (by omega)
    have hc1 := h1.cell_ (ints_get ha)
    have hc2 := h2.cell_ (ints_get hb)
    unfold m56_8
    unfold m56_10
    first | refine valQ_ok (ixz28 (by first | assumption | omega)) ?_ | refine valQ_ok (ix28 (by first | assumption | omega)) ?_
    first | refine valQ_load ld3 (hS.cell 0 rfl rfl) ?_ | refine valQ_load ld3 (hS.cell 1 rfl rfl) ?_ | refine valQ_load ld3 (hS.cell 2 rfl rfl) ?_ | refine valQ_load ld3 (hS.cell 3 rfl rfl) ?_ | refine valQ_load ld3 (hS.cell 4 rfl rfl) ?_ | refine valQ_load ld3 (by assumption) ?_
    first | refine valQ_ok (ixz28 (by first | assumption | omega)) ?_ | refine valQ_ok (ix28 (by first | assumption | omega)) ?_
    first | refine valQ_load ld3 (hS.cell 0 rfl rfl) ?_ | refine valQ_load ld3 (hS.cell 1 rfl rfl) ?_ | refine valQ_load ld3 (hS.cell 2 rfl rfl) ?_ | refine valQ_load ld3 (hS.cell 3 rfl rfl) ?_ | refine valQ_load ld3 (hS.cell 4 rfl rfl) ?_ | refine valQ_load ld3 (by assumption) ?_
    refine valQ_ok (ne3 _ _ _ _) ?_
    refine drawn_ok hS ?_
    intro w hS
    unfold m56_11
    refine cond_split (fun e => ?_) (fun e => ?_)
    · unfold m56_12
      refine ⟨?_, hS⟩
      rw [decide_eq_false]
      intro h
      subst h
      exact e rfl
    · unfold m56_9
      refine valP_ok (add_ok _ _ _ (by omega) (by omega) _) ?_
      refine ⟨⟨i + 1, rfl, by omega, ?_, hS⟩, by simp [intOf]; omega⟩
      rw [List.take_succ_eq_append_getElem ha, List.take_succ_eq_append_getElem hb, hp]
      congr 2
      omega
  · have hi2 : i = a.length := by omega
    unfold m56_3 m56_4
    refine ⟨?_, hS⟩
    rw [decide_eq_true]
    rw [hi2, List.take_length, hlen, List.take_length] at hp
    exact hp
theorem index_ret (A : Option Addr) (c : Nat) (l : List Int) (key : Int) (w : World) (hr : Rd w 1 A l.length (ints l)) (hl : l.length ≤ 1000000) : Ret Try.prog 84 #[.slice A l.length c, .int .i64 key] w fun v w' => ∃ r : Int, v = .int .i64 r ∧ (0 ≤ r ↔ key ∈ l) ∧ w' = w := by
  refine s84 _ _ ?_
  unfold m84
  unfold m84_0
  unfold m84_1
  refine builtin_ok (len28 _) ?_
  unfold m84_4
  refine loop_in (fun s w' => ∃ i : Nat, s = .int .i64 i ∧ i ≤ l.length ∧ key ∉ l.take i ∧ w' = w) (fun s _ => l.length - (intOf s).toNat) ⟨0, rfl, by omega, by simp, rfl⟩ ?_
  rintro s w ⟨i, rfl, hi, hn, rfl⟩
  unfold m84_5
  refine valP_ok (lss_ok _ _ _ _ _ _ _) ?_
  unfold m84_6
  refine cond_split (fun h => ?_) (fun h => ?_)
  · have hlt : i < l.length := by omega
    obtain ⟨g, o, rfl⟩ := hr.some_ (by omega) (by omega)
    have hc := hr.cell_ (ints_get hlt)
    unfold m84_7
    unfold m84_9
    first | refine valP_ok (ixz28 (by first | assumption | omega) _) ?_ | refine valP_ok (ix28 (by first | assumption | omega) _) ?_
    first | refine valP_ok (ld3 (hS.cell 0 rfl rfl)) ?_ | refine valP_ok (ld3 (hS.cell 1 rfl rfl)) ?_ | refine valP_ok (ld3 (hS.cell 2 rfl rfl)) ?_ | refine valP_ok (ld3 (hS.cell 3 rfl rfl)) ?_ | refine valP_ok (ld3 (hS.cell 4 rfl rfl)) ?_ | refine valP_ok (ld3 (by assumption)) ?_
    refine valP_ok (eq3 _ _ _ _ _) ?_
    unfold m84_10
    refine cond_split (fun e => ?_) (fun e => ?_)
    · unfold m84_11
      exact ⟨i, rfl, ⟨fun _ => e ▸ List.getElem_mem hlt, fun _ => by omega⟩, rfl⟩
    · unfold m84_8
      refine valP_ok (add_ok _ _ _ (by omega) (by omega) _) ?_
      refine ⟨⟨i + 1, rfl, by omega, ?_, rfl⟩, by simp [intOf]; omega⟩
      rw [List.take_succ_eq_append_getElem hlt]
      intro hm
      rcases List.mem_append.1 hm with h | h
      · exact hn h
      · exact e (List.mem_singleton.1 h)
  · have hi2 : i = l.length := by omega
    rw [hi2, List.take_length] at hn
    unfold m84_2 m84_3
    exact ⟨-1, rfl, ⟨fun h => absurd h (by omega), fun h => absurd h hn⟩, rfl⟩
theorem contains_ret (A : Option Addr) (c : Nat) (l : List Int) (key : Int) (w : World) (hr : Rd w 1 A l.length (ints l)) (hl : l.length ≤ 1000000) : Ret Try.prog 57 #[.slice A l.length c, .int .i64 key] w fun v w' => v = .bool (decide (key ∈ l)) ∧ w' = w := by
  refine s57 _ _ ?_
  unfold m57 m57_0
  unfold m57_1
  refine callR (by kernel_rfl) (index_ret A c l key w hr hl) ?_
  rintro v w ⟨r, rfl, hm, rfl⟩
  refine valP_ok (geq_ok _ _ _ _ _ _ _) ?_
  unfold m57_2
  refine ⟨?_, rfl⟩
  by_cases h : key ∈ l
  · rw [decide_eq_true (hm.2 h), decide_eq_true h]
  · rw [decide_eq_false (fun x => h (hm.1 x)), decide_eq_false h]
/-- What a function value tells of ints, where the row at place k has some ints. -/
def AsksI (w0 : World) (F : List Nat) (L : List Res) (k : Nat) (A : Option Addr) (n c : Nat) (f : FuncId) (cap : Array Value) (p : Int → Bool) : Prop :=
  ∀ (x : Int) (w : World) (xs : List Int), xs.length = n → St w0 F w (L.set k (irow (.slice A xs.length c) xs)) → Ret Try.prog f (#[] ++ #[.int .i64 x] ++ cap) w fun v w' => v = .bool (p x) ∧ w' = w
theorem set_self {L : List Res} {k : Nat} {r : Res} (h : L[k]? = some r) : L.set k r = L := by
  obtain ⟨hlt, he⟩ := List.getElem?_eq_some_iff.1 h
  rw [← he, List.set_getElem_self]
theorem indexF_ret {w0 w : World} {F : List Nat} {L : List Res} {A : Option Addr} {c k : Nat} {l : List Int} {f : FuncId} {cap : Array Value} {p : Int → Bool} (hf : callsOk Try.prog f = true) (hl : l.length ≤ 1000000) (hS : St w0 F w L) (hk : L[k]? = some (irow (.slice A l.length c) l)) (hp : AsksI w0 F L k A l.length c f cap p) :
    Ret Try.prog 90 #[.slice A l.length c, .func (.func f) #[] cap] w fun v w' => w' = w ∧ ((v = .int .i64 (-1) ∧ ∀ x ∈ l, p x = false) ∨ ∃ (i : Nat) (h : i < l.length), v = .int .i64 i ∧ p l[i] = true ∧ ∀ x ∈ l.take i, p x = false) := by
  have hr := hS.row_rd k hk
  have hS0 : St w0 F w (L.set k (irow (.slice A l.length c) l)) := by rw [set_self hk]; exact hS
  refine s90 _ _ ?_
  unfold m90
  unfold m90_0
  unfold m90_1
  refine builtin_ok (len28 _) ?_
  unfold m90_4
  refine loop_in (fun s w' => ∃ i : Nat, s = .int .i64 i ∧ i ≤ l.length ∧ (∀ x ∈ l.take i, p x = false) ∧ w' = w) (fun s _ => l.length - (intOf s).toNat) ⟨0, rfl, by omega, by simp, rfl⟩ ?_
  rintro s w ⟨i, rfl, hi, hn, rfl⟩
  unfold m90_5
  refine valP_ok (lss_ok _ _ _ _ _ _ _) ?_
  unfold m90_6
  refine cond_split (fun h => ?_) (fun h => ?_)
  · have hlt : i < l.length := by omega
    obtain ⟨g, o, rfl⟩ := hr.some_ (by omega) (by omega)
    have hc := hr.cell_ (ints_get hlt)
    unfold m90_7
    unfold m90_9
    first | refine valP_ok (ixz28 (by first | assumption | omega) _) ?_ | refine valP_ok (ix28 (by first | assumption | omega) _) ?_
    first | refine valP_ok (ld3 (hS.cell 0 rfl rfl)) ?_ | refine valP_ok (ld3 (hS.cell 1 rfl rfl)) ?_ | refine valP_ok (ld3 (hS.cell 2 rfl rfl)) ?_ | refine valP_ok (ld3 (hS.cell 3 rfl rfl)) ?_ | refine valP_ok (ld3 (hS.cell 4 rfl rfl)) ?_ | refine valP_ok (ld3 (by assumption)) ?_
    refine callvR hf rfl (hp _ _ _ rfl hS0) ?_
    rintro v w ⟨rfl, rfl⟩
    unfold m90_10
    refine cond_bsplit (fun e => ?_) (fun e => ?_)
    · unfold m90_11
      exact ⟨rfl, .inr ⟨i, hlt, rfl, e, hn⟩⟩
    · unfold m90_8
      refine valP_ok (add_ok _ _ _ (by omega) (by omega) _) ?_
      refine ⟨⟨i + 1, rfl, by omega, ?_, rfl⟩, by simp [intOf]; omega⟩
      rw [List.take_succ_eq_append_getElem hlt]
      intro x hm
      rcases List.mem_append.1 hm with h | h
      · exact hn x h
      · rw [List.mem_singleton.1 h]; exact e
  · have hi2 : i = l.length := by omega
    rw [hi2, List.take_length] at hn
    unfold m90_2 m90_3
    exact ⟨rfl, .inl ⟨rfl, hn⟩⟩
theorem filter_none {p : Int → Bool} {l : List Int} (h : ∀ x ∈ l, p x = false) : l.filter (fun x => !p x) = l := List.filter_eq_self.2 fun x hx => by rw [h x hx]; rfl
theorem delF_ret {w0 w : World} {F : List Nat} {L : List Res} {A : Option Addr} {c k : Nat} {l : List Int} {f : FuncId} {cap : Array Value} {p : Int → Bool} (hf : callsOk Try.prog f = true) (hl : l.length ≤ 1000000) (hS : St w0 F w L) (hk : L[k]? = some (irow (.slice A l.length c) l)) (hp : AsksI w0 F L k A l.length c f cap p) :
    Ret Try.prog 65 #[.slice A l.length c, .func (.func f) #[] cap] w fun v w' => v = .slice A (l.filter fun x => !p x).length c ∧ St w0 F w' (L.set k (irow (.slice A (l.filter fun x => !p x).length c) (l.filter fun x => !p x))) := by
  have hkl := (List.getElem?_eq_some_iff.1 hk).1
  refine s65 _ _ ?_
  unfold m65 m65_0
  unfold m65_1
  refine callR (by kernel_rfl) (indexF_ret hf hl hS hk hp) ?_
  rintro v w ⟨rfl, ⟨rfl, hn⟩ | ⟨i, hi, rfl, hpi, hn⟩⟩
  · unfold m65_2
    refine valP_ok (eq3 _ _ _ _ _) ?_
    unfold m65_15
    refine cond_dt rfl ?_
    unfold m65_16
    rw [filter_none hn, set_self hk]
    exact ⟨rfl, hS⟩
  · unfold m65_2
    refine valP_ok (eq3 _ _ _ _ _) ?_
    unfold m65_15
    refine cond_df (by omega) ?_
    obtain ⟨g, rfl⟩ := hS.row_ptr k hk (by omega)
    have hnc := (hS.row_max k hk).1
    have hS : St w0 F w (L.set k (irow (.slice (some ⟨g, 0, none⟩) l.length c) l)) := by rw [set_self hk]; exact hS
    unfold m65_3
    refine valP_ok (add_ok _ _ _ (by omega) (by omega) _) ?_
    unfold m65_7
    refine loop_in (fun s w' => ∃ (i j : Nat) (xs : List Int), s = (.int .i64 i, .int .i64 j) ∧ i < j ∧ j ≤ l.length ∧ xs.length = l.length ∧ xs.take i = (l.take j).filter (fun x => !p x) ∧ xs.drop j = l.drop j ∧ St w0 F w' (L.set k (irow (.slice (some ⟨g, 0, none⟩) xs.length c) xs)))
      (fun s _ => l.length - (intOf s.2).toNat) ⟨i, i + 1, l, rfl, by omega, by omega, rfl, ?_, rfl, hS⟩ ?_
    · rw [List.take_succ_eq_append_getElem hi, List.filter_append, filter_none hn]
      simp [hpi]
    clear hS hn hpi hi
    rintro s w ⟨i, j, xs, rfl, hij, hj, hxl, htk, hdr, hS⟩
    have hkx : (L.set k (irow (.slice (some ⟨g, 0, none⟩) xs.length c) xs))[k]? = some (irow (.slice (some ⟨g, 0, none⟩) xs.length c) xs) := by simp [hkl]
    unfold m65_8
    refine builtin_ok (len28 _) ?_
    refine valP_ok (lss_ok _ _ _ _ _ _ _) ?_
    unfold m65_14
    refine cond_split (fun h => ?_) (fun h => ?_)
    · have hjl : j < l.length := by omega
      have hjx : j < xs.length := by omega
      have hxj : xs[j] = l[j] := by
        have h1 := congrArg (·[0]?) hdr
        simp only [List.getElem?_drop, Nat.add_zero] at h1
        rw [List.getElem?_eq_getElem hjx, List.getElem?_eq_getElem hjl] at h1
        injection h1
      have hc := hS.row_cell k hkx (ints_get hjx)
      rw [hxj] at hc
      unfold m65_9
      first | refine valP_ok (ixz28 (by first | assumption | omega) _) ?_ | refine valP_ok (ix28 (by first | assumption | omega) _) ?_
      first | refine valP_ok (ld3 (hS.cell 0 rfl rfl)) ?_ | refine valP_ok (ld3 (hS.cell 1 rfl rfl)) ?_ | refine valP_ok (ld3 (hS.cell 2 rfl rfl)) ?_ | refine valP_ok (ld3 (hS.cell 3 rfl rfl)) ?_ | refine valP_ok (ld3 (hS.cell 4 rfl rfl)) ?_ | refine valP_ok (ld3 (by assumption)) ?_
      unfold m65_11
      refine callvR hf rfl (hp _ _ _ hxl hS) ?_
      rintro v w ⟨rfl, rfl⟩
      first | refine valP_ok (not_ok _ _) ?_ | refine valP_ok (notb_ok _ _) ?_
      unfold m65_12
      have htk2 : l.take (j + 1) = l.take j ++ [l[j]] := List.take_succ_eq_append_getElem hjl
      have hdr2 : ∀ ys : List Int, ys.drop (j + 1) = (ys.drop j).drop 1 := fun ys => by rw [List.drop_drop]
      refine cond_bsplit (fun e => ?_) (fun e => ?_)
      · refine valP_ok (ixz28 (by omega) _) ?_
        refine set_irow k hS hkx (by omega) ?_
        intro w hS
        rw [List.set_set] at hS
        unfold m65_13
        refine valP_ok (add_ok _ _ _ (by omega) (by omega) _) ?_
        unfold m65_10
        refine valP_ok (add_ok _ _ _ (by omega) (by omega) _) ?_
        refine ⟨⟨i + 1, j + 1, xs.set i l[j], rfl, by omega, by omega, by simp [hxl], ?_, ?_, hS⟩, by simp [intOf]; omega⟩
        · rw [htk2, List.filter_append, ← htk, List.take_succ_eq_append_getElem (by simp; omega), List.getElem_set_self, List.take_set_of_le (by omega)]
          simp [e]
        · rw [List.drop_set_of_lt (by omega), hdr2, hdr2, hdr]
      · unfold m65_10
        refine valP_ok (add_ok _ _ _ (by omega) (by omega) _) ?_
        refine ⟨⟨i, j + 1, xs, rfl, by omega, by omega, hxl, ?_, ?_, hS⟩, by simp [intOf]; omega⟩
        · rw [htk2, List.filter_append, ← htk]
          simp [e]
        · rw [hdr2, hdr2, hdr]
    · have hjl : j = l.length := by omega
      subst hjl
      rw [List.take_length] at htk
      have hil : (l.filter fun x => !p x).length = i := by rw [← htk, List.length_take]; omega
      unfold m65_4
      refine valP_ok (so28 (k := i) (by omega) hnc _) ?_
      unfold irow at hS
      rw [hxl] at hS
      have hk2 : (L.set k (Res.row 3 1 (.slice (some ⟨g, 0, none⟩) l.length c) l.length (ints xs)))[k]? = some (Res.row 3 1 (.slice (some ⟨g, 0, none⟩) l.length c) l.length (ints xs)) := by simp [hkl]
      rw [show (fun x : Addr => x.add i) = fun x => x.add (i * 1) by rw [Nat.mul_one]]
      refine clear_ok (size := 1) (i := i) k sl28 (by decide) hS hk2 (by omega) ?_
      intro w' xs' hx1 hx2 hS
      rw [List.set_set] at hS
      unfold m65_5
      refine valP_ok (sh28 (by omega) _) ?_
      unfold m65_6
      rw [hil]
      refine ⟨rfl, ?_⟩
      have hk3 : (L.set k (Res.row 3 1 (.slice (some ⟨g, 0, none⟩) l.length c) l.length xs'))[k]? = some (Res.row 3 1 (.slice (some ⟨g, 0, none⟩) l.length c) l.length xs') := by simp [hkl]
      have h1 := hS.row_take (k := i) k hk3 (by omega)
      rw [List.set_set, hx2, Nat.mul_one] at h1
      have e : (ints xs).take i = ints (l.filter fun x => !p x) := by unfold ints; rw [← List.map_take, htk]
      rw [e] at h1
      unfold irow
      rw [hil]
      exact h1
/-- A coop: its generation, its members, who has and who is to have each partition. -/
structure CS where
  g : Int
  M : List Int
  H : List Int
  W : List Int
structure CA where
  m : Option Addr
  cm : Nat
  h : Option Addr
  ch : Nat
  q : Option Addr
  cq : Nat
abbrev coopC (t b : Nat) (s : CS) (X : CA) : Res := Res.cells b t [.int .i64 s.g, .slice X.m s.M.length X.cm, .slice X.h s.H.length X.ch, .slice X.q s.W.length X.cq]
abbrev coopL (t b : Nat) (s : CS) (X : CA) : List Res := [coopC t b s X, irow (.slice X.m s.M.length X.cm) s.M, irow (.slice X.h s.H.length X.ch) s.H, irow (.slice X.q s.W.length X.cq) s.W]
theorem is_ret {w0 w : World} {F : List Nat} {L : List Res} {b : Nat} {s : CS} {X : CA} (hl : s.M.length ≤ 1000) (hS : St w0 F w (coopL 94 b s X ++ L)) (m : Int) :
    Ret Try.prog 61 #[.pointer (some ⟨b, 0, none⟩), .int .i64 m] w fun v w' => v = .bool (decide (m ∈ s.M)) ∧ w' = w := by
  refine s61 _ _ ?_
  unfold m61
  unfold m61_0
  unfold m61_1
  refine nil_ok ?_
  first | refine valP_ok (fa94_1 _ _) ?_ | refine valP_ok (fao94_1 _ _ _) ?_
  first | refine valP_ok (ld28 (hS.cell 0 rfl rfl)) ?_ | refine valP_ok (ld28 (hS.cell 1 rfl rfl)) ?_ | refine valP_ok (ld28 (hS.cell 2 rfl rfl)) ?_ | refine valP_ok (ld28 (hS.cell 3 rfl rfl)) ?_ | refine valP_ok (ld28 (hS.cell 4 rfl rfl)) ?_ | refine valP_ok (ld28 (by assumption)) ?_
  refine callR (by kernel_rfl) (contains_ret _ _ s.M m w (hS.row_rd 1 rfl) (by omega)) ?_
  rintro v w ⟨rfl, rfl⟩
  unfold m61_2
  exact ⟨rfl, rfl⟩
theorem gen_ret {w0 w : World} {F : List Nat} {L : List Res} {b : Nat} {s : CS} {X : CA} (hS : St w0 F w (coopL 94 b s X ++ L)) :
    Ret Try.prog 35 #[.pointer (some ⟨b, 0, none⟩)] w fun v w' => v = .int .i64 s.g ∧ w' = w := by
  refine s35 _ ?_
  unfold m35
  unfold m35_0
  unfold m35_1
  first | refine valP_ok (eq23n _ _ _) ?_ | refine valP_ok (eq23s _ _ _ _) ?_
  unfold m35_4
  refine cond_f rfl ?_
  unfold m35_2
  refine nil_ok ?_
  first | refine valP_ok (fa94_0 _ _) ?_ | refine valP_ok (fao94_0 _ _ _) ?_
  first | refine valP_ok (ld3 (hS.cell 0 rfl rfl)) ?_ | refine valP_ok (ld3 (hS.cell 1 rfl rfl)) ?_ | refine valP_ok (ld3 (hS.cell 2 rfl rfl)) ?_ | refine valP_ok (ld3 (hS.cell 3 rfl rfl)) ?_ | refine valP_ok (ld3 (hS.cell 4 rfl rfl)) ?_ | refine valP_ok (ld3 (by assumption)) ?_
  unfold m35_3
  exact ⟨rfl, rfl⟩
theorem members_clone {w0 w : World} {F : List Nat} {L : List Res} {b : Nat} {s : CS} {X : CA} (hl : s.M.length ≤ 1000) (hS : St w0 F w (coopL 94 b s X ++ L)) :
    Ret Try.prog 18 #[.pointer (some ⟨b, 0, none⟩)] w fun v w' => ∃ A c, v = .slice A s.M.length c ∧ St w0 F w' (irow (.slice A s.M.length c) s.M :: (coopL 94 b s X ++ L)) := by
  refine s18 _ ?_
  unfold m18
  unfold m18_0
  unfold m18_1
  first | refine valP_ok (eq23n _ _ _) ?_ | refine valP_ok (eq23s _ _ _ _) ?_
  unfold m18_4
  refine cond_f rfl ?_
  unfold m18_2
  refine nil_ok ?_
  first | refine valP_ok (fa94_1 _ _) ?_ | refine valP_ok (fao94_1 _ _ _) ?_
  first | refine valP_ok (ld28 (hS.cell 0 rfl rfl)) ?_ | refine valP_ok (ld28 (hS.cell 1 rfl rfl)) ?_ | refine valP_ok (ld28 (hS.cell 2 rfl rfl)) ?_ | refine valP_ok (ld28 (hS.cell 3 rfl rfl)) ?_ | refine valP_ok (ld28 (hS.cell 4 rfl rfl)) ?_ | refine valP_ok (ld28 (by assumption)) ?_
  refine callR (by kernel_rfl) (clone_ret 1 hS rfl (by omega)) ?_
  rintro v w ⟨A, c, rfl, hS⟩
  unfold m18_3
  exact ⟨A, c, rfl, hS⟩
theorem have_clone {w0 w : World} {F : List Nat} {L : List Res} {b : Nat} {s : CS} {X : CA} (hl : s.H.length ≤ 1000) (hS : St w0 F w (coopL 94 b s X ++ L)) :
    Ret Try.prog 19 #[.pointer (some ⟨b, 0, none⟩)] w fun v w' => ∃ A c, v = .slice A s.H.length c ∧ St w0 F w' (irow (.slice A s.H.length c) s.H :: (coopL 94 b s X ++ L)) := by
  refine s19 _ ?_
  unfold m19
  unfold m19_0
  unfold m19_1
  first | refine valP_ok (eq23n _ _ _) ?_ | refine valP_ok (eq23s _ _ _ _) ?_
  unfold m19_4
  refine cond_f rfl ?_
  unfold m19_2
  refine nil_ok ?_
  first | refine valP_ok (fa94_2 _ _) ?_ | refine valP_ok (fao94_2 _ _ _) ?_
  first | refine valP_ok (ld28 (hS.cell 0 rfl rfl)) ?_ | refine valP_ok (ld28 (hS.cell 1 rfl rfl)) ?_ | refine valP_ok (ld28 (hS.cell 2 rfl rfl)) ?_ | refine valP_ok (ld28 (hS.cell 3 rfl rfl)) ?_ | refine valP_ok (ld28 (hS.cell 4 rfl rfl)) ?_ | refine valP_ok (ld28 (by assumption)) ?_
  refine callR (by kernel_rfl) (clone_ret 2 hS rfl (by omega)) ?_
  rintro v w ⟨A, c, rfl, hS⟩
  unfold m19_3
  exact ⟨A, c, rfl, hS⟩
theorem want_clone {w0 w : World} {F : List Nat} {L : List Res} {b : Nat} {s : CS} {X : CA} (hl : s.W.length ≤ 1000) (hS : St w0 F w (coopL 94 b s X ++ L)) :
    Ret Try.prog 20 #[.pointer (some ⟨b, 0, none⟩)] w fun v w' => ∃ A c, v = .slice A s.W.length c ∧ St w0 F w' (irow (.slice A s.W.length c) s.W :: (coopL 94 b s X ++ L)) := by
  refine s20 _ ?_
  unfold m20
  unfold m20_0
  unfold m20_1
  first | refine valP_ok (eq23n _ _ _) ?_ | refine valP_ok (eq23s _ _ _ _) ?_
  unfold m20_4
  refine cond_f rfl ?_
  unfold m20_2
  refine nil_ok ?_
  first | refine valP_ok (fa94_3 _ _) ?_ | refine valP_ok (fao94_3 _ _ _) ?_
  first | refine valP_ok (ld28 (hS.cell 0 rfl rfl)) ?_ | refine valP_ok (ld28 (hS.cell 1 rfl rfl)) ?_ | refine valP_ok (ld28 (hS.cell 2 rfl rfl)) ?_ | refine valP_ok (ld28 (hS.cell 3 rfl rfl)) ?_ | refine valP_ok (ld28 (hS.cell 4 rfl rfl)) ?_ | refine valP_ok (ld28 (by assumption)) ?_
  refine callR (by kernel_rfl) (clone_ret 3 hS rfl (by omega)) ?_
  rintro v w ⟨A, c, rfl, hS⟩
  unfold m20_3
  exact ⟨A, c, rfl, hS⟩
theorem rests_ret {w0 w : World} {F : List Nat} {L : List Res} {b : Nat} {s : CS} {X : CA} (hl : s.H.length ≤ 1000) (hS : St w0 F w (coopL 94 b s X ++ L)) :
    Ret Try.prog 23 #[.pointer (some ⟨b, 0, none⟩)] w fun v w' => v = .bool (decide (s.H = s.W)) ∧ St w0 F w' (coopL 94 b s X ++ L) := by
  refine s23 _ ?_
  unfold m23
  unfold m23_0
  unfold m23_1
  refine drawn_ok hS ?_
  intro w hS
  first | refine valS_ok (ne23n _ _ _) ?_ | refine valS_ok (ne23s _ _ _ _) ?_
  refine cond_t rfl ?_
  refine nil_ok ?_
  first | refine valS_ok (fa94_2 _ _) ?_ | refine valS_ok (fao94_2 _ _ _) ?_
  first | refine valS_ok (ld28 (hS.cell 0 rfl rfl)) ?_ | refine valS_ok (ld28 (hS.cell 1 rfl rfl)) ?_ | refine valS_ok (ld28 (hS.cell 2 rfl rfl)) ?_ | refine valS_ok (ld28 (hS.cell 3 rfl rfl)) ?_ | refine valS_ok (ld28 (hS.cell 4 rfl rfl)) ?_ | refine valS_ok (ld28 (by assumption)) ?_
  refine nil_ok ?_
  first | refine valS_ok (fa94_3 _ _) ?_ | refine valS_ok (fao94_3 _ _ _) ?_
  first | refine valS_ok (ld28 (hS.cell 0 rfl rfl)) ?_ | refine valS_ok (ld28 (hS.cell 1 rfl rfl)) ?_ | refine valS_ok (ld28 (hS.cell 2 rfl rfl)) ?_ | refine valS_ok (ld28 (hS.cell 3 rfl rfl)) ?_ | refine valS_ok (ld28 (hS.cell 4 rfl rfl)) ?_ | refine valS_ok (ld28 (by assumption)) ?_
  refine callR (by kernel_rfl) (equal_ret (by omega) hS (Bes.of_row 2 rfl) (Bes.of_row 3 rfl)) ?_
  rintro v w ⟨rfl, hS⟩
  first | refine pick_dt (by first | assumption | omega) ?_ | refine pick_df (by first | assumption | omega) ?_ | refine pick_t (by first | rfl | assumption) ?_ | refine pick_f (by first | rfl | assumption) ?_ | refine pick_dt rfl ?_ | refine pick_df (not_not_intro rfl) ?_
  unfold m23_2
  exact ⟨rfl, hS⟩
/-- What nobody has goes to whom it is to go. -/
def giveL (H W : List Int) : List Int := List.zipWith (fun h w => if h = 0 then w else h) H W
theorem giveL_len {H W : List Int} (h : W.length = H.length) : (giveL H W).length = H.length := by simp [giveL, h]
theorem giveL_at {H W : List Int} (i : Nat) (h : i < (giveL H W).length) (h1 : i < H.length) (h2 : i < W.length) : (giveL H W)[i] = if H[i] = 0 then W[i] else H[i] := by simp [giveL]
theorem give_ret {w0 w : World} {F : List Nat} {L : List Res} {b : Nat} {s : CS} {X : CA} (hl : s.H.length ≤ 1000) (hw : s.W.length = s.H.length) (hS : St w0 F w (coopL 94 b s X ++ L)) :
    Ret Try.prog 67 #[.pointer (some ⟨b, 0, none⟩)] w fun v w' => St w0 F w' (coopL 94 b { s with H := giveL s.H s.W } X ++ L) := by
  have hgl := giveL_len hw
  refine s67 _ ?_
  unfold m67
  unfold m67_0
  refine nil_ok ?_
  first | refine valP_ok (fa94_2 _ _) ?_ | refine valP_ok (fao94_2 _ _ _) ?_
  first | refine valP_ok (ld28 (hS.cell 0 rfl rfl)) ?_ | refine valP_ok (ld28 (hS.cell 1 rfl rfl)) ?_ | refine valP_ok (ld28 (hS.cell 2 rfl rfl)) ?_ | refine valP_ok (ld28 (hS.cell 3 rfl rfl)) ?_ | refine valP_ok (ld28 (hS.cell 4 rfl rfl)) ?_ | refine valP_ok (ld28 (by assumption)) ?_
  refine builtin_ok (len28 _) ?_
  unfold m67_1
  refine loop_in (fun u w' => ∃ p : Nat, u = .int .i64 p ∧ p ≤ s.H.length ∧ St w0 F w' (coopL 94 b { s with H := partW s.H (giveL s.H s.W) p } X ++ L)) (fun u _ => s.H.length - (intOf u).toNat) ⟨0, rfl, by omega, by rw [partW_zero]; exact hS⟩ ?_
  clear hS
  rintro u w ⟨p, rfl, hp, hS⟩
  have hpl := partW_len hgl hp
  unfold m67_2
  refine valP_ok (lss_ok _ _ _ _ _ _ _) ?_
  unfold m67_3
  refine cond_split (fun h => ?_) (fun h => ?_)
  · have hlt : p < s.H.length := by omega
    have hlw : p < s.W.length := by omega
    have hpt : p < (partW s.H (giveL s.H s.W) p).length := by omega
    obtain ⟨g, hg⟩ := hS.row_ptr 2 rfl (by simp only; omega)
    obtain ⟨m, cm, hh, ch, q, cq⟩ := X
    simp only at hg
    subst hg
    obtain ⟨g2, hg2⟩ := hS.row_ptr 3 rfl (by simp only; omega)
    simp only at hg2
    subst hg2
    have hc := hS.row_cell 2 rfl (ints_get hpt)
    rw [partW_at hgl hlt] at hc
    have hga := giveL_at (H := s.H) (W := s.W) p (by omega) hlt hlw
    unfold m67_4
    first | refine valP_ok (ixz28 (by first | assumption | omega) _) ?_ | refine valP_ok (ix28 (by first | assumption | omega) _) ?_
    first | refine valP_ok (ld3 (hS.cell 0 rfl rfl)) ?_ | refine valP_ok (ld3 (hS.cell 1 rfl rfl)) ?_ | refine valP_ok (ld3 (hS.cell 2 rfl rfl)) ?_ | refine valP_ok (ld3 (hS.cell 3 rfl rfl)) ?_ | refine valP_ok (ld3 (hS.cell 4 rfl rfl)) ?_ | refine valP_ok (ld3 (by assumption)) ?_
    unfold m67_6
    refine valP_ok (eq3 _ _ _ _ _) ?_
    unfold m67_7
    refine cond_split (fun e => ?_) (fun e => ?_)
    · refine drawn_ok hS ?_
      intro w hS
      have hc3 := hS.row_cell 3 rfl (ints_get hlw)
      refine nil_ok ?_
      first | refine valS_ok (fa94_2 _ _) ?_ | refine valS_ok (fao94_2 _ _ _) ?_
      first | refine valS_ok (ld28 (hS.cell 0 rfl rfl)) ?_ | refine valS_ok (ld28 (hS.cell 1 rfl rfl)) ?_ | refine valS_ok (ld28 (hS.cell 2 rfl rfl)) ?_ | refine valS_ok (ld28 (hS.cell 3 rfl rfl)) ?_ | refine valS_ok (ld28 (hS.cell 4 rfl rfl)) ?_ | refine valS_ok (ld28 (by assumption)) ?_
      refine nil_ok ?_
      first | refine valS_ok (fa94_3 _ _) ?_ | refine valS_ok (fao94_3 _ _ _) ?_
      first | refine valS_ok (ld28 (hS.cell 0 rfl rfl)) ?_ | refine valS_ok (ld28 (hS.cell 1 rfl rfl)) ?_ | refine valS_ok (ld28 (hS.cell 2 rfl rfl)) ?_ | refine valS_ok (ld28 (hS.cell 3 rfl rfl)) ?_ | refine valS_ok (ld28 (hS.cell 4 rfl rfl)) ?_ | refine valS_ok (ld28 (by assumption)) ?_
      first | refine valS_ok (ixz28 (by first | assumption | omega) _) ?_ | refine valS_ok (ix28 (by first | assumption | omega) _) ?_
      first | refine valS_ok (ld3 (hS.cell 0 rfl rfl)) ?_ | refine valS_ok (ld3 (hS.cell 1 rfl rfl)) ?_ | refine valS_ok (ld3 (hS.cell 2 rfl rfl)) ?_ | refine valS_ok (ld3 (hS.cell 3 rfl rfl)) ?_ | refine valS_ok (ld3 (hS.cell 4 rfl rfl)) ?_ | refine valS_ok (ld3 (by assumption)) ?_
      first | refine valS_ok (ixz28 (by first | assumption | omega) _) ?_ | refine valS_ok (ix28 (by first | assumption | omega) _) ?_
      refine set_irow 2 hS rfl hpt ?_
      intro w hS
      simp only [List.set_cons_zero, List.set_cons_succ, List.cons_append, List.nil_append] at hS
      rw [if_pos e] at hga
      unfold m67_5
      refine valP_ok (add_ok _ _ _ (by omega) (by omega) _) ?_
      refine ⟨⟨p + 1, rfl, by omega, ?_⟩, by simp [intOf]; omega⟩
      rw [partW_succ hgl hlt, hga]
      show St w0 F w ([_, _, _, _] ++ L)
      simp only [coopC, List.length_set] at hS ⊢
      exact hS
    · rw [if_neg e] at hga
      unfold m67_5
      refine valP_ok (add_ok _ _ _ (by omega) (by omega) _) ?_
      refine ⟨⟨p + 1, rfl, by omega, ?_⟩, by simp [intOf]; omega⟩
      rw [partW_same hgl hlt hga]
      exact hS
  · have hpe : p = s.H.length := by omega
    subst hpe
    rw [partW_all hgl] at hS
    exact hS
/-- What a coop is ahead of a turn. -/
structure CPre (s : CS) : Prop where
  rise : s.M.Pairwise (· < ·)
  len : s.M.length ≤ 8
  each : ∀ x ∈ s.M, 1 ≤ x ∧ x ≤ 1099511627776
  parts : 1 ≤ s.H.length ∧ s.H.length ≤ 16
  same : s.W.length = s.H.length
  bH : ∀ x ∈ s.H, 0 ≤ x ∧ x ≤ 1099511627776
  bW : ∀ x ∈ s.W, 0 ≤ x ∧ x ≤ 1099511627776
  g0 : 0 ≤ s.g ∧ s.g ≤ 1000000000
def keepH (s : CS) : List Int := s.H.map fun m => if m ∈ s.M then m else 0
def turnW (s : CS) : List Int := stickyL s.H.length s.M (giveL (keepH s) s.W)
def turned (s : CS) : CS := ⟨s.g + 1, s.M, giveL (keepH s) (turnW s), turnW s⟩
theorem giveL_in {H W : List Int} {p : Int → Prop} (h1 : ∀ x ∈ H, p x) (h2 : ∀ x ∈ W, p x) : ∀ x ∈ giveL H W, p x := fun x hx => by
  obtain ⟨i, hi, rfl⟩ := List.mem_iff_getElem.1 hx
  have hi2 : i < H.length ∧ i < W.length := by simp [giveL] at hi; omega
  rw [giveL_at i hi hi2.1 hi2.2]
  split
  · exact h2 _ (List.getElem_mem _)
  · exact h1 _ (List.getElem_mem _)
theorem keepH_len (s : CS) : (keepH s).length = s.H.length := by simp [keepH]
theorem keepH_at (s : CS) (i : Nat) (h : i < (keepH s).length) (h1 : i < s.H.length) : (keepH s)[i] = if s.H[i] ∈ s.M then s.H[i] else 0 := by simp [keepH]
theorem CPre.bad {s : CS} (h : CPre s) : ¬ badParts s.H.length := by have := h.parts; unfold badParts; omega
theorem CPre.bM {s : CS} (h : CPre s) : ∀ x ∈ s.M, -9223372036854775808 ≤ x ∧ x ≤ 9223372036854775807 := fun x hx => by have := h.each x hx; omega
theorem CPre.pos {s : CS} (h : CPre s) : ∀ x ∈ s.M, 0 < x := fun x hx => by have := h.each x hx; omega
theorem CPre.mem {s : CS} (h : CPre s) : membersL s.M = s.M := membersL_of h.rise fun x => ⟨fun hx => ⟨hx, h.pos x hx⟩, fun hx => hx.1⟩
theorem CPre.wlen {s : CS} (h : CPre s) : (turnW s).length = s.H.length := by
  have := stickyL_len (old := giveL (keepH s) s.W) h.bad h.rise (by have := h.len; omega) h.bM
  unfold turnW
  rw [this]
  omega
theorem turn_ret {w0 w : World} {F : List Nat} {L : List Res} {b : Nat} {s : CS} {X : CA} (hs : CPre s) (hS : St w0 F w (coopL 94 b s X ++ L)) :
    Ret Try.prog 60 #[.pointer (some ⟨b, 0, none⟩)] w fun v w' => ∃ X', St w0 F w' (coopL 94 b (turned s) X' ++ L) := by
  have hg := hs.g0
  have hp := hs.parts
  have hkl := keepH_len s
  have hsame := hs.same
  have hwl := hs.wlen
  refine s60 _ ?_
  unfold m60
  unfold m60_0
  refine nil_ok ?_
  first | refine valP_ok (fa94_0 _ _) ?_ | refine valP_ok (fao94_0 _ _ _) ?_
  first | refine valP_ok (ld3 (hS.cell 0 rfl rfl)) ?_ | refine valP_ok (ld3 (hS.cell 1 rfl rfl)) ?_ | refine valP_ok (ld3 (hS.cell 2 rfl rfl)) ?_ | refine valP_ok (ld3 (hS.cell 3 rfl rfl)) ?_ | refine valP_ok (ld3 (hS.cell 4 rfl rfl)) ?_ | refine valP_ok (ld3 (by assumption)) ?_
  refine valP_ok (add_ok _ _ _ (by omega) (by omega) _) ?_
  refine nil_ok ?_
  first | refine valP_ok (fa94_0 _ _) ?_ | refine valP_ok (fao94_0 _ _ _) ?_
  first | refine store_at 0 st3 hS rfl (by simp) rfl ?_ | refine store_at 1 st3 hS rfl (by simp) rfl ?_ | refine store_at 2 st3 hS rfl (by simp) rfl ?_ | refine store_at 3 st3 hS rfl (by simp) rfl ?_ | refine store_at 4 st3 hS rfl (by simp) rfl ?_
  intro w hS
  simp only [List.set_cons_zero, List.set_cons_succ] at hS
  unfold m60_1
  refine nil_ok ?_
  first | refine valP_ok (fa94_2 _ _) ?_ | refine valP_ok (fao94_2 _ _ _) ?_
  first | refine valP_ok (ld28 (hS.cell 0 rfl rfl)) ?_ | refine valP_ok (ld28 (hS.cell 1 rfl rfl)) ?_ | refine valP_ok (ld28 (hS.cell 2 rfl rfl)) ?_ | refine valP_ok (ld28 (hS.cell 3 rfl rfl)) ?_ | refine valP_ok (ld28 (hS.cell 4 rfl rfl)) ?_ | refine valP_ok (ld28 (by assumption)) ?_
  refine builtin_ok (len28 _) ?_
  unfold m60_13
  have hS : St w0 F w (coopL 94 b { s with g := s.g + 1 } X ++ L) := hS
  have hlen : s.M.length ≤ 8 := hs.len
  refine loop_in (fun u w' => ∃ p : Nat, u = .int .i64 p ∧ p ≤ s.H.length ∧ St w0 F w' (coopL 94 b { s with g := s.g + 1, H := partW s.H (keepH s) p } X ++ L)) (fun u _ => s.H.length - (intOf u).toNat) ⟨0, rfl, by omega, by rw [partW_zero]; exact hS⟩ ?_
  clear hS
  rintro u w ⟨p, rfl, hpp, hS⟩
  have hpl := partW_len hkl hpp
  unfold m60_14
  refine valP_ok (lss_ok _ _ _ _ _ _ _) ?_
  unfold m60_15
  refine cond_split (fun h => ?_) (fun h => ?_)
  · have hlt : p < s.H.length := by omega
    have hpt : p < (partW s.H (keepH s) p).length := by omega
    obtain ⟨g, hg2⟩ := hS.row_ptr 2 rfl (by simp only; omega)
    obtain ⟨m, cm, hh, ch, q, cq⟩ := X
    simp only at hg2
    subst hg2
    have hc := hS.row_cell 2 rfl (ints_get hpt)
    rw [partW_at hkl hlt] at hc
    have hga := keepH_at s p (by omega) hlt
    unfold m60_16
    first | refine valP_ok (ixz28 (by first | assumption | omega) _) ?_ | refine valP_ok (ix28 (by first | assumption | omega) _) ?_
    first | refine valP_ok (ld3 (hS.cell 0 rfl rfl)) ?_ | refine valP_ok (ld3 (hS.cell 1 rfl rfl)) ?_ | refine valP_ok (ld3 (hS.cell 2 rfl rfl)) ?_ | refine valP_ok (ld3 (hS.cell 3 rfl rfl)) ?_ | refine valP_ok (ld3 (hS.cell 4 rfl rfl)) ?_ | refine valP_ok (ld3 (by assumption)) ?_
    unfold m60_18
    refine callR (by kernel_rfl) (is_ret (by simp only; omega) hS _) ?_
    rintro v w ⟨rfl, rfl⟩
    first | refine valP_ok (not_ok _ _) ?_ | refine valP_ok (notb_ok _ _) ?_
    unfold m60_19
    refine cond_split (fun e => ?_) (fun e => ?_)
    · rw [if_neg e] at hga
      refine nil_ok ?_
      first | refine valP_ok (fa94_2 _ _) ?_ | refine valP_ok (fao94_2 _ _ _) ?_
      first | refine valP_ok (ld28 (hS.cell 0 rfl rfl)) ?_ | refine valP_ok (ld28 (hS.cell 1 rfl rfl)) ?_ | refine valP_ok (ld28 (hS.cell 2 rfl rfl)) ?_ | refine valP_ok (ld28 (hS.cell 3 rfl rfl)) ?_ | refine valP_ok (ld28 (hS.cell 4 rfl rfl)) ?_ | refine valP_ok (ld28 (by assumption)) ?_
      first | refine valP_ok (ixz28 (by first | assumption | omega) _) ?_ | refine valP_ok (ix28 (by first | assumption | omega) _) ?_
      refine set_irow 2 hS rfl hpt ?_
      intro w hS
      simp only [List.set_cons_zero, List.set_cons_succ, List.cons_append, List.nil_append] at hS
      unfold m60_17
      refine valP_ok (add_ok _ _ _ (by omega) (by omega) _) ?_
      refine ⟨⟨p + 1, rfl, by omega, ?_⟩, by simp [intOf]; omega⟩
      rw [partW_succ hkl hlt, hga]
      show St w0 F w ([_, _, _, _] ++ L)
      simp only [coopC, List.length_set] at hS ⊢
      exact hS
    · rw [if_pos (Decidable.not_not.1 e)] at hga
      unfold m60_17
      refine valP_ok (add_ok _ _ _ (by omega) (by omega) _) ?_
      refine ⟨⟨p + 1, rfl, by omega, ?_⟩, by simp [intOf]; omega⟩
      rw [partW_same hkl hlt hga]
      exact hS
  have hpe : p = s.H.length := by omega
  rw [hpe, partW_all hkl] at hS
  clear hpl h hpp hpe p
  unfold m60_2
  refine nil_ok ?_
  first | refine valP_ok (fa94_3 _ _) ?_ | refine valP_ok (fao94_3 _ _ _) ?_
  first | refine valP_ok (ld28 (hS.cell 0 rfl rfl)) ?_ | refine valP_ok (ld28 (hS.cell 1 rfl rfl)) ?_ | refine valP_ok (ld28 (hS.cell 2 rfl rfl)) ?_ | refine valP_ok (ld28 (hS.cell 3 rfl rfl)) ?_ | refine valP_ok (ld28 (hS.cell 4 rfl rfl)) ?_ | refine valP_ok (ld28 (by assumption)) ?_
  refine callR (by kernel_rfl) (clone_ret 3 hS rfl (by simp only; omega)) ?_
  rintro v w ⟨A, c, rfl, hS⟩
  simp only at hS
  unfold m60_3
  refine nil_ok ?_
  first | refine valP_ok (fa94_2 _ _) ?_ | refine valP_ok (fao94_2 _ _ _) ?_
  first | refine valP_ok (ld28 (hS.cell 0 rfl rfl)) ?_ | refine valP_ok (ld28 (hS.cell 1 rfl rfl)) ?_ | refine valP_ok (ld28 (hS.cell 2 rfl rfl)) ?_ | refine valP_ok (ld28 (hS.cell 3 rfl rfl)) ?_ | refine valP_ok (ld28 (hS.cell 4 rfl rfl)) ?_ | refine valP_ok (ld28 (by assumption)) ?_
  refine builtin_ok (len28 _) ?_
  unfold m60_6
  have hgw : (giveL (keepH s) s.W).length = s.W.length := by rw [giveL_len (by omega)]; omega
  refine loop_in (fun u w' => ∃ p : Nat, u = .int .i64 p ∧ p ≤ s.H.length ∧ St w0 F w' (irow (.slice A (partW s.W (giveL (keepH s) s.W) p).length c) (partW s.W (giveL (keepH s) s.W) p) :: (coopL 94 b { s with g := s.g + 1, H := keepH s } X ++ L))) (fun u _ => s.H.length - (intOf u).toNat) ⟨0, rfl, by omega, by rw [partW_zero]; exact hS⟩ ?_
  clear hS
  rintro u w ⟨p, rfl, hpp, hS⟩
  have hpl := partW_len hgw (p := p) (by omega)
  unfold m60_7
  refine valP_ok (lss_ok _ _ _ _ _ _ _) ?_
  unfold m60_8
  simp only
  refine cond_split (fun h => ?_) (fun h => ?_)
  · have hlt : p < s.H.length := by omega
    have hlk : p < (keepH s).length := by omega
    have hlw : p < s.W.length := by omega
    have hpt : p < (partW s.W (giveL (keepH s) s.W) p).length := by omega
    obtain ⟨g, hg2⟩ := hS.row_ptr 3 rfl (by simp only; omega)
    obtain ⟨m, cm, hh, ch, q, cq⟩ := X
    simp only at hg2
    subst hg2
    obtain ⟨g3, rfl⟩ := hS.row_ptr 0 rfl (by omega)
    have hc := hS.row_cell 3 rfl (ints_get hlk)
    have hga := giveL_at (H := keepH s) (W := s.W) p (by omega) hlk hlw
    unfold m60_9
    first | refine valP_ok (ixz28 (by first | assumption | omega) _) ?_ | refine valP_ok (ix28 (by first | assumption | omega) _) ?_
    first | refine valP_ok (ld3 (hS.cell 0 rfl rfl)) ?_ | refine valP_ok (ld3 (hS.cell 1 rfl rfl)) ?_ | refine valP_ok (ld3 (hS.cell 2 rfl rfl)) ?_ | refine valP_ok (ld3 (hS.cell 3 rfl rfl)) ?_ | refine valP_ok (ld3 (hS.cell 4 rfl rfl)) ?_ | refine valP_ok (ld3 (by assumption)) ?_
    unfold m60_11
    refine valP_ok (ne3 _ _ _ _ _) ?_
    unfold m60_12
    refine cond_split (fun e => ?_) (fun e => ?_)
    · rw [if_neg e] at hga
      refine valP_ok (ixz28 (by omega) _) ?_
      refine set_irow 0 hS rfl hpt ?_
      intro w hS
      simp only [List.set_cons_zero] at hS
      unfold m60_10
      refine valP_ok (add_ok _ _ _ (by omega) (by omega) _) ?_
      refine ⟨⟨p + 1, rfl, by omega, ?_⟩, by simp [intOf]; omega⟩
      rw [partW_succ hgw hlw, hga]
      exact hS
    · rw [if_pos (Decidable.not_not.1 e)] at hga
      unfold m60_10
      refine valP_ok (add_ok _ _ _ (by omega) (by omega) _) ?_
      refine ⟨⟨p + 1, rfl, by omega, ?_⟩, by simp [intOf]; omega⟩
      rw [partW_same hgw hlw hga]
      exact hS
  have hpe : p = s.W.length := by omega
  rw [hpe, partW_all hgw] at hS
  clear hpl h hpp hpe p
  rw [← hgw]
  unfold m60_4
  refine drawn_ok hS ?_
  intro w hS
  obtain ⟨J, hJ0, hj1, hj2, hJs⟩ : ∃ J : World → Prop, J w ∧ (∀ w, J w → w.cell? ⟨b, 2, none⟩ = some (.slice X.h (keepH s).length X.ch)) ∧ (∀ w, J w → w.cell? ⟨b, 1, none⟩ = some (.slice X.m s.M.length X.cm)) ∧
      (∀ w, w.cell? ⟨b, 2, none⟩ = some (.slice X.h (keepH s).length X.ch) → w.cell? ⟨b, 1, none⟩ = some (.slice X.m s.M.length X.cm) → J w) :=
    ⟨fun w => w.cell? ⟨b, 2, none⟩ = some (.slice X.h (keepH s).length X.ch) ∧ w.cell? ⟨b, 1, none⟩ = some (.slice X.m s.M.length X.cm), ⟨hS.cell 1 rfl rfl, hS.cell 1 rfl rfl⟩, fun w h => h.1, fun w h => h.2, fun w h1 h2 => ⟨h1, h2⟩⟩
  refine ⟨J, hJ0, ?_⟩
  refine nil_ok ?_
  first | refine valJ_ok (fa94_2 _) ?_ | refine valJ_ok (fao94_2 _ _) ?_
  first | refine valJ_load ld28 (AllH.cell 0 rfl rfl) ?_ | refine valJ_load ld28 (AllH.cell 1 rfl rfl) ?_ | refine valJ_load ld28 (AllH.cell 2 rfl rfl) ?_ | refine valJ_load ld28 (AllH.cell 3 rfl rfl) ?_ | refine valJ_load ld28 (AllH.cell 4 rfl rfl) ?_ | refine valJ_load ld28 (by assumption) ?_
  refine builtinJ_ok (len28) ?_
  refine nil_ok ?_
  first | refine valJ_ok (fa94_1 _) ?_ | refine valJ_ok (fao94_1 _ _) ?_
  first | refine valJ_load ld28 (AllH.cell 0 rfl rfl) ?_ | refine valJ_load ld28 (AllH.cell 1 rfl rfl) ?_ | refine valJ_load ld28 (AllH.cell 2 rfl rfl) ?_ | refine valJ_load ld28 (AllH.cell 3 rfl rfl) ?_ | refine valJ_load ld28 (AllH.cell 4 rfl rfl) ?_ | refine valJ_load ld28 (by assumption) ?_
  have hbo : ∀ x ∈ giveL (keepH s) s.W, -9223372036854775808 ≤ x ∧ x ≤ 9223372036854775807 := giveL_in (fun x hx => by
    obtain ⟨y, hy, rfl⟩ := List.mem_map.1 hx
    have := hs.bH y hy
    split <;> omega) (fun x hx => by have := hs.bW x hx; omega)
  refine callR (by kernel_rfl) (sticky_ret (by omega) (by omega) hS (Bes.of_row 2 rfl) (Bes.of_row 0 rfl) (by omega) hs.bM hbo) ?_
  intro v w hv
  have hbad : ¬ badParts ((keepH s).length : Int) := by rw [hkl]; exact hs.bad
  rw [if_neg hbad, hs.mem] at hv
  have eW : stickyL ((keepH s).length : Int) s.M (giveL (keepH s) s.W) = turnW s := by rw [hkl]; rfl
  rw [eW] at hv
  obtain ⟨A2, c2, rfl, hS⟩ := hv
  refine ⟨hJs w (hS.cell 2 rfl rfl) (hS.cell 2 rfl rfl), ?_⟩
  refine valJ_ok (extract_ok _ 0 rfl) ?_
  refine valJ_ok (extract_ok _ 1 rfl) ?_
  refine nil_ok ?_
  first | refine valJ_ok (fa94_3 _) ?_ | refine valJ_ok (fao94_3 _ _) ?_
  first | refine store_at 0 st28 hS rfl (by simp) rfl ?_ | refine store_at 1 st28 hS rfl (by simp) rfl ?_ | refine store_at 2 st28 hS rfl (by simp) rfl ?_ | refine store_at 3 st28 hS rfl (by simp) rfl ?_ | refine store_at 4 st28 hS rfl (by simp) rfl ?_
  intro w hS
  simp only [List.set_cons_zero, List.set_cons_succ] at hS
  refine ⟨hJs w (hS.cell 2 rfl rfl) (hS.cell 2 rfl rfl), ?_⟩
  have hS : St w0 F w (coopL 94 b ⟨s.g + 1, s.M, keepH s, turnW s⟩ ⟨X.m, X.cm, X.h, X.ch, A2, c2⟩ ++ L) := hS.pick 6 [2, 3, 4, 0] (by simp) (by decide)
  unfold m60_5
  refine callR (by kernel_rfl) (give_ret (by simp only; omega) (by simp only; omega) hS) ?_
  intro v w hS
  exact ⟨_, hS⟩
theorem new_ret {w0 w : World} {F : List Nat} {L : List Res} {parts : Int} (hp : -9223372036854775808 ≤ parts) (hp' : parts ≤ 9223372036854775807) (hS : St w0 F w L) :
    Ret Try.prog 26 #[.int .i64 parts] w fun v w' => if 1 ≤ parts ∧ parts ≤ 16 then ∃ b X, v = .tuple #[.pointer (some ⟨b, 0, none⟩), .int .i64 0] ∧ St w0 F w' (coopL 94 b ⟨0, [], List.replicate parts.toNat 0, List.replicate parts.toNat 0⟩ X ++ L)
      else v = .tuple #[.pointer none, .int .i64 1] ∧ St w0 F w' L := by
  refine s26 _ ?_
  unfold m26
  unfold m26_0
  unfold m26_1
  refine valP_ok (lss_ok _ _ _ _ _ _ _) ?_
  refine cond_split (fun h => ?_) (fun h => ?_)
  · first | refine pick_dt (by first | assumption | omega) ?_ | refine pick_df (by first | assumption | omega) ?_ | refine pick_t (by first | rfl | assumption) ?_ | refine pick_f (by first | rfl | assumption) ?_ | refine pick_dt rfl ?_ | refine pick_df (not_not_intro rfl) ?_
    unfold m26_4
    refine cond_t rfl ?_
    unfold m26_5
    show ite _ _ _
    rw [if_neg (by omega)]
    exact ⟨rfl, hS⟩
  · refine valP_ok (gtr_ok _ _ _ _ _ _ _) ?_
    first | refine pick_dt (by first | assumption | omega) ?_ | refine pick_df (by first | assumption | omega) ?_ | refine pick_t (by first | rfl | assumption) ?_ | refine pick_f (by first | rfl | assumption) ?_ | refine pick_dt rfl ?_ | refine pick_df (not_not_intro rfl) ?_
    unfold m26_4
    refine cond_split (fun h2 => ?_) (fun h2 => ?_)
    · unfold m26_5
      show ite _ _ _
      rw [if_neg (by omega)]
      exact ⟨rfl, hS⟩
    · show m26_2 _ _ _
      have ep : (Value.int .i64 parts) = Value.int .i64 ((parts.toNat : Nat) : Int) := by rw [Int.toNat_of_nonneg (by omega)]
      have hrl : (List.replicate parts.toNat (0 : Int)).length = parts.toNat := by simp
      have fin : ∀ (b1 b2 : Nat) (w : World), St w0 F w (Res.row 3 1 (.slice (some ⟨b1, 0, none⟩) parts.toNat parts.toNat) parts.toNat (madeCells (Value.int .i64 0).cells (parts.toNat * 1)).toList :: Res.row 3 1 (.slice (some ⟨b2, 0, none⟩) parts.toNat parts.toNat) parts.toNat (madeCells (Value.int .i64 0).cells (parts.toNat * 1)).toList :: L) →
          ∀ b3 w', St w0 F w' (Res.cells b3 94 [.int .i64 0, .slice none 0 0, .slice (some ⟨b1, 0, none⟩) parts.toNat parts.toNat, .slice (some ⟨b2, 0, none⟩) parts.toNat parts.toNat] :: Res.row 3 1 (.slice (some ⟨b1, 0, none⟩) parts.toNat parts.toNat) parts.toNat (madeCells (Value.int .i64 0).cells (parts.toNat * 1)).toList :: Res.row 3 1 (.slice (some ⟨b2, 0, none⟩) parts.toNat parts.toNat) parts.toNat (madeCells (Value.int .i64 0).cells (parts.toNat * 1)).toList :: L) →
          St w0 F w' (coopL 94 b3 ⟨0, [], List.replicate parts.toNat 0, List.replicate parts.toNat 0⟩ ⟨none, 0, some ⟨b1, 0, none⟩, parts.toNat, some ⟨b2, 0, none⟩, parts.toNat⟩ ++ L) := fun b1 b2 w _ b3 w' hS => by
        rw [zero_cells] at hS
        have h1 := (hS.row_nil 3 1).pick 4 [1, 0, 2, 3] (by simp) (by decide)
        show St w0 F w' ([_, _, _, _] ++ L)
        simp only [coopC, irow, hrl]
        exact h1
      unfold m26_2
      refine drawn_ok hS ?_
      intro w hS
      rw [ep]
      refine ⟨?_, ?_⟩
      · refine make_ok sl28 hS (by omega) (by unfold maxLen; omega) ?_
        intro b1 w hS
        refine make_ok sl28 hS (by omega) (by unfold maxLen; omega) ?_
        intro b2 w hS
        have hS := hS.pick 2 [1, 0] (by simp) (by decide)
        refine pureP_ok (bd94_2_3 rfl rfl) ?_
        refine new_ok (bx94 _ _ _ _ _) hS ?_
        intro b3 w' hS'
        unfold m26_3
        show ite _ _ _
        rw [if_pos (by omega)]
        exact ⟨b3, _, rfl, fin b1 b2 w hS b3 w' hS'⟩
      · refine make_ok sl28 hS (by omega) (by unfold maxLen; omega) ?_
        intro b2 w hS
        refine make_ok sl28 hS (by omega) (by unfold maxLen; omega) ?_
        intro b1 w hS
        refine pureP_ok (bd94_2_3 rfl rfl) ?_
        refine new_ok (bx94 _ _ _ _ _) hS ?_
        intro b3 w' hS'
        unfold m26_3
        show ite _ _ _
        rw [if_pos (by omega)]
        exact ⟨b3, _, rfl, fin b1 b2 w hS b3 w' hS'⟩
/-- Whom a coop has when some more are to be in; or why they may not be. -/
def addL : List Int → List Int → Int × List Int
  | M, [] => (0, M)
  | M, m :: l => if m < 1 ∨ 1099511627776 < m then (1, M) else if m ∈ M then (9, M) else addL (M ++ [m]) l
def sortL (l : List Int) : List Int := l.mergeSort fun x y => decide (x ≤ y)
def joinF (s : CS) (r : Int × List Int) : Int × CS := if r.1 ≠ 0 then (r.1, s) else if 8 < r.2.length then (5, s) else (0, turned { s with M := sortL r.2 })
def joinS (s : CS) (l : List Int) : Int × CS := if l = [] then (1, s) else joinF s (addL s.M l)
theorem addL_cons (M : List Int) (m : Int) (l : List Int) : addL M (m :: l) = if m < 1 ∨ 1099511627776 < m then (1, M) else if m ∈ M then (9, M) else addL (M ++ [m]) l := rfl
theorem addL_ok {l : List Int} : ∀ {M : List Int}, (addL M l).1 = 0 → (addL M l).2 = M ++ l ∧ (∀ x ∈ l, 1 ≤ x ∧ x ≤ 1099511627776) ∧ (∀ x ∈ l, x ∉ M) ∧ l.Pairwise (· ≠ ·) := by
  induction l with
  | nil => intro M _; simp [addL]
  | cons m l ih =>
    intro M h
    unfold addL at h ⊢
    split at h
    · cases h
    · rename_i hr
      split at h
      · cases h
      · rename_i hm
        rw [if_neg hr, if_neg hm]
        obtain ⟨h1, h2, h3, h4⟩ := ih h
        refine ⟨by rw [h1]; simp, fun x hx => ?_, fun x hx hM => ?_, List.pairwise_cons.2 ⟨fun x hx he => ?_, h4⟩⟩
        · rcases List.mem_cons.1 hx with rfl | hx
          · omega
          · exact h2 x hx
        · rcases List.mem_cons.1 hx with rfl | hx
          · exact hm hM
          · exact h3 x hx (List.mem_append_left _ hM)
        · exact h3 x hx (List.mem_append_right _ (by simp [he]))
theorem addL_len (l : List Int) : ∀ (M : List Int), (addL M l).2.length ≤ M.length + l.length := by
  induction l with
  | nil => intro M; simp [addL]
  | cons m l ih =>
    intro M
    unfold addL
    split
    · simp
    · split
      · simp
      · have := ih (M ++ [m])
        simp at this ⊢
        omega
theorem sortL_rise {M : List Int} (h : M.Pairwise (· ≠ ·)) : (sortL M).Pairwise (· < ·) := by
  have h1 : (sortL M).Pairwise (fun a b => decide (a ≤ b) = true) := List.pairwise_mergeSort (fun a b c h1 h2 => by simp only [decide_eq_true_eq] at *; omega) (fun a b => by simp only [Bool.or_eq_true, decide_eq_true_eq]; omega) M
  have h2 : (sortL M).Pairwise (· ≠ ·) := ((List.mergeSort_perm M _).pairwise_iff (fun h e => h e.symm)).2 h
  exact h1.imp₂ (fun a b h1 h2 => by simp only [decide_eq_true_eq] at h1; omega) h2
theorem sortL_mem {M : List Int} {x : Int} : x ∈ sortL M ↔ x ∈ M := List.mem_mergeSort
theorem sortL_len (M : List Int) : (sortL M).length = M.length := List.length_mergeSort _
theorem add_pre {s : CS} {l : List Int} (hs : CPre s) (h : (addL s.M l).1 = 0) (h8 : ¬ 8 < (addL s.M l).2.length) : CPre { s with M := sortL (addL s.M l).2 } := by
  obtain ⟨h1, h2, h3, h4⟩ := addL_ok h
  have hne : s.M.Pairwise (· ≠ ·) := hs.rise.imp fun h e => by omega
  refine ⟨sortL_rise ?_, by rw [sortL_len]; omega, fun x hx => ?_, hs.parts, hs.same, hs.bH, hs.bW, hs.g0⟩
  · rw [h1]
    exact List.pairwise_append.2 ⟨hne, h4, fun a ha b hb e => h3 b hb (e ▸ ha)⟩
  · rw [sortL_mem, h1] at hx
    rcases List.mem_append.1 hx with hx | hx
    · exact hs.each x hx
    · exact h2 x hx
def joinQ (w0 : World) (F : List Nat) (L : List Res) (b : Nat) (r : Int × CS) (v : Value) (w' : World) : Prop := v = .int .i64 r.1 ∧ ∃ X', St w0 F w' (coopL 94 b r.2 X' ++ L)
theorem join_ret {w0 w : World} {F : List Nat} {L : List Res} {b c : Nat} {s : CS} {X : CA} {A : Option Addr} {l : List Int} (hs : CPre s) (hl : l.length ≤ 1000) (hS : St w0 F w (coopL 94 b s X ++ L)) (hA : Bes w0 F (coopL 94 b s X ++ L) 1 A l.length (ints l)) :
    Ret Try.prog 24 #[.pointer (some ⟨b, 0, none⟩), .slice A l.length c] w (joinQ w0 F L b (joinS s l)) := by
  have hM8 := hs.len
  refine s24 _ _ ?_
  unfold m24
  unfold m24_0
  unfold m24_1
  first | refine valP_ok (eq23n _ _ _) ?_ | refine valP_ok (eq23s _ _ _ _) ?_
  refine cond_f rfl ?_
  refine builtin_ok (len28 _) ?_
  refine valP_ok (eq3 _ _ _ _ _) ?_
  first | refine pick_dt (by first | assumption | omega) ?_ | refine pick_df (by first | assumption | omega) ?_ | refine pick_t (by first | rfl | assumption) ?_ | refine pick_f (by first | rfl | assumption) ?_ | refine pick_dt rfl ?_ | refine pick_df (not_not_intro rfl) ?_
  unfold m24_22
  unfold joinS
  refine cond_split (fun h => ?_) (fun h => ?_)
  · unfold m24_23
    rw [if_pos (List.eq_nil_of_length_eq_zero (by omega))]
    exact ⟨rfl, X, hS⟩
  rw [if_neg (fun e => h (by rw [e]; rfl))]
  unfold m24_2
  refine nil_ok ?_
  first | refine valP_ok (fa94_1 _ _) ?_ | refine valP_ok (fao94_1 _ _ _) ?_
  first | refine valP_ok (ld28 (hS.cell 0 rfl rfl)) ?_ | refine valP_ok (ld28 (hS.cell 1 rfl rfl)) ?_ | refine valP_ok (ld28 (hS.cell 2 rfl rfl)) ?_ | refine valP_ok (ld28 (hS.cell 3 rfl rfl)) ?_ | refine valP_ok (ld28 (hS.cell 4 rfl rfl)) ?_ | refine valP_ok (ld28 (by assumption)) ?_
  refine callR (by kernel_rfl) (clone_ret 1 hS rfl (by omega)) ?_
  rintro v w ⟨A1, c1, rfl, hS⟩
  unfold m24_3
  refine builtin_ok (len28 _) ?_
  unfold m24_11
  refine loop_in (fun u w' => ∃ (p : Nat) (M1 : List Int) (A' : Option Addr) (c' : Nat), u = (.slice A' M1.length c', .int .i64 p) ∧ p ≤ l.length ∧ addL s.M l = addL M1 (l.drop p) ∧ M1.length ≤ 8 + p ∧ St w0 F w' (irow (.slice A' M1.length c') M1 :: (coopL 94 b s X ++ L))) (fun u _ => l.length - (intOf u.2).toNat)
    ⟨0, s.M, A1, c1, rfl, by omega, by rw [List.drop_zero], by omega, hS⟩ ?_
  clear hS
  rintro u w ⟨p, M1, A1, c1, rfl, hp, had, hml, hS⟩
  unfold m24_12
  refine valP_ok (lss_ok _ _ _ _ _ _ _) ?_
  unfold m24_13
  refine cond_split (fun h => ?_) (fun h => ?_)
  · have hlt : p < l.length := by omega
    have hr := hA w _ hS (fun r hr => .tail _ hr)
    obtain ⟨g, o, rfl⟩ := hr.some_ (by omega) (by omega)
    have hc := hr.cell_ (ints_get hlt)
    rw [List.drop_eq_getElem_cons hlt, addL_cons] at had
    have fin : ∀ (t : Bool) (K : Value × Value → World → Prop), (t = true ↔ (l[p] < 1 ∨ 1099511627776 < l[p])) →
        (addL s.M l = addL (M1 ++ [l[p]]) (l.drop (p + 1)) → ∀ A' c' w', St w0 F w' (irow (.slice A' (M1 ++ [l[p]]).length c') (M1 ++ [l[p]]) :: (coopL 94 b s X ++ L)) → K (.slice A' (M1 ++ [l[p]]).length c', .int .i64 ((p + 1 : Nat) : Int)) w') →
        m24_18 (joinQ w0 F L b (joinF s (addL s.M l))) K (.pointer (some ⟨b, 0, none⟩)) (.slice A1 M1.length c1) (.int .i64 l[p]) (.slice (some ⟨g, o, none⟩) l.length c) (.int .i64 l.length) (.int .i64 p) (.bool t) w := fun t K ht hK => by
      unfold m24_18
      refine cond_bsplit (fun h1 => ?_) (fun h1 => ?_)
      · rw [if_pos (ht.1 h1)] at had
        unfold m24_19
        rw [had]
        exact ⟨rfl, X, hS.tail⟩
      rw [if_neg (fun h => by rw [ht.2 h] at h1; cases h1)] at had
      refine callR (by kernel_rfl) (contains_ret A1 c1 M1 l[p] w (hS.row_rd 0 rfl) (by omega)) ?_
      rintro v w ⟨rfl, rfl⟩
      unfold m24_20
      refine cond_split (fun hm => ?_) (fun hm => ?_)
      · rw [if_pos hm] at had
        unfold m24_21
        rw [had]
        exact ⟨rfl, X, hS.tail⟩
      · rw [if_neg hm] at had
        unfold m24_17
        refine newslice_ok (bs28_1 rfl _) hS ?_
        intro b39 w hS
        refine append_one 0 (by omega) hS rfl ?_
        intro A2 c2 w' hS
        simp only [List.set_cons_zero] at hS
        unfold m24_15
        refine valP_ok (add_ok _ _ _ (by omega) (by omega) _) ?_
        exact hK had A2 c2 _ hS
    unfold m24_14
    first | refine valP_ok (ixz28 (by first | assumption | omega) _) ?_ | refine valP_ok (ix28 (by first | assumption | omega) _) ?_
    first | refine valP_ok (ld3 (hS.cell 0 rfl rfl)) ?_ | refine valP_ok (ld3 (hS.cell 1 rfl rfl)) ?_ | refine valP_ok (ld3 (hS.cell 2 rfl rfl)) ?_ | refine valP_ok (ld3 (hS.cell 3 rfl rfl)) ?_ | refine valP_ok (ld3 (hS.cell 4 rfl rfl)) ?_ | refine valP_ok (ld3 (by assumption)) ?_
    unfold m24_16
    refine valP_ok (lss_ok _ _ _ _ _ _ _) ?_
    refine cond_split (fun h1 => ?_) (fun h1 => ?_)
    · first | refine pick_dt (by first | assumption | omega) ?_ | refine pick_df (by first | assumption | omega) ?_ | refine pick_t (by first | rfl | assumption) ?_ | refine pick_f (by first | rfl | assumption) ?_ | refine pick_dt rfl ?_ | refine pick_df (not_not_intro rfl) ?_
      exact fin true _ ⟨fun _ => .inl h1, fun _ => rfl⟩ (fun had A' c' w' hS => ⟨⟨p + 1, _, A', c', rfl, by omega, had, by simp; omega, hS⟩, by simp [intOf]; omega⟩)
    · refine valP_ok (gtr_ok _ _ _ _ _ _ _) ?_
      first | refine pick_dt (by first | assumption | omega) ?_ | refine pick_df (by first | assumption | omega) ?_ | refine pick_t (by first | rfl | assumption) ?_ | refine pick_f (by first | rfl | assumption) ?_ | refine pick_dt rfl ?_ | refine pick_df (not_not_intro rfl) ?_
      exact fin _ _ (by simp; omega) (fun had A' c' w' hS => ⟨⟨p + 1, _, A', c', rfl, by omega, had, by simp; omega, hS⟩, by simp [intOf]; omega⟩)
  · have hpe : p = l.length := by omega
    rw [hpe, List.drop_length] at had
    have hj0 : joinF s (addL s.M l) = if 8 < M1.length then (5, s) else (0, turned { s with M := sortL M1 }) := by rw [had]; rfl
    unfold m24_4
    refine builtin_ok (len28 _) ?_
    refine valP_ok (gtr_ok _ _ _ _ _ _ _) ?_
    unfold m24_9
    refine cond_split (fun h8 => ?_) (fun h8 => ?_)
    · rw [hj0, if_pos (by omega)]
      unfold m24_10
      exact ⟨rfl, X, hS.tail⟩
    rw [hj0, if_neg (by omega)]
    have hpre := add_pre (l := l) hs (by rw [had]; rfl) (by rw [had]; show ¬ 8 < M1.length; omega)
    rw [had] at hpre
    have hpre : CPre { s with M := sortL M1 } := hpre
    unfold m24_5
    refine callR (by kernel_rfl) (values_ret A1 M1.length c1 w) ?_
    rintro v w1 ⟨rfl, hw1⟩
    have hS1 : St w0 F w1 (Res.cells w.heap.size 28 [.slice A1 M1.length c1] :: irow (.slice A1 M1.length c1) M1 :: (coopL 94 b s X ++ L)) := by rw [hw1]; exact hS.alloc 28 [.slice A1 M1.length c1]
    have hlt : w.heap.size < w1.heap.size := by rw [hw1]; simp
    have hI := ints_at (hS1.row_rd 1 rfl)
    refine callR (by kernel_rfl) (sorted_ret w.heap.size A1 c1 M1 w1 (by omega) hlt (hS1.cell 0 rfl rfl) hI) ?_
    rintro v w2 ⟨hrow, hb2⟩
    have hS := hS1.row_add (Chg.of_below hb2 []) hrow
    obtain ⟨A3, c3, rfl, _⟩ := hS.row_form 0 rfl
    refine nil_ok ?_
    first | refine valP_ok (fa94_1 _ _) ?_ | refine valP_ok (fao94_1 _ _ _) ?_
    first | refine store_at 0 st28 hS rfl (by simp) rfl ?_ | refine store_at 1 st28 hS rfl (by simp) rfl ?_ | refine store_at 2 st28 hS rfl (by simp) rfl ?_ | refine store_at 3 st28 hS rfl (by simp) rfl ?_ | refine store_at 4 st28 hS rfl (by simp) rfl ?_
    intro w hS
    simp only [List.set_cons_zero, List.set_cons_succ] at hS
    have hS3 : St w0 F w (coopL 94 b { s with M := sortL M1 } ⟨A3, c3, X.h, X.ch, X.q, X.cq⟩ ++ L) := by
      have h1 := hS.pick 7 [3, 0, 5, 6] (by simp) (by decide)
      show St w0 F w ([_, _, _, _] ++ L)
      simp only [coopC, irow, sortL_len]
      exact h1
    unfold m24_6
    refine callR (by kernel_rfl) (turn_ret hpre hS3) ?_
    rintro v w ⟨X', hS⟩
    unfold m24_7 m24_8
    exact ⟨rfl, X', hS⟩
def leaveS (s : CS) (m : Int) : Int × CS := if m ∈ s.M then (0, turned { s with M := s.M.filter fun x => !decide (x = m) }) else (11, s)
theorem leave_pre {s : CS} (hs : CPre s) (m : Int) : CPre { s with M := s.M.filter fun x => !decide (x = m) } :=
  ⟨hs.rise.sublist List.filter_sublist, by have := List.length_filter_le (fun x => !decide (x = m)) s.M; have := hs.len; simp only; omega, fun x hx => hs.each x (List.mem_filter.1 hx).1, hs.parts, hs.same, hs.bH, hs.bW, hs.g0⟩
theorem leave_ret {w0 w : World} {F : List Nat} {L : List Res} {b : Nat} {s : CS} {X : CA} (m : Int) (hs : CPre s) (hS : St w0 F w (coopL 94 b s X ++ L)) :
    Ret Try.prog 29 #[.pointer (some ⟨b, 0, none⟩), .int .i64 m] w (joinQ w0 F L b (leaveS s m)) := by
  have hM8 := hs.len
  refine s29 _ _ ?_
  unfold m29
  unfold m29_0
  refine new_ok (bx3 rfl _) hS ?_
  intro b3 w hS
  unfold m29_1
  first | refine valP_ok (eq23n _ _ _) ?_ | refine valP_ok (eq23s _ _ _ _) ?_
  refine cond_f rfl ?_
  first | refine valP_ok (ld3 (hS.cell 0 rfl rfl)) ?_ | refine valP_ok (ld3 (hS.cell 1 rfl rfl)) ?_ | refine valP_ok (ld3 (hS.cell 2 rfl rfl)) ?_ | refine valP_ok (ld3 (hS.cell 3 rfl rfl)) ?_ | refine valP_ok (ld3 (hS.cell 4 rfl rfl)) ?_ | refine valP_ok (ld3 (by assumption)) ?_
  refine callR (by kernel_rfl) (is_ret (by omega) (hS.pick 5 [1, 2, 3, 4, 0] (by simp) (by decide)) m) ?_
  rintro v w ⟨rfl, rfl⟩
  first | refine valP_ok (not_ok _ _) ?_ | refine valP_ok (notb_ok _ _) ?_
  first | refine pick_dt (by first | assumption | omega) ?_ | refine pick_df (by first | assumption | omega) ?_ | refine pick_t (by first | rfl | assumption) ?_ | refine pick_f (by first | rfl | assumption) ?_ | refine pick_dt rfl ?_ | refine pick_df (not_not_intro rfl) ?_
  unfold m29_6
  unfold leaveS
  refine cond_split (fun h => ?_) (fun h => ?_)
  · rw [if_neg h]
    unfold m29_7
    exact ⟨rfl, X, hS.tail⟩
  rw [if_pos (Decidable.not_not.1 h)]
  unfold m29_2
  refine nil_ok ?_
  first | refine valP_ok (fa94_1 _ _) ?_ | refine valP_ok (fao94_1 _ _ _) ?_
  first | refine valP_ok (ld28 (hS.cell 0 rfl rfl)) ?_ | refine valP_ok (ld28 (hS.cell 1 rfl rfl)) ?_ | refine valP_ok (ld28 (hS.cell 2 rfl rfl)) ?_ | refine valP_ok (ld28 (hS.cell 3 rfl rfl)) ?_ | refine valP_ok (ld28 (hS.cell 4 rfl rfl)) ?_ | refine valP_ok (ld28 (by assumption)) ?_
  refine valP_ok (mf66 _ _) ?_
  have hp : AsksI w0 F (Res.cells b3 3 [.int .i64 m] :: (coopL 94 b s X ++ L)) 2 X.m s.M.length X.cm 66 #[.pointer (some ⟨b3, 0, none⟩)] (fun x => decide (x = m)) := fun x w xs hxs hS => by
    show Ret Try.prog 66 #[_, _] w _
    refine s66 _ _ ?_
    unfold m66
    unfold m66_0
    unfold m66_1
    first | refine valP_ok (ld3 (hS.cell 0 rfl rfl)) ?_ | refine valP_ok (ld3 (hS.cell 1 rfl rfl)) ?_ | refine valP_ok (ld3 (hS.cell 2 rfl rfl)) ?_ | refine valP_ok (ld3 (hS.cell 3 rfl rfl)) ?_ | refine valP_ok (ld3 (hS.cell 4 rfl rfl)) ?_ | refine valP_ok (ld3 (by assumption)) ?_
    refine valP_ok (eq3 _ _ _ _ _) ?_
    unfold m66_2
    exact ⟨rfl, rfl⟩
  refine callR (by kernel_rfl) (delF_ret (by kernel_rfl) (by omega) hS rfl hp) ?_
  rintro v w ⟨rfl, hS⟩
  refine nil_ok ?_
  first | refine valP_ok (fa94_1 _ _) ?_ | refine valP_ok (fao94_1 _ _ _) ?_
  first | refine store_at 0 st28 hS rfl (by simp) rfl ?_ | refine store_at 1 st28 hS rfl (by simp) rfl ?_ | refine store_at 2 st28 hS rfl (by simp) rfl ?_ | refine store_at 3 st28 hS rfl (by simp) rfl ?_ | refine store_at 4 st28 hS rfl (by simp) rfl ?_
  intro w hS
  simp only [List.set_cons_zero, List.set_cons_succ] at hS
  have hS : St w0 F w (coopL 94 b { s with M := s.M.filter fun x => !decide (x = m) } X ++ L) := hS.pick 5 [1, 2, 3, 4] (by simp) (by decide)
  unfold m29_3
  refine callR (by kernel_rfl) (turn_ret (leave_pre hs m) hS) ?_
  rintro v w ⟨X', hS⟩
  unfold m29_4 m29_5
  exact ⟨rfl, X', hS⟩
/-- Which of the first partitions a member has to give up. -/
def revN (H W : List Int) (m : Int) : Nat → List Int
  | 0 => []
  | p + 1 => if H[p]! = m ∧ W[p]! ≠ m then revN H W m p ++ [(p : Int)] else revN H W m p
theorem revN_len (H W : List Int) (m : Int) : ∀ p, (revN H W m p).length ≤ p
  | 0 => by simp [revN]
  | p + 1 => by
    have := revN_len H W m p
    unfold revN
    split
    · simp; omega
    · omega
def revL (s : CS) (m : Int) : List Int := if m ∈ s.M then revN s.H s.W m s.H.length else []
theorem revoke_ret {w0 w : World} {F : List Nat} {L : List Res} {b : Nat} {s : CS} {X : CA} (m : Int) (hs : CPre s) (hS : St w0 F w (coopL 94 b s X ++ L)) :
    Ret Try.prog 25 #[.pointer (some ⟨b, 0, none⟩), .int .i64 m] w fun v w' => ∃ A c, v = .tuple #[.slice A (revL s m).length c, .int .i64 (if m ∈ s.M then 0 else 11)] ∧ St w0 F w' (irow (.slice A (revL s m).length c) (revL s m) :: (coopL 94 b s X ++ L)) := by
  have hM8 := hs.len
  have hp := hs.parts
  have hsame := hs.same
  refine s25 _ _ ?_
  unfold m25
  unfold m25_0
  unfold m25_1
  first | refine valP_ok (eq23n _ _ _) ?_ | refine valP_ok (eq23s _ _ _ _) ?_
  refine cond_f rfl ?_
  refine callR (by kernel_rfl) (is_ret (by omega) hS m) ?_
  rintro v w ⟨rfl, rfl⟩
  first | refine valP_ok (not_ok _ _) ?_ | refine valP_ok (notb_ok _ _) ?_
  first | refine pick_dt (by first | assumption | omega) ?_ | refine pick_df (by first | assumption | omega) ?_ | refine pick_t (by first | rfl | assumption) ?_ | refine pick_f (by first | rfl | assumption) ?_ | refine pick_dt rfl ?_ | refine pick_df (not_not_intro rfl) ?_
  unfold m25_13
  unfold revL
  refine cond_split (fun h => ?_) (fun h => ?_)
  · rw [if_neg h, if_neg h]
    unfold m25_14
    exact ⟨none, 0, rfl, hS.row_nil 3 1⟩
  have h := Decidable.not_not.1 h
  rw [if_pos h, if_pos h]
  unfold m25_2
  have hS := hS.row_nil 3 1
  unfold m25_3
  refine nil_ok ?_
  first | refine valP_ok (fa94_2 _ _) ?_ | refine valP_ok (fao94_2 _ _ _) ?_
  first | refine valP_ok (ld28 (hS.cell 0 rfl rfl)) ?_ | refine valP_ok (ld28 (hS.cell 1 rfl rfl)) ?_ | refine valP_ok (ld28 (hS.cell 2 rfl rfl)) ?_ | refine valP_ok (ld28 (hS.cell 3 rfl rfl)) ?_ | refine valP_ok (ld28 (hS.cell 4 rfl rfl)) ?_ | refine valP_ok (ld28 (by assumption)) ?_
  refine builtin_ok (len28 _) ?_
  unfold m25_6
  refine loop_in (fun u w' => ∃ (p : Nat) (A' : Option Addr) (c' : Nat), u = (.slice A' (revN s.H s.W m p).length c', .int .i64 p) ∧ p ≤ s.H.length ∧ St w0 F w' (irow (.slice A' (revN s.H s.W m p).length c') (revN s.H s.W m p) :: (coopL 94 b s X ++ L))) (fun u _ => s.H.length - (intOf u.2).toNat)
    ⟨0, none, 0, rfl, by omega, hS⟩ ?_
  clear hS
  rintro u w ⟨p, A1, c1, rfl, hp, hS⟩
  have hrl := revN_len s.H s.W m p
  unfold m25_7
  refine valP_ok (lss_ok _ _ _ _ _ _ _) ?_
  unfold m25_8
  refine cond_split (fun h => ?_) (fun h => ?_)
  · have hlt : p < s.H.length := by omega
    have hlw : p < s.W.length := by omega
    have hst : revN s.H s.W m (p + 1) = if s.H[p] = m ∧ s.W[p] ≠ m then revN s.H s.W m p ++ [(p : Int)] else revN s.H s.W m p := by
      show (if s.H[p]! = m ∧ s.W[p]! ≠ m then _ else _) = _
      rw [getElem!_pos s.H p hlt, getElem!_pos s.W p hlw]
    obtain ⟨g, hg⟩ := hS.row_ptr 3 rfl (by omega)
    obtain ⟨xm, cm, hh, ch, q, cq⟩ := X
    simp only at hg
    subst hg
    obtain ⟨g2, hg2⟩ := hS.row_ptr 4 rfl (by omega)
    simp only at hg2
    subst hg2
    have hc := hS.row_cell 3 rfl (ints_get hlt)
    have hc4 := hS.row_cell 4 rfl (ints_get hlw)
    have fin : ∀ (t : Bool) R (K : Value × Value → World → Prop), (t = true ↔ (s.H[p] = m ∧ s.W[p] ≠ m)) →
        (∀ A' c' w', St w0 F w' (irow (.slice A' (revN s.H s.W m (p + 1)).length c') (revN s.H s.W m (p + 1)) :: (coopL 94 b s ⟨xm, cm, some ⟨g, 0, none⟩, ch, some ⟨g2, 0, none⟩, cq⟩ ++ L)) → K (.slice A' (revN s.H s.W m (p + 1)).length c', .int .i64 ((p + 1 : Nat) : Int)) w') →
        m25_12 R K (.pointer (some ⟨b, 0, none⟩)) (.int .i64 m) (.slice A1 (revN s.H s.W m p).length c1) (.int .i64 p) (.slice (some ⟨g, 0, none⟩) s.H.length ch) (.int .i64 s.H.length) (.int .i64 p) (.bool t) w := fun t R K ht hK => by
      unfold m25_12
      refine cond_bsplit (fun h1 => ?_) (fun h1 => ?_)
      · rw [if_pos (ht.1 h1)] at hst
        rw [hst] at hK
        refine newslice_ok (bs28_1 rfl _) hS ?_
        intro b43 w hS
        refine append_one 0 (by omega) hS rfl ?_
        intro A2 c2 w' hS
        simp only [List.set_cons_zero] at hS
        unfold m25_10
        refine valP_ok (add_ok _ _ _ (by omega) (by omega) _) ?_
        exact hK A2 c2 _ hS
      · rw [if_neg (fun h => by rw [ht.2 h] at h1; cases h1)] at hst
        rw [hst] at hK
        unfold m25_10
        refine valP_ok (add_ok _ _ _ (by omega) (by omega) _) ?_
        exact hK _ _ _ hS
    unfold m25_9
    first | refine valP_ok (ixz28 (by first | assumption | omega) _) ?_ | refine valP_ok (ix28 (by first | assumption | omega) _) ?_
    first | refine valP_ok (ld3 (hS.cell 0 rfl rfl)) ?_ | refine valP_ok (ld3 (hS.cell 1 rfl rfl)) ?_ | refine valP_ok (ld3 (hS.cell 2 rfl rfl)) ?_ | refine valP_ok (ld3 (hS.cell 3 rfl rfl)) ?_ | refine valP_ok (ld3 (hS.cell 4 rfl rfl)) ?_ | refine valP_ok (ld3 (by assumption)) ?_
    unfold m25_11
    refine valP_ok (eq3 _ _ _ _ _) ?_
    refine cond_split (fun h1 => ?_) (fun h1 => ?_)
    · refine nil_ok ?_
      first | refine valP_ok (fa94_3 _ _) ?_ | refine valP_ok (fao94_3 _ _ _) ?_
      first | refine valP_ok (ld28 (hS.cell 0 rfl rfl)) ?_ | refine valP_ok (ld28 (hS.cell 1 rfl rfl)) ?_ | refine valP_ok (ld28 (hS.cell 2 rfl rfl)) ?_ | refine valP_ok (ld28 (hS.cell 3 rfl rfl)) ?_ | refine valP_ok (ld28 (hS.cell 4 rfl rfl)) ?_ | refine valP_ok (ld28 (by assumption)) ?_
      first | refine valP_ok (ixz28 (by first | assumption | omega) _) ?_ | refine valP_ok (ix28 (by first | assumption | omega) _) ?_
      first | refine valP_ok (ld3 (hS.cell 0 rfl rfl)) ?_ | refine valP_ok (ld3 (hS.cell 1 rfl rfl)) ?_ | refine valP_ok (ld3 (hS.cell 2 rfl rfl)) ?_ | refine valP_ok (ld3 (hS.cell 3 rfl rfl)) ?_ | refine valP_ok (ld3 (hS.cell 4 rfl rfl)) ?_ | refine valP_ok (ld3 (by assumption)) ?_
      refine valP_ok (ne3 _ _ _ _ _) ?_
      first | refine pick_dt (by first | assumption | omega) ?_ | refine pick_df (by first | assumption | omega) ?_ | refine pick_t (by first | rfl | assumption) ?_ | refine pick_f (by first | rfl | assumption) ?_ | refine pick_dt rfl ?_ | refine pick_df (not_not_intro rfl) ?_
      exact fin _ _ _ (by simp [h1]) (fun A' c' w' hS => ⟨⟨p + 1, A', c', rfl, by omega, hS⟩, by simp [intOf]; omega⟩)
    · first | refine pick_dt (by first | assumption | omega) ?_ | refine pick_df (by first | assumption | omega) ?_ | refine pick_t (by first | rfl | assumption) ?_ | refine pick_f (by first | rfl | assumption) ?_ | refine pick_dt rfl ?_ | refine pick_df (not_not_intro rfl) ?_
      exact fin _ _ _ (by simp [h1]) (fun A' c' w' hS => ⟨⟨p + 1, A', c', rfl, by omega, hS⟩, by simp [intOf]; omega⟩)
  · have hpe : p = s.H.length := by omega
    subst hpe
    unfold m25_4 m25_5
    exact ⟨A1, c1, rfl, hS⟩
def doneS (s : CS) (m p : Int) : Int × CS :=
  if m ∉ s.M then (11, s) else if p < 0 ∨ (s.H.length : Int) ≤ p then (6, s) else if s.H[p.toNat]! ≠ m ∨ s.W[p.toNat]! = m then (13, s) else (0, { s with H := giveL (s.H.set p.toNat 0) s.W })
theorem done_ret {w0 w : World} {F : List Nat} {L : List Res} {b : Nat} {s : CS} {X : CA} (m p : Int) (hs : CPre s) (hS : St w0 F w (coopL 94 b s X ++ L)) :
    Ret Try.prog 33 #[.pointer (some ⟨b, 0, none⟩), .int .i64 m, .int .i64 p] w (joinQ w0 F L b (doneS s m p)) := by
  have hM8 := hs.len
  have hpp := hs.parts
  have hsame := hs.same
  refine s33 _ _ _ ?_
  unfold m33
  unfold m33_0
  unfold m33_1
  first | refine valP_ok (eq23n _ _ _) ?_ | refine valP_ok (eq23s _ _ _ _) ?_
  refine cond_f rfl ?_
  refine callR (by kernel_rfl) (is_ret (by omega) hS m) ?_
  rintro v w ⟨rfl, rfl⟩
  first | refine valP_ok (not_ok _ _) ?_ | refine valP_ok (notb_ok _ _) ?_
  first | refine pick_dt (by first | assumption | omega) ?_ | refine pick_df (by first | assumption | omega) ?_ | refine pick_t (by first | rfl | assumption) ?_ | refine pick_f (by first | rfl | assumption) ?_ | refine pick_dt rfl ?_ | refine pick_df (not_not_intro rfl) ?_
  unfold m33_6
  unfold doneS
  refine cond_split (fun h => ?_) (fun h => ?_)
  · rw [if_pos h]
    unfold m33_7
    exact ⟨rfl, X, hS⟩
  rw [if_neg h]
  refine valP_ok (lss_ok _ _ _ _ _ _ _) ?_
  have bad : ∀ t : Bool, (p < 0 ∨ (s.H.length : Int) ≤ p) → t = true → m33_8 (joinQ w0 F L b (if p < 0 ∨ (s.H.length : Int) ≤ p then (6, s) else if s.H[p.toNat]! ≠ m ∨ s.W[p.toNat]! = m then (13, s) else (0, { s with H := giveL (s.H.set p.toNat 0) s.W }))) (.pointer (some ⟨b, 0, none⟩)) (.int .i64 m) (.int .i64 p) (.bool t) w := fun t hb ht => by
    unfold m33_8
    refine cond_t ht ?_
    unfold m33_9
    rw [if_pos hb]
    exact ⟨rfl, X, hS⟩
  refine cond_split (fun h1 => ?_) (fun h1 => ?_)
  · first | refine pick_dt (by first | assumption | omega) ?_ | refine pick_df (by first | assumption | omega) ?_ | refine pick_t (by first | rfl | assumption) ?_ | refine pick_f (by first | rfl | assumption) ?_ | refine pick_dt rfl ?_ | refine pick_df (not_not_intro rfl) ?_
    exact bad _ (.inl h1) rfl
  refine nil_ok ?_
  first | refine valP_ok (fa94_2 _ _) ?_ | refine valP_ok (fao94_2 _ _ _) ?_
  first | refine valP_ok (ld28 (hS.cell 0 rfl rfl)) ?_ | refine valP_ok (ld28 (hS.cell 1 rfl rfl)) ?_ | refine valP_ok (ld28 (hS.cell 2 rfl rfl)) ?_ | refine valP_ok (ld28 (hS.cell 3 rfl rfl)) ?_ | refine valP_ok (ld28 (hS.cell 4 rfl rfl)) ?_ | refine valP_ok (ld28 (by assumption)) ?_
  refine builtin_ok (len28 _) ?_
  refine valP_ok (geq_ok _ _ _ _ _ _ _) ?_
  first | refine pick_dt (by first | assumption | omega) ?_ | refine pick_df (by first | assumption | omega) ?_ | refine pick_t (by first | rfl | assumption) ?_ | refine pick_f (by first | rfl | assumption) ?_ | refine pick_dt rfl ?_ | refine pick_df (not_not_intro rfl) ?_
  by_cases h2 : (s.H.length : Int) ≤ p
  · exact bad _ (.inr h2) (decide_eq_true h2)
  rw [if_neg (by omega)]
  obtain ⟨k, rfl⟩ : ∃ k : Nat, p = k := ⟨p.toNat, by omega⟩
  have hlt : k < s.H.length := by omega
  have hlw : k < s.W.length := by omega
  rw [Int.toNat_natCast, getElem!_pos s.H k hlt, getElem!_pos s.W k hlw]
  unfold m33_8
  refine cond_df h2 ?_
  obtain ⟨g, hg⟩ := hS.row_ptr 2 rfl (by omega)
  obtain ⟨xm, cm, hh, ch, q, cq⟩ := X
  simp only at hg
  subst hg
  obtain ⟨g2, hg2⟩ := hS.row_ptr 3 rfl (by omega)
  simp only at hg2
  subst hg2
  have hc := hS.row_cell 2 rfl (ints_get hlt)
  have hc4 := hS.row_cell 3 rfl (ints_get hlw)
  have fin : ∀ t : Bool, (t = true ↔ (s.H[k] ≠ m ∨ s.W[k] = m)) → m33_10 (joinQ w0 F L b (if s.H[k] ≠ m ∨ s.W[k] = m then (13, s) else (0, { s with H := giveL (s.H.set k 0) s.W }))) (.pointer (some ⟨b, 0, none⟩)) (.int .i64 k) (.bool t) w := fun t ht => by
    unfold m33_10
    refine cond_bsplit (fun h1 => ?_) (fun h1 => ?_)
    · unfold m33_11
      rw [if_pos (ht.1 h1)]
      exact ⟨rfl, _, hS⟩
    · rw [if_neg (fun h => by rw [ht.2 h] at h1; cases h1)]
      unfold m33_2
      refine nil_ok ?_
      first | refine valP_ok (fa94_2 _ _) ?_ | refine valP_ok (fao94_2 _ _ _) ?_
      first | refine valP_ok (ld28 (hS.cell 0 rfl rfl)) ?_ | refine valP_ok (ld28 (hS.cell 1 rfl rfl)) ?_ | refine valP_ok (ld28 (hS.cell 2 rfl rfl)) ?_ | refine valP_ok (ld28 (hS.cell 3 rfl rfl)) ?_ | refine valP_ok (ld28 (hS.cell 4 rfl rfl)) ?_ | refine valP_ok (ld28 (by assumption)) ?_
      first | refine valP_ok (ixz28 (by first | assumption | omega) _) ?_ | refine valP_ok (ix28 (by first | assumption | omega) _) ?_
      refine set_irow 2 hS rfl hlt ?_
      intro w hS
      simp only [List.set_cons_zero, List.set_cons_succ, List.cons_append, List.nil_append] at hS
      have hS : St w0 F w (coopL 94 b { s with H := s.H.set k 0 } ⟨xm, cm, some ⟨g, 0, none⟩, ch, some ⟨g2, 0, none⟩, cq⟩ ++ L) := by
        show St w0 F w ([_, _, _, _] ++ L)
        simp only [coopC, List.length_set] at hS ⊢
        exact hS
      unfold m33_3
      refine callR (by kernel_rfl) (give_ret (by simp; omega) (by simp; omega) hS) ?_
      intro v w hS
      unfold m33_4 m33_5
      exact ⟨rfl, _, hS⟩
  refine nil_ok ?_
  first | refine valP_ok (fa94_2 _ _) ?_ | refine valP_ok (fao94_2 _ _ _) ?_
  first | refine valP_ok (ld28 (hS.cell 0 rfl rfl)) ?_ | refine valP_ok (ld28 (hS.cell 1 rfl rfl)) ?_ | refine valP_ok (ld28 (hS.cell 2 rfl rfl)) ?_ | refine valP_ok (ld28 (hS.cell 3 rfl rfl)) ?_ | refine valP_ok (ld28 (hS.cell 4 rfl rfl)) ?_ | refine valP_ok (ld28 (by assumption)) ?_
  first | refine valP_ok (ixz28 (by first | assumption | omega) _) ?_ | refine valP_ok (ix28 (by first | assumption | omega) _) ?_
  first | refine valP_ok (ld3 (hS.cell 0 rfl rfl)) ?_ | refine valP_ok (ld3 (hS.cell 1 rfl rfl)) ?_ | refine valP_ok (ld3 (hS.cell 2 rfl rfl)) ?_ | refine valP_ok (ld3 (hS.cell 3 rfl rfl)) ?_ | refine valP_ok (ld3 (hS.cell 4 rfl rfl)) ?_ | refine valP_ok (ld3 (by assumption)) ?_
  refine valP_ok (ne3 _ _ _ _ _) ?_
  refine cond_split (fun h3 => ?_) (fun h3 => ?_)
  · first | refine pick_dt (by first | assumption | omega) ?_ | refine pick_df (by first | assumption | omega) ?_ | refine pick_t (by first | rfl | assumption) ?_ | refine pick_f (by first | rfl | assumption) ?_ | refine pick_dt rfl ?_ | refine pick_df (not_not_intro rfl) ?_
    exact fin true ⟨fun _ => .inl h3, fun _ => rfl⟩
  · refine nil_ok ?_
    first | refine valP_ok (fa94_3 _ _) ?_ | refine valP_ok (fao94_3 _ _ _) ?_
    first | refine valP_ok (ld28 (hS.cell 0 rfl rfl)) ?_ | refine valP_ok (ld28 (hS.cell 1 rfl rfl)) ?_ | refine valP_ok (ld28 (hS.cell 2 rfl rfl)) ?_ | refine valP_ok (ld28 (hS.cell 3 rfl rfl)) ?_ | refine valP_ok (ld28 (hS.cell 4 rfl rfl)) ?_ | refine valP_ok (ld28 (by assumption)) ?_
    first | refine valP_ok (ixz28 (by first | assumption | omega) _) ?_ | refine valP_ok (ix28 (by first | assumption | omega) _) ?_
    first | refine valP_ok (ld3 (hS.cell 0 rfl rfl)) ?_ | refine valP_ok (ld3 (hS.cell 1 rfl rfl)) ?_ | refine valP_ok (ld3 (hS.cell 2 rfl rfl)) ?_ | refine valP_ok (ld3 (hS.cell 3 rfl rfl)) ?_ | refine valP_ok (ld3 (hS.cell 4 rfl rfl)) ?_ | refine valP_ok (ld3 (by assumption)) ?_
    refine valP_ok (eq3 _ _ _ _ _) ?_
    first | refine pick_dt (by first | assumption | omega) ?_ | refine pick_df (by first | assumption | omega) ?_ | refine pick_t (by first | rfl | assumption) ?_ | refine pick_f (by first | rfl | assumption) ?_ | refine pick_dt rfl ?_ | refine pick_df (not_not_intro rfl) ?_
    exact fin _ (by simp; intro h; exact absurd h h3)

end Go.Proofs.Ytjjmlopmemmobaa.M
