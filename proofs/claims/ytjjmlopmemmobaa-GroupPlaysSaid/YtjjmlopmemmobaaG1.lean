/- Clone at ints; rows of members: Clone, Index, DeleteFunc at members. -/
import Derived.Test.YtjjmlopmemmobaaAR
import Derived.Test.YtjjmlopmemmobaaFwT
import Derived.Test.YtjjmlopmemmobaaMgroup0
import Derived.Test.YtjjmlopmemmobaaMgroup1
import Derived.Test.YtjjmlopmemmobaaMgroup2
namespace Go.Proofs.Ytjjmlopmemmobaa.M
open Go.Proofs.Ytjjmlopmemmobaa.F Go.RowKit
set_option linter.unusedVariables false
set_option linter.unusedSimpArgs false
set_option maxRecDepth 100000
set_option maxHeartbeats 2000000
attribute [local irreducible] Res.cells Res.row Res.map Res.any World.cell? World.frozen? Instr.fieldAt Instr.loadAt Instr.storeAt Instr.indexAt Instr.lookup Instr.mapUpdate Instr.box Instr.build Instr.buildSlice Instr.extract Instr.alloc Instr.field Instr.index Instr.sliceAt Instr.makeSlice Instr.makeMap Instr.makeFunc binS Op.unary Sem.run
open Go.Proofs.Ytjjmlopmemmobaa.L Go.Shelf
theorem irow_nilcap {w0 w : World} {F : List Nat} {L : List Res} {A : Option Addr} {c : Nat} {l : List Int} (k : Nat) (hS : St w0 F w L) (hk : L[k]? = some (irow (.slice A l.length c) l)) : A = none → c = 0 := fun hA => by
  subst hA
  have h := hS.own_row k hk
  rcases h.2 with ⟨e, h0⟩ | ⟨g, cap, cur, hv, _⟩
  · injection e
  · cases hv
theorem clone_ret {w0 w : World} {F : List Nat} {L : List Res} {A : Option Addr} {c : Nat} {l : List Int} (k : Nat) (hS : St w0 F w L) (hk : L[k]? = some (irow (.slice A l.length c) l)) (hl : l.length ≤ 100000) :
    Ret Try.prog 55 #[.slice A l.length c] w fun v w' => ∃ A' c', v = .slice A' l.length c' ∧ St w0 F w' (irow (.slice A' l.length c') l :: L) := by
  refine s55 _ ?_
  unfold m55
  unfold m55_0
  unfold m55_1
  refine valP_ok (eq28 _ _ _ _ _ _) ?_
  unfold m55_4
  refine cond_bsplit (fun h => ?_) (fun h => ?_)
  · unfold m55_5
    cases A with
    | some a => cases h
    | none =>
      have h0 := (hS.own_row k hk).2
      have h0 : l.length = 0 := by
        rcases h0 with ⟨_, h⟩ | ⟨g, cap, cur, hv, _⟩
        · exact h
        · cases hv
      have hn : l = [] := List.eq_nil_of_length_eq_zero h0
      subst hn
      exact ⟨none, 0, rfl, hS.row_nil 3 1⟩
  · unfold m55_2
    refine newslice_ok (bs28_0 _) hS ?_
    intro b5 w hS
    have hS := hS.as_row 0 1 0 rfl rfl (by unfold maxLen; omega)
    simp only [List.set_cons_zero] at hS
    have hr : Rd w 1 A l.length (ints l) := hS.row_rd (k + 1) (by rw [List.getElem?_cons_succ]; exact hk)
    refine append_any (l0 := []) 0 (by simp) hl hS rfl hr (fun hA => ?_) ?_
    · exact irow_nilcap (k + 1) hS (by rw [List.getElem?_cons_succ]; exact hk) hA
    intro A' c' w' hS
    simp only [List.set_cons_zero, List.nil_append] at hS
    unfold m55_3
    exact ⟨A', c', rfl, hS⟩
/-- A member: its number, its worker, when it is over. -/
structure Mem where
  id : Int
  wk : Int
  due : Int
deriving DecidableEq
abbrev encM (m : Mem) : List Value := [.int .i64 m.id, .int .i64 m.wk, .int .i64 m.due]
theorem encM_len : ∀ x, (encM x).length = 3 := fun _ => rfl
theorem encM_one : ∀ x, ∀ u ∈ encM x, u.oneCell' = true := fun x u hu => by
  simp only [List.mem_cons, List.not_mem_nil, or_false] at hu
  rcases hu with rfl | rfl | rfl <;> rfl
abbrev valM (m : Mem) : Value := .agg #[.int .i64 m.id, .int .i64 m.wk, .int .i64 m.due]
abbrev mrow (v : Value) (l : List Mem) : Res := Res.row 69 3 v l.length (l.flatMap encM)
theorem flatM_len : ∀ (l : List Mem), (l.flatMap encM).length = l.length * 3
  | [] => rfl
  | a :: l => by rw [List.flatMap_cons, List.length_append, flatM_len l]; show 3 + l.length * 3 = (l.length + 1) * 3; omega
theorem due_set (d : Int) : ∀ (l : List Mem) (i : Nat) (h : i < l.length), (l.flatMap encM).set (i * 3 + 2) (.int .i64 d) = (l.set i ⟨l[i].id, l[i].wk, d⟩).flatMap encM
  | a :: l, 0, _ => rfl
  | a :: l, i + 1, h => by
    have ih := due_set d l i (by simpa using h)
    rw [show (i + 1) * 3 + 2 = (i * 3 + 2) + 1 + 1 + 1 by omega]
    show _ :: _ :: _ :: (l.flatMap encM).set (i * 3 + 2) (.int .i64 d) = _
    rw [ih]
    rfl
theorem flatM_take : ∀ (l : List Mem) (i : Nat), (l.flatMap encM).take (i * 3) = (l.take i).flatMap encM
  | l, 0 => by simp
  | [], i + 1 => by simp
  | a :: l, i + 1 => by
    rw [show (i + 1) * 3 = i * 3 + 1 + 1 + 1 by omega]
    show _ :: _ :: _ :: (l.flatMap encM).take (i * 3) = _
    rw [flatM_take l i]
    rfl
theorem mrow_nilcap {w0 w : World} {F : List Nat} {L : List Res} {A : Option Addr} {c : Nat} {l : List Mem} (k : Nat) (hS : St w0 F w L) (hk : L[k]? = some (mrow (.slice A l.length c) l)) : A = none → c = 0 := fun hA => by
  subst hA
  have h := hS.own_row k hk
  rcases h.2 with ⟨e, h0⟩ | ⟨g, cap, cur, hv, _⟩
  · injection e
  · cases hv
/-- storing a member into a row of members. -/
theorem set_mrow {K : Value → World → Prop} {w0 w : World} {F : List Nat} {L : List Res} {g c i : Nat} {l : List Mem} {x : Mem} (k : Nat) (hS : St w0 F w L) (hk : L[k]? = some (mrow (.slice (some ⟨g, 0, none⟩) l.length c) l)) (hi : i < l.length)
    (h : ∀ w', St w0 F w' (L.set k (mrow (.slice (some ⟨g, 0, none⟩) (l.set i x).length c) (l.set i x))) → K undef w') : unitP Try.prog (Instr.storeAt 69 (.pointer (some ⟨g, i * 3, none⟩)) (valM x)) w K := by
  refine sr69 k hS hk (by rw [flatM_len]; omega) rfl rfl rfl ?_
  intro w' hS
  have e := setAll_flat encM 3 encM_len l i x hi
  rw [e] at hS
  refine h _ ?_
  unfold mrow
  rw [List.length_set]
  exact hS
/-- storing a member's time into a row of members. -/
theorem set_due {K : Value → World → Prop} {w0 w : World} {F : List Nat} {L : List Res} {g c i : Nat} {l : List Mem} {d : Int} (k : Nat) (hS : St w0 F w L) (hk : L[k]? = some (mrow (.slice (some ⟨g, 0, none⟩) l.length c) l)) (hi : i < l.length)
    (h : ∀ w', St w0 F w' (L.set k (mrow (.slice (some ⟨g, 0, none⟩) (l.set i ⟨l[i].id, l[i].wk, d⟩).length c) (l.set i ⟨l[i].id, l[i].wk, d⟩))) → K undef w') : unitP Try.prog (Instr.storeAt 3 (.pointer (some ⟨g, i * 3 + 2, none⟩)) (.int .i64 d)) w K := by
  refine store_row k st3 hS hk (by rw [flatM_len]; omega) rfl ?_
  intro w' hS
  refine h _ ?_
  rw [due_set d l i hi] at hS
  unfold mrow
  rw [List.length_set]
  exact hS
theorem append_anyM {K : Value → World → Prop} {w0 w : World} {F : List Nat} {L : List Res} {cs : Array Bool} {A A0 : Option Addr} {c c0 : Nat} {l l0 : List Mem} (k : Nat) (h0 : l0.length ≤ 100000) (hl : l.length ≤ 100000) (hS : St w0 F w L) (hk : L[k]? = some (mrow (.slice A0 l0.length c0) l0)) (hR : Rd w 3 A l.length (l.flatMap encM)) (hz : A = none → c = 0)
    (h : ∀ A' c' w', St w0 F w' (L.set k (mrow (.slice A' (l0 ++ l).length c') (l0 ++ l))) → K (.slice A' (l0 ++ l).length c') w') :
    builtinP Try.prog .append #[66, 66] 66 cs #[.slice A0 l0.length c0, .slice A l.length c] w K := by
  have hlen : (l0 ++ l).length = l0.length + l.length := by simp
  have hints : l0.flatMap encM ++ l.flatMap encM = (l0 ++ l).flatMap encM := by simp
  cases A with
  | none =>
    obtain rfl := hz rfl
    have hl0 : l = [] := by
      rcases Nat.eq_zero_or_pos l.length with h | h
      · exact List.eq_nil_of_length_eq_zero h
      · obtain ⟨g, o, hA⟩ := hR.some_ h (by omega); cases hA
    subst hl0
    have hself : St w0 F w (L.set k (mrow (.slice A0 l0.length c0) l0)) := by
      obtain ⟨hlt, he⟩ := List.getElem?_eq_some_iff.1 hk
      rw [← he, List.set_getElem_self]
      exact hS
    rw [List.append_nil] at h
    exact append_none_ok k sl66 hS hk (h _ _ _ hself)
  | some a =>
    refine append_rd k sl66 hS hk hR rfl (fun u hu => ?_) (by unfold maxLen; omega) (by omega) ?_
    · obtain ⟨x, _, hx⟩ := List.mem_flatMap.1 hu
      exact encM_one x u hx
    intro A4 c4 w' hS'
    rw [hints, ← hlen] at hS'
    rw [← hlen]
    exact h _ _ _ hS'
theorem mclone_ret {w0 w : World} {F : List Nat} {L : List Res} {A : Option Addr} {c : Nat} {l : List Mem} (k : Nat) (hS : St w0 F w L) (hk : L[k]? = some (mrow (.slice A l.length c) l)) (hl : l.length ≤ 100000) :
    Ret Try.prog 69 #[.slice A l.length c] w fun v w' => ∃ A' c', v = .slice A' l.length c' ∧ St w0 F w' (mrow (.slice A' l.length c') l :: L) := by
  refine s69 _ ?_
  unfold m69
  unfold m69_0
  unfold m69_1
  refine valP_ok (eq66 _ _ _ _ _ _) ?_
  unfold m69_4
  refine cond_bsplit (fun h => ?_) (fun h => ?_)
  · unfold m69_5
    cases A with
    | some a => cases h
    | none =>
      have h0 := (hS.own_row k hk).2
      have h0 : l.length = 0 := by
        rcases h0 with ⟨_, h⟩ | ⟨g, cap, cur, hv, _⟩
        · exact h
        · cases hv
      have hn : l = [] := List.eq_nil_of_length_eq_zero h0
      subst hn
      exact ⟨none, 0, rfl, hS.row_nil 69 3⟩
  · unfold m69_2
    refine newslice_ok (bs66_0 _) hS ?_
    intro b5 w hS
    have hS := hS.as_row 0 3 0 rfl rfl (by unfold maxLen; omega)
    simp only [List.set_cons_zero] at hS
    have hr : Rd w 3 A l.length (l.flatMap encM) := hS.row_rd (k + 1) (by rw [List.getElem?_cons_succ]; exact hk)
    refine append_anyM (l0 := []) 0 (by simp) hl hS rfl hr (fun hA => ?_) ?_
    · exact mrow_nilcap (k + 1) hS (by rw [List.getElem?_cons_succ]; exact hk) hA
    intro A' c' w' hS
    simp only [List.set_cons_zero, List.nil_append] at hS
    unfold m69_3
    exact ⟨A', c', rfl, hS⟩
/-- What a function value tells of members, where the row at place k has some members. -/
def AsksM (w0 : World) (F : List Nat) (L : List Res) (k : Nat) (A : Option Addr) (n c : Nat) (f : FuncId) (cap : Array Value) (p : Mem → Bool) : Prop :=
  ∀ (x : Mem) (w : World) (xs : List Mem) (R : List Res), xs.length = n → St w0 F w (R ++ L.set k (mrow (.slice A xs.length c) xs)) → Ret Try.prog f (#[] ++ #[valM x] ++ cap) w fun v w' => v = .bool (p x) ∧ St w0 F w' (R ++ L.set k (mrow (.slice A xs.length c) xs))
theorem set_selfR {L : List Res} {k : Nat} {r : Res} (h : L[k]? = some r) : L.set k r = L := by
  obtain ⟨hlt, he⟩ := List.getElem?_eq_some_iff.1 h
  rw [← he, List.set_getElem_self]
theorem indexM_ret {w0 w : World} {F : List Nat} {L : List Res} {A : Option Addr} {c k : Nat} {l : List Mem} {f : FuncId} {cap : Array Value} {p : Mem → Bool} (hf : callsOk Try.prog f = true) (hl : l.length ≤ 1000000) (hS : St w0 F w L) (hk : L[k]? = some (mrow (.slice A l.length c) l)) (hp : AsksM w0 F L k A l.length c f cap p) :
    Ret Try.prog 104 #[.slice A l.length c, .func (.func f) #[] cap] w fun v w' => St w0 F w' L ∧ ((v = .int .i64 (-1) ∧ ∀ x ∈ l, p x = false) ∨ ∃ (i : Nat) (h : i < l.length), v = .int .i64 i ∧ p l[i] = true ∧ ∀ x ∈ l.take i, p x = false) := by
  refine s104 _ _ ?_
  unfold m104
  unfold m104_0
  unfold m104_1
  refine builtin_ok (len66 _) ?_
  unfold m104_4
  refine loop_in (fun s w' => ∃ i : Nat, s = .int .i64 i ∧ i ≤ l.length ∧ (∀ x ∈ l.take i, p x = false) ∧ St w0 F w' L) (fun s _ => l.length - (intOf s).toNat) ⟨0, rfl, by omega, by simp, hS⟩ ?_
  clear hS
  rintro s w ⟨i, rfl, hi, hn, hS⟩
  unfold m104_5
  refine valP_ok (lss_ok _ _ _ _ _ _ _) ?_
  unfold m104_6
  refine cond_split (fun h => ?_) (fun h => ?_)
  · have hlt : i < l.length := by omega
    obtain ⟨g, rfl⟩ := hS.row_ptr k hk (by omega)
    have h0 := hS.row_struct k encM_len hk hlt (j := 0) (by omega) rfl
    have h1 := hS.row_struct k encM_len hk hlt (j := 1) (by omega) rfl
    have h2 := hS.row_struct k encM_len hk hlt (j := 2) (by omega) rfl
    have hS0 : St w0 F w ([] ++ L.set k (mrow (.slice (some ⟨g, 0, none⟩) l.length c) l)) := by rw [set_selfR hk]; exact hS
    unfold m104_7
    unfold m104_9
    refine valP_ok (ixz66 hlt _) ?_
    refine valP_ok (ld69 h0 h1 h2) ?_
    refine callvR hf rfl (hp _ _ _ [] rfl hS0) ?_
    rintro v w ⟨rfl, hS⟩
    rw [set_selfR hk, List.nil_append] at hS
    unfold m104_10
    refine cond_bsplit (fun e => ?_) (fun e => ?_)
    · unfold m104_11
      exact ⟨hS, .inr ⟨i, hlt, rfl, e, hn⟩⟩
    · unfold m104_8
      refine valP_ok (add_ok _ _ _ (by omega) (by omega) _) ?_
      refine ⟨⟨i + 1, rfl, by omega, ?_, hS⟩, by simp [intOf]; omega⟩
      rw [List.take_succ_eq_append_getElem hlt]
      intro x hm
      rcases List.mem_append.1 hm with h | h
      · exact hn x h
      · rw [List.mem_singleton.1 h]; exact e
  · have hi2 : i = l.length := by omega
    rw [hi2, List.take_length] at hn
    unfold m104_2 m104_3
    exact ⟨hS, .inl ⟨rfl, hn⟩⟩
theorem filterM_none {p : Mem → Bool} {l : List Mem} (h : ∀ x ∈ l, p x = false) : l.filter (fun x => !p x) = l := List.filter_eq_self.2 fun x hx => by rw [h x hx]; rfl
theorem delM_ret {w0 w : World} {F : List Nat} {L : List Res} {A : Option Addr} {c k : Nat} {l : List Mem} {f : FuncId} {cap : Array Value} {p : Mem → Bool} (hf : callsOk Try.prog f = true) (hl : l.length ≤ 1000000) (hS : St w0 F w L) (hk : L[k]? = some (mrow (.slice A l.length c) l)) (hp : AsksM w0 F L k A l.length c f cap p) :
    Ret Try.prog 91 #[.slice A l.length c, .func (.func f) #[] cap] w fun v w' => v = .slice A (l.filter fun x => !p x).length c ∧ St w0 F w' (L.set k (mrow (.slice A (l.filter fun x => !p x).length c) (l.filter fun x => !p x))) := by
  have hkl := (List.getElem?_eq_some_iff.1 hk).1
  refine s91 _ _ ?_
  unfold m91 m91_0
  unfold m91_1
  refine callR (by kernel_rfl) (indexM_ret hf hl hS hk hp) ?_
  clear hS
  rintro v w ⟨hS, ⟨rfl, hn⟩ | ⟨i, hi, rfl, hpi, hn⟩⟩
  · unfold m91_2
    refine valP_ok (eq3 _ _ _ _ _) ?_
    unfold m91_15
    refine cond_dt rfl ?_
    unfold m91_16
    rw [filterM_none hn, set_selfR hk]
    exact ⟨rfl, hS⟩
  · unfold m91_2
    refine valP_ok (eq3 _ _ _ _ _) ?_
    unfold m91_15
    refine cond_df (by omega) ?_
    obtain ⟨g, rfl⟩ := hS.row_ptr k hk (by omega)
    have hnc := (hS.row_max k hk).1
    have hS : St w0 F w (L.set k (mrow (.slice (some ⟨g, 0, none⟩) l.length c) l)) := by rw [set_selfR hk]; exact hS
    unfold m91_3
    refine valP_ok (add_ok _ _ _ (by omega) (by omega) _) ?_
    unfold m91_7
    refine loop_in (fun s w' => ∃ (i j : Nat) (xs : List Mem), s = (.int .i64 i, .int .i64 j) ∧ i < j ∧ j ≤ l.length ∧ xs.length = l.length ∧ xs.take i = (l.take j).filter (fun x => !p x) ∧ xs.drop j = l.drop j ∧ St w0 F w' (L.set k (mrow (.slice (some ⟨g, 0, none⟩) xs.length c) xs)))
      (fun s _ => l.length - (intOf s.2).toNat) ⟨i, i + 1, l, rfl, by omega, by omega, rfl, ?_, rfl, hS⟩ ?_
    · rw [List.take_succ_eq_append_getElem hi, List.filter_append, filterM_none hn]
      simp [hpi]
    clear hS hn hpi hi
    rintro s w ⟨i, j, xs, rfl, hij, hj, hxl, htk, hdr, hS⟩
    have hkx : (L.set k (mrow (.slice (some ⟨g, 0, none⟩) xs.length c) xs))[k]? = some (mrow (.slice (some ⟨g, 0, none⟩) xs.length c) xs) := by simp [hkl]
    unfold m91_8
    refine builtin_ok (len66 _) ?_
    refine valP_ok (lss_ok _ _ _ _ _ _ _) ?_
    unfold m91_14
    refine cond_split (fun h => ?_) (fun h => ?_)
    · have hjl : j < l.length := by omega
      have hjx : j < xs.length := by omega
      have hxj : xs[j] = l[j] := by
        have h1 := congrArg (·[0]?) hdr
        simp only [List.getElem?_drop, Nat.add_zero] at h1
        rw [List.getElem?_eq_getElem hjx, List.getElem?_eq_getElem hjl] at h1
        injection h1
      have h0 := hS.row_struct k encM_len hkx hjx (j := 0) (by omega) rfl
      have h1 := hS.row_struct k encM_len hkx hjx (j := 1) (by omega) rfl
      have h2 := hS.row_struct k encM_len hkx hjx (j := 2) (by omega) rfl
      rw [hxj] at h0 h1 h2
      unfold m91_9
      refine valP_ok (ixz66 (by omega) _) ?_
      refine valP_ok (ld69 h0 h1 h2) ?_
      refine new_ok (al69 _) hS ?_
      intro b7 w hS
      refine ss69 0 hS rfl rfl rfl rfl ?_
      intro w hS
      simp only [List.set_cons_zero] at hS
      unfold m91_11
      refine ls69 0 hS rfl ?_
      refine callvR hf rfl (hp _ _ _ [_] hxl hS) ?_
      clear hS h0 h1 h2
      rintro v w ⟨rfl, hS⟩
      rw [List.singleton_append] at hS
      first | refine valP_ok (not_ok _ _) ?_ | refine valP_ok (notb_ok _ _) ?_
      unfold m91_12
      have htk2 : l.take (j + 1) = l.take j ++ [l[j]] := List.take_succ_eq_append_getElem hjl
      have hdr2 : ∀ ys : List Mem, ys.drop (j + 1) = (ys.drop j).drop 1 := fun ys => by rw [List.drop_drop]
      refine cond_bsplit (fun e => ?_) (fun e => ?_)
      · refine ls69 0 hS rfl ?_
        refine valP_ok (ixz66 (by omega) _) ?_
        refine set_mrow (k + 1) hS (by rw [List.getElem?_cons_succ]; exact hkx) (by omega) ?_
        intro w hS
        simp only [List.set_cons_succ] at hS
        have hS := hS.tail
        rw [List.set_set] at hS
        unfold m91_13
        refine valP_ok (add_ok _ _ _ (by omega) (by omega) _) ?_
        unfold m91_10
        refine valP_ok (add_ok _ _ _ (by omega) (by omega) _) ?_
        refine ⟨⟨i + 1, j + 1, xs.set i l[j], rfl, by omega, by omega, by simp [hxl], ?_, ?_, hS⟩, by simp [intOf]; omega⟩
        · rw [htk2, List.filter_append, ← htk, List.take_succ_eq_append_getElem (by simp; omega), List.getElem_set_self, List.take_set_of_le (by omega)]
          simp [e]
        · rw [List.drop_set_of_lt (by omega), hdr2, hdr2, hdr]
      · have hS := hS.tail
        unfold m91_10
        refine valP_ok (add_ok _ _ _ (by omega) (by omega) _) ?_
        refine ⟨⟨i, j + 1, xs, rfl, by omega, by omega, hxl, ?_, ?_, hS⟩, by simp [intOf]; omega⟩
        · rw [htk2, List.filter_append, ← htk]
          simp [e]
        · rw [hdr2, hdr2, hdr]
    · have hjl : j = l.length := by omega
      subst hjl
      rw [List.take_length] at htk
      have hil : (l.filter fun x => !p x).length = i := by rw [← htk, List.length_take]; omega
      unfold m91_4
      refine valP_ok (so66 (k := i) (by omega) hnc _) ?_
      unfold mrow at hS
      rw [hxl] at hS
      have hk2 : (L.set k (Res.row 69 3 (.slice (some ⟨g, 0, none⟩) l.length c) l.length (xs.flatMap encM)))[k]? = some (Res.row 69 3 (.slice (some ⟨g, 0, none⟩) l.length c) l.length (xs.flatMap encM)) := by simp [hkl]
      refine clear_ok (size := 3) (i := i) k sl66 (by decide) hS hk2 (by omega) ?_
      intro w' xs' hx1 hx2 hS
      rw [List.set_set] at hS
      unfold m91_5
      refine valP_ok (sh66 (by omega) _) ?_
      unfold m91_6
      rw [hil]
      refine ⟨rfl, ?_⟩
      have hk3 : (L.set k (Res.row 69 3 (.slice (some ⟨g, 0, none⟩) l.length c) l.length xs'))[k]? = some (Res.row 69 3 (.slice (some ⟨g, 0, none⟩) l.length c) l.length xs') := by simp [hkl]
      have h1 := hS.row_take (k := i) k hk3 (by omega)
      rw [List.set_set, hx2] at h1
      have e : (xs.flatMap encM).take (i * 3) = (l.filter fun x => !p x).flatMap encM := by rw [← htk, flatM_take]
      rw [e] at h1
      unfold mrow
      rw [hil]
      exact h1

end Go.Proofs.Ytjjmlopmemmobaa.M
