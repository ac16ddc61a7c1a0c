/- DeleteFunc at ints, whatever is asked. -/
import Derived.Test.YtjjmlopmemmobaaC1
namespace Go.Proofs.Ytjjmlopmemmobaa.M
open Go.Proofs.Ytjjmlopmemmobaa.F Go.RowKit
set_option linter.unusedVariables false
set_option linter.unusedSimpArgs false
set_option maxRecDepth 100000
set_option maxHeartbeats 2000000
attribute [local irreducible] Res.cells Res.row Res.map Res.any World.cell? World.frozen? Instr.fieldAt Instr.loadAt Instr.storeAt Instr.indexAt Instr.lookup Instr.mapUpdate Instr.box Instr.build Instr.buildSlice Instr.extract Instr.alloc Instr.field Instr.index Instr.sliceAt Instr.makeSlice Instr.makeMap Instr.makeFunc binS Op.unary Sem.run
open Go.Proofs.Ytjjmlopmemmobaa.L Go.Shelf
/-- What a function value tells of ints, where the row at place k has some ints. -/
def AsksI (w0 : World) (F : List Nat) (L : List Res) (k : Nat) (A : Option Addr) (n c : Nat) (f : FuncId) (cap : Array Value) (p : Int → Bool) : Prop :=
  ∀ (x : Int) (w : World) (xs : List Int), xs.length = n → St w0 F w (L.set k (irow (.slice A xs.length c) xs)) → Ret Try.prog f (#[] ++ #[.int .i64 x] ++ cap) w fun v w' => v = .bool (p x) ∧ w' = w
theorem set_self {L : List Res} {k : Nat} {r : Res} (h : L[k]? = some r) : L.set k r = L := by
  obtain ⟨hlt, he⟩ := List.getElem?_eq_some_iff.1 h
  rw [← he, List.set_getElem_self]
theorem indexF_ret {w0 w : World} {F : List Nat} {L : List Res} {A : Option Addr} {c k : Nat} {l : List Int} {f : FuncId} {cap : Array Value} {p : Int → Bool} (hf : callsOk Try.prog f = true) (hl : l.length ≤ 1000000) (hS : St w0 F w L) (hk : L[k]? = some (irow (.slice A l.length c) l)) (hp : AsksI w0 F L k A l.length c f cap p) :
    Ret Try.prog 90 #[.slice A l.length c, .func (.func f) #[] cap] w fun v w' => w' = w ∧ ((v = .int .i64 (-1) ∧ ∀ x ∈ l, p x = false) ∨ ∃ (i : Nat) (h : i < l.length), v = .int .i64 i ∧ p l[i] = true ∧ ∀ x ∈ l.take i, p x = false) := by
  have hr := hS.row_rd k hk
  have hS0 : St w0 F w (L.set k (irow (.slice A l.length c) l)) := by rw [set_self hk]; exact hS
  refine s90 _ _ ?_
  unfold m90
  unfold m90_0
  unfold m90_1
  refine builtin_ok (len28 _) ?_
  unfold m90_4
  refine loop_in (fun s w' => ∃ i : Nat, s = .int .i64 i ∧ i ≤ l.length ∧ (∀ x ∈ l.take i, p x = false) ∧ w' = w) (fun s _ => l.length - (intOf s).toNat) ⟨0, rfl, by omega, by simp, rfl⟩ ?_
  rintro s w ⟨i, rfl, hi, hn, rfl⟩
  unfold m90_5
  refine valP_ok (lss_ok _ _ _ _ _ _ _) ?_
  unfold m90_6
  refine cond_split (fun h => ?_) (fun h => ?_)
  · have hlt : i < l.length := by omega
    obtain ⟨g, o, rfl⟩ := hr.some_ (by omega) (by omega)
    have hc := hr.cell_ (ints_get hlt)
    unfold m90_7
    unfold m90_9
    first | refine valP_ok (ixz28 (by first | assumption | omega) _) ?_ | refine valP_ok (ix28 (by first | assumption | omega) _) ?_
    first | refine valP_ok (ld3 (hS.cell 0 rfl rfl)) ?_ | refine valP_ok (ld3 (hS.cell 1 rfl rfl)) ?_ | refine valP_ok (ld3 (hS.cell 2 rfl rfl)) ?_ | refine valP_ok (ld3 (hS.cell 3 rfl rfl)) ?_ | refine valP_ok (ld3 (hS.cell 4 rfl rfl)) ?_ | refine valP_ok (ld3 (by assumption)) ?_
    refine callvR hf rfl (hp _ _ _ rfl hS0) ?_
    rintro v w ⟨rfl, rfl⟩
    unfold m90_10
    refine cond_bsplit (fun e => ?_) (fun e => ?_)
    · unfold m90_11
      exact ⟨rfl, .inr ⟨i, hlt, rfl, e, hn⟩⟩
    · unfold m90_8
      refine valP_ok (add_ok _ _ _ (by omega) (by omega) _) ?_
      refine ⟨⟨i + 1, rfl, by omega, ?_, rfl⟩, by simp [intOf]; omega⟩
      rw [List.take_succ_eq_append_getElem hlt]
      intro x hm
      rcases List.mem_append.1 hm with h | h
      · exact hn x h
      · rw [List.mem_singleton.1 h]; exact e
  · have hi2 : i = l.length := by omega
    rw [hi2, List.take_length] at hn
    unfold m90_2 m90_3
    exact ⟨rfl, .inl ⟨rfl, hn⟩⟩
theorem filter_none {p : Int → Bool} {l : List Int} (h : ∀ x ∈ l, p x = false) : l.filter (fun x => !p x) = l := List.filter_eq_self.2 fun x hx => by rw [h x hx]; rfl
theorem delF_ret {w0 w : World} {F : List Nat} {L : List Res} {A : Option Addr} {c k : Nat} {l : List Int} {f : FuncId} {cap : Array Value} {p : Int → Bool} (hf : callsOk Try.prog f = true) (hl : l.length ≤ 1000000) (hS : St w0 F w L) (hk : L[k]? = some (irow (.slice A l.length c) l)) (hp : AsksI w0 F L k A l.length c f cap p) :
    Ret Try.prog 65 #[.slice A l.length c, .func (.func f) #[] cap] w fun v w' => v = .slice A (l.filter fun x => !p x).length c ∧ St w0 F w' (L.set k (irow (.slice A (l.filter fun x => !p x).length c) (l.filter fun x => !p x))) := by
  have hkl := (List.getElem?_eq_some_iff.1 hk).1
  refine s65 _ _ ?_
  unfold m65 m65_0
  unfold m65_1
  refine callR (by kernel_rfl) (indexF_ret hf hl hS hk hp) ?_
  rintro v w ⟨rfl, ⟨rfl, hn⟩ | ⟨i, hi, rfl, hpi, hn⟩⟩
  · unfold m65_2
    refine valP_ok (eq3 _ _ _ _ _) ?_
    unfold m65_15
    refine cond_dt rfl ?_
    unfold m65_16
    rw [filter_none hn, set_self hk]
    exact ⟨rfl, hS⟩
  · unfold m65_2
    refine valP_ok (eq3 _ _ _ _ _) ?_
    unfold m65_15
    refine cond_df (by omega) ?_
    obtain ⟨g, rfl⟩ := hS.row_ptr k hk (by omega)
    have hnc := (hS.row_max k hk).1
    have hS : St w0 F w (L.set k (irow (.slice (some ⟨g, 0, none⟩) l.length c) l)) := by rw [set_self hk]; exact hS
    unfold m65_3
    refine valP_ok (add_ok _ _ _ (by omega) (by omega) _) ?_
    unfold m65_7
    refine loop_in (fun s w' => ∃ (i j : Nat) (xs : List Int), s = (.int .i64 i, .int .i64 j) ∧ i < j ∧ j ≤ l.length ∧ xs.length = l.length ∧ xs.take i = (l.take j).filter (fun x => !p x) ∧ xs.drop j = l.drop j ∧ St w0 F w' (L.set k (irow (.slice (some ⟨g, 0, none⟩) xs.length c) xs)))
      (fun s _ => l.length - (intOf s.2).toNat) ⟨i, i + 1, l, rfl, by omega, by omega, rfl, ?_, rfl, hS⟩ ?_
    · rw [List.take_succ_eq_append_getElem hi, List.filter_append, filter_none hn]
      simp [hpi]
    clear hS hn hpi hi
    rintro s w ⟨i, j, xs, rfl, hij, hj, hxl, htk, hdr, hS⟩
    have hkx : (L.set k (irow (.slice (some ⟨g, 0, none⟩) xs.length c) xs))[k]? = some (irow (.slice (some ⟨g, 0, none⟩) xs.length c) xs) := by simp [hkl]
    unfold m65_8
    refine builtin_ok (len28 _) ?_
    refine valP_ok (lss_ok _ _ _ _ _ _ _) ?_
    unfold m65_14
    refine cond_split (fun h => ?_) (fun h => ?_)
    · have hjl : j < l.length := by omega
      have hjx : j < xs.length := by omega
      have hxj : xs[j] = l[j] := by
        have h1 := congrArg (·[0]?) hdr
        simp only [List.getElem?_drop, Nat.add_zero] at h1
        rw [List.getElem?_eq_getElem hjx, List.getElem?_eq_getElem hjl] at h1
        injection h1
      have hc := hS.row_cell k hkx (ints_get hjx)
      rw [hxj] at hc
      unfold m65_9
      first | refine valP_ok (ixz28 (by first | assumption | omega) _) ?_ | refine valP_ok (ix28 (by first | assumption | omega) _) ?_
      first | refine valP_ok (ld3 (hS.cell 0 rfl rfl)) ?_ | refine valP_ok (ld3 (hS.cell 1 rfl rfl)) ?_ | refine valP_ok (ld3 (hS.cell 2 rfl rfl)) ?_ | refine valP_ok (ld3 (hS.cell 3 rfl rfl)) ?_ | refine valP_ok (ld3 (hS.cell 4 rfl rfl)) ?_ | refine valP_ok (ld3 (by assumption)) ?_
      unfold m65_11
      refine callvR hf rfl (hp _ _ _ hxl hS) ?_
      rintro v w ⟨rfl, rfl⟩
      first | refine valP_ok (not_ok _ _) ?_ | refine valP_ok (notb_ok _ _) ?_
      unfold m65_12
      have htk2 : l.take (j + 1) = l.take j ++ [l[j]] := List.take_succ_eq_append_getElem hjl
      have hdr2 : ∀ ys : List Int, ys.drop (j + 1) = (ys.drop j).drop 1 := fun ys => by rw [List.drop_drop]
      refine cond_bsplit (fun e => ?_) (fun e => ?_)
      · refine valP_ok (ixz28 (by omega) _) ?_
        refine set_irow k hS hkx (by omega) ?_
        intro w hS
        rw [List.set_set] at hS
        unfold m65_13
        refine valP_ok (add_ok _ _ _ (by omega) (by omega) _) ?_
        unfold m65_10
        refine valP_ok (add_ok _ _ _ (by omega) (by omega) _) ?_
        refine ⟨⟨i + 1, j + 1, xs.set i l[j], rfl, by omega, by omega, by simp [hxl], ?_, ?_, hS⟩, by simp [intOf]; omega⟩
        · rw [htk2, List.filter_append, ← htk, List.take_succ_eq_append_getElem (by simp; omega), List.getElem_set_self, List.take_set_of_le (by omega)]
          simp [e]
        · rw [List.drop_set_of_lt (by omega), hdr2, hdr2, hdr]
      · unfold m65_10
        refine valP_ok (add_ok _ _ _ (by omega) (by omega) _) ?_
        refine ⟨⟨i, j + 1, xs, rfl, by omega, by omega, hxl, ?_, ?_, hS⟩, by simp [intOf]; omega⟩
        · rw [htk2, List.filter_append, ← htk]
          simp [e]
        · rw [hdr2, hdr2, hdr]
    · have hjl : j = l.length := by omega
      subst hjl
      rw [List.take_length] at htk
      have hil : (l.filter fun x => !p x).length = i := by rw [← htk, List.length_take]; omega
      unfold m65_4
      refine valP_ok (so28 (k := i) (by omega) hnc _) ?_
      unfold irow at hS
      rw [hxl] at hS
      have hk2 : (L.set k (Res.row 3 1 (.slice (some ⟨g, 0, none⟩) l.length c) l.length (ints xs)))[k]? = some (Res.row 3 1 (.slice (some ⟨g, 0, none⟩) l.length c) l.length (ints xs)) := by simp [hkl]
      rw [show (fun x : Addr => x.add i) = fun x => x.add (i * 1) by rw [Nat.mul_one]]
      refine clear_ok (size := 1) (i := i) k sl28 (by decide) hS hk2 (by omega) ?_
      intro w' xs' hx1 hx2 hS
      rw [List.set_set] at hS
      unfold m65_5
      refine valP_ok (sh28 (by omega) _) ?_
      unfold m65_6
      rw [hil]
      refine ⟨rfl, ?_⟩
      have hk3 : (L.set k (Res.row 3 1 (.slice (some ⟨g, 0, none⟩) l.length c) l.length xs'))[k]? = some (Res.row 3 1 (.slice (some ⟨g, 0, none⟩) l.length c) l.length xs') := by simp [hkl]
      have h1 := hS.row_take (k := i) k hk3 (by omega)
      rw [List.set_set, hx2, Nat.mul_one] at h1
      have e : (ints xs).take i = ints (l.filter fun x => !p x) := by unfold ints; rw [← List.map_take, htk]
      rw [e] at h1
      unfold irow
      rw [hil]
      exact h1

end Go.Proofs.Ytjjmlopmemmobaa.M
