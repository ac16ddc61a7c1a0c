/- Arguments that are opened whole, with what they weigh. -/
import Derived.Test.YtnhgdngbdoifnaaFwL
import Derived.SizedLaws
/- Arguments that are read whole, with what they weigh. -/
namespace Go.Proofs.Ytnhgdngbdoifnaa.F
set_option linter.unusedVariables false
set_option linter.unusedSimpArgs false
open Go Go.RowKit Go.ChangeShapes Go.WideShapes
/-- Each string, slice and map of this data is one of a machine's. -/
def Sz {H : Type} (P : Program) (t : TypeId) (d : DataW H) : Prop := ∀ n ∈ d.weights P t, n ≤ reachBytes
section
variable {H : Type} {en : TypeId × Value → H} {P : Program} {w : World}
theorem Sz.of_each {ts : List TypeId} {ds : List (DataW H)} {j : Nat} {t : TypeId} {d : DataW H} (h : (DataW.weightsEach P ts ds).all (· ≤ reachBytes) = true) (ht : ts[j]? = some t) (hd : ds[j]? = some d) : Sz P t d :=
  fun n hn => by simpa using List.all_eq_true.1 h n (DataW.weights_mem_each ht hd n hn)
theorem weightsAll_mem {e : TypeId} : ∀ {l : List (DataW H)} {d : DataW H}, d ∈ l → ∀ n ∈ d.weights P e, n ∈ DataW.weightsAll P e l
  | a :: l, d, hd, n, hn => by
    unfold DataW.weightsAll
    rcases List.mem_cons.1 hd with rfl | hd
    · exact List.mem_append_left _ hn
    · exact List.mem_append_right _ (weightsAll_mem hd n hn)
theorem Sz.string {t : TypeId} {s : ByteArray} (h : Sz P t (.lit (.string s.data.toList) : DataW H)) : s.size ≤ reachBytes := by
  have := h s.data.toList.length (by simp [DataW.weights])
  simpa using this
/-- A slice of elements of k cells each, that are opened by a law. -/
theorem open_rowsW {α : Type} (enc : α → List Value) (Ok : α → Prop) {t e k : Nat} (hk0 : 0 < k) (ht : P.underlying t = some (.slice e)) (hk : P.cellsOf e = k)
    (hel : ∀ n cs y, DataW.trod en P w 0 (fun _ => true) true n e cs = some y → Sz P e y.1 → ∃ x, cs = enc x ∧ (enc x).length = k ∧ Ok x) {fuel : Nat} {cs : List Value} {x : DataW H × List MemPlace}
    (h : DataW.trod en P w 0 (fun _ => true) true fuel t cs = some x) (hz : Sz P t x.1) : ∃ (A : Option Addr) (c : Nat) (l : List α), cs = [.slice A l.length c] ∧ l.length ≤ c ∧ (A = none → c = 0) ∧ Rd w k A l.length (l.flatMap enc) ∧ (∀ x ∈ l, Ok x) ∧ c * P.bytesOf e ≤ reachBytes := by
  rcases Go.Deep.open_slice ht h with ⟨rfl, _⟩ | ⟨a, len, cap, m, n, D, Pl, rfl, hb, hl, hm, hmm, hxe, hx⟩
  · exact ⟨none, 0, [], rfl, by simp, fun _ => rfl, Rd.nil_ _ _ _, by simp, by simp⟩
  · simp only [if_true] at hmm
    subst hmm
    have hw : (DataW.weights P t x.1) = (((List.range len).map D).length * P.bytesOf e + ((List.range (m - len)).map fun j => D (len + j)).length * P.bytesOf e) :: (DataW.weightsAll P e ((List.range len).map D) ++ DataW.weightsAll P e ((List.range (m - len)).map fun j => D (len + j))) := by
      rw [hxe]
      simp only [DataW.weights, ht, Nat.add_mul]
    have hcap : m * P.bytesOf e ≤ reachBytes := by
      have := hz _ (by rw [hw]; exact .head _)
      simp only [List.length_map, List.length_range] at this
      rw [← Nat.add_mul, show len + (m - len) = m by omega] at this
      exact this
    rw [hk] at hx
    have hx' : ∀ i ∈ List.range len, ∃ x : α, Ok x ∧ (enc x).length = k ∧ ∀ j v, (enc x)[j]? = some v → w.cell? ((a.add (i * k)).add j) = some v := fun i hi => by
      have hi := List.mem_range.1 hi
      obtain ⟨cs', h1, h2⟩ := hx i (by omega)
      obtain ⟨x, rfl, hlen, hok⟩ := hel _ _ _ h2 (fun n hn => hz n (by
        rw [hw]
        exact List.mem_cons_of_mem _ (List.mem_append_left _ (weightsAll_mem (List.mem_map.2 ⟨i, List.mem_range.2 hi, rfl⟩) n hn))))
      obtain ⟨_, _, hc⟩ := World.cells?_some h1
      refine ⟨x, hok, hlen, fun j v hj => ?_⟩
      rw [hc j (by obtain ⟨h, _⟩ := List.getElem?_eq_some_iff.1 hj; omega)]
      exact hj
    obtain ⟨l, hll, hp⟩ := list_of (List.range len) hx'
    rw [List.length_range] at hll
    have hlen : ∀ x ∈ l, (enc x).length = k := fun x hx => by
      obtain ⟨i, hi, rfl⟩ := List.mem_iff_getElem.1 hx
      exact (hp i (by simp; omega) hi).2.1
    have hfl : ∀ m : List α, (∀ x ∈ m, (enc x).length = k) → (m.flatMap enc).length = m.length * k := fun m => by
      induction m with
      | nil => intro _; simp
      | cons a m ih => intro h; rw [List.flatMap_cons, List.length_append, ih (fun x hx => h x (.tail _ hx)), h a (.head _), List.length_cons, Nat.succ_mul, Nat.add_comm]
    have hget : ∀ (m : List α), (∀ x ∈ m, (enc x).length = k) → ∀ q v, (m.flatMap enc)[q]? = some v → ∃ (i j : Nat) (h : i < m.length), q = i * k + j ∧ (enc m[i])[j]? = some v := fun m => by
      induction m with
      | nil => intro _ q v h; simp at h
      | cons a m ih =>
        intro h q v hq
        rw [List.flatMap_cons] at hq
        by_cases hqk : q < k
        · rw [List.getElem?_append_left (by rw [h a (.head _)]; exact hqk)] at hq
          exact ⟨0, q, by simp, by simp, hq⟩
        · rw [List.getElem?_append_right (by rw [h a (.head _)]; omega), h a (.head _)] at hq
          obtain ⟨i, j, hi, he, hv⟩ := ih (fun x hx => h x (.tail _ hx)) _ v hq
          exact ⟨i + 1, j, by simpa using hi, by rw [Nat.succ_mul]; omega, hv⟩
    refine ⟨some a, m, l, (by rw [hll]), (by omega), (fun h => (by cases h)), ⟨hfl l hlen, fun hp0 => ?_⟩, fun x hx => ?_, hcap⟩
    · have h0 : 0 < l.length := by
        rcases Nat.eq_zero_or_pos l.length with h | h
        · rw [List.eq_nil_of_length_eq_zero h] at hp0; simp at hp0
        · exact h
      obtain ⟨b, o, spot⟩ := a
      obtain ⟨cs', c1, _⟩ := hx 0 (by omega)
      obtain ⟨_, c2, c3⟩ := World.cells?_some c1
      have hv := c3 0 hk0
      rw [Nat.zero_mul, List.getElem?_eq_getElem (by omega)] at hv
      have hspot : spot = none := by simpa [Addr.add] using World.cell?_spot hv
      subst hspot
      refine ⟨b, o, rfl, fun q u hq => ?_⟩
      obtain ⟨i, j, hi, rfl, hv⟩ := hget l hlen q u hq
      have := (hp i (by simp; omega) hi).2.2 j u hv
      rw [List.getElem_range, add_none, add_none, Nat.add_assoc] at this
      exact this
    · obtain ⟨i, hi, rfl⟩ := List.mem_iff_getElem.1 hx
      exact (hp i (by simp; omega) hi).1
/-- A struct's fields, where they lie. -/
theorem open_structW {t : Nat} {fs : Array Field} (hs : P.underlying t = some (.struct fs)) {fuel : Nat} {cs : List Value} {x : DataW H × List MemPlace} (h : DataW.trod en P w 0 (fun _ => true) true fuel t cs = some x) (hz : Sz P t x.1) :
    cs.length = P.cellsOf t ∧ ∀ (i ft off k : Nat), (fs[i]?).map (fun f => (f.type, f.offset)) = some (ft, off) → P.cellsOf ft = k → ∃ n y, DataW.trod en P w 0 (fun _ => true) true n ft ((cs.drop off).take k) = some y ∧ Sz P ft y.1 := by
  obtain ⟨xs, n, _, hxe, hl, hxl, hf⟩ := DataW.trod_struct hs h
  refine ⟨hl, fun i ft off k hi hk => ?_⟩
  cases hfi : fs[i]? with
  | none => rw [hfi] at hi; cases hi
  | some f =>
    rw [hfi] at hi
    simp only [Option.map_some, Option.some.injEq, Prod.mk.injEq] at hi
    obtain ⟨rfl, rfl⟩ := hi
    have h1 := hf i f hfi
    have hlt : i < xs.length := by rw [hxl]; exact (Array.getElem?_eq_some_iff.1 hfi).1
    rw [List.getElem?_eq_getElem hlt, hk] at h1
    refine ⟨n, _, h1, fun n hn => hz n ?_⟩
    rw [hxe]
    simp only [DataW.weights, hs]
    exact DataW.weights_mem_each (j := i) (by rw [List.getElem?_map, Array.getElem?_toList, hfi]; rfl) (by rw [List.getElem?_map, List.getElem?_eq_getElem hlt]; rfl) n hn
end

/-! ### What is held while a drawn region is gone through, told by the state itself -/
def Hs (w0 : World) (F : List Nat) (L : List Res) (w : World) : Prop := ∃ L', St w0 F w L' ∧ ∀ r ∈ L, r ∈ L'
section
variable {w0 w : World} {F : List Nat} {L L' : List Res}
theorem Hs.of (hS : St w0 F w L') (h : ∀ r ∈ L, r ∈ L') : Hs w0 F L w := ⟨L', hS, h⟩
theorem held_Hs {G : (World → Prop) → Prop} (hS : St w0 F w L) (h : G (Hs w0 F L)) : heldP w G := ⟨Hs w0 F L, ⟨L, hS, fun _ h => h⟩, h⟩
theorem stay_Hs {A : Prop} (hS : St w0 F w L') (hs : ∀ r ∈ L, r ∈ L') (h : A) : stayP (Hs w0 F L) w A := ⟨⟨L', hS, hs⟩, h⟩
theorem Hs.cell (k : Nat) {b i : Nat} {t : TypeId} {cs : List Value} {v : Value} (hk : L[k]? = some (Res.cells b t cs)) (hi : cs[i]? = some v) (w : World) (h : Hs w0 F L w) : w.cell? ⟨b, i, none⟩ = some v := by
  obtain ⟨L', hS, hL⟩ := h
  obtain ⟨j, hj⟩ := List.mem_iff_getElem?.1 (hL _ (List.mem_of_getElem? hk))
  exact hS.cell j hj hi
theorem Hs.row_cell (k : Nat) {e size g n c j : Nat} {xs : List Value} {u : Value} (hk : L[k]? = some (Res.row e size (.slice (some ⟨g, 0, none⟩) n c) n xs)) (hj : xs[j]? = some u) (w : World) (h : Hs w0 F L w) : w.cell? ⟨g, j, none⟩ = some u := by
  obtain ⟨L', hS, hL⟩ := h
  obtain ⟨i, hi⟩ := List.mem_iff_getElem?.1 (hL _ (List.mem_of_getElem? hk))
  exact hS.row_cell i hi hj
theorem Hs.rd {size n : Nat} {A : Option Addr} {xs : List Value} (hb : Bes w0 F L size A n xs) (w : World) (h : Hs w0 F L w) : Rd w size A n xs := by
  obtain ⟨L', hS, hL⟩ := h
  exact hb w L' hS hL
theorem Hs.rd_cell {size n o g i : Nat} {xs : List Value} {u : Value} (hb : Bes w0 F L size (some ⟨g, o, none⟩) n xs) (hu : xs[i]? = some u) (w : World) (h : Hs w0 F L w) : w.cell? ⟨g, o + i, none⟩ = some u := (Hs.rd hb w h).cells_ hu
theorem Bes.cons {size n : Nat} {A : Option Addr} {xs : List Value} (h : Bes w0 F L size A n xs) (a : Res) : Bes w0 F (a :: L) size A n xs := h.mono fun r hr => .tail _ hr
end
/-! ### append of what may be nothing; rows out of cells -/
theorem append_none_ok {P : Program} {w0 w : World} {F : List Nat} {L : List Res} {K : Value → World → Prop} (k : Nat) {t e ty size bytes n : Nat} {z : Value} {v : Value} {cs : Array Bool} {xs : List Value} (hT : SlT P t e size bytes z) (hS : St w0 F w L) (hk : L[k]? = some (Res.row e size v n xs))
    (h : K v w) : builtinP P .append #[t, t] ty cs #[v, .slice none 0 0] w K := by
  obtain ⟨i, hi, hz, hs, hb⟩ := hT.parts
  exact builtin_ok (append_run (run_append_owned_none w 0 t ty e i size hT.1 hi v n xs (hS.own_row k hk))) h
theorem append_anyS {α : Type} {enc : α → List Value} {P : Program} {w0 w : World} {F : List Nat} {L : List Res} {K : Value → World → Prop} (k : Nat) {t e ty size bytes c c0 : Nat} {z : Value} {cs : Array Bool} {A A0 : Option Addr} {l0 l : List α} (hT : SlT P t e size bytes z) (hk : ∀ x, (enc x).length = size) (h1 : ∀ x, ∀ u ∈ enc x, u.oneCell' = true)
    (hm : l0.length + l.length ≤ maxLen) (hb : (l0.length + l.length) * bytes ≤ 140737488355328) (hS : St w0 F w L) (hq : L[k]? = some (Res.row e size (.slice A0 l0.length c0) l0.length (l0.flatMap enc))) (hR : Rd w size A l.length (l.flatMap enc)) (hz : A = none → c = 0)
    (h : ∀ A' c' w', St w0 F w' (L.set k (Res.row e size (.slice A' (l0 ++ l).length c') (l0 ++ l).length ((l0 ++ l).flatMap enc))) → K (.slice A' (l0 ++ l).length c') w') :
    builtinP P .append #[t, t] ty cs #[.slice A0 l0.length c0, .slice A l.length c] w K := by
  have hlen : (l0 ++ l).length = l0.length + l.length := by simp
  have hfl : l0.flatMap enc ++ l.flatMap enc = (l0 ++ l).flatMap enc := by simp
  cases A with
  | none =>
    obtain rfl := hz rfl
    have hl0 : l = [] := by
      rcases Nat.eq_zero_or_pos l.length with h | h
      · exact List.eq_nil_of_length_eq_zero h
      · obtain ⟨g, o, hA⟩ := hR.some_ h hT.2.2.2; cases hA
    subst hl0
    have hself : St w0 F w (L.set k (Res.row e size (.slice A0 l0.length c0) l0.length (l0.flatMap enc))) := by
      obtain ⟨hlt, he⟩ := List.getElem?_eq_some_iff.1 hq
      rw [← he, List.set_getElem_self]
      exact hS
    rw [List.append_nil] at h
    exact append_none_ok k hT hS hq (h _ _ _ hself)
  | some a =>
    refine append_rd k hT hS hq hR rfl (fun u hu => ?_) hm hb ?_
    · obtain ⟨x, _, hx⟩ := List.mem_flatMap.1 hu
      exact h1 x u hx
    intro A4 c4 w' hS'
    rw [hfl, ← hlen] at hS'
    rw [← hlen]
    exact h _ _ _ hS'
/-- append of one element that was built for it. -/
theorem append_one1 {α : Type} {enc : α → List Value} {P : Program} {w0 w : World} {F : List Nat} {L : List Res} {K : Value → World → Prop} (k : Nat) {t e ty size bytes b c : Nat} {z : Value} {cs : Array Bool} {A : Option Addr} {l : List α} (x : α) (hT : SlT P t e size bytes z) (hk : ∀ x, (enc x).length = size) (h1 : ∀ x, ∀ u ∈ enc x, u.oneCell' = true) (hm : l.length + 1 ≤ maxLen) (hb : (l.length + 1) * bytes ≤ 140737488355328)
    (hS : St w0 F w (Res.cells b e (enc x) :: L)) (hq : L[k]? = some (Res.row e size (.slice A l.length c) l.length (l.flatMap enc)))
    (h : ∀ A' c' w', St w0 F w' (L.set k (Res.row e size (.slice A' (l ++ [x]).length c') (l ++ [x]).length ((l ++ [x]).flatMap enc))) → K (.slice A' (l ++ [x]).length c') w') : builtinP P .append #[t, t] ty cs #[.slice A l.length c, .slice (some ⟨b, 0, none⟩) 1 1] w K := by
  refine append_ok (k + 1) hT hS (by rw [List.getElem?_cons_succ]; exact hq) (news := enc x) (m := 1) (by rw [hk, Nat.one_mul]) (fun j u hj => ?_) (h1 x) hm hb ?_
  · rw [add_none, Nat.zero_add]
    exact hS.cell 0 rfl hj
  · intro A' c' w' hS'
    rw [List.set_cons_succ] at hS'
    have e1 : l.flatMap enc ++ enc x = (l ++ [x]).flatMap enc := by simp
    have e2 : l.length + 1 = (l ++ [x]).length := by simp
    rw [e1, e2] at hS'
    rw [e2]
    exact h A' c' w' hS'.tail
theorem flatS_take {α : Type} {enc : α → List Value} {size : Nat} (hk : ∀ x, (enc x).length = size) : ∀ (l : List α) (k : Nat), (l.take k).flatMap enc = (l.flatMap enc).take (k * size)
  | [], k => by simp
  | a :: l, 0 => by simp
  | a :: l, k + 1 => by
    rw [List.take_succ_cons, List.flatMap_cons, List.flatMap_cons, flatS_take hk l k, List.take_append, hk, Nat.succ_mul, List.take_of_length_le (l := enc a) (by rw [hk]; omega), show k * size + size - size = k * size by omega]
theorem flatS_drop {α : Type} {enc : α → List Value} {size : Nat} (hk : ∀ x, (enc x).length = size) : ∀ (l : List α) (k : Nat), (l.drop k).flatMap enc = (l.flatMap enc).drop (k * size)
  | [], k => by simp
  | a :: l, 0 => by simp
  | a :: l, k + 1 => by
    rw [List.drop_succ_cons, List.flatMap_cons, flatS_drop hk l k, List.drop_append, hk, Nat.succ_mul, List.drop_of_length_le (l := enc a) (by rw [hk]; omega), show k * size + size - size = k * size by omega, List.nil_append]
theorem Rd.takeS {α : Type} {enc : α → List Value} {size : Nat} {w : World} {A : Option Addr} {l : List α} (hk : ∀ x, (enc x).length = size) (k : Nat) (h : Rd w size A l.length (l.flatMap enc)) : Rd w size A (l.take k).length ((l.take k).flatMap enc) := by
  have hl : (l.flatMap enc).length = l.length * size := h.1
  refine ⟨by rw [flat_len enc size hk], fun hp => ?_⟩
  have h0 : 0 < (l.flatMap enc).length := by
    rw [flatS_take hk, List.length_take] at hp
    omega
  obtain ⟨g, o, hA, hc⟩ := h.2 h0
  refine ⟨g, o, hA, fun j u hj => hc j u ?_⟩
  rw [flatS_take hk, List.getElem?_take] at hj
  split at hj
  · exact hj
  · cases hj
theorem Rd.dropS {α : Type} {enc : α → List Value} {size c : Nat} {w : World} {A : Option Addr} {l : List α} (hk : ∀ x, (enc x).length = size) {k : Nat} (hkl : k ≤ l.length) (hc : l.length ≤ c) (h : Rd w size A l.length (l.flatMap enc)) : Rd w size (if c = k then A else A.map (·.add (k * size))) (l.drop k).length ((l.drop k).flatMap enc) := by
  refine ⟨by rw [flat_len enc size hk], fun hp => ?_⟩
  rw [flat_len enc size hk, List.length_drop] at hp
  have hne : k ≠ l.length := fun e => by subst e; simp at hp
  have h0 : 0 < (l.flatMap enc).length := by
    rw [h.1]
    refine Nat.mul_pos (by omega) ?_
    rcases Nat.eq_zero_or_pos size with e | e
    · rw [e] at hp; simp at hp
    · exact e
  obtain ⟨g, o, hA, hcell⟩ := h.2 h0
  subst hA
  rw [if_neg (by omega)]
  refine ⟨g, o + k * size, by simp [add_none], fun j u hj => ?_⟩
  rw [flatS_drop hk, List.getElem?_drop] at hj
  rw [Nat.add_assoc]
  exact hcell _ _ hj
theorem St.sub {w0 w : World} {F : List Nat} {L L' : List Res} (h : St w0 F w L) (hs : List.Sublist L' L) : St w0 F w L' :=
  ⟨h.chg, fun r hr => h.H r (hs.mem hr), fun r hr => h.lt r (hs.mem hr), fun r hr => h.own r (hs.mem hr), h.apart.sublist hs⟩
theorem St.mid {w0 w : World} {F : List Nat} {A B C : List Res} (h : St w0 F w (A ++ (B ++ C))) : St w0 F w (A ++ C) := h.sub (List.Sublist.append (.refl A) (List.sublist_append_right B C))
theorem and_ok {P : Program} (T : TypeId) (x y : Operand) (a b : Int) (w : World) : (binS .and T x y (.int .i64 a) (.int .i64 b)).run P w = .ok (.int .i64 (Go.bits .and .i64 a b)) w := by
  rw [binS_run _ _ _ _ _ _ rfl]
  simp [go_sem, binOp]
theorem neg_run {P : Program} {a : Int} (h1 : -9223372036854775808 < a) (h2 : a ≤ 9223372036854775807) (w : World) : (Op.unary .neg (.int .i64 a)).run P w = .ok (.int .i64 (-a)) w := by
  simp [Op.unary, go_sem, IntKind.wrap_i64]
  omega
/-- a sum that goes round. -/
theorem addw_ok {P : Program} (T : TypeId) (x y : Operand) (a b : Int) (w : World) : (binS .add T x y (.int .i64 a) (.int .i64 b)).run P w = .ok (.int .i64 (IntKind.i64.wrap (a + b))) w := by
  rw [binS_run _ _ _ _ _ _ rfl]
  simp only [go_sem, binOp]
  simp [go_sem]
end Go.Proofs.Ytnhgdngbdoifnaa.F

