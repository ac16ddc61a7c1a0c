/- What assign.share comes to: the members, nothing counted yet, how many each has. -/
import Derived.Test.YtjjmlopmemmobaaR
import Derived.Test.YtjjmlopmemmobaaMlib0
import Derived.Test.YtjjmlopmemmobaaMlib1
import Derived.Test.YtjjmlopmemmobaaXD
import Derived.Test.YtjjmlopmemmobaaFwS
namespace Go.Proofs.Ytjjmlopmemmobaa.M
open Go.Proofs.Ytjjmlopmemmobaa.F Go.RowKit
set_option linter.unusedVariables false
set_option linter.unusedSimpArgs false
set_option maxRecDepth 100000
set_option maxHeartbeats 2000000
attribute [local irreducible] Res.cells Res.row Res.map Res.any World.cell? World.frozen? Instr.fieldAt Instr.loadAt Instr.storeAt Instr.indexAt Instr.lookup Instr.mapUpdate Instr.box Instr.build Instr.buildSlice Instr.extract Instr.alloc Instr.field Instr.index Instr.sliceAt Instr.makeSlice Instr.makeMap Instr.makeFunc binS Op.unary Sem.run
open Go.Proofs.Ytjjmlopmemmobaa.L Go.Shelf
/-- Cells that are read. -/
def Res.rd (size : Nat) (A : Option Addr) (n : Nat) (xs : List Value) : Res :=
  ⟨A.toList.map (·.block), fun w => Rd w size A n xs, fun w w' h hr => hr.keep fun g o e _ => h g (by rw [e]; simp)⟩
/-- What a map tells of numbers: those that it doesn't have have 0. -/
def Mc (M : Value → Option Value) (C : Int → Int) : Prop := ∀ x, (Lit.int .i64 x).wf = true → (M (.int .i64 x)).getD (.int .i64 0) = .int .i64 (C x)
abbrev mapI (b n : Nat) (M : Value → Option Value) : Res := Res.map Try.prog 3 (plainElem Try.prog 3) b n M
theorem map_get {w0 w : World} {F : List Nat} {L : List Res} {b n : Nat} {M : Value → Option Value} (k : Nat) (hS : St w0 F w L) (hk : L[k]? = some (mapI b n M)) : MapV Try.prog 3 (plainElem Try.prog 3) b n M w := by
  have h := hS.get k hk
  unfold mapI Res.map at h
  exact h
theorem plain3_apart : Elem.apart (plainElem (H := Unit) Try.prog 3) := fun u v d p q h1 h2 => by
  obtain ⟨a, rfl, e1, _⟩ := plainElem_int_inv Try.underlying3 h1
  obtain ⟨b, rfl, e2, _⟩ := plainElem_int_inv Try.underlying3 h2
  simp only [Prod.mk.injEq] at e1 e2
  have := e1.1.symm.trans e2.1
  simp only [DataW.lit.injEq, Lit.int.injEq] at this
  rw [this.2]
theorem wf0 : (Lit.int .i64 0).wf = true := by decide
theorem wf_of {x : Int} (h1 : -9223372036854775808 ≤ x) (h2 : x ≤ 9223372036854775807) : (Lit.int .i64 x).wf = true := by
  simp only [Lit.wf, Bool.and_eq_true, decide_eq_true_eq]
  exact ⟨h1, h2⟩
theorem key3 {x : Int} (hx : (Lit.int .i64 x).wf = true) : keyOf Try.prog 3 (.int .i64 x) = some (.int .i64 x) := by
  first | (simp [keyOf, mapKey, Try.underlying3, hx]; done) | (simp [keyOf, mapKey, Try.underlying3] <;> simp_all)
theorem look_run {w : World} {b n : Nat} {M : Value → Option Value} {C : Int → Int} (h : MapV Try.prog 3 (plainElem Try.prog 3) b n M w) (hM : Mc M C) {x : Int} (hx : (Lit.int .i64 x).wf = true) :
    (Instr.lookup 129 (.map (some b)) (.int .i64 x) false).run Try.prog w = .ok (.int .i64 (C x)) w := by
  rw [h.lookup plain3_apart (Go.Maps.int_keyed Try.underlying3) Try.underlying129 (z := .int .i64 0) (by simp [go_sem]) (plainElem_int Try.underlying3 wf0) (key3 hx), hM x hx]
theorem upd_at {K : Value → World → Prop} {w0 w : World} {F : List Nat} {L : List Res} {b n : Nat} {M : Value → Option Value} {C : Int → Int} (j : Nat) (hS : St w0 F w L) (hj : L[j]? = some (mapI b n M)) (hM : Mc M C) (hn : n < maxLen) {x y : Int} (hx : (Lit.int .i64 x).wf = true) (hy : (Lit.int .i64 y).wf = true)
    (h : ∀ M' w', Mc M' (fun z => if z = x then y else C z) → St w0 F w' (L.set j (mapI b (n + 1) M')) → K undef w') : unitP Try.prog (Instr.mapUpdate 129 (.map (some b)) (.int .i64 x) (.int .i64 y)) w K := by
  refine mapUpdate_at j hS hj (Go.Maps.int_keyed Try.underlying3) Try.underlying129 hn (key3 hx) (plainElem_int Try.underlying3 hy) fun w' hS' => h _ _ (fun z hz => ?_) hS'
  by_cases e : z = x
  · subst e
    rw [updV_same]
    show _ = Value.int .i64 (if z = z then y else C z)
    rw [if_pos rfl]
    rfl
  · rw [updV_other (fun h => e (by injection h))]
    show _ = Value.int .i64 (if z = x then y else C z)
    rw [if_neg e]
    exact hM z hz
theorem ints_at {w : World} {A : Option Addr} {zs : List Int} (h : Rd w 1 A zs.length (ints zs)) : IntsAt w.heap.size w A zs := fun hz => by
  obtain ⟨g, o, hA, hc⟩ := h.2 (by simpa using hz)
  have h0 := hc 0 _ (ints_get hz)
  refine ⟨_, hA, ?_, fun j hj => ?_⟩
  · exact cell_lt h0
  · rw [add_none, hc j _ (ints_get hj)]
    simp [hj]
theorem rd_of_row {B : Nat} {w : World} {A : Option Addr} {M : List Int} {c : Nat} (h : RowAt B w A M c) : Rd w 1 A M.length (ints M) ∧ ∀ g o, A = some ⟨g, o, none⟩ → B ≤ g ∧ g < w.heap.size := by
  rcases h with ⟨rfl, rfl⟩ | ⟨g, rfl, h1, h2, h3, h4⟩
  · exact ⟨Rd.nil_ _ _ _, fun g o e => by cases e⟩
  · refine ⟨⟨by simp, fun _ => ⟨g, 0, rfl, fun j u hj => ?_⟩⟩, fun g' o e => by cases e; exact ⟨h1, h2⟩⟩
    simp only [ints, List.getElem?_map] at hj
    cases e : M[j]? with
    | none => rw [e] at hj; cases hj
    | some x =>
      rw [e] at hj
      obtain ⟨hj', e'⟩ := List.getElem?_eq_some_iff.1 e
      have := (h3 j (by simpa using hj')).1
      rw [this]
      simp at hj
      rw [← hj, ← e']
      simp [hj']
theorem values_ret (a : Option Addr) (n c : Nat) (w : World) : Ret Try.prog 59 #[.slice a n c] w fun v w' => v = .func (.func 87) #[] #[.pointer (some ⟨w.heap.size, 0, none⟩)] ∧ w' = w.alloc (.cells #[.slice a n c] 28) :=
  Calls.mono (values_calls a n c w) fun e w' ⟨he, hw⟩ => ⟨_, he, rfl, hw⟩
theorem sorted_ret (b : Nat) (A : Option Addr) (c : Nat) (zs : List Int) (w : World) (hz : zs.length ≤ 1000000) (hb : b < w.heap.size) (hc : w.cell? ⟨b, 0, none⟩ = some (.slice A zs.length c)) (hI : IntsAt w.heap.size w A zs) :
    Ret Try.prog 58 #[.func (.func 87) #[] #[.pointer (some ⟨b, 0, none⟩)]] w fun v w' => w'.ownsRow w.heap.size 3 1 v zs.length (List.map (Value.int .i64) (zs.mergeSort fun x y => decide (x ≤ y))) ∧ Below w.heap.size w w' :=
  Calls.mono (sorted_calls b A c zs (by unfold maxLen; omega) (by omega) w hb hc hI) fun e w' ⟨v, he, hr, hb⟩ => ⟨v, he, hr, hb⟩
theorem delete_ret (B : Nat) (A : Option Addr) (c : Nat) (M : List Int) (w : World) (h : RowAt B w A M c) (hl : M.length ≤ 1000000) (hc : A = none → c = 0) :
    Ret Try.prog 65 #[.slice A M.length c, fnV 117] w fun v w' => v = .slice A (aboveL M).length c ∧ RowAt B w' A (aboveL M) c ∧ Below B w w' :=
  Calls.mono (delete_calls B A c M w h (by unfold maxLen; omega) hc) fun e w' ⟨he, hr, hb⟩ => ⟨_, he, rfl, hr, hb⟩
theorem compact_ret (B : Nat) (A : Option Addr) (c : Nat) (M : List Int) (w : World) (h : RowAt B w A M c) (hl : M.length ≤ 1000000) :
    Ret Try.prog 118 #[.slice A M.length c] w fun v w' => v = .slice A (Lib.compact M).length c ∧ RowAt B w' A (Lib.compact M) c ∧ Below B w w' :=
  Calls.mono (compact_calls B A c M w h (by unfold maxLen; omega)) fun e w' ⟨he, hr, hb⟩ => ⟨_, he, rfl, hr, hb⟩
def badParts (parts : Int) : Prop := parts < 1 ∨ 64 < parts
instance (parts : Int) : Decidable (badParts parts) := inferInstanceAs (Decidable (_ ∨ _))
def baseI (parts : Int) (M : List Int) : Int := if M.length = 0 then 0 else parts / M.length
def bigI (parts : Int) (M : List Int) : Int := if M.length = 0 then 0 else parts % M.length
/-- The shares: members, counts, how many each has, how many have one more. -/
abbrev shc (b : Nat) (s : Value) (mb : Nat) (base big : Int) : Res := Res.cells b 131 [s, .map (some mb), .int .i64 base, .int .i64 big]
theorem share_ret {w0 w : World} {F : List Nat} {L : List Res} {A : Option Addr} {c : Nat} {zs : List Int} {parts : Int} (hp : -9223372036854775808 ≤ parts) (hp' : parts ≤ 9223372036854775807) (hS : St w0 F w L) (hI : Bes w0 F L 1 A zs.length (ints zs)) (hz : zs.length ≤ 1000000) :
    Ret Try.prog 99 #[.int .i64 parts, .slice A zs.length c] w fun v w' => if badParts parts then v = .tuple #[.pointer none, .bool false] ∧ St w0 F w' L
      else ∃ b mb A' c' Mv, v = .tuple #[.pointer (some ⟨b, 0, none⟩), .bool true] ∧ Mc Mv (fun _ => 0) ∧
        St w0 F w' (shc b (.slice A' (membersL zs).length c') mb (baseI parts (membersL zs)) (bigI parts (membersL zs)) :: mapI mb 0 Mv :: Res.rd 1 A' (membersL zs).length (ints (membersL zs)) :: L) := by
  have hmax : (1000000 : Nat) ≤ maxLen := by unfold maxLen; omega
  refine s99 _ _ ?_
  unfold m99 m99_0
  unfold m99_1
  refine callR (by kernel_rfl) (values_ret A zs.length c w) ?_
  rintro v w1 ⟨rfl, hw1⟩
  have hS1 : St w0 F w1 (Res.cells w.heap.size 28 [.slice A zs.length c] :: L) := by rw [hw1]; exact hS.alloc 28 [.slice A zs.length c]
  have hIA := ints_at (hI.rd1 hS1)
  have hlt : w.heap.size < w1.heap.size := by rw [hw1]; simp
  refine callR (by kernel_rfl) (sorted_ret w.heap.size A c zs w1 hz hlt (hS1.cell 0 rfl rfl) hIA) ?_
  rintro v w2 ⟨hrow, hb2⟩
  have hl1 : (zs.mergeSort fun x y => decide (x ≤ y)).length = zs.length := List.length_mergeSort _
  rw [← hl1] at hrow
  obtain ⟨A1, c1, rfl, hR, hc0⟩ := RowAt.of_owns hrow
  refine callR (by kernel_rfl) (delete_ret _ A1 c1 _ w2 hR (by omega) hc0) ?_
  rintro v w3 ⟨rfl, hR, hb3⟩
  unfold m99_2
  have hl2 : (aboveL (zs.mergeSort fun x y => decide (x ≤ y))).length ≤ zs.length := by
    have := List.length_filter_le (fun x => !decide (x ≤ 0)) (zs.mergeSort fun x y => decide (x ≤ y))
    unfold aboveL
    omega
  refine callR (by kernel_rfl) (compact_ret _ A1 c1 _ w3 hR (by omega)) ?_
  rintro v w4 ⟨rfl, hR, hb4⟩
  have hML : Lib.compact (aboveL (zs.mergeSort fun x y => decide (x ≤ y))) = membersL zs := rfl
  rw [hML] at hR ⊢
  have hb := (hb2.trans hb3).trans hb4
  have hS4 : St w0 F w4 L := (hS1.quiet (Chg.of_below hb [])).tail
  obtain ⟨hRd, hA1⟩ := rd_of_row hR
  have hmem : (membersL zs).length ≤ 1000000 := by have := membersL_len zs; omega
  have hS5 : St w0 F w4 (Res.rd 1 A1 (membersL zs).length (ints (membersL zs)) :: L) := by
    have h0 := hS1.tail.add (r := Res.rd 1 A1 (membersL zs).length (ints (membersL zs))) (Chg.of_below hb []) hRd
    refine h0 (fun g hg => ?_) (fun g hg => ?_)
    all_goals
      cases A1 with
      | none => simp [Res.rd] at hg
      | some a =>
        obtain rfl : g = a.block := by simpa [Res.rd] using hg
        have hsp : a = ⟨a.block, a.off, none⟩ := by
          rcases hR with ⟨h, _⟩ | ⟨g, h, _⟩
          · cases h
          · cases h; rfl
        have := hA1 a.block a.off (by rw [← hsp])
        omega
  clear hRd hA1 hR hb hb2 hb3 hb4 hS4 hS1 hIA hrow
  generalize membersL zs = M at *
  unfold m99_3
  refine valP_ok (lss_ok _ _ _ _ _ _ _) ?_
  have hbad : ∀ w, St w0 F w L → badParts parts → ∀ R, (R (.tuple #[.pointer none, .bool false]) w) → m99_10 R (.int .i64 parts) (.slice A1 M.length c1) (.bool true) w := fun w hS hb R hR => by
    unfold m99_10
    refine cond_t rfl ?_
    unfold m99_11
    exact hR
  by_cases h1 : parts < 1
  · refine cond_dt h1 ?_
    first | refine pick_dt (by first | assumption | omega) ?_ | refine pick_df (by first | assumption | omega) ?_ | refine pick_t (by first | rfl | assumption) ?_ | refine pick_f (by first | rfl | assumption) ?_ | refine pick_dt rfl ?_ | refine pick_df (not_not_intro rfl) ?_
    refine hbad _ hS5.tail (.inl h1) _ ?_
    show ite _ _ _
    rw [if_pos (.inl h1)]
    exact ⟨rfl, hS5.tail⟩
  refine cond_df h1 ?_
  refine valP_ok (gtr_ok _ _ _ _ _ _ _) ?_
  first | refine pick_dt (by first | assumption | omega) ?_ | refine pick_df (by first | assumption | omega) ?_ | refine pick_t (by first | rfl | assumption) ?_ | refine pick_f (by first | rfl | assumption) ?_ | refine pick_dt rfl ?_ | refine pick_df (not_not_intro rfl) ?_
  by_cases h2 : 64 < parts
  · rw [decide_eq_true h2]
    refine hbad _ hS5.tail (.inr h2) _ ?_
    show ite _ _ _
    rw [if_pos (.inr h2)]
    exact ⟨rfl, hS5.tail⟩
  have hnb : ¬ badParts parts := by unfold badParts; omega
  unfold m99_10
  refine cond_df h2 ?_
  unfold m99_4
  refine makeMap_ok 3 (plainElem Try.prog 3) hS5 ?_
  intro mb w5 hS
  refine valP_ok (bd131_0_1 rfl rfl _) ?_
  refine new_ok (bx131 _ _ _ _ _) hS ?_
  intro b24 w hS
  unfold m99_5
  refine builtin_ok (len28 _) ?_
  unfold m99_8
  refine valP_ok (gtr_ok _ _ _ _ _ _ _) ?_
  unfold m99_9
  by_cases hn : 0 < (M.length : Int)
  · have e1 : baseI parts M = parts / M.length := by unfold baseI; rw [if_neg (by omega)]
    have e2 : bigI parts M = parts % M.length := by unfold bigI; rw [if_neg (by omega)]
    refine cond_dt hn ?_
    refine drawn_ok hS ?_
    intro w hS
    refine pureP_ok (quo_ok _ _ _ (by omega) (by omega) (by omega)) ?_
    refine pureP_ok (rem_ok _ _ _ (by omega) (by omega) (by omega)) ?_
    refine nil_ok ?_
    first | refine pureP_ok (fa131_2 _) ?_ | refine pureP_ok (fao131_2 _ _) ?_
    first | refine store_at 0 st3 hS rfl (by simp) rfl ?_ | refine store_at 1 st3 hS rfl (by simp) rfl ?_ | refine store_at 2 st3 hS rfl (by simp) rfl ?_ | refine store_at 3 st3 hS rfl (by simp) rfl ?_ | refine store_at 4 st3 hS rfl (by simp) rfl ?_
    intro w hS
    simp only [List.set_cons_zero, List.set_cons_succ] at hS
    refine nil_ok ?_
    first | refine pureP_ok (fa131_3 _) ?_ | refine pureP_ok (fao131_3 _ _) ?_
    first | refine store_at 0 st3 hS rfl (by simp) rfl ?_ | refine store_at 1 st3 hS rfl (by simp) rfl ?_ | refine store_at 2 st3 hS rfl (by simp) rfl ?_ | refine store_at 3 st3 hS rfl (by simp) rfl ?_ | refine store_at 4 st3 hS rfl (by simp) rfl ?_
    intro w hS
    simp only [List.set_cons_zero, List.set_cons_succ] at hS
    unfold m99_6 m99_7
    show ite _ _ _
    rw [if_neg hnb, e1, e2]
    exact ⟨_, mb, A1, c1, _, rfl, fun _ _ => rfl, hS⟩
  · have e1 : baseI parts M = 0 := by unfold baseI; rw [if_pos (by omega)]
    have e2 : bigI parts M = 0 := by unfold bigI; rw [if_pos (by omega)]
    refine cond_df hn ?_
    unfold m99_6 m99_7
    show ite _ _ _
    rw [if_neg hnb, e1, e2]
    exact ⟨_, mb, A1, c1, _, rfl, fun _ _ => rfl, hS⟩

end Go.Proofs.Ytjjmlopmemmobaa.M
