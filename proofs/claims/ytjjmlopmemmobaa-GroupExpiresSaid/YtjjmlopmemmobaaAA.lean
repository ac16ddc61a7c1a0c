/- What assign.share comes to: the members, nothing counted yet, how many each has; What a member may keep; the member that has fewest; What assign.Range comes to; What assign.Sticky comes to; The laws' helpers: not too many, the same numbers, how many an owner has; the examples; The document's own answer: members, and what lies side by side; What the shares know is what the list says; The document's own Sticky; Any partitions go to any members, with any old owners, as the document says; Whoever the members are, their shares differ by one at the most; What is fair stays; side by side is fair. -/
import Derived.Test.YtjjmlopmemmobaaR
import Derived.Test.YtjjmlopmemmobaaMlib0
import Derived.Test.YtjjmlopmemmobaaMlib1
import Derived.Test.YtjjmlopmemmobaaXD
import Derived.Test.YtjjmlopmemmobaaFwS
namespace Go.Proofs.Ytjjmlopmemmobaa.M
open Go.Proofs.Ytjjmlopmemmobaa.F Go.RowKit
set_option linter.unusedVariables false
set_option linter.unusedSimpArgs false
set_option maxRecDepth 100000
set_option maxHeartbeats 2000000
attribute [local irreducible] Res.cells Res.row Res.map Res.any World.cell? World.frozen? Instr.fieldAt Instr.loadAt Instr.storeAt Instr.indexAt Instr.lookup Instr.mapUpdate Instr.box Instr.build Instr.buildSlice Instr.extract Instr.alloc Instr.field Instr.index Instr.sliceAt Instr.makeSlice Instr.makeMap Instr.makeFunc binS Op.unary Sem.run
open Go.Proofs.Ytjjmlopmemmobaa.L Go.Shelf
/-- Cells that are read. -/
def Res.rd (size : Nat) (A : Option Addr) (n : Nat) (xs : List Value) : Res :=
  ⟨A.toList.map (·.block), fun w => Rd w size A n xs, fun w w' h hr => hr.keep fun g o e _ => h g (by rw [e]; simp)⟩
/-- What a map tells of numbers: those that it doesn't have have 0. -/
def Mc (M : Value → Option Value) (C : Int → Int) : Prop := ∀ x, (Lit.int .i64 x).wf = true → (M (.int .i64 x)).getD (.int .i64 0) = .int .i64 (C x)
abbrev mapI (b n : Nat) (M : Value → Option Value) : Res := Res.map Try.prog 3 (plainElem Try.prog 3) b n M
theorem map_get {w0 w : World} {F : List Nat} {L : List Res} {b n : Nat} {M : Value → Option Value} (k : Nat) (hS : St w0 F w L) (hk : L[k]? = some (mapI b n M)) : MapV Try.prog 3 (plainElem Try.prog 3) b n M w := by
  have h := hS.get k hk
  unfold mapI Res.map at h
  exact h
theorem plain3_apart : Elem.apart (plainElem (H := Unit) Try.prog 3) := fun u v d p q h1 h2 => by
  obtain ⟨a, rfl, e1, _⟩ := plainElem_int_inv Try.underlying3 h1
  obtain ⟨b, rfl, e2, _⟩ := plainElem_int_inv Try.underlying3 h2
  simp only [Prod.mk.injEq] at e1 e2
  have := e1.1.symm.trans e2.1
  simp only [DataW.lit.injEq, Lit.int.injEq] at this
  rw [this.2]
theorem wf0 : (Lit.int .i64 0).wf = true := by decide
theorem wf_of {x : Int} (h1 : -9223372036854775808 ≤ x) (h2 : x ≤ 9223372036854775807) : (Lit.int .i64 x).wf = true := by
  simp only [Lit.wf, Bool.and_eq_true, decide_eq_true_eq]
  exact ⟨h1, h2⟩
theorem key3 {x : Int} (hx : (Lit.int .i64 x).wf = true) : keyOf Try.prog 3 (.int .i64 x) = some (.int .i64 x) := by
  first | (simp [keyOf, mapKey, Try.underlying3, hx]; done) | (simp [keyOf, mapKey, Try.underlying3] <;> simp_all)
theorem look_run {w : World} {b n : Nat} {M : Value → Option Value} {C : Int → Int} (h : MapV Try.prog 3 (plainElem Try.prog 3) b n M w) (hM : Mc M C) {x : Int} (hx : (Lit.int .i64 x).wf = true) :
    (Instr.lookup 129 (.map (some b)) (.int .i64 x) false).run Try.prog w = .ok (.int .i64 (C x)) w := by
  rw [h.lookup plain3_apart (Go.Maps.int_keyed Try.underlying3) Try.underlying129 (z := .int .i64 0) (by simp [go_sem]) (plainElem_int Try.underlying3 wf0) (key3 hx), hM x hx]
theorem upd_at {K : Value → World → Prop} {w0 w : World} {F : List Nat} {L : List Res} {b n : Nat} {M : Value → Option Value} {C : Int → Int} (j : Nat) (hS : St w0 F w L) (hj : L[j]? = some (mapI b n M)) (hM : Mc M C) (hn : n < maxLen) {x y : Int} (hx : (Lit.int .i64 x).wf = true) (hy : (Lit.int .i64 y).wf = true)
    (h : ∀ M' w', Mc M' (fun z => if z = x then y else C z) → St w0 F w' (L.set j (mapI b (n + 1) M')) → K undef w') : unitP Try.prog (Instr.mapUpdate 129 (.map (some b)) (.int .i64 x) (.int .i64 y)) w K := by
  refine mapUpdate_at j hS hj (Go.Maps.int_keyed Try.underlying3) Try.underlying129 hn (key3 hx) (plainElem_int Try.underlying3 hy) fun w' hS' => h _ _ (fun z hz => ?_) hS'
  by_cases e : z = x
  · subst e
    rw [updV_same]
    show _ = Value.int .i64 (if z = z then y else C z)
    rw [if_pos rfl]
    rfl
  · rw [updV_other (fun h => e (by injection h))]
    show _ = Value.int .i64 (if z = x then y else C z)
    rw [if_neg e]
    exact hM z hz
theorem ints_at {w : World} {A : Option Addr} {zs : List Int} (h : Rd w 1 A zs.length (ints zs)) : IntsAt w.heap.size w A zs := fun hz => by
  obtain ⟨g, o, hA, hc⟩ := h.2 (by simpa using hz)
  have h0 := hc 0 _ (ints_get hz)
  refine ⟨_, hA, ?_, fun j hj => ?_⟩
  · exact cell_lt h0
  · rw [add_none, hc j _ (ints_get hj)]
    simp [hj]
theorem rd_of_row {B : Nat} {w : World} {A : Option Addr} {M : List Int} {c : Nat} (h : RowAt B w A M c) : Rd w 1 A M.length (ints M) ∧ ∀ g o, A = some ⟨g, o, none⟩ → B ≤ g ∧ g < w.heap.size := by
  rcases h with ⟨rfl, rfl⟩ | ⟨g, rfl, h1, h2, h3, h4⟩
  · exact ⟨Rd.nil_ _ _ _, fun g o e => by cases e⟩
  · refine ⟨⟨by simp, fun _ => ⟨g, 0, rfl, fun j u hj => ?_⟩⟩, fun g' o e => by cases e; exact ⟨h1, h2⟩⟩
    simp only [ints, List.getElem?_map] at hj
    cases e : M[j]? with
    | none => rw [e] at hj; cases hj
    | some x =>
      rw [e] at hj
      obtain ⟨hj', e'⟩ := List.getElem?_eq_some_iff.1 e
      have := (h3 j (by simpa using hj')).1
      rw [this]
      simp at hj
      rw [← hj, ← e']
      simp [hj']
theorem values_ret (a : Option Addr) (n c : Nat) (w : World) : Ret Try.prog 59 #[.slice a n c] w fun v w' => v = .func (.func 87) #[] #[.pointer (some ⟨w.heap.size, 0, none⟩)] ∧ w' = w.alloc (.cells #[.slice a n c] 28) :=
  Calls.mono (values_calls a n c w) fun e w' ⟨he, hw⟩ => ⟨_, he, rfl, hw⟩
theorem sorted_ret (b : Nat) (A : Option Addr) (c : Nat) (zs : List Int) (w : World) (hz : zs.length ≤ 1000000) (hb : b < w.heap.size) (hc : w.cell? ⟨b, 0, none⟩ = some (.slice A zs.length c)) (hI : IntsAt w.heap.size w A zs) :
    Ret Try.prog 58 #[.func (.func 87) #[] #[.pointer (some ⟨b, 0, none⟩)]] w fun v w' => w'.ownsRow w.heap.size 3 1 v zs.length (List.map (Value.int .i64) (zs.mergeSort fun x y => decide (x ≤ y))) ∧ Below w.heap.size w w' :=
  Calls.mono (sorted_calls b A c zs (by unfold maxLen; omega) (by omega) w hb hc hI) fun e w' ⟨v, he, hr, hb⟩ => ⟨v, he, hr, hb⟩
theorem delete_ret (B : Nat) (A : Option Addr) (c : Nat) (M : List Int) (w : World) (h : RowAt B w A M c) (hl : M.length ≤ 1000000) (hc : A = none → c = 0) :
    Ret Try.prog 65 #[.slice A M.length c, fnV 117] w fun v w' => v = .slice A (aboveL M).length c ∧ RowAt B w' A (aboveL M) c ∧ Below B w w' :=
  Calls.mono (delete_calls B A c M w h (by unfold maxLen; omega) hc) fun e w' ⟨he, hr, hb⟩ => ⟨_, he, rfl, hr, hb⟩
theorem compact_ret (B : Nat) (A : Option Addr) (c : Nat) (M : List Int) (w : World) (h : RowAt B w A M c) (hl : M.length ≤ 1000000) :
    Ret Try.prog 118 #[.slice A M.length c] w fun v w' => v = .slice A (Lib.compact M).length c ∧ RowAt B w' A (Lib.compact M) c ∧ Below B w w' :=
  Calls.mono (compact_calls B A c M w h (by unfold maxLen; omega)) fun e w' ⟨he, hr, hb⟩ => ⟨_, he, rfl, hr, hb⟩
def badParts (parts : Int) : Prop := parts < 1 ∨ 64 < parts
instance (parts : Int) : Decidable (badParts parts) := inferInstanceAs (Decidable (_ ∨ _))
def baseI (parts : Int) (M : List Int) : Int := if M.length = 0 then 0 else parts / M.length
def bigI (parts : Int) (M : List Int) : Int := if M.length = 0 then 0 else parts % M.length
/-- The shares: members, counts, how many each has, how many have one more. -/
abbrev shc (b : Nat) (s : Value) (mb : Nat) (base big : Int) : Res := Res.cells b 131 [s, .map (some mb), .int .i64 base, .int .i64 big]
theorem share_ret {w0 w : World} {F : List Nat} {L : List Res} {A : Option Addr} {c : Nat} {zs : List Int} {parts : Int} (hp : -9223372036854775808 ≤ parts) (hp' : parts ≤ 9223372036854775807) (hS : St w0 F w L) (hI : Bes w0 F L 1 A zs.length (ints zs)) (hz : zs.length ≤ 1000000) :
    Ret Try.prog 99 #[.int .i64 parts, .slice A zs.length c] w fun v w' => if badParts parts then v = .tuple #[.pointer none, .bool false] ∧ St w0 F w' L
      else ∃ b mb A' c' Mv, v = .tuple #[.pointer (some ⟨b, 0, none⟩), .bool true] ∧ Mc Mv (fun _ => 0) ∧
        St w0 F w' (shc b (.slice A' (membersL zs).length c') mb (baseI parts (membersL zs)) (bigI parts (membersL zs)) :: mapI mb 0 Mv :: Res.rd 1 A' (membersL zs).length (ints (membersL zs)) :: L) := by
  have hmax : (1000000 : Nat) ≤ maxLen := by unfold maxLen; omega
  refine s99 _ _ ?_
  unfold m99 m99_0
  unfold m99_1
  refine callR (by kernel_rfl) (values_ret A zs.length c w) ?_
  rintro v w1 ⟨rfl, hw1⟩
  have hS1 : St w0 F w1 (Res.cells w.heap.size 28 [.slice A zs.length c] :: L) := by rw [hw1]; exact hS.alloc 28 [.slice A zs.length c]
  have hIA := ints_at (hI.rd1 hS1)
  have hlt : w.heap.size < w1.heap.size := by rw [hw1]; simp
  refine callR (by kernel_rfl) (sorted_ret w.heap.size A c zs w1 hz hlt (hS1.cell 0 rfl rfl) hIA) ?_
  rintro v w2 ⟨hrow, hb2⟩
  have hl1 : (zs.mergeSort fun x y => decide (x ≤ y)).length = zs.length := List.length_mergeSort _
  rw [← hl1] at hrow
  obtain ⟨A1, c1, rfl, hR, hc0⟩ := RowAt.of_owns hrow
  refine callR (by kernel_rfl) (delete_ret _ A1 c1 _ w2 hR (by omega) hc0) ?_
  rintro v w3 ⟨rfl, hR, hb3⟩
  unfold m99_2
  have hl2 : (aboveL (zs.mergeSort fun x y => decide (x ≤ y))).length ≤ zs.length := by
    have := List.length_filter_le (fun x => !decide (x ≤ 0)) (zs.mergeSort fun x y => decide (x ≤ y))
    unfold aboveL
    omega
  refine callR (by kernel_rfl) (compact_ret _ A1 c1 _ w3 hR (by omega)) ?_
  rintro v w4 ⟨rfl, hR, hb4⟩
  have hML : Lib.compact (aboveL (zs.mergeSort fun x y => decide (x ≤ y))) = membersL zs := rfl
  rw [hML] at hR ⊢
  have hb := (hb2.trans hb3).trans hb4
  have hS4 : St w0 F w4 L := (hS1.quiet (Chg.of_below hb [])).tail
  obtain ⟨hRd, hA1⟩ := rd_of_row hR
  have hmem : (membersL zs).length ≤ 1000000 := by have := membersL_len zs; omega
  have hS5 : St w0 F w4 (Res.rd 1 A1 (membersL zs).length (ints (membersL zs)) :: L) := by
    have h0 := hS1.tail.add (r := Res.rd 1 A1 (membersL zs).length (ints (membersL zs))) (Chg.of_below hb []) hRd
    refine h0 (fun g hg => ?_) (fun g hg => ?_)
    all_goals
      cases A1 with
      | none => simp [Res.rd] at hg
      | some a =>
        obtain rfl : g = a.block := by simpa [Res.rd] using hg
        have hsp : a = ⟨a.block, a.off, none⟩ := by
          rcases hR with ⟨h, _⟩ | ⟨g, h, _⟩
          · cases h
          · cases h; rfl
        have := hA1 a.block a.off (by rw [← hsp])
        omega
  clear hRd hA1 hR hb hb2 hb3 hb4 hS4 hS1 hIA hrow
  generalize membersL zs = M at *
  unfold m99_3
  refine valP_ok (lss_ok _ _ _ _ _ _ _) ?_
  have hbad : ∀ w, St w0 F w L → badParts parts → ∀ R, (R (.tuple #[.pointer none, .bool false]) w) → m99_10 R (.int .i64 parts) (.slice A1 M.length c1) (.bool true) w := fun w hS hb R hR => by
    unfold m99_10
    refine cond_t rfl ?_
    unfold m99_11
    exact hR
  by_cases h1 : parts < 1
  · refine cond_dt h1 ?_
    first | refine pick_dt (by first | assumption | omega) ?_ | refine pick_df (by first | assumption | omega) ?_ | refine pick_t (by first | rfl | assumption) ?_ | refine pick_f (by first | rfl | assumption) ?_ | refine pick_dt rfl ?_ | refine pick_df (not_not_intro rfl) ?_
    refine hbad _ hS5.tail (.inl h1) _ ?_
    show ite _ _ _
    rw [if_pos (.inl h1)]
    exact ⟨rfl, hS5.tail⟩
  refine cond_df h1 ?_
  refine valP_ok (gtr_ok _ _ _ _ _ _ _) ?_
  first | refine pick_dt (by first | assumption | omega) ?_ | refine pick_df (by first | assumption | omega) ?_ | refine pick_t (by first | rfl | assumption) ?_ | refine pick_f (by first | rfl | assumption) ?_ | refine pick_dt rfl ?_ | refine pick_df (not_not_intro rfl) ?_
  by_cases h2 : 64 < parts
  · rw [decide_eq_true h2]
    refine hbad _ hS5.tail (.inr h2) _ ?_
    show ite _ _ _
    rw [if_pos (.inr h2)]
    exact ⟨rfl, hS5.tail⟩
  have hnb : ¬ badParts parts := by unfold badParts; omega
  unfold m99_10
  refine cond_df h2 ?_
  unfold m99_4
  refine makeMap_ok 3 (plainElem Try.prog 3) hS5 ?_
  intro mb w5 hS
  refine valP_ok (bd131_0_1 rfl rfl _) ?_
  refine new_ok (bx131 _ _ _ _ _) hS ?_
  intro b24 w hS
  unfold m99_5
  refine builtin_ok (len28 _) ?_
  unfold m99_8
  refine valP_ok (gtr_ok _ _ _ _ _ _ _) ?_
  unfold m99_9
  by_cases hn : 0 < (M.length : Int)
  · have e1 : baseI parts M = parts / M.length := by unfold baseI; rw [if_neg (by omega)]
    have e2 : bigI parts M = parts % M.length := by unfold bigI; rw [if_neg (by omega)]
    refine cond_dt hn ?_
    refine drawn_ok hS ?_
    intro w hS
    refine pureP_ok (quo_ok _ _ _ (by omega) (by omega) (by omega)) ?_
    refine pureP_ok (rem_ok _ _ _ (by omega) (by omega) (by omega)) ?_
    refine nil_ok ?_
    first | refine pureP_ok (fa131_2 _) ?_ | refine pureP_ok (fao131_2 _ _) ?_
    first | refine store_at 0 st3 hS rfl (by simp) rfl ?_ | refine store_at 1 st3 hS rfl (by simp) rfl ?_ | refine store_at 2 st3 hS rfl (by simp) rfl ?_ | refine store_at 3 st3 hS rfl (by simp) rfl ?_ | refine store_at 4 st3 hS rfl (by simp) rfl ?_
    intro w hS
    simp only [List.set_cons_zero, List.set_cons_succ] at hS
    refine nil_ok ?_
    first | refine pureP_ok (fa131_3 _) ?_ | refine pureP_ok (fao131_3 _ _) ?_
    first | refine store_at 0 st3 hS rfl (by simp) rfl ?_ | refine store_at 1 st3 hS rfl (by simp) rfl ?_ | refine store_at 2 st3 hS rfl (by simp) rfl ?_ | refine store_at 3 st3 hS rfl (by simp) rfl ?_ | refine store_at 4 st3 hS rfl (by simp) rfl ?_
    intro w hS
    simp only [List.set_cons_zero, List.set_cons_succ] at hS
    unfold m99_6 m99_7
    show ite _ _ _
    rw [if_neg hnb, e1, e2]
    exact ⟨_, mb, A1, c1, _, rfl, fun _ _ => rfl, hS⟩
  · have e1 : baseI parts M = 0 := by unfold baseI; rw [if_pos (by omega)]
    have e2 : bigI parts M = 0 := by unfold bigI; rw [if_pos (by omega)]
    refine cond_df hn ?_
    unfold m99_6 m99_7
    show ite _ _ _
    rw [if_neg hnb, e1, e2]
    exact ⟨_, mb, A1, c1, _, rfl, fun _ _ => rfl, hS⟩
/-- What is true of shares. -/
structure ShOk (M : List Int) (base big : Int) (C : Int → Int) : Prop where
  rise : M.Pairwise (· < ·)
  len : M.length ≤ 1000000
  each : ∀ x ∈ M, -9223372036854775808 ≤ x ∧ x ≤ 9223372036854775807
  cnt : ∀ x, 0 ≤ C x ∧ C x ≤ 1000
  base0 : 0 ≤ base ∧ base ≤ 1000
  big0 : 0 ≤ big ∧ big ≤ 1000
abbrev mayI (M : List Int) (base big : Int) (C : Int → Int) (m : Int) : Prop := m ∈ M ∧ (C m < base ∨ C m = base ∧ big ≠ 0)
abbrev upC (C : Int → Int) (m : Int) : Int → Int := fun z => if z = m then C m + 1 else C z
theorem search_ret {w0 w : World} {F : List Nat} {L : List Res} {A : Option Addr} {c : Nat} {M : List Int} (m : Int) (hr : M.Pairwise (· < ·)) (hl : M.length ≤ 1000000) (hR : Rd w 1 A M.length (ints M)) (hS : St w0 F w L) :
    Ret Try.prog 119 #[.slice A M.length c, .int .i64 m] w fun v w' => ∃ i, v = .tuple #[.int .i64 i, .bool (decide (m ∈ M))] ∧ St w0 F w' L := by
  rcases Nat.eq_zero_or_pos M.length with h0 | h0
  · have : M = [] := List.eq_nil_of_length_eq_zero h0
    subst this
    refine Calls.mono (Try.slices_BinarySearch_int_empty A c m w) fun e w' ⟨he, hw⟩ => ⟨_, he, 0, by simp, by rw [hw]; exact hS⟩
  · obtain ⟨g, o, rfl⟩ := hR.some_ h0 (by omega)
    refine Calls.mono (Try.slices_BinarySearch_int g o M.length c M m w (Nat.le_refl _) (by omega) (fun j hj => ?_) ?_) fun e w' h => ?_
    · rw [hR.cell_ (ints_get hj)]
      simp [hj]
    · rw [List.take_length]
      exact hr.imp fun h => Int.le_of_lt h
    · obtain ⟨he, q, hw⟩ := h
      refine ⟨_, he, ((List.countP (fun x => decide (x < m)) (List.take M.length M) : Nat) : Int), ?_, by rw [hw]; exact hS.drewN q⟩
      have : (List.take M.length M).contains m = decide (m ∈ M) := by rw [List.take_length]; simp
      rw [this]
theorem keeps_ret {w0 w : World} {F : List Nat} {L : List Res} {b mb k c : Nat} {A : Option Addr} {M : List Int} {base big : Int} {C : Int → Int} {Mv : Value → Option Value} {m : Int} (hok : ShOk M base big C) (hC : Mc Mv C) (hm : (Lit.int .i64 m).wf = true) (hk : k < maxLen) (hCm : C m < 1000)
    (hS : St w0 F w (shc b (.slice A M.length c) mb base big :: mapI mb k Mv :: Res.rd 1 A M.length (ints M) :: L)) :
    Ret Try.prog 100 #[.pointer (some ⟨b, 0, none⟩), .int .i64 m] w fun v w' => v = .bool (decide (mayI M base big C m)) ∧
      (if mayI M base big C m then ∃ Mv', Mc Mv' (upC C m) ∧ St w0 F w' (shc b (.slice A M.length c) mb base (if C m = base then big - 1 else big) :: mapI mb (k + 1) Mv' :: Res.rd 1 A M.length (ints M) :: L)
      else St w0 F w' (shc b (.slice A M.length c) mb base big :: mapI mb k Mv :: Res.rd 1 A M.length (ints M) :: L)) := by
  obtain ⟨h1, h2, h3, h4, h5, h6⟩ := hok
  have hcm := h4 m
  have hno : ∀ w', ¬ mayI M base big C m → St w0 F w' (shc b (.slice A M.length c) mb base big :: mapI mb k Mv :: Res.rd 1 A M.length (ints M) :: L) → (.bool false = Value.bool (decide (mayI M base big C m)) ∧
      (if mayI M base big C m then ∃ Mv', Mc Mv' (upC C m) ∧ St w0 F w' (shc b (.slice A M.length c) mb base (if C m = base then big - 1 else big) :: mapI mb (k + 1) Mv' :: Res.rd 1 A M.length (ints M) :: L)
      else St w0 F w' (shc b (.slice A M.length c) mb base big :: mapI mb k Mv :: Res.rd 1 A M.length (ints M) :: L))) := fun w' hn hS => by
    rw [if_neg hn, decide_eq_false hn]
    exact ⟨rfl, hS⟩
  refine s100 _ _ ?_
  unfold m100
  unfold m100_0
  unfold m100_1
  refine nil_ok ?_
  first | refine valP_ok (fa131_0 _ _) ?_ | refine valP_ok (fao131_0 _ _ _) ?_
  first | refine valP_ok (ld28 (hS.cell 0 rfl rfl)) ?_ | refine valP_ok (ld28 (hS.cell 1 rfl rfl)) ?_ | refine valP_ok (ld28 (hS.cell 2 rfl rfl)) ?_ | refine valP_ok (ld28 (hS.cell 3 rfl rfl)) ?_ | refine valP_ok (ld28 (hS.cell 4 rfl rfl)) ?_ | refine valP_ok (ld28 (by assumption)) ?_
  refine callR (by kernel_rfl) (search_ret m h1 h2 (hS.get 2 rfl) hS) ?_
  rintro v w ⟨i, rfl, hS⟩
  refine valP_ok (extract_ok _ 0 rfl _) ?_
  refine valP_ok (extract_ok _ 1 rfl _) ?_
  unfold m100_11
  first | refine valP_ok (not_ok _ _) ?_ | refine valP_ok (notb_ok _ _) ?_
  unfold m100_12
  by_cases hmem : m ∈ M
  rotate_left
  · refine cond_dt hmem ?_
    unfold m100_13
    exact hno _ (fun h => hmem h.1) hS
  refine cond_df (fun h => h hmem) ?_
  unfold m100_2
  refine nil_ok ?_
  first | refine valP_ok (fa131_1 _ _) ?_ | refine valP_ok (fao131_1 _ _ _) ?_
  first | refine valP_ok (ld129 (hS.cell 0 rfl rfl)) ?_ | refine valP_ok (ld129 (hS.cell 1 rfl rfl)) ?_ | refine valP_ok (ld129 (hS.cell 2 rfl rfl)) ?_ | refine valP_ok (ld129 (hS.cell 3 rfl rfl)) ?_ | refine valP_ok (ld129 (hS.cell 4 rfl rfl)) ?_ | refine valP_ok (ld129 (by assumption)) ?_
  refine valP_ok (look_run (map_get 1 hS rfl) hC hm) ?_
  unfold m100_3
  refine nil_ok ?_
  first | refine valP_ok (fa131_2 _ _) ?_ | refine valP_ok (fao131_2 _ _ _) ?_
  first | refine valP_ok (ld3 (hS.cell 0 rfl rfl)) ?_ | refine valP_ok (ld3 (hS.cell 1 rfl rfl)) ?_ | refine valP_ok (ld3 (hS.cell 2 rfl rfl)) ?_ | refine valP_ok (ld3 (hS.cell 3 rfl rfl)) ?_ | refine valP_ok (ld3 (hS.cell 4 rfl rfl)) ?_ | refine valP_ok (ld3 (by assumption)) ?_
  refine valP_ok (gtr_ok _ _ _ _ _ _ _) ?_
  by_cases hgt : base < C m
  · refine cond_dt hgt ?_
    first | refine pick_dt (by first | assumption | omega) ?_ | refine pick_df (by first | assumption | omega) ?_ | refine pick_t (by first | rfl | assumption) ?_ | refine pick_f (by first | rfl | assumption) ?_ | refine pick_dt rfl ?_ | refine pick_df (not_not_intro rfl) ?_
    unfold m100_9
    refine cond_t rfl ?_
    unfold m100_10
    exact hno _ (fun h => by have := h.2; omega) hS
  refine cond_df hgt ?_
  refine nil_ok ?_
  first | refine valP_ok (fa131_2 _ _) ?_ | refine valP_ok (fao131_2 _ _ _) ?_
  first | refine valP_ok (ld3 (hS.cell 0 rfl rfl)) ?_ | refine valP_ok (ld3 (hS.cell 1 rfl rfl)) ?_ | refine valP_ok (ld3 (hS.cell 2 rfl rfl)) ?_ | refine valP_ok (ld3 (hS.cell 3 rfl rfl)) ?_ | refine valP_ok (ld3 (hS.cell 4 rfl rfl)) ?_ | refine valP_ok (ld3 (by assumption)) ?_
  refine valP_ok (eq3 _ _ _ _ _) ?_
  by_cases heq : C m = base
  · refine cond_dt heq ?_
    refine nil_ok ?_
    first | refine valP_ok (fa131_3 _ _) ?_ | refine valP_ok (fao131_3 _ _ _) ?_
    first | refine valP_ok (ld3 (hS.cell 0 rfl rfl)) ?_ | refine valP_ok (ld3 (hS.cell 1 rfl rfl)) ?_ | refine valP_ok (ld3 (hS.cell 2 rfl rfl)) ?_ | refine valP_ok (ld3 (hS.cell 3 rfl rfl)) ?_ | refine valP_ok (ld3 (hS.cell 4 rfl rfl)) ?_ | refine valP_ok (ld3 (by assumption)) ?_
    refine valP_ok (eq3 _ _ _ _ _) ?_
    first | refine pick_dt (by first | assumption | omega) ?_ | refine pick_df (by first | assumption | omega) ?_ | refine pick_t (by first | rfl | assumption) ?_ | refine pick_f (by first | rfl | assumption) ?_ | refine pick_dt rfl ?_ | refine pick_df (not_not_intro rfl) ?_
    first | refine pick_dt (by first | assumption | omega) ?_ | refine pick_df (by first | assumption | omega) ?_ | refine pick_t (by first | rfl | assumption) ?_ | refine pick_f (by first | rfl | assumption) ?_ | refine pick_dt rfl ?_ | refine pick_df (not_not_intro rfl) ?_
    unfold m100_9
    by_cases hb0 : big = 0
    · refine cond_dt hb0 ?_
      unfold m100_10
      exact hno _ (fun h => by have := h.2; omega) hS
    · refine cond_df hb0 ?_
      unfold m100_4
      refine nil_ok ?_
      first | refine valP_ok (fa131_2 _ _) ?_ | refine valP_ok (fao131_2 _ _ _) ?_
      first | refine valP_ok (ld3 (hS.cell 0 rfl rfl)) ?_ | refine valP_ok (ld3 (hS.cell 1 rfl rfl)) ?_ | refine valP_ok (ld3 (hS.cell 2 rfl rfl)) ?_ | refine valP_ok (ld3 (hS.cell 3 rfl rfl)) ?_ | refine valP_ok (ld3 (hS.cell 4 rfl rfl)) ?_ | refine valP_ok (ld3 (by assumption)) ?_
      refine valP_ok (eq3 _ _ _ _ _) ?_
      unfold m100_8
      refine cond_dt heq ?_
      refine nil_ok ?_
      first | refine valP_ok (fa131_3 _ _) ?_ | refine valP_ok (fao131_3 _ _ _) ?_
      first | refine valP_ok (ld3 (hS.cell 0 rfl rfl)) ?_ | refine valP_ok (ld3 (hS.cell 1 rfl rfl)) ?_ | refine valP_ok (ld3 (hS.cell 2 rfl rfl)) ?_ | refine valP_ok (ld3 (hS.cell 3 rfl rfl)) ?_ | refine valP_ok (ld3 (hS.cell 4 rfl rfl)) ?_ | refine valP_ok (ld3 (by assumption)) ?_
      refine valP_ok (sub_ok _ _ _ (by omega) (by omega) _) ?_
      refine nil_ok ?_
      first | refine valP_ok (fa131_3 _ _) ?_ | refine valP_ok (fao131_3 _ _ _) ?_
      first | refine store_at 0 st3 hS rfl (by simp) rfl ?_ | refine store_at 1 st3 hS rfl (by simp) rfl ?_ | refine store_at 2 st3 hS rfl (by simp) rfl ?_ | refine store_at 3 st3 hS rfl (by simp) rfl ?_ | refine store_at 4 st3 hS rfl (by simp) rfl ?_
      intro w hS
      simp only [List.set_cons_zero, List.set_cons_succ] at hS
      unfold m100_5
      refine nil_ok ?_
      first | refine valP_ok (fa131_1 _ _) ?_ | refine valP_ok (fao131_1 _ _ _) ?_
      first | refine valP_ok (ld129 (hS.cell 0 rfl rfl)) ?_ | refine valP_ok (ld129 (hS.cell 1 rfl rfl)) ?_ | refine valP_ok (ld129 (hS.cell 2 rfl rfl)) ?_ | refine valP_ok (ld129 (hS.cell 3 rfl rfl)) ?_ | refine valP_ok (ld129 (hS.cell 4 rfl rfl)) ?_ | refine valP_ok (ld129 (by assumption)) ?_
      refine valP_ok (look_run (map_get 1 hS rfl) hC hm) ?_
      refine valP_ok (add_ok _ _ _ (by omega) (by omega) _) ?_
      refine upd_at 1 hS rfl hC hk hm (wf_of (by omega) (by omega)) ?_
      intro M' w hM' hS
      simp only [List.set_cons_zero, List.set_cons_succ] at hS
      unfold m100_6 m100_7
      have hy : mayI M base big C m := ⟨hmem, .inr ⟨heq, hb0⟩⟩
      refine ⟨by rw [decide_eq_true hy], ?_⟩
      rw [if_pos hy, if_pos heq]
      exact ⟨M', hM', hS⟩
  · refine cond_df heq ?_
    first | refine pick_dt (by first | assumption | omega) ?_ | refine pick_df (by first | assumption | omega) ?_ | refine pick_t (by first | rfl | assumption) ?_ | refine pick_f (by first | rfl | assumption) ?_ | refine pick_dt rfl ?_ | refine pick_df (not_not_intro rfl) ?_
    first | refine pick_dt (by first | assumption | omega) ?_ | refine pick_df (by first | assumption | omega) ?_ | refine pick_t (by first | rfl | assumption) ?_ | refine pick_f (by first | rfl | assumption) ?_ | refine pick_dt rfl ?_ | refine pick_df (not_not_intro rfl) ?_
    unfold m100_9
    refine cond_f rfl ?_
    unfold m100_4
    refine nil_ok ?_
    first | refine valP_ok (fa131_2 _ _) ?_ | refine valP_ok (fao131_2 _ _ _) ?_
    first | refine valP_ok (ld3 (hS.cell 0 rfl rfl)) ?_ | refine valP_ok (ld3 (hS.cell 1 rfl rfl)) ?_ | refine valP_ok (ld3 (hS.cell 2 rfl rfl)) ?_ | refine valP_ok (ld3 (hS.cell 3 rfl rfl)) ?_ | refine valP_ok (ld3 (hS.cell 4 rfl rfl)) ?_ | refine valP_ok (ld3 (by assumption)) ?_
    refine valP_ok (eq3 _ _ _ _ _) ?_
    unfold m100_8
    refine cond_df heq ?_
    unfold m100_5
    refine nil_ok ?_
    first | refine valP_ok (fa131_1 _ _) ?_ | refine valP_ok (fao131_1 _ _ _) ?_
    first | refine valP_ok (ld129 (hS.cell 0 rfl rfl)) ?_ | refine valP_ok (ld129 (hS.cell 1 rfl rfl)) ?_ | refine valP_ok (ld129 (hS.cell 2 rfl rfl)) ?_ | refine valP_ok (ld129 (hS.cell 3 rfl rfl)) ?_ | refine valP_ok (ld129 (hS.cell 4 rfl rfl)) ?_ | refine valP_ok (ld129 (by assumption)) ?_
    refine valP_ok (look_run (map_get 1 hS rfl) hC hm) ?_
    refine valP_ok (add_ok _ _ _ (by omega) (by omega) _) ?_
    refine upd_at 1 hS rfl hC hk hm (wf_of (by omega) (by omega)) ?_
    intro M' w hM' hS
    simp only [List.set_cons_zero, List.set_cons_succ] at hS
    unfold m100_6 m100_7
    have hy : mayI M base big C m := ⟨hmem, .inl (by omega)⟩
    refine ⟨by rw [decide_eq_true hy], ?_⟩
    rw [if_pos hy, if_neg heq]
    exact ⟨M', hM', hS⟩
/-- The member that has fewest of the first ones. -/
def fewest (C : Int → Int) : Int → List Int → Int
  | m, [] => m
  | m, x :: l => fewest C (if C x - C m < 0 then x else m) l
theorem less_ret {w0 w : World} {F : List Nat} {L : List Res} {p b mb k : Nat} {s : Value} {base big : Int} {C : Int → Int} {Mv : Value → Option Value} (x y : Int) (hx : (Lit.int .i64 x).wf = true) (hy : (Lit.int .i64 y).wf = true) (hb : ∀ x, 0 ≤ C x ∧ C x ≤ 1000) (hC : Mc Mv C)
    (hS : St w0 F w (Res.cells p 126 [.pointer (some ⟨b, 0, none⟩)] :: shc b s mb base big :: mapI mb k Mv :: L)) :
    Ret Try.prog 121 #[.int .i64 x, .int .i64 y, .pointer (some ⟨p, 0, none⟩)] w fun v w' => v = .int .i64 (C x - C y) ∧ St w0 F w' (Res.cells p 126 [.pointer (some ⟨b, 0, none⟩)] :: shc b s mb base big :: mapI mb k Mv :: L) := by
  have h1 := hb x
  have h2 := hb y
  refine s121 _ _ _ ?_
  unfold m121
  unfold m121_0
  unfold m121_1
  first | refine valQ_load ld126 (hS.cell 0 rfl rfl) ?_ | refine valQ_load ld126 (hS.cell 1 rfl rfl) ?_ | refine valQ_load ld126 (hS.cell 2 rfl rfl) ?_ | refine valQ_load ld126 (hS.cell 3 rfl rfl) ?_ | refine valQ_load ld126 (hS.cell 4 rfl rfl) ?_ | refine valQ_load ld126 (by assumption) ?_
  refine nil_ok ?_
  first | refine valQ_ok (fa131_1 _) ?_ | refine valQ_ok (fao131_1 _ _) ?_
  first | refine valQ_load ld129 (hS.cell 0 rfl rfl) ?_ | refine valQ_load ld129 (hS.cell 1 rfl rfl) ?_ | refine valQ_load ld129 (hS.cell 2 rfl rfl) ?_ | refine valQ_load ld129 (hS.cell 3 rfl rfl) ?_ | refine valQ_load ld129 (hS.cell 4 rfl rfl) ?_ | refine valQ_load ld129 (by assumption) ?_
  refine valQ_at (fun n => look_run (map_get 2 (hS.drewN n) rfl) hC hx) ?_
  first | refine valQ_load ld126 (hS.cell 0 rfl rfl) ?_ | refine valQ_load ld126 (hS.cell 1 rfl rfl) ?_ | refine valQ_load ld126 (hS.cell 2 rfl rfl) ?_ | refine valQ_load ld126 (hS.cell 3 rfl rfl) ?_ | refine valQ_load ld126 (hS.cell 4 rfl rfl) ?_ | refine valQ_load ld126 (by assumption) ?_
  refine nil_ok ?_
  first | refine valQ_ok (fa131_1 _) ?_ | refine valQ_ok (fao131_1 _ _) ?_
  first | refine valQ_load ld129 (hS.cell 0 rfl rfl) ?_ | refine valQ_load ld129 (hS.cell 1 rfl rfl) ?_ | refine valQ_load ld129 (hS.cell 2 rfl rfl) ?_ | refine valQ_load ld129 (hS.cell 3 rfl rfl) ?_ | refine valQ_load ld129 (hS.cell 4 rfl rfl) ?_ | refine valQ_load ld129 (by assumption) ?_
  refine valQ_at (fun n => look_run (map_get 2 (hS.drewN n) rfl) hC hy) ?_
  refine valQ_ok (sub_ok _ _ _ (by omega) (by omega)) ?_
  refine drawn_ok hS ?_
  intro w hS
  unfold m121_2
  exact ⟨rfl, hS⟩
theorem fewest_snoc (C : Int → Int) : ∀ (l : List Int) (m x : Int), fewest C m (l ++ [x]) = if C x - C (fewest C m l) < 0 then x else fewest C m l
  | [], m, x => rfl
  | a :: l, m, x => fewest_snoc C l _ x
theorem fewest_mem (C : Int → Int) : ∀ (l : List Int) (m : Int), fewest C m l = m ∨ fewest C m l ∈ l
  | [], m => .inl rfl
  | a :: l, m => by
    unfold fewest
    rcases fewest_mem C l (if C a - C m < 0 then a else m) with h | h
    · by_cases e : C a - C m < 0
      · rw [if_pos e] at h ⊢; exact .inr (by rw [h]; exact .head _)
      · rw [if_neg e] at h ⊢; exact .inl h
    · exact .inr (.tail _ h)
theorem min_ret {w0 w : World} {F : List Nat} {L : List Res} {p b mb k c : Nat} {A : Option Addr} {M : List Int} {base big : Int} {C : Int → Int} {Mv : Value → Option Value} (hok : ShOk M base big C) (hC : Mc Mv C) (hne : 0 < M.length)
    (hS : St w0 F w (Res.cells p 126 [.pointer (some ⟨b, 0, none⟩)] :: shc b (.slice A M.length c) mb base big :: mapI mb k Mv :: Res.rd 1 A M.length (ints M) :: L)) :
    Ret Try.prog 120 #[.slice A M.length c, .func (.func 121) #[] #[.pointer (some ⟨p, 0, none⟩)]] w fun v w' => v = .int .i64 (fewest C M[0] (M.drop 1)) ∧ St w0 F w' (Res.cells p 126 [.pointer (some ⟨b, 0, none⟩)] :: shc b (.slice A M.length c) mb base big :: mapI mb k Mv :: Res.rd 1 A M.length (ints M) :: L) := by
  obtain ⟨h1, h2, h3, h4, h5, h6⟩ := hok
  refine s120 _ _ ?_
  unfold m120
  unfold m120_0
  unfold m120_1
  refine builtin_ok (len28 _) ?_
  refine valP_ok (lss_ok _ _ _ _ _ _ _) ?_
  unfold m120_12
  refine cond_df (by omega) ?_
  have hR : Rd w 1 A M.length (ints M) := hS.get 3 rfl
  obtain ⟨g, o, rfl⟩ := hR.some_ hne (by omega)
  have hc0 := hR.cell_ (ints_get hne)
  unfold m120_2
  refine valP_ok (ix28 (k := 0) hne _) ?_
  first | refine valP_ok (ld3 (hS.cell 0 rfl rfl)) ?_ | refine valP_ok (ld3 (hS.cell 1 rfl rfl)) ?_ | refine valP_ok (ld3 (hS.cell 2 rfl rfl)) ?_ | refine valP_ok (ld3 (hS.cell 3 rfl rfl)) ?_ | refine valP_ok (ld3 (hS.cell 4 rfl rfl)) ?_ | refine valP_ok (ld3 (by assumption)) ?_
  clear hc0 hR
  unfold m120_3
  unfold m120_6
  refine loop_in (fun s w' => ∃ i : Nat, s = (.int .i64 (fewest C M[0] ((M.take i).drop 1)), .int .i64 i) ∧ 1 ≤ i ∧ i ≤ M.length ∧ St w0 F w' (Res.cells p 126 [.pointer (some ⟨b, 0, none⟩)] :: shc b (.slice (some ⟨g, o, none⟩) M.length c) mb base big :: mapI mb k Mv :: Res.rd 1 (some ⟨g, o, none⟩) M.length (ints M) :: L))
    (fun s _ => M.length - (intOf s.2).toNat) ⟨1, by simp [fewest], by omega, hne, hS⟩ ?_
  clear hS
  rintro s w ⟨i, rfl, hi1, hi, hS⟩
  unfold m120_7
  refine builtin_ok (len28 _) ?_
  refine valP_ok (lss_ok _ _ _ _ _ _ _) ?_
  unfold m120_11
  refine cond_split (fun h => ?_) (fun h => ?_)
  · have hlt : i < M.length := by omega
    have hR : Rd w 1 (some ⟨g, o, none⟩) M.length (ints M) := hS.get 3 rfl
    have hc := hR.cell_ (ints_get hlt)
    have hx := h3 _ (List.getElem_mem hlt)
    have hmin : fewest C M[0] ((M.take i).drop 1) ∈ M := by
      rcases fewest_mem C ((M.take i).drop 1) M[0] with h | h
      · rw [h]; exact List.getElem_mem hne
      · exact List.mem_of_mem_take (List.mem_of_mem_drop h)
    have hy := h3 _ hmin
    have e : (M.take (i + 1)).drop 1 = (M.take i).drop 1 ++ [M[i]] := by
      rw [List.take_succ_eq_append_getElem hlt, List.drop_append_of_le_length (by rw [List.length_take]; omega)]
    have e2 := fewest_snoc C ((M.take i).drop 1) M[0] M[i]
    rw [← e] at e2
    have b1 := h4 M[i]
    have b2 := h4 (fewest C M[0] ((M.take i).drop 1))
    unfold m120_8
    refine valP_ok (ix28 hlt _) ?_
    first | refine valP_ok (ld3 (hS.cell 0 rfl rfl)) ?_ | refine valP_ok (ld3 (hS.cell 1 rfl rfl)) ?_ | refine valP_ok (ld3 (hS.cell 2 rfl rfl)) ?_ | refine valP_ok (ld3 (hS.cell 3 rfl rfl)) ?_ | refine valP_ok (ld3 (hS.cell 4 rfl rfl)) ?_ | refine valP_ok (ld3 (by assumption)) ?_
    refine callvR (by kernel_rfl) rfl (less_ret M[i] (fewest C M[0] ((M.take i).drop 1)) (wf_of hx.1 hx.2) (wf_of hy.1 hy.2) h4 hC hS) ?_
    rintro v w ⟨rfl, hS⟩
    refine valP_ok (lss_ok _ _ _ _ _ _ _) ?_
    unfold m120_10
    refine cond_split (fun hl => ?_) (fun hl => ?_)
    · rw [if_pos hl] at e2
      clear hR hc
      have hR : Rd w 1 (some ⟨g, o, none⟩) M.length (ints M) := hS.get 3 rfl
      have hc := hR.cell_ (ints_get hlt)
      refine valP_ok (ix28 hlt _) ?_
      first | refine valP_ok (ld3 (hS.cell 0 rfl rfl)) ?_ | refine valP_ok (ld3 (hS.cell 1 rfl rfl)) ?_ | refine valP_ok (ld3 (hS.cell 2 rfl rfl)) ?_ | refine valP_ok (ld3 (hS.cell 3 rfl rfl)) ?_ | refine valP_ok (ld3 (hS.cell 4 rfl rfl)) ?_ | refine valP_ok (ld3 (by assumption)) ?_
      unfold m120_9
      refine valP_ok (add_ok _ _ _ (by omega) (by omega) _) ?_
      exact ⟨⟨i + 1, by rw [e2]; rfl, by omega, by omega, hS⟩, by simp [intOf]; omega⟩
    · rw [if_neg hl] at e2
      unfold m120_9
      refine valP_ok (add_ok _ _ _ (by omega) (by omega) _) ?_
      exact ⟨⟨i + 1, by rw [e2]; rfl, by omega, by omega, hS⟩, by simp [intOf]; omega⟩
  · unfold m120_4 m120_5
    have : i = M.length := by omega
    subst this
    rw [List.take_length]
    exact ⟨rfl, hS⟩
theorem least_ret {w0 w : World} {F : List Nat} {L : List Res} {b mb k c : Nat} {A : Option Addr} {M : List Int} {base big : Int} {C : Int → Int} {Mv : Value → Option Value} (hok : ShOk M base big C) (hC : Mc Mv C) (hne : 0 < M.length)
    (hS : St w0 F w (shc b (.slice A M.length c) mb base big :: mapI mb k Mv :: Res.rd 1 A M.length (ints M) :: L)) :
    Ret Try.prog 101 #[.pointer (some ⟨b, 0, none⟩)] w fun v w' => v = .int .i64 (fewest C M[0] (M.drop 1)) ∧ St w0 F w' (shc b (.slice A M.length c) mb base big :: mapI mb k Mv :: Res.rd 1 A M.length (ints M) :: L) := by
  refine s101 _ ?_
  unfold m101
  unfold m101_0
  refine new_ok (bx126 rfl _) hS ?_
  intro b1 w hS
  unfold m101_1
  first | refine valP_ok (ld126 (hS.cell 0 rfl rfl)) ?_ | refine valP_ok (ld126 (hS.cell 1 rfl rfl)) ?_ | refine valP_ok (ld126 (hS.cell 2 rfl rfl)) ?_ | refine valP_ok (ld126 (hS.cell 3 rfl rfl)) ?_ | refine valP_ok (ld126 (hS.cell 4 rfl rfl)) ?_ | refine valP_ok (ld126 (by assumption)) ?_
  refine nil_ok ?_
  first | refine valP_ok (fa131_0 _ _) ?_ | refine valP_ok (fao131_0 _ _ _) ?_
  first | refine valP_ok (ld28 (hS.cell 0 rfl rfl)) ?_ | refine valP_ok (ld28 (hS.cell 1 rfl rfl)) ?_ | refine valP_ok (ld28 (hS.cell 2 rfl rfl)) ?_ | refine valP_ok (ld28 (hS.cell 3 rfl rfl)) ?_ | refine valP_ok (ld28 (hS.cell 4 rfl rfl)) ?_ | refine valP_ok (ld28 (by assumption)) ?_
  refine valP_ok (mf121 _ _) ?_
  refine callR (by kernel_rfl) (min_ret hok hC hne hS) ?_
  rintro v w ⟨rfl, hS⟩
  unfold m101_2
  exact ⟨rfl, hS.tail⟩
theorem St_sub {w0 w : World} {F : List Nat} {L L' : List Res} (h : St w0 F w L) (hs : L'.Sublist L) : St w0 F w L' :=
  ⟨h.chg, fun r hr => h.H r (hs.subset hr), fun r hr => h.lt r (hs.subset hr), fun r hr => h.own r (hs.subset hr), h.apart.sublist hs⟩
abbrev irow (v : Value) (l : List Int) : Res := Res.row 3 1 v l.length (ints l)
theorem share_nums {parts : Int} {M : List Int} (h : ¬ badParts parts) : 0 ≤ baseI parts M ∧ baseI parts M ≤ 64 ∧ 0 ≤ bigI parts M ∧ bigI parts M ≤ 64 := by
  unfold badParts at h
  unfold baseI bigI
  by_cases h0 : M.length = 0
  · rw [if_pos h0, if_pos h0]; omega
  · rw [if_neg h0, if_neg h0]
    have h1 : (0 : Int) < M.length := by omega
    have := Int.ediv_nonneg (show 0 ≤ parts by omega) (show (0 : Int) ≤ M.length by omega)
    have := Int.ediv_le_self (M.length : Int) (show 0 ≤ parts by omega)
    have := Int.emod_nonneg parts (show (M.length : Int) ≠ 0 by omega)
    have := Int.mul_ediv_add_emod parts (M.length : Int)
    have := Int.mul_nonneg (show (0 : Int) ≤ M.length by omega) (Int.ediv_nonneg (show 0 ≤ parts by omega) (show (0 : Int) ≤ M.length by omega))
    omega
theorem append_one {K : Value → World → Prop} {w0 w : World} {F : List Nat} {L : List Res} {cs : Array Bool} {b c : Nat} {A : Option Addr} {l : List Int} {x : Int} (k : Nat) (hl : l.length ≤ 1000000) (hS : St w0 F w (Res.cells b 3 [.int .i64 x] :: L)) (hk : L[k]? = some (irow (.slice A l.length c) l))
    (h : ∀ A' c' w', St w0 F w' (L.set k (irow (.slice A' (l ++ [x]).length c') (l ++ [x]))) → K (.slice A' (l ++ [x]).length c') w') :
    builtinP Try.prog .append #[28, 28] 28 cs #[.slice A l.length c, .slice (some ⟨b, 0, none⟩) 1 1] w K := by
  refine append_ok (k + 1) sl28 hS (by simpa using hk) (m := 1) (news := [.int .i64 x]) rfl (fun j u hj => ?_) (by simp [Value.oneCell']) (by unfold maxLen; omega) (by omega) ?_
  · rw [add_none, Nat.zero_add]
    exact hS.cell 0 rfl hj
  intro A' c' w' hS
  simp only [List.set_cons_succ] at hS
  have e1 : l.length + 1 = (l ++ [x]).length := by simp
  have e2 : ints l ++ [.int .i64 x] = ints (l ++ [x]) := by simp [ints]
  have hS := hS.tail
  rw [e1, e2] at hS
  rw [e1]
  exact h _ _ _ hS
/-- Who keeps what: how many may have one more, the counts, the list. -/
structure Sk where
  big : Int
  C : Int → Int
  l : List Int
def keepsL (parts : Int) (M old : List Int) : Nat → Sk
  | 0 => ⟨bigI parts M, fun _ => 0, List.replicate parts.toNat 0⟩
  | p + 1 => let s := keepsL parts M old p
    if mayI M (baseI parts M) s.big s.C old[p]! then ⟨if s.C old[p]! = baseI parts M then s.big - 1 else s.big, upC s.C old[p]!, s.l.set p old[p]!⟩ else s
def fillsL (M : List Int) (s0 : Sk) : Nat → Sk
  | 0 => s0
  | p + 1 => let s := fillsL M s0 p
    if s.l[p]! = 0 then ⟨s.big, upC s.C (fewest s.C M[0]! (M.drop 1)), s.l.set p (fewest s.C M[0]! (M.drop 1))⟩ else s
def stickyL (parts : Int) (M old : List Int) : List Int :=
  if M.length = 0 then List.replicate parts.toNat 0 else (fillsL M (keepsL parts M old (min parts.toNat old.length)) parts.toNat).l
theorem keepsL_ok {parts : Int} {M old : List Int} (hp : ¬ badParts parts) (hr : M.Pairwise (· < ·)) (hl : M.length ≤ 1000) (hM : ∀ x ∈ M, -9223372036854775808 ≤ x ∧ x ≤ 9223372036854775807) : ∀ p, p ≤ 64 →
    ShOk M (baseI parts M) (keepsL parts M old p).big (keepsL parts M old p).C ∧ (∀ x, (keepsL parts M old p).C x ≤ p) ∧ (keepsL parts M old p).l.length = parts.toNat ∧ (∀ x ∈ (keepsL parts M old p).l, x = 0 ∨ x ∈ M)
  | 0, _ => by
    have := share_nums (M := M) hp
    refine ⟨⟨hr, by omega, hM, fun x => ?_, by omega, ?_⟩, fun x => ?_, ?_, fun x hx => ?_⟩
    · show (0 : Int) ≤ 0 ∧ (0 : Int) ≤ 1000; omega
    · show 0 ≤ bigI parts M ∧ bigI parts M ≤ 1000; omega
    · show (0 : Int) ≤ _; omega
    · show (List.replicate parts.toNat 0).length = _; simp
    · exact .inl (List.eq_of_mem_replicate hx)
  | p + 1, h => by
    obtain ⟨h1, h2, h3, h4⟩ := keepsL_ok (parts := parts) (M := M) (old := old) hp hr hl hM p (by omega)
    unfold keepsL
    simp only
    generalize keepsL parts M old p = s at *
    split
    · rename_i hy
      have hc := h1.cnt old[p]!
      have hc2 := h2 old[p]!
      have hb := h1.big0
      refine ⟨⟨hr, by omega, hM, fun x => ?_, h1.base0, ?_⟩, fun x => ?_, by rw [List.length_set]; exact h3, fun x hx => ?_⟩
      · simp only [upC]
        have := h1.cnt x
        split <;> omega
      · simp only
        split
        · have := hy.2; omega
        · exact hb
      · simp only [upC]
        have := h2 x
        split <;> omega
      · rcases List.mem_or_eq_of_mem_set hx with hx | rfl
        · exact h4 x hx
        · exact .inr hy.1
    · exact ⟨h1, fun x => by have := h2 x; omega, h3, h4⟩
theorem fewest_in {C : Int → Int} {M : List Int} (h : 0 < M.length) : fewest C M[0]! (M.drop 1) ∈ M := by
  rcases fewest_mem C (M.drop 1) M[0]! with h' | h'
  · rw [h', getElem!_pos M 0 h]; exact List.getElem_mem h
  · exact List.mem_of_mem_drop h'
theorem fillsL_ok {M : List Int} {s0 : Sk} {base : Int} {n q : Nat} (hM0 : 0 < M.length) (hq : q ≤ 64) (h0 : ShOk M base s0.big s0.C ∧ (∀ x, s0.C x ≤ q) ∧ s0.l.length = n ∧ (∀ x ∈ s0.l, x = 0 ∨ x ∈ M)) : ∀ p, p ≤ 64 →
    ShOk M base (fillsL M s0 p).big (fillsL M s0 p).C ∧ (∀ x, (fillsL M s0 p).C x ≤ q + p) ∧ (fillsL M s0 p).l.length = n ∧ (∀ x ∈ (fillsL M s0 p).l, x = 0 ∨ x ∈ M)
  | 0, _ => ⟨h0.1, fun x => by have := h0.2.1 x; show s0.C x ≤ _; omega, h0.2.2⟩
  | p + 1, h => by
    obtain ⟨h1, h2, h3, h4⟩ := fillsL_ok (n := n) hM0 hq h0 p (by omega)
    unfold fillsL
    simp only
    generalize fillsL M s0 p = s at *
    split
    · have hf := fewest_in (C := s.C) hM0
      have hc := h1.cnt (fewest s.C M[0]! (M.drop 1))
      have hc2 := h2 (fewest s.C M[0]! (M.drop 1))
      refine ⟨⟨h1.rise, h1.len, h1.each, fun x => ?_, h1.base0, h1.big0⟩, fun x => ?_, by rw [List.length_set]; exact h3, fun x hx => ?_⟩
      · simp only [upC]
        have := h1.cnt x
        split <;> omega
      · simp only [upC]
        have := h2 x
        split <;> omega
      · rcases List.mem_or_eq_of_mem_set hx with hx | rfl
        · exact h4 x hx
        · exact .inr hf
    · exact ⟨h1, fun x => by have := h2 x; omega, h3, h4⟩
theorem zero_cells (n : Nat) : (madeCells (Value.int .i64 0).cells (n * 1)).toList = ints (List.replicate n 0) := by
  apply List.ext_getElem
  · simp [madeCells]
  · intro i h1 h2
    simp [madeCells, Value.cells, Nat.mod_one]
theorem set_irow {K : Value → World → Prop} {w0 w : World} {F : List Nat} {L : List Res} {g c i : Nat} {l : List Int} {x : Int} (k : Nat) (hS : St w0 F w L) (hk : L[k]? = some (irow (.slice (some ⟨g, 0, none⟩) l.length c) l)) (hi : i < l.length)
    (h : ∀ w', St w0 F w' (L.set k (irow (.slice (some ⟨g, 0, none⟩) (l.set i x).length c) (l.set i x))) → K undef w') : unitP Try.prog (Instr.storeAt 3 (.pointer (some ⟨g, i, none⟩)) (.int .i64 x)) w K := by
  refine store_row k st3 hS hk (by simpa using hi) rfl ?_
  intro w' hS
  rw [ints_set] at hS
  refine h _ ?_
  unfold irow
  rw [List.length_set]
  exact hS
theorem perm_last3 (r a b c : Res) (L : List Res) : (r :: a :: b :: c :: L).Perm (a :: b :: c :: r :: L) :=
  (List.Perm.swap a r _).trans (((List.Perm.swap b r _).trans ((List.Perm.swap c r _).cons b)).cons a)
theorem sticky_ret {w0 w : World} {F : List Nat} {L : List Res} {A B : Option Addr} {c d : Nat} {zs old : List Int} {parts : Int} (hp : -9223372036854775808 ≤ parts) (hp' : parts ≤ 9223372036854775807) (hS : St w0 F w L) (hI : Bes w0 F L 1 A zs.length (ints zs)) (hO : Bes w0 F L 1 B old.length (ints old)) (hz : zs.length ≤ 1000)
    (hzb : ∀ x ∈ zs, -9223372036854775808 ≤ x ∧ x ≤ 9223372036854775807) (hob : ∀ x ∈ old, -9223372036854775808 ≤ x ∧ x ≤ 9223372036854775807) :
    Ret Try.prog 88 #[.int .i64 parts, .slice A zs.length c, .slice B old.length d] w fun v w' => if badParts parts then v = .tuple #[.slice none 0 0, .int .i64 1] ∧ St w0 F w' L
      else ∃ A' c', v = .tuple #[.slice A' (stickyL parts (membersL zs) old).length c', .int .i64 0] ∧ St w0 F w' (irow (.slice A' (stickyL parts (membersL zs) old).length c') (stickyL parts (membersL zs) old) :: L) := by
  refine s88 _ _ _ ?_
  unfold m88
  unfold m88_0
  unfold m88_1
  refine callR (by kernel_rfl) (share_ret hp hp' hS hI (by omega)) ?_
  intro v w hv
  by_cases hbad : badParts parts
  · rw [if_pos hbad] at hv
    obtain ⟨rfl, hS⟩ := hv
    refine valP_ok (extract_ok _ 0 rfl _) ?_
    refine valP_ok (extract_ok _ 1 rfl _) ?_
    unfold m88_2
    first | refine valP_ok (not_ok _ _) ?_ | refine valP_ok (notb_ok _ _) ?_
    unfold m88_26
    refine cond_t rfl ?_
    unfold m88_27
    show ite _ _ _
    rw [if_pos hbad]
    exact ⟨rfl, hS⟩
  rw [if_neg hbad] at hv
  obtain ⟨b, mb, A1, c1, Mv, rfl, hMv, hS⟩ := hv
  have hspec := membersL_spec zs
  have hMl : (membersL zs).length ≤ 1000 := by have := membersL_len zs; omega
  have hMb : ∀ x ∈ membersL zs, -9223372036854775808 ≤ x ∧ x ≤ 9223372036854775807 := fun x hx => hzb x ((hspec.2 x).1 hx).1
  have hM1 : ∀ x ∈ membersL zs, 0 < x := fun x hx => ((hspec.2 x).1 hx).2
  have hrise := hspec.1
  clear hspec
  generalize membersL zs = M at *
  have hpp : 1 ≤ parts ∧ parts ≤ 64 := by unfold badParts at hbad; omega
  refine valP_ok (extract_ok _ 0 rfl _) ?_
  refine valP_ok (extract_ok _ 1 rfl _) ?_
  unfold m88_2
  first | refine valP_ok (not_ok _ _) ?_ | refine valP_ok (notb_ok _ _) ?_
  unfold m88_26
  refine cond_f rfl ?_
  unfold m88_3
  have ep : (Value.int .i64 parts) = Value.int .i64 ((parts.toNat : Nat) : Int) := by rw [Int.toNat_of_nonneg (by omega)]
  rw [ep]
  refine make_ok sl28 hS (by omega) (by unfold maxLen; omega) ?_
  intro b2 w hS
  rw [← ep]
  rw [zero_cells] at hS
  have hrl : (List.replicate parts.toNat (0 : Int)).length = parts.toNat := by simp
  unfold m88_4
  refine nil_ok ?_
  first | refine valP_ok (fa131_0 _ _) ?_ | refine valP_ok (fao131_0 _ _ _) ?_
  first | refine valP_ok (ld28 (hS.cell 0 rfl rfl)) ?_ | refine valP_ok (ld28 (hS.cell 1 rfl rfl)) ?_ | refine valP_ok (ld28 (hS.cell 2 rfl rfl)) ?_ | refine valP_ok (ld28 (hS.cell 3 rfl rfl)) ?_ | refine valP_ok (ld28 (hS.cell 4 rfl rfl)) ?_ | refine valP_ok (ld28 (by assumption)) ?_
  refine builtin_ok (len28 _) ?_
  refine valP_ok (eq3 _ _ _ _ _) ?_
  unfold m88_24
  by_cases hM0 : M.length = 0
  · refine cond_dt (by omega) ?_
    unfold m88_25
    show ite _ _ _
    rw [if_neg hbad]
    have hS := St_sub hS (.cons_cons _ (.cons _ (.cons _ (.cons _ (.refl L)))))
    unfold stickyL
    rw [if_pos hM0]
    unfold irow
    rw [hrl]
    exact ⟨_, _, rfl, hS⟩
  refine cond_df (by omega) ?_
  have hS := hS.perm (perm_last3 _ _ _ _ _)
  unfold m88_5
  refine builtin_ok (len28 _) ?_
  refine builtin_ok (min_run _ _ _) ?_
  have emin : min parts (old.length : Int) = ((min parts.toNat old.length : Nat) : Int) := by omega
  rw [emin]
  obtain ⟨n1, hn1⟩ : ∃ n1, n1 = min parts.toNat old.length := ⟨_, rfl⟩
  rw [← hn1]
  have hKok := fun p hp => keepsL_ok (parts := parts) (M := M) (old := old) hbad hrise hMl hMb p hp
  unfold m88_17
  have hmaxl : (1000000 : Nat) ≤ maxLen := by unfold maxLen; omega
  refine loop_in (fun s w' => ∃ p : Nat, ∃ k Mv', s = .int .i64 p ∧ p ≤ n1 ∧ k ≤ p ∧ Mc Mv' (keepsL parts M old p).C ∧
      St w0 F w' (shc b (.slice A1 M.length c1) mb (baseI parts M) (keepsL parts M old p).big :: mapI mb k Mv' :: Res.rd 1 A1 M.length (ints M) :: irow (.slice (some ⟨b2, 0, none⟩) (keepsL parts M old p).l.length parts.toNat) (keepsL parts M old p).l :: L))
    (fun s _ => n1 - (intOf s).toNat) ⟨0, 0, Mv, rfl, by omega, by omega, hMv, ?_⟩ ?_
  · show St w0 F w (_ :: _ :: _ :: Res.row 3 1 (.slice _ (List.replicate parts.toNat 0).length _) (List.replicate parts.toNat 0).length (ints (List.replicate parts.toNat 0)) :: L)
    rw [hrl]
    exact hS
  clear hS
  rintro s w ⟨p, k, Mv', rfl, hpn, hk, hMc, hS⟩
  unfold m88_18
  refine valP_ok (lss_ok _ _ _ _ _ _ _) ?_
  unfold m88_19
  obtain ⟨hok, hcp, hll, hlm⟩ := hKok p (by omega)
  refine cond_split (fun h => ?_) (fun h => ?_)
  · have hlt : p < old.length := by omega
    have hov := hob _ (List.getElem_mem hlt)
    have hstep : keepsL parts M old (p + 1) = (let s := keepsL parts M old p
      if mayI M (baseI parts M) s.big s.C old[p] then ⟨if s.C old[p] = baseI parts M then s.big - 1 else s.big, upC s.C old[p], s.l.set p old[p]⟩ else s) := by
      show (let s := keepsL parts M old p
        if mayI M (baseI parts M) s.big s.C old[p]! then _ else _) = _
      rw [getElem!_pos old p hlt]
    simp only at hstep
    generalize keepsL parts M old p = s at *
    have hc1000 := hcp old[p]
    have hr : Rd w 1 B old.length (ints old) := hO w _ hS (fun r hr => .tail _ (.tail _ (.tail _ (.tail _ hr))))
    obtain ⟨g, o, rfl⟩ := hr.some_ (by omega) (by omega)
    have hc := hr.cell_ (ints_get hlt)
    unfold m88_20
    unfold m88_22
    refine valP_ok (ix28 hlt _) ?_
    first | refine valP_ok (ld3 (hS.cell 0 rfl rfl)) ?_ | refine valP_ok (ld3 (hS.cell 1 rfl rfl)) ?_ | refine valP_ok (ld3 (hS.cell 2 rfl rfl)) ?_ | refine valP_ok (ld3 (hS.cell 3 rfl rfl)) ?_ | refine valP_ok (ld3 (hS.cell 4 rfl rfl)) ?_ | refine valP_ok (ld3 (by assumption)) ?_
    refine callR (by kernel_rfl) (keeps_ret hok hMc (wf_of hov.1 hov.2) (by omega) (by omega) hS) ?_
    rintro v w ⟨rfl, hS⟩
    unfold m88_23
    refine cond_split (fun hy => ?_) (fun hy => ?_)
    · rw [if_pos hy] at hS hstep
      obtain ⟨Mv2, hMc2, hS⟩ := hS
      clear hr hc
      have hr : Rd w 1 (some ⟨g, o, none⟩) old.length (ints old) := hO w _ hS (fun r hr => .tail _ (.tail _ (.tail _ (.tail _ hr))))
      have hc := hr.cell_ (ints_get hlt)
      refine valP_ok (ix28 hlt _) ?_
      first | refine valP_ok (ld3 (hS.cell 0 rfl rfl)) ?_ | refine valP_ok (ld3 (hS.cell 1 rfl rfl)) ?_ | refine valP_ok (ld3 (hS.cell 2 rfl rfl)) ?_ | refine valP_ok (ld3 (hS.cell 3 rfl rfl)) ?_ | refine valP_ok (ld3 (hS.cell 4 rfl rfl)) ?_ | refine valP_ok (ld3 (by assumption)) ?_
      refine valP_ok (ixz28 (by omega) _) ?_
      refine set_irow 3 hS rfl (by omega) ?_
      intro w hS
      simp only [List.set_cons_zero, List.set_cons_succ] at hS
      unfold m88_21
      refine valP_ok (add_ok _ _ _ (by omega) (by omega) _) ?_
      refine ⟨⟨p + 1, k + 1, Mv2, rfl, by omega, by omega, by rw [hstep]; exact hMc2, ?_⟩, by simp [intOf]; omega⟩
      rw [hstep]
      exact hS
    · rw [if_neg hy] at hS hstep
      unfold m88_21
      refine valP_ok (add_ok _ _ _ (by omega) (by omega) _) ?_
      exact ⟨⟨p + 1, k, Mv', rfl, by omega, by omega, by rw [hstep]; exact hMc, by rw [hstep]; exact hS⟩, by simp [intOf]; omega⟩
  have hpe : p = n1 := by omega
  subst hpe
  have hst : stickyL parts M old = (fillsL M (keepsL parts M old p) parts.toNat).l := by unfold stickyL; rw [if_neg hM0, ← hn1]
  have hFok := fun q hq => fillsL_ok (n := parts.toNat) (q := p) (base := baseI parts M) (by omega : 0 < M.length) (by omega) ⟨hok, hcp, hll, hlm⟩ q hq
  generalize keepsL parts M old p = s0 at *
  unfold m88_6
  refine builtin_ok (len28 _) ?_
  unfold m88_9
  have hcons : ∀ q : Nat, (q : Int) < (s0.l.length : Int) ↔ q < parts.toNat := fun q => by omega
  refine loop_in (fun s w' => ∃ q : Nat, ∃ k Mv', s = .int .i64 q ∧ q ≤ parts.toNat ∧ k ≤ p + q ∧ Mc Mv' (fillsL M s0 q).C ∧
      St w0 F w' (shc b (.slice A1 M.length c1) mb (baseI parts M) (fillsL M s0 q).big :: mapI mb k Mv' :: Res.rd 1 A1 M.length (ints M) :: irow (.slice (some ⟨b2, 0, none⟩) (fillsL M s0 q).l.length parts.toNat) (fillsL M s0 q).l :: L))
    (fun s _ => parts.toNat - (intOf s).toNat) ⟨0, k, Mv', rfl, by omega, by omega, hMc, hS⟩ ?_
  clear hS hMc Mv' hk k
  rintro s w ⟨q, k, Mv', rfl, hq, hk, hMc, hS⟩
  unfold m88_10
  refine valP_ok (lss_ok _ _ _ _ _ _ _) ?_
  unfold m88_11
  obtain ⟨hok, hcp, hll2, hlm⟩ := hFok q (by omega)
  refine cond_split (fun h => ?_) (fun h => ?_)
  · have hlt : q < (fillsL M s0 q).l.length := by omega
    have hstep : fillsL M s0 (q + 1) = (let s := fillsL M s0 q
      if s.l[q]'hlt = 0 then ⟨s.big, upC s.C (fewest s.C M[0] (M.drop 1)), s.l.set q (fewest s.C M[0] (M.drop 1))⟩ else s) := by
      show (let s := fillsL M s0 q
        if s.l[q]! = 0 then _ else _) = _
      simp only
      rw [getElem!_pos _ q hlt, getElem!_pos M 0 (by omega)]
    simp only at hstep
    have hf := fewest_in (C := (fillsL M s0 q).C) (M := M) (by omega)
    rw [getElem!_pos M 0 (by omega)] at hf
    have hfc := hcp (fewest (fillsL M s0 q).C M[0] (M.drop 1))
    have hfb := hMb _ hf
    have hfc0 := hok.cnt (fewest (fillsL M s0 q).C M[0] (M.drop 1))
    have hfe : fewest (fillsL M s0 q).C M[0] (M.drop 1) = fewest (fillsL M s0 q).C M[0] (M.drop 1) := rfl
    generalize fillsL M s0 q = s at *
    unfold m88_12
    have hc := hS.row_cell 3 rfl (ints_get hlt)
    unfold m88_14
    refine valP_ok (ixz28 (by omega) _) ?_
    first | refine valP_ok (ld3 (hS.cell 0 rfl rfl)) ?_ | refine valP_ok (ld3 (hS.cell 1 rfl rfl)) ?_ | refine valP_ok (ld3 (hS.cell 2 rfl rfl)) ?_ | refine valP_ok (ld3 (hS.cell 3 rfl rfl)) ?_ | refine valP_ok (ld3 (hS.cell 4 rfl rfl)) ?_ | refine valP_ok (ld3 (by assumption)) ?_
    refine valP_ok (eq3 _ _ _ _ _) ?_
    unfold m88_15
    refine cond_split (fun hz => ?_) (fun hz => ?_)
    · rw [if_pos hz] at hstep
      refine callR (by kernel_rfl) (least_ret hok hMc (by omega) hS) ?_
      rintro v w ⟨rfl, hS⟩
      refine valP_ok (ixz28 (by omega) _) ?_
      refine set_irow 3 hS rfl hlt ?_
      intro w hS
      simp only [List.set_cons_zero, List.set_cons_succ] at hS
      unfold m88_16
      refine drawn_ok hS ?_
      intro w hS
      have hlt3 : q < (s.l.set q (fewest s.C M[0] (M.drop 1))).length := by rw [List.length_set]; exact hlt
      have hc2 := hS.row_cell 3 rfl (ints_get hlt3)
      rw [List.getElem_set_self] at hc2
      refine nil_ok ?_
      first | refine valS_ok (fa131_1 _ _) ?_ | refine valS_ok (fao131_1 _ _ _) ?_
      first | refine valS_ok (ld129 (hS.cell 0 rfl rfl)) ?_ | refine valS_ok (ld129 (hS.cell 1 rfl rfl)) ?_ | refine valS_ok (ld129 (hS.cell 2 rfl rfl)) ?_ | refine valS_ok (ld129 (hS.cell 3 rfl rfl)) ?_ | refine valS_ok (ld129 (hS.cell 4 rfl rfl)) ?_ | refine valS_ok (ld129 (by assumption)) ?_
      refine valS_ok (ixz28 (by omega) _) ?_
      first | refine valS_ok (ld3 (hS.cell 0 rfl rfl)) ?_ | refine valS_ok (ld3 (hS.cell 1 rfl rfl)) ?_ | refine valS_ok (ld3 (hS.cell 2 rfl rfl)) ?_ | refine valS_ok (ld3 (hS.cell 3 rfl rfl)) ?_ | refine valS_ok (ld3 (hS.cell 4 rfl rfl)) ?_ | refine valS_ok (ld3 (by assumption)) ?_
      refine valS_ok (look_run (map_get 1 hS rfl) hMc (wf_of hfb.1 hfb.2)) ?_
      refine valS_ok (add_ok _ _ _ (by omega) (by omega) _) ?_
      refine upd_at 1 hS rfl hMc (by omega) (wf_of hfb.1 hfb.2) (wf_of (by omega) (by omega)) ?_
      intro Mv2 w hMc2 hS
      simp only [List.set_cons_zero, List.set_cons_succ] at hS
      unfold m88_13
      refine valP_ok (add_ok _ _ _ (by omega) (by omega) _) ?_
      exact ⟨⟨q + 1, k + 1, Mv2, rfl, by omega, by omega, by rw [hstep]; exact hMc2, by rw [hstep]; exact hS⟩, by simp [intOf]; omega⟩
    · rw [if_neg hz] at hstep
      unfold m88_13
      refine valP_ok (add_ok _ _ _ (by omega) (by omega) _) ?_
      exact ⟨⟨q + 1, k, Mv', rfl, by omega, by omega, by rw [hstep]; exact hMc, by rw [hstep]; exact hS⟩, by simp [intOf]; omega⟩
  · have hqe : q = parts.toNat := by omega
    subst hqe
    unfold m88_7 m88_8
    show ite _ _ _
    rw [if_neg hbad, hst]
    have hS := St_sub hS (.cons _ (.cons _ (.cons _ (.cons_cons _ (.refl L)))))
    refine ⟨_, _, ?_, hS⟩
    rw [hll2]
theorem Rd.take_ints {w : World} {A : Option Addr} {l : List Int} (h : Rd w 1 A l.length (ints l)) (k : Nat) : Rd w 1 A (l.take k).length (ints (l.take k)) := by
  refine ⟨by simp, fun hp => ?_⟩
  have hp' : 0 < (ints l).length := by simp at hp ⊢; omega
  obtain ⟨g, o, hA, hc⟩ := h.2 hp'
  refine ⟨g, o, hA, fun j u hj => hc j u ?_⟩
  have e : ints (l.take k) = (ints l).take k := by simp [ints, List.map_take]
  rw [e, List.getElem?_take] at hj
  split at hj
  · exact hj
  · cases hj
theorem same_ret {w0 w : World} {F : List Nat} {L : List Res} {A B : Option Addr} {c d : Nat} {a b : List Int} (hl : a.length ≤ 1000000) (hS : St w0 F w L) (hA : Bes w0 F L 1 A a.length (ints a)) (hB : Bes w0 F L 1 B b.length (ints b)) :
    Ret Try.prog 32 #[.slice A a.length c, .slice B b.length d] w fun v w' => v = .bool (decide (a = b)) ∧ St w0 F w' L := by
  refine s32 _ _ ?_
  unfold m32
  unfold m32_0
  unfold m32_1
  refine builtin_ok (len28 _) ?_
  refine builtin_ok (len28 _) ?_
  refine valP_ok (ne3 _ _ _ _ _) ?_
  unfold m32_12
  refine cond_split (fun h => ?_) (fun h => ?_)
  · unfold m32_13
    exact ⟨by rw [decide_eq_false (fun e => h (by rw [e]))], hS⟩
  have hab : a.length = b.length := by omega
  unfold m32_2
  unfold m32_5
  refine loop_in (fun s w' => ∃ i : Nat, s = .int .i64 i ∧ i ≤ a.length ∧ St w0 F w' L ∧ ∀ j (h1 : j < a.length) (h2 : j < b.length), j < i → a[j] = b[j]) (fun s _ => a.length - (intOf s).toNat) ⟨0, rfl, by omega, hS, fun _ _ _ h => by omega⟩ ?_
  clear hS
  rintro s w ⟨i, rfl, hi, hS, hj⟩
  unfold m32_6
  refine builtin_ok (len28 _) ?_
  refine valP_ok (lss_ok _ _ _ _ _ _ _) ?_
  unfold m32_11
  refine cond_split (fun h => ?_) (fun h => ?_)
  · have hlt : i < a.length := by omega
    have hltb : i < b.length := by omega
    have rA := hA.rd hS
    have rB := hB.rd hS
    obtain ⟨g, o, rfl⟩ := rA.some_ (by omega) (by omega)
    obtain ⟨g', o', rfl⟩ := rB.some_ (by omega) (by omega)
    have a0 := rA.cell_ (ints_get hlt)
    have b0 := rB.cell_ (ints_get hltb)
    unfold m32_7
    refine valQ_ok (ix28 hlt) ?_
    refine valQ_load ld3 a0 ?_
    refine valQ_ok (ix28 hltb) ?_
    refine valQ_load ld3 b0 ?_
    refine valQ_ok (ne3 _ _ _ _) ?_
    refine drawn_ok hS ?_
    intro w hS
    unfold m32_9
    refine cond_split (fun hk => ?_) (fun hk => ?_)
    · unfold m32_10
      refine ⟨?_, hS⟩
      rw [decide_eq_false]
      rintro rfl
      exact hk rfl
    · unfold m32_8
      refine valP_ok (add_ok _ _ _ (by omega) (by omega) _) ?_
      refine ⟨⟨i + 1, rfl, by omega, hS, fun j h1 h2 hji => ?_⟩, by simp [intOf]; omega⟩
      by_cases e : j = i
      · subst e; exact Decidable.not_not.1 hk
      · exact hj j h1 h2 (by omega)
  · unfold m32_3 m32_4
    exact ⟨by rw [decide_eq_true (List.ext_getElem hab fun j h1 h2 => hj j h1 h2 (by omega))], hS⟩
/-- How often a number comes. -/
abbrev tm (l : List Int) (k : Int) : Int := ((l.count k : Nat) : Int)
theorem tm_take {l : List Int} {i : Nat} (hi : i < l.length) (k : Int) : tm (l.take (i + 1)) k = if l[i] = k then tm (l.take i) k + 1 else tm (l.take i) k := by
  unfold tm
  rw [List.take_succ_eq_append_getElem hi, List.count_append]
  by_cases h : l[i] = k
  · rw [if_pos h, h]; simp
  · rw [if_neg h]; simp [h]
theorem count_ret (A : Option Addr) (c : Nat) (l : List Int) (key : Int) (w : World) (hr : Rd w 1 A l.length (ints l)) (hl : l.length ≤ 1000000) : Ret Try.prog 21 #[.slice A l.length c, .int .i64 key] w fun v w' => v = .int .i64 (tm l key) ∧ w' = w := by
  refine s21 _ _ ?_
  unfold m21
  unfold m21_0
  unfold m21_1
  unfold m21_2
  unfold m21_5
  refine loop_in (fun s w' => ∃ i : Nat, s = (.int .i64 (tm (l.take i) key), .int .i64 i) ∧ i ≤ l.length ∧ w' = w) (fun s _ => l.length - (intOf s.2).toNat) ⟨0, by simp [tm], by omega, rfl⟩ ?_
  rintro s w' ⟨i, rfl, hi, rfl⟩
  unfold m21_6
  refine builtin_ok (len28 _) ?_
  refine valP_ok (lss_ok _ _ _ _ _ _ _) ?_
  unfold m21_10
  refine cond_split (fun h => ?_) (fun h => ?_)
  · have hlt : i < l.length := by omega
    obtain ⟨g, o, rfl⟩ := hr.some_ (by omega) (by omega)
    have hc := hr.cell_ (ints_get hlt)
    have hs := tm_take hlt key
    have hcl : tm (l.take i) key ≤ 1000000 := by
      have := List.count_le_length (a := key) (l := l.take i)
      rw [List.length_take] at this
      unfold tm
      omega
    have hc0 : 0 ≤ tm (l.take i) key := by unfold tm; omega
    unfold m21_7
    first | refine valP_ok (ixz28 (by first | assumption | omega) _) ?_ | refine valP_ok (ix28 (by first | assumption | omega) _) ?_
    first | refine valP_ok (ld3 (hS.cell 0 rfl rfl)) ?_ | refine valP_ok (ld3 (hS.cell 1 rfl rfl)) ?_ | refine valP_ok (ld3 (hS.cell 2 rfl rfl)) ?_ | refine valP_ok (ld3 (hS.cell 3 rfl rfl)) ?_ | refine valP_ok (ld3 (hS.cell 4 rfl rfl)) ?_ | refine valP_ok (ld3 (by assumption)) ?_
    refine valP_ok (eq3 _ _ _ _ _) ?_
    unfold m21_9
    refine cond_split (fun hk => ?_) (fun hk => ?_)
    · rw [if_pos hk] at hs
      refine valP_ok (add_ok _ _ _ (by omega) (by omega) _) ?_
      unfold m21_8
      refine valP_ok (add_ok _ _ _ (by omega) (by omega) _) ?_
      exact ⟨⟨i + 1, by rw [hs]; rfl, by omega, rfl⟩, by simp [intOf]; omega⟩
    · rw [if_neg hk] at hs
      unfold m21_8
      refine valP_ok (add_ok _ _ _ (by omega) (by omega) _) ?_
      exact ⟨⟨i + 1, by rw [hs]; rfl, by omega, rfl⟩, by simp [intOf]; omega⟩
  · unfold m21_3 m21_4
    exact ⟨by rw [List.take_of_length_le (by omega)], rfl⟩
theorem has_ret (A : Option Addr) (c : Nat) (l : List Int) (key : Int) (w : World) (hr : Rd w 1 A l.length (ints l)) (hl : l.length ≤ 1000000) : Ret Try.prog 102 #[.slice A l.length c, .int .i64 key] w fun v w' => v = .bool (decide (key ∈ l)) ∧ w' = w := by
  refine s102 _ _ ?_
  unfold m102
  unfold m102_0
  unfold m102_1
  refine callR (by kernel_rfl) (count_ret A c l key w hr hl) ?_
  rintro v w ⟨rfl, rfl⟩
  refine valP_ok (gtr_ok _ _ _ _ _ _ _) ?_
  unfold m102_2
  refine ⟨?_, rfl⟩
  congr 1
  apply decide_eq_decide.2
  unfold tm
  rw [← List.count_pos_iff (a := key) (l := l)]
  omega
theorem append_none_ok {P : Program} {w0 w : World} {F : List Nat} {L : List Res} {K : Value → World → Prop} (k : Nat) {t e ty size bytes n : Nat} {z : Value} {v : Value} {cs : Array Bool} {xs : List Value} (hT : SlT P t e size bytes z) (hS : St w0 F w L) (hk : L[k]? = some (Res.row e size v n xs))
    (h : K v w) : builtinP P .append #[t, t] ty cs #[v, .slice none 0 0] w K := by
  obtain ⟨i, hi, hz, hs, hb⟩ := hT.parts
  exact builtin_ok (append_run (run_append_owned_none w 0 t ty e i size hT.1 hi v n xs (hS.own_row k hk))) h
theorem Rd.drop_ints {w : World} {A : Option Addr} {c : Nat} {l : List Int} (h : Rd w 1 A l.length (ints l)) {k : Nat} (hk : k ≤ l.length) (hc : l.length ≤ c) : Rd w 1 (if c = k then A else A.map (·.add k)) (l.drop k).length (ints (l.drop k)) := by
  refine ⟨by simp, fun hp => ?_⟩
  have hp' : 0 < l.length - k := by simpa using hp
  obtain ⟨g, o, hA, hcell⟩ := h.2 (by simp; omega)
  subst hA
  rw [if_neg (by omega)]
  refine ⟨g, o + k, by simp [add_none], fun j u hj => ?_⟩
  rw [Nat.add_assoc]
  refine hcell _ _ ?_
  have e : ints (l.drop k) = (ints l).drop k := by simp [ints, List.map_drop]
  rw [e, List.getElem?_drop] at hj
  exact hj
theorem append_drop {K : Value → World → Prop} {w0 w : World} {F : List Nat} {L : List Res} {cs : Array Bool} {A A2 : Option Addr} {c c2 k : Nat} {l out : List Int} (p q : Nat) (hl : l.length ≤ 100000) (ho : out.length ≤ 100000) (hS : St w0 F w L) (hp : L[p]? = some (irow (.slice A l.length c) l)) (hq : L[q]? = some (irow (.slice A2 out.length c2) out)) (hk : k ≤ out.length)
    (h : ∀ A' c' w', St w0 F w' (L.set p (irow (.slice A' (l ++ out.drop k).length c') (l ++ out.drop k))) → K (.slice A' (l ++ out.drop k).length c') w') :
    builtinP Try.prog .append #[28, 28] 28 cs #[.slice A l.length c, .slice (if c2 = k then A2 else A2.map (·.add k)) (out.length - k) (c2 - k)] w K := by
  have hcap := hS.row_max q hq
  have hself : St w0 F w (L.set p (irow (.slice A l.length c) l)) := by
    obtain ⟨hlt, he⟩ := List.getElem?_eq_some_iff.1 hp
    rw [← he, List.set_getElem_self]
    exact hS
  have hlen : (l ++ out.drop k).length = l.length + (out.length - k) := by simp
  have hints : ints l ++ ints (out.drop k) = ints (l ++ out.drop k) := by simp [ints]
  by_cases hck : c2 = k
  · have ed : out.drop k = [] := List.drop_eq_nil_of_le (by omega)
    have e0 : out.length - k = 0 := by omega
    rw [if_pos hck, e0]
    rw [ed, List.append_nil] at h
    rcases (hS.own_row q hq).2 with ⟨hv, h0⟩ | ⟨g2, cap, cur, hv, _⟩
    · injection hv with q1 q2 q3
      subst q1
      have : c2 - k = 0 := by omega
      rw [this]
      exact append_none_ok p sl28 hS hp (h _ _ _ hself)
    · injection hv with q1 q2 q3
      subst q1
      refine append_ok p sl28 hS hp (m := 0) (news := []) rfl (fun j u hj => by simp at hj) (by simp) (by unfold maxLen; omega) (by omega) ?_
      intro A4 c4 w' hS'
      rw [Nat.add_zero, List.append_nil] at hS'
      rw [Nat.add_zero]
      exact h _ _ _ hS'
  · rcases (hS.own_row q hq).2 with ⟨hv, h0⟩ | ⟨g2, cap, cur, hv, _⟩
    · injection hv with q1 q2 q3
      omega
    · injection hv with q1 q2 q3
      subst q1
      have hR := Rd.drop_ints (hS.row_rd q hq) hk hcap.1
      rw [if_neg hck] at hR ⊢
      have e1 : (out.drop k).length = out.length - k := by simp
      rw [e1] at hR
      refine append_rd p sl28 hS hp hR rfl (fun u hu => ?_) (by unfold maxLen; omega) (by omega) ?_
      · obtain ⟨x, _, rfl⟩ := List.mem_map.1 hu
        rfl
      intro A4 c4 w' hS'
      rw [hints, ← hlen] at hS'
      rw [← hlen]
      exact h _ _ _ hS'
theorem ins_ok {out : List Int} {x : Int} {k k' : Nat} (hr : out.Pairwise (· < ·)) (hk : k ≤ out.length) (hb : ∀ t ∈ out.take k, t < x) (hn : ∀ h : k < out.length, x ≤ out[k])
    (hk' : (k' = k ∧ ∀ h : k < out.length, out[k] ≠ x) ∨ (∃ h : k < out.length, out[k] = x ∧ k' = k + 1)) :
    (out.take k ++ [x] ++ out.drop k').Pairwise (· < ·) ∧ ∀ y, y ∈ out.take k ++ [x] ++ out.drop k' ↔ y ∈ out ∨ y = x := by
  have hgt : ∀ t ∈ out.drop k', x < t := fun t ht => by
    obtain ⟨j, hj, rfl⟩ := List.mem_iff_getElem.1 ht
    rw [List.length_drop] at hj
    rw [List.getElem_drop]
    have hlt : k < out.length := by rcases hk' with ⟨rfl, _⟩ | ⟨h, _, rfl⟩ <;> omega
    have hx := hn hlt
    by_cases e : k' + j = k
    · rcases hk' with ⟨rfl, h⟩ | ⟨h, _, rfl⟩
      · have := h hlt
        simp only [e]
        omega
      · omega
    · have := (List.pairwise_iff_getElem.1 hr) k (k' + j) hlt (by omega) (by rcases hk' with ⟨rfl, _⟩ | ⟨h, _, rfl⟩ <;> omega)
      omega
  refine ⟨?_, fun y => ?_⟩
  · refine List.pairwise_append.2 ⟨List.pairwise_append.2 ⟨hr.sublist (List.take_sublist _ _), by simp, fun a ha b hb' => ?_⟩, hr.sublist (List.drop_sublist _ _), fun a ha b hb' => ?_⟩
    · obtain rfl := List.mem_singleton.1 hb'
      exact hb a ha
    · have hbx := hgt b hb'
      rcases List.mem_append.1 ha with ha | ha
      · have := hb a ha; omega
      · obtain rfl := List.mem_singleton.1 ha
        exact hbx
  · have e : ∀ y, y ∈ out ↔ y ∈ out.take k ∨ y ∈ out.drop k := fun y => by rw [← List.mem_append, List.take_append_drop]
    rw [e y]
    simp only [List.mem_append, List.mem_singleton]
    rcases hk' with ⟨rfl, _⟩ | ⟨h, hx, rfl⟩
    · constructor
      · rintro ((h | h) | h)
        · exact .inl (.inl h)
        · exact .inr h
        · exact .inl (.inr h)
      · rintro ((h | h) | h)
        · exact .inl (.inl h)
        · exact .inr h
        · exact .inl (.inr h)
    · rw [List.drop_eq_getElem_cons h, List.mem_cons, hx]
      constructor
      · rintro ((h | h) | h)
        · exact .inl (.inl h)
        · exact .inr h
        · exact .inl (.inr (.inr h))
      · rintro ((h | h | h) | h)
        · exact .inl (.inl h)
        · exact .inl (.inr h)
        · exact .inr h
        · exact .inl (.inr h)
theorem mem_leaf {w0 w : World} {F : List Nat} {L : List Res} {R : Value → World → Prop} {K1 K2 : Value × Value → World → Prop} {A A2 A3 : Option Addr} {c c2 c3 i k : Nat} {l out : List Int} {t : Bool} (hi : i < l.length) (hil : l.length ≤ 1000) (ho : out.length ≤ 1000) (hk : k ≤ out.length)
    (hI : Bes w0 F L 1 A l.length (ints l)) (ht : t = true → ∃ h : k < out.length, out[k] < l[i])
    (hS : St w0 F w (irow (.slice A3 (out.take k).length c3) (out.take k) :: irow (.slice A2 out.length c2) out :: L))
    (hK2 : (∃ h : k < out.length, out[k] < l[i]) → ∀ A3 c3 w, St w0 F w (irow (.slice A3 (out.take (k + 1)).length c3) (out.take (k + 1)) :: irow (.slice A2 out.length c2) out :: L) → K2 (.slice A3 (out.take (k + 1)).length c3, .int .i64 ((k + 1 : Nat) : Int)) w)
    (hK1 : t = false → ∀ k', ((k' = k ∧ ∀ h : k < out.length, out[k] ≠ l[i]) ∨ (∃ h : k < out.length, out[k] = l[i] ∧ k' = k + 1)) → ∀ A3 c3 w, St w0 F w (irow (.slice A3 (out.take k ++ [l[i]] ++ out.drop k').length c3) (out.take k ++ [l[i]] ++ out.drop k') :: L) → K1 (.slice A3 (out.take k ++ [l[i]] ++ out.drop k').length c3, .int .i64 ((i + 1 : Nat) : Int)) w) :
    m63_20 R K1 K2 (.slice A l.length c) (.slice A2 out.length c2) (.int .i64 i) (.slice A3 (out.take k).length c3) (.int .i64 k) (.bool t) w := by
  have hlen : (out.take k).length = k := by rw [List.length_take]; omega
  unfold m63_20
  refine cond_bsplit (fun h => ?_) (fun h => ?_)
  · obtain ⟨hlt, hx⟩ := ht h
    obtain ⟨g, rfl⟩ := hS.row_ptr 1 rfl (by omega)
    have h0 := hS.row_cell 1 rfl (ints_get hlt)
    unfold m63_18
    refine valP_ok (ixz28 hlt _) ?_
    first | refine valP_ok (ld3 (hS.cell 0 rfl rfl)) ?_ | refine valP_ok (ld3 (hS.cell 1 rfl rfl)) ?_ | refine valP_ok (ld3 (hS.cell 2 rfl rfl)) ?_ | refine valP_ok (ld3 (hS.cell 3 rfl rfl)) ?_ | refine valP_ok (ld3 (hS.cell 4 rfl rfl)) ?_ | refine valP_ok (ld3 (by assumption)) ?_
    refine newslice_ok (bs28_1 rfl _) hS ?_
    intro b38 w hS
    refine append_one 0 (by omega) hS rfl ?_
    intro A' c' w hS
    simp only [List.set_cons_zero] at hS
    have e : out.take k ++ [out[k]] = out.take (k + 1) := (List.take_succ_eq_append_getElem hlt).symm
    rw [e] at hS ⊢
    unfold m63_19
    refine valP_ok (add_ok _ _ _ (by omega) (by omega) _) ?_
    exact hK2 ⟨hlt, hx⟩ _ _ _ hS
  · have hr : Rd w 1 A l.length (ints l) := hI.rd2 hS
    obtain ⟨g, o, rfl⟩ := hr.some_ (by omega) (by omega)
    have hc := hr.cell_ (ints_get hi)
    unfold m63_12
    refine valP_ok (ix28 hi _) ?_
    first | refine valP_ok (ld3 (hS.cell 0 rfl rfl)) ?_ | refine valP_ok (ld3 (hS.cell 1 rfl rfl)) ?_ | refine valP_ok (ld3 (hS.cell 2 rfl rfl)) ?_ | refine valP_ok (ld3 (hS.cell 3 rfl rfl)) ?_ | refine valP_ok (ld3 (hS.cell 4 rfl rfl)) ?_ | refine valP_ok (ld3 (by assumption)) ?_
    refine newslice_ok (bs28_1 rfl _) hS ?_
    intro b47 w hS
    refine append_one 0 (by omega) hS rfl ?_
    intro A' c' w hS
    simp only [List.set_cons_zero] at hS
    clear hr hc
    have fin : ∀ k', ((k' = k ∧ ∀ h : k < out.length, out[k] ≠ l[i]) ∨ (∃ h : k < out.length, out[k] = l[i] ∧ k' = k + 1)) → ∀ w, St w0 F w (irow (.slice A' (out.take k ++ [l[i]]).length c') (out.take k ++ [l[i]]) :: irow (.slice A2 out.length c2) out :: L) →
        m63_14 R K1 (.slice (some ⟨g, o, none⟩) l.length c) (.slice A2 out.length c2) (.int .i64 i) (.slice A' (out.take k ++ [l[i]]).length c') (.int .i64 k') w := fun k' hk' w hS => by
      have hcap := hS.row_max 1 rfl
      have hkl : k' ≤ out.length := by rcases hk' with ⟨rfl, _⟩ | ⟨h, _, rfl⟩ <;> omega
      unfold m63_14
      refine valP_ok (so28 hkl hcap.1 _) ?_
      refine append_drop 0 1 (by simp; omega) (by omega) hS rfl rfl hkl ?_
      intro A5 c5 w hS
      simp only [List.set_cons_zero] at hS
      unfold m63_15
      unfold m63_8
      refine valP_ok (add_ok _ _ _ (by omega) (by omega) _) ?_
      exact hK1 h k' hk' _ _ _ (hS.perm (.swap _ _ _)).tail
    unfold m63_13
    refine builtinQ_ok (len28) ?_
    refine valQ_ok (lss_ok _ _ _ _ _ _) ?_
    refine cond_split (fun hc => ?_) (fun hc => ?_)
    · have hlt : k < out.length := by omega
      have hr : Rd w 1 (some ⟨g, o, none⟩) l.length (ints l) := hI.rd2 hS
      have hc1 := hr.cell_ (ints_get hi)
      obtain ⟨g2, rfl⟩ := hS.row_ptr 1 rfl (by omega)
      have h0 := hS.row_cell 1 rfl (ints_get hlt)
      refine valQ_ok (ixz28 hlt) ?_
      refine valQ_load ld3 h0 ?_
      refine valQ_ok (ix28 hi) ?_
      refine valQ_load ld3 hc1 ?_
      refine valQ_ok (eq3 _ _ _ _) ?_
      first | refine pick_dt (by first | assumption | omega) ?_ | refine pick_df (by first | assumption | omega) ?_ | refine pick_t (by first | rfl | assumption) ?_ | refine pick_f (by first | rfl | assumption) ?_ | refine pick_dt rfl ?_ | refine pick_df (not_not_intro rfl) ?_
      refine drawn_ok hS ?_
      intro w hS
      unfold m63_16
      refine cond_split (fun he => ?_) (fun he => ?_)
      · refine valP_ok (add_ok _ _ _ (by omega) (by omega) _) ?_
        exact fin (k + 1) (.inr ⟨hlt, he, rfl⟩) _ hS
      · exact fin k (.inl ⟨rfl, fun _ => he⟩) _ hS
    · first | refine pick_dt (by first | assumption | omega) ?_ | refine pick_df (by first | assumption | omega) ?_ | refine pick_t (by first | rfl | assumption) ?_ | refine pick_f (by first | rfl | assumption) ?_ | refine pick_dt rfl ?_ | refine pick_df (not_not_intro rfl) ?_
      refine drawn_ok hS ?_
      intro w hS
      unfold m63_16
      refine cond_f rfl ?_
      exact fin k (.inl ⟨rfl, fun h => absurd h (by omega)⟩) _ hS
theorem members_ret {w0 w : World} {F : List Nat} {L : List Res} {A : Option Addr} {c : Nat} {l : List Int} (hl : l.length ≤ 1000) (hS : St w0 F w L) (hI : Bes w0 F L 1 A l.length (ints l)) :
    Ret Try.prog 63 #[.slice A l.length c] w fun v w' => ∃ A' c', v = .slice A' (membersL l).length c' ∧ St w0 F w' (irow (.slice A' (membersL l).length c') (membersL l) :: L) := by
  refine s63 _ ?_
  unfold m63
  unfold m63_0
  unfold m63_1
  unfold m63_2
  unfold m63_5
  have hS := hS.row_nil 3 1
  refine loop_in (fun s w' => ∃ i : Nat, ∃ out : List Int, ∃ A2 c2, s = (.slice A2 out.length c2, .int .i64 i) ∧ i ≤ l.length ∧ out.length ≤ i ∧ out.Pairwise (· < ·) ∧ (∀ x, x ∈ out ↔ x ∈ l.take i ∧ 0 < x) ∧ St w0 F w' (irow (.slice A2 out.length c2) out :: L))
    (fun s _ => l.length - (intOf s.2).toNat) ⟨0, [], none, 0, rfl, by omega, by simp, .nil, by simp, hS⟩ ?_
  clear hS
  rintro s w ⟨i, out, A2, c2, rfl, hi, hol, hr, hm, hS⟩
  unfold m63_6
  refine builtin_ok (len28 _) ?_
  refine valP_ok (lss_ok _ _ _ _ _ _ _) ?_
  unfold m63_22
  refine cond_split (fun h => ?_) (fun h => ?_)
  · have hlt : i < l.length := by omega
    have hR : Rd w 1 A l.length (ints l) := hI.rd1 hS
    obtain ⟨g, o, rfl⟩ := hR.some_ (by omega) (by omega)
    have hc := hR.cell_ (ints_get hlt)
    have etk : l.take (i + 1) = l.take i ++ [l[i]] := List.take_succ_eq_append_getElem hlt
    unfold m63_7
    first | refine valP_ok (ixz28 (by first | assumption | omega) _) ?_ | refine valP_ok (ix28 (by first | assumption | omega) _) ?_
    first | refine valP_ok (ld3 (hS.cell 0 rfl rfl)) ?_ | refine valP_ok (ld3 (hS.cell 1 rfl rfl)) ?_ | refine valP_ok (ld3 (hS.cell 2 rfl rfl)) ?_ | refine valP_ok (ld3 (hS.cell 3 rfl rfl)) ?_ | refine valP_ok (ld3 (hS.cell 4 rfl rfl)) ?_ | refine valP_ok (ld3 (by assumption)) ?_
    refine valP_ok (leq_ok _ _ _ _ _ _ _) ?_
    unfold m63_21
    refine cond_split (fun hx => ?_) (fun hx => ?_)
    · unfold m63_8
      refine valP_ok (add_ok _ _ _ (by omega) (by omega) _) ?_
      refine ⟨⟨i + 1, out, A2, c2, rfl, by omega, by omega, hr, fun x => ?_, hS⟩, by simp [intOf]; omega⟩
      rw [etk, hm x]
      simp only [List.mem_append, List.mem_singleton]
      constructor
      · rintro ⟨h1, h2⟩; exact ⟨.inl h1, h2⟩
      · rintro ⟨h1 | h1, h2⟩
        · exact ⟨h1, h2⟩
        · omega
    · have hS := hS.row_nil 3 1
      unfold m63_9
      unfold m63_10
      unfold m63_11
      refine loop_in (fun s w' => ∃ k : Nat, ∃ A3 c3, s = (.slice A3 (out.take k).length c3, .int .i64 k) ∧ k ≤ out.length ∧ (∀ t ∈ out.take k, t < l[i]) ∧ St w0 F w' (irow (.slice A3 (out.take k).length c3) (out.take k) :: irow (.slice A2 out.length c2) out :: L))
        (fun s _ => out.length - (intOf s.2).toNat) ⟨0, none, 0, rfl, by omega, by simp, hS⟩ ?_
      clear hS hR hc
      rintro s w ⟨k, A3, c3, rfl, hk, hb, hS⟩
      have hK1 : (∀ h : k < out.length, l[i] ≤ out[k]) → ∀ k', ((k' = k ∧ ∀ h : k < out.length, out[k] ≠ l[i]) ∨ (∃ h : k < out.length, out[k] = l[i] ∧ k' = k + 1)) →
          (out.take k ++ [l[i]] ++ out.drop k').length ≤ i + 1 ∧ (out.take k ++ [l[i]] ++ out.drop k').Pairwise (· < ·) ∧ (∀ x, x ∈ out.take k ++ [l[i]] ++ out.drop k' ↔ x ∈ l.take (i + 1) ∧ 0 < x) := fun hn k' hk' => by
        obtain ⟨p1, p2⟩ := ins_ok hr hk hb hn hk'
        refine ⟨?_, p1, fun x => ?_⟩
        · rcases hk' with ⟨rfl, _⟩ | ⟨h, _, rfl⟩ <;> simp <;> omega
        · rw [p2 x, hm x, etk]
          simp only [List.mem_append, List.mem_singleton]
          constructor
          · rintro (⟨h1, h2⟩ | h1)
            · exact ⟨.inl h1, h2⟩
            · exact ⟨.inr h1, by omega⟩
          · rintro ⟨h1 | h1, h2⟩
            · exact .inl ⟨h1, h2⟩
            · exact .inr h1
      have hK2 : (∃ h : k < out.length, out[k] < l[i]) → ∀ t ∈ out.take (k + 1), t < l[i] := fun ⟨hkk, e⟩ t ht => by
        rw [List.take_succ_eq_append_getElem hkk] at ht
        rcases List.mem_append.1 ht with ht | ht
        · exact hb t ht
        · obtain rfl := List.mem_singleton.1 ht
          exact e
      unfold m63_17
      refine builtinQ_ok (len28) ?_
      refine valQ_ok (lss_ok _ _ _ _ _ _) ?_
      refine cond_split (fun hc => ?_) (fun hc => ?_)
      · have hkk : k < out.length := by omega
        have hR : Rd w 1 (some ⟨g, o, none⟩) l.length (ints l) := hI.rd2 hS
        have hc1 := hR.cell_ (ints_get hlt)
        obtain ⟨g2, rfl⟩ := hS.row_ptr 1 rfl (by omega)
        have h0 := hS.row_cell 1 rfl (ints_get hkk)
        refine valQ_ok (ixz28 hkk) ?_
        refine valQ_load ld3 h0 ?_
        refine valQ_ok (ix28 hlt) ?_
        refine valQ_load ld3 hc1 ?_
        refine valQ_ok (lss_ok _ _ _ _ _ _) ?_
        first | refine pick_dt (by first | assumption | omega) ?_ | refine pick_df (by first | assumption | omega) ?_ | refine pick_t (by first | rfl | assumption) ?_ | refine pick_f (by first | rfl | assumption) ?_ | refine pick_dt rfl ?_ | refine pick_df (not_not_intro rfl) ?_
        refine drawn_ok hS ?_
        intro w hS
        exact mem_leaf hlt hl (by omega) hk hI (fun h => ⟨hkk, by simpa using h⟩) hS (fun h A3 c3 w hS => ⟨⟨k + 1, A3, c3, rfl, by omega, hK2 h, hS⟩, by simp [intOf]; omega⟩)
          (fun h k' hk' A3 c3 w hS => by
            obtain ⟨p1, p2, p3⟩ := hK1 (fun _ => by simp at h; exact h) k' hk'
            exact ⟨⟨i + 1, _, A3, c3, rfl, by omega, p1, p2, p3, hS⟩, by simp [intOf]; omega⟩)
      · first | refine pick_dt (by first | assumption | omega) ?_ | refine pick_df (by first | assumption | omega) ?_ | refine pick_t (by first | rfl | assumption) ?_ | refine pick_f (by first | rfl | assumption) ?_ | refine pick_dt rfl ?_ | refine pick_df (not_not_intro rfl) ?_
        refine drawn_ok hS ?_
        intro w hS
        exact mem_leaf hlt hl (by omega) hk hI (fun h => by cases h) hS (fun h A3 c3 w hS => ⟨⟨k + 1, A3, c3, rfl, by obtain ⟨h, _⟩ := h; omega, hK2 h, hS⟩, by obtain ⟨h, _⟩ := h; simp [intOf]; omega⟩)
          (fun h k' hk' A3 c3 w hS => by
            obtain ⟨p1, p2, p3⟩ := hK1 (fun h => absurd h (by omega)) k' hk'
            exact ⟨⟨i + 1, _, A3, c3, rfl, by omega, p1, p2, p3, hS⟩, by simp [intOf]; omega⟩)
  · have : i = l.length := by omega
    subst this
    rw [List.take_length] at hm
    obtain rfl : membersL l = out := membersL_of hr hm
    unfold m63_3 m63_4
    exact ⟨_, _, rfl, hS⟩
theorem tm_set : ∀ (l : List Int) (i : Nat) (hi : i < l.length) (m q : Int), tm (l.set i m) q = tm l q - (if l[i] = q then 1 else 0) + (if m = q then 1 else 0)
  | [], i, hi, _, _ => absurd hi (Nat.not_lt_zero _)
  | a :: l, 0, _, m, q => by
    simp only [List.set_cons_zero, List.getElem_cons_zero, tm, List.count_cons]
    by_cases h1 : a = q <;> by_cases h2 : m = q <;> simp [h1, h2]
  | a :: l, i + 1, hi, m, q => by
    have := tm_set l i (by simpa using hi) m q
    simp only [List.set_cons_succ, List.getElem_cons_succ, tm, List.count_cons] at this ⊢
    by_cases h1 : a = q <;> simp [h1] at this ⊢ <;> omega
/-- How many members have more than so many. -/
abbrev aboveN (l M : List Int) (n : Int) : Int := ((M.countP (fun x => decide (n < tm l x)) : Nat) : Int)
theorem countP_one {p p' : Int → Bool} {m : Int} : ∀ {M : List Int}, M.Pairwise (· < ·) → m ∈ M → p m = false → p' m = true → (∀ x ∈ M, x ≠ m → p' x = p x) → M.countP p' = M.countP p + 1
  | [], _, hm, _, _, _ => by cases hm
  | a :: M, hr, hm, h1, h2, h3 => by
    obtain ⟨ha, hr'⟩ := List.pairwise_cons.1 hr
    rw [List.countP_cons, List.countP_cons]
    rcases List.mem_cons.1 hm with rfl | hm
    · have : M.countP p' = M.countP p := List.countP_congr fun x hx => by rw [h3 x (.tail _ hx) (by have := ha x hx; omega)]
      rw [this, h1, h2]
      simp
    · have := countP_one hr' hm h1 h2 (fun x hx hne => h3 x (.tail _ hx) hne)
      rw [this, h3 a (.head _) (by have := ha m hm; omega)]
      omega
structure KInv (parts : Int) (M : List Int) (s : Sk) (p : Nat) : Prop where
  cnt : ∀ x ∈ M, s.C x = tm s.l x
  zer : ∀ j (hj : j < s.l.length), p ≤ j → s.l[j] = 0
  abv : aboveN s.l M (baseI parts M) + s.big = bigI parts M
  le : ∀ x ∈ M, tm s.l x ≤ baseI parts M + 1
theorem KInv.all {parts : Int} {M old : List Int} (hp : ¬ badParts parts) (hr : M.Pairwise (· < ·)) (hl : M.length ≤ 1000) (hM : ∀ x ∈ M, -9223372036854775808 ≤ x ∧ x ≤ 9223372036854775807) (h0 : ∀ x ∈ M, 0 < x) : ∀ p, p ≤ parts.toNat → KInv parts M (keepsL parts M old p) p
  | 0, _ => by
    have hn := share_nums (M := M) hp
    have hz : ∀ x ∈ M, tm (List.replicate parts.toNat 0) x = 0 := fun x hx => by
      have := h0 x hx
      unfold tm
      rw [List.count_replicate]
      simp
      intro h; omega
    refine ⟨fun x hx => (hz x hx).symm, fun j hj _ => ?_, ?_, fun x hx => ?_⟩
    · simp [keepsL]
    · have : aboveN (List.replicate parts.toNat 0) M (baseI parts M) = 0 := by
        unfold aboveN
        rw [List.countP_eq_zero.2 fun x hx => by
          have := hz x hx
          simp only [decide_eq_true_eq]
          omega]
        rfl
      show aboveN (List.replicate parts.toNat 0) M (baseI parts M) + bigI parts M = _
      omega
    · have := hz x hx
      show tm (List.replicate parts.toNat 0) x ≤ _
      omega
  | p + 1, hpp => by
    have ih := KInv.all (parts := parts) (M := M) (old := old) hp hr hl hM h0 p (by omega)
    have hp64 : parts.toNat ≤ 64 := by unfold badParts at hp; omega
    obtain ⟨hok, _, hll, _⟩ := keepsL_ok (parts := parts) (M := M) (old := old) hp hr hl hM p (by omega)
    unfold keepsL
    simp only
    generalize keepsL parts M old p = s at *
    generalize old[p]! = m at *
    have hlt : p < s.l.length := by omega
    have hz := ih.zer p hlt (Nat.le_refl _)
    split
    · rename_i hy
      have hm0 := h0 m hy.1
      have hset : ∀ x ∈ M, tm (s.l.set p m) x = tm s.l x + (if m = x then 1 else 0) := fun x hx => by
        have := h0 x hx
        rw [tm_set _ _ hlt, if_neg (by omega)]
        omega
      have hcm := ih.cnt m hy.1
      refine ⟨fun x hx => ?_, fun j hj hpj => ?_, ?_, fun x hx => ?_⟩
      · show upC s.C m x = tm (s.l.set p m) x
        rw [hset x hx]
        have := ih.cnt x hx
        simp only [upC]
        by_cases e : x = m
        · rw [if_pos e, if_pos e.symm, ← e]; omega
        · rw [if_neg e, if_neg (fun h => e h.symm)]; omega
      · show (s.l.set p m)[j] = 0
        rw [List.getElem_set, if_neg (by omega)]
        exact ih.zer j (by simpa using hj) (by omega)
      · show aboveN (s.l.set p m) M (baseI parts M) + (if s.C m = baseI parts M then s.big - 1 else s.big) = _
        have hab := ih.abv
        by_cases e : s.C m = baseI parts M
        · rw [if_pos e]
          have : M.countP (fun x => decide (baseI parts M < tm (s.l.set p m) x)) = M.countP (fun x => decide (baseI parts M < tm s.l x)) + 1 :=
            countP_one hr hy.1 (by simp; omega) (by rw [hset m hy.1, if_pos rfl]; simp; omega) (fun x hx hne => by rw [hset x hx, if_neg (fun h => hne h.symm)]; simp)
          unfold aboveN at *
          omega
        · rw [if_neg e]
          have hlt2 : s.C m < baseI parts M := by have := hy.2; omega
          have : M.countP (fun x => decide (baseI parts M < tm (s.l.set p m) x)) = M.countP (fun x => decide (baseI parts M < tm s.l x)) :=
            List.countP_congr fun x hx => by
              rw [hset x hx]
              by_cases e2 : m = x
              · subst e2; rw [if_pos rfl]; simp; omega
              · rw [if_neg e2]; simp
          unfold aboveN at *
          omega
      · show tm (s.l.set p m) x ≤ _
        rw [hset x hx]
        have := ih.le x hx
        have := hok.big0
        have := hy.2
        by_cases e2 : m = x
        · subst e2; rw [if_pos rfl]; omega
        · rw [if_neg e2]; omega
    · exact ⟨ih.cnt, fun j hj hpj => ih.zer j hj (by omega), ih.abv, ih.le⟩
theorem may_iff {parts : Int} {M : List Int} {s : Sk} {p : Nat} {m : Int} (h : KInv parts M s p) (hm : m ∈ M) (hb : 0 ≤ s.big) : mayI M (baseI parts M) s.big s.C m ↔ (tm s.l m < baseI parts M ∨ (tm s.l m = baseI parts M ∧ aboveN s.l M (baseI parts M) < bigI parts M)) := by
  have h1 := h.cnt m hm
  have h2 := h.abv
  unfold mayI
  rw [h1]
  constructor
  · rintro ⟨_, h | ⟨h, h'⟩⟩
    · exact .inl h
    · exact .inr ⟨h, by omega⟩
  · rintro (h | ⟨h, h'⟩)
    · exact ⟨hm, .inl h⟩
    · exact ⟨hm, .inr ⟨h, by omega⟩⟩
theorem fewest_congr {C D : Int → Int} : ∀ (l : List Int) (m : Int), (C m = D m) → (∀ x ∈ l, C x = D x) → fewest C m l = fewest D m l
  | [], m, _, _ => rfl
  | a :: l, m, h1, h2 => by
    have e : (if C a - C m < 0 then a else m) = (if D a - D m < 0 then a else m) := by rw [h1, h2 a (.head _)]
    unfold fewest
    rw [e]
    refine fewest_congr l _ ?_ (fun x hx => h2 x (.tail _ hx))
    split
    · exact h2 a (.head _)
    · exact h1
theorem fills_cnt {M : List Int} {s0 : Sk} (hM0 : 0 < M.length) (h0 : ∀ x ∈ M, 0 < x) (hc : ∀ x ∈ M, s0.C x = tm s0.l x) : ∀ p, p ≤ s0.l.length → (fillsL M s0 p).l.length = s0.l.length ∧ ∀ x ∈ M, (fillsL M s0 p).C x = tm (fillsL M s0 p).l x
  | 0, _ => ⟨rfl, hc⟩
  | p + 1, hp => by
    obtain ⟨h1, h2⟩ := fills_cnt hM0 h0 hc p (by omega)
    unfold fillsL
    simp only
    generalize fillsL M s0 p = s at *
    have hlt : p < s.l.length := by omega
    rw [getElem!_pos _ p hlt]
    have hf := fewest_in (C := s.C) hM0
    generalize fewest s.C M[0]! (M.drop 1) = m at *
    split
    · rename_i hz
      refine ⟨by simp [h1], fun x hx => ?_⟩
      have := h0 x hx
      show upC s.C m x = tm (s.l.set p m) x
      rw [tm_set _ _ hlt, if_neg (by omega)]
      have := h2 x hx
      simp only [upC]
      by_cases e : x = m
      · rw [if_pos e, if_pos e.symm, ← e]; omega
      · rw [if_neg e, if_neg (fun h => e h.symm)]; omega
    · exact ⟨h1, h2⟩
theorem above_take {l M : List Int} {n : Int} {i : Nat} (hi : i < M.length) : aboveN l (M.take (i + 1)) n = if n < tm l M[i] then aboveN l (M.take i) n + 1 else aboveN l (M.take i) n := by
  unfold aboveN
  rw [List.take_succ_eq_append_getElem hi, List.countP_append, List.countP_singleton]
  by_cases h : n < tm l M[i]
  · rw [if_pos h, if_pos (by simpa using h)]; rfl
  · rw [if_neg h, if_neg (by simpa using h)]; rfl
theorem above_ret (A B : Option Addr) (c d : Nat) (l M : List Int) (n : Int) (w : World) (hr : Rd w 1 A l.length (ints l)) (hm : Rd w 1 B M.length (ints M)) (hl : l.length ≤ 1000000) (hM : M.length ≤ 1000000) :
    Ret Try.prog 103 #[.slice A l.length c, .slice B M.length d, .int .i64 n] w fun v w' => v = .int .i64 (aboveN l M n) ∧ w' = w := by
  refine s103 _ _ _ ?_
  unfold m103
  unfold m103_0
  unfold m103_1
  unfold m103_2
  unfold m103_5
  refine loop_in (fun s w' => ∃ i : Nat, s = (.int .i64 (aboveN l (M.take i) n), .int .i64 i) ∧ i ≤ M.length ∧ w' = w) (fun s _ => M.length - (intOf s.2).toNat) ⟨0, by simp [aboveN], by omega, rfl⟩ ?_
  rintro s w' ⟨i, rfl, hi, rfl⟩
  unfold m103_6
  refine builtin_ok (len28 _) ?_
  refine valP_ok (lss_ok _ _ _ _ _ _ _) ?_
  unfold m103_10
  refine cond_split (fun h => ?_) (fun h => ?_)
  · have hlt : i < M.length := by omega
    obtain ⟨g, o, rfl⟩ := hm.some_ (by omega) (by omega)
    have hc := hm.cell_ (ints_get hlt)
    have hs := above_take (l := l) (n := n) hlt
    have hcl : aboveN l (M.take i) n ≤ 1000000 := by
      have := List.countP_le_length (p := fun x => decide (n < tm l x)) (l := M.take i)
      rw [List.length_take] at this
      unfold aboveN
      omega
    have hc0 : 0 ≤ aboveN l (M.take i) n := by unfold aboveN; omega
    unfold m103_7
    first | refine valP_ok (ixz28 (by first | assumption | omega) _) ?_ | refine valP_ok (ix28 (by first | assumption | omega) _) ?_
    first | refine valP_ok (ld3 (hS.cell 0 rfl rfl)) ?_ | refine valP_ok (ld3 (hS.cell 1 rfl rfl)) ?_ | refine valP_ok (ld3 (hS.cell 2 rfl rfl)) ?_ | refine valP_ok (ld3 (hS.cell 3 rfl rfl)) ?_ | refine valP_ok (ld3 (hS.cell 4 rfl rfl)) ?_ | refine valP_ok (ld3 (by assumption)) ?_
    refine callR (by kernel_rfl) (count_ret A c l M[i] _ hr hl) ?_
    rintro v w ⟨rfl, rfl⟩
    refine valP_ok (gtr_ok _ _ _ _ _ _ _) ?_
    unfold m103_9
    refine cond_split (fun hk => ?_) (fun hk => ?_)
    · rw [if_pos hk] at hs
      refine valP_ok (add_ok _ _ _ (by omega) (by omega) _) ?_
      unfold m103_8
      refine valP_ok (add_ok _ _ _ (by omega) (by omega) _) ?_
      exact ⟨⟨i + 1, by rw [hs]; rfl, by omega, rfl⟩, by simp [intOf]; omega⟩
    · rw [if_neg hk] at hs
      unfold m103_8
      refine valP_ok (add_ok _ _ _ (by omega) (by omega) _) ?_
      exact ⟨⟨i + 1, by rw [hs]; rfl, by omega, rfl⟩, by simp [intOf]; omega⟩
  · unfold m103_3 m103_4
    exact ⟨by rw [List.take_of_length_le (by omega)], rfl⟩
theorem rkeep_leaf {w0 w : World} {F : List Nat} {L : List Res} {R : Value → World → Prop} {K : Value → World → Prop} {B : Option Addr} {g c d p : Nat} {mv : Value} {parts least : Int} {l old : List Int} {t : Bool} (hp : p < l.length) (hl64 : l.length ≤ 64) (hlt : p < old.length) (hO : Bes w0 F L 1 B old.length (ints old))
    (hS : St w0 F w (irow (.slice (some ⟨g, 0, none⟩) l.length c) l :: L))
    (h1 : t = true → ∀ w, St w0 F w (irow (.slice (some ⟨g, 0, none⟩) (l.set p old[p]).length c) (l.set p old[p]) :: L) → K (.int .i64 ((p + 1 : Nat) : Int)) w)
    (h2 : t = false → ∀ w, St w0 F w (irow (.slice (some ⟨g, 0, none⟩) l.length c) l :: L) → K (.int .i64 ((p + 1 : Nat) : Int)) w) :
    m89_32 R K (.int .i64 parts) (.slice B old.length d) mv (.slice (some ⟨g, 0, none⟩) l.length c) (.int .i64 least) (.int .i64 p) (.bool t) w := by
  unfold m89_32
  refine cond_bsplit (fun h => ?_) (fun h => ?_)
  · have hr := hO.rd1 hS
    obtain ⟨g2, o, rfl⟩ := hr.some_ (by omega) (by omega)
    have hc := hr.cell_ (ints_get hlt)
    refine valP_ok (ix28 hlt _) ?_
    first | refine valP_ok (ld3 (hS.cell 0 rfl rfl)) ?_ | refine valP_ok (ld3 (hS.cell 1 rfl rfl)) ?_ | refine valP_ok (ld3 (hS.cell 2 rfl rfl)) ?_ | refine valP_ok (ld3 (hS.cell 3 rfl rfl)) ?_ | refine valP_ok (ld3 (hS.cell 4 rfl rfl)) ?_ | refine valP_ok (ld3 (by assumption)) ?_
    refine valP_ok (ixz28 hp _) ?_
    refine set_irow 0 hS rfl hp ?_
    intro w hS
    simp only [List.set_cons_zero] at hS
    unfold m89_29
    refine valP_ok (add_ok _ _ _ (by omega) (by omega) _) ?_
    exact h1 h _ hS
  · unfold m89_29
    refine valP_ok (add_ok _ _ _ (by omega) (by omega) _) ?_
    exact h2 h _ hS
theorem rsticky_ret {w0 w : World} {F : List Nat} {L : List Res} {A B : Option Addr} {c d : Nat} {zs old : List Int} {parts : Int} (hS : St w0 F w L) (hI : Bes w0 F L 1 A zs.length (ints zs)) (hO : Bes w0 F L 1 B old.length (ints old)) (hz : zs.length ≤ 1000)
    (hzb : ∀ x ∈ zs, -9223372036854775808 ≤ x ∧ x ≤ 9223372036854775807) :
    Ret Try.prog 89 #[.int .i64 parts, .slice A zs.length c, .slice B old.length d] w fun v w' => if badParts parts then v = .tuple #[.slice none 0 0, .int .i64 1] ∧ St w0 F w' L
      else ∃ A' c', v = .tuple #[.slice A' (stickyL parts (membersL zs) old).length c', .int .i64 0] ∧ St w0 F w' (irow (.slice A' (stickyL parts (membersL zs) old).length c') (stickyL parts (membersL zs) old) :: L) := by
  refine s89 _ _ _ ?_
  unfold m89
  unfold m89_0
  unfold m89_1
  refine valP_ok (lss_ok _ _ _ _ _ _ _) ?_
  have hbad : ∀ w, St w0 F w L → badParts parts → ∀ R, (R (.tuple #[.slice none 0 0, .int .i64 1]) w) → m89_42 R (.int .i64 parts) (.slice A zs.length c) (.slice B old.length d) (.bool true) w := fun w hS hb R hR => by
    unfold m89_42
    refine cond_t rfl ?_
    unfold m89_43
    exact hR
  by_cases h1 : parts < 1
  · refine cond_dt h1 ?_
    first | refine pick_dt (by first | assumption | omega) ?_ | refine pick_df (by first | assumption | omega) ?_ | refine pick_t (by first | rfl | assumption) ?_ | refine pick_f (by first | rfl | assumption) ?_ | refine pick_dt rfl ?_ | refine pick_df (not_not_intro rfl) ?_
    refine hbad _ hS (.inl h1) _ ?_
    show ite _ _ _
    rw [if_pos (.inl h1)]
    exact ⟨rfl, hS⟩
  refine cond_df h1 ?_
  refine valP_ok (gtr_ok _ _ _ _ _ _ _) ?_
  first | refine pick_dt (by first | assumption | omega) ?_ | refine pick_df (by first | assumption | omega) ?_ | refine pick_t (by first | rfl | assumption) ?_ | refine pick_f (by first | rfl | assumption) ?_ | refine pick_dt rfl ?_ | refine pick_df (not_not_intro rfl) ?_
  by_cases h2 : 64 < parts
  · rw [decide_eq_true h2]
    refine hbad _ hS (.inr h2) _ ?_
    show ite _ _ _
    rw [if_pos (.inr h2)]
    exact ⟨rfl, hS⟩
  have hnb : ¬ badParts parts := by unfold badParts; omega
  unfold m89_42
  refine cond_df h2 ?_
  unfold m89_2
  refine callR (by kernel_rfl) (members_ret hz hS hI) ?_
  rintro v w ⟨A1, c1, rfl, hS⟩
  have hspec := membersL_spec zs
  have hMl : (membersL zs).length ≤ 1000 := by have := membersL_len zs; omega
  have hMb : ∀ x ∈ membersL zs, -9223372036854775808 ≤ x ∧ x ≤ 9223372036854775807 := fun x hx => hzb x ((hspec.2 x).1 hx).1
  have hM1 : ∀ x ∈ membersL zs, 0 < x := fun x hx => ((hspec.2 x).1 hx).2
  have hrise := hspec.1
  clear hspec
  generalize membersL zs = M at *
  have hS := hS.row_nil 3 1
  unfold m89_3
  unfold m89_4
  unfold m89_37
  refine loop_in (fun s w' => ∃ i : Nat, ∃ A' c', s = (.slice A' (List.replicate i (0 : Int)).length c', .int .i64 i) ∧ i ≤ parts.toNat ∧ St w0 F w' (irow (.slice A' (List.replicate i (0 : Int)).length c') (List.replicate i 0) :: irow (.slice A1 M.length c1) M :: L))
    (fun s _ => parts.toNat - (intOf s.2).toNat) ⟨0, none, 0, rfl, by omega, hS⟩ ?_
  clear hS
  rintro s w ⟨i, A2, c2, rfl, hi, hS⟩
  unfold m89_38
  refine valP_ok (lss_ok _ _ _ _ _ _ _) ?_
  unfold m89_41
  refine cond_split (fun h => ?_) (fun h => ?_)
  · unfold m89_39
    refine newslice_ok (bs28_1 rfl _) hS ?_
    intro b31 w hS
    have e2 : List.replicate i (0 : Int) ++ [0] = List.replicate (i + 1) 0 := by rw [List.replicate_succ']
    refine append_one 0 (by simp; omega) hS rfl ?_
    intro A' c' w hS
    simp only [List.set_cons_zero] at hS
    rw [e2] at hS ⊢
    unfold m89_40
    refine valP_ok (add_ok _ _ _ (by omega) (by omega) _) ?_
    exact ⟨⟨i + 1, A', c', rfl, by omega, hS⟩, by simp [intOf]; omega⟩
  have hi2 : i = parts.toNat := by omega
  subst hi2
  clear h hi
  unfold m89_5
  refine builtin_ok (len28 _) ?_
  refine valP_ok (eq3 _ _ _ _ _) ?_
  unfold m89_35
  by_cases hM0 : M.length = 0
  · refine cond_dt (by omega) ?_
    unfold m89_36
    show ite _ _ _
    rw [if_neg hnb]
    have hS := St_sub hS (.cons_cons _ (.cons _ (.refl L)))
    unfold stickyL
    rw [if_pos hM0]
    exact ⟨_, _, rfl, hS⟩
  refine cond_df (by omega) ?_
  have eb : baseI parts M = parts / M.length := by unfold baseI; rw [if_neg hM0]
  have eg : bigI parts M = parts % M.length := by unfold bigI; rw [if_neg hM0]
  unfold m89_6
  refine builtin_ok (len28 _) ?_
  refine valP_ok (quo_ok _ _ _ (by omega) (by omega) (by omega) _) ?_
  rw [← eb]
  obtain ⟨g, rfl⟩ := hS.row_ptr 0 rfl (by simp; omega)
  have hKok := fun p hp => keepsL_ok (parts := parts) (M := M) (old := old) hnb hrise hMl hMb p hp
  have hKi := fun p hp => KInv.all (parts := parts) (M := M) (old := old) hnb hrise hMl hMb hM1 p hp
  unfold m89_7
  unfold m89_26
  refine loop_in (fun s w' => ∃ p : Nat, s = .int .i64 p ∧ p ≤ min parts.toNat old.length ∧
      St w0 F w' (irow (.slice (some ⟨g, 0, none⟩) (keepsL parts M old p).l.length c2) (keepsL parts M old p).l :: irow (.slice A1 M.length c1) M :: L))
    (fun s _ => parts.toNat - (intOf s).toNat) ⟨0, rfl, by omega, hS⟩ ?_
  clear hS
  rintro s w ⟨p, rfl, hpn, hS⟩
  obtain ⟨hok, hcp, hll, hlm⟩ := hKok p (by omega)
  have hki := hKi p (by omega)
  have hlr : (List.replicate parts.toNat (0 : Int)).length = (keepsL parts M old p).l.length := by simp; omega
  rw [hlr]
  have hcond : ∀ R K w, ((p < parts.toNat ∧ p < old.length) → m89_28 R K (.int .i64 parts) (.slice B old.length d) (.slice A1 M.length c1) (.slice (some ⟨g, 0, none⟩) (keepsL parts M old p).l.length c2) (.int .i64 (baseI parts M)) (.int .i64 p) w) →
      (¬ (p < parts.toNat ∧ p < old.length) → m89_8 R (.int .i64 parts) (.slice A1 M.length c1) (.slice (some ⟨g, 0, none⟩) (keepsL parts M old p).l.length c2) w) →
      m89_27 R K (.int .i64 parts) (.slice B old.length d) (.slice A1 M.length c1) (.slice (some ⟨g, 0, none⟩) (keepsL parts M old p).l.length c2) (.int .i64 (baseI parts M)) (.int .i64 p) w := fun R K w hy hn => by
    unfold m89_27
    refine valP_ok (lss_ok _ _ _ _ _ _ _) ?_
    refine cond_split (fun ha => ?_) (fun ha => ?_)
    · refine builtin_ok (len28 _) ?_
      refine valP_ok (lss_ok _ _ _ _ _ _ _) ?_
      first | refine pick_dt (by first | assumption | omega) ?_ | refine pick_df (by first | assumption | omega) ?_ | refine pick_t (by first | rfl | assumption) ?_ | refine pick_f (by first | rfl | assumption) ?_ | refine pick_dt rfl ?_ | refine pick_df (not_not_intro rfl) ?_
      unfold m89_34
      refine cond_split (fun hb => ?_) (fun hb => ?_)
      · exact hy ⟨by omega, by omega⟩
      · exact hn (fun h => by omega)
    · first | refine pick_dt (by first | assumption | omega) ?_ | refine pick_df (by first | assumption | omega) ?_ | refine pick_t (by first | rfl | assumption) ?_ | refine pick_f (by first | rfl | assumption) ?_ | refine pick_dt rfl ?_ | refine pick_df (not_not_intro rfl) ?_
      unfold m89_34
      refine cond_f rfl ?_
      exact hn (fun h => by omega)
  refine hcond _ _ _ (fun hy => ?_) (fun hn => ?_)
  · obtain ⟨hpp, hlt⟩ := hy
    have hO' : Bes w0 F (irow (.slice A1 M.length c1) M :: L) 1 B old.length (ints old) := hO.mono fun r hr => .tail _ hr
    have hstep : keepsL parts M old (p + 1) = (let s := keepsL parts M old p
      if mayI M (baseI parts M) s.big s.C old[p] then ⟨if s.C old[p] = baseI parts M then s.big - 1 else s.big, upC s.C old[p], s.l.set p old[p]⟩ else s) := by
      show (let s := keepsL parts M old p
        if mayI M (baseI parts M) s.big s.C old[p]! then _ else _) = _
      rw [getElem!_pos old p hlt]
    simp only at hstep
    clear hKok hKi hcond
    have hmay := fun (h : old[p]'hlt ∈ M) => may_iff hki h hok.big0.1
    generalize keepsL parts M old p = s at *
    have hr := hO'.rd1 hS
    obtain ⟨g2, o, rfl⟩ := hr.some_ (by omega) (by omega)
    have hc := hr.cell_ (ints_get hlt)
    unfold m89_28
    refine valP_ok (ix28 hlt _) ?_
    first | refine valP_ok (ld3 (hS.cell 0 rfl rfl)) ?_ | refine valP_ok (ld3 (hS.cell 1 rfl rfl)) ?_ | refine valP_ok (ld3 (hS.cell 2 rfl rfl)) ?_ | refine valP_ok (ld3 (hS.cell 3 rfl rfl)) ?_ | refine valP_ok (ld3 (hS.cell 4 rfl rfl)) ?_ | refine valP_ok (ld3 (by assumption)) ?_
    refine callR (by kernel_rfl) (has_ret A1 c1 M old[p] _ (hS.row_rd 1 rfl) (by omega)) ?_
    rintro v w ⟨rfl, rfl⟩
    first | refine valP_ok (not_ok _ _) ?_ | refine valP_ok (notb_ok _ _) ?_
    unfold m89_33
    refine cond_split (fun hmem => ?_) (fun hmem => ?_)
    · have hno : ¬ mayI M (baseI parts M) s.big s.C old[p] := fun h => hmem h.1
      rw [if_neg hno] at hstep
      unfold m89_29
      refine valP_ok (add_ok _ _ _ (by omega) (by omega) _) ?_
      exact ⟨⟨p + 1, rfl, by omega, by rw [hstep]; exact hS⟩, by simp [intOf]; omega⟩
    · have hmem := Decidable.not_not.1 hmem
      have hmay := hmay hmem
      unfold m89_30
      refine valP_ok (ix28 hlt _) ?_
      first | refine valP_ok (ld3 (hS.cell 0 rfl rfl)) ?_ | refine valP_ok (ld3 (hS.cell 1 rfl rfl)) ?_ | refine valP_ok (ld3 (hS.cell 2 rfl rfl)) ?_ | refine valP_ok (ld3 (hS.cell 3 rfl rfl)) ?_ | refine valP_ok (ld3 (hS.cell 4 rfl rfl)) ?_ | refine valP_ok (ld3 (by assumption)) ?_
      refine callR (by kernel_rfl) (count_ret _ c2 s.l old[p] _ (hS.row_rd 0 rfl) (by omega)) ?_
      rintro v w ⟨rfl, rfl⟩
      have fin : ∀ (t : Bool) (w : World) R K, (t = true ↔ mayI M (baseI parts M) s.big s.C old[p]) → St w0 F w (irow (.slice (some ⟨g, 0, none⟩) s.l.length c2) s.l :: irow (.slice A1 M.length c1) M :: L) →
          (∀ w, St w0 F w (irow (.slice (some ⟨g, 0, none⟩) (keepsL parts M old (p + 1)).l.length c2) (keepsL parts M old (p + 1)).l :: irow (.slice A1 M.length c1) M :: L) → K (.int .i64 ((p + 1 : Nat) : Int)) w) →
          m89_32 R K (.int .i64 parts) (.slice (some ⟨g2, o, none⟩) old.length d) (.slice A1 M.length c1) (.slice (some ⟨g, 0, none⟩) s.l.length c2) (.int .i64 (baseI parts M)) (.int .i64 p) (.bool t) w := fun t w R K ht hS hK => by
        refine rkeep_leaf (by omega) (by omega) hlt hO' hS (fun h w hS => hK w ?_) (fun h w hS => hK w ?_)
        · rw [hstep, if_pos (ht.1 h)]; exact hS
        · rw [hstep, if_neg (fun hh => by rw [ht.2 hh] at h; cases h)]; exact hS
      have hfin : ∀ (t : Bool) (w : World), (t = true ↔ (tm s.l old[p] < baseI parts M ∨ (tm s.l old[p] = baseI parts M ∧ aboveN s.l M (baseI parts M) < bigI parts M))) → (t = true ↔ mayI M (baseI parts M) s.big s.C old[p]) := fun t w h => h.trans hmay.symm
      unfold m89_31
      refine drawn_ok hS ?_
      intro w hS
      refine held_St [] hS (by simp) ?_
      refine valJ_ok (lss_ok _ _ _ _ _ _) ?_
      refine cond_split (fun ha => ?_) (fun ha => ?_)
      · first | refine pick_dt (by first | assumption | omega) ?_ | refine pick_df (by first | assumption | omega) ?_ | refine pick_t (by first | rfl | assumption) ?_ | refine pick_f (by first | rfl | assumption) ?_ | refine pick_dt rfl ?_ | refine pick_df (not_not_intro rfl) ?_
        exact fin _ _ _ _ (hfin _ w (by simp; omega)) hS (fun w hS => ⟨⟨p + 1, rfl, by omega, hS⟩, by simp [intOf]; omega⟩)
      · refine valJ_ok (eq3 _ _ _ _) ?_
        refine cond_split (fun he => ?_) (fun he => ?_)
        · refine builtinJ_ok (len28) ?_
          refine valJ_ok (rem_ok _ _ _ (by omega) (by omega) (by omega)) ?_
          refine callR (by kernel_rfl) (above_ret _ _ c2 c1 s.l M (baseI parts M) _ (hS.row_rd 0 rfl) (hS.row_rd 1 rfl) (by omega) (by omega)) ?_
          rintro v w ⟨rfl, rfl⟩
          refine stay_St hS (by simp) ?_
          refine valJ_ok (lss_ok _ _ _ _ _ _) ?_
          refine pick_dt he ?_
          refine pick_df ha ?_
          exact fin _ _ _ _ (hfin _ w (by rw [← eg]; simp; omega)) hS (fun w hS => ⟨⟨p + 1, rfl, by omega, hS⟩, by simp [intOf]; omega⟩)
        · first | refine pick_dt (by first | assumption | omega) ?_ | refine pick_df (by first | assumption | omega) ?_ | refine pick_t (by first | rfl | assumption) ?_ | refine pick_f (by first | rfl | assumption) ?_ | refine pick_dt rfl ?_ | refine pick_df (not_not_intro rfl) ?_
          first | refine pick_dt (by first | assumption | omega) ?_ | refine pick_df (by first | assumption | omega) ?_ | refine pick_t (by first | rfl | assumption) ?_ | refine pick_f (by first | rfl | assumption) ?_ | refine pick_dt rfl ?_ | refine pick_df (not_not_intro rfl) ?_
          exact fin _ _ _ _ (hfin _ w (by simp; omega)) hS (fun w hS => ⟨⟨p + 1, rfl, by omega, hS⟩, by simp [intOf]; omega⟩)
  · have hpe : p = min parts.toNat old.length := by omega
    have hst : stickyL parts M old = (fillsL M (keepsL parts M old p) parts.toNat).l := by unfold stickyL; rw [if_neg hM0, ← hpe]
    have hFok := fun q hq => fillsL_ok (n := parts.toNat) (q := p) (base := baseI parts M) (by omega : 0 < M.length) (by omega) ⟨hok, hcp, hll, hlm⟩ q hq
    have hFc := fun q hq => fills_cnt (M := M) (s0 := keepsL parts M old p) (by omega) hM1 hki.cnt q hq
    rw [hll] at hFc
    clear hKok hKi hcond
    generalize keepsL parts M old p = s0 at *
    unfold m89_8
    unfold m89_11
    refine loop_in (fun s w' => ∃ q : Nat, s = .int .i64 q ∧ q ≤ parts.toNat ∧
        St w0 F w' (irow (.slice (some ⟨g, 0, none⟩) (fillsL M s0 q).l.length c2) (fillsL M s0 q).l :: irow (.slice A1 M.length c1) M :: L))
      (fun s _ => parts.toNat - (intOf s).toNat) ⟨0, rfl, by omega, hS⟩ ?_
    clear hS
    rintro s w ⟨q, rfl, hq, hS⟩
    obtain ⟨hok, hcp, hll2, hlm⟩ := hFok q (by omega)
    obtain ⟨_, hcnt⟩ := hFc q (by omega)
    have hl2 : s0.l.length = (fillsL M s0 q).l.length := by omega
    rw [hl2]
    unfold m89_12
    refine valP_ok (lss_ok _ _ _ _ _ _ _) ?_
    unfold m89_25
    refine cond_split (fun h => ?_) (fun h => ?_)
    · have hMlt : 0 < M.length := by omega
      have hlt : q < (fillsL M s0 q).l.length := by omega
      have hstep : fillsL M s0 (q + 1) = (let s := fillsL M s0 q
        if s.l[q]'hlt = 0 then ⟨s.big, upC s.C (fewest s.C (M[0]'hMlt) (M.drop 1)), s.l.set q (fewest s.C (M[0]'hMlt) (M.drop 1))⟩ else s) := by
        show (let s := fillsL M s0 q
          if s.l[q]! = 0 then _ else _) = _
        simp only
        rw [getElem!_pos _ q hlt, getElem!_pos M 0 hMlt]
      simp only at hstep
      generalize fillsL M s0 q = s at *
      have hfc : fewest s.C M[0] (M.drop 1) = fewest (tm s.l) M[0] (M.drop 1) := fewest_congr _ _ (hcnt _ (List.getElem_mem hMlt)) (fun x hx => hcnt x (List.mem_of_mem_drop hx))
      rw [hfc] at hstep
      have hc := hS.row_cell 0 rfl (ints_get hlt)
      have hlq := hlm _ (List.getElem_mem hlt)
      unfold m89_13
      refine valP_ok (ixz28 hlt _) ?_
      first | refine valP_ok (ld3 (hS.cell 0 rfl rfl)) ?_ | refine valP_ok (ld3 (hS.cell 1 rfl rfl)) ?_ | refine valP_ok (ld3 (hS.cell 2 rfl rfl)) ?_ | refine valP_ok (ld3 (hS.cell 3 rfl rfl)) ?_ | refine valP_ok (ld3 (hS.cell 4 rfl rfl)) ?_ | refine valP_ok (ld3 (by assumption)) ?_
      refine valP_ok (gtr_ok _ _ _ _ _ _ _) ?_
      unfold m89_24
      refine cond_split (fun hp0 => ?_) (fun hp0 => ?_)
      · rw [if_neg (by omega)] at hstep
        unfold m89_14
        refine valP_ok (add_ok _ _ _ (by omega) (by omega) _) ?_
        exact ⟨⟨q + 1, rfl, by omega, by rw [hstep]; exact hS⟩, by simp [intOf]; omega⟩
      · have hz : s.l[q] = 0 := by
          rcases hlq with h | h
          · exact h
          · have := hM1 _ h; omega
        rw [if_pos hz] at hstep
        obtain ⟨g3, rfl⟩ := hS.row_ptr 1 rfl hMlt
        have hc0 := hS.row_cell 1 rfl (ints_get hMlt)
        unfold m89_15
        refine valP_ok (ixz28 (k := 0) hMlt _) ?_
        first | refine valP_ok (ld3 (hS.cell 0 rfl rfl)) ?_ | refine valP_ok (ld3 (hS.cell 1 rfl rfl)) ?_ | refine valP_ok (ld3 (hS.cell 2 rfl rfl)) ?_ | refine valP_ok (ld3 (hS.cell 3 rfl rfl)) ?_ | refine valP_ok (ld3 (hS.cell 4 rfl rfl)) ?_ | refine valP_ok (ld3 (by assumption)) ?_
        unfold m89_16
        unfold m89_18
        refine loop_in (fun u w' => ∃ k : Nat, u = (.int .i64 (fewest (tm s.l) M[0] ((M.take k).drop 1)), .int .i64 k) ∧ 1 ≤ k ∧ k ≤ M.length ∧ St w0 F w' (irow (.slice (some ⟨g, 0, none⟩) s.l.length c2) s.l :: irow (.slice (some ⟨g3, 0, none⟩) M.length c1) M :: L))
          (fun u _ => M.length - (intOf u.2).toNat) ⟨1, by simp [fewest], by omega, by omega, hS⟩ ?_
        clear hS hc hc0
        rintro u w ⟨k, rfl, hk1, hk, hS⟩
        unfold m89_19
        refine builtin_ok (len28 _) ?_
        refine valP_ok (lss_ok _ _ _ _ _ _ _) ?_
        unfold m89_23
        refine cond_split (fun h => ?_) (fun h => ?_)
        · have hltk : k < M.length := by omega
          have hck := hS.row_cell 1 rfl (ints_get hltk)
          have e : (M.take (k + 1)).drop 1 = (M.take k).drop 1 ++ [M[k]] := by
            rw [List.take_succ_eq_append_getElem hltk, List.drop_append_of_le_length (by rw [List.length_take]; omega)]
          have e2 := fewest_snoc (tm s.l) ((M.take k).drop 1) M[0] M[k]
          rw [← e] at e2
          unfold m89_20
          refine valP_ok (ixz28 hltk _) ?_
          first | refine valP_ok (ld3 (hS.cell 0 rfl rfl)) ?_ | refine valP_ok (ld3 (hS.cell 1 rfl rfl)) ?_ | refine valP_ok (ld3 (hS.cell 2 rfl rfl)) ?_ | refine valP_ok (ld3 (hS.cell 3 rfl rfl)) ?_ | refine valP_ok (ld3 (hS.cell 4 rfl rfl)) ?_ | refine valP_ok (ld3 (by assumption)) ?_
          refine callR (by kernel_rfl) (count_ret _ c2 s.l M[k] _ (hS.row_rd 0 rfl) (by omega)) ?_
          rintro v w ⟨rfl, rfl⟩
          refine callR (by kernel_rfl) (count_ret _ c2 s.l (fewest (tm s.l) M[0] ((M.take k).drop 1)) _ (hS.row_rd 0 rfl) (by omega)) ?_
          rintro v w ⟨rfl, rfl⟩
          refine valP_ok (lss_ok _ _ _ _ _ _ _) ?_
          unfold m89_22
          refine cond_split (fun hless => ?_) (fun hless => ?_)
          · rw [if_pos (by omega)] at e2
            refine valP_ok (ixz28 hltk _) ?_
            first | refine valP_ok (ld3 (hS.cell 0 rfl rfl)) ?_ | refine valP_ok (ld3 (hS.cell 1 rfl rfl)) ?_ | refine valP_ok (ld3 (hS.cell 2 rfl rfl)) ?_ | refine valP_ok (ld3 (hS.cell 3 rfl rfl)) ?_ | refine valP_ok (ld3 (hS.cell 4 rfl rfl)) ?_ | refine valP_ok (ld3 (by assumption)) ?_
            unfold m89_21
            refine valP_ok (add_ok _ _ _ (by omega) (by omega) _) ?_
            exact ⟨⟨k + 1, by rw [e2]; rfl, by omega, by omega, hS⟩, by simp [intOf]; omega⟩
          · rw [if_neg (by omega)] at e2
            unfold m89_21
            refine valP_ok (add_ok _ _ _ (by omega) (by omega) _) ?_
            exact ⟨⟨k + 1, by rw [e2]; rfl, by omega, by omega, hS⟩, by simp [intOf]; omega⟩
        · have : k = M.length := by omega
          subst this
          rw [List.take_length]
          unfold m89_17
          refine valP_ok (ixz28 hlt _) ?_
          refine set_irow 0 hS rfl hlt ?_
          intro w hS
          simp only [List.set_cons_zero] at hS
          unfold m89_14
          refine valP_ok (add_ok _ _ _ (by omega) (by omega) _) ?_
          exact ⟨⟨q + 1, rfl, by omega, by rw [hstep]; exact hS⟩, by simp [intOf]; omega⟩
    · have hqe : q = parts.toNat := by omega
      subst hqe
      unfold m89_9 m89_10
      show ite _ _ _
      rw [if_neg hnb, hst]
      have hS := St_sub hS (.cons_cons _ (.cons _ (.refl L)))
      exact ⟨_, _, rfl, hS⟩
theorem append_any {K : Value → World → Prop} {w0 w : World} {F : List Nat} {L : List Res} {cs : Array Bool} {A A0 : Option Addr} {c c0 : Nat} {l l0 : List Int} (k : Nat) (h0 : l0.length ≤ 100000) (hl : l.length ≤ 100000) (hS : St w0 F w L) (hk : L[k]? = some (irow (.slice A0 l0.length c0) l0)) (hR : Rd w 1 A l.length (ints l)) (hz : A = none → c = 0)
    (h : ∀ A' c' w', St w0 F w' (L.set k (irow (.slice A' (l0 ++ l).length c') (l0 ++ l))) → K (.slice A' (l0 ++ l).length c') w') :
    builtinP Try.prog .append #[28, 28] 28 cs #[.slice A0 l0.length c0, .slice A l.length c] w K := by
  have hlen : (l0 ++ l).length = l0.length + l.length := by simp
  have hints : ints l0 ++ ints l = ints (l0 ++ l) := by simp [ints]
  cases A with
  | none =>
    obtain rfl := hz rfl
    have hl0 : l = [] := by
      rcases Nat.eq_zero_or_pos l.length with h | h
      · exact List.eq_nil_of_length_eq_zero h
      · obtain ⟨g, o, hA⟩ := hR.some_ h (by omega); cases hA
    subst hl0
    have hself : St w0 F w (L.set k (irow (.slice A0 l0.length c0) l0)) := by
      obtain ⟨hlt, he⟩ := List.getElem?_eq_some_iff.1 hk
      rw [← he, List.set_getElem_self]
      exact hS
    rw [List.append_nil] at h
    exact append_none_ok k sl28 hS hk (h _ _ _ hself)
  | some a =>
    refine append_rd k sl28 hS hk hR rfl (fun u hu => ?_) (by unfold maxLen; omega) (by omega) ?_
    · obtain ⟨x, _, rfl⟩ := List.mem_map.1 hu
      rfl
    intro A4 c4 w' hS'
    rw [hints, ← hlen] at hS'
    rw [← hlen]
    exact h _ _ _ hS'
theorem stickyL_len {parts : Int} {M old : List Int} (h : ¬ badParts parts) (hr : M.Pairwise (· < ·)) (hl : M.length ≤ 1000) (hM : ∀ x ∈ M, -9223372036854775808 ≤ x ∧ x ≤ 9223372036854775807) : (stickyL parts M old).length = parts.toNat := by
  unfold stickyL
  split
  · simp
  · have hp : parts.toNat ≤ 64 := by unfold badParts at h; omega
    have hk := keepsL_ok (old := old) h hr hl hM (min parts.toNat old.length) (by omega)
    exact (fillsL_ok (n := parts.toNat) (q := min parts.toNat old.length) (base := baseI parts M) (by omega) (by omega) hk parts.toNat hp).2.2.1
abbrev tot (M : List Int) (f : Int → Int) : Int := (M.map f).sum
theorem tot_cons (a : Int) (M : List Int) (f : Int → Int) : tot (a :: M) f = f a + tot M f := by simp [tot]
theorem sum_ind {a : Int} {f g : Int → Int} : ∀ {M : List Int}, M.Pairwise (· < ·) → (∀ x ∈ M, g x = f x + if a = x then 1 else 0) → tot M g = tot M f + if a ∈ M then 1 else 0
  | [], _, _ => by simp [tot]
  | b :: M, hr, h => by
    obtain ⟨hb, hr'⟩ := List.pairwise_cons.1 hr
    have ih := sum_ind (a := a) (f := f) (g := g) hr' (fun x hx => h x (.tail _ hx))
    rw [tot_cons, tot_cons, h b (.head _), ih]
    by_cases e : a = b
    · have hn : a ∉ M := fun hm => by have := hb a hm; omega
      rw [if_pos e, if_neg hn, if_pos (by rw [e]; exact .head _)]
      omega
    · rw [if_neg e]
      by_cases hm : a ∈ M
      · rw [if_pos hm, if_pos (List.mem_cons_of_mem _ hm)]; omega
      · rw [if_neg hm, if_neg (fun h => (List.mem_cons.1 h).elim e hm)]; omega
theorem tot_tm {M : List Int} (hr : M.Pairwise (· < ·)) (h0 : ∀ x ∈ M, 0 < x) : ∀ l : List Int, (∀ x ∈ l, x = 0 ∨ x ∈ M) → tot M (tm l) + tm l 0 = l.length
  | [], _ => by
    have : tot M (tm []) = 0 := by
      have : ∀ M : List Int, tot M (tm []) = 0 := fun M => by
        induction M with
        | nil => rfl
        | cons a M ih => rw [tot_cons, ih]; rfl
      exact this M
    rw [this]; rfl
  | a :: l, h => by
    have ih := tot_tm hr h0 l (fun x hx => h x (.tail _ hx))
    have hc : ∀ q, tm (a :: l) q = tm l q + if a = q then 1 else 0 := fun q => by
      unfold tm
      rw [List.count_cons]
      by_cases e : a = q <;> simp [e]
    have hs := sum_ind (a := a) (f := tm l) (g := tm (a :: l)) hr (fun x _ => hc x)
    rw [hs, hc 0]
    simp only [List.length_cons]
    rcases h a (.head _) with e | e
    · rw [if_pos e, if_neg (fun hm => by have := h0 a hm; omega)]; omega
    · have := h0 a e
      rw [if_pos e, if_neg (by omega)]; omega
theorem tot_ge {f : Int → Int} {m : Int} : ∀ {M : List Int}, (∀ x ∈ M, m ≤ f x) → m * M.length + (M.countP (fun x => decide (m < f x)) : Nat) ≤ tot M f
  | [], _ => by simp [tot]
  | a :: M, h => by
    have ih := tot_ge (f := f) (m := m) (M := M) (fun x hx => h x (.tail _ hx))
    have ha := h a (.head _)
    rw [tot_cons, List.countP_cons, List.length_cons]
    have e : m * ((M.length + 1 : Nat) : Int) = m * M.length + m := by rw [Int.natCast_add, Int.mul_add]; simp
    by_cases hc : m < f a
    · simp only [hc, decide_true, if_true]; omega
    · simp only [hc, decide_false, Bool.false_eq_true, if_false, Nat.add_zero]; omega
theorem tot_le {f : Int → Int} {m : Int} : ∀ {M : List Int}, (∀ x ∈ M, f x ≤ m + 1) → tot M f ≤ m * M.length + (M.countP (fun x => decide (m < f x)) : Nat) ∧ ((∃ x ∈ M, f x < m) → tot M f < m * M.length + (M.countP (fun x => decide (m < f x)) : Nat))
  | [], _ => by simp [tot]
  | a :: M, h => by
    obtain ⟨i1, i2⟩ := tot_le (f := f) (m := m) (M := M) (fun x hx => h x (.tail _ hx))
    have ha := h a (.head _)
    rw [tot_cons, List.countP_cons, List.length_cons]
    have e : m * ((M.length + 1 : Nat) : Int) = m * M.length + m := by rw [Int.natCast_add, Int.mul_add]; simp
    refine ⟨?_, fun ⟨x, hx, hlt⟩ => ?_⟩
    · by_cases hc : m < f a
      · simp only [hc, decide_true, if_true]; omega
      · simp only [hc, decide_false, Bool.false_eq_true, if_false, Nat.add_zero]; omega
    · rcases List.mem_cons.1 hx with rfl | hx
      · have hc : ¬ m < f x := by omega
        simp only [hc, decide_false, Bool.false_eq_true, if_false, Nat.add_zero]; omega
      · have := i2 ⟨x, hx, hlt⟩
        by_cases hc : m < f a
        · simp only [hc, decide_true, if_true]; omega
        · simp only [hc, decide_false, Bool.false_eq_true, if_false, Nat.add_zero]; omega
theorem fewest_le (C : Int → Int) : ∀ (l : List Int) (m : Int), C (fewest C m l) ≤ C m ∧ ∀ x ∈ l, C (fewest C m l) ≤ C x
  | [], m => ⟨Int.le_refl _, by simp⟩
  | a :: l, m => by
    obtain ⟨h1, h2⟩ := fewest_le C l (if C a - C m < 0 then a else m)
    unfold fewest
    by_cases e : C a - C m < 0
    · rw [if_pos e] at h1 h2 ⊢
      exact ⟨by omega, fun x hx => by rcases List.mem_cons.1 hx with rfl | hx; exact h1; exact h2 x hx⟩
    · rw [if_neg e] at h1 h2 ⊢
      exact ⟨h1, fun x hx => by rcases List.mem_cons.1 hx with rfl | hx; omega; exact h2 x hx⟩
/-- How shares are, when all is fair. -/
structure Fair (parts : Int) (M l : List Int) : Prop where
  len : l.length = parts.toNat
  inM : ∀ x ∈ l, x ∈ M
  lo : ∀ x ∈ M, baseI parts M ≤ tm l x
  hi : ∀ x ∈ M, tm l x ≤ baseI parts M + 1
  abv : aboveN l M (baseI parts M) = bigI parts M
theorem parts_eq {parts : Int} {M : List Int} (hM0 : 0 < M.length) : parts = baseI parts M * M.length + bigI parts M ∧ bigI parts M < M.length := by
  unfold baseI bigI
  rw [if_neg (by omega), if_neg (by omega)]
  have := Int.mul_ediv_add_emod parts (M.length : Int)
  have := Int.emod_lt_of_pos parts (show (0 : Int) < M.length by omega)
  rw [Int.mul_comm (parts / (M.length : Int))]
  omega
theorem fills_fair {parts : Int} {M : List Int} {s0 : Sk} (hM0 : 0 < M.length) (hp : ¬ badParts parts) (hr : M.Pairwise (· < ·)) (h0 : ∀ x ∈ M, 0 < x) (hlen : s0.l.length = parts.toNat) (hm : ∀ x ∈ s0.l, x = 0 ∨ x ∈ M) (hc : ∀ x ∈ M, s0.C x = tm s0.l x)
    (hle : ∀ x ∈ M, tm s0.l x ≤ baseI parts M + 1) (hab : aboveN s0.l M (baseI parts M) ≤ bigI parts M) : ∀ q, q ≤ parts.toNat →
    (fillsL M s0 q).l.length = parts.toNat ∧ (∀ x ∈ (fillsL M s0 q).l, x = 0 ∨ x ∈ M) ∧ (∀ x ∈ M, (fillsL M s0 q).C x = tm (fillsL M s0 q).l x) ∧ (∀ x ∈ M, tm (fillsL M s0 q).l x ≤ baseI parts M + 1) ∧ aboveN (fillsL M s0 q).l M (baseI parts M) ≤ bigI parts M ∧
      ∀ j, j < q → (fillsL M s0 q).l[j]! ≠ 0
  | 0, _ => ⟨hlen, hm, hc, hle, hab, fun j h => absurd h (Nat.not_lt_zero _)⟩
  | q + 1, hq => by
    obtain ⟨i1, i2, i3, i4, i5, i6⟩ := fills_fair hM0 hp hr h0 hlen hm hc hle hab q (by omega)
    have hpe := parts_eq (parts := parts) hM0
    have hp1 : 1 ≤ parts := by unfold badParts at hp; omega
    unfold fillsL
    simp only
    generalize fillsL M s0 q = s at *
    have hlt : q < s.l.length := by omega
    rw [getElem!_pos s.l q hlt]
    split
    · rename_i hz
      have hf := fewest_in (C := s.C) hM0
      have hfl := fewest_le s.C (M.drop 1) M[0]!
      have hmin : ∀ x ∈ M, s.C (fewest s.C M[0]! (M.drop 1)) ≤ s.C x := fun x hx => by
        have e : M = M[0]! :: M.drop 1 := by
          rw [getElem!_pos M 0 hM0]
          have := List.drop_eq_getElem_cons hM0
          rw [List.drop_zero] at this
          exact this
        rw [e] at hx
        rcases List.mem_cons.1 hx with h | h
        · rw [h]; exact hfl.1
        · exact hfl.2 x h
      generalize fewest s.C M[0]! (M.drop 1) = m at *
      have hm0 := h0 m hf
      have hset : ∀ x ∈ M, tm (s.l.set q m) x = tm s.l x + (if m = x then 1 else 0) := fun x hx => by
        have := h0 x hx
        rw [tm_set _ _ hlt, if_neg (by omega)]
        omega
      have hcm := i3 m hf
      have hmin' : ∀ x ∈ M, tm s.l m ≤ tm s.l x := fun x hx => by have := hmin x hx; rw [i3 m hf, i3 x hx] at this; exact this
      have htot := tot_tm hr h0 s.l i2
      have hz1 : 1 ≤ tm s.l 0 := by
        have : 0 < s.l.count 0 := List.count_pos_iff.2 (by rw [← hz]; exact List.getElem_mem hlt)
        unfold tm; omega
      have hmb : tm s.l m ≤ baseI parts M := by
        apply Classical.byContradiction
        intro hn
        have := tot_ge (f := tm s.l) (m := baseI parts M + 1) (M := M) (fun x hx => by have := hmin' x hx; omega)
        rw [Int.add_mul] at this
        omega
      refine ⟨by simp [i1], fun x hx => ?_, fun x hx => ?_, fun x hx => ?_, ?_, fun j hjq => ?_⟩
      · rcases List.mem_or_eq_of_mem_set hx with hx | rfl
        · exact i2 x hx
        · exact .inr hf
      · show upC s.C m x = tm (s.l.set q m) x
        rw [hset x hx]
        have := i3 x hx
        simp only [upC]
        by_cases e : x = m
        · rw [if_pos e, if_pos e.symm, ← e]; omega
        · rw [if_neg e, if_neg (fun h => e h.symm)]; omega
      · show tm (s.l.set q m) x ≤ _
        rw [hset x hx]
        have := i4 x hx
        by_cases e : m = x
        · subst e; rw [if_pos rfl]; omega
        · rw [if_neg e]; omega
      · show aboveN (s.l.set q m) M (baseI parts M) ≤ _
        by_cases e : tm s.l m = baseI parts M
        · have hge := tot_ge (f := tm s.l) (m := baseI parts M) (M := M) (fun x hx => by have := hmin' x hx; omega)
          have : M.countP (fun x => decide (baseI parts M < tm (s.l.set q m) x)) = M.countP (fun x => decide (baseI parts M < tm s.l x)) + 1 :=
            countP_one hr hf (by simp; omega) (by rw [hset m hf, if_pos rfl]; simp; omega) (fun x hx hne => by rw [hset x hx, if_neg (fun h => hne h.symm)]; simp)
          unfold aboveN at *
          omega
        · have : M.countP (fun x => decide (baseI parts M < tm (s.l.set q m) x)) = M.countP (fun x => decide (baseI parts M < tm s.l x)) :=
            List.countP_congr fun x hx => by
              rw [hset x hx]
              by_cases e2 : m = x
              · subst e2; rw [if_pos rfl]; simp; omega
              · rw [if_neg e2]; simp
          unfold aboveN at *
          omega
      · show (s.l.set q m)[j]! ≠ 0
        have hj : j < s.l.length := by omega
        rw [getElem!_pos _ j (by simpa using hj), List.getElem_set]
        by_cases e : q = j
        · rw [if_pos e]; omega
        · rw [if_neg e]
          have := i6 j (by omega)
          rwa [getElem!_pos _ j hj] at this
    · rename_i hz
      refine ⟨i1, i2, i3, i4, i5, fun j hjq => ?_⟩
      by_cases e : j = q
      · subst e; rw [getElem!_pos _ j hlt]; exact hz
      · exact i6 j (by omega)
theorem sticky_fair {parts : Int} {M old : List Int} (hM0 : 0 < M.length) (hp : ¬ badParts parts) (hr : M.Pairwise (· < ·)) (hl : M.length ≤ 1000) (hM : ∀ x ∈ M, -9223372036854775808 ≤ x ∧ x ≤ 9223372036854775807) (h0 : ∀ x ∈ M, 0 < x) : Fair parts M (stickyL parts M old) := by
  have hp64 : parts.toNat ≤ 64 := by unfold badParts at hp; omega
  have hp1 : 1 ≤ parts := by unfold badParts at hp; omega
  have hpe := parts_eq (parts := parts) hM0
  obtain ⟨hok, _, hll, hlm⟩ := keepsL_ok (parts := parts) (M := M) (old := old) hp hr hl hM (min parts.toNat old.length) (by omega)
  have hk := KInv.all (old := old) hp hr hl hM h0 (min parts.toNat old.length) (by omega)
  have hb := hok.big0
  have hka := hk.abv
  obtain ⟨i1, i2, i3, i4, i5, i6⟩ := fills_fair hM0 hp hr h0 hll hlm hk.cnt hk.le (by omega) parts.toNat (Nat.le_refl _)
  have e : stickyL parts M old = (fillsL M (keepsL parts M old (min parts.toNat old.length)) parts.toNat).l := by unfold stickyL; rw [if_neg (by omega)]
  rw [e]
  generalize fillsL M (keepsL parts M old (min parts.toNat old.length)) parts.toNat = s at *
  have hno0 : ∀ x ∈ s.l, x ≠ 0 := fun x hx => by
    obtain ⟨j, hj, rfl⟩ := List.mem_iff_getElem.1 hx
    have := i6 j (by omega)
    rwa [getElem!_pos _ j hj] at this
  have hz : tm s.l 0 = 0 := by
    unfold tm
    rw [List.count_eq_zero.2 (fun h => hno0 0 h rfl)]
    rfl
  have htot := tot_tm hr h0 s.l i2
  obtain ⟨t1, t2⟩ := tot_le (f := tm s.l) (m := baseI parts M) (M := M) i4
  refine ⟨i1, fun x hx => (i2 x hx).resolve_left (hno0 x hx), fun x hx => ?_, i4, ?_⟩
  · apply Classical.byContradiction
    intro hn
    have := t2 ⟨x, hx, by omega⟩
    unfold aboveN at i5
    omega
  · unfold aboveN at *
    omega
theorem countP_lt {p p' : Int → Bool} {m : Int} {M : List Int} (hr : M.Pairwise (· < ·)) (hm : m ∈ M) (h1 : p m = false) (h2 : p' m = true) (h3 : ∀ x ∈ M, p x = true → p' x = true) : M.countP p < M.countP p' := by
  have e := countP_one (p := p) (p' := fun x => p x || decide (x = m)) hr hm h1 (by simp) (fun x _ hne => by simp [hne])
  have : M.countP (fun x => p x || decide (x = m)) ≤ M.countP p' := List.countP_mono_left fun x hx h => by
    simp at h
    rcases h with h | h
    · exact h3 x hx h
    · rw [h]; exact h2
  omega
theorem tm_append (a b : List Int) (x : Int) : tm (a ++ b) x = tm a x + tm b x := by unfold tm; rw [List.count_append]; omega
theorem tm_zeros {n : Nat} {x : Int} (h : 0 < x) : tm (List.replicate n 0) x = 0 := by
  unfold tm
  rw [List.count_replicate]
  simp
  intro h; omega
theorem keeps_all {parts : Int} {M a : List Int} (hp : ¬ badParts parts) (hr : M.Pairwise (· < ·)) (hl : M.length ≤ 1000) (hM : ∀ x ∈ M, -9223372036854775808 ≤ x ∧ x ≤ 9223372036854775807) (h0 : ∀ x ∈ M, 0 < x) (hf : Fair parts M a) : ∀ p, p ≤ parts.toNat → (keepsL parts M a p).l = a.take p ++ List.replicate (parts.toNat - p) 0
  | 0, _ => by simp [keepsL]
  | p + 1, hpp => by
    have ih := keeps_all hp hr hl hM h0 hf p (by omega)
    have hk := KInv.all (old := a) hp hr hl hM h0 p (by omega)
    have hp64 : parts.toNat ≤ 64 := by unfold badParts at hp; omega
    obtain ⟨hok, _, _, _⟩ := keepsL_ok (parts := parts) (M := M) (old := a) hp hr hl hM p (by omega)
    have hlen := hf.len
    have hlt : p < a.length := by omega
    unfold keepsL
    simp only
    rw [getElem!_pos a p hlt]
    generalize keepsL parts M a p = s at *
    have hmem := hf.inM _ (List.getElem_mem hlt)
    have ha : ∀ x, 0 < x → tm s.l x = tm (a.take p) x ∧ tm a x = tm (a.take p) x + (if a[p] = x then 1 else 0) + tm (a.drop (p + 1)) x := fun x hx => by
      refine ⟨by rw [ih, tm_append, tm_zeros hx]; omega, ?_⟩
      have e : a = a.take p ++ (a[p] :: a.drop (p + 1)) := by rw [← List.drop_eq_getElem_cons hlt, List.take_append_drop]
      have e2 : tm a x = tm (a.take p ++ (a[p] :: a.drop (p + 1))) x := congrArg (tm · x) e
      rw [e2, tm_append]
      have : tm (a[p] :: a.drop (p + 1)) x = (if a[p] = x then 1 else 0) + tm (a.drop (p + 1)) x := by
        unfold tm
        rw [List.count_cons]
        by_cases h : a[p] = x <;> simp [h]; omega
      omega
    have etk : a.take (p + 1) = a.take p ++ [a[p]] := List.take_succ_eq_append_getElem hlt
    generalize a[p] = m at *
    have hm0 := h0 m hmem
    have hhi := hf.hi m hmem
    have hnn : ∀ x, 0 ≤ tm (a.drop (p + 1)) x := fun x => by unfold tm; omega
    have hmm := ha m hm0
    rw [if_pos rfl] at hmm
    have hnm := hnn m
    have hy : mayI M (baseI parts M) s.big s.C m := by
      rw [may_iff hk hmem hok.big0.1]
      by_cases e : tm s.l m = baseI parts M
      · refine .inr ⟨e, ?_⟩
        rw [← hf.abv]
        have := countP_lt (p := fun x => decide (baseI parts M < tm s.l x)) (p' := fun x => decide (baseI parts M < tm a x)) hr hmem (by simp; omega) (by simp; omega) (fun x hx h => by
          simp at h ⊢
          obtain ⟨q1, q2⟩ := ha x (h0 x hx)
          have := hnn x
          split at q2 <;> omega)
        unfold aboveN
        omega
      · exact .inl (by omega)
    rw [if_pos hy]
    show s.l.set p m = _
    have hlp : (a.take p).length = p := by rw [List.length_take]; omega
    have ek : parts.toNat - p = (parts.toNat - (p + 1)) + 1 := by omega
    rw [ih, etk, List.set_append_right _ _ (by omega), hlp, Nat.sub_self, ek, List.replicate_succ, List.set_cons_zero, List.append_assoc]
    rfl
theorem fills_id {M : List Int} {s0 : Sk} : ∀ q, (∀ j, j < q → s0.l[j]! ≠ 0) → fillsL M s0 q = s0
  | 0, _ => rfl
  | q + 1, h => by
    unfold fillsL
    simp only
    rw [fills_id q (fun j hj => h j (by omega)), if_neg (h q (by omega))]
theorem sticky_id {parts : Int} {M a : List Int} (hM0 : 0 < M.length) (hp : ¬ badParts parts) (hr : M.Pairwise (· < ·)) (hl : M.length ≤ 1000) (hM : ∀ x ∈ M, -9223372036854775808 ≤ x ∧ x ≤ 9223372036854775807) (h0 : ∀ x ∈ M, 0 < x) (hf : Fair parts M a) : stickyL parts M a = a := by
  have hlen := hf.len
  have hk := keeps_all hp hr hl hM h0 hf parts.toNat (Nat.le_refl _)
  rw [Nat.sub_self, List.replicate_zero, List.append_nil, List.take_of_length_le (by omega)] at hk
  unfold stickyL
  rw [if_neg (by omega), hlen, Nat.min_self, fills_id, hk]
  intro j hj
  rw [hk, getElem!_pos a j (by omega)]
  have := h0 _ (hf.inM _ (List.getElem_mem (show j < a.length by omega)))
  omega

end Go.Proofs.Ytjjmlopmemmobaa.M
