/- The program's Clean. -/
import Derived.Test.YtnhgdngbdoifnaaV9
import Derived.Test.YtnhgdngbdoifnaaMbase0
import Derived.Test.YtnhgdngbdoifnaaMmid0
namespace Go.Proofs.Ytnhgdngbdoifnaa.M
open Go.Proofs.Ytnhgdngbdoifnaa.F Go.RowKit
set_option linter.unusedVariables false
set_option linter.unusedSimpArgs false
set_option maxRecDepth 100000
set_option maxHeartbeats 2000000
attribute [local irreducible] Res.cells Res.row Res.map Res.any World.cell? World.frozen? Instr.fieldAt Instr.loadAt Instr.storeAt Instr.indexAt Instr.lookup Instr.mapUpdate Instr.box Instr.build Instr.buildSlice Instr.extract Instr.alloc Instr.field Instr.index Instr.sliceAt Instr.makeSlice Instr.makeMap Instr.makeFunc binS Op.unary Sem.run
/-- it is ahead of the offset, and about this. -/
def Qual (l : List Gt) (upto : Int) (x : Rc) (j : Nat) : Prop := ∃ h : j < l.length, l[j].off < upto ∧ aboutR l[j].r = some x
open Classical in
noncomputable def lastI (l : List Gt) (upto : Int) (x : Rc) : Nat → Option Nat
  | 0 => none
  | i + 1 => if Qual l upto x i then some i else lastI l upto x i
theorem lastI_some {l : List Gt} {upto : Int} {x : Rc} : ∀ {n j}, lastI l upto x n = some j → j < n ∧ Qual l upto x j ∧ ∀ k, j < k → k < n → ¬ Qual l upto x k
  | 0, j, h => by cases h
  | n + 1, j, h => by
    unfold lastI at h
    split at h
    · obtain rfl := Option.some.inj h
      exact ⟨by omega, by assumption, fun k h1 h2 => by omega⟩
    · rename_i hq
      obtain ⟨h1, h2, h3⟩ := lastI_some h
      refine ⟨by omega, h2, fun k h4 h5 => ?_⟩
      rcases Nat.lt_or_ge k n with g | g
      · exact h3 k h4 g
      · obtain rfl : k = n := by omega
        exact hq
theorem lastI_none {l : List Gt} {upto : Int} {x : Rc} : ∀ {n}, lastI l upto x n = none → ∀ k, k < n → ¬ Qual l upto x k
  | 0, h, k, hk => by omega
  | n + 1, h, k, hk => by
    unfold lastI at h
    split at h
    · cases h
    · rename_i hq
      rcases Nat.lt_or_ge k n with g | g
      · exact lastI_none h k g
      · obtain rfl : k = n := by omega
        exact hq
theorem last_ne {l : List Gt} {upto : Int} {x : Rc} {i : Nat} (hi : i < l.length) (hq : Qual l upto x i) : ¬ ((lastI l upto x l.length).getD 0 = i) ↔ ∃ k, i < k ∧ Qual l upto x k := by
  cases h : lastI l upto x l.length with
  | none => exact absurd hq (lastI_none h i hi)
  | some j =>
    obtain ⟨h1, h2, h3⟩ := lastI_some h
    show ¬ j = i ↔ _
    constructor
    · intro hne
      refine ⟨j, ?_, h2⟩
      rcases Nat.lt_trichotomy j i with g | g | g
      · exact absurd hq (h3 i g hi)
      · exact absurd g hne
      · exact g
    · rintro ⟨k, hk, hqk⟩ rfl
      exact h3 k hk hqk.1 hqk
theorem kind_put2 : kindS (putS 2) = 2 := by
  unfold kindS
  rw [takeS_L, bytesN_putS]
  have h := takeL_put 2 [] (by omega) (by omega)
  rw [List.append_nil] at h
  rw [h]
  rfl
theorem needless_iff {l : List Gt} {upto : Int} {i : Nat} (hi : i < l.length) : Needless l i upto ↔ ∃ x, Qual l upto x i ∧ (¬ ((lastI l upto x l.length).getD 0 = i) ∨ l[i].r.text = putS 2) := by
  constructor
  · rintro ⟨h, h1, h2⟩
    rcases h2 with h2 | ⟨k, hk, h3, h4, h5⟩
    · have hk2 := kind_put2
      rw [← h2] at hk2
      obtain ⟨x, hx⟩ : ∃ x, aboutR l[i].r = some x := by
        unfold aboutR
        rw [hk2]
        exact ⟨_, rfl⟩
      exact ⟨x, ⟨hi, h1, hx⟩, .inr h2⟩
    · obtain ⟨x, hx1, hx2⟩ := (same_about _ _).1 h5
      have hq : Qual l upto x i := ⟨hi, h1, hx1⟩
      exact ⟨x, hq, .inl ((last_ne hi hq).2 ⟨k, h3, hk, h4, hx2⟩)⟩
  · rintro ⟨x, hq, h⟩
    refine ⟨hi, hq.2.1, ?_⟩
    rcases h with h | h
    · obtain ⟨k, h3, hk, h4, h5⟩ := (last_ne hi hq).1 h
      exact .inr ⟨k, hk, h3, h4, (same_about _ _).2 ⟨x, hq.2.2, h5⟩⟩
    · exact .inl h
abbrev mapR (b n : Nat) (M : Value → Option Value) : Res := Res.map Try.prog 46 (plainElem Try.prog 3) b n M
theorem plain3_apart : Elem.apart (plainElem (H := Unit) Try.prog 3) := fun u v d p q h1 h2 => by
  obtain ⟨a, rfl, e1, _⟩ := plainElem_int_inv Try.underlying3 h1
  obtain ⟨b, rfl, e2, _⟩ := plainElem_int_inv Try.underlying3 h2
  simp only [Prod.mk.injEq] at e1 e2
  have := e1.1.symm.trans e2.1
  simp only [DataW.lit.injEq, Lit.int.injEq] at this
  rw [this.2]
def MOk (l : List Gt) (upto : Int) (i : Nat) (M : Value → Option Value) : Prop := ∀ x, RcOk x → M (rv x) = (lastI l upto x i).map fun j => .int .i64 (j : Int)
def GtOk (g : Gt) : Prop := (-9223372036854775808 ≤ g.r.key ∧ g.r.key ≤ 9223372036854775807) ∧ -9223372036854775808 ≤ g.r.time ∧ g.r.time ≤ 9223372036854775807
theorem about_ok {g : Gt} (h : GtOk g) {x : Rc} (hx : aboutR g.r = some x) : RcOk x := by
  unfold aboutR at hx
  split at hx
  · cases hx
  · split at hx
    · obtain rfl := Option.some.inj hx
      refine ⟨?_, ?_, ?_⟩ <;> simp only
      · omega
      · omega
      · show (6 : Nat) ≤ maxLen
        unfold maxLen; omega
    · obtain rfl := Option.some.inj hx
      refine ⟨h.1, h.2, ?_⟩
      show (0 : Nat) ≤ maxLen
      omega
theorem rv_inj {a b : Rc} (h : rv a = rv b) : a = b := by
  obtain ⟨k, t, s⟩ := a
  obtain ⟨k2, t2, s2⟩ := b
  simp only [Value.agg.injEq, Array.mk.injEq, List.cons.injEq, Value.int.injEq, Value.string.injEq, true_and, and_true] at h
  obtain ⟨rfl, rfl, rfl⟩ := h
  rfl
theorem MOk.skip {l : List Gt} {upto : Int} {i : Nat} {M : Value → Option Value} (h : MOk l upto i M) (hn : ∀ x, ¬ Qual l upto x i) : MOk l upto (i + 1) M := fun x hx => by
  rw [lastI, if_neg (hn x)]
  exact h x hx
theorem MOk.put {l : List Gt} {upto : Int} {i : Nat} {M : Value → Option Value} (h : MOk l upto i M) {x : Rc} (hq : Qual l upto x i) : MOk l upto (i + 1) (updV M (rv x) (some (.int .i64 (i : Int)))) := fun y hy => by
  by_cases e : y = x
  · subst e
    rw [updV_same, lastI, if_pos hq]
    rfl
  · rw [updV_other (fun h => e (rv_inj h)), lastI, if_neg (fun h2 => e (Option.some.inj (h2.2.2.symm.trans hq.2.2)))]
    exact h y hy
section
variable {w0 w : World} {F : List Nat} {L : List Res} {l : List Gt} {A : Option Addr} {c : Nat} {upto : Int}
theorem clean_ret (hm : l.length ≤ 100000) (hg : ∀ g ∈ l, GtOk g) (hE : BG w0 F L A l) (hS : St w0 F w L) : Ret Try.prog 7 #[.slice A l.length c, .int .i64 upto] w fun v w' => ∃ A' c', v = .slice A' (cleanN l upto l.length).length c' ∧ St w0 F w' (grow A' c' (cleanN l upto l.length) :: L) := by
  refine s7 _ _ ?_
  unfold m7 m7_0 m7_1
  refine makeMap_ok 46 (plainElem Try.prog 3) hS ?_
  intro b w hS
  unfold m7_2
  refine builtin_ok (len25 _) ?_
  unfold m7_16
  refine loop_in (fun u w' => ∃ (i n : Nat) (M : Value → Option Value), u = .int .i64 (i : Int) ∧ i ≤ l.length ∧ n ≤ i ∧ MOk l upto i M ∧ St w0 F w' (mapR b n M :: L)) (fun u _ => l.length - (intOf u).toNat) ⟨0, 0, _, rfl, by omega, by omega, fun x hx => rfl, hS⟩ ?_
  clear hS
  rintro u w ⟨i, n, M, rfl, hi, hn, hM, hS⟩
  unfold m7_17
  refine valP_ok (lss_ok _ _ _ _ _ _ _) ?_
  unfold m7_18
  refine cond_split (fun h => ?_) (fun h => ?_)
  · have hil : i < l.length := by omega
    have hgi := hg _ (List.getElem_mem hil)
    obtain ⟨gb, o, rfl⟩ := (hE.rd1 hS).some_ (by omega) (by omega)
    have p := g_at (hE.rd1 hS) hil
    unfold m7_19
    refine valP_ok (ix25 hil _) ?_
    refine valP_ok (ld48 p.1 p.2.1 p.2.2.1 p.2.2.2) ?_
    refine new_ok (al48 _) hS ?_
    intro b7 w hS
    first | refine ss48 0 hS rfl rfl rfl rfl rfl ?_ | refine ss48 1 hS rfl rfl rfl rfl rfl ?_ | refine ss48 2 hS rfl rfl rfl rfl rfl ?_ | refine ss48 3 hS rfl rfl rfl rfl rfl ?_ | refine ss48 4 hS rfl rfl rfl rfl rfl ?_ | refine ss48 5 hS rfl rfl rfl rfl rfl ?_ | refine ss48 6 hS rfl rfl rfl rfl rfl ?_ | refine ss48 7 hS rfl rfl rfl rfl rfl ?_
    intro w hS
    simp only [List.set_cons_zero, List.set_cons_succ] at hS
    unfold m7_21
    refine valP_ok (fa48_1 _ _) ?_
    refine valP_ok (ld46 (hS.cell 0 rfl rfl) (hS.cell 0 rfl rfl) (hS.cell 0 rfl rfl)) ?_
    refine callR (by kernel_rfl) (about_ret (r := l[i].r) hS) ?_
    rintro _ w ⟨rfl, hS⟩
    refine valP_ok (extract_ok _ 0 rfl _) ?_
    refine valP_ok (extract_ok _ 1 rfl _) ?_
    refine new_ok (al46 _) hS ?_
    intro b8 w hS
    first | refine ss46 0 hS rfl rfl rfl rfl ?_ | refine ss46 1 hS rfl rfl rfl rfl ?_ | refine ss46 2 hS rfl rfl rfl rfl ?_ | refine ss46 3 hS rfl rfl rfl rfl ?_ | refine ss46 4 hS rfl rfl rfl rfl ?_ | refine ss46 5 hS rfl rfl rfl rfl ?_ | refine ss46 6 hS rfl rfl rfl rfl ?_ | refine ss46 7 hS rfl rfl rfl rfl ?_
    intro w hS
    simp only [List.set_cons_zero, List.set_cons_succ] at hS
    have noq : aboutR l[i].r = none → ∀ x, ¬ Qual l upto x i := fun hn x hq => by
      have := hq.2.2
      rw [hn] at this
      cases this
    cases ha : aboutR l[i].r with
    | none =>
      unfold m7_22
      refine cond_f rfl ?_
      first | refine pick_dt (by first | assumption | omega) ?_ | refine pick_df (by first | assumption | omega) ?_ | refine pick_t (by first | rfl | assumption) ?_ | refine pick_f (by first | rfl | assumption) ?_ | refine pick_dt rfl ?_ | refine pick_df (not_not_intro rfl) ?_
      unfold m7_23
      refine cond_f rfl ?_
      unfold m7_20
      refine valP_ok (add_ok _ _ _ (by omega) (by omega) _) ?_
      exact ⟨⟨i + 1, n, M, rfl, by omega, by omega, hM.skip (noq ha), hS.tail.tail⟩, by simp [intOf]; omega⟩
    | some x =>
      rw [ha] at hS
      obtain ⟨lk, hlk⟩ := keyRc (about_ok hgi ha)
      unfold m7_22
      refine cond_t rfl ?_
      first | refine valP_ok (fa48_0 _ _) ?_ | refine valP_ok (fao48_0 _ _ _) ?_
      first | refine valP_ok (ld3 (hS.cell 0 rfl rfl)) ?_ | refine valP_ok (ld3 (hS.cell 1 rfl rfl)) ?_ | refine valP_ok (ld3 (hS.cell 2 rfl rfl)) ?_ | refine valP_ok (ld3 (hS.cell 3 rfl rfl)) ?_ | refine valP_ok (ld3 (hS.cell 4 rfl rfl)) ?_ | refine valP_ok (ld3 (hS.cell 5 rfl rfl)) ?_ | refine valP_ok (ld3 (hS.cell 6 rfl rfl)) ?_ | refine valP_ok (ld3 (hS.cell 7 rfl rfl)) ?_ | refine valP_ok (ld3 (by assumption)) ?_
      refine valP_ok (lss_ok _ _ _ _ _ _ _) ?_
      first | refine pick_dt (by first | assumption | omega) ?_ | refine pick_df (by first | assumption | omega) ?_ | refine pick_t (by first | rfl | assumption) ?_ | refine pick_f (by first | rfl | assumption) ?_ | refine pick_dt rfl ?_ | refine pick_df (not_not_intro rfl) ?_
      unfold m7_23
      refine cond_split (fun h1 => ?_) (fun h1 => ?_)
      · first | refine ls46 0 hS rfl ?_ | refine ls46 1 hS rfl ?_ | refine ls46 2 hS rfl ?_ | refine ls46 3 hS rfl ?_ | refine ls46 4 hS rfl ?_ | refine ls46 5 hS rfl ?_ | refine ls46 6 hS rfl ?_ | refine ls46 7 hS rfl ?_ | refine valP_ok (ld46 (by assumption) (by assumption) (by assumption)) ?_
        refine mapUpdate_at 2 hS rfl lawR Try.underlying53 (by unfold maxLen; omega) hlk (plainElem_int Try.underlying3 (wfI (by omega))) ?_
        intro w hS
        simp only [List.set_cons_zero, List.set_cons_succ] at hS
        unfold m7_20
        refine valP_ok (add_ok _ _ _ (by omega) (by omega) _) ?_
        exact ⟨⟨i + 1, n + 1, _, rfl, by omega, by omega, hM.put ⟨hil, h1, ha⟩, hS.tail.tail⟩, by simp [intOf]; omega⟩
      · unfold m7_20
        refine valP_ok (add_ok _ _ _ (by omega) (by omega) _) ?_
        exact ⟨⟨i + 1, n, M, rfl, by omega, by omega, hM.skip (fun x hq => h1 hq.2.1), hS.tail.tail⟩, by simp [intOf]; omega⟩
  · obtain rfl : i = l.length := by omega
    unfold m7_3
    unfold m7_4
    refine builtin_ok (len25 _) ?_
    unfold m7_7
    refine loop_in (fun u w' => ∃ (i : Nat) (A' : Option Addr) (c' : Nat), u = (.slice A' (cleanN l upto i).length c', .int .i64 (i : Int)) ∧ i ≤ l.length ∧ St w0 F w' (grow A' c' (cleanN l upto i) :: mapR b n M :: L)) (fun u _ => l.length - (intOf u.2).toNat) ⟨0, none, 0, rfl, by omega, hS.row_nil 48 4⟩ ?_
    clear hS hi h
    rintro u w ⟨i, A', c', rfl, hi, hS⟩
    simp only
    have hlen := cleanN_len l upto i
    unfold m7_8
    refine valP_ok (lss_ok _ _ _ _ _ _ _) ?_
    unfold m7_9
    refine cond_split (fun h => ?_) (fun h => ?_)
    · have hil : i < l.length := by omega
      have hgi := hg _ (List.getElem_mem hil)
      obtain ⟨gb, o, rfl⟩ := ((hE.cons _).rd1 hS).some_ (by omega) (by omega)
      have p := g_at ((hE.cons _).rd1 hS) hil
      unfold m7_10
      refine valP_ok (ix25 hil _) ?_
      refine valP_ok (ld48 p.1 p.2.1 p.2.2.1 p.2.2.2) ?_
      refine new_ok (al48 _) hS ?_
      intro b12 w hS
      first | refine ss48 0 hS rfl rfl rfl rfl rfl ?_ | refine ss48 1 hS rfl rfl rfl rfl rfl ?_ | refine ss48 2 hS rfl rfl rfl rfl rfl ?_ | refine ss48 3 hS rfl rfl rfl rfl rfl ?_ | refine ss48 4 hS rfl rfl rfl rfl rfl ?_ | refine ss48 5 hS rfl rfl rfl rfl rfl ?_ | refine ss48 6 hS rfl rfl rfl rfl rfl ?_ | refine ss48 7 hS rfl rfl rfl rfl rfl ?_
      intro w hS
      simp only [List.set_cons_zero, List.set_cons_succ] at hS
      have leaf : ∀ (K1 : Value × Value → World → Prop), (∀ w' A' c', St w0 F w' (grow A' c' (cleanN l upto (i + 1)) :: mapR b n M :: L) → K1 (.slice A' (cleanN l upto (i + 1)).length c', .int .i64 ((i + 1 : Nat) : Int)) w') → ∀ t : Bool, (t = true ↔ Needless l i upto) → ∀ w ba (ra : Rc), St w0 F w (Res.cells ba 46 (encR ra) :: Res.cells b12 48 (encG l[i]) :: grow A' c' (cleanN l upto i) :: mapR b n M :: L) → m7_15 (fun v w' => ∃ A' c', v = .slice A' (cleanN l upto l.length).length c' ∧ St w0 F w' (grow A' c' (cleanN l upto l.length) :: L)) K1 (.int .i64 upto) (.map (some b)) (.slice A' (cleanN l upto i).length c') (.pointer (some ⟨b12, 0, none⟩)) (.slice (some ⟨gb, o, none⟩) l.length c) (.int .i64 (l.length : Int)) (.int .i64 (i : Int)) (.bool t) w := fun K1 hK t ht w ba ra hS => by
        unfold m7_15
        cases t with
        | true =>
          have hn := ht.1 rfl
          have h1 := hK w A' c' (by rw [cleanN_skip hn]; exact hS.tail.tail)
          rw [cleanN_skip hn] at h1
          refine cond_t rfl ?_
          unfold m7_11
          refine valP_ok (add_ok _ _ _ (by omega) (by omega) _) ?_
          exact h1
        | false =>
          have hn : ¬ Needless l i upto := fun h => by have := ht.2 h; cases this
          refine cond_f rfl ?_
          unfold m7_14
          first | refine ls48 0 hS rfl ?_ | refine ls48 1 hS rfl ?_ | refine ls48 2 hS rfl ?_ | refine ls48 3 hS rfl ?_ | refine ls48 4 hS rfl ?_ | refine ls48 5 hS rfl ?_ | refine ls48 6 hS rfl ?_ | refine ls48 7 hS rfl ?_ | refine valP_ok (ld48 (by assumption) (by assumption) (by assumption) (by assumption)) ?_
          refine newslice_ok (bs25_1 _) hS ?_
          intro b74 w hS
          refine append_one1 (enc := encG) 2 l[i] sl25 encG_len encG_one (by unfold maxLen; omega) (by omega) hS rfl ?_
          intro A' c' w' hS
          simp only [List.set_cons_zero, List.set_cons_succ] at hS
          have h1 := hK w' A' c' (by rw [cleanN_take hil hn]; exact hS.tail.tail)
          rw [cleanN_take hil hn] at h1
          unfold m7_11
          refine valP_ok (add_ok _ _ _ (by omega) (by omega) _) ?_
          exact h1
      unfold m7_12
      refine valP_ok (fa48_1 _ _) ?_
      refine valP_ok (ld46 (hS.cell 0 rfl rfl) (hS.cell 0 rfl rfl) (hS.cell 0 rfl rfl)) ?_
      refine callR (by kernel_rfl) (about_ret (r := l[i].r) hS) ?_
      rintro _ w ⟨rfl, hS⟩
      refine valP_ok (extract_ok _ 0 rfl _) ?_
      refine valP_ok (extract_ok _ 1 rfl _) ?_
      refine new_ok (al46 _) hS ?_
      intro b13 w hS
      first | refine ss46 0 hS rfl rfl rfl rfl ?_ | refine ss46 1 hS rfl rfl rfl rfl ?_ | refine ss46 2 hS rfl rfl rfl rfl ?_ | refine ss46 3 hS rfl rfl rfl rfl ?_ | refine ss46 4 hS rfl rfl rfl rfl ?_ | refine ss46 5 hS rfl rfl rfl rfl ?_ | refine ss46 6 hS rfl rfl rfl rfl ?_ | refine ss46 7 hS rfl rfl rfl rfl ?_
      intro w hS
      simp only [List.set_cons_zero, List.set_cons_succ] at hS
      unfold m7_13
      first | refine valP_ok (fa48_0 _ _) ?_ | refine valP_ok (fao48_0 _ _ _) ?_
      first | refine valP_ok (ld3 (hS.cell 0 rfl rfl)) ?_ | refine valP_ok (ld3 (hS.cell 1 rfl rfl)) ?_ | refine valP_ok (ld3 (hS.cell 2 rfl rfl)) ?_ | refine valP_ok (ld3 (hS.cell 3 rfl rfl)) ?_ | refine valP_ok (ld3 (hS.cell 4 rfl rfl)) ?_ | refine valP_ok (ld3 (hS.cell 5 rfl rfl)) ?_ | refine valP_ok (ld3 (hS.cell 6 rfl rfl)) ?_ | refine valP_ok (ld3 (hS.cell 7 rfl rfl)) ?_ | refine valP_ok (ld3 (by assumption)) ?_
      refine valP_ok (lss_ok _ _ _ _ _ _ _) ?_
      have noq : aboutR l[i].r = none → ¬ Needless l i upto := fun hn h => by
        obtain ⟨x, hq, _⟩ := (needless_iff hil).1 h
        have := hq.2.2
        rw [hn] at this
        cases this
      have fin : ∀ w' A' c', St w0 F w' (grow A' c' (cleanN l upto (i + 1)) :: mapR b n M :: L) → (∃ (i : Nat) (A'' : Option Addr) (c'' : Nat), (Value.slice A' (cleanN l upto (i + 1)).length c', Value.int .i64 ((i + 1 : Nat) : Int)) = (Value.slice A'' (cleanN l upto i).length c'', Value.int .i64 (i : Int)) ∧ i ≤ l.length ∧ St w0 F w' (grow A'' c'' (cleanN l upto i) :: mapR b n M :: L)) ∨ True := fun _ _ _ _ => .inr trivial
      clear fin
      refine cond_split (fun h1 => ?_) (fun h1 => ?_)
      · first | refine pick_dt (by first | assumption | omega) ?_ | refine pick_df (by first | assumption | omega) ?_ | refine pick_t (by first | rfl | assumption) ?_ | refine pick_f (by first | rfl | assumption) ?_ | refine pick_dt rfl ?_ | refine pick_df (not_not_intro rfl) ?_
        cases ha : aboutR l[i].r with
        | none =>
          refine cond_f rfl ?_
          first | refine pick_dt (by first | assumption | omega) ?_ | refine pick_df (by first | assumption | omega) ?_ | refine pick_t (by first | rfl | assumption) ?_ | refine pick_f (by first | rfl | assumption) ?_ | refine pick_dt rfl ?_ | refine pick_df (not_not_intro rfl) ?_
          exact leaf _ (fun w' A' c' hS => ⟨⟨i + 1, A', c', rfl, by omega, hS⟩, by simp [intOf]; omega⟩) false ⟨fun h => (by cases h), fun h => absurd h (noq ha)⟩ _ _ _ hS
        | some x =>
          rw [ha] at hS
          have hxo := about_ok hgi ha
          obtain ⟨lk, hlk⟩ := keyRc hxo
          have hq : Qual l upto x i := ⟨hil, h1, ha⟩
          have hnl : Needless l i upto ↔ (¬ ((lastI l upto x l.length).getD 0 = i) ∨ l[i].r.text = putS 2) := by
            rw [needless_iff hil]
            constructor
            · rintro ⟨y, hy, h⟩
              obtain rfl := Option.some.inj (hy.2.2.symm.trans ha)
              exact h
            · exact fun h => ⟨x, hq, h⟩
          refine cond_t rfl ?_
          first | refine ls46 0 hS rfl ?_ | refine ls46 1 hS rfl ?_ | refine ls46 2 hS rfl ?_ | refine ls46 3 hS rfl ?_ | refine ls46 4 hS rfl ?_ | refine ls46 5 hS rfl ?_ | refine ls46 6 hS rfl ?_ | refine ls46 7 hS rfl ?_ | refine valP_ok (ld46 (by assumption) (by assumption) (by assumption)) ?_
          have hmv : MapV Try.prog 46 (plainElem Try.prog 3) b n M w := by
            have h := hS.get 3 rfl
            unfold mapR Res.map at h
            exact h
          have hlook : (Instr.lookup 53 (.map (some b)) (rv x) false).run Try.prog w = .ok (.int .i64 ((lastI l upto x l.length).getD 0 : Nat)) w := by
            rw [hmv.lookup plain3_apart lawR Try.underlying53 (z := .int .i64 0) (by simp [go_sem]) (plainElem_int Try.underlying3 (wfI (by omega))) hlk, hM x hxo]
            cases lastI l upto x l.length <;> rfl
          refine valP_ok hlook ?_
          refine valP_ok (ne3 _ _ _ _ _) ?_
          refine cond_split (fun h2 => ?_) (fun h2 => ?_)
          · first | refine pick_dt (by first | assumption | omega) ?_ | refine pick_df (by first | assumption | omega) ?_ | refine pick_t (by first | rfl | assumption) ?_ | refine pick_f (by first | rfl | assumption) ?_ | refine pick_dt rfl ?_ | refine pick_df (not_not_intro rfl) ?_
            first | refine pick_dt (by first | assumption | omega) ?_ | refine pick_df (by first | assumption | omega) ?_ | refine pick_t (by first | rfl | assumption) ?_ | refine pick_f (by first | rfl | assumption) ?_ | refine pick_dt rfl ?_ | refine pick_df (not_not_intro rfl) ?_
            exact leaf _ (fun w' A' c' hS => ⟨⟨i + 1, A', c', rfl, by omega, hS⟩, by simp [intOf]; omega⟩) true ⟨fun _ => hnl.2 (.inl (by omega)), fun _ => rfl⟩ _ _ _ hS
          · refine valP_ok (fa48_1 _ _) ?_
            refine valP_ok (ld46 (hS.cell 1 rfl rfl) (hS.cell 1 rfl rfl) (hS.cell 1 rfl rfl)) ?_
            refine callR (by kernel_rfl) (gone_ret (r := l[i].r) hS) ?_
            rintro _ w ⟨rfl, hS⟩
            first | refine pick_dt (by first | assumption | omega) ?_ | refine pick_df (by first | assumption | omega) ?_ | refine pick_t (by first | rfl | assumption) ?_ | refine pick_f (by first | rfl | assumption) ?_ | refine pick_dt rfl ?_ | refine pick_df (not_not_intro rfl) ?_
            first | refine pick_dt (by first | assumption | omega) ?_ | refine pick_df (by first | assumption | omega) ?_ | refine pick_t (by first | rfl | assumption) ?_ | refine pick_f (by first | rfl | assumption) ?_ | refine pick_dt rfl ?_ | refine pick_df (not_not_intro rfl) ?_
            refine leaf _ (fun w' A' c' hS => ⟨⟨i + 1, A', c', rfl, by omega, hS⟩, by simp [intOf]; omega⟩) _ ?_ _ _ _ hS
            rw [decide_eq_true_eq, hnl]
            exact ⟨.inr, fun h => h.resolve_left (by omega)⟩
      · first | refine pick_dt (by first | assumption | omega) ?_ | refine pick_df (by first | assumption | omega) ?_ | refine pick_t (by first | rfl | assumption) ?_ | refine pick_f (by first | rfl | assumption) ?_ | refine pick_dt rfl ?_ | refine pick_df (not_not_intro rfl) ?_
        refine cond_f rfl ?_
        first | refine pick_dt (by first | assumption | omega) ?_ | refine pick_df (by first | assumption | omega) ?_ | refine pick_t (by first | rfl | assumption) ?_ | refine pick_f (by first | rfl | assumption) ?_ | refine pick_dt rfl ?_ | refine pick_df (not_not_intro rfl) ?_
        exact leaf _ (fun w' A' c' hS => ⟨⟨i + 1, A', c', rfl, by omega, hS⟩, by simp [intOf]; omega⟩) false ⟨fun h => (by cases h), fun h => absurd h.2.1 h1⟩ _ _ _ hS
    · obtain rfl : i = l.length := by omega
      unfold m7_5 m7_6
      exact ⟨_, _, rfl, St.mid (A := [_]) (B := [_]) hS⟩
end


end Go.Proofs.Ytnhgdngbdoifnaa.M
