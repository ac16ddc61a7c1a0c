/- What assign.Sticky comes to. -/
import Derived.Test.YtjjmlopmemmobaaA3
namespace Go.Proofs.Ytjjmlopmemmobaa.M
open Go.Proofs.Ytjjmlopmemmobaa.F Go.RowKit
set_option linter.unusedVariables false
set_option linter.unusedSimpArgs false
set_option maxRecDepth 100000
set_option maxHeartbeats 2000000
attribute [local irreducible] Res.cells Res.row Res.map Res.any World.cell? World.frozen? Instr.fieldAt Instr.loadAt Instr.storeAt Instr.indexAt Instr.lookup Instr.mapUpdate Instr.box Instr.build Instr.buildSlice Instr.extract Instr.alloc Instr.field Instr.index Instr.sliceAt Instr.makeSlice Instr.makeMap Instr.makeFunc binS Op.unary Sem.run
open Go.Proofs.Ytjjmlopmemmobaa.L Go.Shelf
/-- Who keeps what: how many may have one more, the counts, the list. -/
structure Sk where
  big : Int
  C : Int → Int
  l : List Int
def keepsL (parts : Int) (M old : List Int) : Nat → Sk
  | 0 => ⟨bigI parts M, fun _ => 0, List.replicate parts.toNat 0⟩
  | p + 1 => let s := keepsL parts M old p
    if mayI M (baseI parts M) s.big s.C old[p]! then ⟨if s.C old[p]! = baseI parts M then s.big - 1 else s.big, upC s.C old[p]!, s.l.set p old[p]!⟩ else s
def fillsL (M : List Int) (s0 : Sk) : Nat → Sk
  | 0 => s0
  | p + 1 => let s := fillsL M s0 p
    if s.l[p]! = 0 then ⟨s.big, upC s.C (fewest s.C M[0]! (M.drop 1)), s.l.set p (fewest s.C M[0]! (M.drop 1))⟩ else s
def stickyL (parts : Int) (M old : List Int) : List Int :=
  if M.length = 0 then List.replicate parts.toNat 0 else (fillsL M (keepsL parts M old (min parts.toNat old.length)) parts.toNat).l
theorem keepsL_ok {parts : Int} {M old : List Int} (hp : ¬ badParts parts) (hr : M.Pairwise (· < ·)) (hl : M.length ≤ 1000) (hM : ∀ x ∈ M, -9223372036854775808 ≤ x ∧ x ≤ 9223372036854775807) : ∀ p, p ≤ 64 →
    ShOk M (baseI parts M) (keepsL parts M old p).big (keepsL parts M old p).C ∧ (∀ x, (keepsL parts M old p).C x ≤ p) ∧ (keepsL parts M old p).l.length = parts.toNat ∧ (∀ x ∈ (keepsL parts M old p).l, x = 0 ∨ x ∈ M)
  | 0, _ => by
    have := share_nums (M := M) hp
    refine ⟨⟨hr, by omega, hM, fun x => ?_, by omega, ?_⟩, fun x => ?_, ?_, fun x hx => ?_⟩
    · show (0 : Int) ≤ 0 ∧ (0 : Int) ≤ 1000; omega
    · show 0 ≤ bigI parts M ∧ bigI parts M ≤ 1000; omega
    · show (0 : Int) ≤ _; omega
    · show (List.replicate parts.toNat 0).length = _; simp
    · exact .inl (List.eq_of_mem_replicate hx)
  | p + 1, h => by
    obtain ⟨h1, h2, h3, h4⟩ := keepsL_ok (parts := parts) (M := M) (old := old) hp hr hl hM p (by omega)
    unfold keepsL
    simp only
    generalize keepsL parts M old p = s at *
    split
    · rename_i hy
      have hc := h1.cnt old[p]!
      have hc2 := h2 old[p]!
      have hb := h1.big0
      refine ⟨⟨hr, by omega, hM, fun x => ?_, h1.base0, ?_⟩, fun x => ?_, by rw [List.length_set]; exact h3, fun x hx => ?_⟩
      · simp only [upC]
        have := h1.cnt x
        split <;> omega
      · simp only
        split
        · have := hy.2; omega
        · exact hb
      · simp only [upC]
        have := h2 x
        split <;> omega
      · rcases List.mem_or_eq_of_mem_set hx with hx | rfl
        · exact h4 x hx
        · exact .inr hy.1
    · exact ⟨h1, fun x => by have := h2 x; omega, h3, h4⟩
theorem fewest_in {C : Int → Int} {M : List Int} (h : 0 < M.length) : fewest C M[0]! (M.drop 1) ∈ M := by
  rcases fewest_mem C (M.drop 1) M[0]! with h' | h'
  · rw [h', getElem!_pos M 0 h]; exact List.getElem_mem h
  · exact List.mem_of_mem_drop h'
theorem fillsL_ok {M : List Int} {s0 : Sk} {base : Int} {n q : Nat} (hM0 : 0 < M.length) (hq : q ≤ 64) (h0 : ShOk M base s0.big s0.C ∧ (∀ x, s0.C x ≤ q) ∧ s0.l.length = n ∧ (∀ x ∈ s0.l, x = 0 ∨ x ∈ M)) : ∀ p, p ≤ 64 →
    ShOk M base (fillsL M s0 p).big (fillsL M s0 p).C ∧ (∀ x, (fillsL M s0 p).C x ≤ q + p) ∧ (fillsL M s0 p).l.length = n ∧ (∀ x ∈ (fillsL M s0 p).l, x = 0 ∨ x ∈ M)
  | 0, _ => ⟨h0.1, fun x => by have := h0.2.1 x; show s0.C x ≤ _; omega, h0.2.2⟩
  | p + 1, h => by
    obtain ⟨h1, h2, h3, h4⟩ := fillsL_ok (n := n) hM0 hq h0 p (by omega)
    unfold fillsL
    simp only
    generalize fillsL M s0 p = s at *
    split
    · have hf := fewest_in (C := s.C) hM0
      have hc := h1.cnt (fewest s.C M[0]! (M.drop 1))
      have hc2 := h2 (fewest s.C M[0]! (M.drop 1))
      refine ⟨⟨h1.rise, h1.len, h1.each, fun x => ?_, h1.base0, h1.big0⟩, fun x => ?_, by rw [List.length_set]; exact h3, fun x hx => ?_⟩
      · simp only [upC]
        have := h1.cnt x
        split <;> omega
      · simp only [upC]
        have := h2 x
        split <;> omega
      · rcases List.mem_or_eq_of_mem_set hx with hx | rfl
        · exact h4 x hx
        · exact .inr hf
    · exact ⟨h1, fun x => by have := h2 x; omega, h3, h4⟩
theorem zero_cells (n : Nat) : (madeCells (Value.int .i64 0).cells (n * 1)).toList = ints (List.replicate n 0) := by
  apply List.ext_getElem
  · simp [madeCells]
  · intro i h1 h2
    simp [madeCells, Value.cells, Nat.mod_one]
theorem set_irow {K : Value → World → Prop} {w0 w : World} {F : List Nat} {L : List Res} {g c i : Nat} {l : List Int} {x : Int} (k : Nat) (hS : St w0 F w L) (hk : L[k]? = some (irow (.slice (some ⟨g, 0, none⟩) l.length c) l)) (hi : i < l.length)
    (h : ∀ w', St w0 F w' (L.set k (irow (.slice (some ⟨g, 0, none⟩) (l.set i x).length c) (l.set i x))) → K undef w') : unitP Try.prog (Instr.storeAt 3 (.pointer (some ⟨g, i, none⟩)) (.int .i64 x)) w K := by
  refine store_row k st3 hS hk (by simpa using hi) rfl ?_
  intro w' hS
  rw [ints_set] at hS
  refine h _ ?_
  unfold irow
  rw [List.length_set]
  exact hS
theorem perm_last3 (r a b c : Res) (L : List Res) : (r :: a :: b :: c :: L).Perm (a :: b :: c :: r :: L) :=
  (List.Perm.swap a r _).trans (((List.Perm.swap b r _).trans ((List.Perm.swap c r _).cons b)).cons a)
theorem sticky_ret {w0 w : World} {F : List Nat} {L : List Res} {A B : Option Addr} {c d : Nat} {zs old : List Int} {parts : Int} (hp : -9223372036854775808 ≤ parts) (hp' : parts ≤ 9223372036854775807) (hS : St w0 F w L) (hI : Bes w0 F L 1 A zs.length (ints zs)) (hO : Bes w0 F L 1 B old.length (ints old)) (hz : zs.length ≤ 1000)
    (hzb : ∀ x ∈ zs, -9223372036854775808 ≤ x ∧ x ≤ 9223372036854775807) (hob : ∀ x ∈ old, -9223372036854775808 ≤ x ∧ x ≤ 9223372036854775807) :
    Ret Try.prog 88 #[.int .i64 parts, .slice A zs.length c, .slice B old.length d] w fun v w' => if badParts parts then v = .tuple #[.slice none 0 0, .int .i64 1] ∧ St w0 F w' L
      else ∃ A' c', v = .tuple #[.slice A' (stickyL parts (membersL zs) old).length c', .int .i64 0] ∧ St w0 F w' (irow (.slice A' (stickyL parts (membersL zs) old).length c') (stickyL parts (membersL zs) old) :: L) := by
  refine s88 _ _ _ ?_
  unfold m88
  unfold m88_0
  unfold m88_1
  refine callR (by kernel_rfl) (share_ret hp hp' hS hI (by omega)) ?_
  intro v w hv
  by_cases hbad : badParts parts
  · rw [if_pos hbad] at hv
    obtain ⟨rfl, hS⟩ := hv
    refine valP_ok (extract_ok _ 0 rfl _) ?_
    refine valP_ok (extract_ok _ 1 rfl _) ?_
    unfold m88_2
    first | refine valP_ok (not_ok _ _) ?_ | refine valP_ok (notb_ok _ _) ?_
    unfold m88_26
    refine cond_t rfl ?_
    unfold m88_27
    show ite _ _ _
    rw [if_pos hbad]
    exact ⟨rfl, hS⟩
  rw [if_neg hbad] at hv
  obtain ⟨b, mb, A1, c1, Mv, rfl, hMv, hS⟩ := hv
  have hspec := membersL_spec zs
  have hMl : (membersL zs).length ≤ 1000 := by have := membersL_len zs; omega
  have hMb : ∀ x ∈ membersL zs, -9223372036854775808 ≤ x ∧ x ≤ 9223372036854775807 := fun x hx => hzb x ((hspec.2 x).1 hx).1
  have hM1 : ∀ x ∈ membersL zs, 0 < x := fun x hx => ((hspec.2 x).1 hx).2
  have hrise := hspec.1
  clear hspec
  generalize membersL zs = M at *
  have hpp : 1 ≤ parts ∧ parts ≤ 64 := by unfold badParts at hbad; omega
  refine valP_ok (extract_ok _ 0 rfl _) ?_
  refine valP_ok (extract_ok _ 1 rfl _) ?_
  unfold m88_2
  first | refine valP_ok (not_ok _ _) ?_ | refine valP_ok (notb_ok _ _) ?_
  unfold m88_26
  refine cond_f rfl ?_
  unfold m88_3
  have ep : (Value.int .i64 parts) = Value.int .i64 ((parts.toNat : Nat) : Int) := by rw [Int.toNat_of_nonneg (by omega)]
  rw [ep]
  refine make_ok sl28 hS (by omega) (by unfold maxLen; omega) ?_
  intro b2 w hS
  rw [← ep]
  rw [zero_cells] at hS
  have hrl : (List.replicate parts.toNat (0 : Int)).length = parts.toNat := by simp
  unfold m88_4
  refine nil_ok ?_
  first | refine valP_ok (fa131_0 _ _) ?_ | refine valP_ok (fao131_0 _ _ _) ?_
  first | refine valP_ok (ld28 (hS.cell 0 rfl rfl)) ?_ | refine valP_ok (ld28 (hS.cell 1 rfl rfl)) ?_ | refine valP_ok (ld28 (hS.cell 2 rfl rfl)) ?_ | refine valP_ok (ld28 (hS.cell 3 rfl rfl)) ?_ | refine valP_ok (ld28 (hS.cell 4 rfl rfl)) ?_ | refine valP_ok (ld28 (by assumption)) ?_
  refine builtin_ok (len28 _) ?_
  refine valP_ok (eq3 _ _ _ _ _) ?_
  unfold m88_24
  by_cases hM0 : M.length = 0
  · refine cond_dt (by omega) ?_
    unfold m88_25
    show ite _ _ _
    rw [if_neg hbad]
    have hS := St_sub hS (.cons_cons _ (.cons _ (.cons _ (.cons _ (.refl L)))))
    unfold stickyL
    rw [if_pos hM0]
    unfold irow
    rw [hrl]
    exact ⟨_, _, rfl, hS⟩
  refine cond_df (by omega) ?_
  have hS := hS.perm (perm_last3 _ _ _ _ _)
  unfold m88_5
  refine builtin_ok (len28 _) ?_
  refine builtin_ok (min_run _ _ _) ?_
  have emin : min parts (old.length : Int) = ((min parts.toNat old.length : Nat) : Int) := by omega
  rw [emin]
  obtain ⟨n1, hn1⟩ : ∃ n1, n1 = min parts.toNat old.length := ⟨_, rfl⟩
  rw [← hn1]
  have hKok := fun p hp => keepsL_ok (parts := parts) (M := M) (old := old) hbad hrise hMl hMb p hp
  unfold m88_17
  have hmaxl : (1000000 : Nat) ≤ maxLen := by unfold maxLen; omega
  refine loop_in (fun s w' => ∃ p : Nat, ∃ k Mv', s = .int .i64 p ∧ p ≤ n1 ∧ k ≤ p ∧ Mc Mv' (keepsL parts M old p).C ∧
      St w0 F w' (shc b (.slice A1 M.length c1) mb (baseI parts M) (keepsL parts M old p).big :: mapI mb k Mv' :: Res.rd 1 A1 M.length (ints M) :: irow (.slice (some ⟨b2, 0, none⟩) (keepsL parts M old p).l.length parts.toNat) (keepsL parts M old p).l :: L))
    (fun s _ => n1 - (intOf s).toNat) ⟨0, 0, Mv, rfl, by omega, by omega, hMv, ?_⟩ ?_
  · show St w0 F w (_ :: _ :: _ :: Res.row 3 1 (.slice _ (List.replicate parts.toNat 0).length _) (List.replicate parts.toNat 0).length (ints (List.replicate parts.toNat 0)) :: L)
    rw [hrl]
    exact hS
  clear hS
  rintro s w ⟨p, k, Mv', rfl, hpn, hk, hMc, hS⟩
  unfold m88_18
  refine valP_ok (lss_ok _ _ _ _ _ _ _) ?_
  unfold m88_19
  obtain ⟨hok, hcp, hll, hlm⟩ := hKok p (by omega)
  refine cond_split (fun h => ?_) (fun h => ?_)
  · have hlt : p < old.length := by omega
    have hov := hob _ (List.getElem_mem hlt)
    have hstep : keepsL parts M old (p + 1) = (let s := keepsL parts M old p
      if mayI M (baseI parts M) s.big s.C old[p] then ⟨if s.C old[p] = baseI parts M then s.big - 1 else s.big, upC s.C old[p], s.l.set p old[p]⟩ else s) := by
      show (let s := keepsL parts M old p
        if mayI M (baseI parts M) s.big s.C old[p]! then _ else _) = _
      rw [getElem!_pos old p hlt]
    simp only at hstep
    generalize keepsL parts M old p = s at *
    have hc1000 := hcp old[p]
    have hr : Rd w 1 B old.length (ints old) := hO w _ hS (fun r hr => .tail _ (.tail _ (.tail _ (.tail _ hr))))
    obtain ⟨g, o, rfl⟩ := hr.some_ (by omega) (by omega)
    have hc := hr.cell_ (ints_get hlt)
    unfold m88_20
    unfold m88_22
    refine valP_ok (ix28 hlt _) ?_
    first | refine valP_ok (ld3 (hS.cell 0 rfl rfl)) ?_ | refine valP_ok (ld3 (hS.cell 1 rfl rfl)) ?_ | refine valP_ok (ld3 (hS.cell 2 rfl rfl)) ?_ | refine valP_ok (ld3 (hS.cell 3 rfl rfl)) ?_ | refine valP_ok (ld3 (hS.cell 4 rfl rfl)) ?_ | refine valP_ok (ld3 (by assumption)) ?_
    refine callR (by kernel_rfl) (keeps_ret hok hMc (wf_of hov.1 hov.2) (by omega) (by omega) hS) ?_
    rintro v w ⟨rfl, hS⟩
    unfold m88_23
    refine cond_split (fun hy => ?_) (fun hy => ?_)
    · rw [if_pos hy] at hS hstep
      obtain ⟨Mv2, hMc2, hS⟩ := hS
      clear hr hc
      have hr : Rd w 1 (some ⟨g, o, none⟩) old.length (ints old) := hO w _ hS (fun r hr => .tail _ (.tail _ (.tail _ (.tail _ hr))))
      have hc := hr.cell_ (ints_get hlt)
      refine valP_ok (ix28 hlt _) ?_
      first | refine valP_ok (ld3 (hS.cell 0 rfl rfl)) ?_ | refine valP_ok (ld3 (hS.cell 1 rfl rfl)) ?_ | refine valP_ok (ld3 (hS.cell 2 rfl rfl)) ?_ | refine valP_ok (ld3 (hS.cell 3 rfl rfl)) ?_ | refine valP_ok (ld3 (hS.cell 4 rfl rfl)) ?_ | refine valP_ok (ld3 (by assumption)) ?_
      refine valP_ok (ixz28 (by omega) _) ?_
      refine set_irow 3 hS rfl (by omega) ?_
      intro w hS
      simp only [List.set_cons_zero, List.set_cons_succ] at hS
      unfold m88_21
      refine valP_ok (add_ok _ _ _ (by omega) (by omega) _) ?_
      refine ⟨⟨p + 1, k + 1, Mv2, rfl, by omega, by omega, by rw [hstep]; exact hMc2, ?_⟩, by simp [intOf]; omega⟩
      rw [hstep]
      exact hS
    · rw [if_neg hy] at hS hstep
      unfold m88_21
      refine valP_ok (add_ok _ _ _ (by omega) (by omega) _) ?_
      exact ⟨⟨p + 1, k, Mv', rfl, by omega, by omega, by rw [hstep]; exact hMc, by rw [hstep]; exact hS⟩, by simp [intOf]; omega⟩
  have hpe : p = n1 := by omega
  subst hpe
  have hst : stickyL parts M old = (fillsL M (keepsL parts M old p) parts.toNat).l := by unfold stickyL; rw [if_neg hM0, ← hn1]
  have hFok := fun q hq => fillsL_ok (n := parts.toNat) (q := p) (base := baseI parts M) (by omega : 0 < M.length) (by omega) ⟨hok, hcp, hll, hlm⟩ q hq
  generalize keepsL parts M old p = s0 at *
  unfold m88_6
  refine builtin_ok (len28 _) ?_
  unfold m88_9
  have hcons : ∀ q : Nat, (q : Int) < (s0.l.length : Int) ↔ q < parts.toNat := fun q => by omega
  refine loop_in (fun s w' => ∃ q : Nat, ∃ k Mv', s = .int .i64 q ∧ q ≤ parts.toNat ∧ k ≤ p + q ∧ Mc Mv' (fillsL M s0 q).C ∧
      St w0 F w' (shc b (.slice A1 M.length c1) mb (baseI parts M) (fillsL M s0 q).big :: mapI mb k Mv' :: Res.rd 1 A1 M.length (ints M) :: irow (.slice (some ⟨b2, 0, none⟩) (fillsL M s0 q).l.length parts.toNat) (fillsL M s0 q).l :: L))
    (fun s _ => parts.toNat - (intOf s).toNat) ⟨0, k, Mv', rfl, by omega, by omega, hMc, hS⟩ ?_
  clear hS hMc Mv' hk k
  rintro s w ⟨q, k, Mv', rfl, hq, hk, hMc, hS⟩
  unfold m88_10
  refine valP_ok (lss_ok _ _ _ _ _ _ _) ?_
  unfold m88_11
  obtain ⟨hok, hcp, hll2, hlm⟩ := hFok q (by omega)
  refine cond_split (fun h => ?_) (fun h => ?_)
  · have hlt : q < (fillsL M s0 q).l.length := by omega
    have hstep : fillsL M s0 (q + 1) = (let s := fillsL M s0 q
      if s.l[q]'hlt = 0 then ⟨s.big, upC s.C (fewest s.C M[0] (M.drop 1)), s.l.set q (fewest s.C M[0] (M.drop 1))⟩ else s) := by
      show (let s := fillsL M s0 q
        if s.l[q]! = 0 then _ else _) = _
      simp only
      rw [getElem!_pos _ q hlt, getElem!_pos M 0 (by omega)]
    simp only at hstep
    have hf := fewest_in (C := (fillsL M s0 q).C) (M := M) (by omega)
    rw [getElem!_pos M 0 (by omega)] at hf
    have hfc := hcp (fewest (fillsL M s0 q).C M[0] (M.drop 1))
    have hfb := hMb _ hf
    have hfc0 := hok.cnt (fewest (fillsL M s0 q).C M[0] (M.drop 1))
    have hfe : fewest (fillsL M s0 q).C M[0] (M.drop 1) = fewest (fillsL M s0 q).C M[0] (M.drop 1) := rfl
    generalize fillsL M s0 q = s at *
    unfold m88_12
    have hc := hS.row_cell 3 rfl (ints_get hlt)
    unfold m88_14
    refine valP_ok (ixz28 (by omega) _) ?_
    first | refine valP_ok (ld3 (hS.cell 0 rfl rfl)) ?_ | refine valP_ok (ld3 (hS.cell 1 rfl rfl)) ?_ | refine valP_ok (ld3 (hS.cell 2 rfl rfl)) ?_ | refine valP_ok (ld3 (hS.cell 3 rfl rfl)) ?_ | refine valP_ok (ld3 (hS.cell 4 rfl rfl)) ?_ | refine valP_ok (ld3 (by assumption)) ?_
    refine valP_ok (eq3 _ _ _ _ _) ?_
    unfold m88_15
    refine cond_split (fun hz => ?_) (fun hz => ?_)
    · rw [if_pos hz] at hstep
      refine callR (by kernel_rfl) (least_ret hok hMc (by omega) hS) ?_
      rintro v w ⟨rfl, hS⟩
      refine valP_ok (ixz28 (by omega) _) ?_
      refine set_irow 3 hS rfl hlt ?_
      intro w hS
      simp only [List.set_cons_zero, List.set_cons_succ] at hS
      unfold m88_16
      refine drawn_ok hS ?_
      intro w hS
      have hlt3 : q < (s.l.set q (fewest s.C M[0] (M.drop 1))).length := by rw [List.length_set]; exact hlt
      have hc2 := hS.row_cell 3 rfl (ints_get hlt3)
      rw [List.getElem_set_self] at hc2
      refine nil_ok ?_
      first | refine valS_ok (fa131_1 _ _) ?_ | refine valS_ok (fao131_1 _ _ _) ?_
      first | refine valS_ok (ld129 (hS.cell 0 rfl rfl)) ?_ | refine valS_ok (ld129 (hS.cell 1 rfl rfl)) ?_ | refine valS_ok (ld129 (hS.cell 2 rfl rfl)) ?_ | refine valS_ok (ld129 (hS.cell 3 rfl rfl)) ?_ | refine valS_ok (ld129 (hS.cell 4 rfl rfl)) ?_ | refine valS_ok (ld129 (by assumption)) ?_
      refine valS_ok (ixz28 (by omega) _) ?_
      first | refine valS_ok (ld3 (hS.cell 0 rfl rfl)) ?_ | refine valS_ok (ld3 (hS.cell 1 rfl rfl)) ?_ | refine valS_ok (ld3 (hS.cell 2 rfl rfl)) ?_ | refine valS_ok (ld3 (hS.cell 3 rfl rfl)) ?_ | refine valS_ok (ld3 (hS.cell 4 rfl rfl)) ?_ | refine valS_ok (ld3 (by assumption)) ?_
      refine valS_ok (look_run (map_get 1 hS rfl) hMc (wf_of hfb.1 hfb.2)) ?_
      refine valS_ok (add_ok _ _ _ (by omega) (by omega) _) ?_
      refine upd_at 1 hS rfl hMc (by omega) (wf_of hfb.1 hfb.2) (wf_of (by omega) (by omega)) ?_
      intro Mv2 w hMc2 hS
      simp only [List.set_cons_zero, List.set_cons_succ] at hS
      unfold m88_13
      refine valP_ok (add_ok _ _ _ (by omega) (by omega) _) ?_
      exact ⟨⟨q + 1, k + 1, Mv2, rfl, by omega, by omega, by rw [hstep]; exact hMc2, by rw [hstep]; exact hS⟩, by simp [intOf]; omega⟩
    · rw [if_neg hz] at hstep
      unfold m88_13
      refine valP_ok (add_ok _ _ _ (by omega) (by omega) _) ?_
      exact ⟨⟨q + 1, k, Mv', rfl, by omega, by omega, by rw [hstep]; exact hMc, by rw [hstep]; exact hS⟩, by simp [intOf]; omega⟩
  · have hqe : q = parts.toNat := by omega
    subst hqe
    unfold m88_7 m88_8
    show ite _ _ _
    rw [if_neg hbad, hst]
    have hS := St_sub hS (.cons _ (.cons _ (.cons _ (.cons_cons _ (.refl L)))))
    refine ⟨_, _, ?_, hS⟩
    rw [hll2]

end Go.Proofs.Ytjjmlopmemmobaa.M
