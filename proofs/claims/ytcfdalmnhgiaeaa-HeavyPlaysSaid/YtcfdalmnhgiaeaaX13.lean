/- As long as there are no more keys than may be counted, all is exact. -/
import Derived.Test.YtcfdalmnhgiaeaaX12
import Derived.Laws.BitsLemmas
namespace Go.Proofs.Ytcfdalmnhgiaeaa.M
open Go.Proofs.Ytcfdalmnhgiaeaa.F Go.RowKit
set_option linter.unusedVariables false
set_option linter.unusedSimpArgs false
set_option maxRecDepth 100000
set_option maxHeartbeats 2000000
attribute [local irreducible] Res.cells Res.row Res.map Res.any World.cell? World.frozen? Instr.fieldAt Instr.loadAt Instr.storeAt Instr.indexAt Instr.lookup Instr.mapUpdate Instr.box Instr.build Instr.buildSlice Instr.extract Instr.alloc Instr.field Instr.index Instr.sliceAt Instr.makeSlice Instr.makeMap Instr.makeFunc binS Op.unary Sem.run
theorem and15_eq (n : Int) : bits .and .i64 n 15 = n % 16 := by
  have h15 : (BitVec.ofInt 64 15).toNat = 2 ^ 4 - 1 := by decide
  have e : (BitVec.ofInt 64 n &&& BitVec.ofInt 64 15).toNat = (n % ((2 ^ 64 : Nat) : Int)).toNat % 2 ^ 4 := by
    rw [BitVec.toNat_and, h15, Nat.and_two_pow_sub_one_eq_mod, BitVec.toNat_ofInt]
  have e2 : bits .and .i64 n 15 = IntKind.i64.wrap ((BitVec.ofInt 64 n &&& BitVec.ofInt 64 15).toNat : Nat) := rfl
  rw [e2, e, IntKind.wrap_i64]
  omega
theorem and15_ok {P : Program} {T : TypeId} {x y : Operand} (a : Int) (w : World) : (binS .and T x y (.int .i64 a) (.int .i64 15)).run P w = .ok (.int .i64 (a % 16)) w := by
  rw [binS_run _ _ _ _ _ _ (by simp [eqGuard])]
  simp [binOp, go_sem, and15_eq]
theorem pigeon : ∀ (m : Nat) (l : List Int), l.Nodup → (∀ x ∈ l, 0 ≤ x ∧ x < (m : Int)) → l.length ≤ m
  | 0, l, _, hb => by
    cases l with
    | nil => simp
    | cons a l => have := hb a (.head _); omega
  | m + 1, l, hn, hb => by
    have ih := pigeon m (l.erase (m : Int)) (hn.sublist List.erase_sublist) (fun x hx => by
      have h := (hn.mem_erase_iff).1 hx
      have := hb x h.2
      have h1 := h.1
      omega)
    rw [List.length_erase] at ih
    split at ih <;> omega
/-- All is exact. -/
structure Ex (ks : List Int) (l : List Ta) : Prop where
  each : ∀ t ∈ l, t.over = 0 ∧ t.n = tm ks t.key ∧ 0 ≤ t.key ∧ t.key < 16
  out : ∀ q, (∀ t ∈ l, t.key ≠ q) → tm ks q = 0
theorem Ex.step {n : Int} {ks : List Int} {l : List Ta} (hok : HOk 16 n l) (h : Ex ks l) {key : Int} (hk : 0 ≤ key ∧ key < 16) : Ex (ks ++ [key]) (addOne 16 l key) := by
  have hkd := List.pairwise_iff_getElem.1 hok.keys
  unfold addOne
  split
  · rename_i i hi
    obtain ⟨hlt, hkey, _⟩ := List.findIdx?_eq_some_iff_getElem.1 hi
    have hkey : l[i].key = key := by simpa using hkey
    rw [getElem!_pos l i hlt]
    have hmi := List.getElem_mem hlt
    have hother : ∀ j (hj : j < l.length), j ≠ i → l[j].key ≠ key := fun j hj hne => by
      rw [← hkey]
      rcases Nat.lt_or_ge j i with c | c
      · exact hkd j i hj hlt c
      · exact fun e => hkd i j hlt hj (by omega) e.symm
    refine ⟨fun t ht => ?_, fun q hq => ?_⟩
    · rw [tm_snoc]
      rcases mem_set_cases ht with rfl | ⟨j, hj, hne, rfl⟩
      · have := h.each _ hmi
        simp only
        rw [if_pos hkey.symm]
        omega
      · rw [if_neg (fun e => hother j hj hne e.symm)]
        have := h.each _ (List.getElem_mem hj)
        omega
    · have hq0 : ∀ t ∈ l, t.key ≠ q := fun t ht => by
        obtain ⟨j, hj, rfl⟩ := List.mem_iff_getElem.1 ht
        by_cases e : j = i
        · subst e; exact hq ⟨l[j].key, l[j].n + 1, l[j].over⟩ (self_mem_set hlt)
        · exact hq _ (mem_of_set hj e)
      rw [tm_snoc, h.out q hq0, if_neg (fun e => hq0 _ hmi (hkey.trans e))]; rfl
  · rename_i hnf
    have hno : ∀ t ∈ l, t.key ≠ key := fun t ht => by simpa using List.findIdx?_eq_none_iff.1 hnf t ht
    split
    · refine ⟨fun t ht => ?_, fun q hq => ?_⟩
      · rw [tm_snoc]
        rcases List.mem_append.1 ht with ht | ht
        · rw [if_neg (fun e => hno t ht e.symm)]
          have := h.each t ht; omega
        · obtain rfl := List.mem_singleton.1 ht
          have := h.out key hno
          simp [this]
          omega
      · rw [tm_snoc, h.out q (fun t ht => hq t (List.mem_append_left _ ht)), if_neg (hq _ (List.mem_append_right _ (.head _)))]; rfl
    · rename_i hroom
      exfalso
      have hn : (key :: l.map Ta.key).Nodup := by
        refine List.nodup_cons.2 ⟨fun hm => ?_, ?_⟩
        · obtain ⟨t, ht, e⟩ := List.mem_map.1 hm
          exact hno t ht e
        · exact List.pairwise_map.2 hok.keys
      have := pigeon 16 _ hn (fun x hx => by
        rcases List.mem_cons.1 hx with rfl | hx
        · omega
        · obtain ⟨t, ht, rfl⟩ := List.mem_map.1 hx
          have := h.each t ht; omega)
      simp at this
      omega
theorem ex_all (ks : List Int) (hb : ∀ x ∈ ks, 0 ≤ x ∧ x < 16) (hl : ks.length ≤ 1000000) : Ex ks (addAll 16 [] ks) := by
  have : ∀ r : List Int, (∀ x ∈ r, 0 ≤ x ∧ x < 16) → r.length ≤ 1000000 → Ex r.reverse (addAll 16 [] r.reverse) := fun r => by
    induction r with
    | nil => intro _ _; exact ⟨by simp [addAll], by simp [tm]⟩
    | cons a r ih =>
      intro hb hr
      rw [List.reverse_cons, addAll_snoc]
      simp only [List.length_cons] at hr
      exact Ex.step (n := 0 + r.reverse.length) ((HOk.start (by omega) (by omega)).all _ (by rw [List.length_reverse]; omega)) (ih (fun x hx => hb x (.tail _ hx)) (by omega)) (hb a (.head _))
  have := this ks.reverse (fun x hx => hb x (List.mem_reverse.1 hx)) (by rw [List.length_reverse]; exact hl)
  rwa [List.reverse_reverse] at this
theorem ex_count {n : Int} {ks : List Int} {l : List Ta} (hok : HOk 16 n l) (h : Ex ks l) (key : Int) : (countI 16 l key).1 = tm ks key ∧ ((countI 16 l key).2 = tm ks key ∨ l.length = 16) ∧ tm ks key ≤ (countI 16 l key).2 := by
  unfold countI
  split
  · rename_i i hi
    obtain ⟨hlt, hkey, _⟩ := List.findIdx?_eq_some_iff_getElem.1 hi
    have hkey : l[i].key = key := by simpa using hkey
    rw [getElem!_pos l i hlt]
    have := h.each _ (List.getElem_mem hlt)
    rw [hkey] at this
    simp only
    omega
  · rename_i hnf
    have hno : ∀ t ∈ l, t.key ≠ key := fun t ht => by simpa using List.findIdx?_eq_none_iff.1 hnf t ht
    have h0 := h.out key hno
    split
    · simp only; omega
    · have hlt := lightIx_lt (l := l) (by omega)
      rw [getElem!_pos l _ hlt]
      have := hok.each _ (List.getElem_mem hlt)
      have := hok.len
      simp only; omega
theorem exact_ret {w : World} {A : Option Addr} {c : Nat} {l : List Int} (hc : l.length ≤ c) (hr : Rd w 1 A l.length (ints l)) :
    Ret Try.prog 7 #[.slice A l.length c] w fun v w' => v = .bool true ∧ Below w.heap.size w w' := by
  refine s7 _ ?_
  unfold m7 m7_0
  unfold m7_1
  refine callR (by kernel_rfl) (some_ret A c l w hc) ?_
  rintro v w ⟨rfl, rfl⟩
  have hS := St.start w
  have hr := Rd.take_ints hr 400
  have hl : (l.take 400).length ≤ 400 := by rw [List.length_take]; omega
  generalize l.take 400 = l at hr hl ⊢
  unfold m7_2
  refine callR (by kernel_rfl) (new_ret (most := 16) hS) ?_
  intro v w hv
  rw [if_neg (by omega)] at hv
  obtain ⟨b, rfl, hS⟩ := hv
  refine valP_ok (extract_ok _ 0 rfl _) ?_
  refine valP_ok (extract_ok _ 1 rfl _) ?_
  unfold m7_3
  refine valP_ok (ne25 _ _ _ _ _) ?_
  refine cond_df (by simp) ?_
  first | refine valP_ok (eq24n _ _ _) ?_ | refine valP_ok (eq24s _ _ _ _) ?_
  first | refine pick_dt (by first | assumption | omega) ?_ | refine pick_df (by first | assumption | omega) ?_ | refine pick_t (by first | rfl | assumption) ?_ | refine pick_f (by first | rfl | assumption) ?_
  unfold m7_24
  refine cond_f rfl ?_
  unfold m7_4
  unfold m7_5
  unfold m7_19
  have hS := hS.row_nil 3 1
  obtain ⟨ks, hks⟩ : ∃ ks, ks = l.map (· % 16) := ⟨_, rfl⟩
  have hget : ∀ i (hi : i < l.length) (hk : i < ks.length), ks[i] = l[i] % 16 := fun i hi hk => by subst hks; simp
  have hin : ∀ x ∈ ks, 0 ≤ x ∧ x < 16 := fun x hx => by subst hks; obtain ⟨y, _, rfl⟩ := List.mem_map.1 hx; omega
  have hKl : ks.length = l.length := by subst hks; simp
  clear hks
  refine loop_in (fun s w' => ∃ i : Nat, i ≤ ks.length ∧ ∃ A' c', s = (.slice A' (ks.take i).length c', .int .i64 i) ∧ St _ [] w' (Res.row 3 1 (.slice A' (ks.take i).length c') (ks.take i).length (ints (ks.take i)) :: hcl b 16 0 (.slice none 0 0) :: hrow (.slice none 0 0) [] :: []))
    (fun s _ => l.length - (intOf s.2).toNat) ⟨0, by omega, none, 0, rfl, hS⟩ ?_
  clear hS
  rintro s w6 ⟨i, hi, A2, c2, rfl, hS⟩
  unfold m7_20
  refine builtin_ok (len22 _) ?_
  refine valP_ok (lss_ok _ _ _ _ _ _ _) ?_
  unfold m7_23
  refine cond_split (fun h => ?_) (fun h => ?_)
  · have hlt : i < l.length := by omega
    obtain ⟨g, o, rfl⟩ := hr.some_ (by omega) (by omega)
    have hro := hr.old0 hS
    have hc := hro.cell_ (ints_get hlt)
    have e : ks.take (i + 1) = ks.take i ++ [l[i] % 16] := by rw [List.take_succ_eq_append_getElem (show i < ks.length by omega), hget i hlt]
    have el : (ks.take i).length = i := by rw [List.length_take]; omega
    have el1 : (ks.take (i + 1)).length = i + 1 := by rw [List.length_take]; omega
    unfold m7_21
    first | refine valP_ok (ixz22 (by first | assumption | omega) _) ?_ | refine valP_ok (ix22 (by first | assumption | omega) _) ?_
    first | refine valP_ok (ld3 (hS.cell 0 rfl rfl)) ?_ | refine valP_ok (ld3 (hS.cell 1 rfl rfl)) ?_ | refine valP_ok (ld3 (hS.cell 2 rfl rfl)) ?_ | refine valP_ok (ld3 (hS.cell 3 rfl rfl)) ?_ | refine valP_ok (ld3 (hS.cell 4 rfl rfl)) ?_ | refine valP_ok (ld3 (by assumption)) ?_
    refine valP_ok (and15_ok _ _) ?_
    refine newslice_ok (bs22_1 rfl _) hS ?_
    intro b35 w hS
    refine append_ok 1 sl22 hS rfl (m := 1) (news := [.int .i64 (l[i] % 16)]) rfl (fun j u hj => ?_) (by simp [Value.oneCell']) (by unfold maxLen; omega) (by omega) ?_
    · rw [add_none, Nat.zero_add]
      exact hS.cell 0 rfl hj
    intro A' c' w hS
    simp only [List.set_cons_zero, List.set_cons_succ] at hS
    have hS := hS.tail
    unfold m7_22
    refine valP_ok (add_ok _ _ _ (by omega) (by omega) _) ?_
    refine ⟨⟨i + 1, by omega, A', c', by rw [el, el1]; rfl, ?_⟩, by simp [intOf]; omega⟩
    have e2 : ints (ks.take (i + 1)) = ints (ks.take i) ++ [.int .i64 (l[i] % 16)] := by rw [e]; simp [ints]
    rw [e2, el1]
    rw [el] at hS
    exact hS
  have : i = ks.length := by omega
  subst this
  rw [List.take_length] at hS ⊢
  clear h hi
  have hS := hS.perm (perm3 _ _ _ _)
  have hok := (HOk.start (most := 16) (by omega) (by omega)).all ks (by omega)
  unfold m7_6
  refine callR (by kernel_rfl) (add_ret (l := []) (keys := ks) hS (HOk.start (by omega) (by omega)) (Bes.of_row 0 rfl) (by omega)) ?_
  intro v w hv
  rw [if_neg (by omega)] at hv
  obtain ⟨rfl, A3, c3, hS⟩ := hv
  have hcnt := fun q => ex_count hok (ex_all ks hin (by omega)) q
  unfold m7_7
  unfold m7_10
  refine loop_in (fun s w' => ∃ k : Int, s = .int .i64 k ∧ -1 ≤ k ∧ k ≤ 17 ∧ ∃ T, St _ [] w' (hcl b 16 (0 + (ks.length : Int)) (.slice A3 (addAll 16 [] ks).length c3) :: hrow (.slice A3 (addAll 16 [] ks).length c3) (addAll 16 [] ks) :: Res.row 3 1 (.slice A2 ks.length c2) ks.length (ints ks) :: T))
    (fun s _ => (17 - intOf s).toNat) ⟨-1, rfl, by omega, by omega, [], hS⟩ ?_
  clear hS
  rintro s w7 ⟨k, rfl, hk1, hk2, T, hS⟩
  unfold m7_11
  refine valP_ok (leq_ok _ _ _ _ _ _ _) ?_
  unfold m7_18
  refine cond_split (fun h => ?_) (fun h => ?_)
  · obtain ⟨f1, f2, f3⟩ := hcnt k
    unfold m7_12
    refine callR (by kernel_rfl) (count_ret hok hS) ?_
    rintro v w8 ⟨rfl, hS⟩
    refine valP_ok (extract_ok _ 0 rfl _) ?_
    refine valP_ok (extract_ok _ 1 rfl _) ?_
    unfold m7_14
    refine callR (by kernel_rfl) (times_ret _ _ _ _ _ (hS.row_rd 2 rfl) (by omega)) ?_
    rintro v w9 ⟨rfl, rfl⟩
    unfold m7_15
    refine valP_ok (ne3 _ _ _ _ _) ?_
    refine cond_df (by omega) ?_
    refine valP_ok (ne3 _ _ _ _ _) ?_
    refine cond_split (fun hne => ?_) (fun hne => ?_)
    · refine callR (by kernel_rfl) (top_ret 16 hok hS) ?_
      rintro v w10 ⟨A4, c4, rfl, hS⟩
      have e16 : ((topL (addAll 16 [] ks)).take (16 : Int).toNat).length = 16 := by
        have : (addAll 16 [] ks).length = 16 := by omega
        rw [List.length_take, (topL_perm _).length_eq, this]; rfl
      rw [e16] at hS ⊢
      have hS := hS.perm (((perm3 _ _ _ _).trans (((List.Perm.swap _ _ _).cons _).cons _)))
      refine builtin_ok (len28 _) ?_
      refine valP_ok (lss_ok _ _ _ _ _ _ _) ?_
      refine pick_dt hne ?_
      refine pick_df (by omega) ?_
      refine cond_df (by omega) ?_
      refine valP_ok (lss_ok _ _ _ _ _ _ _) ?_
      refine pick_df (by omega) ?_
      unfold m7_16
      refine cond_df (by omega) ?_
      unfold m7_13
      refine valP_ok (add_ok _ _ _ (by omega) (by omega) _) ?_
      exact ⟨⟨k + 1, rfl, by omega, by omega, _, hS⟩, by simp [intOf]; omega⟩
    · refine pick_df hne ?_
      refine pick_df (by omega) ?_
      refine cond_f rfl ?_
      refine valP_ok (lss_ok _ _ _ _ _ _ _) ?_
      refine pick_f rfl ?_
      unfold m7_16
      refine cond_df (by omega) ?_
      unfold m7_13
      refine valP_ok (add_ok _ _ _ (by omega) (by omega) _) ?_
      exact ⟨⟨k + 1, rfl, by omega, by omega, _, hS⟩, by simp [intOf]; omega⟩
  · unfold m7_8
    refine callR (by kernel_rfl) (awake_ret hS) ?_
    rintro v w6 ⟨rfl, hS⟩
    unfold m7_9
    exact ⟨rfl, hS.below⟩

end Go.Proofs.Ytcfdalmnhgiaeaa.M
