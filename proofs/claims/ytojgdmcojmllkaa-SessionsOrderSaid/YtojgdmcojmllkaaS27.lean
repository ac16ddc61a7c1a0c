/- SessionsOrder: which sessions there are does not hang on the order. -/
import Derived.Test.YtojgdmcojmllkaaS24
import Derived.Test.YtojgdmcojmllkaaMld0
namespace Go.Proofs.Ytojgdmcojmllkaa.M
open Go.Proofs.Ytojgdmcojmllkaa.F Go.RowKit
set_option linter.unusedVariables false
set_option linter.unusedSimpArgs false
set_option maxRecDepth 100000
set_option maxHeartbeats 2000000
attribute [local irreducible] Res.cells Res.row Res.map Res.any World.cell? World.frozen? Instr.fieldAt Instr.loadAt Instr.storeAt Instr.indexAt Instr.lookup Instr.mapUpdate Instr.box Instr.build Instr.buildSlice Instr.extract Instr.alloc Instr.field Instr.index Instr.sliceAt Instr.makeSlice Instr.makeMap Instr.makeFunc binS Op.unary Sem.run
theorem and_bnd (n : Int) (m : Nat) (hm : m < 9223372036854775808) : 0 ≤ Go.bits .and .i64 n (m : Int) ∧ Go.bits .and .i64 n (m : Int) ≤ m := by
  have e : Go.bits .and .i64 n (m : Int) = IntKind.i64.wrap ((BitVec.ofInt 64 n &&& BitVec.ofInt 64 (m : Int)).toNat : Int) := rfl
  have e2 : (BitVec.ofInt 64 n &&& BitVec.ofInt 64 (m : Int)).toNat ≤ m := by
    rw [BitVec.toNat_and]
    refine Nat.le_trans Nat.and_le_right ?_
    rw [BitVec.ofInt_natCast, BitVec.toNat_ofNat]
    exact Nat.mod_le _ _
  rw [e, IntKind.wrap_i64]
  omega
def normI (x : In) : In := ⟨Go.bits .and .i64 x.key 3, ⟨Go.bits .and .i64 x.e.t 65535, x.e.v⟩⟩
theorem normI_ok (x : In) : (0 ≤ (normI x).key ∧ (normI x).key ≤ 3) ∧ (0 ≤ (normI x).e.t ∧ (normI x).e.t ≤ 65535) := ⟨and_bnd x.key 3 (by omega), and_bnd x.e.t 65535 (by omega)⟩
theorem encI_one : ∀ x, ∀ u ∈ encI x, u.oneCell' = true := fun x u hu => by
  simp only [List.mem_cons, List.not_mem_nil, or_false] at hu
  rcases hu with rfl | rfl | rfl <;> rfl
abbrev inrow (v : Value) (l : List In) : Res := Res.row 54 3 v l.length (l.flatMap encI)
theorem runs_ex {g : Gp} (hg : GapOk g) {l : List In} (hl : l.length ≤ 1000) (h : ∀ x ∈ l, (0 ≤ x.key ∧ x.key ≤ 1048576) ∧ (0 ≤ x.e.t ∧ x.e.t ≤ 1099511627776)) : ∀ n, n ≤ l.length → ∃ f all, Runs g (l.take n) f all ∧ f.late ≤ n
  | 0, _ => ⟨zeroF, [], .nil, by simp [zeroF]⟩
  | n + 1, hn => by
    obtain ⟨f, all, hr, hf⟩ := runs_ex hg hl h n (by omega)
    have hx := h l[n] (List.getElem_mem (by omega))
    rw [List.take_succ_eq_append_getElem (by omega)]
    refine ⟨_, _, .snoc hr ⟨⟨(hr.flow hg).1, hx.1, hx.2⟩, by omega⟩, ?_⟩
    show (if Drop g f l[n].key l[n].e then f.late + 1 else f.late) ≤ _
    split <;> omega
theorem runs_quiet {g : Gp} (hg : GapOk g) (hg2 : 1048576 ≤ g.late) {l : List In} (h : ∀ x ∈ l, x.e.t ≤ 65535) {f : Fl} {all : List Se} (hr : Runs g l f all) : all = [] := by
  cases all with
  | nil => rfl
  | cons s r =>
    obtain ⟨h1, h2⟩ := (hr.flow hg).2 s (.head _)
    have hm := hr.mark
    have hlen := h2.len
    have ht := h2.time (s.l.length - 1) (by omega)
    rw [← lT_eq (by omega)] at ht
    have hgap := hg.gap
    unfold OverT at h1
    rcases hm.2.2.1 with e | ⟨x, hx, e⟩
    · omega
    · have := h x hx
      omega
def rotI (a : Int) (n : Nat) : Nat := ((a.tmod n + n) % n).toNat
theorem rotI_spec (a : Int) {n : Nat} (hn : 0 < n) : rotI a n < n ∧ (a.tmod n + n) % n = (rotI a n : Int) ∧ 0 ≤ a.tmod n + n ∧ a.tmod n + n < 2 * n := by
  have h := tmod_bounds a (b := n) (by omega)
  have h1 := Int.emod_nonneg (a.tmod n + n) (b := n) (by omega)
  have h2 := Int.emod_lt_of_pos (a.tmod n + n) (b := n) (by omega)
  unfold rotI
  omega
section
variable {w0 : World} {A : Option Addr} {c : Nat} {l : List In}
theorem sorder_ret {gap turn : Int} (htu : -9223372036854775808 ≤ turn ∧ turn ≤ 9223372036854775807) (hl : Rd w0 3 A l.length (l.flatMap encI)) (hc : l.length ≤ c) : Ret Try.prog 6 #[.int .i64 gap, .slice A l.length c, .int .i64 turn] w0 fun v w' => v = .bool true ∧ Below w0.heap.size w0 w' := by
  have hS := St.start w0
  refine s6 _ _ _ ?_
  unfold m6
  unfold m6_0
  unfold m6_1
  refine valP_ok (and_ok _ _ _ _ _ _) ?_
  obtain ⟨ga, hga⟩ : ∃ ga, ga = Go.bits .and .i64 gap 1023 := ⟨_, rfl⟩
  rw [← hga]
  have hgb : 0 ≤ ga ∧ ga ≤ 1023 := by rw [hga]; exact and_bnd gap 1023 (by omega)
  refine valP_ok (bd23_0_1 rfl rfl _) ?_
  refine new_ok (al23 _) hS ?_
  intro b7 w hS
  first | refine ss23 0 hS rfl rfl rfl ?_ | refine ss23 1 hS rfl rfl rfl ?_ | refine ss23 2 hS rfl rfl rfl ?_ | refine ss23 3 hS rfl rfl rfl ?_ | refine ss23 4 hS rfl rfl rfl ?_ | refine ss23 5 hS rfl rfl rfl ?_ | refine ss23 6 hS rfl rfl rfl ?_ | refine ss23 7 hS rfl rfl rfl ?_
  intro w hS
  simp only [List.set_cons_zero, List.set_cons_succ] at hS
  have hg : GapOk ⟨ga, 1048576⟩ := ⟨by simp only; omega, by simp only; omega⟩
  have hS : St w0 [] w [gC b7 ⟨ga, 1048576⟩] := hS
  unfold m6_2
  refine builtin_ok (len44 _) ?_
  refine valP_ok (gtr_ok _ _ _ _ _ _ _) ?_
  have main : ∀ (ls : List In), ls.length ≤ 50 → Rd w0 3 A ls.length (ls.flatMap encI) → ∀ w, St w0 [] w [gC b7 ⟨ga, 1048576⟩] → m6_3 (fun v w' => v = .bool true ∧ Below w0.heap.size w0 w') (.slice A ls.length c) (.int .i64 turn) (.pointer (some ⟨b7, 0, none⟩)) w := by
    clear hS hl hc
    intro ls hls hl w hS
    unfold m6_3 m6_4 m6_22
    have hS : St w0 [] w (inrow (.slice none ((ls.take 0).map normI).length 0) ((ls.take 0).map normI) :: [gC b7 ⟨ga, 1048576⟩]) := hS.row_nil 54 3
    refine loop_in (fun u w' => ∃ (i : Nat) (Aa : Option Addr) (ca : Nat), u = (.slice Aa ((ls.take i).map normI).length ca, .int .i64 (i : Int)) ∧ i ≤ ls.length ∧ St w0 [] w' (inrow (.slice Aa ((ls.take i).map normI).length ca) ((ls.take i).map normI) :: [gC b7 ⟨ga, 1048576⟩])) (fun u _ => ls.length - (intOf u.2).toNat) ⟨0, none, 0, rfl, by omega, hS⟩ ?_
    clear hS
    rintro u w ⟨i, Aa, ca, rfl, hi, hS⟩
    simp only
    have tl : ((ls.take i).map normI).length ≤ 50 := by rw [List.length_map, List.length_take]; omega
    unfold m6_23
    refine builtin_ok (len44 _) ?_
    refine valP_ok (lss_ok _ _ _ _ _ _ _) ?_
    unfold m6_29
    refine cond_split (fun h => ?_) (fun h => ?_)
    · have hlt : i < ls.length := by omega
      have hr := hl.old0 hS
      obtain ⟨b, o, rfl⟩ := hr.some_ (by omega) (by omega)
      have q0 := hr.struct encI_len hlt (j := 0) (by omega) rfl
      have q1 := hr.struct encI_len hlt (j := 1) (by omega) rfl
      have q2 := hr.struct encI_len hlt (j := 2) (by omega) rfl
      rw [Nat.add_zero] at q0
      unfold m6_24
      refine valP_ok (ix44 hlt _) ?_
      refine valP_ok (ld54 q0 q1 q2) ?_
      refine new_ok (al54 _) hS ?_
      intro b10 w hS
      first | refine ss54 0 hS rfl rfl rfl rfl ?_ | refine ss54 1 hS rfl rfl rfl rfl ?_ | refine ss54 2 hS rfl rfl rfl rfl ?_ | refine ss54 3 hS rfl rfl rfl rfl ?_ | refine ss54 4 hS rfl rfl rfl rfl ?_ | refine ss54 5 hS rfl rfl rfl rfl ?_ | refine ss54 6 hS rfl rfl rfl rfl ?_ | refine ss54 7 hS rfl rfl rfl rfl ?_
      intro w hS
      simp only [List.set_cons_zero, List.set_cons_succ] at hS
      unfold m6_26
      first | refine valP_ok (fa54_0 _ _) ?_ | refine valP_ok (fao54_0 _ _ _) ?_
      first | refine valP_ok (ld3 (hS.cell 0 rfl rfl)) ?_ | refine valP_ok (ld3 (hS.cell 1 rfl rfl)) ?_ | refine valP_ok (ld3 (hS.cell 2 rfl rfl)) ?_ | refine valP_ok (ld3 (hS.cell 3 rfl rfl)) ?_ | refine valP_ok (ld3 (hS.cell 4 rfl rfl)) ?_ | refine valP_ok (ld3 (hS.cell 5 rfl rfl)) ?_ | refine valP_ok (ld3 (hS.cell 6 rfl rfl)) ?_ | refine valP_ok (ld3 (hS.cell 7 rfl rfl)) ?_ | refine valP_ok (ld3 (by assumption)) ?_
      refine valP_ok (and_ok _ _ _ _ _ _) ?_
      first | refine valP_ok (fa54_0 _ _) ?_ | refine valP_ok (fao54_0 _ _ _) ?_
      first | refine store_at 0 st3 hS rfl (by simp) rfl ?_ | refine store_at 1 st3 hS rfl (by simp) rfl ?_ | refine store_at 2 st3 hS rfl (by simp) rfl ?_ | refine store_at 3 st3 hS rfl (by simp) rfl ?_ | refine store_at 4 st3 hS rfl (by simp) rfl ?_ | refine store_at 5 st3 hS rfl (by simp) rfl ?_ | refine store_at 6 st3 hS rfl (by simp) rfl ?_ | refine store_at 7 st3 hS rfl (by simp) rfl ?_
      intro w hS
      simp only [List.set_cons_zero, List.set_cons_succ] at hS
      unfold m6_27
      first | refine valP_ok (fa54_1 _ _) ?_ | refine valP_ok (fao54_1 _ _ _) ?_
      first | refine valP_ok (fa28_0 _ _) ?_ | refine valP_ok (fao28_0 _ _ _) ?_
      first | refine valP_ok (ld3 (hS.cell 0 rfl rfl)) ?_ | refine valP_ok (ld3 (hS.cell 1 rfl rfl)) ?_ | refine valP_ok (ld3 (hS.cell 2 rfl rfl)) ?_ | refine valP_ok (ld3 (hS.cell 3 rfl rfl)) ?_ | refine valP_ok (ld3 (hS.cell 4 rfl rfl)) ?_ | refine valP_ok (ld3 (hS.cell 5 rfl rfl)) ?_ | refine valP_ok (ld3 (hS.cell 6 rfl rfl)) ?_ | refine valP_ok (ld3 (hS.cell 7 rfl rfl)) ?_ | refine valP_ok (ld3 (by assumption)) ?_
      refine valP_ok (and_ok _ _ _ _ _ _) ?_
      first | refine valP_ok (fa54_1 _ _) ?_ | refine valP_ok (fao54_1 _ _ _) ?_
      first | refine valP_ok (fa28_0 _ _) ?_ | refine valP_ok (fao28_0 _ _ _) ?_
      first | refine store_at 0 st3 hS rfl (by simp) rfl ?_ | refine store_at 1 st3 hS rfl (by simp) rfl ?_ | refine store_at 2 st3 hS rfl (by simp) rfl ?_ | refine store_at 3 st3 hS rfl (by simp) rfl ?_ | refine store_at 4 st3 hS rfl (by simp) rfl ?_ | refine store_at 5 st3 hS rfl (by simp) rfl ?_ | refine store_at 6 st3 hS rfl (by simp) rfl ?_ | refine store_at 7 st3 hS rfl (by simp) rfl ?_
      intro w hS
      simp only [List.set_cons_zero, List.set_cons_succ] at hS
      unfold m6_28
      first | refine ls54 0 hS rfl ?_ | refine ls54 1 hS rfl ?_ | refine ls54 2 hS rfl ?_ | refine ls54 3 hS rfl ?_ | refine ls54 4 hS rfl ?_ | refine ls54 5 hS rfl ?_ | refine ls54 6 hS rfl ?_ | refine ls54 7 hS rfl ?_ | refine valP_ok (ld54 (by assumption) (by assumption) (by assumption)) ?_
      refine newslice_ok (bs44_1 _) hS ?_
      intro b51 w hS
      refine append_one1 1 (normI ls[i]) sl44 encI_len encI_one (by unfold maxLen; omega) (by omega) hS rfl ?_
      intro A' c' w hS
      simp only [List.set_cons_zero, List.set_cons_succ] at hS
      have e1 : (ls.take i).map normI ++ [normI ls[i]] = (ls.take (i + 1)).map normI := by rw [List.take_succ_eq_append_getElem hlt, List.map_append]; rfl
      rw [e1] at hS ⊢
      unfold m6_25
      refine valP_ok (add_ok _ _ _ (by omega) (by omega) _) ?_
      exact ⟨⟨i + 1, A', c', rfl, by omega, hS.tail⟩, by simp [intOf]; omega⟩
    · obtain rfl : i = ls.length := by omega
      rw [List.take_length] at hS tl ⊢
      have hal : ∀ x ∈ ls.map normI, (0 ≤ x.key ∧ x.key ≤ 3) ∧ (0 ≤ x.e.t ∧ x.e.t ≤ 65535) := fun x hx => by
        obtain ⟨y, _, rfl⟩ := List.mem_map.1 hx
        exact normI_ok y
      generalize ls.map normI = al at *
      clear hl hls hi h
      unfold m6_5
      unfold m6_6
      refine builtin_ok (len44 _) ?_
      refine valP_ok (sub_ok _ _ _ (by omega) (by omega) _) ?_
      unfold m6_17
      have hS : St w0 [] w (inrow (.slice none ((al.drop al.length).reverse).length 0) ((al.drop al.length).reverse) :: inrow (.slice Aa al.length ca) al :: [gC b7 ⟨ga, 1048576⟩]) := by
        rw [List.drop_length]
        exact hS.row_nil 54 3
      have z0 : ((al.drop al.length).reverse).length = 0 := by simp
      refine loop_in (fun u w' => ∃ (j : Nat) (Ab : Option Addr) (cb : Nat), u = (.slice Ab ((al.drop j).reverse).length cb, .int .i64 ((j : Int) - 1)) ∧ j ≤ al.length ∧ St w0 [] w' (inrow (.slice Ab ((al.drop j).reverse).length cb) ((al.drop j).reverse) :: inrow (.slice Aa al.length ca) al :: [gC b7 ⟨ga, 1048576⟩])) (fun u _ => ((intOf u.2) + 1).toNat) ⟨al.length, none, 0, by rw [z0], Nat.le_refl _, hS⟩ ?_
      clear hS
      rintro u w ⟨j, Ab, cb, rfl, hj, hS⟩
      simp only
      have dl : ((al.drop j).reverse).length ≤ 50 := by rw [List.length_reverse, List.length_drop]; omega
      unfold m6_18
      refine valP_ok (geq_ok _ _ _ _ _ _ _) ?_
      unfold m6_21
      refine cond_split (fun h => ?_) (fun h => ?_)
      · have hj1 : j - 1 < al.length := by omega
        obtain ⟨ga2, hga2⟩ := hS.row_ptr 1 rfl (by omega)
        subst hga2
        have fg := fun q (hq : q < 3) => flat_get encI 3 encI_len al (j - 1) q hj1 hq
        have q0 := hS.row_cell 1 rfl ((fg 0 (by omega)).trans rfl)
        have q1 := hS.row_cell 1 rfl ((fg 1 (by omega)).trans rfl)
        have q2 := hS.row_cell 1 rfl ((fg 2 (by omega)).trans rfl)
        rw [Nat.add_zero] at q0
        unfold m6_19
        rw [show (j : Int) - 1 = ((j - 1 : Nat) : Int) by omega]
        refine valP_ok (ixz44 hj1 _) ?_
        refine valP_ok (ld54 q0 q1 q2) ?_
        refine newslice_ok (bs44_1 _) hS ?_
        intro b65 w hS
        refine append_one1 0 al[j - 1] sl44 encI_len encI_one (by unfold maxLen; omega) (by omega) hS rfl ?_
        intro A' c' w hS
        simp only [List.set_cons_zero, List.set_cons_succ] at hS
        have e1 : (al.drop j).reverse ++ [al[j - 1]] = (al.drop (j - 1)).reverse := by
          rw [List.drop_eq_getElem_cons hj1, List.reverse_cons, show j - 1 + 1 = j by omega]
        rw [e1] at hS ⊢
        unfold m6_20
        refine valP_ok (sub_ok _ _ _ (by omega) (by omega) _) ?_
        exact ⟨⟨j - 1, A', c', rfl, by omega, hS⟩, by simp [intOf] <;> omega⟩
      · obtain rfl : j = 0 := by omega
        rw [List.drop_zero] at hS dl ⊢
        have hp0 : al.reverse.Perm al := List.reverse_perm al
        have last : ∀ w Ab cb (bl : List In), bl.Perm al → St w0 [] w (inrow (.slice Ab bl.length cb) bl :: inrow (.slice Aa al.length ca) al :: [gC b7 ⟨ga, 1048576⟩]) → m6_8 (fun v w' => v = .bool true ∧ Below w0.heap.size w0 w') (.pointer (some ⟨b7, 0, none⟩)) (.slice Aa al.length ca) (.slice Ab bl.length cb) w := by
          clear hS dl h hj z0 hp0
          intro w Ab cb bl hperm hS
          have hbn : bl.length = al.length := hperm.length_eq
          obtain ⟨fa, alla, hra, hla⟩ := runs_ex hg (l := al) (by omega) (fun x hx => by have := hal x hx; omega) al.length (Nat.le_refl _)
          rw [List.take_length] at hra
          obtain ⟨fb, allb, hrb, hlb⟩ := runs_ex hg (l := bl) (by omega) (fun x hx => by have := hal x (hperm.mem_iff.1 hx); omega) bl.length (Nat.le_refl _)
          rw [List.take_length] at hrb
          obtain rfl := runs_quiet hg (by simp only; omega) (fun x hx => (hal x hx).2.2) hra
          obtain rfl := runs_quiet hg (by simp only; omega) (fun x hx => (hal x (hperm.mem_iff.1 hx)).2.2) hrb
          unfold m6_8
          first | refine ls23 0 hS rfl ?_ | refine ls23 1 hS rfl ?_ | refine ls23 2 hS rfl ?_ | refine ls23 3 hS rfl ?_ | refine ls23 4 hS rfl ?_ | refine ls23 5 hS rfl ?_ | refine ls23 6 hS rfl ?_ | refine ls23 7 hS rfl ?_ | refine valP_ok (ld23 (by assumption) (by assumption)) ?_
          refine callR (by kernel_rfl) (run_ret (g := ⟨ga, 1048576⟩) (l := al) (by omega) hS (Bes.of_row 1 rfl)) ?_
          rintro v w (⟨f, all, A1, c1, l1, A2, c2, l2, N, hr, rfl, e1, e2, hn, hS, ho, hE⟩ | ⟨er, he, hno, rfl, hS⟩)
          rotate_left
          · exact absurd ⟨_, _, hra⟩ hno
          obtain ⟨rfl, rfl⟩ := hr.det hra
          have z2 : l2 = [] := List.eq_nil_of_length_eq_zero (by have := congrArg List.length e2; simpa using this)
          subst z2
          have hS : St w0 [] w (inrow (.slice Ab bl.length cb) bl :: inrow (.slice Aa al.length ca) al :: gC b7 ⟨ga, 1048576⟩ :: (srow (.slice A2 ([] : List Sq).length c2) [] :: (N ++ []))) := St.swap (A := srow (.slice A2 ([] : List Sq).length c2) [] :: N) (B := [_, _, _]) (L := []) hS
          refine valP_ok (extract_ok _ 0 rfl _) ?_
          refine valP_ok (extract_ok _ 1 rfl _) ?_
          refine valP_ok (extract_ok _ 2 rfl _) ?_
          refine new_ok (al26 _) hS ?_
          intro b15 w hS
          first | refine ss26 0 hS rfl rfl rfl rfl ?_ | refine ss26 1 hS rfl rfl rfl rfl ?_ | refine ss26 2 hS rfl rfl rfl rfl ?_ | refine ss26 3 hS rfl rfl rfl rfl ?_ | refine ss26 4 hS rfl rfl rfl rfl ?_ | refine ss26 5 hS rfl rfl rfl rfl ?_ | refine ss26 6 hS rfl rfl rfl rfl ?_ | refine ss26 7 hS rfl rfl rfl rfl ?_
          intro w hS
          simp only [List.set_cons_zero, List.set_cons_succ] at hS
          unfold m6_9
          first | refine ls23 0 hS rfl ?_ | refine ls23 1 hS rfl ?_ | refine ls23 2 hS rfl ?_ | refine ls23 3 hS rfl ?_ | refine ls23 4 hS rfl ?_ | refine ls23 5 hS rfl ?_ | refine ls23 6 hS rfl ?_ | refine ls23 7 hS rfl ?_ | refine valP_ok (ld23 (by assumption) (by assumption)) ?_
          have hN : ∀ r ∈ N, r ∈ srow (.slice A2 ([] : List Sq).length c2) [] :: (N ++ []) := fun r hr => .tail _ (List.mem_append_left _ hr)
          generalize hY : srow (.slice A2 ([] : List Sq).length c2) [] :: (N ++ []) = Y at hS hN
          refine callR (by kernel_rfl) (run_ret (g := ⟨ga, 1048576⟩) (l := bl) (by omega) hS (Bes.of_row 1 rfl)) ?_
          rintro v w (⟨f2, all2, A3, c3, l3, A4, c4, l4, N2, hr2, rfl, e3, e4, hn2, hS, ho2, hE2⟩ | ⟨er, he, hno, rfl, hS⟩)
          rotate_left
          · exact absurd ⟨_, _, hrb⟩ hno
          obtain ⟨rfl, rfl⟩ := hr2.det hrb
          have z4 : l4 = [] := List.eq_nil_of_length_eq_zero (by have := congrArg List.length e4; simpa using this)
          subst z4
          have hS := St.swap (A := srow (.slice A4 ([] : List Sq).length c4) [] :: N2) (B := [Res.cells b15 26 [.int .i64 f.mark, .int .i64 f.late, .slice A1 l1.length c1]]) (L := inrow (.slice Ab bl.length cb) bl :: inrow (.slice Aa al.length ca) al :: gC b7 ⟨ga, 1048576⟩ :: Y) hS
          refine valP_ok (extract_ok _ 0 rfl _) ?_
          refine valP_ok (extract_ok _ 1 rfl _) ?_
          refine valP_ok (extract_ok _ 2 rfl _) ?_
          refine new_ok (al26 _) hS ?_
          intro b18 w hS
          first | refine ss26 0 hS rfl rfl rfl rfl ?_ | refine ss26 1 hS rfl rfl rfl rfl ?_ | refine ss26 2 hS rfl rfl rfl rfl ?_ | refine ss26 3 hS rfl rfl rfl rfl ?_ | refine ss26 4 hS rfl rfl rfl rfl ?_ | refine ss26 5 hS rfl rfl rfl rfl ?_ | refine ss26 6 hS rfl rfl rfl rfl ?_ | refine ss26 7 hS rfl rfl rfl rfl ?_
          intro w hS
          simp only [List.set_cons_zero, List.set_cons_succ] at hS
          have hF1 := (hra.flow hg).1.lt
          have hF2 := (hrb.flow hg).1.lt
          unfold m6_10
          refine valP_ok (eq34 _ _ _ _ _) ?_
          refine cond_dt rfl ?_
          refine valP_ok (eq34 _ _ _ _ _) ?_
          first | refine pick_dt (by first | assumption | omega) ?_ | refine pick_df (by first | assumption | omega) ?_ | refine pick_t (by first | rfl | assumption) ?_ | refine pick_f (by first | rfl | assumption) ?_ | refine pick_dt rfl ?_ | refine pick_df (not_not_intro rfl) ?_
          refine cond_dt rfl ?_
          refine builtin_ok (len24 _) ?_
          refine builtin_ok (len24 _) ?_
          refine valP_ok (add_ok _ _ _ (by omega) (by omega) _) ?_
          refine valP_ok (eq3 _ _ _ _ _) ?_
          first | refine pick_dt (by first | assumption | omega) ?_ | refine pick_df (by first | assumption | omega) ?_ | refine pick_t (by first | rfl | assumption) ?_ | refine pick_f (by first | rfl | assumption) ?_ | refine pick_dt rfl ?_ | refine pick_df (not_not_intro rfl) ?_
          refine cond_dt rfl ?_
          first | refine valP_ok (fa26_1 _ _) ?_ | refine valP_ok (fao26_1 _ _ _) ?_
          first | refine valP_ok (ld3 (hS.cell 0 rfl rfl)) ?_ | refine valP_ok (ld3 (hS.cell 1 rfl rfl)) ?_ | refine valP_ok (ld3 (hS.cell 2 rfl rfl)) ?_ | refine valP_ok (ld3 (hS.cell 3 rfl rfl)) ?_ | refine valP_ok (ld3 (hS.cell 4 rfl rfl)) ?_ | refine valP_ok (ld3 (hS.cell 5 rfl rfl)) ?_ | refine valP_ok (ld3 (hS.cell 6 rfl rfl)) ?_ | refine valP_ok (ld3 (hS.cell 7 rfl rfl)) ?_ | refine valP_ok (ld3 (by assumption)) ?_
          first | refine valP_ok (fa26_1 _ _) ?_ | refine valP_ok (fao26_1 _ _ _) ?_
          first | refine valP_ok (ld3 (hS.cell 0 rfl rfl)) ?_ | refine valP_ok (ld3 (hS.cell 1 rfl rfl)) ?_ | refine valP_ok (ld3 (hS.cell 2 rfl rfl)) ?_ | refine valP_ok (ld3 (hS.cell 3 rfl rfl)) ?_ | refine valP_ok (ld3 (hS.cell 4 rfl rfl)) ?_ | refine valP_ok (ld3 (hS.cell 5 rfl rfl)) ?_ | refine valP_ok (ld3 (hS.cell 6 rfl rfl)) ?_ | refine valP_ok (ld3 (hS.cell 7 rfl rfl)) ?_ | refine valP_ok (ld3 (by assumption)) ?_
          refine valP_ok (add_ok _ _ _ (by omega) (by omega) _) ?_
          refine valP_ok (gtr_ok _ _ _ _ _ _ _) ?_
          refine cond_split (fun h => ?_) (fun h => ?_)
          · first | refine pick_dt (by first | assumption | omega) ?_ | refine pick_df (by first | assumption | omega) ?_ | refine pick_t (by first | rfl | assumption) ?_ | refine pick_f (by first | rfl | assumption) ?_ | refine pick_dt rfl ?_ | refine pick_df (not_not_intro rfl) ?_
            first | refine pick_dt (by first | assumption | omega) ?_ | refine pick_df (by first | assumption | omega) ?_ | refine pick_t (by first | rfl | assumption) ?_ | refine pick_f (by first | rfl | assumption) ?_ | refine pick_dt rfl ?_ | refine pick_df (not_not_intro rfl) ?_
            refine callR (by kernel_rfl) (awake_ret hS) ?_
            rintro v w ⟨rfl, hS⟩
            first | refine pick_dt (by first | assumption | omega) ?_ | refine pick_df (by first | assumption | omega) ?_ | refine pick_t (by first | rfl | assumption) ?_ | refine pick_f (by first | rfl | assumption) ?_ | refine pick_dt rfl ?_ | refine pick_df (not_not_intro rfl) ?_
            unfold m6_11
            exact ⟨rfl, hS.below⟩
          · have hff : f = f2 := hra.order hg hrb hperm.symm (by omega) (by omega)
            first | refine ls26 0 hS rfl ?_ | refine ls26 1 hS rfl ?_ | refine ls26 2 hS rfl ?_ | refine ls26 3 hS rfl ?_ | refine ls26 4 hS rfl ?_ | refine ls26 5 hS rfl ?_ | refine ls26 6 hS rfl ?_ | refine ls26 7 hS rfl ?_ | refine valP_ok (ld26 (by assumption) (by assumption) (by assumption)) ?_
            first | refine ls26 0 hS rfl ?_ | refine ls26 1 hS rfl ?_ | refine ls26 2 hS rfl ?_ | refine ls26 3 hS rfl ?_ | refine ls26 4 hS rfl ?_ | refine ls26 5 hS rfl ?_ | refine ls26 6 hS rfl ?_ | refine ls26 7 hS rfl ?_ | refine valP_ok (ld26 (by assumption) (by assumption) (by assumption)) ?_
            refine callR (by kernel_rfl) (same_ret (f := ⟨f.mark, f.late, A1, c1, l1⟩) (f2 := ⟨f2.mark, f2.late, A3, c3, l3⟩) hS (ho.bes.mono fun r hr => ?_) (ho2.bes.mono fun r hr => ?_)) ?_
            · have := hN r hr
              simp [this]
            · simp [hr]
            rintro v w ⟨⟨t, rfl, ht⟩, hS⟩
            have ht : t = true := ht.2 ⟨by rw [hff], by rw [hff], by simp only [e1, e3, hff]⟩
            subst ht
            first | refine pick_dt (by first | assumption | omega) ?_ | refine pick_df (by first | assumption | omega) ?_ | refine pick_t (by first | rfl | assumption) ?_ | refine pick_f (by first | rfl | assumption) ?_ | refine pick_dt rfl ?_ | refine pick_df (not_not_intro rfl) ?_
            first | refine pick_dt (by first | assumption | omega) ?_ | refine pick_df (by first | assumption | omega) ?_ | refine pick_t (by first | rfl | assumption) ?_ | refine pick_f (by first | rfl | assumption) ?_ | refine pick_dt rfl ?_ | refine pick_df (not_not_intro rfl) ?_
            refine cond_t rfl ?_
            refine callR (by kernel_rfl) (awake_ret hS) ?_
            rintro v w ⟨rfl, hS⟩
            first | refine pick_dt (by first | assumption | omega) ?_ | refine pick_df (by first | assumption | omega) ?_ | refine pick_t (by first | rfl | assumption) ?_ | refine pick_f (by first | rfl | assumption) ?_ | refine pick_dt rfl ?_ | refine pick_df (not_not_intro rfl) ?_
            unfold m6_11
            exact ⟨rfl, hS.below⟩
        unfold m6_7
        refine builtin_ok (len44 _) ?_
        refine valP_ok (gtr_ok _ _ _ _ _ _ _) ?_
        unfold m6_12
        refine cond_split (fun h1 => ?_) (fun h1 => ?_)
        · have hpos : 0 < al.reverse.length := by omega
          obtain ⟨q1, q2, q3, q4⟩ := rotI_spec turn hpos
          generalize rotI turn al.reverse.length = k at *
          refine builtin_ok (len44 _) ?_
          refine valP_ok (rem_any _ _ _ htu.1 htu.2 (by omega) (by omega) _) ?_
          refine builtin_ok (len44 _) ?_
          refine valP_ok (add_ok _ _ _ (by omega) (by omega) _) ?_
          refine builtin_ok (len44 _) ?_
          refine valP_ok (rem_ok _ _ _ (by omega) (by omega) (by omega) _) ?_
          rw [q2]
          have hm := (hS.row_max 0 rfl).1
          have hz := row_nil 0 hS rfl
          have hk : k ≤ al.reverse.length := by omega
          unfold m6_13
          unfold m6_14
          refine valP_ok (so44 hk hm _) ?_
          have hr := Rd.dropS encI_len hk hm (hS.row_rd 0 rfl)
          have hS := hS.row_nil 54 3
          have hdl : (al.reverse.drop k).length = al.reverse.length - k := by simp
          rw [← hdl]
          refine append_anyS (l0 := ([] : List In)) (l := al.reverse.drop k) 0 sl44 encI_len encI_one (by simp; unfold maxLen; omega) (by simp; omega) hS rfl hr (drop_nil hz) ?_
          intro A' c' w hS
          simp only [List.set_cons_zero, List.nil_append] at hS ⊢
          unfold m6_15
          refine valP_ok (sh44 (by omega) _) ?_
          have hr2 := Rd.takeS encI_len k (hS.row_rd 1 rfl)
          have htl : (al.reverse.take k).length = k := by rw [List.length_take]; omega
          have hsv : (Value.slice Ab k cb) = .slice Ab (al.reverse.take k).length cb := by rw [htl]
          rw [hsv]
          refine append_anyS (l0 := al.reverse.drop k) (l := al.reverse.take k) 0 sl44 encI_len encI_one (by simp; unfold maxLen; omega) (by simp; omega) hS rfl hr2 hz ?_
          intro A5 c5 w hS
          simp only [List.set_cons_zero] at hS
          unfold m6_16
          refine last w _ _ _ ?_ (hS.pick 4 [0, 2, 3] (by simp) (by decide))
          refine List.perm_append_comm.trans ?_
          rw [List.take_append_drop]
          exact hp0
        · exact last w _ _ _ hp0 hS
  unfold m6_30
  refine cond_split (fun h => ?_) (fun h => ?_)
  · refine valP_ok (sh44 (k := 50) (by omega) _) ?_
    have h2 := main (l.take 50) (by rw [List.length_take]; omega) (Rd.takeS encI_len 50 hl) w hS
    rw [List.length_take, Nat.min_eq_left (by omega)] at h2
    exact h2
  · exact main l (by omega) hl w hS
end

end Go.Proofs.Ytojgdmcojmllkaa.M
