/- DiskFull: the walk. -/
import Derived.Test.YtcldjjmfpmkldaaDoorD19
import Derived.Test.YtcldjjmfpmkldaaDoorFwL
import Derived.Test.YtcldjjmfpmkldaaDoorFwW
import Derived.Test.YtcldjjmfpmkldaaDoorFwB
import Derived.Test.YtcldjjmfpmkldaaDoorFwM
import Derived.Test.YtcldjjmfpmkldaaDoorMtrim0
import Derived.Test.YtcldjjmfpmkldaaDoorMdisk0
import Derived.Test.YtcldjjmfpmkldaaDoorMmore0
import Derived.Test.YtcldjjmfpmkldaaDoorMlaw0
import Derived.Test.YtcldjjmfpmkldaaDoorMall0
import Derived.Test.YtcldjjmfpmkldaaDoorMall1
namespace Go.Proofs.YtcldjjmfpmkldaaDoor.M
open Go.Proofs.YtcldjjmfpmkldaaDoor.F Go.RowKit
set_option linter.unusedVariables false
set_option linter.unusedSimpArgs false
set_option maxRecDepth 100000
set_option maxHeartbeats 2000000
attribute [local irreducible] Res.cells Res.row Res.map Res.any World.cell? World.frozen? Instr.fieldAt Instr.loadAt Instr.storeAt Instr.indexAt Instr.lookup Instr.mapUpdate Instr.box Instr.build Instr.buildSlice Instr.extract Instr.alloc Instr.field Instr.index Instr.sliceAt Instr.makeSlice Instr.makeMap Instr.makeFunc binS Op.unary Sem.run
section
variable {w0 w : World} {F : List Nat} {L : List Res} {l : List De} {A : Option Addr} {c b size : Nat} {D : Dk}
theorem need_bl (o : Option Fl) (n : Nat) (h : o.isSome = true) : needO o n = (blk (szO o + n) : Int) - blk (szO o) := by
  cases o with
  | none => cases h
  | some f => rfl
theorem need_no (o : Option Fl) (n : Nat) (h : o.isSome = false) : needO o n = (blk (szO o + n) : Int) := by
  cases o with
  | some f => cases h
  | none => unfold needO szO; rw [Nat.zero_add]
theorem ext_from (a c : ByteArray) : (a ++ c).extract a.size (a ++ c).size = c := by
  apply ByteArray.ext
  rw [ByteArray.data_extract, ByteArray.data_append, show (a ++ c).size = a.data.size + c.data.size from ByteArray.size_append, show a.size = a.data.size from rfl, Array.extract_append, Array.extract_eq_empty_of_le (by omega)]
  simp only [Nat.sub_self, Nat.add_sub_cancel_left, Array.extract_size, Array.empty_append]
theorem dfull_ret {n : Int} {s t : ByteArray} (hc : l.length ≤ c) (hok : ∀ x ∈ l, DeOk w0 x) (hl : Rd w0 6 A l.length (l.flatMap encD)) : Ret Tryd.prog 7 #[.int .i64 n, .slice A l.length c, .string s, .string t] w0 fun v w' => v = .bool true ∧ Below w0.heap.size w0 w' := by
  have hS := St.start w0
  refine s7 _ _ _ _ ?_
  unfold m7 m7_0 m7_1
  refine callR (by kernel_rfl) (made_ret (n := n) hc hok hl hS) ?_
  intro v w hR
  by_cases hn : 1 ≤ n ∧ n ≤ 16384
  · rw [if_pos hn] at hR
    obtain ⟨b, rfl, hD⟩ := hR
    have hO : Ok n.toNat (runD ⟨[], n, -1, false⟩ (fewL l)) := (Ok.new hn).run (few_ok hok)
    generalize runD ⟨[], n, -1, false⟩ (fewL l) = D at *
    unfold m7_2
    first | refine valP_ok (eq23n _ _ _) ?_ | refine valP_ok (eq23s _ _ _ _) ?_
    refine cond_f rfl ?_
    refine builtin_ok (len9 _) ?_
    refine valP_ok (gtr_ok _ _ _ _ _ _ _) ?_
    first | refine pick_dt (by first | assumption | omega) ?_ | refine pick_df (by first | assumption | omega) ?_ | refine pick_t (by first | rfl | assumption) ?_ | refine pick_f (by first | rfl | assumption) ?_ | refine pick_dt rfl ?_ | refine pick_df (not_not_intro rfl) ?_
    unfold m7_27
    refine cond_split (fun ht => ?_) (fun ht => ?_)
    · obtain ⟨mb, X, hX, hS⟩ := hD
      refine callR (by kernel_rfl) (awake_ret hS) ?_
      rintro _ w ⟨rfl, hS⟩
      unfold m7_28
      exact ⟨rfl, hS.below⟩
    have hts : t.size ≤ 2097152 := by omega
    unfold m7_3
    refine callR (by kernel_rfl) (files_ret hO hD) ?_
    clear hD hS
    rintro _ w ⟨A1, c1, rfl, hD⟩
    have hDl := hO.len
    have hB1 : BF w0 [] [flRow A1 c1 D.L] A1 D.L := Bes.of_row 0 rfl
    unfold m7_4 m7_5 m7_20
    refine loop_in (fun u w' => ∃ i : Nat, u = (.int .i64 (szO (getF (D.L.take i) s) : Int), .bool (getF (D.L.take i) s).isSome, .int .i64 (i : Int)) ∧ i ≤ D.L.length ∧ Dsk w0 [] [flRow A1 c1 D.L] b D w') (fun u _ => D.L.length - (intOf u.2.2).toNat) ⟨0, rfl, by omega, hD⟩ ?_
    clear hD
    rintro u w ⟨i, rfl, hi, hD⟩
    simp only
    unfold m7_21
    refine builtin_ok (len38 _) ?_
    refine valP_ok (lss_ok _ _ _ _ _ _ _) ?_
    unfold m7_26
    refine cond_split (fun h => ?_) (fun h => ?_)
    · have hil : i < D.L.length := by omega
      have hsz := hO.sz (List.getElem_mem hil)
      have hsz' : D.L[i].sure.size + D.L[i].loose.size = D.L[i].sz := rfl
      have hg := getF_take hO.up (s := s) hil
      obtain ⟨mb, X, hX, hS⟩ := hD
      obtain ⟨g1, o1, rfl⟩ := ((hB1.mono inTl).rd hS).some_ (by omega) (by omega)
      have p := f_at ((hB1.mono inTl).rd hS) hil
      unfold m7_22
      refine valP_ok (ix38 hil _) ?_
      refine valP_ok (fao42_0 _ _ _) ?_
      refine valP_ok (ld9 p.1) ?_
      refine valP_ok (eq9 _ _ _ _ _) ?_
      unfold m7_24
      refine cond_split (fun h1 => ?_) (fun h1 => ?_)
      · rw [if_pos h1] at hg
        refine valQ_ok (ix38 hil) ?_
        refine valQ_ok (fao42_1 _ _) ?_
        refine valQ_at (fun n => ld9 (cellD p.2.1 n)) ?_
        refine builtinQ_ok (len9) ?_
        refine valQ_ok (ix38 hil) ?_
        refine valQ_ok (fao42_2 _ _) ?_
        refine valQ_at (fun n => ld9 (cellD p.2.2 n)) ?_
        refine builtinQ_ok (len9) ?_
        refine valQ_ok (add_ok _ _ _ (by omega) (by omega)) ?_
        refine drawn_ok hS ?_
        intro w hS
        unfold m7_25
        unfold m7_23
        refine valP_ok (add_ok _ _ _ (by omega) (by omega) _) ?_
        refine ⟨⟨i + 1, ?_, by omega, mb, X, hX, hS⟩, by simp [intOf]; omega⟩
        rw [hg]
        rfl
      · rw [if_neg h1] at hg
        unfold m7_23
        refine valP_ok (add_ok _ _ _ (by omega) (by omega) _) ?_
        refine ⟨⟨i + 1, ?_, by omega, mb, X, hX, hS⟩, by simp [intOf]; omega⟩
        rw [hg]
        rfl
    · obtain rfl : i = D.L.length := by omega
      rw [List.take_length]
      have hszo : szO (getF D.L s) ≤ 1048576 := by
        cases hg : getF D.L s with
        | none => exact Nat.zero_le _
        | some f => exact hO.sz (getF_some hg).1
      have hnb := need_bl (getF D.L s) t.size
      have hnn := need_no (getF D.L s) t.size
      have hnone : getF D.L s = none → (getF D.L s).isSome = false := fun h => by rw [h]; rfl
      have law := app_law (size := 0) (D := ⟨D.L, D.room, -1, D.off⟩) (s := s) (t := t) hO.up rfl
      simp only at law
      have hneed : -16384 ≤ needO (getF D.L s) t.size ∧ needO (getF D.L s) t.size ≤ 1000000 := by
        have q1 : blk (szO (getF D.L s) + t.size) ≤ 1000000 := by unfold blk; omega
        have q2 : blk (szO (getF D.L s)) ≤ 16384 := blk_le hszo
        cases hi : (getF D.L s).isSome with
        | true => rw [hnb hi]; omega
        | false => rw [hnn hi]; omega
      have hq1 : blk (szO (getF D.L s) + t.size) ≤ 1000000 := by unfold blk; omega
      generalize szO (getF D.L s) = m at *
      generalize (getF D.L s).isSome = is at *
      generalize needO (getF D.L s) t.size = need at *
      have hroom := hO.room
      have hro2 := hO.size
      have hro3 := hO.sum
      have hO2 : Ok n.toNat ⟨D.L, D.room, -1, D.off⟩ := ⟨hO.up, hO.len, hO.room, hO.sum, hO.names, by show (-1 : Int) ≤ -1 ∧ (-1 : Int) ≤ 9223372036854775807; omega, hO.size⟩
      have go : ∀ w, Dsk w0 [] [flRow A1 c1 D.L] b D w → m7_8 (fun v w' => v = .bool true ∧ Below w0.heap.size w0 w') (.string s) (.string t) (ptr b) (.slice A1 D.L.length c1) (.int .i64 (m : Int)) (.bool is) (.int .i64 need) w := fun w hD => by
        obtain ⟨mb, X, hX, hS⟩ := hD
        unfold m7_8
        refine callR (by kernel_rfl) (free_ret hS) ?_
        rintro _ w ⟨rfl, hS⟩
        unfold m7_9
        refine callR (by kernel_rfl) (fuse_ret hS) ?_
        intro _ w hS
        rw [show max (-1 : Int) (-1) = -1 from rfl] at hS
        unfold m7_10
        refine callR (by kernel_rfl) (off_ret hS) ?_
        rintro _ w ⟨rfl, hS⟩
        have hD : Dsk w0 [] [flRow A1 c1 D.L] b ⟨D.L, D.room, -1, D.off⟩ w := ⟨mb, X, hX, hS⟩
        unfold m7_11
        refine callR (by kernel_rfl) (append_ret (s := s) (t := t) hO2 (by omega) hD) ?_
        clear hD hS hX
        rintro _ w ⟨rfl, hD⟩
        have hO3 := Ok.app (s := s) (t := t) hO2
        generalize appD ⟨D.L, D.room, -1, D.off⟩ s t = E at *
        obtain ⟨E, e⟩ := E
        simp only at law hD hO3 ⊢
        unfold m7_12
        refine valP_ok (ne24 _ _ _ _ _) ?_
        unfold m7_16
        rcases law with ⟨rfl, hnm, hof, hle, hrm, hof2, g, hg, p, hpg, hps⟩ | ⟨he, rfl, hcase⟩
        · refine cond_df (not_not_intro rfl) ?_
          have hrv : readV E s = (p ++ t, 0) := by
            unfold readV
            rw [hof2, if_pos (ready1 hnm), hg]
            simp only
            rw [hpg]
          unfold m7_13
          refine callR (by kernel_rfl) (read_ret hO3 hD) ?_
          clear hD
          rintro _ w ⟨rfl, hD⟩
          rw [hrv]
          refine valP_ok (extract_ok _ 0 rfl _) ?_
          refine valP_ok (extract_ok _ 1 rfl _) ?_
          show m7_14 _ (.string t) (ptr b) (.int .i64 (m : Int)) (.int .i64 need) (.int .i64 D.room) (.string (p ++ t)) (.int .i64 0) w
          unfold m7_14
          refine valP_ok (leq_ok _ _ _ _ _ _ _) ?_
          refine cond_dt hle ?_
          obtain ⟨mb, X, hX, hS⟩ := hD
          refine callR (by kernel_rfl) (free_ret hS) ?_
          rintro _ w ⟨rfl, hS⟩
          rw [hrm]
          have hapz : (p ++ t).size = p.size + t.size := ByteArray.size_append
          have hext := ext_from p t
          subst hps
          refine valP_ok (sub_ok _ _ _ (by omega) (by omega) _) ?_
          refine valP_ok (eq3 _ _ _ _ _) ?_
          first | refine pick_dt (by first | assumption | omega) ?_ | refine pick_df (by first | assumption | omega) ?_ | refine pick_t (by first | rfl | assumption) ?_ | refine pick_f (by first | rfl | assumption) ?_ | refine pick_dt rfl ?_ | refine pick_df (not_not_intro rfl) ?_
          refine cond_dt rfl ?_
          refine valP_ok (eq24 _ _ _ _ _) ?_
          first | refine pick_dt (by first | assumption | omega) ?_ | refine pick_df (by first | assumption | omega) ?_ | refine pick_t (by first | rfl | assumption) ?_ | refine pick_f (by first | rfl | assumption) ?_ | refine pick_dt rfl ?_ | refine pick_df (not_not_intro rfl) ?_
          refine cond_dt rfl ?_
          refine builtin_ok (len9 _) ?_
          refine builtin_ok (len9 _) ?_
          refine valP_ok (add_ok _ _ _ (by omega) (by omega) _) ?_
          refine valP_ok (eq3 _ _ _ _ _) ?_
          first | refine pick_dt (by first | assumption | omega) ?_ | refine pick_df (by first | assumption | omega) ?_ | refine pick_t (by first | rfl | assumption) ?_ | refine pick_f (by first | rfl | assumption) ?_ | refine pick_dt rfl ?_ | refine pick_df (not_not_intro rfl) ?_
          refine cond_dt (by omega) ?_
          refine valP_ok (sfrom (k := p.size) _ (by omega)) ?_
          rw [hext]
          refine valP_ok (eq9 _ _ _ _ _) ?_
          first | refine pick_dt (by first | assumption | omega) ?_ | refine pick_df (by first | assumption | omega) ?_ | refine pick_t (by first | rfl | assumption) ?_ | refine pick_f (by first | rfl | assumption) ?_ | refine pick_dt rfl ?_ | refine pick_df (not_not_intro rfl) ?_
          refine cond_dt rfl ?_
          refine callR (by kernel_rfl) (awake_ret hS) ?_
          rintro _ w ⟨rfl, hS⟩
          first | refine pick_dt (by first | assumption | omega) ?_ | refine pick_df (by first | assumption | omega) ?_ | refine pick_t (by first | rfl | assumption) ?_ | refine pick_f (by first | rfl | assumption) ?_ | refine pick_dt rfl ?_ | refine pick_df (not_not_intro rfl) ?_
          unfold m7_15
          exact ⟨rfl, hS.below⟩
        · refine cond_dt he ?_
          have fin : ∀ (x : Value) w, (e = 5 → x = .bool true) → Dsk w0 [] [flRow A1 c1 D.L] b ⟨D.L, D.room, -1, D.off⟩ w → m7_17 (fun v w' => v = .bool true ∧ Below w0.heap.size w0 w') (.string s) (ptr b) (.slice A1 D.L.length c1) (.bool D.off) (.int .i64 e) x w := fun x w hx hD => by
            rcases hcase with ⟨rfl, hnn⟩ | ⟨rfl, ho⟩ | ⟨rfl, _⟩
            · unfold m7_17
              refine valP_ok (eq24 _ _ _ _ _) ?_
              refine cond_dt rfl ?_
              obtain ⟨mb, X, hX, hS⟩ := hD
              refine callR (by kernel_rfl) (named24_ret hS) ?_
              rintro _ w ⟨⟨t, rfl, ht⟩, hS⟩
              obtain rfl : t = false := by cases t with | false => rfl | true => exact absurd (ht rfl) hnn
              have hD : Dsk w0 [] [flRow A1 c1 D.L] b ⟨D.L, D.room, -1, D.off⟩ w := ⟨mb, X, hX, hS⟩
              first | refine valP_ok (not_ok _ _) ?_ | refine valP_ok (notb_ok _ _) ?_
              first | refine pick_dt (by first | assumption | omega) ?_ | refine pick_df (by first | assumption | omega) ?_ | refine pick_t (by first | rfl | assumption) ?_ | refine pick_f (by first | rfl | assumption) ?_ | refine pick_dt rfl ?_ | refine pick_df (not_not_intro rfl) ?_
              refine cond_t rfl ?_
              first | refine pick_dt (by first | assumption | omega) ?_ | refine pick_df (by first | assumption | omega) ?_ | refine pick_t (by first | rfl | assumption) ?_ | refine pick_f (by first | rfl | assumption) ?_ | refine pick_dt rfl ?_ | refine pick_df (not_not_intro rfl) ?_
              first | refine pick_dt (by first | assumption | omega) ?_ | refine pick_df (by first | assumption | omega) ?_ | refine pick_t (by first | rfl | assumption) ?_ | refine pick_f (by first | rfl | assumption) ?_ | refine pick_dt rfl ?_ | refine pick_df (not_not_intro rfl) ?_
              refine callR (by kernel_rfl) (files_ret hO2 hD) ?_
              clear hD
              rintro _ w ⟨A5, c5, rfl, hD⟩
              refine callR (by kernel_rfl) (same_ret (l := D.L) (l2 := D.L) (by omega) (by omega) (Bes.of_row 0 rfl) (Bes.of_row 1 rfl) (Dsk.gone hD)) ?_
              rintro _ w ⟨⟨q, rfl, hq⟩, hS⟩
              obtain rfl := hq.2 rfl
              first | refine pick_dt (by first | assumption | omega) ?_ | refine pick_df (by first | assumption | omega) ?_ | refine pick_t (by first | rfl | assumption) ?_ | refine pick_f (by first | rfl | assumption) ?_ | refine pick_dt rfl ?_ | refine pick_df (not_not_intro rfl) ?_
              refine cond_t rfl ?_
              refine callR (by kernel_rfl) (awake_ret hS) ?_
              rintro _ w ⟨rfl, hS⟩
              first | refine pick_dt (by first | assumption | omega) ?_ | refine pick_df (by first | assumption | omega) ?_ | refine pick_t (by first | rfl | assumption) ?_ | refine pick_f (by first | rfl | assumption) ?_ | refine pick_dt rfl ?_ | refine pick_df (not_not_intro rfl) ?_
              unfold m7_18
              exact ⟨rfl, hS.below⟩
            · have hD' := hD
              rw [ho] at hD ⊢
              unfold m7_17
              refine valP_ok (eq24 _ _ _ _ _) ?_
              refine cond_df (by decide) ?_
              first | refine pick_dt (by first | assumption | omega) ?_ | refine pick_df (by first | assumption | omega) ?_ | refine pick_t (by first | rfl | assumption) ?_ | refine pick_f (by first | rfl | assumption) ?_ | refine pick_dt rfl ?_ | refine pick_df (not_not_intro rfl) ?_
              refine valP_ok (eq24 _ _ _ _ _) ?_
              refine cond_dt rfl ?_
              first | refine pick_dt (by first | assumption | omega) ?_ | refine pick_df (by first | assumption | omega) ?_ | refine pick_t (by first | rfl | assumption) ?_ | refine pick_f (by first | rfl | assumption) ?_ | refine pick_dt rfl ?_ | refine pick_df (not_not_intro rfl) ?_
              first | refine pick_dt (by first | assumption | omega) ?_ | refine pick_df (by first | assumption | omega) ?_ | refine pick_t (by first | rfl | assumption) ?_ | refine pick_f (by first | rfl | assumption) ?_ | refine pick_dt rfl ?_ | refine pick_df (not_not_intro rfl) ?_
              refine cond_t rfl ?_
              first | refine pick_dt (by first | assumption | omega) ?_ | refine pick_df (by first | assumption | omega) ?_ | refine pick_t (by first | rfl | assumption) ?_ | refine pick_f (by first | rfl | assumption) ?_ | refine pick_dt rfl ?_ | refine pick_df (not_not_intro rfl) ?_
              rw [ho] at hO2
              refine callR (by kernel_rfl) (files_ret hO2 hD) ?_
              clear hD
              rintro _ w ⟨A5, c5, rfl, hD⟩
              refine callR (by kernel_rfl) (same_ret (l := D.L) (l2 := D.L) (by omega) (by omega) (Bes.of_row 0 rfl) (Bes.of_row 1 rfl) (Dsk.gone hD)) ?_
              rintro _ w ⟨⟨q, rfl, hq⟩, hS⟩
              obtain rfl := hq.2 rfl
              first | refine pick_dt (by first | assumption | omega) ?_ | refine pick_df (by first | assumption | omega) ?_ | refine pick_t (by first | rfl | assumption) ?_ | refine pick_f (by first | rfl | assumption) ?_ | refine pick_dt rfl ?_ | refine pick_df (not_not_intro rfl) ?_
              refine cond_t rfl ?_
              refine callR (by kernel_rfl) (awake_ret hS) ?_
              rintro _ w ⟨rfl, hS⟩
              first | refine pick_dt (by first | assumption | omega) ?_ | refine pick_df (by first | assumption | omega) ?_ | refine pick_t (by first | rfl | assumption) ?_ | refine pick_f (by first | rfl | assumption) ?_ | refine pick_dt rfl ?_ | refine pick_df (not_not_intro rfl) ?_
              unfold m7_18
              exact ⟨rfl, hS.below⟩
            · rw [hx rfl]
              unfold m7_17
              refine valP_ok (eq24 _ _ _ _ _) ?_
              refine cond_df (by decide) ?_
              first | refine pick_dt (by first | assumption | omega) ?_ | refine pick_df (by first | assumption | omega) ?_ | refine pick_t (by first | rfl | assumption) ?_ | refine pick_f (by first | rfl | assumption) ?_ | refine pick_dt rfl ?_ | refine pick_df (not_not_intro rfl) ?_
              refine valP_ok (eq24 _ _ _ _ _) ?_
              refine cond_df (by decide) ?_
              first | refine pick_dt (by first | assumption | omega) ?_ | refine pick_df (by first | assumption | omega) ?_ | refine pick_t (by first | rfl | assumption) ?_ | refine pick_f (by first | rfl | assumption) ?_ | refine pick_dt rfl ?_ | refine pick_df (not_not_intro rfl) ?_
              first | refine pick_dt (by first | assumption | omega) ?_ | refine pick_df (by first | assumption | omega) ?_ | refine pick_t (by first | rfl | assumption) ?_ | refine pick_f (by first | rfl | assumption) ?_ | refine pick_dt rfl ?_ | refine pick_df (not_not_intro rfl) ?_
              refine valP_ok (eq24 _ _ _ _ _) ?_
              refine cond_dt rfl ?_
              first | refine pick_dt (by first | assumption | omega) ?_ | refine pick_df (by first | assumption | omega) ?_ | refine pick_t (by first | rfl | assumption) ?_ | refine pick_f (by first | rfl | assumption) ?_ | refine pick_dt rfl ?_ | refine pick_df (not_not_intro rfl) ?_
              first | refine pick_dt (by first | assumption | omega) ?_ | refine pick_df (by first | assumption | omega) ?_ | refine pick_t (by first | rfl | assumption) ?_ | refine pick_f (by first | rfl | assumption) ?_ | refine pick_dt rfl ?_ | refine pick_df (not_not_intro rfl) ?_
              refine cond_t rfl ?_
              refine callR (by kernel_rfl) (files_ret hO2 hD) ?_
              clear hD
              rintro _ w ⟨A5, c5, rfl, hD⟩
              refine callR (by kernel_rfl) (same_ret (l := D.L) (l2 := D.L) (by omega) (by omega) (Bes.of_row 0 rfl) (Bes.of_row 1 rfl) (Dsk.gone hD)) ?_
              rintro _ w ⟨⟨q, rfl, hq⟩, hS⟩
              obtain rfl := hq.2 rfl
              first | refine pick_dt (by first | assumption | omega) ?_ | refine pick_df (by first | assumption | omega) ?_ | refine pick_t (by first | rfl | assumption) ?_ | refine pick_f (by first | rfl | assumption) ?_ | refine pick_dt rfl ?_ | refine pick_df (not_not_intro rfl) ?_
              refine cond_t rfl ?_
              refine callR (by kernel_rfl) (awake_ret hS) ?_
              rintro _ w ⟨rfl, hS⟩
              first | refine pick_dt (by first | assumption | omega) ?_ | refine pick_df (by first | assumption | omega) ?_ | refine pick_t (by first | rfl | assumption) ?_ | refine pick_f (by first | rfl | assumption) ?_ | refine pick_dt rfl ?_ | refine pick_df (not_not_intro rfl) ?_
              unfold m7_18
              exact ⟨rfl, hS.below⟩
          refine valP_ok (gtr_ok _ _ _ _ _ _ _) ?_
          refine cond_split (fun h1 => ?_) (fun h1 => ?_)
          · first | refine pick_dt (by first | assumption | omega) ?_ | refine pick_df (by first | assumption | omega) ?_ | refine pick_t (by first | rfl | assumption) ?_ | refine pick_f (by first | rfl | assumption) ?_ | refine pick_dt rfl ?_ | refine pick_df (not_not_intro rfl) ?_
            exact fin _ _ (fun _ => rfl) hD
          · first | refine valP_ok (not_ok _ _) ?_ | refine valP_ok (notb_ok _ _) ?_
            cases is with
            | false =>
              refine cond_t rfl ?_
              refine builtin_ok (len38 _) ?_
              refine valP_ok (eq3 _ _ _ _ _) ?_
              first | refine pick_dt (by first | assumption | omega) ?_ | refine pick_df (by first | assumption | omega) ?_ | refine pick_t (by first | rfl | assumption) ?_ | refine pick_f (by first | rfl | assumption) ?_ | refine pick_dt rfl ?_ | refine pick_df (not_not_intro rfl) ?_
              first | refine pick_dt (by first | assumption | omega) ?_ | refine pick_df (by first | assumption | omega) ?_ | refine pick_t (by first | rfl | assumption) ?_ | refine pick_f (by first | rfl | assumption) ?_ | refine pick_dt rfl ?_ | refine pick_df (not_not_intro rfl) ?_
              refine fin _ _ (fun h5 => congrArg Value.bool (decide_eq_true ?_)) hD
              rcases hcase with ⟨h6, _⟩ | ⟨h6, _⟩ | ⟨_, h6 | ⟨_, h6⟩⟩ <;> omega
            | true =>
              refine cond_f rfl ?_
              first | refine pick_dt (by first | assumption | omega) ?_ | refine pick_df (by first | assumption | omega) ?_ | refine pick_t (by first | rfl | assumption) ?_ | refine pick_f (by first | rfl | assumption) ?_ | refine pick_dt rfl ?_ | refine pick_df (not_not_intro rfl) ?_
              first | refine pick_dt (by first | assumption | omega) ?_ | refine pick_df (by first | assumption | omega) ?_ | refine pick_t (by first | rfl | assumption) ?_ | refine pick_f (by first | rfl | assumption) ?_ | refine pick_dt rfl ?_ | refine pick_df (not_not_intro rfl) ?_
              refine fin _ _ (fun h5 => ?_) hD
              exfalso
              rcases hcase with ⟨h6, _⟩ | ⟨h6, _⟩ | ⟨_, h6 | ⟨h6, _⟩⟩
              · omega
              · omega
              · omega
              · cases hnone h6
      obtain ⟨mb, X, hX, hS⟩ := hD
      unfold m7_6
      refine builtin_ok (len9 _) ?_
      refine valP_ok (add_ok _ _ _ (by omega) (by omega) _) ?_
      rw [show ((m : Int) + (t.size : Int)) = ((m + t.size : Nat) : Int) by omega]
      refine callR (by kernel_rfl) (rblocks_ret (n := m + t.size) (by omega) hS) ?_
      rintro _ w ⟨rfl, hS⟩
      unfold m7_7 m7_19
      cases is with
      | true =>
        refine cond_t rfl ?_
        refine callR (by kernel_rfl) (rblocks_ret (n := m) (by omega) hS) ?_
        rintro _ w ⟨rfl, hS⟩
        have hbl := blk_le hszo
        refine valP_ok (sub_ok _ _ _ (by omega) (by omega) _) ?_
        rw [← hnb rfl]
        exact go _ ⟨mb, X, hX, hS⟩
      | false =>
        refine cond_f rfl ?_
        rw [← hnn rfl]
        exact go _ ⟨mb, X, hX, hS⟩
  · rw [if_neg hn] at hR
    obtain ⟨rfl, hS⟩ := hR
    unfold m7_2
    first | refine valP_ok (eq23n _ _ _) ?_ | refine valP_ok (eq23s _ _ _ _) ?_
    refine cond_t rfl ?_
    first | refine pick_dt (by first | assumption | omega) ?_ | refine pick_df (by first | assumption | omega) ?_ | refine pick_t (by first | rfl | assumption) ?_ | refine pick_f (by first | rfl | assumption) ?_ | refine pick_dt rfl ?_ | refine pick_df (not_not_intro rfl) ?_
    unfold m7_27
    refine cond_t rfl ?_
    refine callR (by kernel_rfl) (awake_ret hS) ?_
    rintro _ w ⟨rfl, hS⟩
    unfold m7_28
    exact ⟨rfl, hS.below⟩
end

end Go.Proofs.YtcldjjmfpmkldaaDoor.M
