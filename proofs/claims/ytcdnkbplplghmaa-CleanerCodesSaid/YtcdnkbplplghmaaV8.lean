/- The document's Clean; the same ones. -/
import Derived.Test.YtcdnkbplplghmaaV7
import Derived.Test.YtcdnkbplplghmaaFwW
import Derived.Test.YtcdnkbplplghmaaMbase0
import Derived.Test.YtcdnkbplplghmaaMmid0
namespace Go.Proofs.Ytcdnkbplplghmaa.M
open Go.Proofs.Ytcdnkbplplghmaa.F Go.RowKit
set_option linter.unusedVariables false
set_option linter.unusedSimpArgs false
set_option maxRecDepth 100000
set_option maxHeartbeats 2000000
attribute [local irreducible] Res.cells Res.row Res.map Res.any World.cell? World.frozen? Instr.fieldAt Instr.loadAt Instr.storeAt Instr.indexAt Instr.lookup Instr.mapUpdate Instr.box Instr.build Instr.buildSlice Instr.extract Instr.alloc Instr.field Instr.index Instr.sliceAt Instr.makeSlice Instr.makeMap Instr.makeFunc binS Op.unary Sem.run
open Classical in
/-- those of the first n that are not needless. -/
noncomputable def cleanN (l : List Gt) (upto : Int) : Nat → List Gt
  | 0 => []
  | n + 1 => if h : n < l.length then (if Needless l n upto then cleanN l upto n else cleanN l upto n ++ [l[n]]) else cleanN l upto n
theorem cleanN_len (l : List Gt) (upto : Int) : ∀ n, (cleanN l upto n).length ≤ n
  | 0 => Nat.le_refl _
  | n + 1 => by
    have := cleanN_len l upto n
    unfold cleanN
    split
    · split
      · omega
      · rw [List.length_append]; simp; omega
    · omega
theorem cleanN_skip {l : List Gt} {upto : Int} {n : Nat} (h : Needless l n upto) : cleanN l upto (n + 1) = cleanN l upto n := by
  rw [cleanN, dif_pos h.1, if_pos h]
theorem cleanN_take {l : List Gt} {upto : Int} {n : Nat} (hn : n < l.length) (h : ¬ Needless l n upto) : cleanN l upto (n + 1) = cleanN l upto n ++ [l[n]] := by
  rw [cleanN, dif_pos hn, if_neg h]
section
variable {w0 w : World} {F : List Nat} {L : List Res} {l l2 : List Gt} {A A2 : Option Addr} {c c2 : Nat} {upto : Int}
theorem needless_ret {i : Nat} (hi : i < l.length) (hm : l.length ≤ 1000000) (hE : BG w0 F L A l) (hS : St w0 F w L) : Ret Try.prog 24 #[.slice A l.length c, .int .i64 (i : Int), .int .i64 upto] w fun v w' => (∃ t, v = .bool t ∧ (t = true ↔ Needless l i upto)) ∧ St w0 F w' L := by
  obtain ⟨b, o, rfl⟩ := (hE.rd hS).some_ (by omega) (by omega)
  refine s24 _ _ _ ?_
  unfold m24 m24_0 m24_1
  have p := g_at (hE.rd hS) hi
  refine valP_ok (ix22 hi _) ?_
  refine valP_ok (fao40_0 _ _ _) ?_
  refine valP_ok (ld3 p.1) ?_
  refine valP_ok (geq_ok _ _ _ _ _ _ _) ?_
  unfold m24_15
  refine cond_split (fun h => ?_) (fun h => ?_)
  · unfold m24_16
    exact ⟨⟨_, rfl, ⟨fun h => (by cases h), fun ⟨_, h1, _⟩ => by omega⟩⟩, hS⟩
  · unfold m24_2
    refine drawn_ok hS ?_
    intro w hS
    refine held_Hs hS ?_
    have p := fun w (hw : Hs w0 F L w) => g_at (Hs.rd hE w hw) hi
    refine valJ_ok (ix22 hi) ?_
    refine valJ_ok (fao40_1 _ _) ?_
    refine valJ_ok (fao38_2 _ _) ?_
    refine valJ_at (fun w hw => ld9 (p w hw).2.2.2) ?_
    refine callR (by kernel_rfl) (rput_ret (by omega) hS) ?_
    rintro _ w ⟨rfl, hS⟩
    refine stay_Hs hS (by first | exact fun _ h => h | exact fun _ h => .tail _ h | exact fun _ h => .tail _ (.tail _ h) | simp) ?_
    refine valJ_ok (eq9 _ _ _ _) ?_
    unfold m24_13
    refine cond_split (fun h1 => ?_) (fun h1 => ?_)
    · unfold m24_14
      exact ⟨⟨_, rfl, ⟨fun _ => ⟨hi, by omega, .inl h1⟩, fun _ => rfl⟩⟩, hS⟩
    · unfold m24_3
      refine valP_ok (add_ok _ _ _ (by omega) (by omega) _) ?_
      unfold m24_6
      refine loop_in (fun u w' => ∃ k : Nat, u = .int .i64 (k : Int) ∧ i < k ∧ k ≤ l.length ∧ (∀ j (hj : j < l.length), i < j → j < k → ¬ (l[j].off < upto ∧ SameR l[i].r l[j].r)) ∧ St w0 F w' L) (fun u _ => l.length - (intOf u).toNat) ⟨i + 1, by rw [show (i : Int) + 1 = ((i + 1 : Nat) : Int) by omega], by omega, by omega, fun j hj h2 h3 => by omega, hS⟩ ?_
      clear hS p
      rintro u w ⟨k, rfl, hk0, hk, hno, hS⟩
      unfold m24_7
      refine builtin_ok (len22 _) ?_
      refine valP_ok (lss_ok _ _ _ _ _ _ _) ?_
      unfold m24_12
      refine cond_split (fun h2 => ?_) (fun h2 => ?_)
      · have hkl : k < l.length := by omega
        unfold m24_8
        refine drawn_ok hS ?_
        intro w hS
        have pk := g_at (hE.rd hS) hkl
        have pi := g_at (hE.rd hS) hi
        have next : ¬ (l[k].off < upto ∧ SameR l[i].r l[k].r) → ∀ j (hj : j < l.length), i < j → j < k + 1 → ¬ (l[j].off < upto ∧ SameR l[i].r l[j].r) := fun hn j hj h3 h4 => by
          rcases Nat.lt_or_ge j k with g | g
          · exact hno j hj h3 g
          · obtain rfl : j = k := by omega
            exact hn
        refine valS_ok (ix22 hkl _) ?_
        refine valS_ok (fao40_0 _ _ _) ?_
        refine valS_ok (ld3 pk.1) ?_
        refine valS_ok (lss_ok _ _ _ _ _ _ _) ?_
        refine cond_split (fun h3 => ?_) (fun h3 => ?_)
        · refine valS_ok (ix22 hi _) ?_
          refine valS_ok (fao40_1 _ _ _) ?_
          refine valS_ok (ld38 pi.2.1 pi.2.2.1 pi.2.2.2) ?_
          refine valS_ok (ix22 hkl _) ?_
          refine valS_ok (fao40_1 _ _ _) ?_
          refine valS_ok (ld38 pk.2.1 pk.2.2.1 pk.2.2.2) ?_
          refine callR (by kernel_rfl) (same_ret (a := l[i].r) (b := l[k].r) hS) ?_
          rintro _ w ⟨⟨t, rfl, ht⟩, hS⟩
          first | refine pick_dt (by first | assumption | omega) ?_ | refine pick_df (by first | assumption | omega) ?_ | refine pick_t (by first | rfl | assumption) ?_ | refine pick_f (by first | rfl | assumption) ?_ | refine pick_dt rfl ?_ | refine pick_df (not_not_intro rfl) ?_
          unfold m24_10
          cases t with
          | true =>
            refine cond_t rfl ?_
            unfold m24_11
            exact ⟨⟨_, rfl, ⟨fun _ => ⟨hi, by omega, .inr ⟨k, hkl, hk0, h3, ht.1 rfl⟩⟩, fun _ => rfl⟩⟩, hS⟩
          | false =>
            refine cond_f rfl ?_
            unfold m24_9
            refine valP_ok (add_ok _ _ _ (by omega) (by omega) _) ?_
            exact ⟨⟨k + 1, rfl, by omega, by omega, next fun h => (by have := ht.2 h.2; cases this), hS⟩, by simp [intOf]; omega⟩
        · first | refine pick_dt (by first | assumption | omega) ?_ | refine pick_df (by first | assumption | omega) ?_ | refine pick_t (by first | rfl | assumption) ?_ | refine pick_f (by first | rfl | assumption) ?_ | refine pick_dt rfl ?_ | refine pick_df (not_not_intro rfl) ?_
          unfold m24_10
          refine cond_f rfl ?_
          unfold m24_9
          refine valP_ok (add_ok _ _ _ (by omega) (by omega) _) ?_
          exact ⟨⟨k + 1, rfl, by omega, by omega, next fun h => h3 h.1, hS⟩, by simp [intOf]; omega⟩
      · unfold m24_4 m24_5
        refine ⟨⟨_, rfl, ⟨fun h => (by cases h), fun ⟨_, h3, h4⟩ => ?_⟩⟩, hS⟩
        rcases h4 with h4 | ⟨j, hj, h5, h6, h7⟩
        · exact absurd h4 h1
        · exact absurd ⟨h6, h7⟩ (hno j hj h5 (by omega))
theorem rclean_ret (hm : l.length ≤ 100000) (hE : BG w0 F L A l) (hS : St w0 F w L) : Ret Try.prog 11 #[.slice A l.length c, .int .i64 upto] w fun v w' => ∃ A' c', v = .slice A' (cleanN l upto l.length).length c' ∧ St w0 F w' (grow A' c' (cleanN l upto l.length) :: L) := by
  refine s11 _ _ ?_
  unfold m11 m11_0 m11_1 m11_2 m11_5
  refine loop_in (fun u w' => ∃ (i : Nat) (A' : Option Addr) (c' : Nat), u = (.slice A' (cleanN l upto i).length c', .int .i64 (i : Int)) ∧ i ≤ l.length ∧ St w0 F w' (grow A' c' (cleanN l upto i) :: L)) (fun u _ => l.length - (intOf u.2).toNat) ⟨0, none, 0, rfl, by omega, hS.row_nil 40 4⟩ ?_
  clear hS
  rintro u w ⟨i, A', c', rfl, hi, hS⟩
  simp only
  have hlen := cleanN_len l upto i
  unfold m11_6
  refine builtin_ok (len22 _) ?_
  refine valP_ok (lss_ok _ _ _ _ _ _ _) ?_
  unfold m11_10
  refine cond_split (fun h => ?_) (fun h => ?_)
  · have hil : i < l.length := by omega
    unfold m11_7
    refine callR (by kernel_rfl) (needless_ret hil (by omega) (hE.cons _) hS) ?_
    rintro _ w ⟨⟨t, rfl, ht⟩, hS⟩
    first | refine valP_ok (not_ok _ _) ?_ | refine valP_ok (notb_ok _ _) ?_
    unfold m11_9
    cases t with
    | true =>
      refine cond_f rfl ?_
      unfold m11_8
      refine valP_ok (add_ok _ _ _ (by omega) (by omega) _) ?_
      refine ⟨⟨i + 1, A', c', ?_, by omega, ?_⟩, by simp [intOf]; omega⟩
      · rw [cleanN_skip (ht.1 rfl)]; rfl
      · rw [cleanN_skip (ht.1 rfl)]; exact hS
    | false =>
      have hn : ¬ Needless l i upto := fun h => by have := ht.2 h; cases this
      refine cond_t rfl ?_
      obtain ⟨b, o, rfl⟩ := (hE.rd1 hS).some_ (by omega) (by omega)
      have p := g_at (hE.rd1 hS) hil
      refine valP_ok (ix22 hil _) ?_
      refine valP_ok (ld40 p.1 p.2.1 p.2.2.1 p.2.2.2) ?_
      refine newslice_ok (bs22_1 _) hS ?_
      intro b23 w hS
      refine append_one1 (enc := encG) 0 l[i] sl22 encG_len encG_one (by unfold maxLen; omega) (by omega) hS rfl ?_
      intro A' c' w' hS
      simp only [List.set_cons_zero] at hS
      unfold m11_8
      refine valP_ok (add_ok _ _ _ (by omega) (by omega) _) ?_
      refine ⟨⟨i + 1, A', c', ?_, by omega, ?_⟩, by simp [intOf]; omega⟩
      · rw [cleanN_take hil hn]; rfl
      · rw [cleanN_take hil hn]; exact hS
  · obtain rfl : i = l.length := by omega
    unfold m11_3 m11_4
    exact ⟨_, _, rfl, hS⟩
theorem gt_ext {a b : Gt} : a = b ↔ a.off = b.off ∧ a.r.key = b.r.key ∧ a.r.time = b.r.time ∧ a.r.text = b.r.text := by
  obtain ⟨o, k, t, s⟩ := a
  obtain ⟨o2, k2, t2, s2⟩ := b
  simp
theorem samegot_ret (hm : l.length ≤ 1000000) (hm2 : l2.length ≤ 1000000) (hE : BG w0 F L A l) (hE2 : BG w0 F L A2 l2) (hS : St w0 F w L) : Ret Try.prog 9 #[.slice A l.length c, .slice A2 l2.length c2] w fun v w' => (∃ t, v = .bool t ∧ (t = true ↔ l = l2)) ∧ St w0 F w' L := by
  refine s9 _ _ ?_
  unfold m9 m9_0
  unfold m9_1
  refine builtin_ok (len22 _) ?_
  refine builtin_ok (len22 _) ?_
  refine valP_ok (ne3 _ _ _ _ _) ?_
  unfold m9_12
  refine cond_split (fun h => ?_) (fun h => ?_)
  · unfold m9_13
    exact ⟨⟨_, rfl, ⟨fun h => (by cases h), fun h1 => absurd (congrArg (fun l : List Gt => (l.length : Int)) h1) h⟩⟩, hS⟩
  · have hl : l.length = l2.length := by omega
    unfold m9_2 m9_5
    refine loop_in (fun u w' => ∃ i : Nat, u = .int .i64 (i : Int) ∧ i ≤ l.length ∧ (∀ j (h1 : j < l.length) (h2 : j < l2.length), j < i → l[j] = l2[j]) ∧ St w0 F w' L) (fun u _ => l.length - (intOf u).toNat) ⟨0, rfl, by omega, fun j _ _ h => by omega, hS⟩ ?_
    clear hS
    rintro u w ⟨i, rfl, hi, hno, hS⟩
    unfold m9_6
    refine builtin_ok (len22 _) ?_
    refine valP_ok (lss_ok _ _ _ _ _ _ _) ?_
    unfold m9_11
    refine cond_split (fun h1 => ?_) (fun h1 => ?_)
    · have hil : i < l.length := by omega
      have hil2 : i < l2.length := by omega
      obtain ⟨b, o, rfl⟩ := (hE.rd hS).some_ (by omega) (by omega)
      obtain ⟨b2, o2, rfl⟩ := (hE2.rd hS).some_ (by omega) (by omega)
      have p := g_at (hE.rd hS) hil
      have p2 := g_at (hE2.rd hS) hil2
      unfold m9_7
      refine valQ_ok (ix22 hil) ?_
      refine valQ_at (fun n => ld40 (cellD p.1 n) (cellD p.2.1 n) (cellD p.2.2.1 n) (cellD p.2.2.2 n)) ?_
      refine valQ_ok (ix22 hil2) ?_
      refine valQ_at (fun n => ld40 (cellD p2.1 n) (cellD p2.2.1 n) (cellD p2.2.2.1 n) (cellD p2.2.2.2 n)) ?_
      refine valQ_ok (ne40 _ _ _ _ _ _ _ _ _ _) ?_
      refine drawn_ok hS ?_
      intro w hS
      unfold m9_9
      refine cond_split (fun h2 => ?_) (fun h2 => ?_)
      · unfold m9_10
        refine ⟨⟨_, rfl, ⟨fun h => (by cases h), fun h3 => ?_⟩⟩, hS⟩
        subst h3
        exact absurd ⟨rfl, rfl, rfl, rfl⟩ h2
      · unfold m9_8
        refine valP_ok (add_ok _ _ _ (by omega) (by omega) _) ?_
        refine ⟨⟨i + 1, rfl, by omega, fun j h3 h4 h5 => ?_, hS⟩, by simp [intOf]; omega⟩
        rcases Nat.lt_or_ge j i with g | g
        · exact hno j h3 h4 g
        · obtain rfl : j = i := by omega
          exact gt_ext.2 (Classical.not_not.1 h2)
    · unfold m9_3 m9_4
      exact ⟨⟨_, rfl, ⟨fun _ => List.ext_getElem hl fun j h2 h3 => hno j h2 h3 (by omega), fun _ => rfl⟩⟩, hS⟩
end

end Go.Proofs.Ytcdnkbplplghmaa.M
