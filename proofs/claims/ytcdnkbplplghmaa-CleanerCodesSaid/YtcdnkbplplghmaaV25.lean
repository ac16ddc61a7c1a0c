/- Encode, and the document's. -/
import Derived.Test.YtcdnkbplplghmaaV24
import Derived.Test.YtcdnkbplplghmaaFwW
import Derived.Test.YtcdnkbplplghmaaFwB
import Derived.Test.YtcdnkbplplghmaaMcod0
namespace Go.Proofs.Ytcdnkbplplghmaa.M
open Go.Proofs.Ytcdnkbplplghmaa.F Go.RowKit
set_option linter.unusedVariables false
set_option linter.unusedSimpArgs false
set_option maxRecDepth 100000
set_option maxHeartbeats 2000000
attribute [local irreducible] Res.cells Res.row Res.map Res.any World.cell? World.frozen? Instr.fieldAt Instr.loadAt Instr.storeAt Instr.indexAt Instr.lookup Instr.mapUpdate Instr.box Instr.build Instr.buildSlice Instr.extract Instr.alloc Instr.field Instr.index Instr.sliceAt Instr.makeSlice Instr.makeMap Instr.makeFunc binS Op.unary Sem.run
section
variable {w0 w : World} {F : List Nat} {L : List Res} {l : List Gt} {A : Option Addr} {c : Nat}
abbrev encV (l : List Gt) : Value := if MayL l then .tuple #[.string (sealS (encL l)), .int .i64 0] else .tuple #[.string ⟨#[]⟩, .int .i64 1]
theorem enc_take_size {i : Nat} (h : MayL l) : (putS l.length ++ bodyL (l.take i)).size ≤ 3000000 := by
  have h1 := bodyL_size (l := l.take i) (fun g hg => h.1 g (List.mem_of_mem_take hg))
  have h2 := putS_size (n := (l.length : Int)) (by have := h.2; omega)
  have h3 := h.2
  rw [List.length_take] at h1
  rw [ByteArray.size_append]
  omega
theorem encode_ret (hm : l.length ≤ 100000) (hg : ∀ g ∈ l, GtS g) (hE : BG w0 F L A l) (hS : St w0 F w L) : Ret Try.prog 14 #[.slice A l.length c] w fun v w' => v = encV l ∧ St w0 F w' L := by
  refine s14 _ ?_
  unfold m14 m14_0 m14_1
  refine callR (by kernel_rfl) (check_ret hm hg hE hS) ?_
  rintro _ w ⟨rfl, hS⟩
  unfold encV
  by_cases hM : MayL l
  · rw [if_pos hM, if_pos hM]
    unfold m14_13
    refine valP_ok (ne42 _ _ _ _ _) ?_
    unfold m14_14
    refine cond_df (by omega) ?_
    unfold m14_2
    refine new_ok (al73 _) hS ?_
    intro b5 w hS
    unfold m14_3
    refine builtin_ok (len22 _) ?_
    refine callR (by kernel_rfl) (put_ret (by omega) hS) ?_
    rintro _ w ⟨rfl, hS⟩
    have hB := Bd.start hS
    clear hS
    have hz1 := putS_size (n := (l.length : Int)) (by omega)
    have e0 : (⟨#[]⟩ : ByteArray).size = 0 := rfl
    refine callR (by kernel_rfl) (write_ret (by omega) hB) ?_
    clear hB
    intro _ w hB
    rw [empty_add] at hB
    unfold m14_4
    refine builtin_ok (len22 _) ?_
    unfold m14_7
    refine loop_in (fun u w' => ∃ i : Nat, u = .int .i64 (i : Int) ∧ i ≤ l.length ∧ Bd w0 F L b5 (putS l.length ++ bodyL (l.take i)) w') (fun u _ => l.length - (intOf u).toNat) ⟨0, rfl, by omega, by rw [List.take_zero, bodyL, add_empty]; exact hB⟩ ?_
    clear hB
    rintro u w ⟨i, rfl, hi, hB⟩
    have hz := enc_take_size (i := i) hM
    unfold m14_8
    refine valP_ok (lss_ok _ _ _ _ _ _ _) ?_
    unfold m14_9
    refine cond_split (fun h => ?_) (fun h => ?_)
    · have hil : i < l.length := by omega
      have hgi := hg _ (List.getElem_mem hil)
      have hmi := hM.1 _ (List.getElem_mem hil)
      have ho : -9223372036854775808 ≤ l[i].off ∧ l[i].off ≤ 9223372036854775807 := by unfold MayG InM at hmi; omega
      have hpz := putS_size ho
      have hrz := recS_size hmi.2
      obtain ⟨p, A2, c2, hp, hS⟩ := hB
      obtain ⟨gb, o, rfl⟩ := (hE.rd2 hS).some_ (by omega) (by omega)
      have q := g_at (hE.rd2 hS) hil
      unfold m14_10
      refine valP_ok (ix22 hil _) ?_
      refine valP_ok (ld40 q.1 q.2.1 q.2.2.1 q.2.2.2) ?_
      refine new_ok (al40 _) hS ?_
      intro b7 w hS
      first | refine ss40 0 hS rfl rfl rfl rfl rfl ?_ | refine ss40 1 hS rfl rfl rfl rfl rfl ?_ | refine ss40 2 hS rfl rfl rfl rfl rfl ?_ | refine ss40 3 hS rfl rfl rfl rfl rfl ?_ | refine ss40 4 hS rfl rfl rfl rfl rfl ?_ | refine ss40 5 hS rfl rfl rfl rfl rfl ?_ | refine ss40 6 hS rfl rfl rfl rfl rfl ?_ | refine ss40 7 hS rfl rfl rfl rfl rfl ?_
      intro w hS
      simp only [List.set_cons_zero, List.set_cons_succ] at hS
      unfold m14_12
      refine drawn_ok hS ?_
      intro w hS
      refine held_Hs (hS.pick 3 [0] (by simp) (by decide)) ?_
      first | refine valJ_ok (fa40_0 _) ?_ | refine valJ_ok (fao40_0 _ _) ?_
      first | refine valJ_load ld3 (Hs.cell 0 rfl rfl) ?_ | refine valJ_load ld3 (Hs.cell 1 rfl rfl) ?_ | refine valJ_load ld3 (Hs.cell 2 rfl rfl) ?_ | refine valJ_load ld3 (Hs.cell 3 rfl rfl) ?_ | refine valJ_load ld3 (Hs.cell 4 rfl rfl) ?_ | refine valJ_load ld3 (Hs.cell 5 rfl rfl) ?_ | refine valJ_load ld3 (Hs.cell 6 rfl rfl) ?_ | refine valJ_load ld3 (Hs.cell 7 rfl rfl) ?_ | refine valJ_load ld3 (by assumption) ?_
      first | refine valJ_ok (fa40_1 _) ?_ | refine valJ_ok (fao40_1 _ _) ?_
      refine valJ_at (fun w hw => ld38 (Hs.cell 0 rfl rfl w hw) (Hs.cell 0 rfl rfl w hw) (Hs.cell 0 rfl rfl w hw)) ?_
      refine callR (by kernel_rfl) (put_ret ho hS) ?_
      rintro _ w ⟨rfl, hS⟩
      refine stay_Hs (hS.pick 3 [0] (by simp) (by decide)) (fun _ h => h) ?_
      refine callR (by kernel_rfl) (putrec_ret (r := l[i].r) hgi.1.1 hgi.1.2 hgi.2 hS) ?_
      rintro _ w ⟨rfl, hS⟩
      refine stay_Hs (hS.pick 3 [0] (by simp) (by decide)) (fun _ h => h) ?_
      refine valJ_ok (sadd _ _ (by omega)) ?_
      have hB : Bd w0 F (Res.cells b7 40 (encG l[i]) :: L) b5 (putS l.length ++ bodyL (l.take i)) w := ⟨p, A2, c2, hp, hS.pick 3 [1, 2, 0] (by simp) (by decide)⟩
      refine callR (by kernel_rfl) (write_ret (by rw [ByteArray.size_append (a := putS l[i].off)]; omega) hB) ?_
      clear hB hS
      rintro _ w ⟨p2, A3, c3, hp2, hS⟩
      refine stay_Hs (hS.pick 3 [2] (by simp) (by decide)) (fun _ h => h) ?_
      unfold m14_11
      refine valP_ok (add_ok _ _ _ (by omega) (by omega) _) ?_
      refine ⟨⟨i + 1, rfl, by omega, ?_⟩, by simp [intOf]; omega⟩
      rw [bodyL_take hil, ← add_assoc']
      exact ⟨p2, A3, c3, hp2, hS.pick 3 [0, 1] (by simp) (by decide)⟩
    · obtain rfl : i = l.length := by omega
      rw [List.take_length] at hB hz
      unfold m14_5
      have h0 := putS_pos (l.length : Int)
      refine callR (by kernel_rfl) (bstring_ret (by rw [ByteArray.size_append]; omega) hB) ?_
      rintro _ w ⟨rfl, hS⟩
      refine callR (by kernel_rfl) (seal_ret (by unfold maxLen; omega) hS) ?_
      rintro _ w ⟨rfl, hS⟩
      unfold m14_6
      exact ⟨rfl, hS⟩
  · rw [if_neg hM, if_neg hM]
    unfold m14_13
    refine valP_ok (ne42 _ _ _ _ _) ?_
    unfold m14_14
    refine cond_dt (by omega) ?_
    unfold m14_15
    exact ⟨rfl, hS⟩
theorem rencode_ret (hm : l.length ≤ 100000) (hg : ∀ g ∈ l, GtS g) (hE : BG w0 F L A l) (hS : St w0 F w L) : Ret Try.prog 15 #[.slice A l.length c] w fun v w' => v = encV l ∧ St w0 F w' L := by
  refine s15 _ ?_
  unfold m15 m15_0 m15_1
  refine callR (by kernel_rfl) (rmay_ret hm hE hS) ?_
  rintro _ w ⟨rfl, hS⟩
  unfold encV
  first | refine valP_ok (not_ok _ _) ?_ | refine valP_ok (notb_ok _ _) ?_
  unfold m15_11
  refine cond_split (fun hM => ?_) (fun hM => ?_)
  · rw [if_neg hM]
    unfold m15_12
    exact ⟨rfl, hS⟩
  · have hM : MayL l := Classical.not_not.1 hM
    rw [if_pos hM]
    unfold m15_2
    refine builtin_ok (len22 _) ?_
    refine callR (by kernel_rfl) (rput_ret (by omega) hS) ?_
    rintro _ w ⟨rfl, hS⟩
    unfold m15_3 m15_6
    refine loop_in (fun u w' => ∃ i : Nat, u = (.string (putS l.length ++ bodyL (l.take i)), .int .i64 (i : Int)) ∧ i ≤ l.length ∧ St w0 F w' L) (fun u _ => l.length - (intOf u.2).toNat) ⟨0, by rw [List.take_zero, bodyL, add_empty]; rfl, by omega, hS⟩ ?_
    clear hS
    rintro u w ⟨i, rfl, hi, hS⟩
    simp only
    have hz := enc_take_size (i := i) hM
    unfold m15_7
    refine builtin_ok (len22 _) ?_
    refine valP_ok (lss_ok _ _ _ _ _ _ _) ?_
    unfold m15_10
    refine cond_split (fun h => ?_) (fun h => ?_)
    · have hil : i < l.length := by omega
      have hgi := hg _ (List.getElem_mem hil)
      have hmi := hM.1 _ (List.getElem_mem hil)
      have ho : -9223372036854775808 ≤ l[i].off ∧ l[i].off ≤ 9223372036854775807 := by unfold MayG InM at hmi; omega
      have hpz := putS_size ho
      have hrz := recS_size hmi.2
      obtain ⟨gb, o, rfl⟩ := (hE.rd hS).some_ (by omega) (by omega)
      unfold m15_8
      refine drawn_ok hS ?_
      intro w hS
      refine held_Hs hS ?_
      have q := fun w (hw : Hs w0 F L w) => g_at (Hs.rd hE w hw) hil
      refine valJ_ok (ix22 hil) ?_
      refine valJ_ok (fao40_0 _ _) ?_
      refine valJ_at (fun w hw => ld3 (q w hw).1) ?_
      refine valJ_ok (ix22 hil) ?_
      refine valJ_ok (fao40_1 _ _) ?_
      refine valJ_at (fun w hw => ld38 (q w hw).2.1 (q w hw).2.2.1 (q w hw).2.2.2) ?_
      refine callR (by kernel_rfl) (rput_ret ho hS) ?_
      rintro _ w ⟨rfl, hS⟩
      refine stay_Hs hS (by first | exact fun _ h => h | exact fun _ h => .tail _ h | exact fun _ h => .tail _ (.tail _ h) | simp) ?_
      refine valJ_ok (sadd _ _ (by omega)) ?_
      refine callR (by kernel_rfl) (rec_ret (r := l[i].r) hgi.1.1 hgi.1.2 hgi.2 hS) ?_
      rintro _ w ⟨rfl, hS⟩
      refine stay_Hs hS (by first | exact fun _ h => h | exact fun _ h => .tail _ h | exact fun _ h => .tail _ (.tail _ h) | simp) ?_
      refine valJ_ok (sadd _ _ (by rw [ByteArray.size_append (b := putS l[i].off)]; omega)) ?_
      unfold m15_9
      refine valP_ok (add_ok _ _ _ (by omega) (by omega) _) ?_
      refine ⟨⟨i + 1, ?_, by omega, hS⟩, by simp [intOf]; omega⟩
      rw [bodyL_take hil, add_assoc', add_assoc']
      rfl
    · obtain rfl : i = l.length := by omega
      rw [List.take_length] at hz ⊢
      unfold m15_4
      refine callR (by kernel_rfl) (rseal_ret (by unfold maxLen; omega) hS) ?_
      rintro _ w ⟨rfl, hS⟩
      unfold m15_5
      exact ⟨rfl, hS⟩
end

end Go.Proofs.Ytcdnkbplplghmaa.M
