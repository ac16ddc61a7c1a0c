/- Chapter 33's example. -/
import Derived.Test.YtnhgdngbdoifnaaV10
import Derived.Test.YtnhgdngbdoifnaaMbase0
import Derived.Test.YtnhgdngbdoifnaaMmid0
namespace Go.Proofs.Ytnhgdngbdoifnaa.M
open Go.Proofs.Ytnhgdngbdoifnaa.F Go.RowKit
set_option linter.unusedVariables false
set_option linter.unusedSimpArgs false
set_option maxRecDepth 100000
set_option maxHeartbeats 2000000
attribute [local irreducible] Res.cells Res.row Res.map Res.any World.cell? World.frozen? Instr.fieldAt Instr.loadAt Instr.storeAt Instr.indexAt Instr.lookup Instr.mapUpdate Instr.box Instr.build Instr.buildSlice Instr.extract Instr.alloc Instr.field Instr.index Instr.sliceAt Instr.makeSlice Instr.makeMap Instr.makeFunc binS Op.unary Sem.run
theorem sadd (x y : Operand) {a b : ByteArray} (h : a.size + b.size ≤ 9223372036854775807) (w : World) : (binS .add 9 x y (.string a) (.string b)).run Try.prog w = .ok (.string (a ++ b)) w := by
  rw [binS_run _ _ _ _ _ _ (by kernel_rfl)]; simp [go_sem, binOp, h]
/-- numbers, one behind the other. -/
def allS (xs : List Int) : ByteArray := xs.foldl (fun s n => s ++ putS n) ⟨#[]⟩
def l4 (p q : ByteArray) : List Gt := [⟨0, 0, 0, p⟩, ⟨1, 7, 0, q⟩, ⟨2, 0, 0, p⟩, ⟨3, 7, 0, q⟩]
section
variable {p q : ByteArray}
theorem l4_2 (hp : kindS p = 0) (hq : kindS q = 1) (u : Int) : ¬ Needless (l4 p q) 2 u := by
  have np : p ≠ putS 2 := fun e => by rw [e, kind_put2] at hp; omega
  rintro ⟨_, _, h | ⟨k, hk, h1, h2, h3⟩⟩
  · exact np h
  · obtain rfl : k = 3 := by simp [l4] at hk; omega
    simp [l4, SameR, hp, hq] at h3
theorem l4_3 (hq : kindS q = 1) (u : Int) : ¬ Needless (l4 p q) 3 u := by
  have nq : q ≠ putS 2 := fun e => by rw [e, kind_put2] at hq; omega
  rintro ⟨_, _, h | ⟨k, hk, h1, h2, h3⟩⟩
  · exact nq h
  · simp [l4] at hk
    omega
theorem l4_0 (hp : kindS p = 0) {u : Int} (hu : 2 < u) : Needless (l4 p q) 0 u := ⟨by simp [l4], by simp [l4]; omega, .inr ⟨2, by simp [l4], by omega, by simp [l4]; omega, by simp [l4, SameR, hp]⟩⟩
theorem clean4 (hp : kindS p = 0) (hq : kindS q = 1) : cleanN (l4 p q) 4 4 = (l4 p q).drop 2 := by
  have n1 : Needless (l4 p q) 1 4 := ⟨by simp [l4], by simp [l4], .inr ⟨3, by simp [l4], by omega, by simp [l4], by simp [l4, SameR, hq]⟩⟩
  rw [cleanN_take (by simp [l4]) (l4_3 hq 4), cleanN_take (by simp [l4]) (l4_2 hp hq 4), cleanN_skip n1, cleanN_skip (l4_0 hp (by omega))]
  rfl
theorem clean3 (hp : kindS p = 0) (hq : kindS q = 1) : cleanN (l4 p q) 3 4 = (l4 p q).drop 1 := by
  have nq : q ≠ putS 2 := fun e => by rw [e, kind_put2] at hq; omega
  have n1 : ¬ Needless (l4 p q) 1 3 := by
    rintro ⟨_, _, h | ⟨k, hk, h1, h2, h3⟩⟩
    · exact nq h
    · rcases (by simp [l4] at hk; omega : k = 2 ∨ k = 3) with rfl | rfl
      · simp [l4, SameR, hp, hq] at h3
      · simp [l4] at h2
  rw [cleanN_take (by simp [l4]) (l4_3 hq 3), cleanN_take (by simp [l4]) (l4_2 hp hq 3), cleanN_take (by simp [l4]) n1, cleanN_skip (l4_0 hp (by omega))]
  rfl
end
theorem kind_head {s : ByteArray} {n : Int} {r : List Nat} (h : bytesN s = lebN (zz n) ++ r) (h0 : 0 ≤ n ∧ n ≤ 2) : kindS s = n := by
  unfold kindS
  rw [takeS_L, h, takeL_put n r (by omega) (by omega)]
  simp only [Option.map_some]
  rw [if_pos h0]
theorem kind_counts : kindS (allS [0, 1, 0, 0, 1]) = 0 := by
  refine kind_head (n := 0) (r := lebN (zz 1) ++ (lebN (zz 0) ++ (lebN (zz 0) ++ lebN (zz 1)))) ?_ (by omega)
  simp only [allS, List.foldl_cons, List.foldl_nil, bytesN_append, bytesN_putS, List.append_assoc]
  rfl
theorem kind_window : kindS (putS 1) = 1 := kind_head (n := 1) (r := []) (by rw [bytesN_putS, List.append_nil]) (by omega)
section
variable {w0 w : World} {F : List Nat} {L : List Res} {A : Option Addr} {c : Nat}
theorem putS_size {n : Int} (h : -9223372036854775808 ≤ n ∧ n ≤ 9223372036854775807) : (putS n).size ≤ 10 := by
  rw [← bytesN_length, bytesN_putS]
  exact lebN_len _ (zz_lt n h.1 h.2)
theorem fold_size {xs : List Int} (hx : ∀ x ∈ xs, -9223372036854775808 ≤ x ∧ x ≤ 9223372036854775807) (s : ByteArray) : (xs.foldl (fun s n => s ++ putS n) s).size ≤ s.size + 10 * xs.length := by
  induction xs generalizing s with
  | nil => simp
  | cons x xs ih =>
    have h1 := ih (fun y hy => hx y (.tail _ hy)) (s ++ putS x)
    have h2 := putS_size (hx x (.head _))
    rw [ByteArray.size_append] at h1
    rw [List.foldl_cons, List.length_cons]
    omega
theorem all_ret {xs : List Int} (hx : ∀ x ∈ xs, -9223372036854775808 ≤ x ∧ x ≤ 9223372036854775807) (hm : xs.length ≤ 1000) (hE : Bes w0 F L 1 A xs.length (xs.map (Value.int .i64))) (hS : St w0 F w L) : Ret Try.prog 16 #[.slice A xs.length c] w fun v w' => v = .string (allS xs) ∧ St w0 F w' L := by
  refine s16 _ ?_
  unfold m16 m16_0 m16_1 m16_2 m16_5
  refine loop_in (fun u w' => ∃ i : Nat, u = (.string (allS (xs.take i)), .int .i64 (i : Int)) ∧ i ≤ xs.length ∧ St w0 F w' L) (fun u _ => xs.length - (intOf u.2).toNat) ⟨0, rfl, by omega, hS⟩ ?_
  clear hS
  rintro u w ⟨i, rfl, hi, hS⟩
  simp only
  unfold m16_6
  refine builtin_ok (len51 _) ?_
  refine valP_ok (lss_ok _ _ _ _ _ _ _) ?_
  unfold m16_9
  refine cond_split (fun h => ?_) (fun h => ?_)
  · have hil : i < xs.length := by omega
    obtain ⟨gb, o, rfl⟩ := (hE.rd hS).some_ (by omega) (by omega)
    unfold m16_7
    refine valP_ok (ix51 hil _) ?_
    refine valP_ok (ld3 ((hE.rd hS).cell_ (u := .int .i64 xs[i]) (by simp [hil]))) ?_
    refine callR (by kernel_rfl) (rput_ret (hx _ (List.getElem_mem hil)) hS) ?_
    rintro _ w ⟨rfl, hS⟩
    have hsz := fold_size (xs := xs.take i) (fun x hx' => hx x (List.mem_of_mem_take hx')) ⟨#[]⟩
    have hps := putS_size (hx _ (List.getElem_mem hil))
    rw [List.length_take] at hsz
    have hz0 : (⟨#[]⟩ : ByteArray).size = 0 := rfl
    refine valP_ok (sadd _ _ (by unfold allS; omega) _) ?_
    unfold m16_8
    refine valP_ok (add_ok _ _ _ (by omega) (by omega) _) ?_
    refine ⟨⟨i + 1, ?_, by omega, hS⟩, by simp [intOf]; omega⟩
    unfold allS
    rw [List.take_succ_eq_append_getElem hil, List.foldl_append]
    rfl
  · obtain rfl : i = xs.length := by omega
    unfold m16_3 m16_4
    rw [List.take_length]
    exact ⟨rfl, hS⟩
theorem awake_ret (hS : St w0 F w L) : Ret Try.prog 6 #[] w fun v w' => v = .bool true ∧ St w0 F w' L := by
  refine s6 ?_
  unfold m6 m6_0
  unfold m6_1
  refine newslice_ok (bs51_5 rfl rfl rfl rfl rfl _) hS ?_
  intro b4 w hS
  refine callR (by kernel_rfl) (all_ret (xs := [0, 1, 0, 0, 1]) (by simp) (by simp) (Bes.of_cells 0 rfl rfl) hS) ?_
  rintro _ w ⟨rfl, hS⟩
  refine callR (by kernel_rfl) (rput_ret (by omega) hS) ?_
  rintro _ w ⟨rfl, hS⟩
  have hp := kind_counts
  have hq := kind_window
  generalize allS [0, 1, 0, 0, 1] = p at *
  generalize putS 1 = q at *
  unfold m6_2
  refine valP_ok (bd46_2 rfl _) ?_
  refine valP_ok (bd48_1 _) ?_
  refine valP_ok (bd46_0_2 rfl rfl _) ?_
  refine valP_ok (bd48_0_1 rfl _) ?_
  refine valP_ok (bd46_2 rfl _) ?_
  refine valP_ok (bd48_0_1 rfl _) ?_
  refine valP_ok (bd46_0_2 rfl rfl _) ?_
  refine valP_ok (bd48_0_1 rfl _) ?_
  refine newslice_ok (bs25_4 _) hS ?_
  intro b19 w hS
  have hB : BG w0 F (Res.cells b19 48 ((l4 p q).flatMap encG) :: Res.cells b4 3 [.int .i64 0, .int .i64 1, .int .i64 0, .int .i64 0, .int .i64 1] :: L) (some ⟨b19, 0, none⟩) (l4 p q) := Bes.of_cells 0 rfl rfl
  have hok : ∀ g ∈ l4 p q, GtOk g := by simp [l4, GtOk]
  unfold m6_3
  refine drawn_ok hS ?_
  intro w hS
  refine pureP_ok (fun w => so25 (A := some ⟨b19, 0, none⟩) (n := 4) (c := 4) (k := 2) (by omega) (by omega) w) ?_
  refine callR (by kernel_rfl) (clean_ret (l := l4 p q) (c := 4) (by simp [l4]) hok hB hS) ?_
  rintro _ w ⟨A1, c1, rfl, hS⟩
  refine callR (by kernel_rfl) (samegot_ret (l := cleanN (l4 p q) 4 4) (l2 := (l4 p q).drop 2) (c2 := 2) (A2 := some ⟨b19, 8, none⟩) (by rw [clean4 hp hq]; simp [l4]) (by simp [l4]) (Bes.of_row 0 rfl) (fun w L' hS hL => ((hB.cons _) w L' hS hL).dropS (c := 4) (k := 2) encG_len (by simp [l4]) (by simp [l4])) hS) ?_
  rintro _ w ⟨⟨t, rfl, ht⟩, hS⟩
  have ht := ht.2 (clean4 hp hq)
  subst ht
  refine cond_t rfl ?_
  refine pureP_ok (fun w => so25 (A := some ⟨b19, 0, none⟩) (n := 4) (c := 4) (k := 1) (by omega) (by omega) w) ?_
  refine callR (by kernel_rfl) (clean_ret (l := l4 p q) (c := 4) (by simp [l4]) hok (hB.cons _) hS) ?_
  rintro _ w ⟨A2, c2, rfl, hS⟩
  refine callR (by kernel_rfl) (samegot_ret (l := cleanN (l4 p q) 3 4) (l2 := (l4 p q).drop 1) (c2 := 3) (A2 := some ⟨b19, 4, none⟩) (by rw [clean3 hp hq]; simp [l4]) (by simp [l4]) (Bes.of_row 0 rfl) (fun w L' hS hL => (((hB.cons _).cons _) w L' hS hL).dropS (c := 4) (k := 1) encG_len (by simp [l4]) (by simp [l4])) hS) ?_
  rintro _ w ⟨⟨t, rfl, ht⟩, hS⟩
  have ht := ht.2 (clean3 hp hq)
  subst ht
  first | refine pick_dt (by first | assumption | omega) ?_ | refine pick_df (by first | assumption | omega) ?_ | refine pick_t (by first | rfl | assumption) ?_ | refine pick_f (by first | rfl | assumption) ?_ | refine pick_dt rfl ?_ | refine pick_df (not_not_intro rfl) ?_
  unfold m6_4
  exact ⟨rfl, hS.tail.tail.tail.tail⟩
end


end Go.Proofs.Ytnhgdngbdoifnaa.M
