/- DiskFuse: behind so many operations as the fuse says the power is off, and nothing is done any more, until it crashed; what was done ahead of it is there. -/
import Derived.Test.YtcldjjmfpmkldaaDoorD16
import Derived.Test.YtcldjjmfpmkldaaDoorFwL
import Derived.Test.YtcldjjmfpmkldaaDoorFwW
import Derived.Test.YtcldjjmfpmkldaaDoorFwB
import Derived.Test.YtcldjjmfpmkldaaDoorFwM
import Derived.Test.YtcldjjmfpmkldaaDoorMtrim0
import Derived.Test.YtcldjjmfpmkldaaDoorMdisk0
import Derived.Test.YtcldjjmfpmkldaaDoorMmore0
import Derived.Test.YtcldjjmfpmkldaaDoorMlaw0
import Derived.Test.YtcldjjmfpmkldaaDoorMall0
import Derived.Test.YtcldjjmfpmkldaaDoorMall1
namespace Go.Proofs.YtcldjjmfpmkldaaDoor.M
open Go.Proofs.YtcldjjmfpmkldaaDoor.F Go.RowKit
set_option linter.unusedVariables false
set_option linter.unusedSimpArgs false
set_option maxRecDepth 100000
set_option maxHeartbeats 2000000
attribute [local irreducible] Res.cells Res.row Res.map Res.any World.cell? World.frozen? Instr.fieldAt Instr.loadAt Instr.storeAt Instr.indexAt Instr.lookup Instr.mapUpdate Instr.box Instr.build Instr.buildSlice Instr.extract Instr.alloc Instr.field Instr.index Instr.sliceAt Instr.makeSlice Instr.makeMap Instr.makeFunc binS Op.unary Sem.run
theorem rem50 (x y : Operand) (a : Int) (w : World) : (binS .rem 3 x y (.int .i64 a) (.int .i64 50)).run Tryd.prog w = .ok (.int .i64 (Int.tmod a 50)) w := by
  rw [binS_run _ _ _ _ _ _ (by kernel_rfl)]
  have h1 : Int.tmod a 50 < 50 := Int.tmod_lt_of_pos a (by omega)
  have h2 : -50 < Int.tmod a 50 := Int.lt_tmod_of_pos a (by omega)
  simp [go_sem, binOp, IntKind.wrap_i64]
theorem flatStr (l : List ByteArray) : l.flatMap (fun s => [Value.string s]) = l.map Value.string := by
  induction l with
  | nil => rfl
  | cons x l ih => rw [List.flatMap_cons, ih]; rfl
theorem begS_refl (a : ByteArray) : begS a a := ⟨⟨#[]⟩, by apply ByteArray.ext; rw [ByteArray.data_append]; simp⟩
theorem begS_add {a b : ByteArray} (h : begS a b) (c : ByteArray) : begS a (b ++ c) := by
  obtain ⟨d, rfl⟩ := h
  exact ⟨d ++ c, by apply ByteArray.ext; simp only [ByteArray.data_append, Array.append_assoc]⟩
/-- how it stands behind so many texts. -/
structure FInv (f0 i : Nat) (done all : ByteArray) (D : Dk) : Prop where
  beg : begS done all
  sz : all.size ≤ 100 * i ∧ done.size ≤ 100 * i
  none_ : i = 0 → D.L = [] ∧ D.room = 1000 ∧ all = ⟨#[]⟩
  some_ : 0 < i → D.L = [⟨sA, ⟨#[]⟩, all⟩] ∧ D.room = 1000 - blk all.size
  off : D.off = decide (f0 < i)
  on : i ≤ f0 → D.fuse = (f0 : Int) - i ∧ done = all
theorem sz1 (all : ByteArray) : (⟨sA, ⟨#[]⟩, all⟩ : Fl).sz = all.size := by
  show (⟨#[]⟩ : ByteArray).size + all.size = all.size
  rw [show (⟨#[]⟩ : ByteArray).size = 0 from rfl]
  omega
theorem getA (a c : ByteArray) : getF [⟨sA, a, c⟩] sA = some ⟨sA, a, c⟩ := by simp [getF]
theorem FInv.app {f0 i : Nat} {done all s : ByteArray} {D : Dk} (h : FInv f0 i done all D) (hi : i < 60) (hs : s.size ≤ 100) :
    (f0 < i → appD D sA s = (D, 4)) ∧ (i ≤ f0 → (appD D sA s).1.L = [⟨sA, ⟨#[]⟩, all ++ s⟩] ∧ (appD D sA s).1.room = 1000 - blk (all ++ s).size ∧ (appD D sA s).1.off = decide (f0 < i + 1) ∧ (i + 1 ≤ f0 → (appD D sA s).1.fuse = (f0 : Int) - (i + 1 : Nat)) ∧ (appD D sA s).2 = if i < f0 then 0 else 4) := by
  obtain ⟨L, r, fu, off⟩ := D
  have h5 := h.off
  simp only at h5
  have hsz := h.sz
  constructor
  · intro hlt
    rw [decide_eq_true hlt] at h5
    subst h5
    have e : readyC [sA] true = 4 := by
      unfold readyC
      rw [if_pos (fun x hx => by obtain rfl := List.mem_singleton.1 hx; exact namedA)]
      rfl
    unfold appD
    simp only [e]
    rfl
  · intro hle
    rw [decide_eq_false (by omega)] at h5
    subst h5
    obtain ⟨h6, h7⟩ := h.on hle
    simp only at h6
    have hal : (all ++ s).size = all.size + s.size := ByteArray.size_append
    have key : appD ⟨L, r, fu, false⟩ sA s = burnC ⟨[⟨sA, ⟨#[]⟩, all ++ s⟩], 1000 - blk (all ++ s).size, fu, false⟩ := by
      unfold appD
      simp only [ready1 namedA, if_true]
      rcases Nat.eq_zero_or_pos i with h0 | h0
      · obtain ⟨e1, e2, e3⟩ := h.none_ h0
        simp only at e1 e2
        subst e1; subst e2; subst e3
        rw [show getF [] sA = none from rfl]
        simp only
        have hb : blk s.size ≤ 2 := by unfold blk; omega
        rw [if_neg (by simp; omega), empty_add]
        rfl
      · obtain ⟨e1, e2⟩ := h.some_ h0
        simp only at e1 e2
        subst e1; subst e2
        rw [getA]
        simp only
        rw [sz1]
        have hb : blk all.size ≤ 100 := by unfold blk; omega
        have hb2 : blk (all.size + s.size) ≤ 100 := by unfold blk; omega
        rw [if_neg (by omega), hal]
        congr 2
        omega
    rw [key]
    unfold burnC
    rw [burnt_eq]
    refine ⟨rfl, rfl, ?_, ?_, ?_⟩ <;> simp only
    · by_cases g : fu = 0
      · rw [if_pos g, decide_eq_true (by omega)]
      · rw [if_neg g, decide_eq_false (by omega)]
    · intro g
      rw [if_pos (by omega)]
      omega
    · by_cases g : fu = 0
      · rw [if_pos g, if_neg (by omega)]
      · rw [if_neg g, if_pos (by omega)]
theorem FInv.next {f0 i : Nat} {done all s : ByteArray} {D : Dk} (h : FInv f0 i done all D) (hi : i < 60) (hs : s.size ≤ 100) :
    (appD D sA s).2 = (if i < f0 then 0 else 4) ∧ (appD D sA s).1.off = decide (f0 < i + 1) ∧ FInv f0 (i + 1) (if i < f0 then done ++ s else done) (if i ≤ f0 then all ++ s else all) (appD D sA s).1 := by
  have h1 := FInv.app h hi hs
  have hsz := h.sz
  have e1 : (done ++ s).size = done.size + s.size := ByteArray.size_append
  have e2 : (all ++ s).size = all.size + s.size := ByteArray.size_append
  rcases Nat.lt_or_ge f0 i with hgt | hle
  · rw [h1.1 hgt, if_neg (by omega), if_neg (by omega), if_neg (by omega)]
    refine ⟨rfl, ?_, h.beg, by omega, fun h => by omega, fun _ => h.some_ (by omega), ?_, fun h => by omega⟩
    · rw [h.off, decide_eq_true hgt, decide_eq_true (by omega)]
    · rw [h.off, decide_eq_true hgt, decide_eq_true (by omega)]
  · obtain ⟨a1, a2, a3, a4, a5⟩ := h1.2 hle
    have hda := (h.on hle).2
    rw [if_pos hle]
    refine ⟨a5, a3, ?_, ?_, fun h => by omega, fun _ => ⟨a1, a2⟩, a3, fun h => ⟨a4 h, ?_⟩⟩
    · split
      · rw [hda]; exact begS_refl _
      · exact begS_add h.beg s
    · split <;> omega
    · rw [if_pos (by omega), hda]
theorem FInv.crashed {f0 i : Nat} {done all : ByteArray} {D : Dk} (h : FInv f0 i done all D) (hi : i ≤ 60) : (readV (crashD D [1048576]) sA).1 = all := by
  have hsz := h.sz
  have hn : readyC [sA] (crashD D [1048576]).off = 0 := ready1 namedA
  unfold readV
  rw [if_pos hn]
  rcases Nat.eq_zero_or_pos i with h0 | h0
  · obtain ⟨e1, e2, e3⟩ := h.none_ h0
    subst e3
    have e : (crashD D [1048576]).L = [] := by
      unfold crashD
      rw [e1]
      rfl
    rw [e]
    rfl
  · obtain ⟨e1, e2⟩ := h.some_ h0
    have e : (crashD D [1048576]).L = [⟨sA, all, ⟨#[]⟩⟩] := by
      unfold crashD
      rw [e1]
      show [crOne [1048576] 0 ⟨sA, ⟨#[]⟩, all⟩] = _
      have hk : kN [1048576] 0 all.size = all.size := by
        unfold kN
        rw [dif_pos (by simp)]
        show (max 0 (min (1048576 : Int) (all.size : Int))).toNat = all.size
        omega
      unfold crOne
      simp only
      rw [hk, empty_add, ByteArray.extract_zero_size]
    rw [e, getA]
    show all ++ ⟨#[]⟩ = all
    apply ByteArray.ext; rw [ByteArray.data_append]; simp
section
variable {w0 w : World} {F : List Nat} {L : List Res} {A : Option Addr} {c b size : Nat} {D : Dk}
theorem dfuse_ret {fuse : Int} {l : List ByteArray} (hfu : -9223372036854775808 ≤ fuse ∧ fuse ≤ 9223372036854775807) (hl : Rd w0 1 A l.length (l.map Value.string)) : Ret Tryd.prog 3 #[.int .i64 fuse, .slice A l.length c] w0 fun v w' => v = .bool true ∧ Below w0.heap.size w0 w' := by
  have hS := St.start w0
  refine s3 _ _ ?_
  unfold m3 m3_0 m3_1
  refine callR (by kernel_rfl) (new_ret (n := 1000) hS) ?_
  intro v w hR
  rw [if_pos (by omega)] at hR
  obtain ⟨b, rfl, mb, X, hX, hS⟩ := hR
  have hO : Ok 1000 ⟨[], 1000, -1, false⟩ := Ok.new (n := 1000) (by omega)
  refine valP_ok (extract_ok _ 0 rfl _) ?_
  refine valP_ok (extract_ok _ 1 rfl _) ?_
  unfold m3_2
  refine valP_ok (ne24 _ _ _ _ _) ?_
  refine cond_df (not_not_intro rfl) ?_
  first | refine valP_ok (eq23n _ _ _) ?_ | refine valP_ok (eq23s _ _ _ _) ?_
  first | refine pick_dt (by first | assumption | omega) ?_ | refine pick_df (by first | assumption | omega) ?_ | refine pick_t (by first | rfl | assumption) ?_ | refine pick_f (by first | rfl | assumption) ?_ | refine pick_dt rfl ?_ | refine pick_df (not_not_intro rfl) ?_
  unfold m3_26
  refine cond_f rfl ?_
  unfold m3_3
  refine valP_ok (rem50 _ _ _ _) ?_
  have t1 : Int.tmod fuse 50 < 50 := Int.tmod_lt_of_pos fuse (by omega)
  have t2 : -50 < Int.tmod fuse 50 := Int.lt_tmod_of_pos fuse (by omega)
  refine valP_ok (add_ok _ _ _ (by omega) (by omega) _) ?_
  refine valP_ok (rem50 _ _ _ _) ?_
  obtain ⟨f0, hf0, hf1⟩ : ∃ f0 : Nat, Int.tmod (Int.tmod fuse 50 + 50) 50 = (f0 : Int) ∧ f0 < 50 := by
    have h1 : Int.tmod (Int.tmod fuse 50 + 50) 50 < 50 := Int.tmod_lt_of_pos _ (by omega)
    have h2 : 0 ≤ Int.tmod (Int.tmod fuse 50 + 50) 50 := by rw [Int.tmod_eq_emod_of_nonneg (by omega)]; omega
    exact ⟨(Int.tmod (Int.tmod fuse 50 + 50) 50).toNat, by omega, by omega⟩
  rw [hf0]
  unfold m3_4
  refine callR (by kernel_rfl) (fuse_ret hS) ?_
  intro _ w hS
  rw [show max (f0 : Int) (-1) = (f0 : Int) by omega] at hS
  unfold m3_5 m3_6 m3_11
  have hI0 : FInv f0 0 ⟨#[]⟩ ⟨#[]⟩ ⟨[], 1000, (f0 : Int), false⟩ := ⟨begS_refl _, ⟨Nat.le_refl _, Nat.le_refl _⟩, fun _ => ⟨rfl, rfl, rfl⟩, fun h => by omega, (decide_eq_false (by omega)).symm, fun _ => ⟨by show (f0 : Int) = (f0 : Int) - ((0 : Nat) : Int); omega, rfl⟩⟩
  have hO : Ok 1000 ⟨[], 1000, (f0 : Int), false⟩ := ⟨hO.up, hO.len, hO.room, hO.sum, hO.names, by show -1 ≤ (f0 : Int) ∧ (f0 : Int) ≤ 9223372036854775807; omega, hO.size⟩
  refine loop_in (fun u w' => ∃ (i : Nat) (done all : ByteArray) (D : Dk), u = (.string done, .string all, .int .i64 (i : Int)) ∧ i ≤ l.length ∧ i ≤ 60 ∧ FInv f0 i done all D ∧ Ok 1000 D ∧ Dsk w0 [] [] b D w') (fun u _ => l.length - (intOf u.2.2).toNat) ⟨0, ⟨#[]⟩, ⟨#[]⟩, ⟨[], 1000, (f0 : Int), false⟩, rfl, by omega, by omega, hI0, hO, mb, X, hX, hS⟩ ?_
  clear hS hX hI0 hO
  rintro u w ⟨i, done, all, D, rfl, hi, hi60, hI, hO, hD⟩
  simp only
  have fin : m3_7 (fun v w' => v = .bool true ∧ Below w0.heap.size w0 w') (ptr b) (.string done) (.string all) w := by
    obtain ⟨mb, X, hX, hS⟩ := hD
    unfold m3_7
    refine newslice_ok (bs46_1 rfl _) hS ?_
    intro b87 w hS
    have hD : Dsk w0 [] [Res.cells b87 3 [.int .i64 1048576]] b D w := ⟨mb, X, hX, St.push hS⟩
    refine callR (by kernel_rfl) (crash_ret (keep := [1048576]) (by simp) hO (Bes.of_cells 0 rfl rfl) hD) ?_
    clear hD hS
    intro _ w hD
    have hO2 := Ok.crash (keep := [1048576]) hO
    have hread := FInv.crashed hI hi60
    have hoff : (crashD D [1048576]).off = false := rfl
    generalize crashD D [1048576] = E at *
    unfold m3_8
    refine callR (by kernel_rfl) (read_ret hO2 hD) ?_
    rintro _ w ⟨rfl, hD⟩
    rw [hread]
    refine valP_ok (extract_ok _ 0 rfl _) ?_
    refine valP_ok (extract_ok _ 1 rfl _) ?_
    unfold m3_9
    refine valP_ok (eq9 _ _ _ _ _) ?_
    refine cond_dt (show all = all from rfl) ?_
    obtain ⟨mb, X, hX, hS⟩ := hD
    refine callR (by kernel_rfl) (begins_ret hS) ?_
    rintro _ w ⟨⟨t, rfl, ht⟩, hS⟩
    obtain rfl := ht.2 hI.beg
    first | refine pick_dt (by first | assumption | omega) ?_ | refine pick_df (by first | assumption | omega) ?_ | refine pick_t (by first | rfl | assumption) ?_ | refine pick_f (by first | rfl | assumption) ?_ | refine pick_dt rfl ?_ | refine pick_df (not_not_intro rfl) ?_
    refine cond_t rfl ?_
    refine callR (by kernel_rfl) (off_ret hS) ?_
    rintro _ w ⟨rfl, hS⟩
    rw [hoff]
    first | refine valP_ok (not_ok _ _) ?_ | refine valP_ok (notb_ok _ _) ?_
    first | refine pick_dt (by first | assumption | omega) ?_ | refine pick_df (by first | assumption | omega) ?_ | refine pick_t (by first | rfl | assumption) ?_ | refine pick_f (by first | rfl | assumption) ?_ | refine pick_dt rfl ?_ | refine pick_df (not_not_intro rfl) ?_
    refine cond_t rfl ?_
    refine callR (by kernel_rfl) (awake_ret hS) ?_
    rintro _ w ⟨rfl, hS⟩
    first | refine pick_dt (by first | assumption | omega) ?_ | refine pick_df (by first | assumption | omega) ?_ | refine pick_t (by first | rfl | assumption) ?_ | refine pick_f (by first | rfl | assumption) ?_ | refine pick_dt rfl ?_ | refine pick_df (not_not_intro rfl) ?_
    unfold m3_10
    exact ⟨rfl, hS.below⟩
  unfold m3_12
  refine builtin_ok (len22 _) ?_
  refine valP_ok (lss_ok _ _ _ _ _ _ _) ?_
  refine cond_split (fun h => ?_) (fun h => ?_)
  · have hil : i < l.length := by omega
    refine valP_ok (lss_ok _ _ _ _ _ _ _) ?_
    first | refine pick_dt (by first | assumption | omega) ?_ | refine pick_df (by first | assumption | omega) ?_ | refine pick_t (by first | rfl | assumption) ?_ | refine pick_f (by first | rfl | assumption) ?_ | refine pick_dt rfl ?_ | refine pick_df (not_not_intro rfl) ?_
    unfold m3_25
    refine cond_split (fun h6 => ?_) (fun h6 => ?_)
    · have hi6 : i < 60 := by omega
      have hR : Rd w 1 A l.length (l.map Value.string) := by
        obtain ⟨mb, X, _, hS⟩ := hD
        exact hl.old0 hS
      obtain ⟨g, o, rfl⟩ := hR.some_ (by omega) (by omega)
      have hcl : w.cell? ⟨g, o + i, none⟩ = some (.string l[i]) := hR.cell_ (by rw [List.getElem?_map, List.getElem?_eq_getElem hil]; rfl)
      unfold m3_13
      refine valP_ok (ix22 hil _) ?_
      refine valP_ok (ld9 hcl) ?_
      have main : ∀ (s : ByteArray) (K1 : Value × Value × Value → World → Prop), s.size ≤ 100 → (∀ done' all' D' w', FInv f0 (i + 1) done' all' D' → Ok 1000 D' → Dsk w0 [] [] b D' w' → K1 (.string done', .string all', .int .i64 ((i + 1 : Nat) : Int)) w') → m3_16 (fun v w' => v = .bool true ∧ Below w0.heap.size w0 w') K1 (.int .i64 (f0 : Int)) (.slice (some ⟨g, o, none⟩) l.length c) (ptr b) (.string done) (.string all) (.int .i64 (i : Int)) (.string s) w := fun s K1 hs hK => by
        have happ := FInv.app hI hi6 hs
        have hO2 := Ok.app (s := sA) (t := s) hO
        unfold m3_16
        refine callR (by kernel_rfl) (append_ret hO (by omega) hD) ?_
        rintro _ w ⟨rfl, hD⟩
        have hnext := FInv.next hI hi6 hs
        have hsz := hI.sz
        generalize appD D sA s = E at *
        obtain ⟨E, f⟩ := E
        simp only at hO2 hD hnext ⊢
        obtain ⟨hf, hoff, hnx⟩ := hnext
        subst hf
        obtain ⟨mb, X, hX, hS⟩ := hD
        rcases Nat.lt_trichotomy i f0 with hlt | heq | hgt
        · rw [if_pos hlt] at hnx ⊢
          rw [if_pos (by omega)] at hnx
          unfold m3_17
          refine valP_ok (eq24 _ _ _ _ _) ?_
          refine valP_ok (lss_ok _ _ _ _ _ _ _) ?_
          refine valP_ok (ne4 _ _ _ _ _) ?_
          have e1 : decide (¬ decide ((0 : Int) = 0) = decide ((i : Int) < (f0 : Int))) = false := by rw [decide_eq_true (show (i : Int) < (f0 : Int) by omega)]; rfl
          rw [e1]
          refine cond_f rfl ?_
          refine valP_ok (ne24 _ _ _ _ _) ?_
          refine cond_df (not_not_intro rfl) ?_
          first | refine pick_dt (by first | assumption | omega) ?_ | refine pick_df (by first | assumption | omega) ?_ | refine pick_t (by first | rfl | assumption) ?_ | refine pick_f (by first | rfl | assumption) ?_ | refine pick_dt rfl ?_ | refine pick_df (not_not_intro rfl) ?_
          first | refine pick_dt (by first | assumption | omega) ?_ | refine pick_df (by first | assumption | omega) ?_ | refine pick_t (by first | rfl | assumption) ?_ | refine pick_f (by first | rfl | assumption) ?_ | refine pick_dt rfl ?_ | refine pick_df (not_not_intro rfl) ?_
          refine cond_f rfl ?_
          refine callR (by kernel_rfl) (off_ret hS) ?_
          rintro _ w ⟨rfl, hS⟩
          rw [hoff]
          refine valP_ok (geq_ok _ _ _ _ _ _ _) ?_
          refine valP_ok (ne4 _ _ _ _ _) ?_
          have e2 : decide (¬ decide (f0 < i + 1) = decide ((f0 : Int) ≤ (i : Int))) = false := by rw [decide_eq_false_iff_not, Decidable.not_not]; exact decide_eq_decide.2 (by omega)
          rw [e2]
          first | refine pick_dt (by first | assumption | omega) ?_ | refine pick_df (by first | assumption | omega) ?_ | refine pick_t (by first | rfl | assumption) ?_ | refine pick_f (by first | rfl | assumption) ?_ | refine pick_dt rfl ?_ | refine pick_df (not_not_intro rfl) ?_
          unfold m3_22
          refine cond_f rfl ?_
          unfold m3_18
          refine valP_ok (leq_ok _ _ _ _ _ _ _) ?_
          unfold m3_21
          refine cond_dt (by omega) ?_
          refine valP_ok (sadd _ _ (by omega) w) ?_
          unfold m3_19
          refine valP_ok (eq24 _ _ _ _ _) ?_
          unfold m3_20
          refine cond_dt rfl ?_
          refine valP_ok (sadd _ _ (by omega) w) ?_
          unfold m3_14
          refine valP_ok (add_ok _ _ _ (by omega) (by omega) _) ?_
          exact hK _ _ _ _ hnx hO2 ⟨mb, X, hX, hS⟩
        · rw [if_neg (by omega)] at hnx ⊢
          rw [if_pos (by omega)] at hnx
          unfold m3_17
          refine valP_ok (eq24 _ _ _ _ _) ?_
          refine valP_ok (lss_ok _ _ _ _ _ _ _) ?_
          refine valP_ok (ne4 _ _ _ _ _) ?_
          have e1 : decide (¬ decide ((4 : Int) = 0) = decide ((i : Int) < (f0 : Int))) = false := by rw [decide_eq_false (show ¬ (i : Int) < (f0 : Int) by omega)]; rfl
          rw [e1]
          refine cond_f rfl ?_
          refine valP_ok (ne24 _ _ _ _ _) ?_
          refine cond_dt (by omega) ?_
          refine valP_ok (ne24 _ _ _ _ _) ?_
          first | refine pick_dt (by first | assumption | omega) ?_ | refine pick_df (by first | assumption | omega) ?_ | refine pick_t (by first | rfl | assumption) ?_ | refine pick_f (by first | rfl | assumption) ?_ | refine pick_dt rfl ?_ | refine pick_df (not_not_intro rfl) ?_
          first | refine pick_dt (by first | assumption | omega) ?_ | refine pick_df (by first | assumption | omega) ?_ | refine pick_t (by first | rfl | assumption) ?_ | refine pick_f (by first | rfl | assumption) ?_ | refine pick_dt rfl ?_ | refine pick_df (not_not_intro rfl) ?_
          refine cond_df (not_not_intro rfl) ?_
          refine callR (by kernel_rfl) (off_ret hS) ?_
          rintro _ w ⟨rfl, hS⟩
          rw [hoff]
          refine valP_ok (geq_ok _ _ _ _ _ _ _) ?_
          refine valP_ok (ne4 _ _ _ _ _) ?_
          have e2 : decide (¬ decide (f0 < i + 1) = decide ((f0 : Int) ≤ (i : Int))) = false := by rw [decide_eq_false_iff_not, Decidable.not_not]; exact decide_eq_decide.2 (by omega)
          rw [e2]
          first | refine pick_dt (by first | assumption | omega) ?_ | refine pick_df (by first | assumption | omega) ?_ | refine pick_t (by first | rfl | assumption) ?_ | refine pick_f (by first | rfl | assumption) ?_ | refine pick_dt rfl ?_ | refine pick_df (not_not_intro rfl) ?_
          unfold m3_22
          refine cond_f rfl ?_
          unfold m3_18
          refine valP_ok (leq_ok _ _ _ _ _ _ _) ?_
          unfold m3_21
          refine cond_dt (by omega) ?_
          refine valP_ok (sadd _ _ (by omega) w) ?_
          unfold m3_19
          refine valP_ok (eq24 _ _ _ _ _) ?_
          unfold m3_20
          refine cond_df (by omega) ?_
          unfold m3_14
          refine valP_ok (add_ok _ _ _ (by omega) (by omega) _) ?_
          exact hK _ _ _ _ hnx hO2 ⟨mb, X, hX, hS⟩
        · rw [if_neg (by omega)] at hnx ⊢
          rw [if_neg (by omega)] at hnx
          unfold m3_17
          refine valP_ok (eq24 _ _ _ _ _) ?_
          refine valP_ok (lss_ok _ _ _ _ _ _ _) ?_
          refine valP_ok (ne4 _ _ _ _ _) ?_
          have e1 : decide (¬ decide ((4 : Int) = 0) = decide ((i : Int) < (f0 : Int))) = false := by rw [decide_eq_false (show ¬ (i : Int) < (f0 : Int) by omega)]; rfl
          rw [e1]
          refine cond_f rfl ?_
          refine valP_ok (ne24 _ _ _ _ _) ?_
          refine cond_dt (by omega) ?_
          refine valP_ok (ne24 _ _ _ _ _) ?_
          first | refine pick_dt (by first | assumption | omega) ?_ | refine pick_df (by first | assumption | omega) ?_ | refine pick_t (by first | rfl | assumption) ?_ | refine pick_f (by first | rfl | assumption) ?_ | refine pick_dt rfl ?_ | refine pick_df (not_not_intro rfl) ?_
          first | refine pick_dt (by first | assumption | omega) ?_ | refine pick_df (by first | assumption | omega) ?_ | refine pick_t (by first | rfl | assumption) ?_ | refine pick_f (by first | rfl | assumption) ?_ | refine pick_dt rfl ?_ | refine pick_df (not_not_intro rfl) ?_
          refine cond_df (not_not_intro rfl) ?_
          refine callR (by kernel_rfl) (off_ret hS) ?_
          rintro _ w ⟨rfl, hS⟩
          rw [hoff]
          refine valP_ok (geq_ok _ _ _ _ _ _ _) ?_
          refine valP_ok (ne4 _ _ _ _ _) ?_
          have e2 : decide (¬ decide (f0 < i + 1) = decide ((f0 : Int) ≤ (i : Int))) = false := by rw [decide_eq_false_iff_not, Decidable.not_not]; exact decide_eq_decide.2 (by omega)
          rw [e2]
          first | refine pick_dt (by first | assumption | omega) ?_ | refine pick_df (by first | assumption | omega) ?_ | refine pick_t (by first | rfl | assumption) ?_ | refine pick_f (by first | rfl | assumption) ?_ | refine pick_dt rfl ?_ | refine pick_df (not_not_intro rfl) ?_
          unfold m3_22
          refine cond_f rfl ?_
          unfold m3_18
          refine valP_ok (leq_ok _ _ _ _ _ _ _) ?_
          unfold m3_21
          refine cond_df (by omega) ?_
          unfold m3_19
          refine valP_ok (eq24 _ _ _ _ _) ?_
          unfold m3_20
          refine cond_df (by omega) ?_
          unfold m3_14
          refine valP_ok (add_ok _ _ _ (by omega) (by omega) _) ?_
          exact hK _ _ _ _ hnx hO2 ⟨mb, X, hX, hS⟩
      unfold m3_15
      refine builtin_ok (len9 _) ?_
      refine valP_ok (gtr_ok _ _ _ _ _ _ _) ?_
      unfold m3_24
      refine cond_split (fun h1 => ?_) (fun h1 => ?_)
      · refine valP_ok (sto (k := 100) _ (by omega)) ?_
        refine main _ _ (by rw [ext_size _ _ _ (by omega)]; omega) (fun done' all' D' w' h1 h2 h3 => ⟨⟨i + 1, done', all', D', rfl, by omega, by omega, h1, h2, h3⟩, by simp [intOf]; omega⟩)
      · refine main _ _ (by omega) (fun done' all' D' w' h1 h2 h3 => ⟨⟨i + 1, done', all', D', rfl, by omega, by omega, h1, h2, h3⟩, by simp [intOf]; omega⟩)
    · exact fin
  · first | refine pick_dt (by first | assumption | omega) ?_ | refine pick_df (by first | assumption | omega) ?_ | refine pick_t (by first | rfl | assumption) ?_ | refine pick_f (by first | rfl | assumption) ?_ | refine pick_dt rfl ?_ | refine pick_df (not_not_intro rfl) ?_
    unfold m3_25
    refine cond_f rfl ?_
    exact fin
theorem openStrs {H : Type} {en : TypeId × Value → H} {w : World} {n : Nat} {cs : List Value} {y : DataW H × List MemPlace} (h : DataW.trod en Tryd.prog w 0 (fun _ => true) true n 22 cs = some y) :
    ∃ (A : Option Addr) (c : Nat) (l : List ByteArray), cs = [.slice A l.length c] ∧ l.length ≤ c ∧ (A = none → c = 0) ∧ Rd w 1 A l.length (l.flatMap fun s => [Value.string s]) ∧ ∀ x ∈ l, True :=
  open_rowsE (fun s => [Value.string s]) (fun _ => True) (by omega) Tryd.underlying22 (by kernel_rfl) (fun n cs y h => by
    obtain ⟨a, e, _, _⟩ := DataW.trod_string Tryd.underlying9 h
    exact ⟨a, e, rfl, trivial⟩) h
end

end Go.Proofs.YtcldjjmfpmkldaaDoor.M
