/- A disk, plain; its cells; small things. -/
import Derived.Test.YtcldjjmfpmkldaaDoorD1
import Derived.Test.YtcldjjmfpmkldaaDoorFwW
import Derived.Test.YtcldjjmfpmkldaaDoorFwB
import Derived.Test.YtcldjjmfpmkldaaDoorFwM
import Derived.Test.YtcldjjmfpmkldaaDoorMtrim0
import Derived.Test.YtcldjjmfpmkldaaDoorMdisk0
namespace Go.Proofs.YtcldjjmfpmkldaaDoor.M
open Go.Proofs.YtcldjjmfpmkldaaDoor.F Go.RowKit
set_option linter.unusedVariables false
set_option linter.unusedSimpArgs false
set_option maxRecDepth 100000
set_option maxHeartbeats 2000000
attribute [local irreducible] Res.cells Res.row Res.map Res.any World.cell? World.frozen? Instr.fieldAt Instr.loadAt Instr.storeAt Instr.indexAt Instr.lookup Instr.mapUpdate Instr.box Instr.build Instr.buildSlice Instr.extract Instr.alloc Instr.field Instr.index Instr.sliceAt Instr.makeSlice Instr.makeMap Instr.makeFunc binS Op.unary Sem.run
structure Fl where
  name : ByteArray
  sure : ByteArray
  loose : ByteArray
def Fl.sz (f : Fl) : Nat := f.sure.size + f.loose.size
structure Dk where
  L : List Fl
  room : Int
  fuse : Int
  off : Bool
def blk (n : Nat) : Nat := max 1 ((n + 63) / 64)
abbrev dCell (b : Nat) (m : Value) (r f : Int) (o : Bool) : Res := Res.cells b 61 [m, .int .i64 r, .int .i64 f, .bool o]
abbrev fCell (g : Nat) (a c : ByteArray) : Res := Res.cells g 65 [.string a, .string c]
abbrev fileR (p : Fl × Nat) : Res := fCell p.2 p.1.sure p.1.loose
abbrev nb (p : Fl × Nat) : ByteArray × Nat := (p.1.name, p.2)
abbrev mapD (mb : Nat) (X : List (Fl × Nat)) : Res := Res.mapT Tryd.prog 9 mb (X.map nb)
/-- the disk at b is D. -/
def Dsk (w0 : World) (F : List Nat) (L : List Res) (b : Nat) (D : Dk) (w : World) : Prop := ∃ mb X, X.map Prod.fst = D.L ∧ St w0 F w (dCell b (.map (some mb)) D.room D.fuse D.off :: mapD mb X :: (X.map fileR ++ L))
/-- in the order of their names. -/
def UpL (l : List Fl) : Prop := l.Pairwise (fun a b => lst a.name < lst b.name)
theorem up_nb {X : List (Fl × Nat)} (h : UpL (X.map Prod.fst)) : Up (X.map nb) := by
  unfold Up UpL at *
  rw [List.pairwise_map] at *
  exact h
def burnt (D : Dk) : Dk := if D.fuse = 0 then ⟨D.L, D.room, D.fuse, true⟩ else if 0 < D.fuse then ⟨D.L, D.room, D.fuse - 1, D.off⟩ else D
section
variable {w0 w : World} {F : List Nat} {L : List Res}
theorem blocks_ret {n : Nat} (hn : n ≤ 1000000000000) (hS : St w0 F w L) : Ret Tryd.prog 32 #[.int .i64 (n : Int)] w fun v w' => v = .int .i64 (blk n : Int) ∧ St w0 F w' L := by
  refine s32 _ ?_
  unfold m32
  unfold m32_0
  unfold m32_1
  refine valP_ok (add_ok _ _ _ (by omega) (by omega) _) ?_
  refine valP_ok (sub_ok _ _ _ (by omega) (by omega) _) ?_
  refine valP_ok (quo_ok _ _ _ (by omega) (by omega) (by omega) _) ?_
  refine builtin_ok (max_run _ _ _) ?_
  unfold m32_2
  refine ⟨?_, hS⟩
  unfold blk
  congr 1
  omega
theorem size_ret (k : Nat) {g : Nat} {a c : ByteArray} (hz : a.size + c.size ≤ 1000000000000) (hk : L[k]? = some (fCell g a c)) (hS : St w0 F w L) : Ret Tryd.prog 33 #[ptr g] w fun v w' => v = .int .i64 ((a.size + c.size : Nat) : Int) ∧ St w0 F w' L := by
  have c0 := hS.cell k hk (i := 0) rfl
  have c1 := hS.cell k hk (i := 1) rfl
  refine s33 _ ?_
  unfold m33 m33_0 m33_1
  refine nil_ok ?_
  refine valQ_ok (fun w => fa65_0 _ _) ?_
  refine valQ_load ld9 c0 ?_
  refine builtinQ_ok (len9) ?_
  refine nil_ok ?_
  first | refine valQ_ok (fa65_1 _) ?_ | refine valQ_ok (fao65_1 _ _) ?_
  refine valQ_load ld9 c1 ?_
  refine builtinQ_ok (len9) ?_
  refine valQ_ok (add_ok _ _ _ (by omega) (by omega)) ?_
  refine drawn_ok hS ?_
  intro w hS
  unfold m33_2
  refine ⟨?_, hS⟩
  congr 1
theorem burn_ret {b : Nat} {m : Value} {r f : Int} {o : Bool} (hf : -9223372036854775808 ≤ f ∧ f ≤ 9223372036854775807) (hS : St w0 F w (dCell b m r f o :: L)) : Ret Tryd.prog 34 #[ptr b] w fun v w' => v = .bool (decide (¬ f = 0)) ∧ St w0 F w' (dCell b m r (if 0 < f then f - 1 else f) (if f = 0 then true else o) :: L) := by
  refine s34 _ ?_
  unfold m34
  unfold m34_0
  unfold m34_1
  refine nil_ok ?_
  first | refine valP_ok (fa61_2 _ _) ?_ | refine valP_ok (fao61_2 _ _ _) ?_
  first | refine valP_ok (ld3 (hS.cell 0 rfl rfl)) ?_ | refine valP_ok (ld3 (hS.cell 1 rfl rfl)) ?_ | refine valP_ok (ld3 (hS.cell 2 rfl rfl)) ?_ | refine valP_ok (ld3 (hS.cell 3 rfl rfl)) ?_ | refine valP_ok (ld3 (hS.cell 4 rfl rfl)) ?_ | refine valP_ok (ld3 (hS.cell 5 rfl rfl)) ?_ | refine valP_ok (ld3 (hS.cell 6 rfl rfl)) ?_ | refine valP_ok (ld3 (hS.cell 7 rfl rfl)) ?_ | refine valP_ok (ld3 (by assumption)) ?_
  refine valP_ok (eq3 _ _ _ _ _) ?_
  unfold m34_6
  refine cond_split (fun h => ?_) (fun h => ?_)
  · refine nil_ok ?_
    first | refine valP_ok (fa61_3 _ _) ?_ | refine valP_ok (fao61_3 _ _ _) ?_
    first | refine store_at 0 st4 hS rfl (by simp) rfl ?_ | refine store_at 1 st4 hS rfl (by simp) rfl ?_ | refine store_at 2 st4 hS rfl (by simp) rfl ?_ | refine store_at 3 st4 hS rfl (by simp) rfl ?_ | refine store_at 4 st4 hS rfl (by simp) rfl ?_ | refine store_at 5 st4 hS rfl (by simp) rfl ?_ | refine store_at 6 st4 hS rfl (by simp) rfl ?_ | refine store_at 7 st4 hS rfl (by simp) rfl ?_
    intro w hS
    simp only [List.set_cons_zero, List.set_cons_succ] at hS
    unfold m34_7 m34_8
    rw [if_pos h, if_neg (by omega)]
    exact ⟨congrArg Value.bool (decide_eq_false (not_not_intro h)).symm, hS⟩
  · unfold m34_2
    refine nil_ok ?_
    first | refine valP_ok (fa61_2 _ _) ?_ | refine valP_ok (fao61_2 _ _ _) ?_
    first | refine valP_ok (ld3 (hS.cell 0 rfl rfl)) ?_ | refine valP_ok (ld3 (hS.cell 1 rfl rfl)) ?_ | refine valP_ok (ld3 (hS.cell 2 rfl rfl)) ?_ | refine valP_ok (ld3 (hS.cell 3 rfl rfl)) ?_ | refine valP_ok (ld3 (hS.cell 4 rfl rfl)) ?_ | refine valP_ok (ld3 (hS.cell 5 rfl rfl)) ?_ | refine valP_ok (ld3 (hS.cell 6 rfl rfl)) ?_ | refine valP_ok (ld3 (hS.cell 7 rfl rfl)) ?_ | refine valP_ok (ld3 (by assumption)) ?_
    refine valP_ok (gtr_ok _ _ _ _ _ _ _) ?_
    unfold m34_5
    rw [if_neg h]
    refine cond_split (fun h1 => ?_) (fun h1 => ?_)
    · refine nil_ok ?_
      first | refine valP_ok (fa61_2 _ _) ?_ | refine valP_ok (fao61_2 _ _ _) ?_
      first | refine valP_ok (ld3 (hS.cell 0 rfl rfl)) ?_ | refine valP_ok (ld3 (hS.cell 1 rfl rfl)) ?_ | refine valP_ok (ld3 (hS.cell 2 rfl rfl)) ?_ | refine valP_ok (ld3 (hS.cell 3 rfl rfl)) ?_ | refine valP_ok (ld3 (hS.cell 4 rfl rfl)) ?_ | refine valP_ok (ld3 (hS.cell 5 rfl rfl)) ?_ | refine valP_ok (ld3 (hS.cell 6 rfl rfl)) ?_ | refine valP_ok (ld3 (hS.cell 7 rfl rfl)) ?_ | refine valP_ok (ld3 (by assumption)) ?_
      refine valP_ok (sub_ok _ _ _ (by omega) (by omega) _) ?_
      refine nil_ok ?_
      first | refine valP_ok (fa61_2 _ _) ?_ | refine valP_ok (fao61_2 _ _ _) ?_
      first | refine store_at 0 st3 hS rfl (by simp) rfl ?_ | refine store_at 1 st3 hS rfl (by simp) rfl ?_ | refine store_at 2 st3 hS rfl (by simp) rfl ?_ | refine store_at 3 st3 hS rfl (by simp) rfl ?_ | refine store_at 4 st3 hS rfl (by simp) rfl ?_ | refine store_at 5 st3 hS rfl (by simp) rfl ?_ | refine store_at 6 st3 hS rfl (by simp) rfl ?_ | refine store_at 7 st3 hS rfl (by simp) rfl ?_
      intro w hS
      simp only [List.set_cons_zero, List.set_cons_succ] at hS
      unfold m34_3 m34_4
      rw [if_pos h1]
      exact ⟨congrArg Value.bool (decide_eq_true h).symm, hS⟩
    · unfold m34_3 m34_4
      rw [if_neg h1]
      exact ⟨congrArg Value.bool (decide_eq_true h).symm, hS⟩
/-- why a disk does nothing. -/
def readyC (xs : List ByteArray) (o : Bool) : Int := if ∀ x ∈ xs, Named x then (if o then 4 else 0) else 1
theorem ready_ret {xs : List ByteArray} {A : Option Addr} {c b : Nat} {m : Value} {r f : Int} {o : Bool} (k : Nat) (hk : L[k]? = some (dCell b m r f o)) (hm : xs.length ≤ 1000) (hE : Bes w0 F L 1 A xs.length (xs.map Value.string)) (hS : St w0 F w L) : Ret Tryd.prog 31 #[ptr b, .slice A xs.length c] w fun v w' => v = .int .i64 (readyC xs o) ∧ St w0 F w' L := by
  refine s31 _ _ ?_
  unfold m31
  unfold m31_0
  unfold m31_1
  refine builtin_ok (len22 _) ?_
  unfold m31_7
  refine loop_in (fun u w' => ∃ i : Nat, u = .int .i64 (i : Int) ∧ i ≤ xs.length ∧ (∀ j (hj : j < xs.length), j < i → Named xs[j]) ∧ St w0 F w' L) (fun u _ => xs.length - (intOf u).toNat) ⟨0, rfl, by omega, fun j _ h => by omega, hS⟩ ?_
  clear hS
  rintro u w ⟨i, rfl, hi, hno, hS⟩
  unfold m31_8
  refine valP_ok (lss_ok _ _ _ _ _ _ _) ?_
  unfold m31_9
  refine cond_split (fun h => ?_) (fun h => ?_)
  · have hil : i < xs.length := by omega
    have hR := hE.rd hS
    obtain ⟨gb, oo, rfl⟩ := hR.some_ (by omega) (by omega)
    unfold m31_10
    refine valP_ok (ix22 hil _) ?_
    refine valP_ok (ld9 (hR.cell_ (by rw [List.getElem?_map, List.getElem?_eq_getElem hil]; rfl))) ?_
    unfold m31_12
    refine valP_ok (eq23s _ _ _ _) ?_
    refine cond_f rfl ?_
    refine callR (by kernel_rfl) (named_ret hS) ?_
    rintro _ w ⟨rfl, hS⟩
    first | refine valP_ok (not_ok _ _) ?_ | refine valP_ok (notb_ok _ _) ?_
    first | refine pick_dt (by first | assumption | omega) ?_ | refine pick_df (by first | assumption | omega) ?_ | refine pick_t (by first | rfl | assumption) ?_ | refine pick_f (by first | rfl | assumption) ?_ | refine pick_dt rfl ?_ | refine pick_df (not_not_intro rfl) ?_
    unfold m31_13
    refine cond_split (fun h1 => ?_) (fun h1 => ?_)
    · unfold m31_14 readyC
      rw [if_neg (fun h2 => h1 (h2 _ (List.getElem_mem hil)))]
      exact ⟨rfl, hS⟩
    · unfold m31_11
      refine valP_ok (add_ok _ _ _ (by omega) (by omega) _) ?_
      refine ⟨⟨i + 1, rfl, by omega, fun j hj h3 => ?_, hS⟩, by simp [intOf]; omega⟩
      rcases Nat.lt_or_ge j i with g | g
      · exact hno j hj g
      · obtain rfl : j = i := by omega
        exact Classical.not_not.1 h1
  · have hall : ∀ x ∈ xs, Named x := fun x hx => by
      obtain ⟨j, hj, rfl⟩ := List.mem_iff_getElem.1 hx
      exact hno j hj (by omega)
    unfold m31_2
    refine nil_ok ?_
    refine valP_ok (fa61_3 _ _) ?_
    refine valP_ok (ld4 (hS.cell k hk (i := 3) rfl)) ?_
    unfold m31_5 readyC
    rw [if_pos hall]
    cases o with
    | true =>
      refine cond_t rfl ?_
      unfold m31_6
      exact ⟨rfl, hS⟩
    | false =>
      refine cond_f rfl ?_
      unfold m31_3 m31_4
      exact ⟨rfl, hS⟩
theorem ready_nil {xs : List ByteArray} {A : Option Addr} {c : Nat} (h0 : 0 < xs.length) (hm : xs.length ≤ 1000) (hE : Bes w0 F L 1 A xs.length (xs.map Value.string)) (hS : St w0 F w L) : Ret Tryd.prog 31 #[.pointer none, .slice A xs.length c] w fun v w' => v = .int .i64 1 ∧ St w0 F w' L := by
  refine s31 _ _ ?_
  unfold m31
  unfold m31_0
  unfold m31_1
  refine builtin_ok (len22 _) ?_
  unfold m31_7
  refine loop_in (fun u w' => u = .int .i64 0 ∧ St w0 F w' L) (fun u _ => 0) ⟨rfl, hS⟩ ?_
  clear hS
  rintro u w ⟨rfl, hS⟩
  unfold m31_8
  refine valP_ok (lss_ok _ _ _ _ _ _ _) ?_
  unfold m31_9
  refine cond_dt (by omega) ?_
  have hR := hE.rd hS
  obtain ⟨gb, oo, rfl⟩ := hR.some_ (by omega) (by omega)
  unfold m31_10
  refine valP_ok (ix22 (k := 0) h0 _) ?_
  refine valP_ok (ld9 (hR.cell_ (by rw [List.getElem?_map, List.getElem?_eq_getElem h0]; rfl))) ?_
  unfold m31_12
  first | refine valP_ok (eq23n _ _ _) ?_ | refine valP_ok (eq23s _ _ _ _) ?_
  refine cond_t rfl ?_
  first | refine pick_dt (by first | assumption | omega) ?_ | refine pick_df (by first | assumption | omega) ?_ | refine pick_t (by first | rfl | assumption) ?_ | refine pick_f (by first | rfl | assumption) ?_ | refine pick_dt rfl ?_ | refine pick_df (not_not_intro rfl) ?_
  unfold m31_13
  refine cond_t rfl ?_
  unfold m31_14
  exact ⟨rfl, hS⟩
theorem new_ret {n : Int} (hS : St w0 F w L) : Ret Tryd.prog 10 #[.int .i64 n] w fun v w' => if 1 ≤ n ∧ n ≤ 16384 then ∃ b, v = .tuple #[ptr b, .int .i64 0] ∧ Dsk w0 F L b ⟨[], n, -1, false⟩ w' else v = .tuple #[.pointer none, .int .i64 1] ∧ St w0 F w' L := by
  have bad : ¬ (1 ≤ n ∧ n ≤ 16384) → m10_4 (fun v w' => if 1 ≤ n ∧ n ≤ 16384 then ∃ b, v = .tuple #[ptr b, .int .i64 0] ∧ Dsk w0 F L b ⟨[], n, -1, false⟩ w' else v = .tuple #[.pointer none, .int .i64 1] ∧ St w0 F w' L) (.int .i64 n) (.bool true) w := fun h => by
    unfold m10_4
    refine cond_t rfl ?_
    unfold m10_5
    simp only [if_neg h]
    exact ⟨trivial, hS⟩
  refine s10 _ ?_
  unfold m10
  unfold m10_0
  unfold m10_1
  refine valP_ok (lss_ok _ _ _ _ _ _ _) ?_
  refine cond_split (fun h => ?_) (fun h => ?_)
  · first | refine pick_dt (by first | assumption | omega) ?_ | refine pick_df (by first | assumption | omega) ?_ | refine pick_t (by first | rfl | assumption) ?_ | refine pick_f (by first | rfl | assumption) ?_ | refine pick_dt rfl ?_ | refine pick_df (not_not_intro rfl) ?_
    exact bad (by omega)
  · refine valP_ok (gtr_ok _ _ _ _ _ _ _) ?_
    first | refine pick_dt (by first | assumption | omega) ?_ | refine pick_df (by first | assumption | omega) ?_ | refine pick_t (by first | rfl | assumption) ?_ | refine pick_f (by first | rfl | assumption) ?_ | refine pick_dt rfl ?_ | refine pick_df (not_not_intro rfl) ?_
    by_cases h1 : 16384 < n
    · rw [decide_eq_true h1]
      exact bad (by omega)
    · rw [decide_eq_false h1]
      unfold m10_4
      refine cond_f rfl ?_
      unfold m10_2
      refine makeMapT_ok 9 hS ?_
      intro mb w hS
      refine valP_ok (bd61_0_1_2 rfl rfl rfl _) ?_
      refine new_ok (bx61 _ _ _ _ _) hS ?_
      intro b13 w hS
      unfold m10_3
      simp only [show (1 ≤ n ∧ n ≤ 16384) from by omega, and_self, if_true]
      exact ⟨_, rfl, mb, [], rfl, hS⟩
theorem fuse_ret {b : Nat} {m : Value} {r f n : Int} {o : Bool} (hS : St w0 F w (dCell b m r f o :: L)) : Ret Tryd.prog 11 #[ptr b, .int .i64 n] w fun v w' => St w0 F w' (dCell b m r (max n (-1)) o :: L) := by
  refine s11 _ _ ?_
  unfold m11
  unfold m11_0
  first | refine valP_ok (ne23n _ _ _) ?_ | refine valP_ok (ne23s _ _ _ _) ?_
  unfold m11_1
  refine cond_t rfl ?_
  refine builtin_ok (max_run _ _ _) ?_
  refine nil_ok ?_
  first | refine valP_ok (fa61_2 _ _) ?_ | refine valP_ok (fao61_2 _ _ _) ?_
  first | refine store_at 0 st3 hS rfl (by simp) rfl ?_ | refine store_at 1 st3 hS rfl (by simp) rfl ?_ | refine store_at 2 st3 hS rfl (by simp) rfl ?_ | refine store_at 3 st3 hS rfl (by simp) rfl ?_ | refine store_at 4 st3 hS rfl (by simp) rfl ?_ | refine store_at 5 st3 hS rfl (by simp) rfl ?_ | refine store_at 6 st3 hS rfl (by simp) rfl ?_ | refine store_at 7 st3 hS rfl (by simp) rfl ?_
  intro w hS
  simp only [List.set_cons_zero, List.set_cons_succ] at hS
  exact hS
theorem off_ret {b : Nat} {m : Value} {r f : Int} {o : Bool} (hS : St w0 F w (dCell b m r f o :: L)) : Ret Tryd.prog 13 #[ptr b] w fun v w' => v = .bool o ∧ St w0 F w' (dCell b m r f o :: L) := by
  refine s13 _ ?_
  unfold m13
  unfold m13_0
  unfold m13_1
  first | refine valP_ok (eq23n _ _ _) ?_ | refine valP_ok (eq23s _ _ _ _) ?_
  refine cond_f rfl ?_
  refine nil_ok ?_
  first | refine valP_ok (fa61_3 _ _) ?_ | refine valP_ok (fao61_3 _ _ _) ?_
  first | refine valP_ok (ld4 (hS.cell 0 rfl rfl)) ?_ | refine valP_ok (ld4 (hS.cell 1 rfl rfl)) ?_ | refine valP_ok (ld4 (hS.cell 2 rfl rfl)) ?_ | refine valP_ok (ld4 (hS.cell 3 rfl rfl)) ?_ | refine valP_ok (ld4 (hS.cell 4 rfl rfl)) ?_ | refine valP_ok (ld4 (hS.cell 5 rfl rfl)) ?_ | refine valP_ok (ld4 (hS.cell 6 rfl rfl)) ?_ | refine valP_ok (ld4 (hS.cell 7 rfl rfl)) ?_ | refine valP_ok (ld4 (by assumption)) ?_
  first | refine pick_dt (by first | assumption | omega) ?_ | refine pick_df (by first | assumption | omega) ?_ | refine pick_t (by first | rfl | assumption) ?_ | refine pick_f (by first | rfl | assumption) ?_ | refine pick_dt rfl ?_ | refine pick_df (not_not_intro rfl) ?_
  unfold m13_2
  exact ⟨rfl, hS⟩
theorem free_ret {b : Nat} {m : Value} {r f : Int} {o : Bool} (hS : St w0 F w (dCell b m r f o :: L)) : Ret Tryd.prog 19 #[ptr b] w fun v w' => v = .int .i64 r ∧ St w0 F w' (dCell b m r f o :: L) := by
  refine s19 _ ?_
  unfold m19
  unfold m19_0
  unfold m19_1
  first | refine valP_ok (eq23n _ _ _) ?_ | refine valP_ok (eq23s _ _ _ _) ?_
  unfold m19_4
  refine cond_f rfl ?_
  unfold m19_2
  refine nil_ok ?_
  first | refine valP_ok (fa61_1 _ _) ?_ | refine valP_ok (fao61_1 _ _ _) ?_
  first | refine valP_ok (ld3 (hS.cell 0 rfl rfl)) ?_ | refine valP_ok (ld3 (hS.cell 1 rfl rfl)) ?_ | refine valP_ok (ld3 (hS.cell 2 rfl rfl)) ?_ | refine valP_ok (ld3 (hS.cell 3 rfl rfl)) ?_ | refine valP_ok (ld3 (hS.cell 4 rfl rfl)) ?_ | refine valP_ok (ld3 (hS.cell 5 rfl rfl)) ?_ | refine valP_ok (ld3 (hS.cell 6 rfl rfl)) ?_ | refine valP_ok (ld3 (hS.cell 7 rfl rfl)) ?_ | refine valP_ok (ld3 (by assumption)) ?_
  unfold m19_3
  exact ⟨rfl, hS⟩
end

end Go.Proofs.YtcldjjmfpmkldaaDoor.M
