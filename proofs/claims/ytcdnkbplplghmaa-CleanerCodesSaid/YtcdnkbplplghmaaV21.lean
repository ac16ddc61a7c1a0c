/- Records: may one be; laid. -/
import Derived.Test.YtcdnkbplplghmaaV20
import Derived.Test.YtcdnkbplplghmaaFwW
import Derived.Test.YtcdnkbplplghmaaFwB
import Derived.Test.YtcdnkbplplghmaaMrec0
namespace Go.Proofs.Ytcdnkbplplghmaa.M
open Go.Proofs.Ytcdnkbplplghmaa.F Go.RowKit
set_option linter.unusedVariables false
set_option linter.unusedSimpArgs false
set_option maxRecDepth 100000
set_option maxHeartbeats 2000000
attribute [local irreducible] Res.cells Res.row Res.map Res.any World.cell? World.frozen? Instr.fieldAt Instr.loadAt Instr.storeAt Instr.indexAt Instr.lookup Instr.mapUpdate Instr.box Instr.build Instr.buildSlice Instr.extract Instr.alloc Instr.field Instr.index Instr.sliceAt Instr.makeSlice Instr.makeMap Instr.makeFunc binS Op.unary Sem.run
def InM (n : Int) : Prop := 0 ≤ n ∧ n ≤ 1099511627776
def MayR (r : Rc) : Prop := 0 ≤ r.key ∧ r.key ≤ 1048576 ∧ InM r.time ∧ r.text.size ≤ 512
instance (n : Int) : Decidable (InM n) := by unfold InM; infer_instance
instance (r : Rc) : Decidable (MayR r) := by unfold MayR; infer_instance
def recS (r : Rc) : ByteArray := putS r.key ++ putS r.time ++ putTextS r.text
theorem all2 (a b : Int) : allS [a, b] = putS a ++ putS b := by
  refine bytesN_inj ?_
  simp only [allS, List.foldl_cons, List.foldl_nil, bytesN_append]
  rfl
section
variable {w0 w : World} {F : List Nat} {L : List Res} {r : Rc}
theorem in_ret {n : Int} (hS : St w0 F w L) : Ret Try.prog 86 #[.int .i64 n] w fun v w' => v = .bool (decide (InM n)) ∧ St w0 F w' L := by
  refine s86 _ ?_
  unfold m86
  unfold m86_0
  unfold m86_1
  refine valP_ok (geq_ok _ _ _ _ _ _ _) ?_
  refine cond_split (fun h => ?_) (fun h => ?_)
  · refine valP_ok (leq_ok _ _ _ _ _ _ _) ?_
    first | refine pick_dt (by first | assumption | omega) ?_ | refine pick_df (by first | assumption | omega) ?_ | refine pick_t (by first | rfl | assumption) ?_ | refine pick_f (by first | rfl | assumption) ?_ | refine pick_dt rfl ?_ | refine pick_df (not_not_intro rfl) ?_
    unfold m86_2
    exact ⟨congrArg Value.bool (decide_eq_decide.2 (by unfold InM; omega)), hS⟩
  · first | refine pick_dt (by first | assumption | omega) ?_ | refine pick_df (by first | assumption | omega) ?_ | refine pick_t (by first | rfl | assumption) ?_ | refine pick_f (by first | rfl | assumption) ?_ | refine pick_dt rfl ?_ | refine pick_df (not_not_intro rfl) ?_
    unfold m86_2
    exact ⟨congrArg Value.bool (decide_eq_false (by unfold InM; omega)).symm, hS⟩
theorem within1_ret {n : Int} (hS : St w0 F w L) : Ret Try.prog 98 #[.int .i64 n] w fun v w' => v = .bool (decide (¬ InM n)) ∧ St w0 F w' L := by
  refine s98 _ ?_
  unfold m98
  unfold m98_0
  unfold m98_1
  refine valP_ok (lss_ok _ _ _ _ _ _ _) ?_
  refine cond_split (fun h => ?_) (fun h => ?_)
  · first | refine pick_dt (by first | assumption | omega) ?_ | refine pick_df (by first | assumption | omega) ?_ | refine pick_t (by first | rfl | assumption) ?_ | refine pick_f (by first | rfl | assumption) ?_ | refine pick_dt rfl ?_ | refine pick_df (not_not_intro rfl) ?_
    unfold m98_2
    exact ⟨congrArg Value.bool (decide_eq_true (by unfold InM; omega)).symm, hS⟩
  · refine valP_ok (gtr_ok _ _ _ _ _ _ _) ?_
    first | refine pick_dt (by first | assumption | omega) ?_ | refine pick_df (by first | assumption | omega) ?_ | refine pick_t (by first | rfl | assumption) ?_ | refine pick_f (by first | rfl | assumption) ?_ | refine pick_dt rfl ?_ | refine pick_df (not_not_intro rfl) ?_
    unfold m98_2
    exact ⟨congrArg Value.bool (decide_eq_decide.2 (by unfold InM; omega)), hS⟩
theorem index_ret {l : List Int} {A : Option Addr} {c : Nat} (hm : l.length ≤ 1000) (hE : Bes w0 F L 1 A l.length (l.map (Value.int .i64))) (hS : St w0 F w L) : Ret Try.prog 100 #[.slice A l.length c, fnV 98] w fun v w' => (∃ k : Int, v = .int .i64 k ∧ (0 ≤ k ↔ ∃ x ∈ l, ¬ InM x)) ∧ St w0 F w' L := by
  refine s100 _ _ ?_
  unfold m100
  unfold m100_0
  unfold m100_1
  refine builtin_ok (len63 _) ?_
  unfold m100_4
  refine loop_in (fun u w' => ∃ i : Nat, u = .int .i64 (i : Int) ∧ i ≤ l.length ∧ (∀ j (hj : j < l.length), j < i → InM l[j]) ∧ St w0 F w' L) (fun u _ => l.length - (intOf u).toNat) ⟨0, rfl, by omega, fun j _ h => by omega, hS⟩ ?_
  clear hS
  rintro u w ⟨i, rfl, hi, hno, hS⟩
  unfold m100_5
  refine valP_ok (lss_ok _ _ _ _ _ _ _) ?_
  unfold m100_6
  refine cond_split (fun h => ?_) (fun h => ?_)
  · have hil : i < l.length := by omega
    have hR := hE.rd hS
    obtain ⟨gb, o, rfl⟩ := hR.some_ (by omega) (by omega)
    unfold m100_7 m100_9
    refine valP_ok (ix63 hil _) ?_
    refine valP_ok (ld3 (hR.cell_ (by rw [List.getElem?_map, List.getElem?_eq_getElem hil]; rfl))) ?_
    refine callR (by kernel_rfl) (within1_ret hS) ?_
    rintro _ w ⟨rfl, hS⟩
    unfold m100_10
    refine cond_split (fun h1 => ?_) (fun h1 => ?_)
    · unfold m100_11
      exact ⟨⟨_, rfl, ⟨fun _ => ⟨_, List.getElem_mem hil, h1⟩, fun _ => by omega⟩⟩, hS⟩
    · unfold m100_8
      refine valP_ok (add_ok _ _ _ (by omega) (by omega) _) ?_
      refine ⟨⟨i + 1, rfl, by omega, fun j hj h3 => ?_, hS⟩, by simp [intOf]; omega⟩
      rcases Nat.lt_or_ge j i with g | g
      · exact hno j hj g
      · obtain rfl : j = i := by omega
        exact Classical.not_not.1 h1
  · unfold m100_2 m100_3
    refine ⟨⟨_, rfl, ⟨fun h1 => by omega, fun ⟨x, hx, h1⟩ => ?_⟩⟩, hS⟩
    obtain ⟨j, hj, rfl⟩ := List.mem_iff_getElem.1 hx
    exact absurd (hno j hj (by omega)) h1
theorem within_ret {l : List Int} {A : Option Addr} {c : Nat} (hm : l.length ≤ 1000) (hE : Bes w0 F L 1 A l.length (l.map (Value.int .i64))) (hS : St w0 F w L) : Ret Try.prog 88 #[.slice A l.length c] w fun v w' => (∃ t : Bool, v = .bool t ∧ (t = true ↔ ∀ x ∈ l, InM x)) ∧ St w0 F w' L := by
  have h91 : Ret Try.prog 91 #[.slice A l.length c, fnV 98] w fun v w' => (∃ t : Bool, v = .bool t ∧ (t = true ↔ ∃ x ∈ l, ¬ InM x)) ∧ St w0 F w' L := by
    refine s91 _ _ ?_
    unfold m91 m91_0 m91_1
    refine callR (by kernel_rfl) (index_ret hm hE hS) ?_
    rintro _ w ⟨⟨k, rfl, hk⟩, hS⟩
    refine valP_ok (geq_ok _ _ _ _ _ _ _) ?_
    unfold m91_2
    exact ⟨⟨_, rfl, by rw [decide_eq_true_eq]; exact hk⟩, hS⟩
  refine s88 _ ?_
  unfold m88 m88_0 m88_1
  refine callR (by kernel_rfl) h91 ?_
  rintro _ w ⟨⟨t, rfl, ht⟩, hS⟩
  first | refine valP_ok (not_ok _ _) ?_ | refine valP_ok (notb_ok _ _) ?_
  unfold m88_2
  refine ⟨⟨_, rfl, ?_⟩, hS⟩
  cases t with
  | true =>
    obtain ⟨x, hx, h⟩ := ht.1 rfl
    exact ⟨fun h => (by cases h), fun h1 => absurd (h1 x hx) h⟩
  | false => exact ⟨fun _ x hx => Classical.byContradiction fun h => (by have := ht.2 ⟨x, hx, h⟩; cases this), fun _ => rfl⟩
theorem may_ret (hS : St w0 F w L) : Ret Try.prog 67 #[rv r] w fun v w' => (∃ t : Bool, v = .bool t ∧ (t = true ↔ MayR r)) ∧ St w0 F w' L := by
  refine s67 _ ?_
  unfold m67
  unfold m67_0
  refine new_ok (bx38 _ _ _ _) hS ?_
  intro b1 w hS
  unfold m67_1
  first | refine valP_ok (fa38_0 _ _) ?_ | refine valP_ok (fao38_0 _ _ _) ?_
  first | refine valP_ok (ld3 (hS.cell 0 rfl rfl)) ?_ | refine valP_ok (ld3 (hS.cell 1 rfl rfl)) ?_ | refine valP_ok (ld3 (hS.cell 2 rfl rfl)) ?_ | refine valP_ok (ld3 (hS.cell 3 rfl rfl)) ?_ | refine valP_ok (ld3 (hS.cell 4 rfl rfl)) ?_ | refine valP_ok (ld3 (hS.cell 5 rfl rfl)) ?_ | refine valP_ok (ld3 (hS.cell 6 rfl rfl)) ?_ | refine valP_ok (ld3 (hS.cell 7 rfl rfl)) ?_ | refine valP_ok (ld3 (by assumption)) ?_
  first | refine valP_ok (fa38_1 _ _) ?_ | refine valP_ok (fao38_1 _ _ _) ?_
  first | refine valP_ok (ld3 (hS.cell 0 rfl rfl)) ?_ | refine valP_ok (ld3 (hS.cell 1 rfl rfl)) ?_ | refine valP_ok (ld3 (hS.cell 2 rfl rfl)) ?_ | refine valP_ok (ld3 (hS.cell 3 rfl rfl)) ?_ | refine valP_ok (ld3 (hS.cell 4 rfl rfl)) ?_ | refine valP_ok (ld3 (hS.cell 5 rfl rfl)) ?_ | refine valP_ok (ld3 (hS.cell 6 rfl rfl)) ?_ | refine valP_ok (ld3 (hS.cell 7 rfl rfl)) ?_ | refine valP_ok (ld3 (by assumption)) ?_
  refine newslice_ok (bs63_2 rfl rfl _) hS ?_
  intro b7 w hS
  refine callR (by kernel_rfl) (within_ret (l := [r.key, r.time]) (by simp) (Bes.of_cells 0 rfl rfl) hS) ?_
  rintro _ w ⟨⟨t, rfl, ht⟩, hS⟩
  simp only [List.mem_cons, List.not_mem_nil, or_false, forall_eq_or_imp, forall_eq] at ht
  have leaf : ∀ t : Bool, (t = true ↔ MayR r) → m67_2 (fun v w' => (∃ t : Bool, v = .bool t ∧ (t = true ↔ MayR r)) ∧ St w0 F w' L) (.bool t) w := fun t ht => by
    unfold m67_2
    exact ⟨⟨_, rfl, ht⟩, hS.tail.tail⟩
  cases t with
  | true =>
    have h := ht.1 rfl
    unfold InM at h
    refine cond_t rfl ?_
    first | refine valP_ok (fa38_0 _ _) ?_ | refine valP_ok (fao38_0 _ _ _) ?_
    first | refine valP_ok (ld3 (hS.cell 0 rfl rfl)) ?_ | refine valP_ok (ld3 (hS.cell 1 rfl rfl)) ?_ | refine valP_ok (ld3 (hS.cell 2 rfl rfl)) ?_ | refine valP_ok (ld3 (hS.cell 3 rfl rfl)) ?_ | refine valP_ok (ld3 (hS.cell 4 rfl rfl)) ?_ | refine valP_ok (ld3 (hS.cell 5 rfl rfl)) ?_ | refine valP_ok (ld3 (hS.cell 6 rfl rfl)) ?_ | refine valP_ok (ld3 (hS.cell 7 rfl rfl)) ?_ | refine valP_ok (ld3 (by assumption)) ?_
    refine valP_ok (leq_ok _ _ _ _ _ _ _) ?_
    first | refine pick_dt (by first | assumption | omega) ?_ | refine pick_df (by first | assumption | omega) ?_ | refine pick_t (by first | rfl | assumption) ?_ | refine pick_f (by first | rfl | assumption) ?_ | refine pick_dt rfl ?_ | refine pick_df (not_not_intro rfl) ?_
    refine cond_split (fun h1 => ?_) (fun h1 => ?_)
    · first | refine valP_ok (fa38_2 _ _) ?_ | refine valP_ok (fao38_2 _ _ _) ?_
      first | refine valP_ok (ld9 (hS.cell 0 rfl rfl)) ?_ | refine valP_ok (ld9 (hS.cell 1 rfl rfl)) ?_ | refine valP_ok (ld9 (hS.cell 2 rfl rfl)) ?_ | refine valP_ok (ld9 (hS.cell 3 rfl rfl)) ?_ | refine valP_ok (ld9 (hS.cell 4 rfl rfl)) ?_ | refine valP_ok (ld9 (hS.cell 5 rfl rfl)) ?_ | refine valP_ok (ld9 (hS.cell 6 rfl rfl)) ?_ | refine valP_ok (ld9 (hS.cell 7 rfl rfl)) ?_ | refine valP_ok (ld9 (by assumption)) ?_
      refine builtin_ok (len9 _) ?_
      refine valP_ok (leq_ok _ _ _ _ _ _ _) ?_
      first | refine pick_dt (by first | assumption | omega) ?_ | refine pick_df (by first | assumption | omega) ?_ | refine pick_t (by first | rfl | assumption) ?_ | refine pick_f (by first | rfl | assumption) ?_ | refine pick_dt rfl ?_ | refine pick_df (not_not_intro rfl) ?_
      exact leaf _ (by rw [decide_eq_true_eq]; unfold MayR InM; omega)
    · first | refine pick_dt (by first | assumption | omega) ?_ | refine pick_df (by first | assumption | omega) ?_ | refine pick_t (by first | rfl | assumption) ?_ | refine pick_f (by first | rfl | assumption) ?_ | refine pick_dt rfl ?_ | refine pick_df (not_not_intro rfl) ?_
      exact leaf _ (by unfold MayR InM; exact ⟨fun h => (by cases h), fun h => by omega⟩)
  | false =>
    have h : ¬ (InM r.key ∧ InM r.time) := fun h => by have := ht.2 h; cases this
    unfold InM at h
    refine cond_f rfl ?_
    first | refine pick_dt (by first | assumption | omega) ?_ | refine pick_df (by first | assumption | omega) ?_ | refine pick_t (by first | rfl | assumption) ?_ | refine pick_f (by first | rfl | assumption) ?_ | refine pick_dt rfl ?_ | refine pick_df (not_not_intro rfl) ?_
    refine cond_f rfl ?_
    first | refine pick_dt (by first | assumption | omega) ?_ | refine pick_df (by first | assumption | omega) ?_ | refine pick_t (by first | rfl | assumption) ?_ | refine pick_f (by first | rfl | assumption) ?_ | refine pick_dt rfl ?_ | refine pick_df (not_not_intro rfl) ?_
    exact leaf _ (by unfold MayR InM; exact ⟨fun h => (by cases h), fun h => by omega⟩)
theorem mayrec_ret (hS : St w0 F w L) : Ret Try.prog 61 #[rv r] w fun v w' => (∃ t : Bool, v = .bool t ∧ (t = true ↔ MayR r)) ∧ St w0 F w' L := by
  refine s61 _ ?_
  unfold m61
  unfold m61_0
  refine new_ok (bx38 _ _ _ _) hS ?_
  intro b1 w hS
  have leaf : ∀ t : Bool, (t = true ↔ MayR r) → ∀ w, St w0 F w (Res.cells b1 38 (encR r) :: L) → m61_2 (fun v w' => (∃ t : Bool, v = .bool t ∧ (t = true ↔ MayR r)) ∧ St w0 F w' L) (.bool t) w := fun t ht w hS => by
    unfold m61_2
    exact ⟨⟨_, rfl, ht⟩, hS.tail⟩
  have bad : ¬ MayR r → (false = true ↔ MayR r) := fun h => ⟨fun h2 => (nomatch h2), fun h1 => absurd h1 h⟩
  unfold m61_1
  first | refine valP_ok (fa38_0 _ _) ?_ | refine valP_ok (fao38_0 _ _ _) ?_
  first | refine valP_ok (ld3 (hS.cell 0 rfl rfl)) ?_ | refine valP_ok (ld3 (hS.cell 1 rfl rfl)) ?_ | refine valP_ok (ld3 (hS.cell 2 rfl rfl)) ?_ | refine valP_ok (ld3 (hS.cell 3 rfl rfl)) ?_ | refine valP_ok (ld3 (hS.cell 4 rfl rfl)) ?_ | refine valP_ok (ld3 (hS.cell 5 rfl rfl)) ?_ | refine valP_ok (ld3 (hS.cell 6 rfl rfl)) ?_ | refine valP_ok (ld3 (hS.cell 7 rfl rfl)) ?_ | refine valP_ok (ld3 (by assumption)) ?_
  refine valP_ok (geq_ok _ _ _ _ _ _ _) ?_
  refine cond_split (fun h1 => ?_) (fun h1 => ?_)
  · first | refine valP_ok (fa38_0 _ _) ?_ | refine valP_ok (fao38_0 _ _ _) ?_
    first | refine valP_ok (ld3 (hS.cell 0 rfl rfl)) ?_ | refine valP_ok (ld3 (hS.cell 1 rfl rfl)) ?_ | refine valP_ok (ld3 (hS.cell 2 rfl rfl)) ?_ | refine valP_ok (ld3 (hS.cell 3 rfl rfl)) ?_ | refine valP_ok (ld3 (hS.cell 4 rfl rfl)) ?_ | refine valP_ok (ld3 (hS.cell 5 rfl rfl)) ?_ | refine valP_ok (ld3 (hS.cell 6 rfl rfl)) ?_ | refine valP_ok (ld3 (hS.cell 7 rfl rfl)) ?_ | refine valP_ok (ld3 (by assumption)) ?_
    refine valP_ok (leq_ok _ _ _ _ _ _ _) ?_
    first | refine pick_dt (by first | assumption | omega) ?_ | refine pick_df (by first | assumption | omega) ?_ | refine pick_t (by first | rfl | assumption) ?_ | refine pick_f (by first | rfl | assumption) ?_ | refine pick_dt rfl ?_ | refine pick_df (not_not_intro rfl) ?_
    refine cond_split (fun h2 => ?_) (fun h2 => ?_)
    · first | refine valP_ok (fa38_1 _ _) ?_ | refine valP_ok (fao38_1 _ _ _) ?_
      first | refine valP_ok (ld3 (hS.cell 0 rfl rfl)) ?_ | refine valP_ok (ld3 (hS.cell 1 rfl rfl)) ?_ | refine valP_ok (ld3 (hS.cell 2 rfl rfl)) ?_ | refine valP_ok (ld3 (hS.cell 3 rfl rfl)) ?_ | refine valP_ok (ld3 (hS.cell 4 rfl rfl)) ?_ | refine valP_ok (ld3 (hS.cell 5 rfl rfl)) ?_ | refine valP_ok (ld3 (hS.cell 6 rfl rfl)) ?_ | refine valP_ok (ld3 (hS.cell 7 rfl rfl)) ?_ | refine valP_ok (ld3 (by assumption)) ?_
      refine callR (by kernel_rfl) (in_ret hS) ?_
      rintro _ w ⟨rfl, hS⟩
      first | refine pick_dt (by first | assumption | omega) ?_ | refine pick_df (by first | assumption | omega) ?_ | refine pick_t (by first | rfl | assumption) ?_ | refine pick_f (by first | rfl | assumption) ?_ | refine pick_dt rfl ?_ | refine pick_df (not_not_intro rfl) ?_
      refine cond_split (fun h3 => ?_) (fun h3 => ?_)
      · first | refine valP_ok (fa38_2 _ _) ?_ | refine valP_ok (fao38_2 _ _ _) ?_
        first | refine valP_ok (ld9 (hS.cell 0 rfl rfl)) ?_ | refine valP_ok (ld9 (hS.cell 1 rfl rfl)) ?_ | refine valP_ok (ld9 (hS.cell 2 rfl rfl)) ?_ | refine valP_ok (ld9 (hS.cell 3 rfl rfl)) ?_ | refine valP_ok (ld9 (hS.cell 4 rfl rfl)) ?_ | refine valP_ok (ld9 (hS.cell 5 rfl rfl)) ?_ | refine valP_ok (ld9 (hS.cell 6 rfl rfl)) ?_ | refine valP_ok (ld9 (hS.cell 7 rfl rfl)) ?_ | refine valP_ok (ld9 (by assumption)) ?_
        refine builtin_ok (len9 _) ?_
        refine valP_ok (leq_ok _ _ _ _ _ _ _) ?_
        first | refine pick_dt (by first | assumption | omega) ?_ | refine pick_df (by first | assumption | omega) ?_ | refine pick_t (by first | rfl | assumption) ?_ | refine pick_f (by first | rfl | assumption) ?_ | refine pick_dt rfl ?_ | refine pick_df (not_not_intro rfl) ?_
        exact leaf _ (by rw [decide_eq_true_eq]; unfold MayR; exact ⟨fun h => ⟨h1, h2, h3, by omega⟩, fun h => by have := h.2.2.2; omega⟩) _ hS
      · first | refine pick_dt (by first | assumption | omega) ?_ | refine pick_df (by first | assumption | omega) ?_ | refine pick_t (by first | rfl | assumption) ?_ | refine pick_f (by first | rfl | assumption) ?_ | refine pick_dt rfl ?_ | refine pick_df (not_not_intro rfl) ?_
        exact leaf _ (bad fun h => h3 h.2.2.1) _ hS
    · first | refine pick_dt (by first | assumption | omega) ?_ | refine pick_df (by first | assumption | omega) ?_ | refine pick_t (by first | rfl | assumption) ?_ | refine pick_f (by first | rfl | assumption) ?_ | refine pick_dt rfl ?_ | refine pick_df (not_not_intro rfl) ?_
      refine cond_f rfl ?_
      first | refine pick_dt (by first | assumption | omega) ?_ | refine pick_df (by first | assumption | omega) ?_ | refine pick_t (by first | rfl | assumption) ?_ | refine pick_f (by first | rfl | assumption) ?_ | refine pick_dt rfl ?_ | refine pick_df (not_not_intro rfl) ?_
      exact leaf _ (bad fun h => h2 h.2.1) _ hS
  · first | refine pick_dt (by first | assumption | omega) ?_ | refine pick_df (by first | assumption | omega) ?_ | refine pick_t (by first | rfl | assumption) ?_ | refine pick_f (by first | rfl | assumption) ?_ | refine pick_dt rfl ?_ | refine pick_df (not_not_intro rfl) ?_
    refine cond_f rfl ?_
    first | refine pick_dt (by first | assumption | omega) ?_ | refine pick_df (by first | assumption | omega) ?_ | refine pick_t (by first | rfl | assumption) ?_ | refine pick_f (by first | rfl | assumption) ?_ | refine pick_dt rfl ?_ | refine pick_df (not_not_intro rfl) ?_
    refine cond_f rfl ?_
    first | refine pick_dt (by first | assumption | omega) ?_ | refine pick_df (by first | assumption | omega) ?_ | refine pick_t (by first | rfl | assumption) ?_ | refine pick_f (by first | rfl | assumption) ?_ | refine pick_dt rfl ?_ | refine pick_df (not_not_intro rfl) ?_
    exact leaf _ (bad fun h => h1 h.1) _ hS
theorem putrec_ret (hk : -9223372036854775808 ≤ r.key ∧ r.key ≤ 9223372036854775807) (ht : -9223372036854775808 ≤ r.time ∧ r.time ≤ 9223372036854775807) (hs : r.text.size ≤ 1000) (hS : St w0 F w L) : Ret Try.prog 33 #[rv r] w fun v w' => v = .string (recS r) ∧ St w0 F w' L := by
  have z1 := putS_size hk
  have z2 := putS_size ht
  have z3 := putS_size (n := (r.text.size : Int)) (by omega)
  refine s33 _ ?_
  unfold m33
  unfold m33_0
  refine new_ok (bx38 _ _ _ _) hS ?_
  intro b1 w hS
  unfold m33_1
  refine drawn_ok hS ?_
  intro w hS
  refine held_Hs hS ?_
  first | refine valJ_ok (fa38_0 _) ?_ | refine valJ_ok (fao38_0 _ _) ?_
  first | refine valJ_load ld3 (Hs.cell 0 rfl rfl) ?_ | refine valJ_load ld3 (Hs.cell 1 rfl rfl) ?_ | refine valJ_load ld3 (Hs.cell 2 rfl rfl) ?_ | refine valJ_load ld3 (Hs.cell 3 rfl rfl) ?_ | refine valJ_load ld3 (Hs.cell 4 rfl rfl) ?_ | refine valJ_load ld3 (Hs.cell 5 rfl rfl) ?_ | refine valJ_load ld3 (Hs.cell 6 rfl rfl) ?_ | refine valJ_load ld3 (Hs.cell 7 rfl rfl) ?_ | refine valJ_load ld3 (by assumption) ?_
  first | refine valJ_ok (fa38_1 _) ?_ | refine valJ_ok (fao38_1 _ _) ?_
  first | refine valJ_load ld3 (Hs.cell 0 rfl rfl) ?_ | refine valJ_load ld3 (Hs.cell 1 rfl rfl) ?_ | refine valJ_load ld3 (Hs.cell 2 rfl rfl) ?_ | refine valJ_load ld3 (Hs.cell 3 rfl rfl) ?_ | refine valJ_load ld3 (Hs.cell 4 rfl rfl) ?_ | refine valJ_load ld3 (Hs.cell 5 rfl rfl) ?_ | refine valJ_load ld3 (Hs.cell 6 rfl rfl) ?_ | refine valJ_load ld3 (Hs.cell 7 rfl rfl) ?_ | refine valJ_load ld3 (by assumption) ?_
  first | refine valJ_ok (fa38_2 _) ?_ | refine valJ_ok (fao38_2 _ _) ?_
  first | refine valJ_load ld9 (Hs.cell 0 rfl rfl) ?_ | refine valJ_load ld9 (Hs.cell 1 rfl rfl) ?_ | refine valJ_load ld9 (Hs.cell 2 rfl rfl) ?_ | refine valJ_load ld9 (Hs.cell 3 rfl rfl) ?_ | refine valJ_load ld9 (Hs.cell 4 rfl rfl) ?_ | refine valJ_load ld9 (Hs.cell 5 rfl rfl) ?_ | refine valJ_load ld9 (Hs.cell 6 rfl rfl) ?_ | refine valJ_load ld9 (Hs.cell 7 rfl rfl) ?_ | refine valJ_load ld9 (by assumption) ?_
  refine newslice_ok (bs63_2 rfl rfl _) hS ?_
  intro b7 w hS
  refine stay_Hs hS (by first | exact fun _ h => h | exact fun _ h => .tail _ h | exact fun _ h => .tail _ (.tail _ h) | simp) ?_
  refine callR (by kernel_rfl) (putall_ret (l := [r.key, r.time]) (by simp) (by simp) (by simp only [List.mem_cons, List.not_mem_nil, or_false, forall_eq_or_imp, forall_eq]; exact ⟨hk, ht⟩) (Bes.of_cells 0 rfl rfl) hS) ?_
  rintro _ w ⟨rfl, hS⟩
  refine stay_Hs hS (by first | exact fun _ h => h | exact fun _ h => .tail _ h | exact fun _ h => .tail _ (.tail _ h) | simp) ?_
  refine callR (by kernel_rfl) (puttext_ret (by omega) hS) ?_
  rintro _ w ⟨rfl, hS⟩
  refine stay_Hs hS (by first | exact fun _ h => h | exact fun _ h => .tail _ h | exact fun _ h => .tail _ (.tail _ h) | simp) ?_
  rw [all2]
  refine valJ_ok (sadd _ _ (by unfold putTextS; simp only [ByteArray.size_append]; omega)) ?_
  unfold m33_2
  exact ⟨rfl, hS.tail.tail⟩
theorem rec_ret (hk : -9223372036854775808 ≤ r.key ∧ r.key ≤ 9223372036854775807) (ht : -9223372036854775808 ≤ r.time ∧ r.time ≤ 9223372036854775807) (hs : r.text.size ≤ 1000) (hS : St w0 F w L) : Ret Try.prog 37 #[rv r] w fun v w' => v = .string (recS r) ∧ St w0 F w' L := by
  have z1 := putS_size hk
  have z2 := putS_size ht
  have z3 := putS_size (n := (r.text.size : Int)) (by omega)
  refine s37 _ ?_
  unfold m37
  unfold m37_0
  refine new_ok (bx38 _ _ _ _) hS ?_
  intro b1 w hS
  unfold m37_1
  refine drawn_ok hS ?_
  intro w hS
  refine held_Hs hS ?_
  first | refine valJ_ok (fa38_0 _) ?_ | refine valJ_ok (fao38_0 _ _) ?_
  first | refine valJ_load ld3 (Hs.cell 0 rfl rfl) ?_ | refine valJ_load ld3 (Hs.cell 1 rfl rfl) ?_ | refine valJ_load ld3 (Hs.cell 2 rfl rfl) ?_ | refine valJ_load ld3 (Hs.cell 3 rfl rfl) ?_ | refine valJ_load ld3 (Hs.cell 4 rfl rfl) ?_ | refine valJ_load ld3 (Hs.cell 5 rfl rfl) ?_ | refine valJ_load ld3 (Hs.cell 6 rfl rfl) ?_ | refine valJ_load ld3 (Hs.cell 7 rfl rfl) ?_ | refine valJ_load ld3 (by assumption) ?_
  first | refine valJ_ok (fa38_1 _) ?_ | refine valJ_ok (fao38_1 _ _) ?_
  first | refine valJ_load ld3 (Hs.cell 0 rfl rfl) ?_ | refine valJ_load ld3 (Hs.cell 1 rfl rfl) ?_ | refine valJ_load ld3 (Hs.cell 2 rfl rfl) ?_ | refine valJ_load ld3 (Hs.cell 3 rfl rfl) ?_ | refine valJ_load ld3 (Hs.cell 4 rfl rfl) ?_ | refine valJ_load ld3 (Hs.cell 5 rfl rfl) ?_ | refine valJ_load ld3 (Hs.cell 6 rfl rfl) ?_ | refine valJ_load ld3 (Hs.cell 7 rfl rfl) ?_ | refine valJ_load ld3 (by assumption) ?_
  first | refine valJ_ok (fa38_2 _) ?_ | refine valJ_ok (fao38_2 _ _) ?_
  first | refine valJ_load ld9 (Hs.cell 0 rfl rfl) ?_ | refine valJ_load ld9 (Hs.cell 1 rfl rfl) ?_ | refine valJ_load ld9 (Hs.cell 2 rfl rfl) ?_ | refine valJ_load ld9 (Hs.cell 3 rfl rfl) ?_ | refine valJ_load ld9 (Hs.cell 4 rfl rfl) ?_ | refine valJ_load ld9 (Hs.cell 5 rfl rfl) ?_ | refine valJ_load ld9 (Hs.cell 6 rfl rfl) ?_ | refine valJ_load ld9 (Hs.cell 7 rfl rfl) ?_ | refine valJ_load ld9 (by assumption) ?_
  refine callR (by kernel_rfl) (rput_ret hk hS) ?_
  rintro _ w ⟨rfl, hS⟩
  refine stay_Hs hS (by first | exact fun _ h => h | exact fun _ h => .tail _ h | exact fun _ h => .tail _ (.tail _ h) | simp) ?_
  refine callR (by kernel_rfl) (rput_ret ht hS) ?_
  rintro _ w ⟨rfl, hS⟩
  refine stay_Hs hS (by first | exact fun _ h => h | exact fun _ h => .tail _ h | exact fun _ h => .tail _ (.tail _ h) | simp) ?_
  refine valJ_ok (sadd _ _ (by omega)) ?_
  refine callR (by kernel_rfl) (rtextp_ret (by omega) hS) ?_
  rintro _ w ⟨rfl, hS⟩
  refine stay_Hs hS (by first | exact fun _ h => h | exact fun _ h => .tail _ h | exact fun _ h => .tail _ (.tail _ h) | simp) ?_
  refine valJ_ok (sadd _ _ (by unfold putTextS; simp only [ByteArray.size_append]; omega)) ?_
  unfold m37_2
  exact ⟨rfl, hS.tail⟩
end

end Go.Proofs.Ytcdnkbplplghmaa.M
