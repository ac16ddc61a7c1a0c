/- Same, Blocks, Named, begins; chapter 4's example. -/
import Derived.Test.YtcldjjmfpmkldaaDoorD11
import Derived.Laws.BytesArg
import Derived.Test.YtcldjjmfpmkldaaDoorFwW
import Derived.Test.YtcldjjmfpmkldaaDoorFwB
import Derived.Test.YtcldjjmfpmkldaaDoorFwM
import Derived.Test.YtcldjjmfpmkldaaDoorMtrim0
import Derived.Test.YtcldjjmfpmkldaaDoorMdisk0
import Derived.Test.YtcldjjmfpmkldaaDoorMmore0
import Derived.Test.YtcldjjmfpmkldaaDoorMlaw0
namespace Go.Proofs.YtcldjjmfpmkldaaDoor.M
open Go.Proofs.YtcldjjmfpmkldaaDoor.F Go.RowKit
set_option linter.unusedVariables false
set_option linter.unusedSimpArgs false
set_option maxRecDepth 100000
set_option maxHeartbeats 2000000
attribute [local irreducible] Res.cells Res.row Res.map Res.any World.cell? World.frozen? Instr.fieldAt Instr.loadAt Instr.storeAt Instr.indexAt Instr.lookup Instr.mapUpdate Instr.box Instr.build Instr.buildSlice Instr.extract Instr.alloc Instr.field Instr.index Instr.sliceAt Instr.makeSlice Instr.makeMap Instr.makeFunc binS Op.unary Sem.run
abbrev BF (w0 : World) (F : List Nat) (L : List Res) (A : Option Addr) (l : List Fl) : Prop := Bes w0 F L 3 A l.length (l.flatMap encFl)
theorem sl70' : SlT Tryd.prog 70 5 1 1 (.int .u8 0) := by unfold SlT; exact ⟨by kernel_rfl, by kernel_rfl, by kernel_rfl, Nat.lt_of_lt_of_le (by decide) (Nat.le_refl _)⟩
theorem fl_ext {a b : Fl} : a = b ↔ a.name = b.name ∧ a.sure = b.sure ∧ a.loose = b.loose := by
  obtain ⟨x, y, z⟩ := a
  obtain ⟨x2, y2, z2⟩ := b
  simp
section
variable {w0 w : World} {F : List Nat} {L : List Res} {l l2 : List Fl} {A A2 : Option Addr} {c c2 : Nat}
theorem f_at {o b i : Nat} (hr : Rd w 3 (some ⟨b, o, none⟩) l.length (l.flatMap encFl)) (hi : i < l.length) : w.cell? ⟨b, o + i * 3, none⟩ = some (.string l[i].name) ∧ w.cell? ⟨b, o + i * 3 + 1, none⟩ = some (.string l[i].sure) ∧ w.cell? ⟨b, o + i * 3 + 2, none⟩ = some (.string l[i].loose) :=
  ⟨hr.struct encFl_len hi (j := 0) (by omega) rfl, hr.struct encFl_len hi (j := 1) (by omega) rfl, hr.struct encFl_len hi (j := 2) (by omega) rfl⟩
theorem same_ret (hm : l.length ≤ 1000000) (hm2 : l2.length ≤ 1000000) (hE : BF w0 F L A l) (hE2 : BF w0 F L A2 l2) (hS : St w0 F w L) : Ret Tryd.prog 23 #[.slice A l.length c, .slice A2 l2.length c2] w fun v w' => (∃ t, v = .bool t ∧ (t = true ↔ l = l2)) ∧ St w0 F w' L := by
  refine s23 _ _ ?_
  unfold m23
  unfold m23_0
  unfold m23_1
  refine builtin_ok (len38 _) ?_
  refine builtin_ok (len38 _) ?_
  refine valP_ok (ne3 _ _ _ _ _) ?_
  unfold m23_12
  refine cond_split (fun h => ?_) (fun h => ?_)
  · unfold m23_13
    exact ⟨⟨_, rfl, ⟨fun h => (by cases h), fun h1 => absurd (congrArg (fun l : List Fl => (l.length : Int)) h1) h⟩⟩, hS⟩
  · have hl : l.length = l2.length := by omega
    unfold m23_2 m23_5
    refine loop_in (fun u w' => ∃ i : Nat, u = .int .i64 (i : Int) ∧ i ≤ l.length ∧ (∀ j (h1 : j < l.length) (h2 : j < l2.length), j < i → l[j] = l2[j]) ∧ St w0 F w' L) (fun u _ => l.length - (intOf u).toNat) ⟨0, rfl, by omega, fun j _ _ h => by omega, hS⟩ ?_
    clear hS
    rintro u w ⟨i, rfl, hi, hno, hS⟩
    unfold m23_6
    refine builtin_ok (len38 _) ?_
    refine valP_ok (lss_ok _ _ _ _ _ _ _) ?_
    unfold m23_11
    refine cond_split (fun h1 => ?_) (fun h1 => ?_)
    · have hil : i < l.length := by omega
      have hil2 : i < l2.length := by omega
      obtain ⟨b, o, rfl⟩ := (hE.rd hS).some_ (by omega) (by omega)
      obtain ⟨b2, o2, rfl⟩ := (hE2.rd hS).some_ (by omega) (by omega)
      have p := f_at (hE.rd hS) hil
      have p2 := f_at (hE2.rd hS) hil2
      unfold m23_7
      refine valQ_ok (ix38 hil) ?_
      refine valQ_at (fun n => ld42 (cellD p.1 n) (cellD p.2.1 n) (cellD p.2.2 n)) ?_
      refine valQ_ok (ix38 hil2) ?_
      refine valQ_at (fun n => ld42 (cellD p2.1 n) (cellD p2.2.1 n) (cellD p2.2.2 n)) ?_
      refine valQ_ok (ne42 _ _ _ _ _ _ _ _) ?_
      refine drawn_ok hS ?_
      intro w hS
      unfold m23_9
      refine cond_split (fun h2 => ?_) (fun h2 => ?_)
      · unfold m23_10
        refine ⟨⟨_, rfl, ⟨fun h => (by cases h), fun h3 => ?_⟩⟩, hS⟩
        subst h3
        exact absurd ⟨rfl, rfl, rfl⟩ h2
      · unfold m23_8
        refine valP_ok (add_ok _ _ _ (by omega) (by omega) _) ?_
        refine ⟨⟨i + 1, rfl, by omega, fun j h3 h4 h5 => ?_, hS⟩, by simp [intOf]; omega⟩
        rcases Nat.lt_or_ge j i with g | g
        · exact hno j h3 h4 g
        · obtain rfl : j = i := by omega
          exact fl_ext.2 (Classical.not_not.1 h2)
    · unfold m23_3 m23_4
      exact ⟨⟨_, rfl, ⟨fun _ => List.ext_getElem hl fun j h2 h3 => hno j h2 h3 (by omega), fun _ => rfl⟩⟩, hS⟩
theorem rblocks_ret {n : Nat} (hn : n ≤ 1000000000000) (hS : St w0 F w L) : Ret Tryd.prog 21 #[.int .i64 (n : Int)] w fun v w' => v = .int .i64 (blk n : Int) ∧ St w0 F w' L := by
  refine s21 _ ?_
  unfold m21 m21_0 m21_1 m21_2
  refine loop_in (fun u w' => ∃ k : Nat, u = .int .i64 (k : Int) ∧ 1 ≤ k ∧ k ≤ blk n ∧ St w0 F w' L) (fun u _ => blk n - (intOf u).toNat) ⟨1, rfl, by omega, by unfold blk; omega, hS⟩ ?_
  clear hS
  rintro u w ⟨k, rfl, hk, hk2, hS⟩
  have hb : blk n ≤ 1000000000000 := by unfold blk; omega
  unfold m21_5
  refine valP_ok (mul_ok _ _ _ (by omega) (by omega) _) ?_
  refine valP_ok (lss_ok _ _ _ _ _ _ _) ?_
  unfold m21_7
  refine cond_split (fun h => ?_) (fun h => ?_)
  · have : k < blk n := by unfold blk; omega
    unfold m21_6
    refine valP_ok (add_ok _ _ _ (by omega) (by omega) _) ?_
    exact ⟨⟨k + 1, rfl, by omega, by omega, hS⟩, by simp [intOf]; omega⟩
  · have : k = blk n := by unfold blk at hk2 ⊢; omega
    unfold m21_3 m21_4
    rw [this]
    exact ⟨rfl, hS⟩
/-- is one text the beginning of another one? -/
def begS (a b : ByteArray) : Prop := ∃ c, b = a ++ c
theorem ext_app (a c : ByteArray) : (a ++ c).extract 0 a.size = a := by
  apply ByteArray.ext
  rw [ByteArray.data_extract, ByteArray.data_append, show a.size = a.data.size from rfl]
  simp
theorem ext_cat (s : ByteArray) (k : Nat) (h : k ≤ s.size) : s = s.extract 0 k ++ s.extract k s.size := by
  apply ByteArray.ext
  rw [ByteArray.data_append, ByteArray.data_extract, ByteArray.data_extract, Array.extract_append_extract]
  have h1 : min 0 k = 0 := Nat.zero_min _
  have h2 : max k s.size = s.size := Nat.max_eq_right h
  rw [h1, h2]
  exact Array.extract_size.symm
theorem begins_ret {a b : ByteArray} (hS : St w0 F w L) : Ret Tryd.prog 16 #[.string a, .string b] w fun v w' => (∃ t, v = .bool t ∧ (t = true ↔ begS a b)) ∧ St w0 F w' L := by
  refine s16 _ _ ?_
  unfold m16
  unfold m16_0
  unfold m16_1
  refine builtin_ok (len9 _) ?_
  refine builtin_ok (len9 _) ?_
  refine valP_ok (leq_ok _ _ _ _ _ _ _) ?_
  refine cond_split (fun h => ?_) (fun h => ?_)
  · refine builtin_ok (len9 _) ?_
    refine valP_ok (sto _ (by omega)) ?_
    refine valP_ok (eq9 _ _ _ _ _) ?_
    first | refine pick_dt (by first | assumption | omega) ?_ | refine pick_df (by first | assumption | omega) ?_ | refine pick_t (by first | rfl | assumption) ?_ | refine pick_f (by first | rfl | assumption) ?_ | refine pick_dt rfl ?_ | refine pick_df (not_not_intro rfl) ?_
    unfold m16_2
    refine ⟨⟨_, rfl, ?_⟩, hS⟩
    rw [decide_eq_true_eq]
    constructor
    · intro h1
      have := ext_cat b a.size (by omega)
      rw [h1] at this
      exact ⟨_, this⟩
    · rintro ⟨c, rfl⟩
      exact ext_app a c
  · first | refine pick_dt (by first | assumption | omega) ?_ | refine pick_df (by first | assumption | omega) ?_ | refine pick_t (by first | rfl | assumption) ?_ | refine pick_f (by first | rfl | assumption) ?_ | refine pick_dt rfl ?_ | refine pick_df (not_not_intro rfl) ?_
    unfold m16_2
    refine ⟨⟨_, rfl, ⟨fun h => (by cases h), ?_⟩⟩, hS⟩
    rintro ⟨c, rfl⟩
    rw [ByteArray.size_append] at h
    omega
theorem zeros_get {n i : Nat} (hi : i < n) : (madeCells (Value.int .u8 0).cells (n * 1)).toList[i]? = some (.int .u8 ((List.replicate n (0 : Int)).getD i 0)) := by
  have e : (madeCells (Value.int .u8 0).cells (n * 1)).toList = List.replicate (n * 1) (Value.int .u8 0) := toList_madeCells_one _ _
  rw [e, List.getElem?_replicate, if_pos (by omega), List.getD_eq_getElem?_getD, List.getElem?_replicate, if_pos hi]
  rfl
theorem zeros_run {g n : Nat} (hS : St w0 F w (Res.row 5 1 (.slice (some ⟨g, 0, none⟩) n n) n (madeCells (Value.int .u8 0).cells (n * 1)).toList :: L)) : (convert 70 9 (.slice (some ⟨g, 0, none⟩) n n)).run Tryd.prog w = .ok (.string (strOfNums (List.replicate n 0))) w := by
  refine run_convert_bytes_arg (P := Tryd.prog) w 70 5 Tryd.underlying70 Tryd.underlying5 g 0 n n (List.replicate n 0) (by simp) (fun i hi => ?_) 9 Tryd.underlying9
  rw [Nat.zero_add]
  exact hS.row_cell 0 rfl (zeros_get hi)
/-! ### the example -/
abbrev sA : ByteArray := ⟨#[97]⟩
abbrev sB : ByteArray := ⟨#[98]⟩
theorem namedA : Named sA := by
  refine ⟨by decide, by decide, fun i h => ?_⟩
  have : i = 0 := by have : sA.size = 1 := rfl; omega
  subst this
  show inL 97 = true
  decide
theorem namedB : Named sB := by
  refine ⟨by decide, by decide, fun i h => ?_⟩
  have : i = 0 := by have : sB.size = 1 := rfl; omega
  subst this
  show inL 98 = true
  decide
theorem ready1 {s : ByteArray} (h : Named s) : readyC [s] false = 0 := by
  unfold readyC
  rw [if_pos (fun x hx => by obtain rfl := List.mem_singleton.1 hx; exact h)]
  rfl
theorem blk_65 : blk 65 = 2 := by decide
theorem awake_ret (hS : St w0 F w L) : Ret Tryd.prog 17 #[] w fun v w' => v = .bool true ∧ St w0 F w' L := by
  refine s17 ?_
  unfold m17 m17_0 m17_1
  refine callR (by kernel_rfl) (new_ret (n := 2) hS) ?_
  intro v w hR
  rw [if_pos (by omega)] at hR
  obtain ⟨b, rfl, hD⟩ := hR
  clear hS
  have hO : Ok 2 ⟨[], 2, -1, false⟩ := Ok.new (n := 2) (by omega)
  refine valP_ok (extract_ok _ 0 rfl _) ?_
  refine valP_ok (extract_ok _ 1 rfl _) ?_
  unfold m17_2
  refine valP_ok (ne24 _ _ _ _ _) ?_
  refine cond_df (not_not_intro rfl) ?_
  first | refine valP_ok (eq23n _ _ _) ?_ | refine valP_ok (eq23s _ _ _ _) ?_
  first | refine pick_dt (by first | assumption | omega) ?_ | refine pick_df (by first | assumption | omega) ?_ | refine pick_t (by first | rfl | assumption) ?_ | refine pick_f (by first | rfl | assumption) ?_ | refine pick_dt rfl ?_ | refine pick_df (not_not_intro rfl) ?_
  unfold m17_10
  refine cond_f rfl ?_
  obtain ⟨mb, X, hX, hS⟩ := hD
  unfold m17_3
  refine make_ok (n := 65) sl70' hS (by omega) (by unfold maxLen; omega) ?_
  intro g w hS
  refine valP_ok (zeros_run hS) ?_
  have hz : (strOfNums (List.replicate 65 0)).size = 65 := by rw [strOfNums_size, List.length_replicate]
  generalize strOfNums (List.replicate 65 0) = z at *
  have hD : Dsk w0 F L b ⟨[], 2, -1, false⟩ w := ⟨mb, X, hX, hS.tail⟩
  have e1 : appD ⟨[], 2, -1, false⟩ sA z = (⟨[⟨sA, ⟨#[]⟩, z⟩], 0, -1, false⟩, 0) := by
    unfold appD
    simp only [ready1 namedA, if_true]
    rw [show getF [] sA = none from rfl]
    simp only [hz, blk_65]
    rfl
  refine callR (by kernel_rfl) (append_ret hO (by omega) hD) ?_
  have hO := Ok.app (s := sA) (t := z) hO
  rw [e1] at hO ⊢
  rintro _ w ⟨rfl, hD⟩
  obtain ⟨mb, X, hX, hS⟩ := hD
  unfold m17_4
  refine callR (by kernel_rfl) (free_ret hS) ?_
  rintro _ w ⟨rfl, hS⟩
  unfold m17_5
  have e2 : appD ⟨[⟨sA, ⟨#[]⟩, z⟩], 0, -1, false⟩ sB ⟨#[]⟩ = (⟨[⟨sA, ⟨#[]⟩, z⟩], 0, -1, false⟩, 5) := by
    unfold appD
    simp only [ready1 namedB, if_true]
    rw [show getF [⟨sA, ⟨#[]⟩, z⟩] sB = none from getF_none fun f hf => by
      obtain rfl := List.mem_singleton.1 hf
      show sA ≠ sB
      decide]
    simp only
    rw [if_pos (.inl (by decide))]
  refine callR (by kernel_rfl) (append_ret hO (by decide) ⟨mb, X, hX, hS⟩) ?_
  have hO := Ok.app (s := sB) (t := ⟨#[]⟩) hO
  rw [e2] at hO ⊢
  rintro _ w ⟨rfl, hD⟩
  unfold m17_6
  refine callR (by kernel_rfl) (crash_ret (keep := []) (by simp) hO (fun w L' hS hL => Rd.nil_ _ _ _) hD) ?_
  have hO := Ok.crash (keep := []) hO
  have e3 : crashD ⟨[⟨sA, ⟨#[]⟩, z⟩], 0, -1, false⟩ [] = ⟨[⟨sA, ⟨#[]⟩ ++ z.extract 0 0, ⟨#[]⟩⟩], 0 + used [⟨sA, ⟨#[]⟩, z⟩] - used [⟨sA, ⟨#[]⟩ ++ z.extract 0 0, ⟨#[]⟩⟩], -1, false⟩ := rfl
  have e4 : (⟨#[]⟩ ++ z.extract 0 0 : ByteArray) = ⟨#[]⟩ := by
    rw [empty_add, empty_iff, ext_size _ _ _ (Nat.zero_le _)]
  rw [e4] at e3
  have e5 : (0 : Int) + used [⟨sA, ⟨#[]⟩, z⟩] - used [⟨sA, ⟨#[]⟩, ⟨#[]⟩⟩] = 1 := by
    have h1 : (⟨sA, ⟨#[]⟩, z⟩ : Fl).sz = 65 := by
      show (⟨#[]⟩ : ByteArray).size + z.size = 65
      rw [hz]
      rfl
    have h2 : used [⟨sA, ⟨#[]⟩, z⟩] = 2 := by
      unfold used
      rw [List.map_singleton, h1]
      rfl
    rw [h2]
    rfl
  rw [e5] at e3
  rw [e3] at hO ⊢
  intro _ w hD
  unfold m17_7
  refine callR (by kernel_rfl) (read_ret hO hD) ?_
  have e6 : readV ⟨[⟨sA, ⟨#[]⟩, ⟨#[]⟩⟩], 1, -1, false⟩ sA = (⟨#[]⟩, 0) := by
    unfold readV
    simp only [ready1 namedA, if_true]
    rfl
  rw [e6]
  rintro _ w ⟨rfl, hD⟩
  obtain ⟨mb, X, hX, hS⟩ := hD
  refine valP_ok (extract_ok _ 0 rfl _) ?_
  refine valP_ok (extract_ok _ 1 rfl _) ?_
  unfold m17_8
  refine valP_ok (eq24 _ _ _ _ _) ?_
  refine cond_dt rfl ?_
  refine valP_ok (eq3 _ _ _ _ _) ?_
  first | refine pick_dt (by first | assumption | omega) ?_ | refine pick_df (by first | assumption | omega) ?_ | refine pick_t (by first | rfl | assumption) ?_ | refine pick_f (by first | rfl | assumption) ?_ | refine pick_dt rfl ?_ | refine pick_df (not_not_intro rfl) ?_
  refine cond_dt rfl ?_
  refine valP_ok (eq24 _ _ _ _ _) ?_
  first | refine pick_dt (by first | assumption | omega) ?_ | refine pick_df (by first | assumption | omega) ?_ | refine pick_t (by first | rfl | assumption) ?_ | refine pick_f (by first | rfl | assumption) ?_ | refine pick_dt rfl ?_ | refine pick_df (not_not_intro rfl) ?_
  refine cond_dt rfl ?_
  refine valP_ok (eq9 _ _ _ _ _) ?_
  first | refine pick_dt (by first | assumption | omega) ?_ | refine pick_df (by first | assumption | omega) ?_ | refine pick_t (by first | rfl | assumption) ?_ | refine pick_f (by first | rfl | assumption) ?_ | refine pick_dt rfl ?_ | refine pick_df (not_not_intro rfl) ?_
  refine cond_dt rfl ?_
  refine valP_ok (eq24 _ _ _ _ _) ?_
  first | refine pick_dt (by first | assumption | omega) ?_ | refine pick_df (by first | assumption | omega) ?_ | refine pick_t (by first | rfl | assumption) ?_ | refine pick_f (by first | rfl | assumption) ?_ | refine pick_dt rfl ?_ | refine pick_df (not_not_intro rfl) ?_
  refine cond_dt rfl ?_
  refine callR (by kernel_rfl) (free_ret hS) ?_
  rintro _ w ⟨rfl, hS⟩
  refine valP_ok (eq3 _ _ _ _ _) ?_
  first | refine pick_dt (by first | assumption | omega) ?_ | refine pick_df (by first | assumption | omega) ?_ | refine pick_t (by first | rfl | assumption) ?_ | refine pick_f (by first | rfl | assumption) ?_ | refine pick_dt rfl ?_ | refine pick_df (not_not_intro rfl) ?_
  unfold m17_9
  exact ⟨rfl, hS.sub (List.Sublist.cons _ (List.Sublist.cons _ (List.sublist_append_right _ L)))⟩
end

end Go.Proofs.YtcldjjmfpmkldaaDoor.M
