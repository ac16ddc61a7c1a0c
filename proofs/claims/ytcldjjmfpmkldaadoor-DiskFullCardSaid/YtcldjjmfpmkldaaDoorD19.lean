/- DiskFull: a disk that has no room for it takes nothing; of one that has, room goes as the bytes need it. -/
import Derived.Test.YtcldjjmfpmkldaaDoorD16
import Derived.Test.YtcldjjmfpmkldaaDoorFwL
import Derived.Test.YtcldjjmfpmkldaaDoorFwW
import Derived.Test.YtcldjjmfpmkldaaDoorFwB
import Derived.Test.YtcldjjmfpmkldaaDoorFwM
import Derived.Test.YtcldjjmfpmkldaaDoorMtrim0
import Derived.Test.YtcldjjmfpmkldaaDoorMdisk0
import Derived.Test.YtcldjjmfpmkldaaDoorMmore0
import Derived.Test.YtcldjjmfpmkldaaDoorMlaw0
import Derived.Test.YtcldjjmfpmkldaaDoorMall0
import Derived.Test.YtcldjjmfpmkldaaDoorMall1
namespace Go.Proofs.YtcldjjmfpmkldaaDoor.M
open Go.Proofs.YtcldjjmfpmkldaaDoor.F Go.RowKit
set_option linter.unusedVariables false
set_option linter.unusedSimpArgs false
set_option maxRecDepth 100000
set_option maxHeartbeats 2000000
attribute [local irreducible] Res.cells Res.row Res.map Res.any World.cell? World.frozen? Instr.fieldAt Instr.loadAt Instr.storeAt Instr.indexAt Instr.lookup Instr.mapUpdate Instr.box Instr.build Instr.buildSlice Instr.extract Instr.alloc Instr.field Instr.index Instr.sliceAt Instr.makeSlice Instr.makeMap Instr.makeFunc binS Op.unary Sem.run
theorem okL : ∀ b : UInt8, (97 ≤ b.toNat ∧ b.toNat ≤ 122) ∨ (48 ≤ b.toNat ∧ b.toNat ≤ 57) ∨ b.toNat = 46 ∨ b.toNat = 45 → inL b = true := by
  have h : ∀ n : Nat, n < 256 → (97 ≤ n ∧ n ≤ 122) ∨ (48 ≤ n ∧ n ≤ 57) ∨ n = 46 ∨ n = 45 → inL (UInt8.ofNat n) = true := by decide +kernel
  intro b hb
  have := h b.toNat b.toNat_lt hb
  rwa [UInt8.ofNat_toNat] at this
section
variable {w0 w : World} {F : List Nat} {L : List Res} {s : ByteArray}
theorem named24_ret (hS : St w0 F w L) : Ret Tryd.prog 24 #[.string s] w fun v w' => (∃ t, v = .bool t ∧ (t = true → Named s)) ∧ St w0 F w' L := by
  refine s24 _ ?_
  have main : 0 < s.size → s.size ≤ 24 → m24_2 (fun v w' => (∃ t, v = .bool t ∧ (t = true → Named s)) ∧ St w0 F w' L) (.string s) w := fun h0 h1 => by
    unfold m24_2 m24_5
    refine loop_in (fun u w' => ∃ i : Nat, u = .int .i64 (i : Int) ∧ i ≤ s.size ∧ (∀ j (h : j < s.size), j < i → inL s[j] = true) ∧ St w0 F w' L) (fun u _ => s.size - (intOf u).toNat) ⟨0, rfl, by omega, fun j _ h => by omega, hS⟩ ?_
    clear hS
    rintro u w ⟨i, rfl, hi, hl, hS⟩
    unfold m24_6
    refine builtin_ok (len9 _) ?_
    refine valP_ok (lss_ok _ _ _ _ _ _ _) ?_
    unfold m24_12
    refine cond_split (fun h => ?_) (fun h => ?_)
    · have hil : i < s.size := by omega
      unfold m24_7
      refine valP_ok (sidx _ hil) ?_
      have hok := okL s[i]
      have leaf : ∀ (K1 : Value → World → Prop) (t : Bool), (t = false → (97 ≤ s[i].toNat ∧ s[i].toNat ≤ 122) ∨ (48 ≤ s[i].toNat ∧ s[i].toNat ≤ 57) ∨ s[i].toNat = 46 ∨ s[i].toNat = 45) → (∀ w', (inL s[i] = true) → St w0 F w' L → K1 (.int .i64 ((i + 1 : Nat) : Int)) w') → m24_10 (fun v w' => (∃ t, v = .bool t ∧ (t = true → Named s)) ∧ St w0 F w' L) K1 (.string s) (.int .i64 (i : Int)) (.bool t) w := fun K1 t ht hK => by
        unfold m24_10
        cases t with
        | true =>
          refine cond_t rfl ?_
          unfold m24_11
          exact ⟨⟨false, rfl, fun h => (by cases h)⟩, hS⟩
        | false =>
          refine cond_f rfl ?_
          unfold m24_8
          refine valP_ok (add_ok _ _ _ (by omega) (by omega) _) ?_
          exact hK _ (hok (ht rfl)) hS
      have nxt : ∀ (w' : World), inL s[i] = true → St w0 F w' L → (∃ i' : Nat, Value.int .i64 ((i + 1 : Nat) : Int) = .int .i64 (i' : Int) ∧ i' ≤ s.size ∧ (∀ j (h : j < s.size), j < i' → inL s[j] = true) ∧ St w0 F w' L) ∧ s.size - (intOf (Value.int .i64 ((i + 1 : Nat) : Int))).toNat < s.size - (intOf (Value.int .i64 (i : Int))).toNat := fun w' hin hS => ⟨⟨i + 1, rfl, by omega, fun j h2 h3 => by
        rcases Nat.lt_or_ge j i with g | g
        · exact hl j h2 g
        · obtain rfl : j = i := by omega
          exact hin, hS⟩, by simp [intOf]; omega⟩
      unfold m24_9
      refine valP_ok (geq_ok _ _ _ _ _ _ _) ?_
      refine cond_split (fun g1 => ?_) (fun g1 => ?_)
      · refine valP_ok (leq_ok _ _ _ _ _ _ _) ?_
        first | refine pick_dt (by first | assumption | omega) ?_ | refine pick_df (by first | assumption | omega) ?_ | refine pick_t (by first | rfl | assumption) ?_ | refine pick_f (by first | rfl | assumption) ?_ | refine pick_dt rfl ?_ | refine pick_df (not_not_intro rfl) ?_
        refine cond_split (fun g2 => ?_) (fun g2 => ?_)
        · first | refine pick_dt (by first | assumption | omega) ?_ | refine pick_df (by first | assumption | omega) ?_ | refine pick_t (by first | rfl | assumption) ?_ | refine pick_f (by first | rfl | assumption) ?_ | refine pick_dt rfl ?_ | refine pick_df (not_not_intro rfl) ?_
          first | refine pick_dt (by first | assumption | omega) ?_ | refine pick_df (by first | assumption | omega) ?_ | refine pick_t (by first | rfl | assumption) ?_ | refine pick_f (by first | rfl | assumption) ?_ | refine pick_dt rfl ?_ | refine pick_df (not_not_intro rfl) ?_
          first | refine pick_dt (by first | assumption | omega) ?_ | refine pick_df (by first | assumption | omega) ?_ | refine pick_t (by first | rfl | assumption) ?_ | refine pick_f (by first | rfl | assumption) ?_ | refine pick_dt rfl ?_ | refine pick_df (not_not_intro rfl) ?_
          first | refine valP_ok (not_ok _ _) ?_ | refine valP_ok (notb_ok _ _) ?_
          exact leaf _ _ (fun _ => by omega) nxt
        · refine valP_ok (geq_ok _ _ _ _ _ _ _) ?_
          refine cond_split (fun g3 => ?_) (fun g3 => ?_)
          · refine valP_ok (leq_ok _ _ _ _ _ _ _) ?_
            first | refine pick_dt (by first | assumption | omega) ?_ | refine pick_df (by first | assumption | omega) ?_ | refine pick_t (by first | rfl | assumption) ?_ | refine pick_f (by first | rfl | assumption) ?_ | refine pick_dt rfl ?_ | refine pick_df (not_not_intro rfl) ?_
            first | refine pick_dt (by first | assumption | omega) ?_ | refine pick_df (by first | assumption | omega) ?_ | refine pick_t (by first | rfl | assumption) ?_ | refine pick_f (by first | rfl | assumption) ?_ | refine pick_dt rfl ?_ | refine pick_df (not_not_intro rfl) ?_
            refine cond_split (fun g4 => ?_) (fun g4 => ?_)
            · exfalso; omega
            · refine valP_ok (eq5 _ _ _ _ _) ?_
              first | refine pick_dt (by first | assumption | omega) ?_ | refine pick_df (by first | assumption | omega) ?_ | refine pick_t (by first | rfl | assumption) ?_ | refine pick_f (by first | rfl | assumption) ?_ | refine pick_dt rfl ?_ | refine pick_df (not_not_intro rfl) ?_
              refine cond_split (fun g5 => ?_) (fun g5 => ?_)
              · exfalso; omega
              · refine valP_ok (eq5 _ _ _ _ _) ?_
                first | refine pick_dt (by first | assumption | omega) ?_ | refine pick_df (by first | assumption | omega) ?_ | refine pick_t (by first | rfl | assumption) ?_ | refine pick_f (by first | rfl | assumption) ?_ | refine pick_dt rfl ?_ | refine pick_df (not_not_intro rfl) ?_
                first | refine valP_ok (not_ok _ _) ?_ | refine valP_ok (notb_ok _ _) ?_
                exact leaf _ _ (fun ht => by first | omega | (simp at ht; omega)) nxt
          · exfalso; omega
      · first | refine pick_dt (by first | assumption | omega) ?_ | refine pick_df (by first | assumption | omega) ?_ | refine pick_t (by first | rfl | assumption) ?_ | refine pick_f (by first | rfl | assumption) ?_ | refine pick_dt rfl ?_ | refine pick_df (not_not_intro rfl) ?_
        refine valP_ok (geq_ok _ _ _ _ _ _ _) ?_
        refine cond_split (fun g3 => ?_) (fun g3 => ?_)
        · refine valP_ok (leq_ok _ _ _ _ _ _ _) ?_
          first | refine pick_dt (by first | assumption | omega) ?_ | refine pick_df (by first | assumption | omega) ?_ | refine pick_t (by first | rfl | assumption) ?_ | refine pick_f (by first | rfl | assumption) ?_ | refine pick_dt rfl ?_ | refine pick_df (not_not_intro rfl) ?_
          first | refine pick_dt (by first | assumption | omega) ?_ | refine pick_df (by first | assumption | omega) ?_ | refine pick_t (by first | rfl | assumption) ?_ | refine pick_f (by first | rfl | assumption) ?_ | refine pick_dt rfl ?_ | refine pick_df (not_not_intro rfl) ?_
          refine cond_split (fun g4 => ?_) (fun g4 => ?_)
          · first | refine pick_dt (by first | assumption | omega) ?_ | refine pick_df (by first | assumption | omega) ?_ | refine pick_t (by first | rfl | assumption) ?_ | refine pick_f (by first | rfl | assumption) ?_ | refine pick_dt rfl ?_ | refine pick_df (not_not_intro rfl) ?_
            first | refine pick_dt (by first | assumption | omega) ?_ | refine pick_df (by first | assumption | omega) ?_ | refine pick_t (by first | rfl | assumption) ?_ | refine pick_f (by first | rfl | assumption) ?_ | refine pick_dt rfl ?_ | refine pick_df (not_not_intro rfl) ?_
            first | refine valP_ok (not_ok _ _) ?_ | refine valP_ok (notb_ok _ _) ?_
            exact leaf _ _ (fun ht => by first | omega | (simp at ht; omega)) nxt
          · refine valP_ok (eq5 _ _ _ _ _) ?_
            first | refine pick_dt (by first | assumption | omega) ?_ | refine pick_df (by first | assumption | omega) ?_ | refine pick_t (by first | rfl | assumption) ?_ | refine pick_f (by first | rfl | assumption) ?_ | refine pick_dt rfl ?_ | refine pick_df (not_not_intro rfl) ?_
            refine cond_split (fun g5 => ?_) (fun g5 => ?_)
            · exfalso; omega
            · refine valP_ok (eq5 _ _ _ _ _) ?_
              first | refine pick_dt (by first | assumption | omega) ?_ | refine pick_df (by first | assumption | omega) ?_ | refine pick_t (by first | rfl | assumption) ?_ | refine pick_f (by first | rfl | assumption) ?_ | refine pick_dt rfl ?_ | refine pick_df (not_not_intro rfl) ?_
              first | refine valP_ok (not_ok _ _) ?_ | refine valP_ok (notb_ok _ _) ?_
              exact leaf _ _ (fun ht => by first | omega | (simp at ht; omega)) nxt
        · first | refine pick_dt (by first | assumption | omega) ?_ | refine pick_df (by first | assumption | omega) ?_ | refine pick_t (by first | rfl | assumption) ?_ | refine pick_f (by first | rfl | assumption) ?_ | refine pick_dt rfl ?_ | refine pick_df (not_not_intro rfl) ?_
          first | refine pick_dt (by first | assumption | omega) ?_ | refine pick_df (by first | assumption | omega) ?_ | refine pick_t (by first | rfl | assumption) ?_ | refine pick_f (by first | rfl | assumption) ?_ | refine pick_dt rfl ?_ | refine pick_df (not_not_intro rfl) ?_
          refine valP_ok (eq5 _ _ _ _ _) ?_
          first | refine pick_dt (by first | assumption | omega) ?_ | refine pick_df (by first | assumption | omega) ?_ | refine pick_t (by first | rfl | assumption) ?_ | refine pick_f (by first | rfl | assumption) ?_ | refine pick_dt rfl ?_ | refine pick_df (not_not_intro rfl) ?_
          refine cond_split (fun g5 => ?_) (fun g5 => ?_)
          · first | refine pick_dt (by first | assumption | omega) ?_ | refine pick_df (by first | assumption | omega) ?_ | refine pick_t (by first | rfl | assumption) ?_ | refine pick_f (by first | rfl | assumption) ?_ | refine pick_dt rfl ?_ | refine pick_df (not_not_intro rfl) ?_
            first | refine valP_ok (not_ok _ _) ?_ | refine valP_ok (notb_ok _ _) ?_
            exact leaf _ _ (fun ht => by first | omega | (simp at ht; omega)) nxt
          · refine valP_ok (eq5 _ _ _ _ _) ?_
            first | refine pick_dt (by first | assumption | omega) ?_ | refine pick_df (by first | assumption | omega) ?_ | refine pick_t (by first | rfl | assumption) ?_ | refine pick_f (by first | rfl | assumption) ?_ | refine pick_dt rfl ?_ | refine pick_df (not_not_intro rfl) ?_
            first | refine valP_ok (not_ok _ _) ?_ | refine valP_ok (notb_ok _ _) ?_
            exact leaf _ _ (fun ht => by first | omega | (simp at ht; omega)) nxt
    · obtain rfl : i = s.size := by omega
      unfold m24_3 m24_4
      exact ⟨⟨true, rfl, fun _ => ⟨h0, h1, fun j hj => hl j hj hj⟩⟩, hS⟩
  unfold m24
  unfold m24_0
  unfold m24_1
  refine builtin_ok (len9 _) ?_
  refine valP_ok (eq3 _ _ _ _ _) ?_
  refine cond_split (fun g => ?_) (fun g => ?_)
  · first | refine pick_dt (by first | assumption | omega) ?_ | refine pick_df (by first | assumption | omega) ?_ | refine pick_t (by first | rfl | assumption) ?_ | refine pick_f (by first | rfl | assumption) ?_ | refine pick_dt rfl ?_ | refine pick_df (not_not_intro rfl) ?_
    unfold m24_13
    refine cond_t rfl ?_
    unfold m24_14
    exact ⟨⟨false, rfl, fun h => (by cases h)⟩, hS⟩
  · refine builtin_ok (len9 _) ?_
    refine valP_ok (gtr_ok _ _ _ _ _ _ _) ?_
    first | refine pick_dt (by first | assumption | omega) ?_ | refine pick_df (by first | assumption | omega) ?_ | refine pick_t (by first | rfl | assumption) ?_ | refine pick_f (by first | rfl | assumption) ?_ | refine pick_dt rfl ?_ | refine pick_df (not_not_intro rfl) ?_
    unfold m24_13
    refine cond_split (fun g2 => ?_) (fun g2 => ?_)
    · unfold m24_14
      exact ⟨⟨false, rfl, fun h => (by cases h)⟩, hS⟩
    · exact main (by omega) (by omega)
end
theorem getF_snoc {l : List Fl} {f : Fl} {s : ByteArray} : getF (l ++ [f]) s = (getF l s).or (if f.name = s then some f else none) := by
  unfold getF
  rw [List.find?_append]
  congr 1
  by_cases h : f.name = s <;> simp [h]
/-- how long a file is, if it is there. -/
def szO (o : Option Fl) : Nat := match o with | some f => f.sz | none => 0
theorem getF_take {l : List Fl} (hU : UpL l) {s : ByteArray} {i : Nat} (h : i < l.length) : getF (l.take (i + 1)) s = if l[i].name = s then some l[i] else getF (l.take i) s := by
  rw [List.take_succ_eq_append_getElem h, getF_snoc]
  by_cases h1 : l[i].name = s
  · rw [if_pos h1, if_pos h1]
    have : getF (l.take i) s = none := getF_none fun f hf e => by
      obtain ⟨j, hj, rfl⟩ := List.mem_iff_getElem.1 hf
      rw [List.length_take] at hj
      rw [List.getElem_take] at e
      exact List.pairwise_iff_getElem.1 (up_ne hU) j i (by omega) h (by omega) (e.trans h1.symm)
    rw [this]
    rfl
  · rw [if_neg h1, if_neg h1, Option.or_none]
/-- so much more room do bytes need. -/
def needO (o : Option Fl) (n : Nat) : Int := match o with | some f => (blk (f.sz + n) : Int) - blk f.sz | none => (blk n : Int)
theorem app_law {size : Nat} {D : Dk} {s t : ByteArray} (hU : UpL D.L) (hf : D.fuse = -1) :
    ((appD D s t).2 = 0 ∧ Named s ∧ D.off = false ∧ needO (getF D.L s) t.size ≤ D.room ∧ (appD D s t).1.room = D.room - needO (getF D.L s) t.size ∧ (appD D s t).1.off = false ∧ ∃ g, getF (appD D s t).1.L s = some g ∧ ∃ p : ByteArray, g.sure ++ g.loose = p ++ t ∧ p.size = szO (getF D.L s)) ∨
    ((appD D s t).2 ≠ 0 ∧ (appD D s t).1 = D ∧ (((appD D s t).2 = 1 ∧ ¬ Named s) ∨ ((appD D s t).2 = 4 ∧ D.off = true) ∨ ((appD D s t).2 = 5 ∧ (D.room < needO (getF D.L s) t.size ∨ (getF D.L s = none ∧ 256 ≤ D.L.length))))) := by
  obtain ⟨L, r, fu, off⟩ := D
  simp only at hf hU
  subst hf
  by_cases hn : Named s
  · cases off with
    | true =>
      right
      have e : readyC [s] true = 4 := by
        unfold readyC
        rw [if_pos (fun x hx => by obtain rfl := List.mem_singleton.1 hx; exact hn)]
        rfl
      have ea : appD ⟨L, r, -1, true⟩ s t = (⟨L, r, -1, true⟩, 4) := by
        unfold appD
        simp only [e]
        rfl
      rw [ea]
      exact ⟨by simp, rfl, .inr (.inl ⟨rfl, rfl⟩)⟩
    | false =>
      cases hg : getF L s with
      | some f =>
        obtain ⟨hfm, hfn⟩ := getF_some hg
        have ea : appD ⟨L, r, -1, false⟩ s t = if r < (blk (f.sz + t.size) : Int) - blk f.sz then (⟨L, r, -1, false⟩, 5) else burnC ⟨updF L ⟨s, f.sure, f.loose ++ t⟩, r - ((blk (f.sz + t.size) : Int) - blk f.sz), -1, false⟩ := by
          unfold appD
          rw [if_pos (ready1 hn)]
          simp only [hg]
        rw [ea]
        by_cases hr : r < (blk (f.sz + t.size) : Int) - blk f.sz
        · right
          rw [if_pos hr]
          exact ⟨by simp, rfl, .inr (.inr ⟨rfl, .inl hr⟩)⟩
        · left
          rw [if_neg hr]
          refine ⟨rfl, hn, rfl, Int.not_lt.1 hr, ?_, ?_, ⟨s, f.sure, f.loose ++ t⟩, ?_, f.sure ++ f.loose, ?_, ?_⟩
          · unfold burnC; rw [burnt_eq]; rfl
          · unfold burnC; rw [burnt_eq]; rfl
          · unfold burnC; rw [burnt_eq]
            show getF (updF L ⟨s, f.sure, f.loose ++ t⟩) s = _
            refine getF_mem (f := ⟨s, f.sure, f.loose ++ t⟩) (names_up (names_updF _ _).symm hU) ?_
            unfold updF
            exact List.mem_map.2 ⟨f, hfm, if_pos hfn⟩
          · show f.sure ++ (f.loose ++ t) = f.sure ++ f.loose ++ t
            apply ByteArray.ext; simp only [ByteArray.data_append, Array.append_assoc]
          · rw [ByteArray.size_append]; rfl
      | none =>
        have ea : appD ⟨L, r, -1, false⟩ s t = if r < (blk t.size : Int) ∨ 256 ≤ L.length then (⟨L, r, -1, false⟩, 5) else burnC ⟨insF ⟨s, ⟨#[]⟩, t⟩ L, r - blk t.size, -1, false⟩ := by
          unfold appD
          rw [if_pos (ready1 hn)]
          simp only [hg]
        rw [ea]
        by_cases hr : r < (blk t.size : Int) ∨ 256 ≤ L.length
        · right
          rw [if_pos hr]
          refine ⟨by simp, rfl, .inr (.inr ⟨rfl, ?_⟩)⟩
          rcases hr with hr | hr
          · exact .inl hr
          · exact .inr ⟨rfl, hr⟩
        · left
          rw [if_neg hr]
          refine ⟨rfl, hn, rfl, Int.not_lt.1 (fun h => hr (.inl h)), ?_, ?_, ⟨s, ⟨#[]⟩, t⟩, ?_, ⟨#[]⟩, rfl, rfl⟩
          · unfold burnC; rw [burnt_eq]; rfl
          · unfold burnC; rw [burnt_eq]; rfl
          · unfold burnC; rw [burnt_eq]
            show getF (insF ⟨s, ⟨#[]⟩, t⟩ L) s = _
            exact getF_mem (f := ⟨s, ⟨#[]⟩, t⟩) (insF_up hU (fun g hg2 => getF_of hg g hg2)) ((insF_perm _ _).mem_iff.2 (.head _))
  · right
    have e : ∀ o, readyC [s] o = 1 := fun o => by
      unfold readyC
      rw [if_neg (fun h => hn (h s (.head _)))]
    have ea : appD ⟨L, r, -1, off⟩ s t = (⟨L, r, -1, off⟩, 1) := by
      unfold appD
      simp only [e]
      rfl
    rw [ea]
    exact ⟨by simp, rfl, .inl ⟨rfl, hn⟩⟩

end Go.Proofs.YtcldjjmfpmkldaaDoor.M
