/- DiskRenames: a file that gets another name is as it was, and who had it is gone; under the old one there is none. -/
import Derived.Test.YtcldjjmfpmkldaaDoorD16
import Derived.Test.YtcldjjmfpmkldaaDoorFwL
import Derived.Test.YtcldjjmfpmkldaaDoorFwW
import Derived.Test.YtcldjjmfpmkldaaDoorFwB
import Derived.Test.YtcldjjmfpmkldaaDoorFwM
import Derived.Test.YtcldjjmfpmkldaaDoorMtrim0
import Derived.Test.YtcldjjmfpmkldaaDoorMdisk0
import Derived.Test.YtcldjjmfpmkldaaDoorMmore0
import Derived.Test.YtcldjjmfpmkldaaDoorMlaw0
import Derived.Test.YtcldjjmfpmkldaaDoorMall0
import Derived.Test.YtcldjjmfpmkldaaDoorMall1
namespace Go.Proofs.YtcldjjmfpmkldaaDoor.M
open Go.Proofs.YtcldjjmfpmkldaaDoor.F Go.RowKit
set_option linter.unusedVariables false
set_option linter.unusedSimpArgs false
set_option maxRecDepth 100000
set_option maxHeartbeats 2000000
attribute [local irreducible] Res.cells Res.row Res.map Res.any World.cell? World.frozen? Instr.fieldAt Instr.loadAt Instr.storeAt Instr.indexAt Instr.lookup Instr.mapUpdate Instr.box Instr.build Instr.buildSlice Instr.extract Instr.alloc Instr.field Instr.index Instr.sliceAt Instr.makeSlice Instr.makeMap Instr.makeFunc binS Op.unary Sem.run
instance flDec : DecidableEq Fl := fun _ _ => decidable_of_iff _ fl_ext.symm
/-- how a file stands behind another name. -/
def renO (s to : ByteArray) (f : Fl) : Fl := if f.name = s then ⟨to, f.sure, f.loose⟩ else f
def renG (s to : ByteArray) (f : Fl) : Option Fl := if f.name = to ∧ s ≠ to then none else some (renO s to f)
def tot (l : List Fl) (s to : ByteArray) (x : List Fl) : Nat := ((x.filterMap (renG s to)).map (l.count ·)).sum
theorem tot_add (l : List Fl) (s to : ByteArray) (x y : List Fl) : tot l s to (x ++ y) = tot l s to x + tot l s to y := by
  unfold tot
  rw [List.filterMap_append, List.map_append, List.sum_append]
theorem tot_one (l : List Fl) (s to : ByteArray) (f : Fl) : tot l s to [f] = match renG s to f with | none => 0 | some g => l.count g := by
  unfold tot
  rw [List.filterMap_cons]
  cases renG s to f <;> simp
theorem count_all {l : List Fl} (h : l.Nodup) : (l.map (l.count ·)).sum = l.length := by
  have : ∀ m : List Fl, (∀ x ∈ m, x ∈ l) → (m.map (l.count ·)).sum = m.length := by
    intro m
    induction m with
    | nil => intro _; rfl
    | cons x m ih =>
      intro hm
      rw [List.map_cons, List.sum_cons, ih (fun y hy => hm y (.tail _ hy)), List.length_cons]
      have := h.count (a := x)
      rw [if_pos (hm x (.head _))] at this
      omega
  exact this l fun _ h => h
theorem up_nodup {l : List Fl} (h : UpL l) : l.Nodup := (up_ne h).imp fun hab e => hab (congrArg Fl.name e)
theorem tot_all {l m : List Fl} {s to : ByteArray} (hl : UpL l) (hp : l.Perm (m.filterMap (renG s to))) : tot l s to m = l.length := by
  unfold tot
  rw [← (hp.map (l.count ·)).sum_nat, count_all (up_nodup hl)]
theorem del_perm {l : List Fl} (hU : UpL l) {f : Fl} (hf : f ∈ l) : l.Perm (f :: delF l f.name) := by
  induction l with
  | nil => cases hf
  | cons q l ih =>
    have hq := List.pairwise_cons.1 (up_ne hU)
    rcases List.mem_cons.1 hf with rfl | hf
    · have e : delF (f :: l) f.name = l := by
        unfold delF
        rw [List.filter_cons_of_neg (by simp)]
        exact delF_none fun g hg => (hq.1 g hg).symm
      rw [e]
    · have e : delF (q :: l) f.name = q :: delF l f.name := by
        unfold delF
        rw [List.filter_cons_of_pos (by simpa using hq.1 f hf)]
      rw [e]
      exact ((ih (List.pairwise_cons.1 hU).2 hf).cons q).trans (List.Perm.swap _ _ _)
theorem renG_del {l : List Fl} {s to : ByteArray} (hl : ∀ f ∈ l, f.name ≠ s) : l.filterMap (renG s to) = delF l to := by
  induction l with
  | nil => rfl
  | cons q l ih =>
    have hq := hl q (.head _)
    rw [List.filterMap_cons]
    unfold delF
    by_cases h : q.name = to
    · have e : renG s to q = none := if_pos ⟨h, fun e => hq (h.trans e.symm)⟩
      rw [e, List.filter_cons_of_neg (by simpa using h)]
      exact ih fun f hf => hl f (.tail _ hf)
    · have e : renG s to q = some q := by
        unfold renG renO
        rw [if_neg (fun h1 => h h1.1), if_neg hq]
      rw [e, List.filter_cons_of_pos (by simpa using h)]
      simp only
      rw [ih fun f hf => hl f (.tail _ hf)]
      rfl
theorem ren_perm {l : List Fl} (hU : UpL l) {f : Fl} (hf : f ∈ l) (to : ByteArray) : (insF ⟨to, f.sure, f.loose⟩ (delF (delF l f.name) to)).Perm (l.filterMap (renG f.name to)) := by
  refine (insF_perm _ _).trans (List.Perm.trans ?_ ((del_perm hU hf).filterMap _).symm)
  rw [List.filterMap_cons]
  have e : renG f.name to f = some ⟨to, f.sure, f.loose⟩ := by
    unfold renG renO
    rw [if_neg (fun h1 => h1.2 h1.1), if_pos rfl]
  rw [e]
  simp only
  rw [renG_del (fun g hg => (delF_mem.1 hg).2)]
section
variable {size : Nat} {D : Dk} {s to t : ByteArray}
theorem app_on (h1 : D.fuse = -1) (h2 : D.off = false) : (appD D s t).1.fuse = -1 ∧ (appD D s t).1.off = false := by
  obtain ⟨L, r, fu, off⟩ := D
  simp only at h1 h2
  subst h1; subst h2
  unfold appD
  split
  · split
    · split
      · exact ⟨rfl, rfl⟩
      · unfold burnC; rw [burnt_eq]; exact ⟨rfl, rfl⟩
    · split
      · exact ⟨rfl, rfl⟩
      · unfold burnC; rw [burnt_eq]; exact ⟨rfl, rfl⟩
  · exact ⟨rfl, rfl⟩
theorem ren_law (hO : Ok size D) (h1 : D.fuse = -1) (h2 : D.off = false) : ((renD D s to).2 ≠ 0 → (renD D s to).1.L = D.L) ∧ ((renD D s to).2 = 0 → (renD D s to).1.L.Perm (D.L.filterMap (renG s to)) ∧ ((readV (renD D s to).1 s).2 = 3 ↔ s ≠ to)) := by
  obtain ⟨L, r, fu, off⟩ := D
  simp only at h1 h2
  subst h1; subst h2
  have hU : UpL L := hO.up
  unfold renD
  by_cases hr : readyC [s, to] (Dk.off ⟨L, r, -1, false⟩) = 0
  · rw [if_pos hr]
    obtain ⟨n1, n2, _⟩ := ready_two hr
    unfold workD
    rw [if_pos (ready1 n1)]
    cases hg : getF (Dk.L ⟨L, r, -1, false⟩) s with
    | none => exact ⟨fun _ => rfl, fun h => by simp at h⟩
    | some f =>
      obtain ⟨hf, rfl⟩ := getF_some hg
      simp only
      rw [if_neg (by decide), burnt_eq]
      refine ⟨fun h => absurd rfl h, fun _ => ⟨ren_perm hU hf to, ?_⟩⟩
      unfold readV
      have h3 : readyC [f.name] (renR to f ⟨L, r, if (0 : Int) < -1 then -1 - 1 else -1, if (-1 : Int) = 0 then true else false⟩).1.off = 0 := ready1 n1
      rw [if_pos h3]
      have hin : ∀ g, g ∈ insF ⟨to, f.sure, f.loose⟩ (delF (delF L f.name) to) ↔ g = ⟨to, f.sure, f.loose⟩ ∨ g ∈ delF (delF L f.name) to := fun g => by
        rw [(insF_perm _ _).mem_iff, List.mem_cons]
      cases hg2 : getF (renR to f ⟨L, r, if (0 : Int) < -1 then -1 - 1 else -1, if (-1 : Int) = 0 then true else false⟩).1.L f.name with
      | none =>
        refine ⟨fun _ e => ?_, fun _ => rfl⟩
        exact getF_of hg2 ⟨to, f.sure, f.loose⟩ ((hin _).2 (.inl rfl)) e.symm
      | some g =>
        refine ⟨fun h => by simp at h, fun hne => ?_⟩
        obtain ⟨hgm, hgn⟩ := getF_some hg2
        rcases (hin g).1 hgm with rfl | h4
        · exact absurd hgn.symm hne
        · exact absurd hgn (delF_mem.1 (delF_mem.1 h4).1).2
  · rw [if_neg hr]
    exact ⟨fun _ => rfl, fun h => absurd h hr⟩
end
section
variable {w0 w : World} {F : List Nat} {L : List Res} {l : List De} {A : Option Addr} {c b size : Nat} {D : Dk}
theorem drenames_ret {n : Int} {s to : ByteArray} (hc : l.length ≤ c) (hok : ∀ x ∈ l, DeOk w0 x) (hl : Rd w0 6 A l.length (l.flatMap encD)) : Ret Tryd.prog 5 #[.int .i64 n, .slice A l.length c, .string s, .string to] w0 fun v w' => v = .bool true ∧ Below w0.heap.size w0 w' := by
  have hS := St.start w0
  refine s5 _ _ _ _ ?_
  unfold m5 m5_0 m5_1
  refine callR (by kernel_rfl) (made_ret (n := n) hc hok hl hS) ?_
  intro v w hR
  by_cases hn : 1 ≤ n ∧ n ≤ 16384
  · rw [if_pos hn] at hR
    obtain ⟨b, rfl, hD⟩ := hR
    have hO : Ok n.toNat (runD ⟨[], n, -1, false⟩ (fewL l)) := (Ok.new hn).run (few_ok hok)
    generalize runD ⟨[], n, -1, false⟩ (fewL l) = D at *
    unfold m5_2
    first | refine valP_ok (eq23n _ _ _) ?_ | refine valP_ok (eq23s _ _ _ _) ?_
    unfold m5_32
    refine cond_f rfl ?_
    unfold m5_3
    refine callR (by kernel_rfl) (crash_ret (keep := []) (by simp) hO (fun w L' hS hL => Rd.nil_ _ _ _) hD) ?_
    clear hS hD
    intro _ w hD
    have hO := Ok.crash (keep := []) hO
    have e1 : (crashD D []).fuse = -1 := rfl
    have e2 : (crashD D []).off = false := rfl
    generalize crashD D [] = D at *
    unfold m5_4
    refine callR (by kernel_rfl) (append_ret hO (by decide) hD) ?_
    clear hD
    rintro _ w ⟨rfl, hD⟩
    have hO := Ok.app (s := s) (t := ⟨#[110, 101, 119]⟩) hO
    obtain ⟨e1, e2⟩ := app_on (s := s) (t := ⟨#[110, 101, 119]⟩) e1 e2
    generalize (appD D s ⟨#[110, 101, 119]⟩).1 = D at *
    unfold m5_5
    refine callR (by kernel_rfl) (files_ret hO hD) ?_
    clear hD
    rintro _ w ⟨A1, c1, rfl, hD⟩
    unfold m5_6
    refine callR (by kernel_rfl) (rename_ret hO hD) ?_
    clear hD
    rintro _ w ⟨rfl, hD⟩
    have hO2 := Ok.ren (s := s) (t := to) hO
    obtain ⟨r1, r2⟩ := ren_law (s := s) (to := to) hO e1 e2
    generalize renD D s to = E at *
    obtain ⟨E, e⟩ := E
    simp only at hO2 r1 r2 hD ⊢
    unfold m5_7
    refine callR (by kernel_rfl) (files_ret hO2 hD) ?_
    clear hD
    rintro _ w ⟨A3, c3, rfl, hD⟩
    have hDl := hO.len
    have hEl := hO2.len
    have hB1 : BF w0 [] [flRow A3 c3 E.L, flRow A1 c1 D.L] A1 D.L := Bes.of_row 1 rfl
    have hB3 : BF w0 [] [flRow A3 c3 E.L, flRow A1 c1 D.L] A3 E.L := Bes.of_row 0 rfl
    unfold m5_8
    refine valP_ok (ne24 _ _ _ _ _) ?_
    unfold m5_30
    refine cond_split (fun h => ?_) (fun h => ?_)
    · have hs := r1 (by omega)
      refine callR (by kernel_rfl) (same_ret (by omega) (by omega) hB1 hB3 (Dsk.gone hD)) ?_
      rintro _ w ⟨⟨t, rfl, ht⟩, hS⟩
      obtain rfl := ht.2 hs.symm
      refine cond_t rfl ?_
      refine callR (by kernel_rfl) (awake_ret hS) ?_
      rintro _ w ⟨rfl, hS⟩
      first | refine pick_dt (by first | assumption | omega) ?_ | refine pick_df (by first | assumption | omega) ?_ | refine pick_t (by first | rfl | assumption) ?_ | refine pick_f (by first | rfl | assumption) ?_ | refine pick_dt rfl ?_ | refine pick_df (not_not_intro rfl) ?_
      unfold m5_31
      exact ⟨rfl, hS.below⟩
    · obtain ⟨hp, h3⟩ := r2 (by omega)
      unfold m5_9
      refine callR (by kernel_rfl) (read_ret hO2 hD) ?_
      clear hD
      rintro _ w ⟨rfl, hD⟩
      generalize (readV E s).2 = f at *
      have hS := Dsk.gone hD
      clear hD
      refine valP_ok (extract_ok _ 0 rfl _) ?_
      refine valP_ok (extract_ok _ 1 rfl _) ?_
      rw [show (#[Value.string (readV E s).1, Value.int .i64 f] : Array Value)[1] = Value.int .i64 f from rfl]
      unfold m5_10 m5_11 m5_14
      refine loop_in (fun u w' => ∃ i k : Nat, u = (.int .i64 (k : Int), .int .i64 (i : Int)) ∧ i ≤ D.L.length ∧ k = tot E.L s to (D.L.take i) ∧ k ≤ i * 256 ∧ St w0 [] w' [flRow A3 c3 E.L, flRow A1 c1 D.L]) (fun u _ => D.L.length - (intOf u.2).toNat) ⟨0, 0, rfl, by omega, rfl, by omega, hS⟩ ?_
      clear hS
      rintro u w ⟨i, k, rfl, hi, hk, hkb, hS⟩
      simp only
      unfold m5_15
      refine builtin_ok (len38 _) ?_
      refine valP_ok (lss_ok _ _ _ _ _ _ _) ?_
      unfold m5_29
      refine cond_split (fun h => ?_) (fun h => ?_)
      · have hil : i < D.L.length := by omega
        obtain ⟨g1, o1, rfl⟩ := (hB1.rd hS).some_ (by omega) (by omega)
        have p := f_at (hB1.rd hS) hil
        have hnx : tot E.L s to (D.L.take (i + 1)) = k + tot E.L s to [D.L[i]] := by rw [List.take_succ_eq_append_getElem hil, tot_add, hk]
        rw [tot_one] at hnx
        unfold m5_16
        refine valP_ok (ix38 hil _) ?_
        refine valP_ok (ld42 p.1 p.2.1 p.2.2) ?_
        refine new_ok (al42 _) hS ?_
        intro b17 w hS
        first | refine ss42 0 hS rfl rfl rfl rfl ?_ | refine ss42 1 hS rfl rfl rfl rfl ?_ | refine ss42 2 hS rfl rfl rfl rfl ?_ | refine ss42 3 hS rfl rfl rfl rfl ?_ | refine ss42 4 hS rfl rfl rfl rfl ?_ | refine ss42 5 hS rfl rfl rfl rfl ?_ | refine ss42 6 hS rfl rfl rfl rfl ?_ | refine ss42 7 hS rfl rfl rfl rfl ?_
        intro w hS
        simp only [List.set_cons_zero, List.set_cons_succ] at hS
        have inner : ∀ (y : Fl) (K1 : Value × Value → World → Prop), (∀ w', St w0 [] w' [flRow A3 c3 E.L, flRow (some ⟨g1, o1, none⟩) c1 D.L] → K1 (.int .i64 ((k + E.L.count y : Nat) : Int), .int .i64 ((i + 1 : Nat) : Int)) w') → ∀ w, St w0 [] w (Res.cells b17 42 [.string y.name, .string y.sure, .string y.loose] :: [flRow A3 c3 E.L, flRow (some ⟨g1, o1, none⟩) c1 D.L]) → m5_20 (fun v w' => v = .bool true ∧ Below w0.heap.size w0 w') K1 (.string s) (.string to) (.slice (some ⟨g1, o1, none⟩) D.L.length c1) (.slice A3 E.L.length c3) (.int .i64 f) (.int .i64 (k : Int)) (.int .i64 (i : Int)) (ptr b17) w := fun y K1 hK w hS => by
          unfold m5_20 m5_21
          refine loop_in (fun u w' => ∃ j q : Nat, u = (.int .i64 (q : Int), .int .i64 (j : Int)) ∧ j ≤ E.L.length ∧ q = k + (E.L.take j).count y ∧ q ≤ i * 256 + j ∧ St w0 [] w' (Res.cells b17 42 [.string y.name, .string y.sure, .string y.loose] :: [flRow A3 c3 E.L, flRow (some ⟨g1, o1, none⟩) c1 D.L])) (fun u _ => E.L.length - (intOf u.2).toNat) ⟨0, k, rfl, by omega, rfl, by omega, hS⟩ ?_
          clear hS
          rintro u w ⟨j, q, rfl, hj, hq, hqb, hS⟩
          simp only
          unfold m5_22
          refine builtin_ok (len38 _) ?_
          refine valP_ok (lss_ok _ _ _ _ _ _ _) ?_
          unfold m5_26
          refine cond_split (fun h2 => ?_) (fun h2 => ?_)
          · have hjl : j < E.L.length := by omega
            obtain ⟨g3, o3, rfl⟩ := ((hB3.cons _).rd hS).some_ (by omega) (by omega)
            have p := f_at ((hB3.cons _).rd hS) hjl
            have p2 := fun i v (h : [Value.string y.name, Value.string y.sure, Value.string y.loose][i]? = some v) => hS.cell 0 rfl (i := i) h
            have hnq : (E.L.take (j + 1)).count y = (E.L.take j).count y + [E.L[j]].count y := by rw [List.take_succ_eq_append_getElem hjl, List.count_append]
            rw [List.count_singleton] at hnq
            unfold m5_23
            refine valQ_ok (ix38 hjl) ?_
            refine valQ_at (fun n => ld42 (cellD p.1 n) (cellD p.2.1 n) (cellD p.2.2 n)) ?_
            refine valQ_at (fun n => ld42 (cellD (p2 0 _ rfl) n) (cellD (p2 1 _ rfl) n) (cellD (p2 2 _ rfl) n)) ?_
            refine valQ_ok (eq42 _ _ _ _ _ _ _ _) ?_
            refine drawn_ok hS ?_
            intro w hS
            unfold m5_25
            refine cond_split (fun h4 => ?_) (fun h4 => ?_)
            · have e4 : E.L[j] = y := fl_ext.2 h4
              rw [e4, if_pos (beq_self_eq_true y)] at hnq
              refine valP_ok (add_ok _ _ _ (by omega) (by omega) _) ?_
              unfold m5_24
              refine valP_ok (add_ok _ _ _ (by omega) (by omega) _) ?_
              exact ⟨⟨j + 1, q + 1, rfl, by omega, by omega, by omega, hS⟩, by simp [intOf]; omega⟩
            · have e4 : ¬ E.L[j] = y := fun e => h4 (fl_ext.1 e)
              rw [if_neg (by simpa using e4)] at hnq
              unfold m5_24
              refine valP_ok (add_ok _ _ _ (by omega) (by omega) _) ?_
              exact ⟨⟨j + 1, q, rfl, by omega, by omega, by omega, hS⟩, by simp [intOf]; omega⟩
          · obtain rfl : j = E.L.length := by omega
            rw [List.take_length] at hq
            subst hq
            unfold m5_17
            refine valP_ok (add_ok _ _ _ (by omega) (by omega) _) ?_
            exact hK _ hS.tail
        have main : ∀ (K1 : Value × Value → World → Prop), renG s to D.L[i] = some (renO s to D.L[i]) → (∀ w', St w0 [] w' [flRow A3 c3 E.L, flRow (some ⟨g1, o1, none⟩) c1 D.L] → K1 (.int .i64 ((k + E.L.count (renO s to D.L[i]) : Nat) : Int), .int .i64 ((i + 1 : Nat) : Int)) w') → ∀ w, St w0 [] w (Res.cells b17 42 [.string D.L[i].name, .string D.L[i].sure, .string D.L[i].loose] :: [flRow A3 c3 E.L, flRow (some ⟨g1, o1, none⟩) c1 D.L]) → m5_19 (fun v w' => v = .bool true ∧ Below w0.heap.size w0 w') K1 (.string s) (.string to) (.slice (some ⟨g1, o1, none⟩) D.L.length c1) (.slice A3 E.L.length c3) (.int .i64 f) (.int .i64 (k : Int)) (.int .i64 (i : Int)) (ptr b17) w := fun K1 hg hK w hS => by
          unfold m5_19
          first | refine valP_ok (fa42_0 _ _) ?_ | refine valP_ok (fao42_0 _ _ _) ?_
          first | refine valP_ok (ld9 (hS.cell 0 rfl rfl)) ?_ | refine valP_ok (ld9 (hS.cell 1 rfl rfl)) ?_ | refine valP_ok (ld9 (hS.cell 2 rfl rfl)) ?_ | refine valP_ok (ld9 (hS.cell 3 rfl rfl)) ?_ | refine valP_ok (ld9 (hS.cell 4 rfl rfl)) ?_ | refine valP_ok (ld9 (hS.cell 5 rfl rfl)) ?_ | refine valP_ok (ld9 (hS.cell 6 rfl rfl)) ?_ | refine valP_ok (ld9 (hS.cell 7 rfl rfl)) ?_ | refine valP_ok (ld9 (by assumption)) ?_
          refine valP_ok (eq9 _ _ _ _ _) ?_
          unfold m5_27
          refine cond_split (fun h1 => ?_) (fun h1 => ?_)
          · have e : renO s to D.L[i] = ⟨to, D.L[i].sure, D.L[i].loose⟩ := if_pos h1
            rw [e] at hK
            refine valP_ok (fa42_0 _ _) ?_
            refine store_at (i := 0) 0 st9 hS rfl (by simp) rfl ?_
            intro w hS
            simp only [List.set_cons_zero] at hS
            exact inner _ K1 hK w hS
          · have e : renO s to D.L[i] = D.L[i] := if_neg h1
            rw [e] at hK
            exact inner _ K1 hK w hS
        unfold m5_18
        first | refine valP_ok (fa42_0 _ _) ?_ | refine valP_ok (fao42_0 _ _ _) ?_
        first | refine valP_ok (ld9 (hS.cell 0 rfl rfl)) ?_ | refine valP_ok (ld9 (hS.cell 1 rfl rfl)) ?_ | refine valP_ok (ld9 (hS.cell 2 rfl rfl)) ?_ | refine valP_ok (ld9 (hS.cell 3 rfl rfl)) ?_ | refine valP_ok (ld9 (hS.cell 4 rfl rfl)) ?_ | refine valP_ok (ld9 (hS.cell 5 rfl rfl)) ?_ | refine valP_ok (ld9 (hS.cell 6 rfl rfl)) ?_ | refine valP_ok (ld9 (hS.cell 7 rfl rfl)) ?_ | refine valP_ok (ld9 (by assumption)) ?_
        refine valP_ok (eq9 _ _ _ _ _) ?_
        refine cond_split (fun h1 => ?_) (fun h1 => ?_)
        · refine valP_ok (ne9 _ _ _ _ _) ?_
          first | refine pick_dt (by first | assumption | omega) ?_ | refine pick_df (by first | assumption | omega) ?_ | refine pick_t (by first | rfl | assumption) ?_ | refine pick_f (by first | rfl | assumption) ?_ | refine pick_dt rfl ?_ | refine pick_df (not_not_intro rfl) ?_
          unfold m5_28
          refine cond_split (fun h2 => ?_) (fun h2 => ?_)
          · have e : renG s to D.L[i] = none := if_pos ⟨h1, h2⟩
            rw [e] at hnx
            simp only [Nat.add_zero] at hnx
            unfold m5_17
            refine valP_ok (add_ok _ _ _ (by omega) (by omega) _) ?_
            exact ⟨⟨i + 1, k, rfl, by omega, hnx.symm, by omega, hS.tail⟩, by simp [intOf]; omega⟩
          · have e : renG s to D.L[i] = some (renO s to D.L[i]) := if_neg (fun h => h2 h.2)
            rw [e] at hnx
            simp only at hnx
            have hcb := List.count_le_length (a := renO s to D.L[i]) (l := E.L)
            exact main _ e (fun w' hS => ⟨⟨i + 1, _, rfl, by omega, hnx.symm, by omega, hS⟩, by simp [intOf]; omega⟩) w hS
        · first | refine pick_dt (by first | assumption | omega) ?_ | refine pick_df (by first | assumption | omega) ?_ | refine pick_t (by first | rfl | assumption) ?_ | refine pick_f (by first | rfl | assumption) ?_ | refine pick_dt rfl ?_ | refine pick_df (not_not_intro rfl) ?_
          unfold m5_28
          refine cond_f rfl ?_
          have e : renG s to D.L[i] = some (renO s to D.L[i]) := if_neg (fun h => h1 h.1)
          rw [e] at hnx
          simp only at hnx
          have hcb := List.count_le_length (a := renO s to D.L[i]) (l := E.L)
          exact main _ e (fun w' hS => ⟨⟨i + 1, _, rfl, by omega, hnx.symm, by omega, hS⟩, by simp [intOf]; omega⟩) w hS
      · obtain rfl : i = D.L.length := by omega
        rw [List.take_length, tot_all hO2.up hp] at hk
        subst hk
        unfold m5_12
        refine builtin_ok (len38 _) ?_
        refine valP_ok (eq3 _ _ _ _ _) ?_
        refine cond_dt rfl ?_
        refine valP_ok (eq24 _ _ _ _ _) ?_
        refine valP_ok (ne9 _ _ _ _ _) ?_
        rw [show decide (f = 3) = decide (¬ s = to) from decide_eq_decide.2 h3]
        refine valP_ok (eq4 _ _ _ _ _) ?_
        first | refine pick_dt (by first | assumption | omega) ?_ | refine pick_df (by first | assumption | omega) ?_ | refine pick_t (by first | rfl | assumption) ?_ | refine pick_f (by first | rfl | assumption) ?_ | refine pick_dt rfl ?_ | refine pick_df (not_not_intro rfl) ?_
        refine cond_dt rfl ?_
        refine callR (by kernel_rfl) (awake_ret hS) ?_
        rintro _ w ⟨rfl, hS⟩
        first | refine pick_dt (by first | assumption | omega) ?_ | refine pick_df (by first | assumption | omega) ?_ | refine pick_t (by first | rfl | assumption) ?_ | refine pick_f (by first | rfl | assumption) ?_ | refine pick_dt rfl ?_ | refine pick_df (not_not_intro rfl) ?_
        unfold m5_13
        exact ⟨rfl, hS.below⟩
  · rw [if_neg hn] at hR
    obtain ⟨rfl, hS⟩ := hR
    unfold m5_2
    first | refine valP_ok (eq23n _ _ _) ?_ | refine valP_ok (eq23s _ _ _ _) ?_
    unfold m5_32
    refine cond_t rfl ?_
    refine callR (by kernel_rfl) (awake_ret hS) ?_
    rintro _ w ⟨rfl, hS⟩
    unfold m5_33
    exact ⟨rfl, hS.below⟩
end

end Go.Proofs.YtcldjjmfpmkldaaDoor.M
