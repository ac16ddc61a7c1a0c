/- join: an event, and all sessions that it makes one. -/
import Derived.Test.YtojgdmcojmllkaaS11
namespace Go.Proofs.Ytojgdmcojmllkaa.M
open Go.Proofs.Ytojgdmcojmllkaa.F Go.RowKit
set_option linter.unusedVariables false
set_option linter.unusedSimpArgs false
set_option maxRecDepth 100000
set_option maxHeartbeats 2000000
attribute [local irreducible] Res.cells Res.row Res.map Res.any World.cell? World.frozen? Instr.fieldAt Instr.loadAt Instr.storeAt Instr.indexAt Instr.lookup Instr.mapUpdate Instr.box Instr.build Instr.buildSlice Instr.extract Instr.alloc Instr.field Instr.index Instr.sliceAt Instr.makeSlice Instr.makeMap Instr.makeFunc binS Op.unary Sem.run
theorem filter_take {α : Type} {p : α → Bool} {l : List α} {i : Nat} (h : i < l.length) : (l.take (i + 1)).filter p = (l.take i).filter p ++ if p l[i] then [l[i]] else [] := by
  rw [List.take_succ_eq_append_getElem h, List.filter_append]
  congr 1
  by_cases hp : p l[i] <;> simp [hp]
theorem flat_take_len {α β : Type} {f : α → List β} {b : Nat} {l : List α} (h : ∀ x ∈ l, (f x).length ≤ b) : (l.flatMap f).length ≤ b * l.length := by
  induction l with
  | nil => simp
  | cons a l ih =>
    rw [List.flatMap_cons, List.length_append, List.length_cons, Nat.mul_succ]
    have := h a (.head _)
    have := ih fun x hx => h x (.tail _ hx)
    omega
def nearQ (g : Gp) (key : Int) (e : Ev) (x : Sq) : Bool := nearB g key e x.s
def nearEv (g : Gp) (key : Int) (e : Ev) (l : List Sq) : List Ev := (l.filter (nearQ g key e)).flatMap (·.s.l)
def farQ (g : Gp) (key : Int) (e : Ev) (l : List Sq) : List Sq := l.filter fun x => !nearQ g key e x
theorem far_ses (g : Gp) (key : Int) (e : Ev) (l : List Sq) : ses (farQ g key e l) = restS g (ses l) key e := by
  unfold ses farQ restS
  rw [List.filter_map]
  rfl
theorem near_ses (g : Gp) (key : Int) (e : Ev) (l : List Sq) : nearEv g key e l = ((ses l).filter (nearB g key e)).flatMap (·.l) := by
  unfold ses nearEv
  rw [List.filter_map, List.flatMap_map]
  rfl
section
variable {w0 w : World} {F : List Nat} {L : List Res} {A : Option Addr} {c : Nat} {l : List Sq} {g : Gp} {key : Int} {e : Ev} {mark late : Int}
/-- what join's last steps come to, in plain lists. -/
theorem join_eq {ol' : List Ev} {Ao : Option Addr} {co : Nat} {l' : List Sq} (hF : FlowOk g mark late (ses l)) (hp : ol'.Perm (e :: nearEv g key e l)) (hs : Srt ol') (hp2 : l'.Perm (farQ g key e l ++ [⟨⟨key, ol'⟩, Ao, co⟩])) (hs2 : (ses l').Pairwise fun x y => ¬ Bef y x) :
    (⟨key, ol'⟩ : Se) = wholeS g (ses l) key e ∧ ses l' = joinS g (ses l) key e := by
  have h1 : ol' = putsE [e] (((ses l).filter (nearB g key e)).flatMap (·.l)) := by
    refine srt_uniq hs (putsE_srt _ (List.pairwise_singleton _ _)) (hp.trans ?_)
    rw [near_ses]
    exact (putsE_perm _ [e]).symm
  have h2 : (⟨key, ol'⟩ : Se) = wholeS g (ses l) key e := by
    unfold wholeS
    rw [h1]
  refine ⟨h2, ?_⟩
  have hst : Strict (joinS g (ses l) key e) := by
    refine setS_strict ((hF.pair.imp fun h => h.1).filter _) fun a ha => ?_
    exact whole_apart hF.gok hF.pair (fun s hs => (hF.span s hs).srt) ha
  refine strict_uniq hs2 hst ?_
  have h3 := hp2.map (·.s)
  rw [List.map_append] at h3
  refine h3.trans ?_
  show (ses (farQ g key e l) ++ [(⟨key, ol'⟩ : Se)]).Perm _
  rw [far_ses, h2]
  exact (List.perm_append_comm (l₂ := [_])).trans (setS_perm _ _).symm
theorem join_ret (hF : FlowOk g mark late (ses l)) (he : 0 ≤ e.t ∧ e.t ≤ 1099511627776) (hS : St w0 F w L) (hf : BesS w0 F L A l) :
    Ret Try.prog 25 #[gv g, .slice A l.length c, .int .i64 key, ev e] w fun v w' => ∃ A' c' l' ok N, v = .tuple #[.slice A' l'.length c', .bool ok] ∧ ses l' = joinS g (ses l) key e ∧ (ok = true ↔ JoinOk g (ses l) key e) ∧ St w0 F w' (N ++ L) ∧ ∀ K, BesS w0 F K A l → BesS w0 F (N ++ K) A' l' := by
  have hpre := flow_pre.1 hF
  have hg := hF.gok
  have hmk := hF.mrk
  have hlen : l.length ≤ 64 := hpre.2.2.2.1
  have hsp := hpre.2.2.2.2
  have tb : ∀ i (h : i < l.length), TB l[i].s.l := fun i h => (hsp.span i h h).tb hmk.2
  have tbe : TB [e] := ⟨by simp, by simp, he, he⟩
  have l64 : ∀ x ∈ l, x.s.l.length ≤ 64 := fun x hx => by
    obtain ⟨i, hi, rfl⟩ := List.mem_iff_getElem.1 hx
    exact (hsp.span i hi hi).len.2
  have nlen : ∀ k, (nearEv g key e (l.take k)).length ≤ 64 * l.length := fun k => by
    refine Nat.le_trans (flat_take_len (b := 64) fun x hx => l64 x (List.mem_of_mem_take (List.mem_filter.1 hx).1)) (Nat.mul_le_mul_left _ ?_)
    refine Nat.le_trans (List.length_filter_le _ _) ?_
    rw [List.length_take]
    omega
  have flen : ∀ k, (farQ g key e (l.take k)).length ≤ 64 := fun k => by
    refine Nat.le_trans (List.length_filter_le _ _) ?_
    rw [List.length_take]
    omega
  refine s25 _ _ _ _ ?_
  unfold m25
  unfold m25_0
  refine new_ok (bx23 _ _ _) hS ?_
  intro b4 w hS
  refine new_ok (bx28 _ _ _) hS ?_
  intro b7 w hS
  unfold m25_1
  first | refine ls28 0 hS rfl ?_ | refine ls28 1 hS rfl ?_ | refine ls28 2 hS rfl ?_ | refine ls28 3 hS rfl ?_ | refine ls28 4 hS rfl ?_ | refine ls28 5 hS rfl ?_ | refine ls28 6 hS rfl ?_ | refine ls28 7 hS rfl ?_ | refine valP_ok (ld28 (by assumption) (by assumption)) ?_
  refine newslice_ok (bs31_1 _) hS ?_
  intro b16 w hS
  refine valP_ok (bd33_0_1 rfl rfl _) ?_
  refine new_ok (al33 _) hS ?_
  intro b10 w hS
  first | refine ss33 0 hS rfl rfl rfl ?_ | refine ss33 1 hS rfl rfl rfl ?_ | refine ss33 2 hS rfl rfl rfl ?_ | refine ss33 3 hS rfl rfl rfl ?_ | refine ss33 4 hS rfl rfl rfl ?_ | refine ss33 5 hS rfl rfl rfl ?_ | refine ss33 6 hS rfl rfl rfl ?_ | refine ss33 7 hS rfl rfl rfl ?_
  intro w hS
  simp only [List.set_cons_zero, List.set_cons_succ] at hS
  have hS : St w0 F w (Res.cells b10 33 [.int .i64 key, .slice (some ⟨b16, 0, none⟩) 1 1] :: erow (.slice (some ⟨b16, 0, none⟩) [e].length 1) [e] :: Res.cells b7 28 (encE e) :: gC b4 g :: L) := by
    have h := hS.as_row 1 2 1 rfl rfl (by unfold maxLen; omega)
    exact h
  unfold m25_2
  unfold m25_3
  refine builtin_ok (len24 _) ?_
  unfold m25_9
  have hS : St w0 F w (Res.cells b10 33 [.int .i64 key, .slice (some ⟨b16, 0, none⟩) (e :: nearEv g key e (l.take 0)).length 1] :: erow (.slice (some ⟨b16, 0, none⟩) (e :: nearEv g key e (l.take 0)).length 1) (e :: nearEv g key e (l.take 0)) :: srow (.slice none (farQ g key e (l.take 0)).length 0) (farQ g key e (l.take 0)) :: Res.cells b7 28 (encE e) :: gC b4 g :: L) := by
    have h := (hS.row_nil 33 2).pick 5 [1, 2, 0, 3, 4] (by simp) (by decide)
    exact h
  refine loop_in (fun u w' => ∃ (k : Nat) (Ao Ar : Option Addr) (co cr : Nat), u = (.slice Ar (farQ g key e (l.take k)).length cr, .int .i64 (k : Int)) ∧ k ≤ l.length ∧
    St w0 F w' (Res.cells b10 33 [.int .i64 key, .slice Ao (e :: nearEv g key e (l.take k)).length co] :: erow (.slice Ao (e :: nearEv g key e (l.take k)).length co) (e :: nearEv g key e (l.take k)) :: srow (.slice Ar (farQ g key e (l.take k)).length cr) (farQ g key e (l.take k)) :: Res.cells b7 28 (encE e) :: gC b4 g :: L)) (fun u _ => l.length - (intOf u.2).toNat) ⟨0, _, none, _, 0, rfl, by omega, hS⟩ ?_
  clear hS
  rintro u w ⟨k, Ao, Ar, co, cr, rfl, hk, hS⟩
  simp only
  unfold m25_10
  refine valP_ok (lss_ok _ _ _ _ _ _ _) ?_
  unfold m25_11
  have nk := nlen k
  have fk := flen k
  refine cond_split (fun h => ?_) (fun h => ?_)
  · have hlt : k < l.length := by omega
    have hfT : ∀ a b c d e', BesS w0 F (a :: b :: c :: d :: e' :: L) A l := fun a b c d e' => ((((hf.cons e').cons d).cons c).cons b).cons a
    obtain ⟨b, o, rfl⟩ := ((hfT _ _ _ _ _).row.rd hS).some_ (by omega) (by omega)
    have p := sp_at ((hfT _ _ _ _ _).row.rd hS) hlt
    have tk := tb k hlt
    have eA : ∃ b o, l[k].A = some ⟨b, o, none⟩ := (((hfT _ _ _ _ _).evs _ (List.getElem_mem hlt)).rd hS).some_ tk.pos (by omega)
    unfold m25_12
    refine valP_ok (ix24 hlt _) ?_
    refine valP_ok (ld33 p.1 p.2) ?_
    refine new_ok (al33 _) hS ?_
    intro b13 w hS
    first | refine ss33 0 hS rfl rfl rfl ?_ | refine ss33 1 hS rfl rfl rfl ?_ | refine ss33 2 hS rfl rfl rfl ?_ | refine ss33 3 hS rfl rfl rfl ?_ | refine ss33 4 hS rfl rfl rfl ?_ | refine ss33 5 hS rfl rfl rfl ?_ | refine ss33 6 hS rfl rfl rfl ?_ | refine ss33 7 hS rfl rfl rfl ?_
    intro w hS
    simp only [List.set_cons_zero, List.set_cons_succ] at hS
    unfold m25_14
    first | refine ls23 0 hS rfl ?_ | refine ls23 1 hS rfl ?_ | refine ls23 2 hS rfl ?_ | refine ls23 3 hS rfl ?_ | refine ls23 4 hS rfl ?_ | refine ls23 5 hS rfl ?_ | refine ls23 6 hS rfl ?_ | refine ls23 7 hS rfl ?_ | refine valP_ok (ld23 (by assumption) (by assumption)) ?_
    first | refine ls33 0 hS rfl ?_ | refine ls33 1 hS rfl ?_ | refine ls33 2 hS rfl ?_ | refine ls33 3 hS rfl ?_ | refine ls33 4 hS rfl ?_ | refine ls33 5 hS rfl ?_ | refine ls33 6 hS rfl ?_ | refine ls33 7 hS rfl ?_ | refine valP_ok (ld33 (by assumption) (by assumption)) ?_
    refine ls28 4 hS rfl ?_
    refine newslice_ok (bs31_1 _) hS ?_
    intro b28 w hS
    refine valP_ok (bd33_0_1 rfl rfl _) ?_
    have hfE : ∀ a b c d e' f' h', BE w0 F (a :: b :: c :: d :: e' :: f' :: h' :: L) l[k].A l[k].s.l := fun a b c d e' f' h' => (((((((hf.evs _ (List.getElem_mem hlt)).cons h').cons f').cons e').cons d).cons c).cons b).cons a
    refine callR (by kernel_rfl) (near_ret (c := l[k].c) (key := l[k].s.key) (l2 := [e]) (c2 := 1) hg tk tbe hS (hfE _ _ _ _ _ _ _) (Bes.of_cells 0 rfl rfl)) ?_
    rintro v w ⟨⟨t, rfl, ht⟩, hS⟩
    have hnq : nearQ g key e l[k] = t := by
      unfold nearQ nearB
      have ht : t = true ↔ Nea g l[k].s (alone key e) := ht
      cases t with
      | true => exact decide_eq_true (ht.1 rfl)
      | false => exact decide_eq_false fun h => by have := ht.2 h; cases this
    have hS := hS.tail
    unfold m25_15
    cases t with
    | true =>
      refine cond_t rfl ?_
      first | refine valP_ok (fa33_1 _ _) ?_ | refine valP_ok (fao33_1 _ _ _) ?_
      first | refine valP_ok (ld31 (hS.cell 0 rfl rfl)) ?_ | refine valP_ok (ld31 (hS.cell 1 rfl rfl)) ?_ | refine valP_ok (ld31 (hS.cell 2 rfl rfl)) ?_ | refine valP_ok (ld31 (hS.cell 3 rfl rfl)) ?_ | refine valP_ok (ld31 (hS.cell 4 rfl rfl)) ?_ | refine valP_ok (ld31 (hS.cell 5 rfl rfl)) ?_ | refine valP_ok (ld31 (hS.cell 6 rfl rfl)) ?_ | refine valP_ok (ld31 (hS.cell 7 rfl rfl)) ?_ | refine valP_ok (ld31 (by assumption)) ?_
      first | refine valP_ok (fa33_1 _ _) ?_ | refine valP_ok (fao33_1 _ _ _) ?_
      first | refine valP_ok (ld31 (hS.cell 0 rfl rfl)) ?_ | refine valP_ok (ld31 (hS.cell 1 rfl rfl)) ?_ | refine valP_ok (ld31 (hS.cell 2 rfl rfl)) ?_ | refine valP_ok (ld31 (hS.cell 3 rfl rfl)) ?_ | refine valP_ok (ld31 (hS.cell 4 rfl rfl)) ?_ | refine valP_ok (ld31 (hS.cell 5 rfl rfl)) ?_ | refine valP_ok (ld31 (hS.cell 6 rfl rfl)) ?_ | refine valP_ok (ld31 (hS.cell 7 rfl rfl)) ?_ | refine valP_ok (ld31 (by assumption)) ?_
      have e1 : e :: nearEv g key e (l.take (k + 1)) = (e :: nearEv g key e (l.take k)) ++ l[k].s.l := by
        unfold nearEv
        rw [filter_take hlt, hnq]
        simp
      have e2 : farQ g key e (l.take (k + 1)) = farQ g key e (l.take k) := by
        unfold farQ
        rw [filter_take hlt, hnq]
        simp
      have hr : Rd w 2 l[k].A l[k].s.l.length (l[k].s.l.flatMap encE) := (((hfT _ _ _ _ _).cons _).evs _ (List.getElem_mem hlt)).rd hS
      have n64 := l64 _ (List.getElem_mem hlt)
      refine append_anyS 2 sl31 encE_len encE_one (by simp; unfold maxLen; omega) (by simp; omega) hS rfl hr (fun h => by obtain ⟨b, o, hA⟩ := eA; rw [hA] at h; cases h) ?_
      intro A' c' w hS
      simp only [List.set_cons_zero, List.set_cons_succ] at hS
      first | refine valP_ok (fa33_1 _ _) ?_ | refine valP_ok (fao33_1 _ _ _) ?_
      first | refine store_at 0 st31 hS rfl (by simp) rfl ?_ | refine store_at 1 st31 hS rfl (by simp) rfl ?_ | refine store_at 2 st31 hS rfl (by simp) rfl ?_ | refine store_at 3 st31 hS rfl (by simp) rfl ?_ | refine store_at 4 st31 hS rfl (by simp) rfl ?_ | refine store_at 5 st31 hS rfl (by simp) rfl ?_ | refine store_at 6 st31 hS rfl (by simp) rfl ?_ | refine store_at 7 st31 hS rfl (by simp) rfl ?_
      intro w hS
      simp only [List.set_cons_zero, List.set_cons_succ] at hS
      rw [← e1] at hS
      unfold m25_13
      refine valP_ok (add_ok _ _ _ (by omega) (by omega) _) ?_
      refine ⟨⟨k + 1, A', Ar, c', cr, by rw [e2]; rfl, by omega, ?_⟩, by simp [intOf]; omega⟩
      rw [e2]
      exact hS.tail
    | false =>
      refine cond_f rfl ?_
      first | refine ls33 0 hS rfl ?_ | refine ls33 1 hS rfl ?_ | refine ls33 2 hS rfl ?_ | refine ls33 3 hS rfl ?_ | refine ls33 4 hS rfl ?_ | refine ls33 5 hS rfl ?_ | refine ls33 6 hS rfl ?_ | refine ls33 7 hS rfl ?_ | refine valP_ok (ld33 (by assumption) (by assumption)) ?_
      refine newslice_ok (bs24_1 _) hS ?_
      intro b39 w hS
      have e1 : nearEv g key e (l.take (k + 1)) = nearEv g key e (l.take k) := by
        unfold nearEv
        rw [filter_take hlt, hnq]
        simp
      have e2 : farQ g key e (l.take (k + 1)) = farQ g key e (l.take k) ++ [l[k]] := by
        unfold farQ
        rw [filter_take hlt, hnq]
        simp
      refine append_one1 3 l[k] sl24 encS_len encS_one (by unfold maxLen; omega) (by omega) hS rfl ?_
      intro A' c' w hS
      simp only [List.set_cons_zero, List.set_cons_succ] at hS
      rw [← e2] at hS ⊢
      unfold m25_13
      refine valP_ok (add_ok _ _ _ (by omega) (by omega) _) ?_
      refine ⟨⟨k + 1, Ao, A', co, c', rfl, by omega, ?_⟩, by simp [intOf]; omega⟩
      rw [e1]
      exact hS.tail
  · obtain rfl : k = l.length := by omega
    simp only [List.take_length] at hS ⊢
    rw [List.take_length] at nk fk
    unfold m25_4
    first | refine valP_ok (fa33_1 _ _) ?_ | refine valP_ok (fao33_1 _ _ _) ?_
    first | refine valP_ok (ld31 (hS.cell 0 rfl rfl)) ?_ | refine valP_ok (ld31 (hS.cell 1 rfl rfl)) ?_ | refine valP_ok (ld31 (hS.cell 2 rfl rfl)) ?_ | refine valP_ok (ld31 (hS.cell 3 rfl rfl)) ?_ | refine valP_ok (ld31 (hS.cell 4 rfl rfl)) ?_ | refine valP_ok (ld31 (hS.cell 5 rfl rfl)) ?_ | refine valP_ok (ld31 (hS.cell 6 rfl rfl)) ?_ | refine valP_ok (ld31 (hS.cell 7 rfl rfl)) ?_ | refine valP_ok (ld31 (by assumption)) ?_
    refine callR (by kernel_rfl) (esort_ret 1 (by simp; omega) hS rfl) ?_
    rintro v w ⟨ol, hp, hs, hS⟩
    simp only [List.set_cons_zero, List.set_cons_succ] at hS
    have hol : ol.length = (e :: nearEv g key e l).length := hp.length_eq
    rw [← hol] at hS
    have olen : ol.length ≤ 5000 := by rw [hol]; simp; omega
    have opos : 0 < ol.length := by rw [hol]; simp
    unfold m25_5
    first | refine ls33 0 hS rfl ?_ | refine ls33 1 hS rfl ?_ | refine ls33 2 hS rfl ?_ | refine ls33 3 hS rfl ?_ | refine ls33 4 hS rfl ?_ | refine ls33 5 hS rfl ?_ | refine ls33 6 hS rfl ?_ | refine ls33 7 hS rfl ?_ | refine valP_ok (ld33 (by assumption) (by assumption)) ?_
    refine newslice_ok (bs24_1 _) hS ?_
    intro b47 w hS
    refine append_one1 2 (⟨⟨key, ol⟩, Ao, co⟩ : Sq) sl24 encS_len encS_one (by unfold maxLen; omega) (by omega) hS rfl ?_
    intro A' c' w hS
    simp only [List.set_cons_zero, List.set_cons_succ] at hS
    have hS : St w0 F w (srow (.slice A' (farQ g key e l ++ [(⟨⟨key, ol⟩, Ao, co⟩ : Sq)]).length c') (farQ g key e l ++ [(⟨⟨key, ol⟩, Ao, co⟩ : Sq)]) :: erow (.slice Ao ol.length co) ol :: Res.cells b10 33 [.int .i64 key, .slice Ao ol.length co] :: L) := hS.pick 5 [2, 1, 0] (by simp) (by decide)
    have hbe : ∀ s ∈ farQ g key e l ++ [(⟨⟨key, ol⟩, Ao, co⟩ : Sq)], BE w0 F (erow (.slice Ao ol.length co) ol :: Res.cells b10 33 [.int .i64 key, .slice Ao ol.length co] :: L) s.A s.s.l := fun s hs => by
      rcases List.mem_append.1 hs with hs | hs
      · exact ((hf.evs s (List.mem_filter.1 hs).1).cons _).cons _
      · obtain rfl := List.mem_singleton.1 hs
        exact Bes.of_row 0 rfl
    unfold m25_6
    refine callR (by kernel_rfl) (ssort_ret (by simp; omega) (by simp) hS hbe (fun s hs => ?_)) ?_
    · rcases List.mem_append.1 hs with hs | hs
      · obtain ⟨i, hi, rfl⟩ := List.mem_iff_getElem.1 (List.mem_filter.1 hs).1
        exact (tb i hi).pos
      · obtain rfl := List.mem_singleton.1 hs
        exact opos
    rintro v w ⟨l', hp2, hs2, hS⟩
    obtain ⟨q1, q2⟩ := join_eq hF hp hs hp2 hs2
    have hl' : l'.length = (joinS g (ses l) key e).length := by rw [← q2]; simp
    have hl2 : l'.length = (farQ g key e l).length + 1 := by rw [hp2.length_eq]; simp
    have how : (wholeS g (ses l) key e).l.length = ol.length := by rw [← q1]
    have e3 : (farQ g key e l ++ [(⟨⟨key, ol⟩, Ao, co⟩ : Sq)]).length = l'.length := hp2.length_eq.symm
    rw [e3]
    have fin : ∀ w ok, (ok = true ↔ JoinOk g (ses l) key e) → St w0 F w (srow (.slice A' l'.length c') l' :: erow (.slice Ao ol.length co) ol :: Res.cells b10 33 [.int .i64 key, .slice Ao ol.length co] :: L) → ∃ A2 c2 l2 ok2 N, (Value.tuple #[.slice A' l'.length c', .bool ok]) = .tuple #[.slice A2 l2.length c2, .bool ok2] ∧ ses l2 = joinS g (ses l) key e ∧ (ok2 = true ↔ JoinOk g (ses l) key e) ∧ St w0 F w (N ++ L) ∧ ∀ K, BesS w0 F K A l → BesS w0 F (N ++ K) A2 l2 := fun w ok hok hS => by
      refine ⟨A', c', l', ok, [srow (.slice A' l'.length c') l', erow (.slice Ao ol.length co) ol], rfl, q2, hok, hS.pick 3 [0, 1] (by simp) (by decide), fun K hK => ⟨Bes.of_row 0 rfl, fun s hs => ?_, by omega, fun s hs => ?_⟩⟩
      · have hs := hp2.mem_iff.1 hs
        rcases List.mem_append.1 hs with hs | hs
        · exact ((hK.evs s (List.mem_filter.1 hs).1).cons _).cons _
        · obtain rfl := List.mem_singleton.1 hs
          exact Bes.of_row 1 rfl
      · have hs := hp2.mem_iff.1 hs
        rcases List.mem_append.1 hs with hs | hs
        · exact hf.emax s (List.mem_filter.1 hs).1
        · obtain rfl := List.mem_singleton.1 hs
          simp only
          omega
    unfold m25_7
    first | refine valP_ok (fa33_1 _ _) ?_ | refine valP_ok (fao33_1 _ _ _) ?_
    first | refine valP_ok (ld31 (hS.cell 0 rfl rfl)) ?_ | refine valP_ok (ld31 (hS.cell 1 rfl rfl)) ?_ | refine valP_ok (ld31 (hS.cell 2 rfl rfl)) ?_ | refine valP_ok (ld31 (hS.cell 3 rfl rfl)) ?_ | refine valP_ok (ld31 (hS.cell 4 rfl rfl)) ?_ | refine valP_ok (ld31 (hS.cell 5 rfl rfl)) ?_ | refine valP_ok (ld31 (hS.cell 6 rfl rfl)) ?_ | refine valP_ok (ld31 (hS.cell 7 rfl rfl)) ?_ | refine valP_ok (ld31 (by assumption)) ?_
    refine builtin_ok (len31 _) ?_
    refine valP_ok (leq_ok _ _ _ _ _ _ _) ?_
    refine cond_split (fun h1 => ?_) (fun h1 => ?_)
    · refine builtin_ok (len24 _) ?_
      refine valP_ok (leq_ok _ _ _ _ _ _ _) ?_
      first | refine pick_dt (by first | assumption | omega) ?_ | refine pick_df (by first | assumption | omega) ?_ | refine pick_t (by first | rfl | assumption) ?_ | refine pick_f (by first | rfl | assumption) ?_ | refine pick_dt rfl ?_ | refine pick_df (not_not_intro rfl) ?_
      unfold m25_8
      refine fin w _ ?_ hS
      unfold JoinOk
      rw [how, ← hl', decide_eq_true_eq]
      omega
    · first | refine pick_dt (by first | assumption | omega) ?_ | refine pick_df (by first | assumption | omega) ?_ | refine pick_t (by first | rfl | assumption) ?_ | refine pick_f (by first | rfl | assumption) ?_ | refine pick_dt rfl ?_ | refine pick_df (not_not_intro rfl) ?_
      unfold m25_8
      refine fin w _ ?_ hS
      unfold JoinOk
      rw [how]
      simp only [Bool.false_eq_true, false_iff]
      omega
end

end Go.Proofs.Ytojgdmcojmllkaa.M
